/- Values by numbers may be; the document's example. -/
import Derived.Test.YtdhfnobijejpcaaDoorKSv6
set_option linter.all false
namespace Go.Ev
attribute [local irreducible] P0
theorem numZ_zero:numZ .zero=true:=rfl
theorem k0_nil{t:Tree}(h:t.k=[]):k0 t=true:=by unfold k0;rw[h];rfl
theorem v0_nil{t:Tree}(h:t.v=[]):v0 t=true:=by unfold v0;rw[h];rfl
theorem textB_8{s:Str}(h:(dec8 s).isSome=true)(hl:s.length≤2000):textB s=true:=by
 unfold textB;rw[decide_eq_true hl,textU_8 h];rfl
theorem nms_of{l:List Str}(hs:Srt l)(hn : ∀ x,x∈l→(dec8 x).isSome=true∧x.length≤2000)(hl:l.length≤300):NmsP l:=
 ⟨fun k hk _=>⟨textB_8 (hn _ (List.getElem_mem hk)).1 (hn _ (List.getElem_mem hk)).2,fun h0=>srt_at hs (k - 1) k hk (by omega)⟩,hl⟩
theorem own_1{t:Tree}(h:t.kind=1):ownB t=(!t.b && numZ t.n && decide (t.s=[]) && k0 t && v0 t):=if_pos h
theorem own_2{t:Tree}(h:t.kind=2):ownB t=(true && numZ t.n && decide (t.s=[]) && k0 t && v0 t):=(if_neg (by omega)).trans (if_pos h)
theorem own_3{t:Tree}(h:t.kind=3):ownB t=(!t.b && nokB t.n && decide (t.s=[]) && k0 t && v0 t):=(if_neg (by omega)).trans ((if_neg (by omega)).trans (if_pos h))
theorem own_4{t:Tree}(h:t.kind=4):ownB t=(!t.b && numZ t.n && textB t.s && k0 t && v0 t):=(if_neg (by omega)).trans ((if_neg (by omega)).trans ((if_neg (by omega)).trans (if_pos h)))
theorem own_5{t:Tree}(h:t.kind=5):ownB t=(!t.b && numZ t.n && decide (t.s.length≤2000) && k0 t && v0 t):=(if_neg (by omega)).trans ((if_neg (by omega)).trans ((if_neg (by omega)).trans ((if_neg (by omega)).trans (if_pos h))))
theorem own_7{t:Tree}(h:t.kind=7):ownB t=(!t.b && numZ t.n && decide (t.s=[]) && (nmsB t.k && decide (t.k.length=t.v.length)) && decide (t.v.length≤300)):=(if_neg (by omega)).trans ((if_neg (by omega)).trans ((if_neg (by omega)).trans ((if_neg (by omega)).trans ((if_neg (by omega)).trans (if_pos h)))))
theorem own_6{t:Tree}(h:t.kind=6):ownB t=(!t.b && numZ t.n && decide (t.s=[]) && k0 t && decide (t.v.length≤300)):=(if_neg (by omega)).trans ((if_neg (by omega)).trans ((if_neg (by omega)).trans ((if_neg (by omega)).trans ((if_neg (by omega)).trans ((if_neg (by omega)).trans (if_pos h))))))
theorem OkT.ownB{t:Tree}(h:OkT t):ownB t=true:=by
 cases h with
 | null=>rw[own_1 rfl,k0_nil rfl,v0_nil rfl];rfl
 | bool b=>rw[own_2 rfl,k0_nil rfl,v0_nil rfl];rfl
 | num n hn=>rw[own_3 rfl,k0_nil rfl,v0_nil rfl,show nokB (Tree.mk 3 false n [] [] []).n=true from hn.nokB];rfl
 | text s hs hl=>rw[own_4 rfl,k0_nil rfl,v0_nil rfl,show textB (Tree.mk 4 false .zero s [] []).s=true from textB_8 hs hl];rfl
 | bytes s hl=>rw[own_5 rfl,k0_nil rfl,v0_nil rfl,decide_eq_true (show(Tree.mk 5 false .zero s [] []).s.length≤2000 from hl)];rfl
 | arr v hl hv=>rw[own_6 rfl,k0_nil rfl,decide_eq_true (show(Tree.mk 6 false .zero [] [] v).v.length≤300 from hl)];rfl
 | obj l hs hl hn hv=>
  have e1:nmsB (Ev.obj l).k=true:=(nmsB_iff _).2 (nms_of (l:=names l) hs hn (by rw[names_len];exact hl))
  have e2:decide ((Ev.obj l).k.length=(Ev.obj l).v.length)=true:=decide_eq_true (by show(names l).length=(valsL l).length;rw[names_len,valsL_len])
  have e3:decide ((Ev.obj l).v.length≤300)=true:=decide_eq_true (by show(valsL l).length≤300;rw[valsL_len];exact hl)
  rw[own_7 rfl,e1,e2,e3];rfl
theorem OkT.tame{t:Tree}:OkT t→TameT t:=by
 induction t using Tree.ind with
 | h t ih=>exact fun h => .mk t ⟨(nm_u32 h.num_ok).1,by have:=(nm_u32 h.num_ok).2.2;omega,by have:=h.lens.1;omega⟩ (fun x hx=>ih x hx (h.sub x hx))
end Go.Ev
