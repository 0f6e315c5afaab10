/- What is clean; sameness. -/
import Derived.Test.YtdhfnobijejpcaaDoorKSt4
set_option linter.all false
open Option renaming map_some→zC
open Bool renaming false_eq_true→zF,not_true→zH,not_false→zI,true_eq_false→zX
open List renaming getElem?_eq_getElem→zL,drop_eq_getElem_cons→zO,drop_eq_nil_of_le→zQ,drop_zero→zU
open Nat renaming le_refl→zR
open Int renaming natCast_nonneg→zY
namespace Go.Ev
attribute [local irreducible] P0
theorem idxT_loop(f:Nat)(g:Tree→Bool)(l:List Tree)(hg : ∀ x,x∈l→P0 f [.v x.val] []=some (.bool (g x),[]))(hl:l.length≤1000000)(k:Nat) : ∀ i,i+k=l.length →
  ∃ j v,loopL (L_slices_IndexFunc_aT_1 l.length (.sl (trs l)) f) (vec [.int .i64 (i:Int)])=some (j,v)∧((l.drop i).any g=true→j=1 ∧ ∃ m:Nat,v=vec [.int .i64 (m:Int)])∧((l.drop i).any g=false→j=0):=by
 induction k with
 | zero=>
  intro i hi
  refine⟨0,vec [],loopL_inr ?_,?_,fun _=>rfl⟩
  ·unfold L_slices_IndexFunc_aT_1
   have e:i=l.length:=by omega
   subst e
   simp only[tick_eq,vec_0,lss_i,Int.lt_irrefl,decide_false,some_bind,asBool_b,zF,if_false]
  ·rw[zQ (by omega)];intro h;rw[List.any_nil]at h;contradiction
 | succ k ih=>
  intro i hi
  have hlt:i<l.length:=by omega
  have c1:(i:Int)<(l.length:Int):=by omega
  have hx:l[i]?=some l[i]:=zL hlt
  have hgx:=hg l[i] (List.getElem_mem _)
  rw[zO hlt]
  cases hb:g l[i]with
  | true=>
   refine⟨1,vec [.int .i64 (i:Int)],loopL_inr ?_,fun _=>⟨rfl,i,rfl⟩,fun h=>by simp only[List.any_cons,hb,Bool.true_or]at h;contradiction⟩
   unfold L_slices_IndexFunc_aT_1
   rw[hb]at hgx
   simp only[tick_eq,vec_0,lss_i,c1,decide_true,some_bind,asBool_b,if_true,asSl_trs,trs_len,idx_nat _ i l.length hlt,trs_get,hx,zC,hgx]
  | false=>
   obtain⟨j,v,h1,h2,h3⟩:=ih (i+1) (by omega)
   refine⟨j,v,?_,fun h=>h2 (by simpa only[List.any_cons,hb,Bool.false_or]using h),fun h=>h3 (by simpa only[List.any_cons,hb,Bool.false_or]using h)⟩
   rw[← h1]
   apply loopL_inl
   unfold L_slices_IndexFunc_aT_1
   rw[hb]at hgx
   simp only[tick_eq,vec_0,lss_i,c1,decide_true,some_bind,asBool_b,if_true,asSl_trs,trs_len,idx_nat _ i l.length hlt,trs_get,hx,zC,hgx,zF,if_false,add_i,i64_succ (i:=i) (by omega)]
theorem contT_ok(f:Nat)(g:Tree→Bool)(l:List Tree)(hg : ∀ x,x∈l→P0 f [.v x.val] []=some (.bool (g x),[]))(hl:l.length≤1000000):P0 f_slices_ContainsFunc_aT [.v (.sl (trs l)),.fn f []] []=some (.bool (l.any g),[]):=by
 obtain⟨j,v,h1,h2,h3⟩:=idxT_loop f g l hg hl l.length 0 (by omega)
 rw[zU]at h2 h3
 rw[show((0:Nat):Int)=0 from rfl]at h1
 rw[eq_slices_ContainsFunc_aT];unfold F_slices_ContainsFunc_aT
 rw[eq_slices_IndexFunc_aT];unfold F_slices_IndexFunc_aT
 simp only[tick_eq,lenV_sl,some_bind,trs_len,h1]
 cases hb:l.any g with
 | true=>
  obtain⟨rfl,m,rfl⟩:=h2 hb
  have c:(0:Int)≤(m:Int):=zY m
  simp only[tick_eq,Nat.one_ne_zero,if_false,some_bind,vec_0,geq_i,c,decide_true]
 | false=>
  have:=h3 hb
  subst this
  have c : ¬ (0:Int) ≤ -1:=by decide
  simp only[tick_eq,if_true,some_bind,geq_i,c,decide_false]
theorem clnL_any(l:List Tree):clnL l = !(l.any fun x=>decide (x.kind=1) || !cln x):=by
 induction l with
 | nil=>rfl
 | cons x r ih=>
  rw[clnL,ih]
  by_cases h:x.kind=1
  ·simp[h]
  ·cases hc:cln x<;>simp[h,hc]
theorem cln_eq(t:Tree):cln t=(decide (t.kind≠7) || clnL t.v):=by
 cases t with
 | mk kind b n s k v=>
  rw[cln]
  by_cases h:kind=7
  ·simp[h,Tree.kind,Tree.v]
  ·simp[h,Tree.kind]
theorem clean_ok{c d:Nat}{t:Tree}(hc:c≤1000000)(h:Bnd c d t):P0 f_merge_Clean [.v t.val] []=some (.bool (cln t),[]):=by
 induction h with
 | mk d t hl hv ih=>
  rw[eq_merge_Clean,cln_eq];unfold F_merge_Clean
  by_cases hk:t.kind=7
  ·have hg : ∀ x,x∈t.v→P0 f_merge_Clean_1 [.v x.val] []=some (.bool (decide (x.kind=1) || !cln x),[]):=by
    intro x hx
    rw[eq_merge_Clean_1];unfold F_merge_Clean_1
    by_cases h1:x.kind=1
    ·simp only[tick_eq,okN_tree,tst_t,fld0,some_bind,eql_i,h1,decide_true,asBool_b,zX,if_false,Bool.true_or]
    ·simp only[tick_eq,okN_tree,tst_t,fld0,some_bind,eql_i,h1,decide_false,asBool_b,if_true,ih x hx,not_b,Bool.false_or]
   have:=contT_ok f_merge_Clean_1 _ t.v hg (by omega)
   simp only[tick_eq,okN_tree,tst_t,fld0,some_bind,neq_i,hk,decide_true,zH,asBool_b,if_true,fld7,this,not_b,ne_eq,not_true_eq_false,decide_false,Bool.false_or,clnL_any]
  ·simp only[tick_eq,okN_tree,tst_t,fld0,some_bind,neq_i,hk,decide_false,zI,asBool_b,zX,if_false,ne_eq,not_false_eq_true,decide_true,Bool.true_or]
/-- kinds that may be -/
theorem OkT.kind{t:Tree}(h:OkT t):t.kind=1∨t.kind=2∨t.kind=3∨t.kind=4∨t.kind=5∨t.kind=6∨t.kind=7:=by
 cases h<;>simp[Tree.kind,Ev.null,Ev.obj]
theorem subV_nm(t:Tree):subV t.val 2 3=t.n.val:=by rw[t.val_eq];rfl
theorem OkT.num_ok{t:Tree}(h:OkT t):t.n.ok:=by
 cases h<;>first | exact Nm.zero_ok | assumption
/-- what a value is, by its kind -/
theorem OkT.shape{t:Tree}(h:OkT t) :
  (t.kind=1→t=Ev.null)∧(t.kind=2→t = .mk 2 t.b .zero [] [] [])∧(t.kind=3→t = .mk 3 false t.n [] [] [])∧(t.kind=4→t = .mk 4 false .zero t.s [] [])∧(t.kind=5→t = .mk 5 false .zero t.s [] []) ∧
  (t.kind=6→t = .mk 6 false .zero [] [] t.v)∧(t.kind=7→t = .mk 7 false .zero [] t.k t.v):=by
 cases h<;>simp[Tree.kind,Ev.null,Ev.obj,Tree.b,Tree.n,Tree.s,Tree.v,Tree.k]
theorem OkT.lens{t:Tree}(h:OkT t):t.k.length≤300∧t.v.length≤300∧(t.kind≠7→t.k=[])∧(t.kind≠6→t.kind≠7→t.v=[])∧(t.kind=7→t.k.length=t.v.length):=by
 cases h with
 | arr v hl hv=>exact⟨by simp[Tree.k],hl,fun _=>rfl,fun h=>absurd rfl h,fun h=>by simp[Tree.kind]at h⟩
 | obj l hs hl hn hv=>exact⟨by show(names l).length≤300;rw[names_len];exact hl,by show(valsL l).length≤300;rw[valsL_len];exact hl,fun h=>absurd rfl h,fun _ h=>absurd rfl h,fun _=>by show(names l).length=(valsL l).length;rw[names_len,valsL_len]⟩
 | _=>refine⟨by simp[Tree.k,Ev.null],by simp[Tree.v,Ev.null],fun _=>rfl,fun _ _=>rfl,fun h=>by simp[Tree.kind,Ev.null]at h⟩
theorem OkT.sub{t:Tree}(h:OkT t) : ∀ x,x∈t.v→OkT x:=by
 cases h with
 | arr v hl hv=>exact hv
 | obj l hs hl hn hv=>
  intro x hx
  obtain⟨q,hq,rfl⟩:=List.mem_map.1 (show x∈valsL l from hx)
  exact hv q hq
 | _=>intro x hx;simp[Tree.v,Ev.null]at hx
/-- trees by induction -/
theorem Tree.ind{Q:Tree→Prop}(h : ∀ t,(∀ x,x∈t.v→Q x)→Q t)(t:Tree):Q t:=by
 have key : ∀ n,∀ t,nodes t≤n→Q t:=by
  intro n
  induction n with
  | zero=>intro t ht;rw[nodes_eq]at ht;omega
  | succ n ih=>
   intro t ht
   refine h t (fun x hx=>ih x ?_)
   have:nodes x≤nodesL t.v:=by
    have : ∀ l:List Tree,x∈l→nodes x≤nodesL l:=by
     intro l
     induction l with
     | nil=>intro h;simp at h
     | cons y r ih2=>
      intro h
      simp only[nodesL]
      rcases List.mem_cons.1 h with rfl | h
      ·omega
      ·have:=ih2 h;omega
    exact this _ hx
   rw[nodes_eq]at ht;omega
 exact key _ t (zR _)
end Go.Ev
