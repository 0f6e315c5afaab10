/- Merging. -/
import Derived.Test.YtdhfnobijejpcaaDoorKSt3
set_option linter.all false
open Option renaming map_some→zC
open Bool renaming false_eq_true→zF,not_true→zH,not_false→zI
open List renaming getElem?_eq_getElem→zL,getElem?_cons_zero→zM,getElem?_cons_succ→zN,drop_eq_getElem_cons→zO,drop_eq_nil_of_le→zQ,mem_cons→zS,drop_zero→zU,take_of_length_le→zV
open Int renaming natCast_nonneg→zY
namespace Go.Ev
attribute [local irreducible] P0
theorem unset_obj(u:AL)(n:Str)(hl:u.length≤1000000):P0 f_tree_Unset [.v (obj u).val,.v (.str n)] []=some ((obj (delA n u)).val,[]):=by
 have h:=unset_ok (obj u) n (by rw[al_obj];exact hl)
 rw[al_obj]at h
 rw[h]
 cases hx:lk n u with
 | some x=>rfl
 | none=>rw[del_none (pos_none.2 hx)]
theorem member_obj(u:AL)(n:Str)(hl:u.length≤1000000):P0 f_tree_Member [.v (obj u).val,.v (.str n)] []=some (memV n u,[]):=by
 have h:=member_ok (obj u) n (by rw[al_obj];exact hl)
 rw[al_obj]at h
 exact h
theorem set_obj(u:AL)(n:Str)(v:Tree)(hs:SrtA u)(hl:u.length≤1000000):P0 f_tree_Set [.v (obj u).val,.v (.str n),.v v.val] []=some ((obj (setA n v u)).val,[]):=by
 have h:=set_ok (obj u) n v (by rw[al_obj];exact hs) (by rw[al_obj];exact hl)
 rw[al_obj]at h
 exact h
theorem null_val:null.val = .agg [.int .i64 1,.bool false,.bool false,.sl [],.int .i64 0,.str [],.sl [],.sl []]:=by rw[Tree.val_eq];rfl
theorem obj_nil_val:(obj []).val = .agg [.int .i64 7,.bool false,.bool false,.sl [],.int .i64 0,.str [],.sl [],.sl []]:=by rw[obj_val];rfl
theorem ok_obj{t:Tree}(h:OkT t)(hk:t.kind=7):t=obj (al t):=by
 cases h with
 | obj l hs hl hn hv=>rw[al_obj]
 | _=>exact absurd hk (by simp[Tree.kind,Ev.null])
theorem OkT.al_ok{t:Tree}(h:OkT t) : ∀ q,q∈al t→OkT q.2:=by
 intro q hq
 cases h with
 | obj l hs hl hn hv=>rw[al_obj]at hq;exact hv q hq
 | _=>rw[al_of (by simp[Tree.kind,Ev.null])]at hq;simp at hq
theorem OkT.al_srt{t:Tree}(h:OkT t):SrtA (al t):=by
 have:=h.srt
 cases this with | mk _ h _=>exact h
theorem srt_drop{l:AL}(h:SrtA l)(i:Nat):SrtA (l.drop i):=by
 induction l generalizing i with
 | nil=>simpa using h
 | cons p r ih=>
  obtain⟨k,v⟩:=p
  obtain⟨h1,h2⟩:=srt_cons.1 h
  cases i with
  | zero=>exact h
  | succ i=>exact ih h2 i
theorem merge_ok{c1 c2:Nat}(hc:c1+c2≤10000){p:Tree}(hp:OkT p) : ∀ d t,OkT t→Bnd c1 d t→Bnd c2 d p→P0 f_merge_Merge [.v t.val,.v p.val] []=some ((mrg t p).val,[]):=by
 induction hp with
 | obj l hs hl hn hv ih=>
  intro d t hot hbt hbp
  cases hbt with
  | mk d _ t1 t2=>
  cases hbp with
  | mk _ _ p1 p2=>
  rw[obj_v,valsL_len]at p1
  have hlen:(names l).length=l.length:=names_len l
  have hlen2:(valsL l).length=l.length:=valsL_len l
  have hu0:(al t).length≤c1:=Nat.le_trans (al_len t) t1
  have ps:=hot.al_srt
  -- the loop
  have loop : ∀ k i u,i+k=l.length→SrtA u→u.length≤c1+i→(∀ n,n∈names (l.drop i)→lk n u=lk n (al t)) →
    loopL (L_merge_Merge_1 (strs (names l)) (0,l.length) (obj l).val) (vec [.int .i64 (i:Int),(obj u).val])=some (0,vec [(obj (mrgA u (names (l.drop i)) (valsL (l.drop i)))).val]):=by
   intro k
   induction k with
   | zero=>
    intro i u hi hsu hul hlk
    rw[zQ (by omega)]
    have hr:mrgA u (names []) (valsL [])=u:=by simp[names,valsL,mrgA]
    rw[hr]
    apply loopL_inr
    unfold L_merge_Merge_1
    have e:(((strs (names l)).drop (0,l.length).1).take ((0,l.length).2 - (0,l.length).1)).length=l.length:=by simp[strs_len,hlen]
    have c1 : ¬ ((i:Int)<(l.length:Int)):=by omega
    simp only[tick_eq,vec_0,vec_s,e,lss_i,c1,decide_false,some_bind,asBool_b,zF,if_false]
   | succ k ihk=>
    intro i u hi hsu hul hlk
    have hil:i<l.length:=by omega
    have hd:l.drop i=l[i]::l.drop (i+1):=zO hil
    obtain⟨⟨n,y⟩,hny⟩ : ∃ q,l[i]=q:=⟨_,rfl⟩
    rw[hny]at hd
    have hmem:(n,y)∈l:=by rw[← hny];exact List.getElem_mem _
    have hn1:(names l)[i]?=some n:=by simp[names,List.getElem?_map,zL hil,hny]
    have hy1:(valsL l)[i]?=some y:=by simp[valsL,List.getElem?_map,zL hil,hny]
    have hsd:=srt_drop hs i
    rw[hd]at hsd hlk
    obtain⟨hs1,hs2⟩:=srt_cons.1 hsd
    have hcur:lk n u=lk n (al t):=hlk n (by simp[names])
    have hne : ∀ m,m∈names (l.drop (i+1))→n≠m:=fun m hm=>lt_ne (hs1 m hm)
    have hnx : ∀ m,m∈names (l.drop (i+1))→lk m u=lk m (al t):=fun m hm=>hlk m (by simp only[names,List.map_cons,zS]at hm ⊢;exact .inr hm)
    have e0:((strs (names l)).drop (0,l.length).1).take ((0,l.length).2 - (0,l.length).1)=strs (names l):=by
     simp only[zU,Nat.sub_zero]
     exact zV (by rw[strs_len];omega)
    have cc:((i:Int)<(l.length:Int)):=by omega
    have w:=i64_succ (i:=i) (by omega)
    have hyb:Bnd c2 d y:=p2 _ (List.mem_map.2 ⟨_,hmem,rfl⟩)
    rw[hd]
    show _=some (0,vec [(obj (mrgA u (n::names (l.drop (i+1))) (y::valsL (l.drop (i+1))))).val])
    rw[mrgA]
    by_cases hk1:y.kind=1
    ·rw[if_pos hk1]
     rw[loopL_inl (a':=vec [.int .i64 ((i+1:Nat):Int),(obj (delA n u)).val])]
     ·exact ihk (i+1) _ (by omega) (srt_del hsu) (by have:=len_del n u;omega) (fun m hm=>by rw[lk_del hsu,if_neg (hne m hm)];exact hnx m hm)
     ·unfold L_merge_Merge_1
      simp only[tick_eq,vec_0,vec_s,e0,strs_len,hlen,lss_i,cc,decide_true,some_bind,asBool_b,if_true,asSl_strs,idx_nat _ i l.length hil,strs_get,hn1,zC,fld_str,fld7,asSl_trs,trs_len,obj_v,hlen2,trs_get,hy1,fld0,eql_i,hk1,unset_obj u n (by omega),okN_tree,tst_t,add_i,w]
    ·rw[if_neg hk1]
     have hwas:OkT ((lk n (al t)).getD null)∧Bnd c1 d ((lk n (al t)).getD null):=by
      cases hx:lk n (al t)with
      | none=>
       cases hyb with
       | mk d' _ _ _=>exact⟨.null,Bnd.null c1 d'⟩
      | some x=>exact⟨hot.al_ok _ (lk_mem hx),t2 _ (al_v (lk_mem hx))⟩
     have hrec:=ih _ hmem d _ hwas.1 hwas.2 hyb
     rw[hcur]
     rw[loopL_inl (a':=vec [.int .i64 ((i+1:Nat):Int),(obj (setA n (mrg ((lk n (al t)).getD null) y) u)).val])]
     ·exact ihk (i+1) _ (by omega) (srt_set hsu) (by have:=len_set n (mrg ((lk n (al t)).getD null) y) u;omega) (fun m hm=>by rw[lk_set hsu,if_neg (hne m hm)];exact hnx m hm)
     ·unfold L_merge_Merge_1
      cases hx:lk n (al t)with
      | none=>
       rw[hx]at hrec hcur
       simp only[Option.getD_none]at hrec ⊢
       have hmv:memV n u = .tup [Tree.zero.val,.bool false]:=by unfold memV;rw[hcur]
       rw[null_val]at hrec
       simp only[tick_eq,vec_0,vec_s,e0,strs_len,hlen,lss_i,cc,decide_true,some_bind,asBool_b,if_true,asSl_strs,idx_nat _ i l.length hil,strs_get,hn1,zC,fld_str,fld7,asSl_trs,trs_len,obj_v,hlen2,trs_get,hy1,fld0,eql_i,hk1,decide_false,zF,if_false,member_obj u n (by omega),hmv,ext_tup,zM,zN,okN_tree,tst_t,not_b,zI,hrec,set_obj u n _ hsu (by omega),add_i,w]
      | some x=>
       rw[hx]at hrec hcur
       simp only[Option.getD_some]at hrec ⊢
       have hmv:memV n u = .tup [x.val,.bool true]:=by unfold memV;rw[hcur]
       have hxv:=x.val_eq
       rw[hxv]at hrec
       simp only[tick_eq,vec_0,vec_s,e0,strs_len,hlen,lss_i,cc,decide_true,some_bind,asBool_b,if_true,asSl_strs,idx_nat _ i l.length hil,strs_get,hn1,zC,fld_str,fld7,asSl_trs,trs_len,obj_v,hlen2,trs_get,hy1,fld0,eql_i,hk1,decide_false,zF,if_false,member_obj u n (by omega),hmv,ext_tup,zM,zN,okN_tree,tst_t,not_b,zH,fld1,fld2,fld3,fld4,fld5,fld6,hrec,set_obj u n _ hsu (by omega),add_i,w]
  have h0:=loop l.length 0 (al t) (by omega) ps (by omega) (fun n _=>rfl)
  rw[zU,show((0:Nat):Int)=0 from rfl]at h0
  rw[mrg_obj,eq_merge_Merge]
  unfold F_merge_Merge
  have hkv:(obj l).kind=7:=rfl
  have hm:minV (.int .i64 (l.length:Int)) [.int .i64 (l.length:Int)]=some (.int .i64 (l.length:Int)):=by simp[minV]
  have hb:=bnd_to .i64 (l.length:Int) l.length ⟨zY _,by omega⟩
  rw[Int.toNat_natCast]at hb
  have hk6:(obj l).k=names l:=rfl
  by_cases hk:t.kind=7
  ·have ht:=ok_obj hot hk
   have htv:=t.val_eq
   have e9:V.agg [.int .i64 t.kind,.bool t.b,.bool t.n.neg,.sl (limbs t.n.m),.int .i64 t.n.e,.str t.s,.sl (strs t.k),.sl (trs t.v)]=(obj (al t)).val:=by rw[← t.val_eq,← ht]
   rw[hk]at e9
   simp only[tick_eq,okN_tree,tst_t,fld0,some_bind,neq_i,hkv,decide_true,zH,asBool_b,zF,if_false,hk,fld1,fld2,fld3,fld4,fld5,fld6,fld7,vec_0,vec_s,hk6,obj_v,lenV_sl,strs_len,trs_len,hlen,hlen2,hm,asSl_strs,hb,e9,h0]
  ·have ha:=al_of hk
   rw[ha]at h0 ⊢
   rw[obj_nil_val]at h0
   simp only[tick_eq,okN_tree,tst_t,fld0,some_bind,neq_i,hkv,decide_true,zH,asBool_b,zF,if_false,hk,decide_false,zI,if_true,fld6,fld7,vec_0,vec_s,hk6,obj_v,lenV_sl,strs_len,trs_len,hlen,hlen2,hm,asSl_strs,hb,h0]
 | _=>
  intro d t _ _ _
  rw[mrg_no (by simp[Tree.kind,Ev.null]),eq_merge_Merge]
  unfold F_merge_Merge
  simp only[tick_eq,okN_tree,tst_t,fld0,some_bind,neq_i,asBool_b]
  simp[Tree.kind,Ev.null]
end Go.Ev
