/- What is the same as itself; members taken away, by the reference. -/
import Derived.Test.YtdhfnobijejpcaaDoorKSw7
set_option linter.all false
open Option renaming map_some→zC
open Bool renaming false_eq_true→zF,not_true→zH,not_false→zI
open List renaming getElem?_eq_getElem→zL,getElem?_cons_zero→zM,getElem?_cons_succ→zN,drop_eq_getElem_cons→zO,drop_eq_nil_of_le→zQ,drop_zero→zU
namespace Go.Ev
attribute [local irreducible] P0
inductive SizT:Tree→Prop
 | mk (t:Tree) (h1:U32 t.n.m) (h2:t.n.m.length≤1000) (h3:t.k.length≤1000000) (h4:t.v.length≤1000000) (hv : ∀ x,x∈t.v→SizT x):SizT t
theorem slimbs_loop(l:List Nat)(hl:l.length≤1000000)(m:Nat) : ∀ i,i+m=l.length →
  loopL (L_law00_SameLimbs_1 (.sl (limbs l)) (.sl (limbs l))) (vec [.int .i64 (i:Int)])=some (0,vec []):=by
 induction m with
 | zero=>
  intro i hi
  apply loopL_inr
  unfold L_law00_SameLimbs_1
  have c1 : ¬ (i:Int)<(l.length:Int):=by omega
  simp only[tick_eq,vec_0,lenV_sl,limbs_len,some_bind,lss_i,c1,decide_false,asBool_b,zF,if_false]
 | succ m ih=>
  intro i hi
  have h1:i<l.length:=by omega
  have c1:(i:Int)<(l.length:Int):=by omega
  have hx:l[i]?=some l[i]:=zL h1
  rw[← ih (i+1) (by omega)]
  apply loopL_inl
  unfold L_law00_SameLimbs_1
  simp only[tick_eq,vec_0,lenV_sl,limbs_len,some_bind,lss_i,c1,decide_true,asBool_b,if_true,asSl_limbs,idx_nat _ i l.length h1,limbs_get,hx,zC,fld_int,neq_i,zH,zF,if_false,add_i,i64_succ (i:=i) (by omega)]
theorem slimbs_ok(l:List Nat)(hl:l.length≤1000000):P0 f_law00_SameLimbs [.v (.sl (limbs l)),.v (.sl (limbs l))] []=some (.bool true,[]):=by
 rw[eq_law00_SameLimbs];unfold F_law00_SameLimbs
 have h:=slimbs_loop l hl l.length 0 (by omega)
 rw[show((0:Nat):Int)=0 from rfl]at h
 simp only[tick_eq,lenV_sl,limbs_len,some_bind,bne_self_eq_false,zF,if_false,h,if_true]
theorem sstrs_loop(l:List Str)(hl:l.length≤1000000)(m:Nat) : ∀ i,i+m=l.length →
  loopL (L_law00_SameStrings_1 (.sl (strs l)) (.sl (strs l))) (vec [.int .i64 (i:Int)])=some (0,vec []):=by
 induction m with
 | zero=>
  intro i hi
  apply loopL_inr
  unfold L_law00_SameStrings_1
  have c1 : ¬ (i:Int)<(l.length:Int):=by omega
  simp only[tick_eq,vec_0,lenV_sl,strs_len,some_bind,lss_i,c1,decide_false,asBool_b,zF,if_false]
 | succ m ih=>
  intro i hi
  have h1:i<l.length:=by omega
  have c1:(i:Int)<(l.length:Int):=by omega
  have hx:l[i]?=some l[i]:=zL h1
  rw[← ih (i+1) (by omega)]
  apply loopL_inl
  unfold L_law00_SameStrings_1
  simp only[tick_eq,vec_0,lenV_sl,strs_len,some_bind,lss_i,c1,decide_true,asBool_b,if_true,asSl_strs,idx_nat _ i l.length h1,strs_get,hx,zC,fld_str,neq_s,beq_self_eq_true,zH,zF,if_false,add_i,i64_succ (i:=i) (by omega)]
theorem sstrs_ok(l:List Str)(hl:l.length≤1000000):P0 f_law00_SameStrings [.v (.sl (strs l)),.v (.sl (strs l))] []=some (.bool true,[]):=by
 rw[eq_law00_SameStrings];unfold F_law00_SameStrings
 have h:=sstrs_loop l hl l.length 0 (by omega)
 rw[show((0:Nat):Int)=0 from rfl]at h
 simp only[tick_eq,lenV_sl,strs_len,some_bind,bne_self_eq_false,zF,if_false,h,if_true]
theorem snum_ok(n:Nm)(hl:n.m.length≤1000000):P0 f_law00_SameNum [.v n.val,.v n.val] []=some (.bool true,[]):=by
 rw[eq_law00_SameNum];unfold F_law00_SameNum
 simp only[tick_eq,okN_nm,tst_t,fld_nm0,fld_nm1,fld_nm2,some_bind,asBool_b,beq_self_eq_true,if_true,eql_i,decide_true,slimbs_ok n.m hl]
theorem stree_loop(t:Tree)(hl:t.v.length≤1000000)(hs : ∀ x,x∈t.v→P0 f_law00_SameTree [.v x.val,.v x.val] []=some (.bool true,[]))(m:Nat) : ∀ i,i+m=t.v.length →
  loopL (L_law00_SameTree_1 t.val t.val) (vec [.int .i64 (i:Int)])=some (0,vec []):=by
 induction m with
 | zero=>
  intro i hi
  apply loopL_inr
  unfold L_law00_SameTree_1
  have c1 : ¬ (i:Int)<(t.v.length:Int):=by omega
  simp only[tick_eq,vec_0,fld7,lenV_sl,trs_len,some_bind,lss_i,c1,decide_false,asBool_b,zF,if_false]
 | succ m ih=>
  intro i hi
  have h1:i<t.v.length:=by omega
  have c1:(i:Int)<(t.v.length:Int):=by omega
  have hx:t.v[i]?=some t.v[i]:=zL h1
  rw[← ih (i+1) (by omega)]
  apply loopL_inl
  unfold L_law00_SameTree_1
  simp only[tick_eq,vec_0,fld7,lenV_sl,trs_len,some_bind,lss_i,c1,decide_true,asBool_b,if_true,asSl_trs,idx_nat _ i t.v.length h1,trs_get,hx,zC,hs _ (List.getElem_mem h1),not_b,zH,zF,if_false,add_i,i64_succ (i:=i) (by omega)]
theorem stree_ok : ∀ t,SizT t→P0 f_law00_SameTree [.v t.val,.v t.val] []=some (.bool true,[]):=by
 intro t
 induction t using Tree.ind with
 | h t ih=>
 intro h
 cases h with
 | mk _ h1 h2 h3 h4 hv=>
 have hloop:=stree_loop t h4 (fun x hx=>ih x hx (hv x hx)) t.v.length 0 (by omega)
 rw[show((0:Nat):Int)=0 from rfl]at hloop
 rw[eq_law00_SameTree];unfold F_law00_SameTree
 simp only[tick_eq,okN_tree,tst_t,fld0,fld1,fld5,fld6,fld7,some_bind,neq_i,neq_s,decide_true,zH,asBool_b,if_true,beq_self_eq_true,subV_nm,snum_ok t.n (by omega),not_b,sstrs_ok t.k (by omega),lenV_sl,bne_self_eq_false,zF,if_false,hloop]
theorem ris_all(n:Nm)(hu:U32 n.m)(hl:n.m.length≤1000000):P0 f_ref02_Is [.v n.val] []=some ((if nokB n=true then n else Nm.zero).val,[]):=by
 rw[eq_ref02_Is];unfold F_ref02_Is
 cases h:nokB n with
 | true=>simp only[tick_eq,okN_nm,tst_t,rcheck_all n hu (by omega),h,some_bind,asBool_b,if_true]
 | false=>
  simp only[tick_eq,okN_nm,tst_t,rcheck_all n hu (by omega),h,some_bind,asBool_b,zF,if_false]
  rfl
theorem rsame_num(n:Nm)(hu:U32 n.m)(hl:n.m.length≤1000000):P0 f_ref02_Same [.v n.val,.v n.val] []=some (.bool true,[]):=by
 rw[eq_ref02_Same];unfold F_ref02_Same
 rw[ris_all n hu hl]
 generalize hq:(if nokB n=true then n else Nm.zero)=q
 have hq1:U32 q.m∧q.m.length≤1000000:=by
  rw[← hq];split
  ·exact⟨hu,hl⟩
  ·exact⟨fun x hx=>by simp[Nm.zero]at hx,by simp[Nm.zero]⟩
 have hc:=cmp_ok q.m q.m hq1.2 hq1.2 hq1.1 hq1.1
 rw[(cmpL_zero q.m q.m _).2 (fun i _=>rfl)]at hc
 simp only[tick_eq,okN_nm,tst_t,some_bind,fld_nm0,fld_nm1,fld_nm2,asBool_b,beq_self_eq_true,if_true,eql_i,decide_true,hc]
theorem rsame1_loop(t:Tree)(hl:t.k.length≤1000000)(m:Nat) : ∀ i,i+m=t.k.length →
  loopL (L_ref05_Same_1 t.val t.val) (vec [.int .i64 (i:Int)])=some (0,vec []):=by
 induction m with
 | zero=>
  intro i hi
  apply loopL_inr
  unfold L_ref05_Same_1
  have c1 : ¬ (i:Int)<(t.k.length:Int):=by omega
  simp only[tick_eq,vec_0,fld6,lenV_sl,strs_len,some_bind,lss_i,c1,decide_false,asBool_b,zF,if_false]
 | succ m ih=>
  intro i hi
  have h1:i<t.k.length:=by omega
  have c1:(i:Int)<(t.k.length:Int):=by omega
  have hx:t.k[i]?=some t.k[i]:=zL h1
  by_cases hk:t.kind=7
  ·rw[← ih (i+1) (by omega)]
   apply loopL_inl
   unfold L_ref05_Same_1
   simp only[tick_eq,vec_0,fld0,fld6,lenV_sl,strs_len,some_bind,lss_i,c1,decide_true,asBool_b,if_true,eql_i,hk,asSl_strs,idx_nat _ i t.k.length h1,strs_get,hx,zC,fld_str,neq_s,beq_self_eq_true,zH,zF,if_false,add_i,i64_succ (i:=i) (by omega)]
  ·apply loopL_inr
   unfold L_ref05_Same_1
   simp only[tick_eq,vec_0,fld0,fld6,lenV_sl,strs_len,some_bind,lss_i,c1,decide_true,asBool_b,if_true,eql_i,hk,decide_false,zF,if_false]
theorem rsame2_loop(t:Tree)(hl:t.v.length≤1000000)(hs : ∀ x,x∈t.v→P0 f_ref05_Same [.v x.val,.v x.val] []=some (.bool true,[]))(m:Nat) : ∀ i,i+m=t.v.length →
  loopL (L_ref05_Same_2 t.val t.val) (vec [.int .i64 (i:Int)])=some (0,vec []):=by
 induction m with
 | zero=>
  intro i hi
  apply loopL_inr
  unfold L_ref05_Same_2
  have c1 : ¬ (i:Int)<(t.v.length:Int):=by omega
  simp only[tick_eq,vec_0,fld7,lenV_sl,trs_len,some_bind,lss_i,c1,decide_false,asBool_b,zF,if_false]
 | succ m ih=>
  intro i hi
  have h1:i<t.v.length:=by omega
  have c1:(i:Int)<(t.v.length:Int):=by omega
  have hx:t.v[i]?=some t.v[i]:=zL h1
  rw[← ih (i+1) (by omega)]
  apply loopL_inl
  unfold L_ref05_Same_2
  simp only[tick_eq,vec_0,fld7,lenV_sl,trs_len,some_bind,lss_i,c1,decide_true,asBool_b,if_true,asSl_trs,idx_nat _ i t.v.length h1,trs_get,hx,zC,hs _ (List.getElem_mem h1),not_b,zH,zF,if_false,add_i,i64_succ (i:=i) (by omega)]
theorem rsame_self : ∀ t,SizT t→P0 f_ref05_Same [.v t.val,.v t.val] []=some (.bool true,[]):=by
 intro t
 induction t using Tree.ind with
 | h t ih=>
 intro h
 cases h with
 | mk _ h1 h2 h3 h4 hv=>
 have e1:=rsame1_loop t h3 t.k.length 0 (by omega)
 have e2:=rsame2_loop t h4 (fun x hx=>ih x hx (hv x hx)) t.v.length 0 (by omega)
 rw[show((0:Nat):Int)=0 from rfl]at e1 e2
 rw[eq_ref05_Same];unfold F_ref05_Same
 by_cases k2:t.kind=2
 ·simp only[tick_eq,okN_tree,tst_t,fld0,fld1,some_bind,neq_i,eql_i,k2,decide_true,zH,asBool_b,zF,if_false,if_true,beq_self_eq_true]
 by_cases k3:t.kind=3
 ·simp only[tick_eq,okN_tree,tst_t,fld0,some_bind,neq_i,eql_i,k3,Int.reduceEq,decide_false,decide_true,zH,asBool_b,zF,if_false,if_true,subV_nm,rsame_num t.n h1 (by omega)]
 by_cases k4:t.kind=4
 ·simp only[tick_eq,okN_tree,tst_t,fld0,fld5,some_bind,neq_i,eql_i,k4,Int.reduceEq,decide_false,decide_true,zH,asBool_b,zF,if_false,if_true,vec_0,eql_s,beq_self_eq_true]
 by_cases k5:t.kind=5
 ·simp only[tick_eq,okN_tree,tst_t,fld0,fld5,some_bind,neq_i,eql_i,k5,Int.reduceEq,decide_false,decide_true,zH,asBool_b,zF,if_false,if_true,vec_0,eql_s,beq_self_eq_true]
 by_cases k6:t.kind=6
 ·simp only[tick_eq,okN_tree,tst_t,fld0,fld7,some_bind,neq_i,eql_i,k6,Int.reduceEq,decide_false,decide_true,zH,asBool_b,zF,if_false,if_true,vec_0,lenV_sl,bne_self_eq_false,e1,e2]
 by_cases k7:t.kind=7
 ·simp only[tick_eq,okN_tree,tst_t,fld0,fld6,fld7,some_bind,neq_i,eql_i,k7,Int.reduceEq,decide_false,decide_true,zH,asBool_b,zF,if_false,if_true,vec_0,lenV_sl,bne_self_eq_false,e1,e2]
 ·simp only[tick_eq,okN_tree,tst_t,fld0,some_bind,neq_i,eql_i,k2,k3,k4,k5,k6,k7,decide_false,decide_true,zH,asBool_b,zF,if_false,vec_0]
def rdel(n:Str):Bool→AL→AL
 | _,[]=>[]
 | d,(k,w)::r=>if d=false∧k=n then rdel n true r else(k,w)::rdel n d r
theorem rdel_true(n:Str)(l:AL):rdel n true l=l:=by
 induction l with
 | nil=>rfl
 | cons p r ih=>obtain⟨k,w⟩:=p;simp[rdel,ih]
theorem rdel_eq(n:Str)(l:AL):rdel n false l=delA n l:=by
 induction l with
 | nil=>rfl
 | cons p r ih=>obtain⟨k,w⟩:=p;simp only[rdel,delA,true_and,rdel_true];rw[show rdel n false r=delA n r from ih]
theorem runset_loop(t:Tree)(n:Str)(hk:t.kind=7)(hkl:t.k.length≤1000000)(hl:(al t).length≤1000000)(k:Nat) : ∀ (i:Nat) (d:Bool) (ks:List Str) (vs:List Tree),i+k=(al t).length→ks.length≤2 * i→vs.length≤2 * i →
  loopL (L_ref05_Unset_1 t.val (.str n)) (vec [.bool d,.int .i64 (i:Int),.int .i64 7,.bool false,.bool false,.sl [],.int .i64 0,.str [],.sl (strs ks),.sl (trs vs)]) =
   some (0,vec [.int .i64 7,.bool false,.bool false,.sl [],.int .i64 0,.str [],.sl (strs (ks++names (rdel n d ((al t).drop i)))),.sl (trs (vs++valsL (rdel n d ((al t).drop i))))]):=by
 have hal:al t=t.k.zip t.v:=if_pos hk
 have hll:(al t).length=min t.k.length t.v.length:=by rw[hal,List.length_zip]
 induction k with
 | zero=>
  intro i d ks vs hi hks hvs
  rw[zQ (by omega)]
  apply loopL_inr
  unfold L_ref05_Unset_1
  simp only[rdel,names,valsL,List.map_nil,List.append_nil]
  by_cases h1:i<t.k.length
  ·have c1:(i:Int)<(t.k.length:Int):=by omega
   have c2 : ¬ (i:Int)<(t.v.length:Int):=by omega
   simp only[tick_eq,fld6,fld7,some_bind,lenV_sl,strs_len,trs_len,vec_0,vec_s,lss_i,c1,c2,decide_true,decide_false,asBool_b,if_true,zF,if_false,elems_sl]
  ·have c1 : ¬ (i:Int)<(t.k.length:Int):=by omega
   simp only[tick_eq,fld6,some_bind,lenV_sl,strs_len,vec_0,vec_s,lss_i,c1,decide_false,asBool_b,zF,if_false,elems_sl]
 | succ k ih=>
  intro i d ks vs hi hks hvs
  have h1:i<t.k.length:=by omega
  have h2:i<t.v.length:=by omega
  have c1:(i:Int)<(t.k.length:Int):=by omega
  have c2:(i:Int)<(t.v.length:Int):=by omega
  have hx:t.k[i]?=some t.k[i]:=zL h1
  have hy:t.v[i]?=some t.v[i]:=zL h2
  have hi':i<(al t).length:=by omega
  have hz:(al t)[i]=(t.k[i],t.v[i]):=by simp[hal]
  rw[zO hi',hz]
  generalize hkk:t.k[i]=kk at *
  generalize hww:t.v[i]=ww at *
  have w:=i64_succ (i:=i) (by omega)
  simp only[rdel]
  by_cases q1:d=false∧kk=n
  ·rw[if_pos q1]
   obtain⟨rfl,rfl⟩:=q1
   have:=ih (i+1) true ks vs (by omega) (by omega) (by omega)
   rw[← this]
   apply loopL_inl
   unfold L_ref05_Unset_1
   simp only[tick_eq,fld6,fld7,some_bind,lenV_sl,strs_len,trs_len,vec_0,vec_s,lss_i,c1,c2,decide_true,asBool_b,if_true,not_b,zI,asSl_strs,idx_nat _ i t.k.length h1,strs_get,hx,zC,fld_str,eql_s,beq_self_eq_true,elems_sl,add_i,w]
  ·rw[if_neg q1]
   have:=ih (i+1) d (ks++[kk]) (vs++[ww]) (by omega) (by simp;omega) (by simp;omega)
   simp only[names,valsL,List.map_cons,List.append_assoc,List.singleton_append]at this ⊢
   rw[← this]
   apply loopL_inl
   unfold L_ref05_Unset_1
   cases d with
   | true=>
    simp only[tick_eq,fld6,fld7,some_bind,lenV_sl,strs_len,trs_len,vec_0,vec_s,lss_i,c1,c2,decide_true,asBool_b,if_true,not_b,zH,zF,if_false,asSl_strs,asSl_trs,idx_nat _ i t.k.length h1,idx_nat _ i t.v.length h2,strs_get,trs_get,hx,hy,zC,fld_str,okN_str,tst_t,szOk_1,elems_sl,len1,app_ok 16 ks.length 1 (by omega) (by omega),okN_tree,szOk_8,app_ok 120 vs.length 1 (by omega) (by omega),add_i,w,strs_1,trs_1]
   | false=>
    have hne:(kk == n)=false:=by simpa using fun e=>q1 ⟨rfl,e⟩
    simp only[tick_eq,fld6,fld7,some_bind,lenV_sl,strs_len,trs_len,vec_0,vec_s,lss_i,c1,c2,decide_true,asBool_b,if_true,not_b,zI,zF,if_false,asSl_strs,asSl_trs,idx_nat _ i t.k.length h1,idx_nat _ i t.v.length h2,strs_get,trs_get,hx,hy,zC,fld_str,eql_s,hne,okN_str,tst_t,szOk_1,elems_sl,len1,app_ok 16 ks.length 1 (by omega) (by omega),okN_tree,szOk_8,app_ok 120 vs.length 1 (by omega) (by omega),add_i,w,strs_1,trs_1]
theorem runset_obj(u:AL)(n:Str)(hl:u.length≤1000000):P0 f_ref05_Unset [.v (obj u).val,.v (.str n)] []=some ((obj (delA n u)).val,[]):=by
 have hm:=rmember_ok (obj u) n (by show(names u).length≤_;rw[names_len];exact hl) (by rw[al_obj];exact hl)
 rw[al_obj]at hm
 rw[eq_ref05_Unset];unfold F_ref05_Unset
 cases hx:lk n u with
 | none=>
  have hmv:memV n u = .tup [Tree.zero.val,.bool false]:=by unfold memV;rw[hx]
  rw[del_none (pos_none.2 hx)]
  simp only[tick_eq,okN_tree,tst_t,hm,some_bind,hmv,ext_tup,zM,zN,not_b,zI,asBool_b,if_true]
 | some x=>
  have hmv:memV n u = .tup [x.val,.bool true]:=by unfold memV;rw[hx]
  have h:=runset_loop (obj u) n rfl (by show(names u).length≤_;rw[names_len];exact hl) (by rw[al_obj];exact hl) (al (obj u)).length 0 false [] [] (by omega) (by simp) (by simp)
  rw[al_obj,zU,show((0:Nat):Int)=0 from rfl,rdel_eq]at h
  have h:loopL (L_ref05_Unset_1 (obj u).val (.str n)) (vec [.bool false,.int .i64 0,.int .i64 7,.bool false,.bool false,.sl [],.int .i64 0,.str [],.sl [],.sl []])=some (0,vec [.int .i64 7,.bool false,.bool false,.sl [],.int .i64 0,.str [],.sl (strs (names (delA n u))),.sl (trs (valsL (delA n u)))]):=h
  simp only[tick_eq,okN_tree,tst_t,hm,some_bind,hmv,ext_tup,zM,zN,not_b,zH,asBool_b,zF,if_false,h,vec_0,vec_s,elems_sl]
  rw[obj_val]
end Go.Ev
