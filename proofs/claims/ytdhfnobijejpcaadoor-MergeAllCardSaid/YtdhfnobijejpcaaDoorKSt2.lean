/- Trees: with a member, without one. -/
import Derived.Test.YtdhfnobijejpcaaDoorKSt1
set_option linter.all false
open Option renaming map_eq_some_iff→zB,map_some→zC
open Bool renaming false_eq_true→zF,and_eq_true→zG
open List renaming getElem?_eq_getElem→zL,getElem?_cons_zero→zM,getElem?_cons_succ→zN,drop_eq_getElem_cons→zO,drop_zero→zU,take_of_length_le→zV
open Nat renaming le_refl→zR
open Int renaming natCast_nonneg→zY
namespace Go.Ev
attribute [local irreducible] P0
theorem gtr_lt(a b:Str):(!(Op.bytesLess a b || a == b))=lt b a:=by
 by_cases h:a=b
 ·subst h;rw[lt_irrefl];simp
 ·have hb:(a == b)=false:=by simpa using h
  rw[hb,Bool.or_false]
  cases h1:Op.bytesLess a b with
  | true=>rw[lt_asymm h1];rfl
  | false=>rw[lt_total h h1];rfl
/-- the first place of a greater name -/
def posG(n:Str):List Str→Option Nat
 | []=>none
 | x::r=>if lt n x=true then some 0 else(posG n r).map (· + 1)
theorem posG_lt{s:Str}{l:List Str}{i:Nat}(h:posG s l=some i):i<l.length:=by
 induction l generalizing i with
 | nil=>simp[posG]at h
 | cons x r ih=>
  simp only[posG]at h
  split at h
  ·injection h with h;subst h;simp
  ·rw[zB]at h
   obtain⟨j,hj,rfl⟩:=h
   have:=ih hj;simp;omega
theorem gt_ok(a b:Str):P0 f_tree_Set_1 [.v (.str a),.p 0 0] [(true,1,.str b)]=some (.bool (lt b a),[.str b]):=by
 rw[eq_tree_Set_1];unfold F_tree_Set_1
 simp only[tick_eq,gtr_s,some_bind,gtr_lt]
theorem indexF_loop(l:List Str)(s:Str)(hl:l.length≤1000000)(k:Nat) : ∀ i,i+k=l.length →
  loopL (L_slices_IndexFunc_string_1 l.length (.sl (strs l)) f_tree_Set_1 (.str s)) (vec [.int .i64 (i:Int)])=match posG s (l.drop i)with | some j=>some (1,vec [.int .i64 ((i+j:Nat):Int)]) | none=>some (0,vec []):=by
 induction k with
 | zero=>
  intro i hi
  have e:i=l.length:=by omega
  subst e
  rw[List.drop_length]
  apply loopL_inr
  unfold L_slices_IndexFunc_string_1
  simp only[tick_eq,vec_0,lss_i,Int.lt_irrefl,decide_false,some_bind,asBool_b,zF,if_false]
 | succ k ih=>
  intro i hi
  have hlt:i<l.length:=by omega
  have c1:(i:Int)<(l.length:Int):=by omega
  have hx:l[i]?=some l[i]:=zL hlt
  rw[zO hlt]
  simp only[posG]
  by_cases he:lt s l[i]=true
  ·rw[if_pos he]
   apply loopL_inr
   unfold L_slices_IndexFunc_string_1
   simp only[tick_eq,vec_0,lss_i,c1,decide_true,some_bind,asBool_b,if_true,asSl_strs,strs_len,idx_nat _ i l.length hlt,strs_get,hx,zC,fld_str,gt_ok,he,Nat.add_zero]
  ·rw[if_neg he]
   have he:lt s l[i]=false:=by simpa using he
   rw[loopL_inl (a':=vec [.int .i64 ((i+1:Nat):Int)])]
   ·rw[ih (i+1) (by omega)]
    cases posG s (l.drop (i+1))with
    | none=>rfl
    | some j=>simp only[zC];rw[show i+1+j=i+(j+1) by omega]
   ·unfold L_slices_IndexFunc_string_1
    simp only[tick_eq,vec_0,lss_i,c1,decide_true,some_bind,asBool_b,if_true,asSl_strs,strs_len,idx_nat _ i l.length hlt,strs_get,hx,zC,fld_str,gt_ok,he,zF,if_false,add_i,i64_succ (i:=i) (by omega)]
theorem indexF_ok(l:List Str)(s:Str)(hl:l.length≤1000000):P0 f_slices_IndexFunc_string [.v (.sl (strs l)),.fn f_tree_Set_1 [.p 0 0]] [(false,1,.str s)]=some (.int .i64 (match posG s l with | some i=>(i:Int) | none => -1),[.str s]):=by
 rw[eq_slices_IndexFunc_string];unfold F_slices_IndexFunc_string
 have h:=indexF_loop l s hl l.length 0 (by omega)
 rw[zU,show((0:Nat):Int)=0 from rfl]at h
 simp only[tick_eq,lenV_sl,some_bind,strs_len,h]
 cases posG s l with
 | none=>rfl
 | some i=>simp only[some_bind,Nat.zero_add];rfl
theorem ins_str(l:List Str)(i:Nat)(n:Str)(hi:i≤l.length)(hl:l.length≤1000000):P0 f_slices_Insert_string [.u,.v (.sl (strs l)),.v (.int .i64 (i:Int)),.v (.sl [.str n])] []=some (.sl (strs (l.take i++n::l.drop i)),[]):=by
 rw[tell_slices_Insert_string]
 have hk:insOk 16 (strs l).length [V.str n].length (i:Int)=true:=by
  simp only[insOk,strs_len,List.length_singleton,zG,decide_eq_true_eq];omega
 have h1:szOk 1 [V.str n]=true:=rfl
 simp only[tellK,extK,valsA,txInsert,szOk_strs,h1,hk,Bool.and_self,tst_t,some_bind,Int.toNat_natCast,strs_take,strs_drop]
 simp[strs]
theorem ins_tr(l:List Tree)(i:Nat)(x:Tree)(hi:i≤l.length)(hl:l.length≤1000000):P0 f_slices_Insert_aT [.u,.v (.sl (trs l)),.v (.int .i64 (i:Int)),.v (.sl [x.val])] []=some (.sl (trs (l.take i++x::l.drop i)),[]):=by
 rw[tell_slices_Insert_aT]
 have hk:insOk 120 (trs l).length [x.val].length (i:Int)=true:=by
  simp only[insOk,trs_len,List.length_singleton,zG,decide_eq_true_eq];omega
 have h1:szOk 8 [x.val]=true:=by simp[szOk,okN_tree]
 simp only[tellK,extK,valsA,txInsert,szOk_trs,h1,hk,Bool.and_self,tst_t,some_bind,Int.toNat_natCast,trs_take,trs_drop]
 simp[trs]
theorem obj_val(l:AL):(obj l).val = .agg [.int .i64 7,.bool false,.bool false,.sl [],.int .i64 0,.str [],.sl (strs (names l)),.sl (trs (valsL l))]:=by rw[Tree.val_eq];rfl
theorem setL_all{α:Type}(l:List α)(z:α):((setL (List.replicate l.length z) 0 (l.take (Nat.min l.length l.length))).drop 0).take l.length=l:=by
 have:Nat.min l.length l.length=l.length:=Nat.min_self _
 rw[this,zV (zR _),zU]
 simp[setL]
theorem set_found{n:Str}{v:Tree}{l:AL}{i:Nat}(hs:SrtA l)(h:pos n (names l)=some i):names (setA n v l)=names l∧valsL (setA n v l)=(valsL l).set i v:=by
 induction l generalizing i with
 | nil=>simp[names,pos]at h
 | cons p r ih=>
  obtain⟨k,w⟩:=p
  obtain⟨h1,h2⟩:=srt_cons.1 hs
  have h:(if k=n then some 0 else(pos n (names r)).map (· + 1))=some i:=h
  simp only[setA]
  by_cases e:k=n
  ·rw[if_pos e]at h ⊢
   injection h with h;subst h
   exact⟨by rw[e];rfl,rfl⟩
  ·rw[if_neg e]at h ⊢
   rw[zB]at h
   obtain⟨j,hj,rfl⟩:=h
   have hm:n∈names r:=by
    apply Classical.byContradiction
    intro hc
    rw[pos_none.2 (lk_names.2 hc)]at hj;contradiction
   have:lt n k=false:=lt_asymm (h1 n hm)
   rw[this]
   obtain⟨h3,h4⟩:=ih h2 hj
   exact⟨by show k::names (setA n v r)=k::names r;rw[h3],by show w::valsL (setA n v r)=(w::valsL r).set (j+1) v;rw[h4];rfl⟩
theorem set_new{n:Str}{v:Tree}{l:AL}(h:pos n (names l)=none):names (setA n v l)=(names l).take ((posG n (names l)).getD l.length)++n::(names l).drop ((posG n (names l)).getD l.length) ∧
  valsL (setA n v l)=(valsL l).take ((posG n (names l)).getD l.length)++v::(valsL l).drop ((posG n (names l)).getD l.length):=by
 induction l with
 | nil=>exact⟨rfl,rfl⟩
 | cons p r ih=>
  obtain⟨k,w⟩:=p
  have h:(if k=n then some 0 else(pos n (names r)).map (· + 1))=none:=h
  split at h
  ·contradiction
  ·next e=>
   have h:pos n (names r)=none:=by simpa using h
   obtain⟨h3,h4⟩:=ih h
   have e1:names ((k,w)::r)=k::names r:=rfl
   have e2:valsL ((k,w)::r)=w::valsL r:=rfl
   simp only[setA,if_neg e,e1,e2,posG]
   by_cases hlt:lt n k=true
   ·simp only[if_pos hlt];exact⟨rfl,rfl⟩
   ·simp only[if_neg hlt]
    have e3:((posG n (names r)).map (· + 1)).getD (r.length+1)=(posG n (names r)).getD r.length+1:=by cases posG n (names r)<;>rfl
    simp only[List.length_cons,e3,List.take_succ_cons,List.drop_succ_cons,List.cons_append]
    exact⟨by show k::names (setA n v r)=_;rw[h3],by show w::valsL (setA n v r)=_;rw[h4]⟩
theorem set_ok(t:Tree)(n:Str)(v:Tree)(hs:SrtA (al t))(hl:(al t).length≤1000000):P0 f_tree_Set [.v t.val,.v (.str n),.v v.val] []=some ((obj (setA n v (al t))).val,[]):=by
 rw[eq_tree_Set];unfold F_tree_Set
 have hlen:(names (al t)).length=(al t).length:=names_len _
 have hlen2:(valsL (al t)).length=(al t).length:=valsL_len _
 have m1:=mks_n 16 (names (al t)).length (by omega) (by omega)
 have m2:=mks_n 120 (valsL (al t)).length (by omega) (by omega)
 have e1:=setL_all (strs (names (al t))) (.str [])
 have e2:=fun z=>setL_all (trs (valsL (al t))) z
 rw[strs_len]at e1
 simp only[trs_len]at e2
 simp only[tick_eq,okN_tree,tst_t,okN_str,fld_str,some_bind,cut_ok,ext_tup,zM,zN,lenV_sl,strs_len,trs_len,m1,m2,asEl_strs,asEl_trs,e1,index_ok _ _ (by omega:(names (al t)).length≤1000000)]
 cases hp:pos n (names (al t))with
 | some i=>
  have hi:=pos_lt hp
  obtain⟨h1,h2⟩:=set_found (v:=v) hs hp
  have c1:(0:Int)≤(i:Int):=zY i
  have e3 : ∀ z,(((setL (List.replicate (valsL (al t)).length z) 0 ((trs (valsL (al t))).take (Nat.min (valsL (al t)).length (valsL (al t)).length))).set (0+i) v.val).drop 0).take (valsL (al t)).length=trs ((valsL (al t)).set i v):=by
   intro z
   have:=e2 z
   rw[zU]at this ⊢
   have hln:(setL (List.replicate (valsL (al t)).length z) 0 ((trs (valsL (al t))).take (Nat.min (valsL (al t)).length (valsL (al t)).length))).length=(valsL (al t)).length:=by
    have h8:Nat.min (valsL (al t)).length (valsL (al t)).length=(valsL (al t)).length:=Nat.min_self _
    rw[h8];simp[setL,trs_len]
   rw[zV (by omega)]at this
   rw[this,zV (by rw[List.length_set,trs_len];omega),Nat.zero_add,trs_set]
  simp only[tick_eq,geq_i,c1,decide_true,some_bind,asBool_b,if_true,idx_nat _ i (valsL (al t)).length (by omega),okN_tree,tst_t,strs_len,trs_len,e1,e3,obj_val,h1,h2]
 | none=>
  obtain⟨h1,h2⟩:=set_new (v:=v) hp
  have c1 : ¬ (0:Int) ≤ -1:=by decide
  simp only[tick_eq,geq_i,c1,decide_false,some_bind,asBool_b,zF,if_false,strs_len,e1,indexF_ok _ _ (by omega:(names (al t)).length≤1000000),zM]
  cases hg:posG n (names (al t))with
  | some p=>
   have hpl:=posG_lt hg
   have c2 : ¬ ((p:Int)<0):=by omega
   rw[hg]at h1 h2
   simp only[Option.getD_some]at h1 h2
   simp only[tick_eq,lss_i,c2,decide_false,some_bind,asBool_b,zF,if_false,okN_str,tst_t,fld_str,Nat.beq_refl,vec_0,strs_len,trs_len,e1,e2,ins_str _ _ _ (by omega:p≤(names (al t)).length) (by omega),okN_tree,ins_tr _ _ _ (by omega:p≤(valsL (al t)).length) (by omega),okN_sl,fld_sl,obj_val,h1,h2]
  | none=>
   have c2:((-1:Int)<0):=by decide
   rw[hg]at h1 h2
   simp only[Option.getD_none]at h1 h2
   rw[← hlen]at h1 h2
   have i1:=ins_str (names (al t)) (names (al t)).length n (zR _) (by omega)
   have i2:=ins_tr (valsL (al t)) (names (al t)).length v (by omega) (by omega)
   simp only[tick_eq,lss_i,c2,decide_true,some_bind,asBool_b,if_true,okN_str,tst_t,fld_str,Nat.beq_refl,vec_0,strs_len,trs_len,e1,e2,i1,okN_tree,i2,okN_sl,fld_sl,obj_val,h1,h2]
end Go.Ev
