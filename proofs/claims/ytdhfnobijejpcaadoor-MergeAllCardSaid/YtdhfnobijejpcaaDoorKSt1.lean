/- Trees: what the packages' functions yield: places of names, members. -/
import Derived.Test.YtdhfnobijejpcaaDoorKSq4
import Derived.Test.YtdhfnobijejpcaaDoorKSp
set_option linter.all false
open Option renaming map_some→zC,bind_some→zD
open Bool renaming false_eq_true→zF,not_true→zH,not_false→zI
open List renaming getElem?_eq_getElem→zL,getElem?_cons_zero→zM,getElem?_cons_succ→zN,drop_eq_getElem_cons→zO,drop_eq_nil_of_le→zQ,drop_zero→zU
open Int renaming natCast_nonneg→zY
namespace Go.Ev
attribute [local irreducible] P0
theorem i64_succ{i:Nat}(h:i≤1000000000):IntKind.i64.wrap ((i:Int)+1)=((i+1:Nat):Int):=w64 (a:=(i:Int)+1) (by omega)
theorem index_loop(l:List Str)(s:Str)(hl:l.length≤1000000)(k:Nat) : ∀ i,i+k=l.length →
  loopL (L_slices_Index_string_1 l.length (.sl (strs l)) (.str s)) (vec [.int .i64 (i:Int)])=match pos s (l.drop i)with | some j=>some (1,vec [.int .i64 ((i+j:Nat):Int)]) | none=>some (0,vec []):=by
 induction k with
 | zero=>
  intro i hi
  have e:i=l.length:=by omega
  subst e
  rw[List.drop_length]
  apply loopL_inr
  unfold L_slices_Index_string_1
  simp only[tick_eq,vec_0,lss_i,Int.lt_irrefl,decide_false,some_bind,asBool_b,zF,if_false]
 | succ k ih=>
  intro i hi
  have hlt:i<l.length:=by omega
  have c1:(i:Int)<(l.length:Int):=by omega
  have hx:l[i]?=some l[i]:=zL hlt
  rw[zO hlt]
  simp only[pos]
  by_cases he:l[i]=s
  ·rw[if_pos he]
   apply loopL_inr
   unfold L_slices_Index_string_1
   simp only[tick_eq,vec_0,lss_i,c1,decide_true,some_bind,asBool_b,if_true,asSl_strs,strs_len,idx_nat _ i l.length hlt,strs_get,hx,zC,fld_str,eql_s,he,beq_self_eq_true,Nat.add_zero]
  ·rw[if_neg he]
   have hne:(s == l[i])=false:=by simpa using fun e=>he e.symm
   rw[loopL_inl (a':=vec [.int .i64 ((i+1:Nat):Int)])]
   ·rw[ih (i+1) (by omega)]
    cases pos s (l.drop (i+1))with
    | none=>rfl
    | some j=>simp only[zC];rw[show i+1+j=i+(j+1) by omega]
   ·unfold L_slices_Index_string_1
    simp only[tick_eq,vec_0,lss_i,c1,decide_true,some_bind,asBool_b,if_true,asSl_strs,strs_len,idx_nat _ i l.length hlt,strs_get,hx,zC,fld_str,eql_s,hne,zF,if_false,add_i,i64_succ (i:=i) (by omega)]
theorem index_ok(l:List Str)(s:Str)(hl:l.length≤1000000):P0 f_slices_Index_string [.v (.sl (strs l)),.v (.str s)] []=some (.int .i64 (match pos s l with | some i=>(i:Int) | none => -1),[]):=by
 rw[eq_slices_Index_string];unfold F_slices_Index_string
 have h:=index_loop l s hl l.length 0 (by omega)
 rw[zU,show((0:Nat):Int)=0 from rfl]at h
 simp only[tick_eq,lenV_sl,some_bind,strs_len,h]
 cases pos s l with
 | none=>rfl
 | some i=>simp only[some_bind,Nat.zero_add];rfl
theorem names_zip(k:List Str)(v:List Tree):names (k.zip v)=k.take (min k.length v.length):=by
 induction k generalizing v with
 | nil=>simp[names]
 | cons x r ih=>cases v with
  | nil=>simp[names]
  | cons y s=>
   have:=ih s
   simp only[names]at this ⊢
   simp[this,Nat.succ_min_succ]
theorem valsL_zip(k:List Str)(v:List Tree):valsL (k.zip v)=v.take (min k.length v.length):=by
 induction k generalizing v with
 | nil=>simp[valsL]
 | cons x r ih=>cases v with
  | nil=>simp[valsL]
  | cons y s=>
   have:=ih s
   simp only[valsL]at this ⊢
   simp[this,Nat.succ_min_succ]
theorem bnd3_to(k k':IntKind)(i n:Nat)(h:i≤n):bnd3 none (some (.int k (i:Int))) (some (.int k' (i:Int))) n=some (0,i):=by
 simp[bnd3,bndV,h]
theorem cut_ok(t:Tree):P0 f_tree_cut [.v t.val] []=some (.tup [.sl (strs (names (al t))),.sl (trs (valsL (al t)))],[]):=by
 rw[eq_tree_cut];unfold F_tree_cut
 by_cases hk:t.kind=7
 ·have hal:al t=t.k.zip t.v:=if_pos hk
  have hm:minV (.int .i64 ((t.k.length:Nat):Int)) [.int .i64 ((t.v.length:Nat):Int)]=some (.int .i64 ((min t.k.length t.v.length:Nat):Int)):=by
   simp only[minV,if_true]
   congr 2
   split<;>omega
  simp only[tick_eq,okN_tree,tst_t,fld0,some_bind,neq_i,hk,decide_true,zH,asBool_b,zF,if_false,fld6,fld7,lenV_sl,strs_len,trs_len,hm,asSl_strs,asSl_trs,
   bnd3_to _ _ _ _ (Nat.min_le_left t.k.length t.v.length),bnd3_to _ _ _ _ (Nat.min_le_right t.k.length t.v.length),zU,Nat.sub_zero,strs_take,trs_take,hal,names_zip,valsL_zip]
 ·simp only[tick_eq,okN_tree,tst_t,fld0,some_bind,neq_i,hk,decide_false,zI,asBool_b,if_true,al_of hk]
  rfl
/-- what is at the first place of a name -/
theorem pos_lk{n:Str}{l:AL}:(pos n (names l)).bind (fun i=>(valsL l)[i]?)=lk n l:=by
 induction l with
 | nil=>rfl
 | cons p r ih=>
  obtain⟨k,v⟩:=p
  show(if k=n then some 0 else(pos n (names r)).map (· + 1)).bind _=if k=n then some v else lk n r
  split
  ·rfl
  ·rw[← ih]
   cases pos n (names r)with
   | none=>rfl
   | some i=>simp[valsL]
theorem pos_none{n:Str}{l:AL}:pos n (names l)=none↔lk n l=none:=by
 induction l with
 | nil=>simp[names,pos,lk]
 | cons p r ih=>
  obtain⟨k,v⟩:=p
  show(if k=n then some 0 else(pos n (names r)).map (· + 1))=none↔(if k=n then some v else lk n r)=none
  split
  ·simp
  ·rw[← ih];simp
/-- a member, and whether there is one -/
def memV(n:Str)(l:AL):V:=match lk n l with
 | some x => .tup [x.val,.bool true]
 | none => .tup [Tree.zero.val,.bool false]
theorem member_ok(t:Tree)(n:Str)(hl:(al t).length≤1000000):P0 f_tree_Member [.v t.val,.v (.str n)] []=some (memV n (al t),[]):=by
 rw[eq_tree_Member];unfold F_tree_Member
 have hlen:(names (al t)).length=(al t).length:=names_len _
 have hlen2:(valsL (al t)).length=(al t).length:=valsL_len _
 simp only[tick_eq,okN_tree,tst_t,cut_ok,some_bind,ext_tup,zM,zN,index_ok _ _ (by omega:(names (al t)).length≤1000000)]
 unfold memV
 have h:=pos_lk (n:=n) (l:=al t)
 cases hp:pos n (names (al t))with
 | none=>
  rw[hp]at h
  simp only[Option.bind_none]at h
  rw[← h]
  have c1 : ¬ (0:Int) ≤ -1:=by decide
  simp only[tick_eq,geq_i,c1,decide_false,some_bind,asBool_b,zF,if_false]
  rfl
 | some i=>
  have hi:=pos_lt hp
  rw[hp]at h
  simp only[zD]at h
  have hx:(valsL (al t))[i]?=some (valsL (al t))[i]:=zL (by omega)
  rw[hx]at h
  rw[← h]
  have c1:(0:Int)≤(i:Int):=zY i
  simp only[tick_eq,geq_i,c1,decide_true,some_bind,asBool_b,if_true,asSl_trs,trs_len,idx_nat _ i (valsL (al t)).length (by omega),trs_get,hx,zC,okN_tree,tst_t]
theorem rmember_loop(t:Tree)(n:Str)(hk:t.kind=7)(hkl:t.k.length≤1000000)(hl:(al t).length≤1000000)(k:Nat) : ∀ i,i+k=(al t).length →
  loopL (L_ref05_Member_1 t.val (.str n)) (vec [.int .i64 (i:Int),.int .i64 0,.bool false,.bool false,.sl [],.int .i64 0,.str [],.sl [],.sl []]) =
   match lk n ((al t).drop i)with | some x=>some (1,vec [.bool true,x.val]) | none=>some (0,vec [Tree.zero.val]):=by
 have hal:al t=t.k.zip t.v:=if_pos hk
 have hll:(al t).length=min t.k.length t.v.length:=by rw[hal,List.length_zip]
 induction k with
 | zero=>
  intro i hi
  rw[zQ (by omega)]
  apply loopL_inr
  unfold L_ref05_Member_1
  by_cases h1:i<t.k.length
  ·have c1:(i:Int)<(t.k.length:Int):=by omega
   have c2 : ¬ (i:Int)<(t.v.length:Int):=by omega
   simp only[tick_eq,fld6,fld7,some_bind,lenV_sl,strs_len,trs_len,vec_0,lss_i,c1,c2,decide_true,decide_false,asBool_b,if_true,zF,if_false]
   rfl
  ·have c1 : ¬ (i:Int)<(t.k.length:Int):=by omega
   simp only[tick_eq,fld6,some_bind,lenV_sl,strs_len,vec_0,lss_i,c1,decide_false,asBool_b,zF,if_false]
   rfl
 | succ k ih=>
  intro i hi
  have h1:i<t.k.length:=by omega
  have h2:i<t.v.length:=by omega
  have c1:(i:Int)<(t.k.length:Int):=by omega
  have c2:(i:Int)<(t.v.length:Int):=by omega
  have hx:t.k[i]?=some t.k[i]:=zL h1
  have hy:t.v[i]?=some t.v[i]:=zL h2
  have hi':i<(al t).length:=by omega
  have hz:(al t)[i]=(t.k[i],t.v[i]):=by simp[hal]
  rw[zO hi',hz]
  simp only[lk]
  by_cases he:t.k[i]=n
  ·rw[if_pos he]
   have heb:(t.k[i] == n)=true:=by simpa using he
   apply loopL_inr
   unfold L_ref05_Member_1
   simp only[tick_eq,fld0,fld6,fld7,hk,some_bind,lenV_sl,strs_len,trs_len,vec_0,lss_i,c1,c2,decide_true,asBool_b,if_true,eql_i,asSl_strs,idx_nat _ i t.k.length h1,strs_get,hx,zC,fld_str,eql_s,heb,asSl_trs,idx_nat _ i t.v.length h2,trs_get,hy,okN_tree,tst_t]
  ·rw[if_neg he]
   have heb:(t.k[i] == n)=false:=by simpa using he
   rw[← ih (i+1) (by omega)]
   apply loopL_inl
   unfold L_ref05_Member_1
   simp only[tick_eq,fld0,fld6,fld7,hk,some_bind,lenV_sl,strs_len,trs_len,vec_0,vec_s,lss_i,c1,c2,decide_true,asBool_b,if_true,eql_i,asSl_strs,idx_nat _ i t.k.length h1,strs_get,hx,zC,fld_str,eql_s,heb,zF,if_false,add_i,i64_succ (i:=i) (by omega)]
theorem rmember_ok(t:Tree)(n:Str)(hkl:t.k.length≤1000000)(hl:(al t).length≤1000000):P0 f_ref05_Member [.v t.val,.v (.str n)] []=some (memV n (al t),[]):=by
 rw[eq_ref05_Member];unfold F_ref05_Member memV
 by_cases hk:t.kind=7
 ·have h:=rmember_loop t n hk hkl hl (al t).length 0 (by omega)
  rw[zU,show((0:Nat):Int)=0 from rfl]at h
  simp only[tick_eq,okN_tree,tst_t,h]
  cases lk n (al t)with
  | none=>simp only[some_bind];rfl
  | some x=>simp only[some_bind];rfl
 ·rw[al_of hk]
  have h:loopL (L_ref05_Member_1 t.val (.str n)) (vec [.int .i64 0,.int .i64 0,.bool false,.bool false,.sl [],.int .i64 0,.str [],.sl [],.sl []])=some (0,vec [Tree.zero.val]):=by
   apply loopL_inr
   unfold L_ref05_Member_1
   by_cases h1:0<t.k.length
   ·have c1:(0:Int)<(t.k.length:Int):=by omega
    by_cases h2:0<t.v.length
    ·have c2:(0:Int)<(t.v.length:Int):=by omega
     simp only[tick_eq,fld0,fld6,fld7,some_bind,lenV_sl,strs_len,trs_len,vec_0,lss_i,c1,c2,decide_true,asBool_b,if_true,eql_i,hk,decide_false,zF,if_false]
     rfl
    ·have c2 : ¬ (0:Int)<(t.v.length:Int):=by omega
     simp only[tick_eq,fld6,fld7,some_bind,lenV_sl,strs_len,trs_len,vec_0,lss_i,c1,c2,decide_true,decide_false,asBool_b,if_true,zF,if_false]
     rfl
   ·have c1 : ¬ (0:Int)<(t.k.length:Int):=by omega
    simp only[tick_eq,fld6,some_bind,lenV_sl,strs_len,vec_0,lss_i,c1,decide_false,asBool_b,zF,if_false]
    rfl
  simp only[tick_eq,okN_tree,tst_t,h,some_bind,lk]
  rfl
end Go.Ev
