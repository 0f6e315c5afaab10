/- Trees: the reference's Set; without a member. -/
import Derived.Test.YtdhfnobijejpcaaDoorKSt2
set_option linter.all false
open Option renaming map_eq_some_iff→zB,map_some→zC
open Bool renaming false_eq_true→zF,and_eq_true→zG,not_true→zH,not_false→zI,true_eq_false→zX
open List renaming getElem?_eq_getElem→zL,getElem?_cons_zero→zM,getElem?_cons_succ→zN,drop_eq_getElem_cons→zO,drop_eq_nil_of_le→zQ,drop_zero→zU,take_of_length_le→zV,length_append→zZ
open Int renaming natCast_nonneg→zY
namespace Go.Ev
attribute [local irreducible] P0
def rset(n:Str)(v:Tree)(has:Bool):Bool→AL→Bool×AL
 | d,[]=>(d,[])
 | d,(k,w)::r=>if d=false∧k=n then((rset n v has true r).1,(n,v)::(rset n v has true r).2)
  else if d=false∧has=false∧lt n k=true then((rset n v has true r).1,(n,v)::(k,w)::(rset n v has true r).2)
  else((rset n v has d r).1,(k,w)::(rset n v has d r).2)
theorem rset_true(n:Str)(v:Tree)(has:Bool)(l:AL):rset n v has true l=(true,l):=by
 induction l with
 | nil=>rfl
 | cons p r ih=>obtain⟨k,w⟩:=p;simp[rset,ih]
theorem rset_eq{n:Str}{v:Tree}{l:AL}(hs:SrtA l):(rset n v (lk n l).isSome false l).2++(if(rset n v (lk n l).isSome false l).1=true then[]else[(n,v)])=setA n v l:=by
 cases hh:(lk n l).isSome with
 | true=>
  have hm:n∈names l:=Classical.byContradiction fun hc=>by rw[lk_names.2 hc]at hh;contradiction
  clear hh
  induction l with
  | nil=>simp[names]at hm
  | cons p r ih=>
   obtain⟨k,w⟩:=p
   obtain⟨h1,h2⟩:=srt_cons.1 hs
   simp only[rset,setA,rset_true]
   by_cases e:k=n
   ·simp[e]
   ·have hm2:n∈names r:=by
     rcases List.mem_cons.1 (show n∈k::names r from hm)with h | h
     ·exact(e h.symm).elim
     ·exact h
    have:lt n k=false:=lt_asymm (h1 n hm2)
    have ih:=ih h2 hm2
    simp only[e,this,and_false,if_false,zF,zX,false_and]
    rw[← ih];rfl
 | false=>
  have hm:n ∉ names l:=fun hc=>by
   have:lk n l≠none:=fun e=>lk_names.1 e hc
   cases hx:lk n l with
   | none=>exact this hx
   | some x=>rw[hx]at hh;contradiction
  clear hh
  induction l with
  | nil=>simp[rset,setA]
  | cons p r ih=>
   obtain⟨k,w⟩:=p
   obtain⟨h1,h2⟩:=srt_cons.1 hs
   have hm : ¬ (n=k∨n∈names r):=fun hc=>hm (List.mem_cons.2 hc)
   have e:k≠n:=fun e=>hm (.inl e.symm)
   simp only[rset,setA,rset_true,e,and_false,if_false,true_and]
   by_cases hlt:lt n k=true
   ·simp[hlt]
   ·simp only[hlt,if_false,zF]
    rw[← ih h2 (fun hc=>hm (.inr hc))];rfl
theorem szOk_1(s:Str):szOk 1 [V.str s]=true:=rfl
theorem szOk_8(t:Tree):szOk 8 [t.val]=true:=by simp[szOk,okN_tree]
theorem strs_1(l:List Str)(s:Str):strs l++[V.str s]=strs (l++[s]):=by simp[strs]
theorem trs_1(l:List Tree)(t:Tree):trs l++[t.val]=trs (l++[t]):=by simp[trs]
theorem len1(x:V):[x].length=1:=rfl
theorem rset_loop(t:Tree)(n:Str)(v:Tree)(has:Bool)(hk:t.kind=7)(hkl:t.k.length≤1000000)(hl:(al t).length≤1000000)(k:Nat) : ∀ (i:Nat) (d:Bool) (ks:List Str) (vs:List Tree),i+k=(al t).length→ks.length≤2 * i→vs.length≤2 * i →
  loopL (L_ref05_Set_1 t.val (.str n) v.val (.bool has)) (vec [.bool d,.int .i64 (i:Int),.int .i64 7,.bool false,.bool false,.sl [],.int .i64 0,.str [],.sl (strs ks),.sl (trs vs)]) =
   some (0,vec [.bool (rset n v has d ((al t).drop i)).1,.int .i64 7,.bool false,.bool false,.sl [],.int .i64 0,.str [],.sl (strs (ks++names (rset n v has d ((al t).drop i)).2)),.sl (trs (vs++valsL (rset n v has d ((al t).drop i)).2))]):=by
 have hal:al t=t.k.zip t.v:=if_pos hk
 have hll:(al t).length=min t.k.length t.v.length:=by rw[hal,List.length_zip]
 induction k with
 | zero=>
  intro i d ks vs hi hks hvs
  rw[zQ (by omega)]
  apply loopL_inr
  unfold L_ref05_Set_1
  simp only[rset,names,valsL,List.map_nil,List.append_nil]
  by_cases h1:i<t.k.length
  ·have c1:(i:Int)<(t.k.length:Int):=by omega
   have c2 : ¬ (i:Int)<(t.v.length:Int):=by omega
   simp only[tick_eq,fld6,fld7,some_bind,lenV_sl,strs_len,trs_len,vec_0,vec_s,lss_i,c1,c2,decide_true,decide_false,asBool_b,if_true,zF,if_false,elems_sl]
  ·have c1 : ¬ (i:Int)<(t.k.length:Int):=by omega
   simp only[tick_eq,fld6,some_bind,lenV_sl,strs_len,vec_0,vec_s,lss_i,c1,decide_false,asBool_b,zF,if_false,elems_sl]
 | succ k ih=>
  intro i d ks vs hi hks hvs
  have h1:i<t.k.length:=by omega
  have h2:i<t.v.length:=by omega
  have c1:(i:Int)<(t.k.length:Int):=by omega
  have c2:(i:Int)<(t.v.length:Int):=by omega
  have hx:t.k[i]?=some t.k[i]:=zL h1
  have hy:t.v[i]?=some t.v[i]:=zL h2
  have hi':i<(al t).length:=by omega
  have hz:(al t)[i]=(t.k[i],t.v[i]):=by simp[hal]
  rw[zO hi',hz]
  generalize hkk:t.k[i]=kk at *
  generalize hww:t.v[i]=ww at *
  have a1:=fun m=>app_ok 16 ks.length m
  have a2:=fun m=>app_ok 120 vs.length m
  have w:=i64_succ (i:=i) (by omega)
  simp only[rset]
  by_cases q1:d=false∧kk=n
  ·rw[if_pos q1]
   obtain⟨rfl,rfl⟩:=q1
   have:=ih (i+1) true (ks++[kk]) (vs++[v]) (by omega) (by simp;omega) (by simp;omega)
   simp only[names,valsL,List.map_cons,List.append_assoc,List.singleton_append]at this ⊢
   rw[← this]
   apply loopL_inl
   unfold L_ref05_Set_1
   simp only[tick_eq,fld0,fld6,fld7,hk,some_bind,lenV_sl,strs_len,trs_len,vec_0,vec_s,lss_i,c1,c2,decide_true,asBool_b,if_true,eql_i,not_b,zI,asSl_strs,idx_nat _ i t.k.length h1,strs_get,hx,zC,fld_str,eql_s,beq_self_eq_true,okN_str,tst_t,szOk_1,elems_sl,len1,app_ok 16 ks.length 1 (by omega) (by omega),okN_tree,szOk_8,app_ok 120 vs.length 1 (by omega) (by omega),add_i,w,strs_1,trs_1]
  ·rw[if_neg q1]
   have hb:(if d=false then(kk == n)else false)=false:=by
    cases d with
    | true=>rfl
    | false=>simpa using fun e=>q1 ⟨rfl,e⟩
   have e27:((if(!d)=true then(binV .eql (.str kk) (.str n)).bind fun x25=>some x25 else some (.bool false):Option V))=some (.bool false):=by
    cases d with
    | true=>rfl
    | false=>
     have:(kk == n)=false:=by simpa using fun e=>q1 ⟨rfl,e⟩
     simp only[tick_eq,zI,if_true,eql_s,some_bind,this]
   by_cases q2:d=false∧has=false∧lt n kk=true
   ·rw[if_pos q2]
    obtain⟨rfl,rfl,hlt⟩:=q2
    have hne:(kk == n)=false:=by simpa using fun e=>q1 ⟨rfl,e⟩
    have hlt2:Op.bytesLess kk n=false:=lt_asymm hlt
    have:=ih (i+1) true (ks++[n]++[kk]) (vs++[v]++[ww]) (by omega) (by simp;omega) (by simp;omega)
    simp only[names,valsL,List.map_cons,List.append_assoc,List.cons_append,List.nil_append]at this ⊢
    rw[← this]
    apply loopL_inl
    unfold L_ref05_Set_1
    simp only[tick_eq,fld0,fld6,fld7,hk,some_bind,lenV_sl,strs_len,trs_len,vec_0,vec_s,lss_i,c1,c2,decide_true,asBool_b,if_true,eql_i,not_b,zI,asSl_strs,asSl_trs,idx_nat _ i t.k.length h1,idx_nat _ i t.v.length h2,strs_get,trs_get,hx,hy,zC,fld_str,eql_s,hne,zF,if_false,gtr_s,hlt2,Bool.or_false,zI,okN_str,tst_t,szOk_1,elems_sl,len1,app_ok 16 ks.length 1 (by omega) (by omega),okN_tree,szOk_8,app_ok 120 vs.length 1 (by omega) (by omega),add_i,w,strs_1,trs_1,strs_len,trs_len,zZ,List.length_singleton,app_ok 16 (ks.length+1) 1 (by omega) (by omega),app_ok 120 (vs.length+1) 1 (by omega) (by omega),List.append_assoc,List.cons_append,List.nil_append]
   ·rw[if_neg q2]
    have:=ih (i+1) d (ks++[kk]) (vs++[ww]) (by omega) (by simp;omega) (by simp;omega)
    simp only[names,valsL,List.map_cons,List.append_assoc,List.singleton_append]at this ⊢
    rw[← this]
    apply loopL_inl
    unfold L_ref05_Set_1
    cases d with
    | true=>
     simp only[tick_eq,fld0,fld6,fld7,hk,some_bind,lenV_sl,strs_len,trs_len,vec_0,vec_s,lss_i,c1,c2,decide_true,asBool_b,if_true,eql_i,not_b,zH,zF,if_false,asSl_strs,asSl_trs,idx_nat _ i t.k.length h1,idx_nat _ i t.v.length h2,strs_get,trs_get,hx,hy,zC,fld_str,okN_str,tst_t,szOk_1,elems_sl,len1,app_ok 16 ks.length 1 (by omega) (by omega),okN_tree,szOk_8,app_ok 120 vs.length 1 (by omega) (by omega),add_i,w,strs_1,trs_1]
    | false=>
     have hne:(kk == n)=false:=by simpa using fun e=>q1 ⟨rfl,e⟩
     cases has with
     | true=>
      simp only[tick_eq,fld0,fld6,fld7,hk,some_bind,lenV_sl,strs_len,trs_len,vec_0,vec_s,lss_i,c1,c2,decide_true,asBool_b,if_true,eql_i,not_b,zH,zI,zF,if_false,asSl_strs,asSl_trs,idx_nat _ i t.k.length h1,idx_nat _ i t.v.length h2,strs_get,trs_get,hx,hy,zC,fld_str,eql_s,hne,okN_str,tst_t,szOk_1,elems_sl,len1,app_ok 16 ks.length 1 (by omega) (by omega),okN_tree,szOk_8,app_ok 120 vs.length 1 (by omega) (by omega),add_i,w,strs_1,trs_1]
     | false=>
      have hlt:lt n kk=false:=by
       cases hc:lt n kk with
       | false=>rfl
       | true=>exact(q2 ⟨rfl,rfl,hc⟩).elim
      have hlt2:Op.bytesLess kk n=true:=lt_total (fun e=>q1 ⟨rfl,e.symm⟩) hlt
      simp only[tick_eq,fld0,fld6,fld7,hk,some_bind,lenV_sl,strs_len,trs_len,vec_0,vec_s,lss_i,c1,c2,decide_true,asBool_b,if_true,eql_i,not_b,zH,zI,zF,if_false,asSl_strs,asSl_trs,idx_nat _ i t.k.length h1,idx_nat _ i t.v.length h2,strs_get,trs_get,hx,hy,zC,fld_str,eql_s,hne,gtr_s,hlt2,Bool.true_or,okN_str,tst_t,szOk_1,elems_sl,len1,app_ok 16 ks.length 1 (by omega) (by omega),okN_tree,szOk_8,app_ok 120 vs.length 1 (by omega) (by omega),add_i,w,strs_1,trs_1]
theorem rset_ok(t:Tree)(n:Str)(v:Tree)(hs:SrtA (al t))(hkl:t.k.length≤1000000)(hl:(al t).length≤1000000):P0 f_ref05_Set [.v t.val,.v (.str n),.v v.val] []=some ((obj (setA n v (al t))).val,[]):=by
 rw[eq_ref05_Set];unfold F_ref05_Set
 have hloop:loopL (L_ref05_Set_1 t.val (.str n) v.val (.bool (lk n (al t)).isSome)) (vec [.bool false,.int .i64 0,.int .i64 7,.bool false,.bool false,.sl [],.int .i64 0,.str [],.sl [],.sl []]) =
   some (0,vec [.bool (rset n v (lk n (al t)).isSome false (al t)).1,.int .i64 7,.bool false,.bool false,.sl [],.int .i64 0,.str [],.sl (strs (names (rset n v (lk n (al t)).isSome false (al t)).2)),.sl (trs (valsL (rset n v (lk n (al t)).isSome false (al t)).2))]):=by
  by_cases hk:t.kind=7
  ·have h:=rset_loop t n v (lk n (al t)).isSome hk hkl hl (al t).length 0 false [] [] (by omega) (by simp) (by simp)
   rw[zU,show((0:Nat):Int)=0 from rfl]at h
   simp only[List.nil_append]at h
   exact h
  ·rw[al_of hk]
   apply loopL_inr
   unfold L_ref05_Set_1
   by_cases h1:0<t.k.length
   ·have c1:(0:Int)<(t.k.length:Int):=by omega
    by_cases h2:0<t.v.length
    ·have c2:(0:Int)<(t.v.length:Int):=by omega
     simp only[tick_eq,fld0,fld6,fld7,some_bind,lenV_sl,strs_len,trs_len,vec_0,vec_s,lss_i,c1,c2,decide_true,asBool_b,if_true,eql_i,hk,decide_false,zF,if_false,elems_sl]
     rfl
    ·have c2 : ¬ (0:Int)<(t.v.length:Int):=by omega
     simp only[tick_eq,fld6,fld7,some_bind,lenV_sl,strs_len,trs_len,vec_0,vec_s,lss_i,c1,c2,decide_true,decide_false,asBool_b,if_true,zF,if_false,elems_sl]
     rfl
   ·have c1 : ¬ (0:Int)<(t.k.length:Int):=by omega
    simp only[tick_eq,fld6,some_bind,lenV_sl,strs_len,vec_0,vec_s,lss_i,c1,decide_false,asBool_b,zF,if_false,elems_sl]
    rfl
 have hm : ∃ x:Tree,memV n (al t) = .tup [x.val,.bool (lk n (al t)).isSome]:=by
  unfold memV
  cases lk n (al t)with
  | none=>exact⟨_,rfl⟩
  | some x=>exact⟨x,rfl⟩
 obtain⟨x,hm⟩:=hm
 have he:=rset_eq (v:=v) hs (n:=n)
 generalize hg:rset n v (lk n (al t)).isSome false (al t)=g at *
 obtain⟨d,out⟩:=g
 have hlo:out.length≤2000000:=by
  have:out.length≤(setA n v (al t)).length:=by rw[← he];simp
  have:=len_set n v (al t)
  omega
 have n1:(names out).length=out.length:=names_len _
 have n2:(valsL out).length=out.length:=valsL_len _
 simp only[tick_eq,okN_tree,tst_t,rmember_ok t n hkl hl,some_bind,hm,ext_tup,zM,zN,hloop,vec_0,not_b,asBool_b]
 cases d with
 | true=>
  simp only[if_true,List.append_nil]at he
  simp only[tick_eq,zH,zF,if_false,vec_s,vec_0,elems_sl,obj_val,← he]
 | false=>
  have he:out++[(n,v)]=setA n v (al t):=he
  have e1:names (setA n v (al t))=names out++[n]:=by rw[← he];simp[names]
  have e2:valsL (setA n v (al t))=valsL out++[v]:=by rw[← he];simp[valsL]
  simp only[tick_eq,zI,if_true,okN_str,tst_t,fld_str,some_bind,szOk_1,vec_s,vec_0,elems_sl,strs_len,trs_len,len1,app_ok 16 (names out).length 1 (by omega) (by omega),okN_tree,szOk_8,app_ok 120 (valsL out).length 1 (by omega) (by omega),strs_1,trs_1,obj_val,e1,e2]
/- two slices behind one another -/
theorem grow_str(n:Nat)(h:n≤100000000):P0 f_slices_Grow_string [.g,.v (.sl []),.v (.int .i64 (n:Int))] []=some (.sl [],[]):=by
 rw[tell_slices_Grow_string]
 have hk:growOk 16 (n:Int)=true:=by
  simp only[growOk,zG,decide_eq_true_eq,Int.toNat_natCast];omega
 simp only[tellK,extK,valsA,txGrow,hk,tst_t,some_bind]
theorem grow_tr(n:Nat)(h:n≤100000000):P0 f_slices_Grow_aT [.g,.v (.sl []),.v (.int .i64 (n:Int))] []=some (.sl [],[]):=by
 rw[tell_slices_Grow_aT]
 have hk:growOk 120 (n:Int)=true:=by
  simp only[growOk,zG,decide_eq_true_eq,Int.toNat_natCast];omega
 simp only[tellK,extK,valsA,txGrow,hk,tst_t,some_bind]
theorem szOk_2sl(a b:List V):szOk 1 [V.sl a,V.sl b]=true:=rfl
theorem asSl_2sl(a b:List V):asSl 1 (.sl [V.sl a,V.sl b])=some [.sl a,.sl b]:=by unfold asSl;simp only[szOk_2sl]
theorem slV_nil:slV (.sl [])=some []:=rfl
theorem concat_str(a b:List Str)(ha:a.length≤1000000)(hb:b.length≤1000000):P0 f_slices_Concat_string [.v (.sl [.sl (strs a),.sl (strs b)])] []=some (.sl (strs (a++b)),[]):=by
 rw[eq_slices_Concat_string];unfold F_slices_Concat_string
 have w1:IntKind.i64.wrap (0+(a.length:Int))=(a.length:Int):=w64 (a:=0+(a.length:Int)) (by omega) |>.trans (by omega)
 have w2:IntKind.i64.wrap ((a.length:Int)+(b.length:Int))=((a.length+b.length:Nat):Int):=w64 (a:=(a.length:Int)+(b.length:Int)) (by omega) |>.trans (by omega)
 have w3:IntKind.i64.wrap (0+1)=1:=by decide
 have w4:IntKind.i64.wrap (1+1)=2:=by decide
 have c0 : ¬ (a.length:Int)<0:=by omega
 have c1 : ¬ ((a.length+b.length:Nat):Int)<0:=by omega
 have d0:(0:Int)<((2:Nat):Int):=by decide
 have d1:(1:Int)<((2:Nat):Int):=by decide
 have d2 : ¬ (2:Int)<((2:Nat):Int):=by decide
 have i0:=idx_0 .i64 2 (by decide)
 have i1:idxV (.int .i64 1) 2=some 1:=idx_nat .i64 1 2 (by decide)
 have l1:loopL (L_slices_Concat_string_1 2 (.sl [.sl (strs a),.sl (strs b)])) (vec [.int .i64 0,.int .i64 0])=some (0,vec [.int .i64 ((a.length+b.length:Nat):Int)]):=by
  rw[loopL_inl (a':=vec [.int .i64 (a.length:Int),.int .i64 1])]
  ·rw[loopL_inl (a':=vec [.int .i64 ((a.length+b.length:Nat):Int),.int .i64 2])]
   ·apply loopL_inr
    unfold L_slices_Concat_string_1
    simp only[tick_eq,vec_0,vec_s,lss_i,d2,decide_false,some_bind,asBool_b,zF,if_false]
   ·unfold L_slices_Concat_string_1
    simp only[tick_eq,vec_0,vec_s,lss_i,d1,decide_true,some_bind,asBool_b,if_true,asSl_2sl,List.length_cons,List.length_nil,Nat.zero_add,Nat.reduceAdd,i1,zN,zM,fld_sl,lenV_sl,strs_len,add_i,w2,c1,decide_false,zF,if_false,w4]
  ·unfold L_slices_Concat_string_1
   simp only[tick_eq,vec_0,vec_s,lss_i,d0,decide_true,some_bind,asBool_b,if_true,asSl_2sl,List.length_cons,List.length_nil,Nat.zero_add,Nat.reduceAdd,i0,zM,fld_sl,lenV_sl,strs_len,add_i,w1,c0,decide_false,zF,if_false,w3]
 have l2:loopL (L_slices_Concat_string_2 2 (.sl [.sl (strs a),.sl (strs b)])) (vec [.sl [],.int .i64 0])=some (0,vec [.sl (strs (a++b))]):=by
  rw[loopL_inl (a':=vec [.sl (strs a),.int .i64 1])]
  ·rw[loopL_inl (a':=vec [.sl (strs (a++b)),.int .i64 2])]
   ·apply loopL_inr
    unfold L_slices_Concat_string_2
    simp only[tick_eq,vec_0,vec_s,lss_i,d2,decide_false,some_bind,asBool_b,zF,if_false,elems_sl]
   ·unfold L_slices_Concat_string_2
    simp only[tick_eq,vec_0,vec_s,lss_i,d1,decide_true,some_bind,asBool_b,if_true,asSl_2sl,List.length_cons,List.length_nil,Nat.zero_add,Nat.reduceAdd,i1,zN,zM,fld_sl,asEl_strs,elems_sl,strs_len,app_ok 16 a.length b.length (by omega) (by omega),tst_t,add_i,w4,strs_app]
  ·unfold L_slices_Concat_string_2
   simp only[tick_eq,vec_0,vec_s,lss_i,d0,decide_true,some_bind,asBool_b,if_true,asSl_2sl,List.length_cons,List.length_nil,Nat.zero_add,Nat.reduceAdd,i0,zM,fld_sl,asEl_strs,elems_sl,strs_len,app_ok 16 0 a.length (by omega) (by omega),tst_t,add_i,w3,List.nil_append]
 simp only[tick_eq,lenV_sl,some_bind,List.length_cons,List.length_nil,Nat.zero_add,Nat.reduceAdd,l1,vec_0,grow_str _ (by omega:a.length+b.length≤100000000),slV_nil,l2,elems_sl]
theorem concat_tr(a b:List Tree)(ha:a.length≤1000000)(hb:b.length≤1000000):P0 f_slices_Concat_aT [.v (.sl [.sl (trs a),.sl (trs b)])] []=some (.sl (trs (a++b)),[]):=by
 rw[eq_slices_Concat_aT];unfold F_slices_Concat_aT
 have w1:IntKind.i64.wrap (0+(a.length:Int))=(a.length:Int):=w64 (a:=0+(a.length:Int)) (by omega) |>.trans (by omega)
 have w2:IntKind.i64.wrap ((a.length:Int)+(b.length:Int))=((a.length+b.length:Nat):Int):=w64 (a:=(a.length:Int)+(b.length:Int)) (by omega) |>.trans (by omega)
 have w3:IntKind.i64.wrap (0+1)=1:=by decide
 have w4:IntKind.i64.wrap (1+1)=2:=by decide
 have c0 : ¬ (a.length:Int)<0:=by omega
 have c1 : ¬ ((a.length+b.length:Nat):Int)<0:=by omega
 have d0:(0:Int)<((2:Nat):Int):=by decide
 have d1:(1:Int)<((2:Nat):Int):=by decide
 have d2 : ¬ (2:Int)<((2:Nat):Int):=by decide
 have i0:=idx_0 .i64 2 (by decide)
 have i1:idxV (.int .i64 1) 2=some 1:=idx_nat .i64 1 2 (by decide)
 have l1:loopL (L_slices_Concat_aT_1 2 (.sl [.sl (trs a),.sl (trs b)])) (vec [.int .i64 0,.int .i64 0])=some (0,vec [.int .i64 ((a.length+b.length:Nat):Int)]):=by
  rw[loopL_inl (a':=vec [.int .i64 (a.length:Int),.int .i64 1])]
  ·rw[loopL_inl (a':=vec [.int .i64 ((a.length+b.length:Nat):Int),.int .i64 2])]
   ·apply loopL_inr
    unfold L_slices_Concat_aT_1
    simp only[tick_eq,vec_0,vec_s,lss_i,d2,decide_false,some_bind,asBool_b,zF,if_false]
   ·unfold L_slices_Concat_aT_1
    simp only[tick_eq,vec_0,vec_s,lss_i,d1,decide_true,some_bind,asBool_b,if_true,asSl_2sl,List.length_cons,List.length_nil,Nat.zero_add,Nat.reduceAdd,i1,zN,zM,fld_sl,lenV_sl,trs_len,add_i,w2,c1,decide_false,zF,if_false,w4]
  ·unfold L_slices_Concat_aT_1
   simp only[tick_eq,vec_0,vec_s,lss_i,d0,decide_true,some_bind,asBool_b,if_true,asSl_2sl,List.length_cons,List.length_nil,Nat.zero_add,Nat.reduceAdd,i0,zM,fld_sl,lenV_sl,trs_len,add_i,w1,c0,decide_false,zF,if_false,w3]
 have l2:loopL (L_slices_Concat_aT_2 2 (.sl [.sl (trs a),.sl (trs b)])) (vec [.sl [],.int .i64 0])=some (0,vec [.sl (trs (a++b))]):=by
  rw[loopL_inl (a':=vec [.sl (trs a),.int .i64 1])]
  ·rw[loopL_inl (a':=vec [.sl (trs (a++b)),.int .i64 2])]
   ·apply loopL_inr
    unfold L_slices_Concat_aT_2
    simp only[tick_eq,vec_0,vec_s,lss_i,d2,decide_false,some_bind,asBool_b,zF,if_false,elems_sl]
   ·unfold L_slices_Concat_aT_2
    simp only[tick_eq,vec_0,vec_s,lss_i,d1,decide_true,some_bind,asBool_b,if_true,asSl_2sl,List.length_cons,List.length_nil,Nat.zero_add,Nat.reduceAdd,i1,zN,zM,fld_sl,asEl_trs,elems_sl,trs_len,app_ok 120 a.length b.length (by omega) (by omega),tst_t,add_i,w4,trs_app]
  ·unfold L_slices_Concat_aT_2
   simp only[tick_eq,vec_0,vec_s,lss_i,d0,decide_true,some_bind,asBool_b,if_true,asSl_2sl,List.length_cons,List.length_nil,Nat.zero_add,Nat.reduceAdd,i0,zM,fld_sl,asEl_trs,elems_sl,trs_len,app_ok 120 0 a.length (by omega) (by omega),tst_t,add_i,w3,List.nil_append]
 simp only[tick_eq,lenV_sl,some_bind,List.length_cons,List.length_nil,Nat.zero_add,Nat.reduceAdd,l1,vec_0,grow_tr _ (by omega:a.length+b.length≤100000000),slV_nil,l2,elems_sl]
theorem del_pos{n:Str}{l:AL}{i:Nat}(h:pos n (names l)=some i):names (delA n l)=(names l).take i++(names l).drop (i+1)∧valsL (delA n l)=(valsL l).take i++(valsL l).drop (i+1):=by
 induction l generalizing i with
 | nil=>simp[names,pos]at h
 | cons p r ih=>
  obtain⟨k,w⟩:=p
  have h:(if k=n then some 0 else(pos n (names r)).map (· + 1))=some i:=h
  simp only[delA]
  by_cases e:k=n
  ·rw[if_pos e]at h ⊢
   injection h with h;subst h
   exact⟨rfl,rfl⟩
  ·rw[if_neg e]at h ⊢
   rw[zB]at h
   obtain⟨j,hj,rfl⟩:=h
   obtain⟨h3,h4⟩:=ih hj
   exact⟨by show k::names (delA n r)=k::_;rw[h3];rfl,by show w::valsL (delA n r)=w::_;rw[h4];rfl⟩
theorem del_none{n:Str}{l:AL}(h:pos n (names l)=none):delA n l=l:=by
 induction l with
 | nil=>rfl
 | cons p r ih=>
  obtain⟨k,w⟩:=p
  have h:(if k=n then some 0 else(pos n (names r)).map (· + 1))=none:=h
  simp only[delA]
  by_cases e:k=n
  ·rw[if_pos e]at h;contradiction
  ·rw[if_neg e]at h ⊢
   rw[ih (by simpa using h)]
theorem unset_ok(t:Tree)(n:Str)(hl:(al t).length≤1000000):P0 f_tree_Unset [.v t.val,.v (.str n)] []=some ((match lk n (al t)with | some _=>(obj (delA n (al t))).val | none=>t.val),[]):=by
 rw[eq_tree_Unset];unfold F_tree_Unset
 have hlen:(names (al t)).length=(al t).length:=names_len _
 have hlen2:(valsL (al t)).length=(al t).length:=valsL_len _
 simp only[tick_eq,okN_tree,tst_t,cut_ok,some_bind,ext_tup,zM,zN,index_ok _ _ (by omega:(names (al t)).length≤1000000)]
 cases hp:pos n (names (al t))with
 | none=>
  rw[pos_none.1 hp]
  have c1:(-1:Int)<0:=by decide
  simp only[tick_eq,lss_i,c1,decide_true,some_bind,asBool_b,if_true,okN_tree,tst_t]
 | some i=>
  have hi:=pos_lt hp
  have hne:lk n (al t)≠none:=fun e=>by rw[pos_none.2 e]at hp;contradiction
  obtain⟨x,hx⟩ : ∃ x,lk n (al t)=some x:=by
   cases h:lk n (al t)with
   | none=>exact(hne h).elim
   | some x=>exact⟨x,rfl⟩
  obtain⟨h1,h2⟩:=del_pos hp
  have c1 : ¬ (i:Int)<0:=by omega
  have w:=i64_succ (i:=i) (by omega)
  have b1:=bnd_to .i64 (i:Int) (names (al t)).length ⟨zY i,by omega⟩
  have b2:=bnd_from .i64 ((i+1:Nat):Int) (names (al t)).length ⟨zY _,by omega⟩
  have b3:=bnd_to .i64 (i:Int) (valsL (al t)).length ⟨zY i,by omega⟩
  have b4:=bnd_from .i64 ((i+1:Nat):Int) (valsL (al t)).length ⟨zY _,by omega⟩
  simp only[Int.toNat_natCast]at b1 b2 b3 b4
  have k1:((names (al t)).drop (i+1)).take ((names (al t)).length - (i+1))=(names (al t)).drop (i+1):=zV (by simp)
  have k2:((valsL (al t)).drop (i+1)).take ((valsL (al t)).length - (i+1))=(valsL (al t)).drop (i+1):=zV (by simp)
  have cc1:=concat_str ((names (al t)).take i) ((names (al t)).drop (i+1)) (by simp;omega) (by simp;omega)
  have cc2:=concat_tr ((valsL (al t)).take i) ((valsL (al t)).drop (i+1)) (by simp;omega) (by simp;omega)
  simp only[tick_eq,lss_i,c1,decide_false,some_bind,asBool_b,zF,if_false,asSl_strs,asSl_trs,strs_len,trs_len,b1,b2,b3,b4,add_i,w,zU,Nat.sub_zero,strs_drop,strs_take,trs_drop,trs_take,k1,k2,cc1,cc2,okN_sl,tst_t,fld_sl,hx,obj_val,h1,h2]
end Go.Ev
