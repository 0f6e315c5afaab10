/- Trees that have few parts. -/
import Derived.Test.YtdhfnobijejpcaaDoorKSw1
set_option linter.all false
open Option renaming map_some→zC
open Bool renaming false_eq_true→zF,true_eq_false→zX
open List renaming getElem?_eq_getElem→zL,drop_eq_getElem_cons→zO,drop_eq_nil_of_le→zQ,drop_zero→zU
namespace Go.Ev
attribute [local irreducible] P0
inductive LightT:Tree→Prop
 | mk (t:Tree) (h1:t.n.m.length≤95) (h2:t.s.length≤2100) (h3:t.k.length≤40) (h4:t.v.length≤40) (h5 : ∀ x,x∈t.k→x.length≤2100) (hv : ∀ x,x∈t.v→LightT x):LightT t
theorem light_loop1(t:Tree)(hk:t.k.length≤1000)(m:Nat) : ∀ i,i+m=t.k.length →
  ∃ j v,loopL (L_law00_light_1 t.val) (vec [.int .i64 (i:Int)])=some (j,v)∧((j=0 ∧ ∀ x,x∈t.k.drop i→x.length≤2100)∨(j=1∧v=vec [.int .i64 (-1)])):=by
 induction m with
 | zero=>
  intro i hi
  refine⟨0,vec [],loopL_inr ?_,.inl ⟨rfl,fun x hx => ?_⟩⟩
  ·unfold L_law00_light_1
   have c1 : ¬ (i:Int)<(t.k.length:Int):=by omega
   simp only[tick_eq,fld6,lenV_sl,strs_len,vec_0,lss_i,c1,decide_false,some_bind,asBool_b,zF,if_false]
  ·rw[zQ (by omega)]at hx;simp at hx
 | succ m ih=>
  intro i hi
  have hlt:i<t.k.length:=by omega
  have c1:(i:Int)<(t.k.length:Int):=by omega
  have hx:t.k[i]?=some t.k[i]:=zL hlt
  by_cases hc:t.k[i].length > 2100
  ·have d:decide (((t.k[i].length:Nat):Int) > 2100)=true:=decide_eq_true (by omega)
   refine⟨1,vec [.int .i64 (-1)],loopL_inr ?_,.inr ⟨rfl,rfl⟩⟩
   unfold L_law00_light_1
   simp only[tick_eq,fld6,lenV_sl,strs_len,vec_0,lss_i,c1,decide_true,some_bind,asBool_b,if_true,asSl_strs,idx_nat _ i t.k.length hlt,strs_get,hx,zC,fld_str,lns_s,d]
  ·have d:decide (((t.k[i].length:Nat):Int) > 2100)=false:=decide_eq_false (by omega)
   obtain⟨j,v,h1,h2⟩:=ih (i+1) (by omega)
   refine⟨j,v,?_,?_⟩
   ·rw[← h1]
    apply loopL_inl
    unfold L_law00_light_1
    simp only[tick_eq,fld6,lenV_sl,strs_len,vec_0,lss_i,c1,decide_true,some_bind,asBool_b,if_true,asSl_strs,idx_nat _ i t.k.length hlt,strs_get,hx,zC,fld_str,lns_s,d,zF,if_false,add_i,i64_succ (i:=i) (by omega)]
   ·rcases h2 with⟨q1,q2⟩ | q
    ·refine .inl ⟨q1,fun x hx2 => ?_⟩
     rw[zO hlt]at hx2
     rcases List.mem_cons.1 hx2 with rfl | hx2
     ·omega
     ·exact q2 x hx2
    ·exact .inr q
theorem light_loop2(t:Tree)(hl:t.v.length≤1000)(hc : ∀ x,x∈t.v → ∀ n:Int,0≤n→n≤1000000000 → ∃ r:Int,-1≤r∧r≤n∧P0 f_law00_light [.v x.val,.v (.int .i64 n)] []=some (.int .i64 r,[])∧(0≤r→LightT x∧r=n - nodes x))(m:Nat) : ∀ i (n:Int),i+m=t.v.length → -1≤n→n≤1000000000 →
  ∃ r:Int,-1≤r∧r≤n∧loopL (L_law00_light_2 t.val) (vec [.int .i64 n,.int .i64 (i:Int)])=some (0,vec [.int .i64 r])∧(0≤r→(∀ x,x∈t.v.drop i→LightT x)∧r=n - nodesL (t.v.drop i)):=by
 induction m with
 | zero=>
  intro i n hi h0 h1
  have e:t.v.drop i=[]:=zQ (by omega)
  refine⟨n,h0,Int.le_refl n,loopL_inr ?_,fun _=>by rw[e];exact⟨fun x hx=>by simp at hx,by simp[nodesL]⟩⟩
  unfold L_law00_light_2
  have c1 : ¬ (i:Int)<(t.v.length:Int):=by omega
  simp only[tick_eq,fld7,lenV_sl,trs_len,vec_0,vec_s,lss_i,c1,decide_false,some_bind,asBool_b,zF,if_false]
 | succ m ih=>
  intro i n hi h0 h1
  have hlt:i<t.v.length:=by omega
  have c1:(i:Int)<(t.v.length:Int):=by omega
  by_cases hn:0≤n
  ·have hx:t.v[i]?=some t.v[i]:=zL hlt
   obtain⟨r1,p1,p2,p3,p4⟩:=hc _ (List.getElem_mem hlt) n hn h1
   obtain⟨r,q1,q2,q3,q4⟩:=ih (i+1) r1 (by omega) p1 (by omega)
   refine⟨r,q1,by omega,?_,fun h => ?_⟩
   ·rw[← q3]
    apply loopL_inl
    unfold L_law00_light_2
    simp only[tick_eq,fld7,lenV_sl,trs_len,vec_0,vec_s,lss_i,c1,decide_true,some_bind,asBool_b,if_true,geq_i,hn,asSl_trs,idx_nat _ i t.v.length hlt,trs_get,hx,zC,p3,add_i,i64_succ (i:=i) (by omega)]
   ·obtain⟨a1,a2⟩:=q4 h
    obtain⟨b1,b2⟩:=p4 (by omega)
    rw[zO hlt]
    refine⟨fun x hx2 => ?_,by rw[nodesL];omega⟩
    rcases List.mem_cons.1 hx2 with rfl | hx2
    ·exact b1
    ·exact a1 x hx2
  ·refine⟨n,h0,Int.le_refl n,loopL_inr ?_,fun h=>absurd h hn⟩
   unfold L_law00_light_2
   simp only[tick_eq,fld7,lenV_sl,trs_len,vec_0,vec_s,lss_i,c1,decide_true,some_bind,asBool_b,if_true,geq_i,hn,decide_false,zF,if_false]
theorem light_ok : ∀ t:Tree,∀ n:Int,0≤n→n≤1000000000 → ∃ r:Int,-1≤r∧r≤n∧P0 f_law00_light [.v t.val,.v (.int .i64 n)] []=some (.int .i64 r,[])∧(0≤r→LightT t∧r=n - nodes t):=by
 intro t
 induction t using Tree.ind with
 | h t ih=>
  intro n h0 h1
  have wn:IntKind.i64.wrap (n - 1)=n - 1:=w64 (by omega)
  have dT : ∀ {p:Prop} [Decidable p],p→decide p=true:=fun h=>decide_eq_true h
  have dF : ∀ {p:Prop} [Decidable p],¬ p→decide p=false:=fun h=>decide_eq_false h
  rw[eq_law00_light];unfold F_law00_light
  by_cases c1:t.n.m.length > 95
  ·have d1:decide (((t.n.m.length:Nat):Int) > 95)=true:=dT (by omega)
   exact⟨-1,by decide,by omega,by simp only[tick_eq,okN_tree,tst_t,sub_i,wn,fld3,fld5,fld6,fld7,some_bind,lenV_sl,limbs_len,d1,zX,if_false,asBool_b,if_true],fun h=>by omega⟩
  have d1:decide (((t.n.m.length:Nat):Int) > 95)=false:=dF (by omega)
  by_cases c2:t.s.length > 2100
  ·have d2:decide (((t.s.length:Nat):Int) > 2100)=true:=dT (by omega)
   exact⟨-1,by decide,by omega,by simp only[tick_eq,okN_tree,tst_t,sub_i,wn,fld3,fld5,fld6,fld7,some_bind,lenV_sl,limbs_len,d1,lns_s,d2,zX,if_false,asBool_b,if_true],fun h=>by omega⟩
  have d2:decide (((t.s.length:Nat):Int) > 2100)=false:=dF (by omega)
  by_cases c3:t.k.length > 40
  ·have d3:decide (((t.k.length:Nat):Int) > 40)=true:=dT (by omega)
   exact⟨-1,by decide,by omega,by simp only[tick_eq,okN_tree,tst_t,sub_i,wn,fld3,fld5,fld6,fld7,some_bind,lenV_sl,limbs_len,strs_len,d1,lns_s,d2,d3,zX,if_false,asBool_b,if_true],fun h=>by omega⟩
  have d3:decide (((t.k.length:Nat):Int) > 40)=false:=dF (by omega)
  by_cases c4:t.v.length > 40
  ·have d4:decide (((t.v.length:Nat):Int) > 40)=true:=dT (by omega)
   exact⟨-1,by decide,by omega,by simp only[tick_eq,okN_tree,tst_t,sub_i,wn,fld3,fld5,fld6,fld7,some_bind,lenV_sl,limbs_len,strs_len,trs_len,d1,lns_s,d2,d3,d4,asBool_b,if_true],fun h=>by omega⟩
  have d4:decide (((t.v.length:Nat):Int) > 40)=false:=dF (by omega)
  obtain⟨j,v,l1,l2⟩:=light_loop1 t (by omega) t.k.length 0 (by omega)
  rw[show((0:Nat):Int)=0 from rfl]at l1
  rw[zU]at l2
  rcases l2 with⟨rfl,hks⟩ | ⟨rfl,rfl⟩
  ·obtain⟨r,q1,q2,q3,q4⟩:=light_loop2 t (by omega) (fun x hx n a b=>ih x hx n a b) t.v.length 0 (n - 1) (by omega) (by omega) (by omega)
   rw[show((0:Nat):Int)=0 from rfl]at q3
   rw[zU]at q4
   refine⟨r,q1,by omega,?_,fun h => ?_⟩
   ·simp only[tick_eq,okN_tree,tst_t,sub_i,wn,fld3,fld5,fld6,fld7,some_bind,lenV_sl,limbs_len,strs_len,trs_len,d1,lns_s,d2,d3,d4,asBool_b,zF,if_false,if_true,l1,q3,vec_0]
   ·obtain⟨a1,a2⟩:=q4 h
    exact⟨.mk t (by omega) (by omega) (by omega) (by omega) hks a1,by rw[nodes_eq];omega⟩
  ·refine⟨-1,by decide,by omega,?_,fun h=>by omega⟩
   simp only[tick_eq,okN_tree,tst_t,sub_i,wn,fld3,fld5,fld6,fld7,some_bind,lenV_sl,limbs_len,strs_len,trs_len,d1,lns_s,d2,d3,d4,asBool_b,zF,if_false,if_true,l1,Nat.one_ne_zero,vec_0]
theorem Light_ok(t:Tree)(n:Nat)(hn:n≤1000000) : ∃ b,P0 f_law00_Light [.v t.val,.v (.int .i64 (n:Int))] []=some (.bool b,[])∧(b=true→LightT t∧nodes t≤n):=by
 obtain⟨r,h1,h2,h3,h4⟩:=light_ok t n (by omega) (by omega)
 refine⟨decide (0≤r),?_,fun h => ?_⟩
 ·rw[eq_law00_Light];unfold F_law00_Light
  simp only[tick_eq,okN_tree,tst_t,h3,some_bind,geq_i]
 ·have:=h4 (of_decide_eq_true h)
  exact⟨this.1,by have:=this.2;have:=of_decide_eq_true h;omega⟩
end Go.Ev
