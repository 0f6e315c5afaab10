/- Weights, numbers of values, depths. -/
import Derived.Test.YtdhfnobijejpcaaDoorKSv5
import Derived.Test.YtdhfnobijejpcaaDoorKSt8
import Derived.Test.YtdhfnobijejpcaaDoorKSp
set_option linter.all false
open Option renaming map_some→zC
open Bool renaming false_eq_true→zF
open List renaming getElem?_eq_getElem→zL,drop_eq_getElem_cons→zO,mem_cons_of_mem→zP,drop_eq_nil_of_le→zQ,drop_zero→zU
namespace Go.Ev
attribute [local irreducible] P0
def w1(t:Tree):Nat:=1+(if t.kind=3 then t.n.m.length else if t.kind=4 then t.s.length else if t.kind=5 then t.s.length else 0)
mutual
def weight:Tree→Nat
 | .mk kind b n s k v=>w1 (.mk kind b n s k v)+weightL v
def weightL:List Tree→Nat
 | []=>0
 | x::r=>weight x+weightL r
end
theorem weight_eq(t:Tree):weight t=w1 t+weightL t.v:=by cases t;rw[weight];rfl
theorem w1_pos(t:Tree):1≤w1 t:=by unfold w1;omega
theorem weightL_drop(l:List Tree)(i:Nat)(h:i<l.length):weightL (l.drop i)=weight l[i]+weightL (l.drop (i+1)):=by
 rw[zO h,weightL]
theorem weightL_le{l:List Tree}{x:Tree}(h:x∈l):weight x≤weightL l:=by
 induction l with
 | nil=>simp at h
 | cons y r ih=>
  rw[weightL]
  rcases List.mem_cons.1 h with rfl | h
  ·omega
  ·have:=ih h;omega
theorem len_weightL(l:List Tree):l.length≤weightL l:=by
 induction l with
 | nil=>simp
 | cons x r ih=>rw[weightL,List.length_cons,weight_eq];have:=w1_pos x;omega
theorem weight_loop(t:Tree)(hl:t.v.length≤1000000000)(hw : ∀ x,x∈t.v→P0 f_tree_Weight [.v x.val] []=some (.int .i64 (weight x:Nat),[]))(m:Nat) : ∀ (i a:Nat),i+m=t.v.length→a+weightL (t.v.drop i)≤1000000000 →
  loopL (L_tree_Weight_1 t.v.length (.sl (trs t.v))) (vec [.int .i64 (a:Int),.int .i64 (i:Int)])=some (0,vec [.int .i64 ((a+weightL (t.v.drop i):Nat):Int)]):=by
 induction m with
 | zero=>
  intro i a hi ha
  apply loopL_inr
  unfold L_tree_Weight_1
  have c1 : ¬ (i:Int)<(t.v.length:Int):=by omega
  have e:t.v.drop i=[]:=zQ (by omega)
  simp only[tick_eq,vec_0,vec_s,lss_i,c1,decide_false,some_bind,asBool_b,zF,if_false,e,weightL,Nat.add_zero]
 | succ m ih=>
  intro i a hi ha
  have hlt:i<t.v.length:=by omega
  have c1:(i:Int)<(t.v.length:Int):=by omega
  have hx:t.v[i]?=some t.v[i]:=zL hlt
  rw[weightL_drop _ _ hlt]at ha ⊢
  have wa:IntKind.i64.wrap ((a:Int)+((weight t.v[i]:Nat):Int))=((a+weight t.v[i]:Nat):Int):=w64 (a:=(a:Int)+((weight t.v[i]:Nat):Int)) (by omega)
  rw[← Nat.add_assoc,← ih (i+1) (a+weight t.v[i]) (by omega) (by omega)]
  apply loopL_inl
  unfold L_tree_Weight_1
  simp only[tick_eq,vec_0,vec_s,lss_i,c1,decide_true,some_bind,asBool_b,if_true,asSl_trs,trs_len,idx_nat _ i t.v.length hlt,trs_get,hx,zC,okN_tree,tst_t,hw _ (List.getElem_mem hlt),add_i,wa,i64_succ (i:=i) (by omega)]
theorem tweight_ok : ∀ t:Tree,weight t≤1000000000→P0 f_tree_Weight [.v t.val] []=some (.int .i64 (weight t:Nat),[]):=by
 intro t
 induction t using Tree.ind with
 | h t ih=>
  intro hw
  rw[weight_eq]at hw
  have hlen:=len_weightL t.v
  have hp:=w1_pos t
  have hloop:=weight_loop t (by omega) (fun x hx=>ih x hx (by have:=weightL_le hx;omega)) t.v.length 0 (w1 t) (by omega) (by rw[zU];omega)
  rw[zU,show((0:Nat):Int)=0 from rfl,← weight_eq]at hloop
  rw[eq_tree_Weight];unfold F_tree_Weight
  by_cases h3:t.kind=3
  ·have e:w1 t=1+t.n.m.length:=by unfold w1;rw[if_pos h3]
   have wn:IntKind.i64.wrap (1+((t.n.m.length:Nat):Int))=((w1 t:Nat):Int):=by rw[w64 (a:=1+((t.n.m.length:Nat):Int)) (by omega)];omega
   simp only[tick_eq,okN_tree,tst_t,fld0,some_bind,eql_i,h3,decide_true,asBool_b,if_true,fld3,lenV_sl,limbs_len,wn,fld7,trs_len,vec_0,hloop]
  by_cases h45:t.kind=4∨t.kind=5
  ·have e:w1 t=1+t.s.length:=by unfold w1;rw[if_neg h3];rcases h45 with h | h<;>simp[h]
   have wn:IntKind.i64.wrap (1+((t.s.length:Nat):Int))=((w1 t:Nat):Int):=by rw[w64 (a:=1+((t.s.length:Nat):Int)) (by omega)];omega
   rcases h45 with h | h
   ·simp only[tick_eq,okN_tree,tst_t,fld0,some_bind,eql_i,h,Int.reduceEq,decide_true,decide_false,asBool_b,zF,if_false,if_true,vec_0,fld5,lns_s,wn,fld7,lenV_sl,trs_len,hloop]
   ·simp only[tick_eq,okN_tree,tst_t,fld0,some_bind,eql_i,h,Int.reduceEq,decide_true,decide_false,asBool_b,zF,if_false,if_true,vec_0,fld5,lns_s,wn,fld7,lenV_sl,trs_len,hloop]
  ·have e:w1 t=1:=by
    unfold w1;rw[if_neg h3,if_neg (fun h=>h45 (.inl h)),if_neg (fun h=>h45 (.inr h))]
   have h4 : ¬ t.kind=4:=fun h=>h45 (.inl h)
   have h5 : ¬ t.kind=5:=fun h=>h45 (.inr h)
   rw[e,show((1:Nat):Int)=1 from rfl]at hloop
   simp only[tick_eq,okN_tree,tst_t,fld0,some_bind,eql_i,h3,h4,h5,decide_false,asBool_b,zF,if_false,vec_0,fld7,lenV_sl,trs_len,hloop]
theorem nodes_loop(t:Tree)(hl:t.v.length≤1000000000)(hw : ∀ x,x∈t.v→P0 f_tree_Nodes [.v x.val] []=some (.int .i64 (nodes x:Nat),[]))(m:Nat) : ∀ (i a:Nat),i+m=t.v.length→a+nodesL (t.v.drop i)≤1000000000 →
  loopL (L_tree_Nodes_1 t.v.length (.sl (trs t.v))) (vec [.int .i64 (a:Int),.int .i64 (i:Int)])=some (0,vec [.int .i64 ((a+nodesL (t.v.drop i):Nat):Int)]):=by
 induction m with
 | zero=>
  intro i a hi ha
  apply loopL_inr
  unfold L_tree_Nodes_1
  have c1 : ¬ (i:Int)<(t.v.length:Int):=by omega
  have e:t.v.drop i=[]:=zQ (by omega)
  simp only[tick_eq,vec_0,vec_s,lss_i,c1,decide_false,some_bind,asBool_b,zF,if_false,e,nodesL,Nat.add_zero]
 | succ m ih=>
  intro i a hi ha
  have hlt:i<t.v.length:=by omega
  have c1:(i:Int)<(t.v.length:Int):=by omega
  have hx:t.v[i]?=some t.v[i]:=zL hlt
  have hd:nodesL (t.v.drop i)=nodes t.v[i]+nodesL (t.v.drop (i+1)):=by rw[zO hlt,nodesL]
  rw[hd]at ha ⊢
  have wa:IntKind.i64.wrap ((a:Int)+((nodes t.v[i]:Nat):Int))=((a+nodes t.v[i]:Nat):Int):=w64 (a:=(a:Int)+((nodes t.v[i]:Nat):Int)) (by omega)
  rw[← Nat.add_assoc,← ih (i+1) (a+nodes t.v[i]) (by omega) (by omega)]
  apply loopL_inl
  unfold L_tree_Nodes_1
  simp only[tick_eq,vec_0,vec_s,lss_i,c1,decide_true,some_bind,asBool_b,if_true,asSl_trs,trs_len,idx_nat _ i t.v.length hlt,trs_get,hx,zC,okN_tree,tst_t,hw _ (List.getElem_mem hlt),add_i,wa,i64_succ (i:=i) (by omega)]
theorem tnodes_ok : ∀ t:Tree,nodes t≤1000000000→P0 f_tree_Nodes [.v t.val] []=some (.int .i64 (nodes t:Nat),[]):=by
 intro t
 induction t using Tree.ind with
 | h t ih=>
  intro hw
  rw[nodes_eq]at hw
  have hlen:=len_nodesL t.v
  have hloop:=nodes_loop t (by omega) (fun x hx=>ih x hx (by have:=nodesL_le hx;omega)) t.v.length 0 1 (by omega) (by rw[zU];omega)
  rw[zU,show((0:Nat):Int)=0 from rfl,show((1:Nat):Int)=1 from rfl,← nodes_eq]at hloop
  rw[eq_tree_Nodes];unfold F_tree_Nodes
  simp only[tick_eq,okN_tree,tst_t,fld7,some_bind,lenV_sl,trs_len,hloop,vec_0]
theorem maxV_2(a b:Nat):maxV (.int .i64 (a:Int)) [.int .i64 (b:Int)]=some (.int .i64 ((max a b:Nat):Int)):=by
 simp only[maxV,if_pos]
 congr 2
 split<;>omega
theorem depth_loop(t:Tree)(hl:t.v.length≤1000000000)(hw : ∀ x,x∈t.v→P0 f_tree_Depth [.v x.val] []=some (.int .i64 (depth x:Nat),[]))(m:Nat) : ∀ (i a:Nat),i+m=t.v.length →
  loopL (L_tree_Depth_1 t.v.length (.sl (trs t.v))) (vec [.int .i64 (a:Int),.int .i64 (i:Int)])=some (0,vec [.int .i64 ((max a (depthL (t.v.drop i)):Nat):Int)]):=by
 induction m with
 | zero=>
  intro i a hi
  apply loopL_inr
  unfold L_tree_Depth_1
  have c1 : ¬ (i:Int)<(t.v.length:Int):=by omega
  have e:t.v.drop i=[]:=zQ (by omega)
  simp only[tick_eq,vec_0,vec_s,lss_i,c1,decide_false,some_bind,asBool_b,zF,if_false,e,depthL,Nat.max_zero]
 | succ m ih=>
  intro i a hi
  have hlt:i<t.v.length:=by omega
  have c1:(i:Int)<(t.v.length:Int):=by omega
  have hx:t.v[i]?=some t.v[i]:=zL hlt
  have hd:depthL (t.v.drop i)=max (depth t.v[i]) (depthL (t.v.drop (i+1))):=by rw[zO hlt,depthL]
  rw[hd,← Nat.max_assoc,← ih (i+1) (max a (depth t.v[i])) (by omega)]
  apply loopL_inl
  unfold L_tree_Depth_1
  simp only[tick_eq,vec_0,vec_s,lss_i,c1,decide_true,some_bind,asBool_b,if_true,asSl_trs,trs_len,idx_nat _ i t.v.length hlt,trs_get,hx,zC,okN_tree,tst_t,hw _ (List.getElem_mem hlt),maxV_2,add_i,i64_succ (i:=i) (by omega)]
theorem depth_nodes : ∀ t:Tree,depth t≤nodes t:=by
 intro t
 induction t using Tree.ind with
 | h t ih=>
  rw[depth_eq,nodes_eq]
  have : ∀ l:List Tree,(∀ x,x∈l→depth x≤nodes x)→depthL l≤nodesL l:=by
   intro l
   induction l with
   | nil=>intro _;simp[depthL]
   | cons y r ihr=>
    intro h
    have h1:=h y List.mem_cons_self
    have h2:=ihr (fun x hx=>h x (zP _ hx))
    rw[depthL,nodesL];omega
  have:=this t.v ih
  omega
theorem tdepth_ok : ∀ t:Tree,nodes t≤1000000000→P0 f_tree_Depth [.v t.val] []=some (.int .i64 (depth t:Nat),[]):=by
 intro t
 induction t using Tree.ind with
 | h t ih=>
  intro hw
  have hdn:=depth_nodes t
  rw[nodes_eq]at hw
  have hlen:=len_nodesL t.v
  have hloop:=depth_loop t (by omega) (fun x hx=>ih x hx (by have:=nodesL_le hx;omega)) t.v.length 0 0 (by omega)
  rw[zU,show((0:Nat):Int)=0 from rfl,Nat.zero_max]at hloop
  rw[depth_eq,nodes_eq]at hdn
  have wd:IntKind.i64.wrap (1+((depthL t.v:Nat):Int))=((depth t:Nat):Int):=by rw[w64 (a:=1+((depthL t.v:Nat):Int)) (by omega),depth_eq];omega
  rw[eq_tree_Depth];unfold F_tree_Depth
  simp only[tick_eq,okN_tree,tst_t,fld7,some_bind,lenV_sl,trs_len,hloop,vec_0,add_i,wd]
end Go.Ev
