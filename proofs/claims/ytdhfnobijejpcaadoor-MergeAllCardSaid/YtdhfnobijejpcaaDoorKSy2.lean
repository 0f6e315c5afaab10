/- Limits of what is merged: by the code, by the reference. -/
import Derived.Test.YtdhfnobijejpcaaDoorKSy1
set_option linter.all false
open Option renaming map_some→zC
open Bool renaming false_eq_true→zF,not_true→zH,not_false→zI
open List renaming getElem?_eq_getElem→zL,drop_eq_getElem_cons→zO,mem_cons_of_mem→zP,drop_eq_nil_of_le→zQ,drop_zero→zU
namespace Go.Ev
attribute [local irreducible] P0
theorem rweight_loop(t:Tree)(hl:t.v.length≤1000000000)(hw : ∀ x,x∈t.v→P0 f_ref05_Weight [.v x.val] []=some (.int .i64 (weight x:Nat),[]))(m:Nat) : ∀ (i a:Nat),i+m=t.v.length→a+weightL (t.v.drop i)≤1000000000 →
  loopL (L_ref05_Weight_1 t.val) (vec [.int .i64 (a:Int),.int .i64 (i:Int)])=some (0,vec [.int .i64 ((a+weightL (t.v.drop i):Nat):Int)]):=by
 induction m with
 | zero=>
  intro i a hi ha
  apply loopL_inr
  unfold L_ref05_Weight_1
  have c1 : ¬ (i:Int)<(t.v.length:Int):=by omega
  have e:t.v.drop i=[]:=zQ (by omega)
  simp only[tick_eq,vec_0,vec_s,fld7,lenV_sl,trs_len,lss_i,c1,decide_false,some_bind,asBool_b,zF,if_false,e,weightL,Nat.add_zero]
 | succ m ih=>
  intro i a hi ha
  have hlt:i<t.v.length:=by omega
  have c1:(i:Int)<(t.v.length:Int):=by omega
  have hx:t.v[i]?=some t.v[i]:=zL hlt
  rw[weightL_drop _ _ hlt]at ha ⊢
  have wa:IntKind.i64.wrap ((a:Int)+((weight t.v[i]:Nat):Int))=((a+weight t.v[i]:Nat):Int):=w64 (a:=(a:Int)+((weight t.v[i]:Nat):Int)) (by omega)
  rw[← Nat.add_assoc,← ih (i+1) (a+weight t.v[i]) (by omega) (by omega)]
  apply loopL_inl
  unfold L_ref05_Weight_1
  simp only[tick_eq,vec_0,vec_s,fld7,lenV_sl,trs_len,lss_i,c1,decide_true,some_bind,asBool_b,if_true,asSl_trs,idx_nat _ i t.v.length hlt,trs_get,hx,zC,okN_tree,tst_t,hw _ (List.getElem_mem hlt),add_i,wa,i64_succ (i:=i) (by omega)]
theorem rweight_ok : ∀ t:Tree,weight t≤1000000000→P0 f_ref05_Weight [.v t.val] []=some (.int .i64 (weight t:Nat),[]):=by
 intro t
 induction t using Tree.ind with
 | h t ih=>
  intro hw
  rw[weight_eq]at hw
  have hlen:=len_weightL t.v
  have hp:=w1_pos t
  have hloop:=rweight_loop t (by omega) (fun x hx=>ih x hx (by have:=weightL_le hx;omega)) t.v.length 0 (w1 t) (by omega) (by rw[zU];omega)
  rw[zU,show((0:Nat):Int)=0 from rfl,← weight_eq]at hloop
  rw[eq_ref05_Weight];unfold F_ref05_Weight
  by_cases h3:t.kind=3
  ·have e:w1 t=1+t.n.m.length:=by unfold w1;rw[if_pos h3]
   have wn:IntKind.i64.wrap (1+((t.n.m.length:Nat):Int))=((w1 t:Nat):Int):=by rw[w64 (a:=1+((t.n.m.length:Nat):Int)) (by omega)];omega
   simp only[tick_eq,okN_tree,tst_t,fld0,some_bind,eql_i,h3,decide_true,asBool_b,if_true,fld3,lenV_sl,limbs_len,wn,fld7,trs_len,vec_0,hloop]
  by_cases h45:t.kind=4∨t.kind=5
  ·have e:w1 t=1+t.s.length:=by unfold w1;rw[if_neg h3];rcases h45 with h | h<;>simp[h]
   have wn:IntKind.i64.wrap (1+((t.s.length:Nat):Int))=((w1 t:Nat):Int):=by rw[w64 (a:=1+((t.s.length:Nat):Int)) (by omega)];omega
   rcases h45 with h | h
   ·simp only[tick_eq,okN_tree,tst_t,fld0,some_bind,eql_i,h,Int.reduceEq,decide_true,decide_false,asBool_b,zF,if_false,if_true,vec_0,fld5,lns_s,wn,fld7,lenV_sl,trs_len,hloop]
   ·simp only[tick_eq,okN_tree,tst_t,fld0,some_bind,eql_i,h,Int.reduceEq,decide_true,decide_false,asBool_b,zF,if_false,if_true,vec_0,fld5,lns_s,wn,fld7,lenV_sl,trs_len,hloop]
  ·have e:w1 t=1:=by
    unfold w1;rw[if_neg h3,if_neg (fun h=>h45 (.inl h)),if_neg (fun h=>h45 (.inr h))]
   have h4 : ¬ t.kind=4:=fun h=>h45 (.inl h)
   have h5 : ¬ t.kind=5:=fun h=>h45 (.inr h)
   rw[e,show((1:Nat):Int)=1 from rfl]at hloop
   simp only[tick_eq,okN_tree,tst_t,fld0,some_bind,eql_i,h3,h4,h5,decide_false,asBool_b,zF,if_false,vec_0,fld7,lenV_sl,trs_len,hloop]
theorem rnodes_loop(t:Tree)(hl:t.v.length≤1000000000)(hw : ∀ x,x∈t.v→P0 f_ref05_Nodes [.v x.val] []=some (.int .i64 (nodes x:Nat),[]))(m:Nat) : ∀ (i a:Nat),i+m=t.v.length→a+nodesL (t.v.drop i)≤1000000000 →
  loopL (L_ref05_Nodes_1 t.val) (vec [.int .i64 (a:Int),.int .i64 (i:Int)])=some (0,vec [.int .i64 ((a+nodesL (t.v.drop i):Nat):Int)]):=by
 induction m with
 | zero=>
  intro i a hi ha
  apply loopL_inr
  unfold L_ref05_Nodes_1
  have c1 : ¬ (i:Int)<(t.v.length:Int):=by omega
  have e:t.v.drop i=[]:=zQ (by omega)
  simp only[tick_eq,vec_0,vec_s,fld7,lenV_sl,trs_len,lss_i,c1,decide_false,some_bind,asBool_b,zF,if_false,e,nodesL,Nat.add_zero]
 | succ m ih=>
  intro i a hi ha
  have hlt:i<t.v.length:=by omega
  have c1:(i:Int)<(t.v.length:Int):=by omega
  have hx:t.v[i]?=some t.v[i]:=zL hlt
  have hd:nodesL (t.v.drop i)=nodes t.v[i]+nodesL (t.v.drop (i+1)):=by rw[zO hlt,nodesL]
  rw[hd]at ha ⊢
  have wa:IntKind.i64.wrap ((a:Int)+((nodes t.v[i]:Nat):Int))=((a+nodes t.v[i]:Nat):Int):=w64 (a:=(a:Int)+((nodes t.v[i]:Nat):Int)) (by omega)
  rw[← Nat.add_assoc,← ih (i+1) (a+nodes t.v[i]) (by omega) (by omega)]
  apply loopL_inl
  unfold L_ref05_Nodes_1
  simp only[tick_eq,vec_0,vec_s,fld7,lenV_sl,trs_len,lss_i,c1,decide_true,some_bind,asBool_b,if_true,asSl_trs,idx_nat _ i t.v.length hlt,trs_get,hx,zC,okN_tree,tst_t,hw _ (List.getElem_mem hlt),add_i,wa,i64_succ (i:=i) (by omega)]
theorem rnodes_ok : ∀ t:Tree,nodes t≤1000000000→P0 f_ref05_Nodes [.v t.val] []=some (.int .i64 (nodes t:Nat),[]):=by
 intro t
 induction t using Tree.ind with
 | h t ih=>
  intro hw
  rw[nodes_eq]at hw
  have hlen:=len_nodesL t.v
  have hloop:=rnodes_loop t (by omega) (fun x hx=>ih x hx (by have:=nodesL_le hx;omega)) t.v.length 0 1 (by omega) (by rw[zU];omega)
  rw[zU,show((0:Nat):Int)=0 from rfl,show((1:Nat):Int)=1 from rfl,← nodes_eq]at hloop
  rw[eq_ref05_Nodes];unfold F_ref05_Nodes
  simp only[tick_eq,okN_tree,tst_t,fld7,some_bind,lenV_sl,trs_len,hloop,vec_0]
theorem rdepth_loop(t:Tree)(hl:t.v.length≤1000000000)(hw : ∀ x,x∈t.v→P0 f_ref05_Depth [.v x.val] []=some (.int .i64 (depth x:Nat),[]))(m:Nat) : ∀ (i a:Nat),i+m=t.v.length →
  loopL (L_ref05_Depth_1 t.val) (vec [.int .i64 (a:Int),.int .i64 (i:Int)])=some (0,vec [.int .i64 ((max a (depthL (t.v.drop i)):Nat):Int)]):=by
 induction m with
 | zero=>
  intro i a hi
  apply loopL_inr
  unfold L_ref05_Depth_1
  have c1 : ¬ (i:Int)<(t.v.length:Int):=by omega
  have e:t.v.drop i=[]:=zQ (by omega)
  simp only[tick_eq,vec_0,vec_s,fld7,lenV_sl,trs_len,lss_i,c1,decide_false,some_bind,asBool_b,zF,if_false,e,depthL,Nat.max_zero]
 | succ m ih=>
  intro i a hi
  have hlt:i<t.v.length:=by omega
  have c1:(i:Int)<(t.v.length:Int):=by omega
  have hx:t.v[i]?=some t.v[i]:=zL hlt
  have hd:depthL (t.v.drop i)=max (depth t.v[i]) (depthL (t.v.drop (i+1))):=by rw[zO hlt,depthL]
  rw[hd,← Nat.max_assoc,← ih (i+1) (max a (depth t.v[i])) (by omega)]
  apply loopL_inl
  unfold L_ref05_Depth_1
  simp only[tick_eq,vec_0,vec_s,fld7,lenV_sl,trs_len,lss_i,c1,decide_true,some_bind,asBool_b,if_true,asSl_trs,idx_nat _ i t.v.length hlt,trs_get,hx,zC,okN_tree,tst_t,hw _ (List.getElem_mem hlt),maxV_2,add_i,i64_succ (i:=i) (by omega)]
theorem rdepth_ok : ∀ t:Tree,nodes t≤1000000000→P0 f_ref05_Depth [.v t.val] []=some (.int .i64 (depth t:Nat),[]):=by
 intro t
 induction t using Tree.ind with
 | h t ih=>
  intro hw
  have hdn:=depth_nodes t
  rw[nodes_eq]at hw
  have hlen:=len_nodesL t.v
  have hloop:=rdepth_loop t (by omega) (fun x hx=>ih x hx (by have:=nodesL_le hx;omega)) t.v.length 0 0 (by omega)
  rw[zU,show((0:Nat):Int)=0 from rfl,Nat.zero_max]at hloop
  rw[depth_eq,nodes_eq]at hdn
  have wd:IntKind.i64.wrap (((depthL t.v:Nat):Int)+1)=((depth t:Nat):Int):=by rw[w64 (a:=((depthL t.v:Nat):Int)+1) (by omega),depth_eq];omega
  rw[eq_ref05_Depth];unfold F_ref05_Depth
  simp only[tick_eq,okN_tree,tst_t,fld7,some_bind,lenV_sl,trs_len,hloop,vec_0,add_i,wd]
mutual
def fewB:Tree→Bool
 | .mk _ _ _ _ _ v=>decide (v.length≤300) && fewL v
def fewL:List Tree→Bool
 | []=>true
 | x::r=>fewB x && fewL r
end
theorem few_eq(t:Tree):fewB t=(decide (t.v.length≤300) && fewL t.v):=by cases t;rw[fewB];rfl
theorem fewL_any(l:List Tree):fewL l = !(l.any fun x => !fewB x):=by
 induction l with
 | nil=>rfl
 | cons x r ih=>rw[fewL,ih];cases hb:fewB x<;>simp[hb]
theorem few_ok : ∀ t,weight t≤1000000→P0 f_merge_few [.v t.val] []=some (.bool (fewB t),[]):=by
 intro t
 induction t using Tree.ind with
 | h t ih=>
 intro hw
 rw[weight_eq]at hw
 have hl:=len_weightL t.v
 rw[eq_merge_few,few_eq];unfold F_merge_few
 have hg : ∀ x,x∈t.v→P0 f_merge_few_1 [.v x.val] []=some (.bool (!fewB x),[]):=by
  intro x hx
  rw[eq_merge_few_1];unfold F_merge_few_1
  simp only[tick_eq,okN_tree,tst_t,ih x hx (by have:=weightL_le hx;omega),some_bind,not_b]
 have hc:=contT_ok f_merge_few_1 _ t.v hg (by omega)
 rw[fewL_any]
 by_cases h:t.v.length≤300
 ·have c1:((t.v.length:Nat):Int)≤300:=by omega
  simp only[tick_eq,okN_tree,tst_t,fld7,some_bind,lenV_sl,trs_len,c1,decide_true,if_true,hc,not_b,h,Bool.true_and]
 ·have c1 : ¬ ((t.v.length:Nat):Int)≤300:=by omega
  simp only[tick_eq,okN_tree,tst_t,fld7,some_bind,lenV_sl,trs_len,c1,decide_false,zF,if_false,h,Bool.false_and]
theorem wide_loop(t:Tree)(hl:t.v.length≤1000000)(hc : ∀ x,x∈t.v→P0 f_ref15_wide [.v x.val] []=some (.bool (!fewB x),[]))(m:Nat) : ∀ i,i+m=t.v.length →
  loopL (L_ref15_wide_1 t.val) (vec [.int .i64 (i:Int)])=if fewL (t.v.drop i)=true then some (0,vec [])else some (1,vec [.bool true]):=by
 induction m with
 | zero=>
  intro i hi
  rw[zQ (by omega)]
  rw[if_pos (show fewL []=true by simp[fewL])]
  apply loopL_inr
  unfold L_ref15_wide_1
  have c1 : ¬ (i:Int)<(t.v.length:Int):=by omega
  simp only[tick_eq,vec_0,fld7,lenV_sl,trs_len,some_bind,lss_i,c1,decide_false,asBool_b,zF,if_false]
 | succ m ih=>
  intro i hi
  have h1:i<t.v.length:=by omega
  have c1:(i:Int)<(t.v.length:Int):=by omega
  have hx:t.v[i]?=some t.v[i]:=zL h1
  have hcx:=hc _ (List.getElem_mem h1)
  rw[zO h1,fewL]
  generalize t.v[i]=x at *
  cases hb:fewB x with
  | false=>
   simp only[Bool.false_and,zF,if_false]
   rw[hb]at hcx
   apply loopL_inr
   unfold L_ref15_wide_1
   simp only[tick_eq,vec_0,fld7,lenV_sl,trs_len,some_bind,lss_i,c1,decide_true,asBool_b,if_true,asSl_trs,idx_nat _ i t.v.length h1,trs_get,hx,zC,hcx,zI]
  | true=>
   rw[Bool.true_and,← ih (i+1) (by omega)]
   rw[hb]at hcx
   apply loopL_inl
   unfold L_ref15_wide_1
   simp only[tick_eq,vec_0,fld7,lenV_sl,trs_len,some_bind,lss_i,c1,decide_true,asBool_b,if_true,asSl_trs,idx_nat _ i t.v.length h1,trs_get,hx,zC,hcx,zH,zF,if_false,add_i,i64_succ (i:=i) (by omega)]
theorem wide_ok : ∀ t,weight t≤1000000→P0 f_ref15_wide [.v t.val] []=some (.bool (!fewB t),[]):=by
 intro t
 induction t using Tree.ind with
 | h t ih=>
 intro hw
 rw[weight_eq]at hw
 have hl:=len_weightL t.v
 have h:=wide_loop t (by omega) (fun x hx=>ih x hx (by have:=weightL_le hx;omega)) t.v.length 0 (by omega)
 rw[zU,show((0:Nat):Int)=0 from rfl]at h
 rw[eq_ref15_wide,few_eq];unfold F_ref15_wide
 cases hb:fewL t.v with
 | true=>
  rw[hb,if_pos rfl]at h
  have c1:decide (((t.v.length:Nat):Int) > 300) = !(decide (t.v.length≤300) && true):=by
   by_cases q:t.v.length≤300
   ·rw[decide_eq_true q,decide_eq_false (by omega)];rfl
   ·rw[decide_eq_false q,decide_eq_true (by omega)];rfl
  simp only[tick_eq,okN_tree,tst_t,h,some_bind,if_true,fld7,lenV_sl,trs_len,c1]
 | false=>
  rw[hb]at h
  simp only[zF,if_false]at h
  simp only[tick_eq,okN_tree,tst_t,h,some_bind,Nat.one_ne_zero,if_false,vec_0,Bool.and_false,zI]
/-- within limits -/
def fitB(t:Tree)(w:Int):Bool:=decide ((weight t:Int)≤w) && decide ((nodes t:Int)≤2000) && decide ((depth t:Int)≤64) && fewB t
theorem nodes_weight : ∀ t:Tree,nodes t≤weight t:=by
 intro t
 induction t using Tree.ind with
 | h t ih=>
  rw[nodes_eq,weight_eq]
  have hp:=w1_pos t
  have : ∀ l:List Tree,(∀ x,x∈l→nodes x≤weight x)→nodesL l≤weightL l:=by
   intro l
   induction l with
   | nil=>intro _;simp[nodesL]
   | cons y r ihr=>
    intro h
    have h1:=h y List.mem_cons_self
    have h2:=ihr (fun x hx=>h x (zP _ hx))
    rw[weightL,nodesL];omega
  have:=this t.v ih
  omega
theorem fits_ok(t:Tree)(w:Int)(h:weight t≤1000000):P0 f_merge_fits [.v t.val,.v (.int .i64 w)] []=some (.bool (fitB t w),[]):=by
 have hn:=nodes_weight t
 rw[eq_merge_fits];unfold F_merge_fits fitB
 by_cases c1:(weight t:Int)≤w
 ·by_cases c2:(nodes t:Int)≤2000
  ·by_cases c3:(depth t:Int)≤64
   ·simp only[tick_eq,okN_tree,tst_t,tweight_ok t (by omega),tnodes_ok t (by omega),tdepth_ok t (by omega),few_ok t h,some_bind,leq_i,c1,c2,c3,decide_true,asBool_b,if_true,Bool.true_and]
   ·simp only[tick_eq,okN_tree,tst_t,tweight_ok t (by omega),tnodes_ok t (by omega),tdepth_ok t (by omega),few_ok t h,some_bind,leq_i,c1,c2,c3,decide_true,decide_false,asBool_b,if_true,zF,if_false,Bool.true_and,Bool.and_false,Bool.false_and]
  ·simp only[tick_eq,okN_tree,tst_t,tweight_ok t (by omega),tnodes_ok t (by omega),some_bind,leq_i,c1,c2,decide_true,decide_false,asBool_b,if_true,zF,if_false,Bool.true_and,Bool.and_false,Bool.false_and]
 ·simp only[tick_eq,okN_tree,tst_t,tweight_ok t (by omega),some_bind,leq_i,c1,decide_false,asBool_b,zF,if_false,Bool.and_false,Bool.false_and]
theorem rfits_ok(t:Tree)(w:Int)(h:weight t≤1000000):P0 f_ref15_Fits [.v t.val,.v (.int .i64 w)] []=some (.bool (fitB t w),[]):=by
 have hn:=nodes_weight t
 rw[eq_ref15_Fits];unfold F_ref15_Fits fitB
 by_cases c1:(weight t:Int)≤w
 ·by_cases c2:(nodes t:Int)≤2000
  ·by_cases c3:(depth t:Int)≤64
   ·simp only[tick_eq,okN_tree,tst_t,rweight_ok t (by omega),rnodes_ok t (by omega),rdepth_ok t (by omega),wide_ok t h,some_bind,leq_i,c1,c2,c3,decide_true,asBool_b,if_true,Bool.true_and,not_b,Bool.not_not]
   ·simp only[tick_eq,okN_tree,tst_t,rweight_ok t (by omega),rnodes_ok t (by omega),rdepth_ok t (by omega),some_bind,leq_i,c1,c2,c3,decide_true,decide_false,asBool_b,if_true,zF,if_false,Bool.true_and,Bool.and_false,Bool.false_and]
  ·simp only[tick_eq,okN_tree,tst_t,rweight_ok t (by omega),rnodes_ok t (by omega),some_bind,leq_i,c1,c2,decide_true,decide_false,asBool_b,if_true,zF,if_false,Bool.true_and,Bool.and_false,Bool.false_and]
 ·simp only[tick_eq,okN_tree,tst_t,rweight_ok t (by omega),some_bind,leq_i,c1,decide_false,asBool_b,zF,if_false,Bool.and_false,Bool.false_and]
end Go.Ev
