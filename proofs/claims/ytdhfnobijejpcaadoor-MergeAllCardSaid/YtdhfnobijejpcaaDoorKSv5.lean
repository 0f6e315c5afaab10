/- Values that may be: how deep, how many; weights. -/
import Derived.Test.YtdhfnobijejpcaaDoorKSv4
set_option linter.all false
open Option renaming map_some→zC
open Bool renaming false_eq_true→zF,and_eq_true→zG,not_true→zH,not_false→zI,true_eq_false→zX
open List renaming getElem?_eq_getElem→zL,getElem?_cons_zero→zM,drop_eq_getElem_cons→zO,mem_cons_of_mem→zP,drop_eq_nil_of_le→zQ,drop_zero→zU
namespace Go.Ev
attribute [local irreducible] P0
mutual
def depth:Tree→Nat
 | .mk _ _ _ _ _ v=>1+depthL v
def depthL:List Tree→Nat
 | []=>0
 | x::r=>max (depth x) (depthL r)
end
theorem depth_eq(t:Tree):depth t=1+depthL t.v:=by cases t;rw[depth];rfl
theorem depthL_le{l:List Tree}{x:Tree}(h:x∈l):depth x≤depthL l:=by
 induction l with
 | nil=>simp at h
 | cons y r ih=>
  rw[depthL]
  rcases List.mem_cons.1 h with rfl | h
  ·omega
  ·have:=ih h;omega
theorem nodesL_le{l:List Tree}{x:Tree}(h:x∈l):nodes x≤nodesL l:=by
 induction l with
 | nil=>simp at h
 | cons y r ih=>
  rw[nodesL]
  rcases List.mem_cons.1 h with rfl | h
  ·omega
  ·have:=ih h;omega
theorem nodes_pos(t:Tree):1≤nodes t:=by rw[nodes_eq];omega
theorem len_nodesL(l:List Tree):l.length≤nodesL l:=by
 induction l with
 | nil=>simp
 | cons x r ih=>rw[nodesL,List.length_cons];have:=nodes_pos x;omega
inductive OkG:Tree→Prop
 | mk (t:Tree) (h:ownB t=true) (hv : ∀ x,x∈t.v→OkG x):OkG t
theorem OkG.own{t:Tree}(h:OkG t):ownB t=true:=by cases h;assumption
theorem OkG.sub{t:Tree}(h:OkG t) : ∀ x,x∈t.v→OkG x:=by cases h;assumption
inductive TameT:Tree→Prop
 | mk (t:Tree) (h:Tame t) (hv : ∀ x,x∈t.v→TameT x):TameT t
theorem own_len{t:Tree}(h:ownB t=true):t.v.length≤300:=by
 have v0f:v0 t=true→t.v.length≤300:=fun q=>by unfold v0 at q;have:=eq_of_beq q;omega
 unfold ownB at h
 repeat' (split at h)
 all_goals first
  | contradiction
  | (simp only[zG,decide_eq_true_eq]at h;first | exact h.2 | exact v0f h.2)
/-- what is asked of a value, so deep, with so many left -/
def Fits(t:Tree)(deep:Nat)(left:Int):Prop:=OkG t∧deep+depth t≤65∧(nodes t:Int)≤left
def FitsL(l:List Tree)(deep:Nat)(left:Int):Prop:=(∀ x,x∈l→OkG x∧deep+depth x≤65)∧(nodesL l:Int)≤left
theorem check_loop(t:Tree)(deep:Nat)(hd:deep≤1000)(hl:t.v.length≤300)
  (hc : ∀ x,x∈t.v → ∀ left:Int,0≤left→left≤2000 → ∃ b left',P0 f_tree_check [.v x.val,.v (.int .i64 ((deep+1:Nat):Int)),.p 0 0] [(false,1,.int .i64 left)]=some (.bool b,[.int .i64 left'])∧(b=true↔Fits x (deep+1) left)∧(b=true→left'=left - nodes x)) (m:Nat) : ∀ i (left:Int),i+m=t.v.length→0≤left→left≤2000 →
  ∃ j v left',loopL (L_tree_check_1 t.v.length (.sl (trs t.v)) (.int .i64 (deep:Int))) (vec [.int .i64 (i:Int),.int .i64 left])=some (j,v)∧((FitsL (t.v.drop i) (deep+1) left∧j=0∧v=vec [.int .i64 left']∧left'=left - nodesL (t.v.drop i))∨(¬ FitsL (t.v.drop i) (deep+1) left∧j=1∧v=vec [.bool false,.int .i64 left'])):=by
 induction m with
 | zero=>
  intro i left hi h0 h1
  have e:t.v.drop i=[]:=zQ (by omega)
  refine⟨0,vec [.int .i64 left],left,loopL_inr ?_,.inl ⟨?_,rfl,rfl,?_⟩⟩
  ·unfold L_tree_check_1
   have c1 : ¬ (i:Int)<(t.v.length:Int):=by omega
   simp only[tick_eq,vec_0,vec_s,lss_i,c1,decide_false,some_bind,asBool_b,zF,if_false]
  ·rw[e];exact⟨fun x hx=>by simp at hx,by simp[nodesL];exact h0⟩
  ·rw[e];simp[nodesL]
 | succ m ih=>
  intro i left hi h0 h1
  have hlt:i<t.v.length:=by omega
  have c1:(i:Int)<(t.v.length:Int):=by omega
  have hx:t.v[i]?=some t.v[i]:=zL hlt
  obtain⟨b,l1,p1,p2,p3⟩:=hc _ (List.getElem_mem hlt) left h0 h1
  have hdr:=zO hlt
  have wd:IntKind.i64.wrap ((deep:Int)+1)=((deep+1:Nat):Int):=i64s (by omega)
  cases b with
  | true=>
   have hf:=p2.1 rfl
   have hl1:=p3 rfl
   have hnp:=nodes_pos t.v[i]
   obtain⟨f1,f2,f3⟩:=hf
   obtain⟨j,v,l2,q1,q2⟩:=ih (i+1) l1 (by omega) (by omega) (by omega)
   refine⟨j,v,l2,?_,?_⟩
   ·rw[← q1]
    apply loopL_inl
    unfold L_tree_check_1
    simp only[tick_eq,vec_0,vec_s,lss_i,c1,decide_true,some_bind,asBool_b,if_true,asSl_trs,trs_len,idx_nat _ i t.v.length hlt,trs_get,hx,zC,okN_tree,tst_t,add_i,wd,p1,zM,not_b,zH,zF,if_false,i64s (i:=i) (by omega)]
   ·have key:FitsL (t.v.drop i) (deep+1) left↔FitsL (t.v.drop (i+1)) (deep+1) l1:=by
     rw[hdr]
     constructor
     ·rintro⟨a1,a2⟩
      rw[nodesL]at a2
      exact⟨fun x hx=>a1 x (zP _ hx),by omega⟩
     ·rintro⟨a1,a2⟩
      refine⟨fun x hx => ?_,by rw[nodesL];omega⟩
      rcases List.mem_cons.1 hx with rfl | hx
      ·exact⟨f1,f2⟩
      ·exact a1 x hx
    rcases q2 with⟨g1,g2,g3,g4⟩ | ⟨g1,g2,g3⟩
    ·exact .inl ⟨key.2 g1,g2,g3,by rw[hdr,nodesL];omega⟩
    ·exact .inr ⟨fun q=>g1 (key.1 q),g2,g3⟩
  | false=>
   refine⟨1,vec [.bool false,.int .i64 l1],l1,loopL_inr ?_,.inr ⟨fun q => ?_,rfl,rfl⟩⟩
   ·unfold L_tree_check_1
    simp only[tick_eq,vec_0,vec_s,lss_i,c1,decide_true,some_bind,asBool_b,if_true,asSl_trs,trs_len,idx_nat _ i t.v.length hlt,trs_get,hx,zC,okN_tree,tst_t,add_i,wd,p1,zM,not_b,zI]
   ·rw[hdr]at q
    obtain⟨a1,a2⟩:=q
    rw[nodesL]at a2
    have:=p2.2 ⟨(a1 _ List.mem_cons_self).1,(a1 _ List.mem_cons_self).2,by omega⟩
    contradiction
theorem check_ok2(t:Tree)(ht:TameT t) : ∀ (deep:Nat) (left:Int),deep≤66→0≤left→left≤2000 → ∃ b left',P0 f_tree_check [.v t.val,.v (.int .i64 (deep:Int)),.p 0 0] [(false,1,.int .i64 left)]=some (.bool b,[.int .i64 left'])∧(b=true↔Fits t deep left)∧(b=true→left'=left - nodes t):=by
 induction ht with
 | mk t htm hv ih=>
  intro deep left hd h0 h1
  rw[eq_tree_check];unfold F_tree_check
  have w1:IntKind.i64.wrap (left - 1)=left - 1:=w64 (by omega)
  have hn:=nodes_pos t
  by_cases c1:left - 1<0
  ·refine⟨false,left - 1,?_,⟨fun h=>by contradiction,fun h => ?_⟩,fun h=>by contradiction⟩
   ·simp only[tick_eq,okN_tree,tst_t,sub_i,w1,some_bind,okN_int,fld_int,lss_i,c1,decide_true,asBool_b,zX,if_false,if_true]
   ·have:=h.2.2;omega
  by_cases c2:64<deep
  ·have c2':(64:Int)<(deep:Int):=by omega
   refine⟨false,left - 1,?_,⟨fun h=>by contradiction,fun h => ?_⟩,fun h=>by contradiction⟩
   ·simp only[tick_eq,okN_tree,tst_t,sub_i,w1,some_bind,okN_int,fld_int,lss_i,c1,decide_false,asBool_b,if_true,gtr_i,c2',decide_true,zX,if_false]
   ·have:=h.2.1;rw[depth_eq]at this;omega
  have c2' : ¬ (64:Int)<(deep:Int):=by omega
  cases ho:ownB t with
  | false=>
   refine⟨false,left - 1,?_,⟨fun h=>by contradiction,fun h => ?_⟩,fun h=>by contradiction⟩
   ·simp only[tick_eq,okN_tree,tst_t,sub_i,w1,some_bind,okN_int,fld_int,lss_i,c1,decide_false,asBool_b,if_true,gtr_i,c2',town_ok t htm,ho,not_b,zI]
   ·have:=h.1.own;rw[ho]at this;contradiction
  | true=>
   have hl:=own_len ho
   obtain⟨j,v,l2,q1,q2⟩:=check_loop t deep (by omega) hl (fun x hx left a b=>ih x hx (deep+1) left (by omega) a b) t.v.length 0 (left - 1) (by omega) (by omega) (by omega)
   rw[show((0:Nat):Int)=0 from rfl]at q1
   rw[zU]at q2
   have key:FitsL t.v (deep+1) (left - 1)↔Fits t deep left:=by
    constructor
    ·rintro⟨a1,a2⟩
     refine⟨.mk t ho (fun x hx=>(a1 x hx).1),?_,by rw[nodes_eq];omega⟩
     rw[depth_eq]
     have : ∀ l:List Tree,(∀ x,x∈l→deep+1+depth x≤65)→deep+1≤65→deep+(1+depthL l)≤65:=by
      intro l
      induction l with
      | nil=>intro _ h;simp[depthL];omega
      | cons y r ihr=>
       intro h h2
       have g1:=h y List.mem_cons_self
       have g2:=ihr (fun x hx=>h x (zP _ hx)) h2
       rw[depthL];omega
     exact this t.v (fun x hx=>(a1 x hx).2) (by omega)
    ·rintro⟨a1,a2,a3⟩
     rw[nodes_eq]at a3
     rw[depth_eq]at a2
     exact⟨fun x hx=>⟨a1.sub x hx,by have:=depthL_le hx;omega⟩,by omega⟩
   have main : ∀ {b:Bool} {l':Int},(if j=0 then some (V.bool true,[v 0])else some (v 0,[v 1]):Option (V×List V))=some (.bool b,[.int .i64 l'])→(tst (okN 8 t.val) ((binV .sub (.int .i64 left) (.int .i64 1)).bind fun x1=>
     tst (okN 1 x1) ((fldV x1 0).bind fun c2=>(binV .lss c2 (.int .i64 0)).bind fun x3=>(asBool x3).bind fun b4=>((if b4=false then(binV .gtr (.int .i64 (deep:Int)) (.int .i64 64)).bind fun x5=>some x5 else some (.bool true):Option V)).bind fun x6=>(asBool x6).bind fun b7=>
     ((if b7=false then(P0 f_tree_own [.v t.val] []).bind fun r8=>(unV .not r8.1).bind fun x9=>some x9 else some (.bool true):Option V)).bind fun x10=>(asBool x10).bind fun b11=>if b11=true then some ((.bool false),[c2])else(fldV t.val 7).bind fun c12=>(lenV c12).bind fun n13=>
     (loopL (L_tree_check_1 n13 c12 (.int .i64 (deep:Int))) (vec [(.int .i64 0),c2])).bind fun o26=>if o26.1=0 then some ((.bool true),[(o26.2 0)])else some ((o26.2 0),[(o26.2 1)]))))=some (.bool b,[.int .i64 l']):=by
    intro b l' h
    simp only[tick_eq,okN_tree,tst_t,sub_i,w1,some_bind,okN_int,fld_int,lss_i,c1,decide_false,asBool_b,if_true,gtr_i,c2',town_ok t htm,ho,not_b,zH,zF,if_false,fld7,lenV_sl,trs_len,q1]
    exact h
   rcases q2 with⟨g1,g2,g3,g4⟩ | ⟨g1,g2,g3⟩
   ·refine⟨true,l2,main (by rw[g2,g3];rfl),⟨fun _=>key.1 g1,fun _=>rfl⟩,fun _=>by rw[g4,nodes_eq];omega⟩
   ·refine⟨false,l2,main (by rw[g2,g3];rfl),⟨fun h=>by contradiction,fun h=>absurd (key.2 h) g1⟩,fun h=>by contradiction⟩
theorem tCheck_ok(t:Tree)(ht:TameT t) : ∃ b,P0 f_tree_Check [.v t.val] []=some (.bool b,[])∧(b=true↔OkG t∧depth t≤64∧nodes t≤2000):=by
 obtain⟨b,l',h1,h2,h3⟩:=check_ok2 t ht 1 2000 (by decide) (by decide) (by decide)
 have h1:P0 f_tree_check [.v t.val,.v (.int .i64 1),.p 0 0] [(false,1,.int .i64 2000)]=some (.bool b,[.int .i64 l']):=h1
 refine⟨b,?_,h2.trans ⟨fun⟨a1,a2,a3⟩=>⟨a1,by omega,by omega⟩,fun⟨a1,a2,a3⟩=>⟨a1,by omega,by omega⟩⟩⟩
 rw[eq_tree_Check];unfold F_tree_Check
 simp only[tick_eq,okN_tree,tst_t,h1,some_bind,zM]
end Go.Ev
