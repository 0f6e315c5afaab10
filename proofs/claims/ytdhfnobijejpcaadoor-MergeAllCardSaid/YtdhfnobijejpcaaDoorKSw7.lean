/- Values that may be, by the reference: how deep, how many. -/
import Derived.Test.YtdhfnobijejpcaaDoorKSw6
set_option linter.all false
open Option renaming map_some→zC
open Bool renaming false_eq_true→zF,not_true→zH,not_false→zI,true_eq_false→zX
open List renaming getElem?_eq_getElem→zL,drop_eq_getElem_cons→zO,mem_cons_of_mem→zP,drop_eq_nil_of_le→zQ,drop_zero→zU
namespace Go.Ev
attribute [local irreducible] P0
theorem LightT.sub{t:Tree}(h:LightT t) : ∀ x,x∈t.v→LightT x:=by cases h;assumption
theorem rfields_l{t:Tree}(ht:TameT t)(hl:LightT t):P0 f_ref05_fields [.v t.val] []=some (.bool (ownB t),[]):=by
 cases hl with
 | mk _ h1 h2 h3 h4 h5 hv=>exact rfields_all t ht.tame (by omega) (by omega) (by omega) (fun x hx=>by have:=h5 x hx;omega)
theorem rwalk_loop(t:Tree)(deep:Nat)(hd:deep≤1000)(hl:t.v.length≤1000)
  (hc : ∀ x,x∈t.v → ∀ n:Int,0≤n→n≤2000 → ∃ r:Int,-1≤r∧r≤2000∧P0 f_ref05_walk [.v x.val,.v (.int .i64 ((deep+1:Nat):Int)),.v (.int .i64 n)] []=some (.int .i64 r,[])∧(0≤r↔Fits x (deep+1) (2000 - n))∧(0≤r→r=n+nodes x)) (m:Nat) : ∀ i (n:Int),i+m=t.v.length → -1≤n→n≤2000 →
  ∃ r:Int,-1≤r∧r≤2000∧loopL (L_ref05_walk_1 t.val (.int .i64 (deep:Int))) (vec [.int .i64 n,.int .i64 (i:Int)])=some (0,vec [.int .i64 r])∧(0≤r↔0≤n∧FitsL (t.v.drop i) (deep+1) (2000 - n))∧(0≤r→r=n+nodesL (t.v.drop i)):=by
 induction m with
 | zero=>
  intro i n hi h0 h1
  have e:t.v.drop i=[]:=zQ (by omega)
  refine⟨n,h0,h1,loopL_inr ?_,?_,?_⟩
  ·unfold L_ref05_walk_1
   have c1 : ¬ (i:Int)<(t.v.length:Int):=by omega
   simp only[tick_eq,fld7,lenV_sl,some_bind,trs_len,vec_0,vec_s,lss_i,c1,decide_false,asBool_b,zF,if_false]
  ·rw[e];exact⟨fun h=>⟨h,fun x hx=>by simp at hx,by simp[nodesL];omega⟩,fun h=>h.1⟩
  ·rw[e];intro _;simp[nodesL]
 | succ m ih=>
  intro i n hi h0 h1
  have hlt:i<t.v.length:=by omega
  have c1:(i:Int)<(t.v.length:Int):=by omega
  have hdr:=zO hlt
  by_cases hn:0≤n
  ·have hx:t.v[i]?=some t.v[i]:=zL hlt
   obtain⟨r1,p1,p2,p3,p4,p5⟩:=hc _ (List.getElem_mem hlt) n hn h1
   obtain⟨r,q1,q2,q3,q4,q5⟩:=ih (i+1) r1 (by omega) p1 p2
   have hnp:=nodes_pos t.v[i]
   refine⟨r,q1,q2,?_,?_,?_⟩
   ·rw[← q3]
    apply loopL_inl
    unfold L_ref05_walk_1
    simp only[tick_eq,fld7,lenV_sl,some_bind,trs_len,vec_0,vec_s,lss_i,c1,decide_true,asBool_b,if_true,geq_i,hn,asSl_trs,idx_nat _ i t.v.length hlt,trs_get,hx,zC,add_i,i64s (i:=deep) (by omega),p3,i64s (i:=i) (by omega)]
   ·rw[q4,hdr]
    constructor
    ·rintro⟨a,b1,b2⟩
     obtain⟨f1,f2,f3⟩:=p4.1 a
     have:=p5 a
     refine⟨hn,fun x hx2 => ?_,by rw[nodesL];omega⟩
     rcases List.mem_cons.1 hx2 with rfl | hx2
     ·exact⟨f1,f2⟩
     ·exact b1 x hx2
    ·rintro⟨_,b1,b2⟩
     rw[nodesL]at b2
     have a:0≤r1:=p4.2 ⟨(b1 _ List.mem_cons_self).1,(b1 _ List.mem_cons_self).2,by omega⟩
     have:=p5 a
     exact⟨a,fun x hx2=>b1 x (zP _ hx2),by omega⟩
   ·intro h
    obtain⟨a,_⟩:=q4.1 h
    have:=p5 a
    have:=q5 h
    rw[hdr,nodesL];omega
  ·refine⟨n,h0,h1,loopL_inr ?_,⟨fun h=>absurd h hn,fun h=>absurd h.1 hn⟩,fun h=>absurd h hn⟩
   unfold L_ref05_walk_1
   simp only[tick_eq,fld7,lenV_sl,some_bind,trs_len,vec_0,vec_s,lss_i,c1,decide_true,asBool_b,if_true,geq_i,hn,decide_false,zF,if_false]
theorem rwalk_ok(t:Tree)(ht:TameT t):LightT t → ∀ (deep:Nat) (n:Int),deep≤66→0≤n→n≤2000 → ∃ r:Int,-1≤r∧r≤2000∧P0 f_ref05_walk [.v t.val,.v (.int .i64 (deep:Int)),.v (.int .i64 n)] []=some (.int .i64 r,[])∧(0≤r↔Fits t deep (2000 - n))∧(0≤r→r=n+nodes t):=by
 induction ht with
 | mk t htm hv ih=>
  intro hlt deep n hd h0 h1
  have hf:=rfields_l (.mk t htm hv) hlt
  rw[eq_ref05_walk];unfold F_ref05_walk
  have w1:IntKind.i64.wrap (n+1)=n+1:=w64 (by omega)
  have hn:=nodes_pos t
  by_cases c1:2000<n+1
  ·refine⟨-1,by decide,by decide,?_,⟨fun h=>by omega,fun h => ?_⟩,fun h=>by omega⟩
   ·simp only[tick_eq,okN_tree,tst_t,add_i,w1,some_bind,gtr_i,c1,decide_true,asBool_b,zX,if_false,if_true]
   ·have:=h.2.2;omega
  by_cases c2:64<deep
  ·have c2':(64:Int)<(deep:Int):=by omega
   refine⟨-1,by decide,by decide,?_,⟨fun h=>by omega,fun h => ?_⟩,fun h=>by omega⟩
   ·simp only[tick_eq,okN_tree,tst_t,add_i,w1,some_bind,gtr_i,c1,decide_false,asBool_b,if_true,c2',decide_true,zX,if_false]
   ·have:=h.2.1;rw[depth_eq]at this;omega
  have c2' : ¬ (64:Int)<(deep:Int):=by omega
  cases ho:ownB t with
  | false=>
   rw[ho]at hf
   refine⟨-1,by decide,by decide,?_,⟨fun h=>by omega,fun h => ?_⟩,fun h=>by omega⟩
   ·simp only[tick_eq,okN_tree,tst_t,add_i,w1,some_bind,gtr_i,c1,decide_false,asBool_b,if_true,c2',hf,not_b,zI]
   ·have:=h.1.own;rw[ho]at this;contradiction
  | true=>
   rw[ho]at hf
   have hl:=own_len ho
   obtain⟨r,q1,q2,q3,q4,q5⟩:=rwalk_loop t deep (by omega) (by omega) (fun x hx n a b=>ih x hx (hlt.sub x hx) (deep+1) n (by omega) a b) t.v.length 0 (n+1) (by omega) (by omega) (by omega)
   rw[show((0:Nat):Int)=0 from rfl]at q3
   rw[zU]at q4 q5
   refine⟨r,q1,q2,?_,?_,?_⟩
   ·simp only[tick_eq,okN_tree,tst_t,add_i,w1,some_bind,gtr_i,c1,decide_false,asBool_b,if_true,c2',hf,not_b,zH,zF,if_false,q3,vec_0]
   ·rw[q4]
    constructor
    ·rintro⟨_,a1,a2⟩
     refine⟨.mk t ho (fun x hx=>(a1 x hx).1),?_,by rw[nodes_eq];omega⟩
     rw[depth_eq]
     have : ∀ l:List Tree,(∀ x,x∈l→deep+1+depth x≤65)→deep+1≤65→deep+(1+depthL l)≤65:=by
      intro l
      induction l with
      | nil=>intro _ h;simp[depthL];omega
      | cons y r ihr=>
       intro h h2
       have g1:=h y List.mem_cons_self
       have g2:=ihr (fun x hx=>h x (zP _ hx)) h2
       rw[depthL];omega
     exact this t.v (fun x hx=>(a1 x hx).2) (by omega)
    ·rintro⟨a1,a2,a3⟩
     rw[nodes_eq]at a3
     rw[depth_eq]at a2
     exact⟨by omega,fun x hx=>⟨a1.sub x hx,by have:=depthL_le hx;omega⟩,by omega⟩
   ·intro h;have:=q5 h;rw[nodes_eq];omega
theorem rCheck_ok(t:Tree)(ht:TameT t)(hl:LightT t) : ∃ b,P0 f_ref05_Check [.v t.val] []=some (.bool b,[])∧(b=true↔OkG t∧depth t≤64∧nodes t≤2000):=by
 obtain⟨r,h1,h2,h3,h4,h5⟩:=rwalk_ok t ht hl 1 0 (by decide) (by decide) (by decide)
 have h3:P0 f_ref05_walk [.v t.val,.v (.int .i64 1),.v (.int .i64 0)] []=some (.int .i64 r,[]):=h3
 refine⟨decide (0≤r),?_,?_⟩
 ·rw[eq_ref05_Check];unfold F_ref05_Check
  simp only[tick_eq,okN_tree,tst_t,h3,some_bind,geq_i]
 ·rw[decide_eq_true_eq,h4]
  exact⟨fun⟨a1,a2,a3⟩=>⟨a1,by omega,by omega⟩,fun⟨a1,a2,a3⟩=>⟨a1,by omega,by omega⟩⟩
end Go.Ev
