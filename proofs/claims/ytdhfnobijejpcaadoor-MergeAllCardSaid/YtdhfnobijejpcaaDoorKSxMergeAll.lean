/- The law: any two trees, any weight. -/
import Derived.Test.YtdhfnobijejpcaaDoorKSy2
import Derived.Test.YtdhfnobijejpcaaDoorKSt9
import Derived.Test.YtdhfnobijejpcaaDoorKSv8
import Derived.Test.YtdhfnobijejpcaaDoorRows
set_option linter.all false
open Bool renaming false_eq_true→zF,not_true→zH,not_false→zI,true_eq_false→zX
open List renaming getElem?_cons_zero→zM,getElem?_cons_succ→zN,mem_cons_of_mem→zP
open Nat renaming le_refl→zR
namespace Go.Ev
attribute [local irreducible] P0
theorem light_weight : ∀ t,LightT t→weight t≤2101 * nodes t:=by
 intro t
 induction t using Tree.ind with
 | h t ih=>
 intro h
 cases h with
 | mk _ h1 h2 h3 h4 h5 hv=>
 rw[weight_eq,nodes_eq]
 have hw:w1 t≤2101:=by
  unfold w1
  by_cases k3:t.kind=3
  ·rw[if_pos k3];omega
  ·rw[if_neg k3]
   by_cases k4:t.kind=4
   ·rw[if_pos k4];omega
   ·rw[if_neg k4]
    by_cases k5:t.kind=5
    ·rw[if_pos k5];omega
    ·rw[if_neg k5];omega
 have : ∀ l:List Tree,(∀ x,x∈l→weight x≤2101 * nodes x)→weightL l≤2101 * nodesL l:=by
  intro l
  induction l with
  | nil=>intro _;simp[weightL]
  | cons y r ihr=>
   intro h
   have h1:=h y List.mem_cons_self
   have h2:=ihr (fun x hx=>h x (zP _ hx))
   rw[weightL,nodesL];omega
 have:=this t.v (fun x hx=>ih x hx (hv x hx))
 omega
theorem ltree_light : ∀ t:Tree,LightT t→P0 f_law00_Tree [.v t.val] []=some (t.val,[]):=by
 intro t
 induction t using Tree.ind with
 | h t ih=>
  intro h
  cases h with
  | mk _ h1 h2 h3 h4 h5 hv=>
  have hloop:=ltree_loop t (by omega) (fun x hx=>ih x hx (hv x hx)) (.int .i64 t.kind) (.bool t.b) (.bool t.n.neg) (.sl (limbs t.n.m)) (.int .i64 t.n.e) (.str t.s) (.sl (strs t.k)) t.v.length 0 (by omega)
  rw[List.take_zero,show((0:Nat):Int)=0 from rfl,show trs []=[]from rfl]at hloop
  rw[eq_law00_Tree];unfold F_law00_Tree
  simp only[tick_eq,okN_tree,tst_t,fld0,fld1,fld5,fld6,some_bind,subV_nm,lnum_ok t.n (by omega),lstrs_ok t.k (by omega),okN_int,okN_bool,okN_nm,okN_str,okN_sl,fld_int,fld_bool,fld_nm0,fld_nm1,fld_nm2,fld_str,fld_sl,hloop,vec_0,vec_s,elems_sl]
  rw[← t.val_eq]
theorem zero_tree:V.agg [.int .i64 0,.bool false,.bool false,.sl [],.int .i64 0,.str [],.sl [],.sl []]=Tree.zero.val:=by rw[Tree.val_eq];rfl
theorem zero_siz:SizT Tree.zero := .mk _ (fun x hx=>by simp[Tree.zero,Tree.n,Nm.zero]at hx) (by simp[Tree.zero,Tree.n,Nm.zero]) (Nat.zero_le _) (Nat.zero_le _) (fun x hx=>by simp[Tree.zero,Tree.v]at hx)
/-- what comes of it, by both -/
theorem applies{t p:Tree}(tt:TameT t)(tp:TameT p)(lt':LightT t)(lp:LightT p)(nt:nodes t≤100)(np:nodes p≤100)(w:Int) :
  ∃ b c:Bool,∃ x:Tree,∃ e:Int,P0 f_merge_Apply [.v t.val,.v p.val,.v (.int .i64 w)] []=some (.tup [x.val,.int .i64 e],[])∧P0 f_ref16_Apply [.v t.val,.v p.val,.v (.int .i64 w)] []=some (.tup [x.val,.int .i64 e],[])∧SizT x ∧
   P0 f_ref05_Check [.v t.val] []=some (.bool b,[])∧P0 f_ref05_Check [.v p.val] []=some (.bool c,[]) ∧
   (b=true→c=true→P0 f_merge_Merge [.v t.val,.v p.val] []=some ((mrg t p).val,[])∧P0 f_ref16_Merge [.v t.val,.v p.val] []=some ((mrg t p).val,[])∧SizT (mrg t p)):=by
 have wt:=light_weight t lt'
 have wp:=light_weight p lp
 obtain⟨b,hb1,hb2⟩:=rCheck_ok t tt lt'
 obtain⟨c,hc1,hc2⟩:=rCheck_ok p tp lp
 obtain⟨b',hb1',hb2'⟩:=tCheck_ok t tt
 obtain⟨c',hc1',hc2'⟩:=tCheck_ok p tp
 have eb:b'=b:=by rw[Bool.eq_iff_iff,hb2,hb2']
 have ec:c'=c:=by rw[Bool.eq_iff_iff,hc2,hc2']
 subst eb ec
 have key:b'=true→c'=true→P0 f_merge_Merge [.v t.val,.v p.val] []=some ((mrg t p).val,[])∧P0 f_ref16_Merge [.v t.val,.v p.val] []=some ((mrg t p).val,[])∧SizT (mrg t p)∧weight (mrg t p)≤1000000:=by
  intro h1 h2
  have ot:=okG_ord t (hb2.1 h1).1 tt
  have op:=okG_ord p (hc2.1 h2).1 tp
  obtain⟨q1,q2⟩:=mrg_ordw op t ot
  have:=al_weight ot
  exact⟨merge_ord op t ot (by omega) (by omega),rmerge_ord op t ot (by omega) (by omega),ord_siz _ q1 (by omega),by omega⟩
 refine⟨b',c',?_⟩
 rw[eq_merge_Apply,eq_ref16_Apply];unfold F_merge_Apply F_ref16_Apply
 rw[zero_tree]
 cases b' with
 | false=>
  refine⟨Tree.zero,1,?_,?_,zero_siz,hb1,hc1,fun h=>by contradiction⟩
  ·simp only[tick_eq,okN_tree,tst_t,hb1',some_bind,not_b,zI,asBool_b,zX,if_false,if_true]
  ·simp only[tick_eq,okN_tree,tst_t,hb1,some_bind,not_b,zI,asBool_b,zX,if_false,if_true]
 | true=>
  cases c' with
  | false=>
   refine⟨Tree.zero,1,?_,?_,zero_siz,hb1,hc1,fun _ h=>by contradiction⟩
   ·simp only[tick_eq,okN_tree,tst_t,hb1',hc1',some_bind,not_b,zH,zI,asBool_b,if_true]
   ·simp only[tick_eq,okN_tree,tst_t,hb1,hc1,some_bind,not_b,zH,zI,asBool_b,if_true]
  | true=>
   obtain⟨k1,k2,k3,k4⟩:=key rfl rfl
   have f1:=fits_ok (mrg t p) w k4
   have f2:=rfits_ok (mrg t p) w k4
   cases hf:fitB (mrg t p) w with
   | false=>
    rw[hf]at f1 f2
    refine⟨Tree.zero,4,?_,?_,zero_siz,hb1,hc1,fun _ _=>⟨k1,k2,k3⟩⟩
    ·simp only[tick_eq,okN_tree,tst_t,hb1',hc1',k1,f1,some_bind,not_b,zH,zI,asBool_b,zF,if_false,if_true]
    ·simp only[tick_eq,okN_tree,tst_t,hb1,hc1,k2,f2,some_bind,not_b,zH,zI,asBool_b,zF,if_false,if_true]
   | true=>
    rw[hf]at f1 f2
    refine⟨mrg t p,0,?_,?_,k3,hb1,hc1,fun _ _=>⟨k1,k2,k3⟩⟩
    ·simp only[tick_eq,okN_tree,tst_t,hb1',hc1',k1,f1,some_bind,not_b,zH,asBool_b,zF,if_false,if_true]
    ·simp only[tick_eq,okN_tree,tst_t,hb1,hc1,k2,f2,some_bind,not_b,zH,asBool_b,zF,if_false,if_true]
theorem all16_ok{t p:Tree}(tt:TameT t)(tp:TameT p)(w:Int):P0 f_law16_MergeAll [.v t.val,.v p.val,.v (.int .i64 w)] []=some (.bool true,[]):=by
 rw[eq_law16_MergeAll];unfold F_law16_MergeAll
 obtain⟨b1,l1,g1⟩:=Light_ok t 100 (by omega)
 obtain⟨b2,l2,g2⟩:=Light_ok p 100 (by omega)
 rw[show((100:Nat):Int)=100 from rfl]at l1
 rw[show((100:Nat):Int)=100 from rfl]at l2
 cases b1 with
 | false=>simp only[tick_eq,okN_tree,tst_t,l1,some_bind,not_b,zI,zX,if_false,asBool_b,if_true,awake16]
 | true=>
 cases b2 with
 | false=>simp only[tick_eq,okN_tree,tst_t,l1,l2,some_bind,not_b,zH,zI,asBool_b,if_true,awake16]
 | true=>
 obtain⟨lt',nt⟩:=g1 rfl
 obtain⟨lp,np⟩:=g2 rfl
 obtain⟨b,c,x,e,a1,a2,a3,a4,a5,a6⟩:=applies tt tp lt' lp nt np w
 have c1:=ltree_light t lt'
 have c2:=ltree_light p lp
 have bp:=light_bnd p lp (depth p) (zR _)
 have d1:=clean_ok (by omega) bp
 have d2:=rclean_ok (by omega) bp
 have s1:=stree_ok x a3
 cases b with
 | false=>simp only[tick_eq,okN_tree,tst_t,l1,l2,c1,c2,a1,a2,a4,s1,d1,d2,ext_tup,zM,zN,neq_i,decide_true,beq_self_eq_true,some_bind,not_b,zH,zI,zF,zX,if_false,asBool_b,if_true,awake16]
 | true=>
 cases c with
 | false=>simp only[tick_eq,okN_tree,tst_t,l1,l2,c1,c2,a1,a2,a4,a5,s1,d1,d2,ext_tup,zM,zN,neq_i,decide_true,beq_self_eq_true,some_bind,not_b,zH,zI,zF,if_false,asBool_b,if_true,awake16]
 | true=>
  obtain⟨m1,m2,m3⟩:=a6 rfl rfl
  have s2:=rsame_self _ m3
  simp only[tick_eq,okN_tree,tst_t,l1,l2,c1,c2,a1,a2,a4,a5,s1,d1,d2,m1,m2,s2,ext_tup,zM,zN,neq_i,decide_true,beq_self_eq_true,some_bind,not_b,zH,zF,if_false,asBool_b,if_true,awake16]
theorem pure_MergeAll{n0 n1 n2:Nat}{xs ys zs:List V}(hx:Ty Go.Proofs.Tryd.prog n0 29 xs)(hy:Ty Go.Proofs.Tryd.prog n1 29 ys)(hz:Ty Go.Proofs.Tryd.prog n2 3 zs) :
  P0 f_law16_MergeAll ([mkV Go.Proofs.Tryd.prog 29 xs,mkV Go.Proofs.Tryd.prog 29 ys,mkV Go.Proofs.Tryd.prog 3 zs].map .v) []=some (.bool true,[]):=by
 have T:=ty_tree (P:=Go.Proofs.Tryd.prog) Go.Proofs.Tryd.underlying29 rfl Go.Proofs.Tryd.underlying3 Go.Proofs.Tryd.underlying4 Go.Proofs.Tryd.underlying25 rfl Go.Proofs.Tryd.underlying23 Go.Proofs.Tryd.underlying38 Go.Proofs.Tryd.underlying9 Go.Proofs.Tryd.underlying26 Go.Proofs.Tryd.underlying27
 obtain⟨t,et,tt⟩:=T _ _ hx
 obtain⟨p,ep,tp⟩:=T _ _ hy
 obtain⟨w,_,ew⟩:=ty_int Go.Proofs.Tryd.underlying3 hz
 rw[et,ep,ew]
 exact all16_ok tt tp w
end Go.Ev
