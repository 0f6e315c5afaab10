/- Numbers and names that may be; a value's own fields. -/
import Derived.Test.YtdhfnobijejpcaaDoorKSv2
import Derived.Test.YtdhfnobijejpcaaDoorKSt5
set_option linter.all false
open Option renaming map_some→zC
open Bool renaming false_eq_true→zF,not_true→zH,not_false→zI,true_eq_false→zX
open List renaming getElem?_eq_getElem→zL
open Nat renaming le_refl→zR
namespace Go.Ev
attribute [local irreducible] P0
theorem trimz(n:Nat):(trim n).2=0↔n=0∨n % 10≠0:=by
 constructor
 ·intro h
  by_cases h0:n≠0∧n % 10=0
  ·rw[trim_step h0.1 h0.2]at h;simp at h
  ·omega
 ·intro h;rw[trim_stop h]
def nokB(n:Nm):Bool:=if n.m=[]then(!n.neg && decide (n.e=0))else decide (n.m.length≤90∧lat n.m (n.m.length - 1)≠0 ∧ -1200≤n.e∧n.e≤1200∧nval n.m % 10≠0)
theorem last_nz{l:List Nat}(h:l≠[])(h2:lat l (l.length - 1)≠0):Nrm l∧nval l≠0:=by
 have hp:=List.length_pos_iff.2 h
 have hn:Nrm l:=by
  unfold Nrm;intro h3
  unfold lat at h2;rw[h3]at h2;exact h2 rfl
 exact⟨hn,fun h0=>h (nrm_nil hn h0)⟩
theorem ncheck_all(n:Nm)(hu:U32 n.m)(hl:n.m.length≤9223372036854775807):P0 f_num_Check [.v n.val] []=some (.bool (nokB n),[]):=by
 rw[eq_num_Check];unfold F_num_Check
 unfold nokB
 by_cases h0:n.m=[]
 ·rw[if_pos h0]
  cases hn:n.neg<;>(apply yes;simp[h0,hn])
 ·have hp:=List.length_pos_iff.2 h0
  rw[if_neg h0]
  have e2:=w64 (a:=(n.m.length:Int) - 1) (by omega)
  have e3:=idx_i .i64 ((n.m.length:Int) - 1) n.m.length (by omega)
  have e4:((n.m.length:Int) - 1).toNat=n.m.length - 1:=by omega
  have e8:n.m.length - 1<n.m.length:=by omega
  have e5:n.m[n.m.length - 1]=lat n.m (n.m.length - 1):=by unfold lat;rw[zL e8];rfl
  by_cases c1:n.m.length≤90
  ·have ht:=ntrim_ok n.m hu (by omega)
   have c1' : ¬ ((90:Int)<(n.m.length:Int))∧(n.m.length:Int)≤90:=by omega
   by_cases c2:lat n.m (n.m.length - 1)=0
   ·apply yes;simp[h0,c1',e2,e3,e4,e8,e5,c2]
   ·by_cases c3:n.e < -1200
    ·have c3' : ¬ (-1200≤n.e):=by omega
     apply yes;simp[h0,c1',e2,e3,e4,e8,e5,c2,c3,c3']
    ·have c3' : ¬ (n.e < -1200) ∧ -1200≤n.e:=by omega
     by_cases c4:1200<n.e
     ·have c4' : ¬ (n.e≤1200):=by omega
      apply yes;simp[h0,c1',e2,e3,e4,e8,e5,c2,c3',c4,c4']
     ·have c4' : ¬ (1200<n.e)∧n.e≤1200:=by omega
      have hv:=(last_nz h0 c2).2
      have c5:(trim (nval n.m)).2=0 ↔ ¬ nval n.m % 10=0:=by rw[trimz];omega
      apply yes;simp[h0,c1,c1',e2,e3,e4,e8,e5,c2,c3',c4',ht,c5]
  ·have c1':((90:Int)<(n.m.length:Int)) ∧ ¬ (n.m.length:Int)≤90:=by omega
   apply yes;simp[h0,c1',c1]
theorem Nm.ok.nokB{n:Nm}(h:n.ok):nokB n=true:=by
 unfold Ev.nokB
 rcases h with⟨h1,h2,h3⟩ | ⟨h1,h2,h3,h4,h5,h6,h7⟩
 ·rw[if_pos h1,h2,h3];rfl
 ·rw[if_neg h1,decide_eq_true_eq]
  refine⟨h3,?_,h5,h6,by rw[← (small_val 10 (by decide) n.m).2];exact h7⟩
  have hp:=List.length_pos_iff.2 h1
  unfold lat
  intro h0
  rw[zL (by omega)]at h0
  exact h4 (by rw[zL (by omega)];congr 1)
theorem i64s{i:Nat}(h:i≤9223372036854775806):IntKind.i64.wrap ((i:Int)+1)=((i+1:Nat):Int):=w64 (a:=(i:Int)+1) (by omega)
/-- names that an object may have -/
def NmsFrom(l:List Str)(i:Nat):Prop := ∀ k (h:k<l.length),i≤k→textB l[k]=true∧(∀ (h0:0<k),lt (l[k - 1]'(by omega)) l[k]=true)
theorem tnames_loop(l:List Str)(hl:l.length≤9223372036854775807)(m:Nat) : ∀ i,i+m=l.length →
  (NmsFrom l i→loopL (L_tree_names_1 l.length (.sl (strs l))) (vec [.int .i64 (i:Int)])=some (0,vec []))∧(¬ NmsFrom l i→loopL (L_tree_names_1 l.length (.sl (strs l))) (vec [.int .i64 (i:Int)])=some (1,vec [.bool false])):=by
 induction m with
 | zero=>
  intro i hi
  refine⟨fun _=>loopL_inr ?_,fun h=>absurd (fun k hk hik=>by omega) h⟩
  unfold L_tree_names_1
  have c1 : ¬ (i:Int)<(l.length:Int):=by omega
  simp only[tick_eq,vec_0,lss_i,c1,decide_false,some_bind,asBool_b,zF,if_false]
 | succ m ih=>
  intro i hi
  have h1:i<l.length:=by omega
  have c1:(i:Int)<(l.length:Int):=by omega
  have hx:l[i]?=some l[i]:=zL h1
  obtain⟨q1,q2⟩:=ih (i+1) (by omega)
  have split:NmsFrom l i↔(textB l[i]=true∧(∀ h0:0<i,lt (l[i - 1]'(by omega)) l[i]=true))∧NmsFrom l (i+1):=by
   constructor
   ·intro h;exact⟨h i h1 (zR i),fun k hk hik=>h k hk (by omega)⟩
   ·rintro⟨ha,hb⟩ k hk hik
    by_cases e:k=i
    ·subst e;exact ha
    ·exact hb k hk (by omega)
  by_cases ht:textB l[i]=true
  ·by_cases h0:0<i
   ·have c3:(0:Int)<(i:Int):=by omega
    have hm:IntKind.i64.wrap ((i:Int) - 1)=((i - 1:Nat):Int):=by rw[w64 (a:=(i:Int) - 1) (by omega)];omega
    have hy:l[i - 1]?=some l[i - 1]:=zL (by omega)
    cases hlt:lt (l[i - 1]'(by omega)) l[i]with
    | true=>
     have g1:Op.bytesLess (l[i - 1]'(by omega)) l[i]=true:=hlt
     have step:loopL (L_tree_names_1 l.length (.sl (strs l))) (vec [.int .i64 (i:Int)])=loopL (L_tree_names_1 l.length (.sl (strs l))) (vec [.int .i64 ((i+1:Nat):Int)]):=by
      apply loopL_inl
      unfold L_tree_names_1
      simp only[tick_eq,vec_0,lss_i,c1,decide_true,some_bind,asBool_b,if_true,asSl_strs,strs_len,idx_nat _ i l.length h1,strs_get,hx,zC,fld_str,ttext_ok,ht,not_b,zH,gtr_i,c3,sub_i,hm,idx_nat _ (i - 1) l.length (by omega),hy,geq_s,g1,zF,if_false,add_i,i64s (i:=i) (by omega)]
     rw[step]
     exact⟨fun h=>q1 (split.1 h).2,fun h=>q2 (fun h2=>h (split.2 ⟨⟨ht,fun _=>hlt⟩,h2⟩))⟩
    | false=>
     have g1:Op.bytesLess (l[i - 1]'(by omega)) l[i]=false:=hlt
     refine⟨fun h => ?_,fun _=>loopL_inr ?_⟩
     ·have:=(split.1 h).1.2 h0;rw[hlt]at this;contradiction
     ·unfold L_tree_names_1
      simp only[tick_eq,vec_0,lss_i,c1,decide_true,some_bind,asBool_b,if_true,asSl_strs,strs_len,idx_nat _ i l.length h1,strs_get,hx,zC,fld_str,ttext_ok,ht,not_b,zH,gtr_i,c3,sub_i,hm,idx_nat _ (i - 1) l.length (by omega),hy,geq_s,g1,zI]
   ·have c3 : ¬ (0:Int)<(i:Int):=by omega
    have step:loopL (L_tree_names_1 l.length (.sl (strs l))) (vec [.int .i64 (i:Int)])=loopL (L_tree_names_1 l.length (.sl (strs l))) (vec [.int .i64 ((i+1:Nat):Int)]):=by
     apply loopL_inl
     unfold L_tree_names_1
     simp only[tick_eq,vec_0,lss_i,c1,decide_true,some_bind,asBool_b,if_true,asSl_strs,strs_len,idx_nat _ i l.length h1,strs_get,hx,zC,fld_str,ttext_ok,ht,not_b,zH,gtr_i,c3,decide_false,zF,if_false,add_i,i64s (i:=i) (by omega)]
    rw[step]
    exact⟨fun h=>q1 (split.1 h).2,fun h=>q2 (fun h2=>h (split.2 ⟨⟨ht,fun h=>absurd h h0⟩,h2⟩))⟩
  ·have ht':textB l[i]=false:=by simpa using ht
   refine⟨fun h=>absurd (split.1 h).1.1 ht,fun _=>loopL_inr ?_⟩
   unfold L_tree_names_1
   simp only[tick_eq,vec_0,lss_i,c1,decide_true,some_bind,asBool_b,if_true,asSl_strs,strs_len,idx_nat _ i l.length h1,strs_get,hx,zC,fld_str,ttext_ok,ht',not_b,zI,zX,if_false]
def NmsP(l:List Str):Prop:=NmsFrom l 0∧l.length≤300
open Classical in
noncomputable def nmsB(l:List Str):Bool:=decide (NmsP l)
theorem nmsB_iff(l:List Str):nmsB l=true↔NmsP l:=by unfold nmsB;exact @decide_eq_true_iff (NmsP l) (Classical.propDecidable _)
theorem nmsB_f{l:List Str}(h : ¬ NmsP l):nmsB l=false:=by
 cases hb:nmsB l with
 | false=>rfl
 | true=>exact absurd ((nmsB_iff l).1 hb) h
theorem tnames_ok(l:List Str)(hl:l.length≤9223372036854775807):P0 f_tree_names [.v (.sl (strs l))] []=some (.bool (nmsB l),[]):=by
 obtain⟨q1,q2⟩:=tnames_loop l hl l.length 0 (by omega)
 rw[show((0:Nat):Int)=0 from rfl]at q1 q2
 rw[eq_tree_names];unfold F_tree_names
 by_cases h:NmsFrom l 0
 ·simp only[tick_eq,lenV_sl,strs_len,some_bind,q1 h,if_true]
  by_cases h3:l.length≤300
  ·rw[decide_eq_true (show((l.length:Nat):Int)≤300 by omega),(nmsB_iff l).2 ⟨h,h3⟩]
  ·rw[decide_eq_false (show ¬ ((l.length:Nat):Int)≤300 by omega),nmsB_f (fun q=>h3 q.2)]
 ·simp only[tick_eq,lenV_sl,strs_len,some_bind,q2 h,Nat.one_ne_zero,if_false,vec_0]
  rw[nmsB_f (fun q=>h q.1)]
end Go.Ev
