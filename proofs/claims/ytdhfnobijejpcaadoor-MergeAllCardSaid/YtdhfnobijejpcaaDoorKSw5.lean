/- Values that may be, by the reference: numbers, names, fields. -/
import Derived.Test.YtdhfnobijejpcaaDoorKSw4
import Derived.Test.YtdhfnobijejpcaaDoorKSw2
import Derived.Test.YtdhfnobijejpcaaDoorKSr1
import Derived.Test.YtdhfnobijejpcaaDoorKSt6
set_option linter.all false
open Option renaming map_some→zC
open Bool renaming false_eq_true→zF,not_true→zH,not_false→zI,true_eq_false→zX
open List renaming getElem?_eq_getElem→zL
open Nat renaming le_refl→zR
namespace Go.Ev
attribute [local irreducible] P0
theorem rcheck_all(n:Nm)(hu:U32 n.m)(hl:n.m.length≤1000000000000000):P0 f_ref02_Check [.v n.val] []=some (.bool (nokB n),[]):=by
 rw[eq_ref02_Check];unfold F_ref02_Check
 unfold nokB
 by_cases h0:n.m=[]
 ·rw[if_pos h0]
  cases hn:n.neg<;>(apply yes;simp[h0,hn])
 ·have hp:=List.length_pos_iff.2 h0
  rw[if_neg h0]
  have e2:=w64 (a:=(n.m.length:Int) - 1) (by omega)
  have e3:=idx_i .i64 ((n.m.length:Int) - 1) n.m.length (by omega)
  have e4:((n.m.length:Int) - 1).toNat=n.m.length - 1:=by omega
  have e8:n.m.length - 1<n.m.length:=by omega
  have e5:n.m[n.m.length - 1]=lat n.m (n.m.length - 1):=by unfold lat;rw[zL e8];rfl
  by_cases c1:n.m.length≤90
  ·have ht:P0 f_ref01_Small [.v (.sl (limbs n.m)),.v (.int .u32 10)] []=_:=rsmall_ok n.m 10 (by decide) (by decide) (by omega) hu
   have c1' : ¬ ((90:Int)<(n.m.length:Int))∧(n.m.length:Int)≤90:=by omega
   by_cases c2:lat n.m (n.m.length - 1)=0
   ·apply yes;simp[h0,c1',e2,e3,e4,e8,e5,c2]
   ·by_cases c3:n.e < -1200
    ·have c3' : ¬ (-1200≤n.e):=by omega
     apply yes;simp[h0,c1',e2,e3,e4,e8,e5,c2,c3,c3']
    ·have c3' : ¬ (n.e < -1200) ∧ -1200≤n.e:=by omega
     by_cases c4:1200<n.e
     ·have c4' : ¬ (n.e≤1200):=by omega
      apply yes;simp[h0,c1',e2,e3,e4,e8,e5,c2,c3',c4,c4']
     ·have c4' : ¬ (1200<n.e)∧n.e≤1200:=by omega
      have c5:((nval n.m:Int) % 10=0)↔(nval n.m % 10=0):=by omega
      apply yes;simp[h0,c1,c1',e2,e3,e4,e8,e5,c2,c3',c4',ht,c5]
  ·have c1':((90:Int)<(n.m.length:Int)) ∧ ¬ (n.m.length:Int)≤90:=by omega
   apply yes;simp[h0,c1',c1]
theorem rnames_loop(l:List Str)(hl:l.length≤1000000)(hx' : ∀ x,x∈l→x.length≤1000000000)(m:Nat) : ∀ i,i+m=l.length →
  (NmsFrom l i→loopL (L_ref05_names_1 (.sl (strs l))) (vec [.int .i64 (i:Int)])=some (0,vec []))∧(¬ NmsFrom l i→loopL (L_ref05_names_1 (.sl (strs l))) (vec [.int .i64 (i:Int)])=some (1,vec [.bool false])):=by
 induction m with
 | zero=>
  intro i hi
  refine⟨fun _=>loopL_inr ?_,fun h=>absurd (fun k hk hik=>by omega) h⟩
  unfold L_ref05_names_1
  have c1 : ¬ (i:Int)<(l.length:Int):=by omega
  simp only[tick_eq,lenV_sl,strs_len,vec_0,lss_i,c1,decide_false,some_bind,asBool_b,zF,if_false]
 | succ m ih=>
  intro i hi
  have h1:i<l.length:=by omega
  have c1:(i:Int)<(l.length:Int):=by omega
  have hx:l[i]?=some l[i]:=zL h1
  have hlen:=hx' _ (List.getElem_mem h1)
  obtain⟨q1,q2⟩:=ih (i+1) (by omega)
  have split:NmsFrom l i↔(textB l[i]=true∧(∀ h0:0<i,lt (l[i - 1]'(by omega)) l[i]=true))∧NmsFrom l (i+1):=by
   constructor
   ·intro h;exact⟨h i h1 (zR i),fun k hk hik=>h k hk (by omega)⟩
   ·rintro⟨ha,hb⟩ k hk hik
    by_cases e:k=i
    ·subst e;exact ha
    ·exact hb k hk (by omega)
  cases hu:textU l[i]with
  | false=>
   have ht : ¬ textB l[i]=true:=by unfold textB;rw[hu];simp
   refine⟨fun h=>absurd (split.1 h).1.1 ht,fun _=>loopL_inr ?_⟩
   unfold L_ref05_names_1
   simp only[tick_eq,lenV_sl,strs_len,vec_0,lss_i,c1,decide_true,some_bind,asBool_b,if_true,asSl_strs,idx_nat _ i l.length h1,strs_get,hx,zC,fld_str,rvalid_ok l[i] hlen,hu,not_b,zI,zX,if_false]
  | true=>
   by_cases h2000:l[i].length≤2000
   ·have d:decide (((l[i].length:Nat):Int) > 2000)=false:=decide_eq_false (by omega)
    have ht:textB l[i]=true:=by unfold textB;rw[hu,decide_eq_true h2000];rfl
    by_cases h0:0<i
    ·have c3:(0:Int)<(i:Int):=by omega
     have hm:IntKind.i64.wrap ((i:Int) - 1)=((i - 1:Nat):Int):=by rw[w64 (a:=(i:Int) - 1) (by omega)];omega
     have hy:l[i - 1]?=some l[i - 1]:=zL (by omega)
     cases hlt:lt (l[i - 1]'(by omega)) l[i]with
     | true=>
      have g1:Op.bytesLess l[i] (l[i - 1]'(by omega))=false:=lt_asymm hlt
      have g2:(l[i] == (l[i - 1]'(by omega)))=false:=by
       rw[beq_eq_false_iff_ne];exact fun e=>lt_ne hlt e.symm
      have step:loopL (L_ref05_names_1 (.sl (strs l))) (vec [.int .i64 (i:Int)])=loopL (L_ref05_names_1 (.sl (strs l))) (vec [.int .i64 ((i+1:Nat):Int)]):=by
       apply loopL_inl
       unfold L_ref05_names_1
       simp only[tick_eq,lenV_sl,strs_len,vec_0,lss_i,c1,decide_true,some_bind,asBool_b,if_true,asSl_strs,idx_nat _ i l.length h1,strs_get,hx,zC,fld_str,rvalid_ok l[i] hlen,hu,not_b,zH,lns_s,d,gtr_i,c3,sub_i,hm,idx_nat _ (i - 1) l.length (by omega),hy,leq_s,g1,g2,Bool.or_false,zF,if_false,add_i,i64_succ (i:=i) (by omega)]
      rw[step]
      exact⟨fun h=>q1 (split.1 h).2,fun h=>q2 (fun h2=>h (split.2 ⟨⟨ht,fun _=>hlt⟩,h2⟩))⟩
     | false=>
      have g:(Op.bytesLess l[i] (l[i - 1]'(by omega)) || (l[i] == (l[i - 1]'(by omega))))=true:=by
       by_cases e:l[i - 1]'(by omega)=l[i]
       ·rw[show(l[i] == (l[i - 1]'(by omega)))=true by rw[e];simp];simp
       ·rw[show Op.bytesLess l[i] (l[i - 1]'(by omega))=true from lt_total e hlt];rfl
      refine⟨fun h => ?_,fun _=>loopL_inr ?_⟩
      ·have:=(split.1 h).1.2 h0;rw[hlt]at this;contradiction
      ·unfold L_ref05_names_1
       simp only[tick_eq,lenV_sl,strs_len,vec_0,lss_i,c1,decide_true,some_bind,asBool_b,if_true,asSl_strs,idx_nat _ i l.length h1,strs_get,hx,zC,fld_str,rvalid_ok l[i] hlen,hu,not_b,zH,lns_s,d,gtr_i,c3,sub_i,hm,idx_nat _ (i - 1) l.length (by omega),hy,leq_s,g]
    ·have c3 : ¬ (0:Int)<(i:Int):=by omega
     have step:loopL (L_ref05_names_1 (.sl (strs l))) (vec [.int .i64 (i:Int)])=loopL (L_ref05_names_1 (.sl (strs l))) (vec [.int .i64 ((i+1:Nat):Int)]):=by
      apply loopL_inl
      unfold L_ref05_names_1
      simp only[tick_eq,lenV_sl,strs_len,vec_0,lss_i,c1,decide_true,some_bind,asBool_b,if_true,asSl_strs,idx_nat _ i l.length h1,strs_get,hx,zC,fld_str,rvalid_ok l[i] hlen,hu,not_b,zH,lns_s,d,gtr_i,c3,decide_false,zF,if_false,add_i,i64_succ (i:=i) (by omega)]
     rw[step]
     exact⟨fun h=>q1 (split.1 h).2,fun h=>q2 (fun h2=>h (split.2 ⟨⟨ht,fun h=>absurd h h0⟩,h2⟩))⟩
   ·have d:decide (((l[i].length:Nat):Int) > 2000)=true:=decide_eq_true (by omega)
    have ht : ¬ textB l[i]=true:=by unfold textB;rw[decide_eq_false h2000];simp
    refine⟨fun h=>absurd (split.1 h).1.1 ht,fun _=>loopL_inr ?_⟩
    unfold L_ref05_names_1
    simp only[tick_eq,lenV_sl,strs_len,vec_0,lss_i,c1,decide_true,some_bind,asBool_b,if_true,asSl_strs,idx_nat _ i l.length h1,strs_get,hx,zC,fld_str,rvalid_ok l[i] hlen,hu,not_b,zH,lns_s,d,zX,if_false]
theorem rnames_all(l:List Str)(hl:l.length≤1000000)(hx' : ∀ x,x∈l→x.length≤1000000000):P0 f_ref05_names [.v (.sl (strs l))] []=some (.bool (nmsB l),[]):=by
 obtain⟨q1,q2⟩:=rnames_loop l hl hx' l.length 0 (by omega)
 rw[show((0:Nat):Int)=0 from rfl]at q1 q2
 rw[eq_ref05_names];unfold F_ref05_names
 by_cases h:NmsFrom l 0
 ·simp only[tick_eq,some_bind,q1 h,if_true,lenV_sl,strs_len]
  by_cases h3:l.length≤300
  ·rw[decide_eq_true (show((l.length:Nat):Int)≤300 by omega),(nmsB_iff l).2 ⟨h,h3⟩]
  ·rw[decide_eq_false (show ¬ ((l.length:Nat):Int)≤300 by omega),nmsB_f (fun q=>h3 q.2)]
 ·simp only[tick_eq,some_bind,q2 h,Nat.one_ne_zero,if_false,vec_0]
  rw[nmsB_f (fun q=>h q.1)]
end Go.Ev
