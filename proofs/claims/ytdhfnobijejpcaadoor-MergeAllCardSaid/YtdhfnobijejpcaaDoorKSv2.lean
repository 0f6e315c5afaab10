/- Texts, names, numbers that may be: by plain functions. -/
import Derived.Test.YtdhfnobijejpcaaDoorKSv1
import Derived.Test.YtdhfnobijejpcaaDoorKSq4
import Derived.Test.YtdhfnobijejpcaaDoorKSq6
import Derived.Test.YtdhfnobijejpcaaDoorKSp
set_option linter.all false
open Bool renaming false_eq_true→zF
open List renaming getElem?_cons_zero→zM,getElem?_cons_succ→zN,take_of_length_le→zV
open Nat renaming le_refl→zR
namespace Go.Ev
attribute [local irreducible] P0
def okFrom(s:Str):Nat→Nat→Bool
 | 0,_=>true
 | f+1,i=>if i<s.length then(if(ud s i).1=65533∧(ud s i).2=1 then false else okFrom s f (i+(ud s i).2))else true
def textU(s:Str):Bool:=okFrom s (s.length+1) 0
theorem ud_pos(s:Str)(i:Nat):1≤(ud s i).2∧(ud s i).2≤4∧(ud s i).1≤1114111:=by
 have l0:=B_lt s i
 rw[ud_eq];unfold Go.Lib.decodeN
 repeat' split
 all_goals simp only;omega
theorem B_drop(s:Str)(i j:Nat):B (s.drop i) j=B s (i+j):=by unfold B;rw[List.getElem?_drop]
theorem ud_drop(s:Str)(i:Nat):ud (s.drop i) 0=ud s i:=by
 rw[ud_eq,ud_eq,B_drop,B_drop,B_drop,B_drop,List.length_drop];rfl
theorem slsV_from(s:Str)(k:IntKind)(i:Nat)(h:i≤s.length):slsV (.str s) (some (.int k (i:Int))) none=some (.str (s.drop i)):=by
 unfold slsV
 simp only[bnd_from k (i:Int) s.length (by omega),some_bind,Int.toNat_natCast]
 rw[zV (by rw[List.length_drop];omega)]
theorem natV_n(k:IntKind)(n:Nat):natV (.int k (n:Int))=n:=by simp[natV]
theorem txtV_s(s:Str):txtV (.str s)=s:=rfl
theorem uvalid_loop(s:Str)(hl:s.length≤1000000000)(f:Nat) : ∀ i,s.length<i+f →
  ∃ j v,loopL (L_utf_Valid_1 (.str s)) (vec [.str s,.int .i64 (i:Int)])=some (j,v)∧((okFrom s f i=true→j=0)∧(okFrom s f i=false→j=1∧v 0 = .bool false)):=by
 induction f with
 | zero=>
  intro i hi
  refine⟨0,vec [],loopL_inr ?_,fun _=>rfl,fun h=>by simp[okFrom]at h⟩
  unfold L_utf_Valid_1
  simp only[tick_eq,vec_0,vec_s,natV_n,txtV_s]
  rw[if_neg (by omega)]
 | succ f ih=>
  intro i hi
  by_cases hlt:i<s.length
  ·obtain⟨p1,p2,p3⟩:=ud_pos s i
   obtain⟨j,v,h1,h2,h3⟩:=ih (i+(ud s i).2) (by omega)
   have hgo:loopL (L_utf_Valid_1 (.str s)) (vec [.str s,.int .i64 ((i+(ud s i).2:Nat):Int)])=some (j,v):=h1
   have e1:(Utf8.decode ⟨s.toArray⟩ i)=ud s i:=rfl
   have hrr:=drune_ok (s.drop i) (by rw[List.length_drop];omega) (by rw[List.length_drop];omega)
   rw[ud_drop]at hrr
   by_cases hb:(ud s i).1=65533
   ·have hb':((((ud s i).1:Nat):Int) != 65533)=false:=by rw[hb];rfl
    by_cases hn:(ud s i).2=1
    ·refine⟨1,vec [.bool false],loopL_inr ?_,fun h => ?_,fun _=>⟨rfl,rfl⟩⟩
     ·unfold L_utf_Valid_1
      simp only[tick_eq,vec_0,vec_s,natV_n,txtV_s]
      rw[if_pos hlt,e1,hb']
      simp only[tick_eq,zF,if_false,vec_0,vec_s,natV_n,txtV_s,slsV_from s .i64 i (by omega),some_bind,hrr,ext_tup,zM,zN,eql_i,hn,show decide (((1:Nat):Int)=1)=true by decide,asBool_b,if_true]
     ·rw[okFrom,if_pos hlt,if_pos ⟨hb,hn⟩]at h;contradiction
    ·refine⟨j,v,?_,fun h=>h2 ?_,fun h=>h3 ?_⟩
     ·rw[← hgo]
      apply loopL_inl
      unfold L_utf_Valid_1
      have hn':decide ((((ud s i).2:Nat):Int)=1)=false:=decide_eq_false (by omega)
      simp only[tick_eq,vec_0,vec_s,natV_n,txtV_s]
      rw[if_pos hlt,e1,hb']
      simp only[tick_eq,zF,if_false,vec_0,vec_s,natV_n,txtV_s,slsV_from s .i64 i (by omega),some_bind,hrr,ext_tup,zM,zN,eql_i,hn',asBool_b]
      rfl
     ·rw[okFrom,if_pos hlt,if_neg (fun q=>hn q.2)]at h;exact h
     ·rw[okFrom,if_pos hlt,if_neg (fun q=>hn q.2)]at h;exact h
   ·have hb':((((ud s i).1:Nat):Int) != 65533)=true:=by
     rw[bne_iff_ne];omega
    refine⟨j,v,?_,fun h=>h2 ?_,fun h=>h3 ?_⟩
    ·rw[← hgo]
     apply loopL_inl
     unfold L_utf_Valid_1
     simp only[tick_eq,vec_0,vec_s,natV_n,txtV_s]
     rw[if_pos hlt,e1,hb',if_pos rfl]
     rfl
    ·rw[okFrom,if_pos hlt,if_neg (fun q=>hb q.1)]at h;exact h
    ·rw[okFrom,if_pos hlt,if_neg (fun q=>hb q.1)]at h;exact h
  ·refine⟨0,vec [],loopL_inr ?_,fun _=>rfl,fun h=>by rw[okFrom,if_neg hlt]at h;contradiction⟩
   unfold L_utf_Valid_1
   simp only[tick_eq,vec_0,vec_s,natV_n,txtV_s]
   rw[if_neg hlt]
theorem asStr_str(s:Str):asStr (.str s)=some s:=rfl
theorem uvalid_ok(s:Str)(hl:s.length≤1000000000):P0 f_utf_Valid [.v (.str s)] []=some (.bool (textU s),[]):=by
 obtain⟨j,v,h1,h2,h3⟩:=uvalid_loop s hl (s.length+1) 0 (by omega)
 rw[eq_utf_Valid];unfold F_utf_Valid
 simp only[tick_eq,asStr_str,some_bind,h1]
 unfold textU
 cases h:okFrom s (s.length+1) 0 with
 | true=>rw[h2 h,if_pos rfl]
 | false=>
  obtain⟨rfl,hv⟩:=h3 h
  rw[if_neg (by decide)]
  show some (v 0,[])=_
  rw[hv]
theorem okFrom_8(n:Nat) : ∀ (pre r:Str),r.length≤n→(dec8 r).isSome=true → ∀ f,okFrom (pre++r) f pre.length=true:=by
 induction n with
 | zero=>
  intro pre r hr h f
  have:r=[]:=by cases r with | nil=>rfl | cons _ _=>simp at hr
  subst this
  cases f with
  | zero=>rfl
  | succ f=>rw[okFrom,if_neg (by simp)]
 | succ n ih=>
  intro pre r hr h f
  cases f with
  | zero=>rfl
  | succ f=>
   have asc : ∀ (b:UInt8) (t:Str),r=b::t→b.toNat<128→(dec8 t).isSome=true→okFrom (pre++r) (f+1) pre.length=true:=by
    intro b t hrt hb ht
    have hB:B (pre++r) pre.length=b.toNat:=by unfold B;rw[hrt];simp
    have e:ud (pre++r) pre.length=(b.toNat,1):=by rw[ud_eq,hB];unfold Go.Lib.decodeN;rw[if_pos hb]
    rw[okFrom,e]
    split
    ·rw[if_neg (by simp only;omega)]
     have:=ih (pre++[b]) t (by rw[hrt]at hr;simpa using hr) ht f
     rw[hrt]
     simpa using this
    ·rfl
   match r,hr,h,asc with
   | [],_,_,_=>rw[okFrom,if_neg (by simp)]
   | [b],hr,h,asc=>
    have h':b.toNat<128:=by
     simp only[dec8]at h;split at h<;>first | assumption | simp at h
    exact asc b [] rfl h' rfl
   | b::c::t,hr,h,asc=>
    by_cases hbc:b=195∧c=169
    ·obtain⟨rfl,rfl⟩:=hbc
     have ht:(dec8 t).isSome=true:=by simpa[dec8]using h
     have hB:B (pre++195::169::t) pre.length=195:=by unfold B;simp
     have hB1:B (pre++195::169::t) (pre.length+1)=169:=by unfold B;simp
     have e:ud (pre++195::169::t) pre.length=(233,2):=by
      rw[ud_eq,hB,hB1];unfold Go.Lib.decodeN
      rw[if_neg (by decide),if_pos ⟨by decide,by simp,by decide⟩,if_pos (by decide)]
     rw[okFrom,e]
     split
     ·rw[if_neg (by decide)]
      have:=ih (pre++[195,169]) t (by simp at hr ⊢;omega) ht f
      simpa using this
     ·rfl
    ·have h2:b.toNat<128∧(dec8 (c::t)).isSome=true:=by
      rw[dec8.eq_3 _ _ (by intro r' h1 h2;exact hbc (by simp_all))]at h
      split at h
      ·next hb=>exact⟨hb,by simpa using h⟩
      ·simp at h
     exact asc b (c::t) rfl h2.1 h2.2
theorem textU_8{s:Str}(h:(dec8 s).isSome=true):textU s=true:=okFrom_8 s.length [] s (zR _) h (s.length+1)
/-- may that be a text? -/
def textB(s:Str):Bool:=decide (s.length≤2000) && textU s
theorem ttext_ok(s:Str):P0 f_tree_text [.v (.str s)] []=some (.bool (textB s),[]):=by
 rw[eq_tree_text];unfold F_tree_text textB
 by_cases h:s.length≤2000
 ·have d:decide (((s.length:Nat):Int)≤2000)=true:=decide_eq_true (by omega)
  simp only[tick_eq,lns_s,some_bind,d,if_true,uvalid_ok s (by omega),decide_eq_true h,Bool.true_and]
 ·have d:decide (((s.length:Nat):Int)≤2000)=false:=decide_eq_false (by omega)
  simp only[tick_eq,lns_s,some_bind,d,zF,if_false,decide_eq_false h,Bool.false_and]
end Go.Ev
