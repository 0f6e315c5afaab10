/- Texts that may be, by the reference. -/
import Derived.Test.YtdhfnobijejpcaaDoorKSw3
set_option linter.all false
open Option renaming map_some→zC
open Bool renaming false_eq_true→zF
open List renaming getElem?_eq_getElem→zL,getElem?_cons_zero→zM,getElem?_cons_succ→zN,drop_eq_getElem_cons→zO,drop_eq_nil_of_le→zQ,drop_zero→zU
namespace Go.Ev
attribute [local irreducible] P0
def r32(l:List Int):List V:=l.map (.int .i32)
theorem r32_len(l:List Int):(r32 l).length=l.length:=by simp[r32]
theorem r32_get(l:List Int)(i:Nat):(r32 l)[i]?=l[i]?.map (.int .i32):=by simp[r32]
theorem szOk_r32(l:List Int):szOk 1 (r32 l)=true:=by
 induction l with
 | nil=>rfl
 | cons x r ih=>exact ih
theorem asSl_r32(l:List Int):asSl 1 (.sl (r32 l))=some (r32 l):=by unfold asSl;simp only[szOk_r32]
theorem r32_1(l:List Int)(x:Int):r32 l++[V.int .i32 x]=r32 (l++[x]):=by simp[r32]
def rvs(s:Str):Nat→Nat→List Int
 | 0,_=>[]
 | f+1,i=>if i<s.length then rv s i::rvs s f (i+(ud s i).2)else[]
theorem rvs_all(s:Str)(f:Nat) : ∀ i,(rvs s f i).all (fun x=>decide (0≤x))=okFrom s f i:=by
 induction f with
 | zero=>intro i;rfl
 | succ f ih=>
  intro i
  rw[rvs,okFrom]
  split
  ·rw[List.all_cons,ih]
   unfold rv
   split
   ·simp
   ·have:decide ((0:Int)≤(((ud s i).1:Nat):Int))=true:=decide_eq_true (by omega)
    rw[this,Bool.true_and]
  ·rfl
theorem rvs_len(s:Str)(f:Nat) : ∀ i,(rvs s f i).length≤f:=by
 induction f with
 | zero=>intro i;simp[rvs]
 | succ f ih=>
  intro i;rw[rvs];split
  ·rw[List.length_cons];have:=ih (i+(ud s i).2);omega
  ·simp
theorem runes_all(s:Str)(hl:s.length≤1000000000)(f:Nat) : ∀ i (l:List Int),s.length<i+f→l.length≤i→i≤s.length+4 →
  loopL (L_ref04_Runes_1 (.str s)) (vec [.sl (r32 l),.int .i64 (i:Int)])=some (0,vec [.sl (r32 (l++rvs s f i))]):=by
 induction f with
 | zero=>
  intro i l hi hll hi2
  apply loopL_inr
  unfold L_ref04_Runes_1
  have c : ¬ (i:Int)<(s.length:Int):=by omega
  simp only[tick_eq,lns_s,some_bind,vec_0,vec_s,lss_i,c,decide_false,asBool_b,zF,if_false,elems_sl,rvs,List.append_nil]
 | succ f ih=>
  intro i l hi hll hi2
  by_cases hlt:i<s.length
  ·obtain⟨p1,p2,_⟩:=ud_pos s i
   have c:(i:Int)<(s.length:Int):=by omega
   have hrr:=rrune_all s i hlt hl
   have w:IntKind.i64.wrap ((i:Int)+(((ud s i).2:Nat):Int))=((i+(ud s i).2:Nat):Int):=w64 (a:=(i:Int)+(((ud s i).2:Nat):Int)) (by omega)
   have:=ih (i+(ud s i).2) (l++[rv s i]) (by omega) (by simp;omega) (by omega)
   rw[List.append_assoc]at this
   rw[rvs,if_pos hlt,show l++rv s i::rvs s f (i+(ud s i).2)=l++([rv s i]++rvs s f (i+(ud s i).2))from rfl,← this]
   apply loopL_inl
   unfold L_ref04_Runes_1
   have z1:szOk 1 [V.int .i32 (rv s i)]=true:=rfl
   have o1:(List.length (α:=V) [V.int .i32 (rv s i)])=1:=rfl
   simp only[tick_eq,lns_s,some_bind,vec_0,vec_s,lss_i,c,decide_true,asBool_b,if_true,hrr,ext_tup,zM,zN,okN_int,tst_t,fld_int,z1,elems_sl,r32_len,o1,app_ok 4 l.length 1 (by omega) (by omega),add_i,w,r32_1]
  ·apply loopL_inr
   unfold L_ref04_Runes_1
   have c : ¬ (i:Int)<(s.length:Int):=by omega
   simp only[tick_eq,lns_s,some_bind,vec_0,vec_s,lss_i,c,decide_false,asBool_b,zF,if_false,elems_sl,rvs]
   rw[if_neg hlt,List.append_nil]
theorem valid_all(l:List Int)(pars:List V)(hl:l.length≤2000000000)(k:Nat) : ∀ i,i+k=l.length →
  ∃ j v,loopL (L_ref04_Valid_1 (.sl (r32 l),pars)) (vec [.int .i64 (i:Int)])=some (j,v)∧(((l.drop i).all (fun x=>decide (0≤x))=true∧j=0)∨((l.drop i).all (fun x=>decide (0≤x))=false∧j=1∧v=vec [.bool false])):=by
 induction k with
 | zero=>
  intro i hi
  refine⟨0,vec [],loopL_inr ?_,.inl ⟨by rw[zQ (by omega)];rfl,rfl⟩⟩
  unfold L_ref04_Valid_1
  have c : ¬ (i:Int)<(l.length:Int):=by omega
  simp only[tick_eq,lenV_sl,r32_len,some_bind,vec_0,lss_i,c,decide_false,asBool_b,zF,if_false]
 | succ k ih=>
  intro i hi
  have hlt:i<l.length:=by omega
  have c:(i:Int)<(l.length:Int):=by omega
  have hx:l[i]?=some l[i]:=zL hlt
  have hd:=zO hlt
  by_cases h0:l[i]<0
  ·refine⟨1,vec [.bool false],loopL_inr ?_,.inr ⟨?_,rfl,rfl⟩⟩
   ·unfold L_ref04_Valid_1
    simp only[tick_eq,lenV_sl,r32_len,some_bind,vec_0,lss_i,c,decide_true,asBool_b,if_true,asSl_r32,idx_nat _ i l.length hlt,r32_get,hx,zC,fld_int,h0]
   ·rw[hd,List.all_cons,decide_eq_false (show ¬ (0:Int)≤l[i] by omega)];rfl
  ·obtain⟨j,v,h1,h2⟩:=ih (i+1) (by omega)
   refine⟨j,v,?_,?_⟩
   ·rw[← h1]
    apply loopL_inl
    unfold L_ref04_Valid_1
    simp only[tick_eq,lenV_sl,r32_len,some_bind,vec_0,lss_i,c,decide_true,asBool_b,if_true,asSl_r32,idx_nat _ i l.length hlt,r32_get,hx,zC,fld_int,h0,decide_false,zF,if_false,add_i,show IntKind.i64.wrap ((i:Int)+1)=((i+1:Nat):Int)from w64 (a:=(i:Int)+1) (by omega)]
   ·rw[hd,List.all_cons,decide_eq_true (show(0:Int)≤l[i] by omega),Bool.true_and];exact h2
theorem rvalid_ok(s:Str)(hl:s.length≤1000000000):P0 f_ref04_Valid [.v (.str s)] []=some (.bool (textU s),[]):=by
 have h:=runes_all s hl (s.length+1) 0 [] (by omega) (by simp) (by omega)
 have h:loopL (L_ref04_Runes_1 (.str s)) (vec [.sl [],.int .i64 0])=some (0,vec [.sl (r32 (rvs s (s.length+1) 0))]):=h
 have hr:P0 f_ref04_Runes [.v (.str s)] []=some (.sl (r32 (rvs s (s.length+1) 0)),[]):=by
  rw[eq_ref04_Runes];unfold F_ref04_Runes
  simp only[tick_eq,h,some_bind,vec_0,elems_sl]
 have hlen:=rvs_len s (s.length+1) 0
 obtain⟨j,v,h1,h2⟩:=valid_all (rvs s (s.length+1) 0) [] (by omega) (rvs s (s.length+1) 0).length 0 (by omega)
 rw[show((0:Nat):Int)=0 from rfl]at h1
 rw[zU,rvs_all]at h2
 rw[eq_ref04_Valid];unfold F_ref04_Valid textU
 rcases h2 with⟨a,rfl⟩ | ⟨a,rfl,rfl⟩
 ·simp only[tick_eq,hr,some_bind,h1,if_true,a]
 ·simp only[tick_eq,hr,some_bind,h1,Nat.one_ne_zero,if_false,vec_0,a]
end Go.Ev
