/- Copies in new memory. -/
import Derived.Test.YtdhfnobijejpcaaDoorKSv7
set_option linter.all false
open Option renaming map_some→zC
open Bool renaming false_eq_true→zF
open List renaming getElem?_eq_getElem→zL,take_of_length_le→zV
namespace Go.Ev
attribute [local irreducible] P0
theorem llimbs_ok(l:List Nat)(hl:l.length≤1000000):P0 f_law00_Limbs [.g,.v (.sl (limbs l))] []=some (.sl (limbs l),[]):=by
 rw[eq_law00_Limbs];unfold F_law00_Limbs
 have ha:appOk 4 0 l.length=true:=app_ok _ _ _ (by omega) (by omega)
 simp only[tick_eq,asEl_limbs,some_bind,List.length_nil,limbs_len,ha,tst_t,List.nil_append]
theorem lstrs_ok(l:List Str)(hl:l.length≤1000000):P0 f_law00_Strings [.v (.sl (strs l))] []=some (.sl (strs l),[]):=by
 rw[eq_law00_Strings];unfold F_law00_Strings
 have ha:appOk 16 0 l.length=true:=app_ok _ _ _ (by omega) (by omega)
 simp only[tick_eq,asEl_strs,some_bind,List.length_nil,strs_len,ha,tst_t,List.nil_append]
theorem lnum_ok(n:Nm)(hl:n.m.length≤1000000):P0 f_law00_Num [.v n.val] []=some (n.val,[]):=by
 rw[eq_law00_Num];unfold F_law00_Num
 simp only[tick_eq,okN_nm,tst_t,fld_nm0,fld_nm1,fld_nm2,some_bind,llimbs_ok n.m hl,slV_sl,okN_bool,okN_int,fld_bool,fld_int]
 rfl
theorem ltree_loop(t:Tree)(hl:t.v.length≤1000)(hc : ∀ x,x∈t.v→P0 f_law00_Tree [.v x.val] []=some (x.val,[]))(a b c d e f g:V)(m:Nat) : ∀ i,i+m=t.v.length →
  loopL (L_law00_Tree_1 t.val) (vec [.int .i64 (i:Int),a,b,c,d,e,f,g,.sl (trs (t.v.take i))])=some (0,vec [a,b,c,d,e,f,g,.sl (trs t.v)]):=by
 induction m with
 | zero=>
  intro i hi
  apply loopL_inr
  unfold L_law00_Tree_1
  have c1 : ¬ (i:Int)<(t.v.length:Int):=by omega
  have et:t.v.take i=t.v:=zV (by omega)
  simp only[tick_eq,fld7,lenV_sl,trs_len,vec_0,vec_s,lss_i,c1,decide_false,some_bind,asBool_b,zF,if_false,elems_sl,et]
 | succ m ih=>
  intro i hi
  have hlt:i<t.v.length:=by omega
  have c1:(i:Int)<(t.v.length:Int):=by omega
  have hx:t.v[i]?=some t.v[i]:=zL hlt
  have ht:t.v.take i++[t.v[i]]=t.v.take (i+1):=(List.take_succ_eq_append_getElem hlt).symm
  rw[← ih (i+1) (by omega),← ht]
  apply loopL_inl
  unfold L_law00_Tree_1
  have hlen:(trs (t.v.take i)).length=i:=by rw[trs_len,List.length_take];omega
  simp only[tick_eq,fld7,lenV_sl,trs_len,vec_0,vec_s,lss_i,c1,decide_true,some_bind,asBool_b,if_true,asSl_trs,idx_nat _ i t.v.length hlt,trs_get,hx,zC,hc _ (List.getElem_mem hlt),okN_tree,tst_t,szOk_8,elems_sl,List.length_take,Nat.min_eq_left (Nat.le_of_lt hlt),len1,app_ok 120 i 1 (by omega) (by omega),add_i,i64_succ (i:=i) (by omega),trs_1]
end Go.Ev
