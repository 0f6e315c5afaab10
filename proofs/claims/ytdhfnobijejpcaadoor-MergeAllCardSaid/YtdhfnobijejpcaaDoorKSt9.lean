/- Merging: the document's example; a law's lists of numbers. -/
import Derived.Test.YtdhfnobijejpcaaDoorKSt8
import Derived.Test.YtdhfnobijejpcaaDoorKSp
set_option linter.all false
open Option renaming map_some→zC
open List renaming getElem?_cons_zero→zM,getElem?_cons_succ→zN
namespace Go.Ev
attribute [local irreducible] P0
def bF:Tree := .mk 2 false .zero [] [] []
def bT:Tree := .mk 2 true .zero [] [] []
def awT:AL:=[([97],bF),([98],bF)]
def awP:AL:=[([97],Ev.null),([99],bT)]
def awR:AL:=[([98],bF),([99],bT)]
theorem aw_mrg:mrg (obj awT) (obj awP)=obj awR:=by
 rw[mrg_obj,al_obj];exact congrArg obj (by rfl)
theorem bF_val:bF.val = .agg [(.int .i64 2),(.bool false),(.bool false),(.sl []),(.int .i64 0),(.str []),(.sl []),(.sl [])]:=by rw[bF,mk_val];rfl
theorem bT_val:bT.val = .agg [(.int .i64 2),(.bool true),(.bool false),(.sl []),(.int .i64 0),(.str []),(.sl []),(.sl [])]:=by rw[bT,mk_val];rfl
theorem ok_awT:OkT (obj awT)∧Bnd 3 2 (obj awT):=by
 refine⟨.obj awT ⟨by decide,by decide,trivial⟩ (by decide) (by decide) (fun q hq => ?_),.mk _ _ (by decide) (fun x hx => ?_)⟩
 ·simp[awT]at hq;rcases hq with rfl | rfl<;>exact .bool false
 ·simp[awT,obj_v,valsL]at hx;rcases hx with rfl | rfl<;>exact bnd_leaf 0 rfl
theorem ok_awP:OkT (obj awP)∧Bnd 3 2 (obj awP):=by
 refine⟨.obj awP ⟨by decide,by decide,trivial⟩ (by decide) (by decide) (fun q hq => ?_),.mk _ _ (by decide) (fun x hx => ?_)⟩
 ·simp[awP]at hq;rcases hq with rfl | rfl
  ·exact .null
  ·exact .bool true
 ·simp[awP,obj_v,valsL]at hx;rcases hx with rfl | rfl<;>exact bnd_leaf 0 rfl
theorem awake16:P0 f_law16_awake [] []=some (.bool true,[]):=by
 have hm:=merge_ok (c1:=3) (c2:=3) (by decide) ok_awP.1 2 _ ok_awT.1 ok_awT.2 ok_awP.2
 rw[aw_mrg]at hm
 have hb:Bnd 6 2 (obj awR):=aw_mrg ▸ mrg_bnd ok_awP.1 2 _ ok_awT.1.srt ok_awT.2 ok_awP.2
 have hc:=clean_ok (by decide) hb
 have e1:(obj awT).val = .agg [(.int .i64 7),(.bool false),(.bool false),(.sl []),(.int .i64 0),(.str []),(.sl [(.str [97]),(.str [98])]),(.sl [bF.val,bF.val])]:=by rw[obj_val];rfl
 have e2:(obj awP).val = .agg [(.int .i64 7),(.bool false),(.bool false),(.sl []),(.int .i64 0),(.str []),(.sl [(.str [97]),(.str [99])]),(.sl [Ev.null.val,bT.val])]:=by rw[obj_val];rfl
 rw[e1,e2,bF_val,bT_val,null_val]at hm
 have k1:(obj awR).k=[[98],[99]]:=rfl
 have k2:(obj awR).v=[bF,bT]:=rfl
 have hcl:cln (obj awR)=true:=by rfl
 rw[eq_law16_awake];unfold F_law16_awake
 have z2:(((2:Nat):Int) == 2)=true:=by decide
 have i0:idxV (.int .i64 0) 2=some 0:=by decide
 have i1:idxV (.int .i64 1) 2=some 1:=by decide
 have s2:(([98]:Str) == [98])=true:=by decide
 have s3:(([99]:Str) == [99])=true:=by decide
 have b1:bT.b=true:=rfl
 simp only[tick_eq,hm,some_bind,okN_tree,tst_t,fld6,fld7,k1,k2,lenV_sl,strs_len,trs_len,List.length_cons,List.length_nil,Nat.zero_add,Nat.reduceAdd,z2,if_true,asBool_b,asSl_strs,i0,i1,strs_get,zM,zN,zC,fld_str,eql_s,s2,s3,asSl_trs,trs_get,fld1,b1,hc,hcl]
end Go.Ev
