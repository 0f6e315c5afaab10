/- Values that may be, by the package's own look. -/
import Derived.Test.YtdhfnobijejpcaaDoorKSv3
set_option linter.all false
open Bool renaming false_eq_true→zF,not_false→zI
namespace Go.Ev
attribute [local irreducible] P0
theorem and5(T N S K I:Bool):(((if T=true then some (V.bool N)else some (.bool false):Option V)).bind fun x52=>(asBool x52).bind fun b53=>((if b53=true then some (V.bool S)else some (.bool false):Option V)).bind fun x54=>(asBool x54).bind fun b55=>((if b55=true then some (V.bool K)else some (.bool false):Option V)).bind fun x56=>(asBool x56).bind fun b57=>((if b57=true then some (V.bool I)else some (.bool false):Option V)).bind fun x58=>some (x58,([]:List V)))=some (.bool (T && N && S && K && I),[]):=by
 cases T<;>cases N<;>cases S<;>cases K<;>rfl
theorem and4(N S K I:Bool):((asBool (V.bool N)).bind fun b53=>((if b53=true then some (V.bool S)else some (.bool false):Option V)).bind fun x54=>(asBool x54).bind fun b55=>((if b55=true then some (V.bool K)else some (.bool false):Option V)).bind fun x56=>(asBool x56).bind fun b57=>((if b57=true then some (V.bool I)else some (.bool false):Option V)).bind fun x58=>some (x58,([]:List V)))=some (.bool (true && N && S && K && I),[]):=by
 cases N<;>cases S<;>cases K<;>rfl
def numZ(n:Nm):Bool := !n.neg && decide (n.m=[]) && decide (n.e=0)
def k0(t:Tree):Bool:=((t.k.length:Nat):Int) == 0
def v0(t:Tree):Bool:=((t.v.length:Nat):Int) == 0
/-- a value's own fields are such as its kind has -/
noncomputable def ownB(t:Tree):Bool:=
 if t.kind=1 then !t.b && numZ t.n && decide (t.s=[]) && k0 t && v0 t
 else if t.kind=2 then true && numZ t.n && decide (t.s=[]) && k0 t && v0 t
 else if t.kind=3 then !t.b && nokB t.n && decide (t.s=[]) && k0 t && v0 t
 else if t.kind=4 then !t.b && numZ t.n && textB t.s && k0 t && v0 t
 else if t.kind=5 then !t.b && numZ t.n && decide (t.s.length≤2000) && k0 t && v0 t
 else if t.kind=7 then !t.b && numZ t.n && decide (t.s=[]) && (nmsB t.k && decide (t.k.length=t.v.length)) && decide (t.v.length≤300)
 else if t.kind=6 then !t.b && numZ t.n && decide (t.s=[]) && k0 t && decide (t.v.length≤300)
 else false
/-- bounds that any value in memory keeps -/
def Tame(t:Tree):Prop:=U32 t.n.m∧t.n.m.length≤9223372036854775807∧t.k.length≤9223372036854775807
theorem len0{α:Type}(l:List α):((((l.length:Nat):Int)) == 0)=decide (l=[]):=by
 cases l with
 | nil=>rfl
 | cons a r=>
  have : ¬ (((a::r).length:Nat):Int)=0:=by simp only[List.length_cons];omega
  rw[decide_eq_false (by simp),beq_eq_false_iff_ne];exact this
theorem str0(s:Str):(s == ([]:Str))=decide (s=[]):=by cases s<;>rfl
theorem town_ok(t:Tree)(h:Tame t):P0 f_tree_own [.v t.val] []=some (.bool (ownB t),[]):=by
 obtain⟨hu,hm,hk⟩:=h
 rw[eq_tree_own];unfold F_tree_own
 have e1:(((t.n.m.length:Nat):Int) == 0)=decide (t.n.m=[]):=len0 _
 have e2:(((t.k.length:Nat):Int) == 0)=decide (t.k=[]):=len0 _
 have e3:(((t.v.length:Nat):Int) == 0)=decide (t.v=[]):=len0 _
 have x8:(if(!t.n.neg)=true then(fldV t.val 3).bind fun c6=>(lenV c6).bind fun n7=>some (.bool ((((n7:Nat):Int):Int) == 0))else some (.bool false):Option V)=some (.bool (!t.n.neg && decide (t.n.m=[]))):=by
  cases t.n.neg with
  | true=>rfl
  | false=>simp only[tick_eq,zI,if_true,fld3,some_bind,lenV_sl,limbs_len,e1,Bool.true_and]
 have x12:(if(!t.n.neg && decide (t.n.m=[]))=true then(fldV t.val 4).bind fun c10=>(binV .eql c10 (.int .i64 0)).bind fun x11=>some x11 else some (.bool false):Option V)=some (.bool (numZ t.n)):=by
  unfold numZ
  cases (!t.n.neg && decide (t.n.m=[]))with
  | false=>rfl
  | true=>simp only[tick_eq,if_true,fld4,some_bind,eql_i,Bool.true_and]
 by_cases h1:t.kind=1
 ·rw[show ownB t=_ from if_pos h1]
  simp only[tick_eq,okN_tree,tst_t,fld0,fld1,fld2,fld5,fld6,fld7,some_bind,not_b,asBool_b,x8,x12,eql_s,str0,lenV_sl,strs_len,trs_len,eql_i,h1,Int.reduceEq,decide_true,if_true,vec_0]
  exact and5 (!t.b) (numZ t.n) (decide (t.s=[])) (k0 t) (v0 t)
 by_cases h2:t.kind=2
 ·rw[show ownB t=_ from(if_neg h1).trans (if_pos h2)]
  simp only[tick_eq,okN_tree,tst_t,fld0,fld1,fld2,fld5,fld6,fld7,some_bind,not_b,asBool_b,x8,x12,eql_s,str0,lenV_sl,strs_len,trs_len,eql_i,h2,Int.reduceEq,decide_true,decide_false,zF,if_false,if_true,vec_0]
  exact and4 (numZ t.n) (decide (t.s=[])) (k0 t) (v0 t)
 by_cases h3:t.kind=3
 ·rw[show ownB t=_ from(if_neg h1).trans ((if_neg h2).trans (if_pos h3))]
  simp only[tick_eq,okN_tree,tst_t,fld0,fld1,fld2,fld5,fld6,fld7,some_bind,not_b,asBool_b,x8,x12,eql_s,str0,lenV_sl,strs_len,trs_len,eql_i,h3,Int.reduceEq,decide_true,decide_false,zF,if_false,if_true,vec_0,subV_nm,ncheck_all t.n hu hm]
  exact and5 (!t.b) (nokB t.n) (decide (t.s=[])) (k0 t) (v0 t)
 by_cases h4:t.kind=4
 ·rw[show ownB t=_ from(if_neg h1).trans ((if_neg h2).trans ((if_neg h3).trans (if_pos h4)))]
  simp only[tick_eq,okN_tree,tst_t,fld0,fld1,fld2,fld5,fld6,fld7,some_bind,not_b,asBool_b,x8,x12,eql_s,str0,lenV_sl,strs_len,trs_len,eql_i,h4,Int.reduceEq,decide_true,decide_false,zF,if_false,if_true,vec_0,ttext_ok]
  exact and5 (!t.b) (numZ t.n) (textB t.s) (k0 t) (v0 t)
 by_cases h5:t.kind=5
 ·rw[show ownB t=_ from(if_neg h1).trans ((if_neg h2).trans ((if_neg h3).trans ((if_neg h4).trans (if_pos h5))))]
  have e5:decide (((t.s.length:Nat):Int)≤2000)=decide (t.s.length≤2000):=by
   by_cases q:t.s.length≤2000
   ·rw[decide_eq_true q,decide_eq_true (by omega)]
   ·rw[decide_eq_false q,decide_eq_false (by omega)]
  simp only[tick_eq,okN_tree,tst_t,fld0,fld1,fld2,fld5,fld6,fld7,some_bind,not_b,asBool_b,x8,x12,eql_s,str0,lenV_sl,strs_len,trs_len,eql_i,h5,Int.reduceEq,decide_true,decide_false,zF,if_false,if_true,vec_0,lns_s]
  rw[e5]
  exact and5 (!t.b) (numZ t.n) (decide (t.s.length≤2000)) (k0 t) (v0 t)
 have e300:decide (((t.v.length:Nat):Int)≤300)=decide (t.v.length≤300):=by
  by_cases q:t.v.length≤300
  ·rw[decide_eq_true q,decide_eq_true (by omega)]
  ·rw[decide_eq_false q,decide_eq_false (by omega)]
 have z2:(2:Nat)=0↔False:=by decide
 have z1:(2 - 1:Nat)=0↔False:=by decide
 by_cases h7:t.kind=7
 ·rw[show ownB t=_ from(if_neg h1).trans ((if_neg h2).trans ((if_neg h3).trans ((if_neg h4).trans ((if_neg h5).trans (if_pos h7)))))]
  have x44:(if nmsB t.k=true then(fldV t.val 6).bind fun c40=>(lenV c40).bind fun n41=>(fldV t.val 7).bind fun c42=>(lenV c42).bind fun n43=>some (.bool ((((n41:Nat):Int):Int) == ((n43:Nat):Int)))else some (.bool false):Option V)=some (.bool (nmsB t.k && decide (t.k.length=t.v.length))):=by
   cases nmsB t.k with
   | false=>rfl
   | true=>
    have:(((t.k.length:Nat):Int) == ((t.v.length:Nat):Int))=decide (t.k.length=t.v.length):=by
     by_cases q:t.k.length=t.v.length
     ·rw[decide_eq_true q,q];simp
     ·rw[decide_eq_false q,beq_eq_false_iff_ne];omega
    simp only[tick_eq,if_true,fld6,fld7,some_bind,lenV_sl,strs_len,trs_len,this,Bool.true_and]
  simp only[tick_eq,okN_tree,tst_t,fld0,fld1,fld2,fld5,fld6,fld7,some_bind,not_b,asBool_b,x8,x12,eql_s,str0,lenV_sl,strs_len,trs_len,eql_i,h7,Int.reduceEq,decide_true,decide_false,zF,if_false,if_true,vec_0,tnames_ok t.k hk,x44,z2,z1]
  rw[e300]
  exact and5 (!t.b) (numZ t.n) (decide (t.s=[])) (nmsB t.k && decide (t.k.length=t.v.length)) (decide (t.v.length≤300))
 by_cases h6:t.kind=6
 ·rw[show ownB t=_ from(if_neg h1).trans ((if_neg h2).trans ((if_neg h3).trans ((if_neg h4).trans ((if_neg h5).trans ((if_neg h7).trans (if_pos h6))))))]
  simp only[tick_eq,okN_tree,tst_t,fld0,fld1,fld2,fld5,fld6,fld7,some_bind,not_b,asBool_b,x8,x12,eql_s,str0,lenV_sl,strs_len,trs_len,eql_i,h6,Int.reduceEq,decide_true,decide_false,zF,if_false,if_true,vec_0,z2,z1]
  rw[e300]
  exact and5 (!t.b) (numZ t.n) (decide (t.s=[])) (k0 t) (decide (t.v.length≤300))
 ·rw[show ownB t=false from(if_neg h1).trans ((if_neg h2).trans ((if_neg h3).trans ((if_neg h4).trans ((if_neg h5).trans ((if_neg h7).trans (if_neg h6))))))]
  simp only[tick_eq,okN_tree,tst_t,fld0,fld1,fld2,fld5,fld6,fld7,some_bind,not_b,asBool_b,x8,x12,eql_s,str0,lenV_sl,strs_len,trs_len,eql_i,h1,h2,h3,h4,h5,h6,h7,decide_false,zF,if_false,Nat.one_ne_zero,Nat.sub_self,if_true,vec_0]
end Go.Ev
