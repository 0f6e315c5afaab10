/- Values that may be, by the reference: a value's own fields; how deep, how many. -/
import Derived.Test.YtdhfnobijejpcaaDoorKSw5
import Derived.Test.YtdhfnobijejpcaaDoorKSv9
set_option linter.all false
open Bool renaming false_eq_true→zF,not_true→zH,not_false→zI
namespace Go.Ev
attribute [local irreducible] P0
theorem rzero_ok(n:Nm):P0 f_ref05_zero [.v n.val] []=some (.bool (numZ n),[]):=by
 rw[eq_ref05_zero];unfold F_ref05_zero numZ
 have e:(((n.m.length:Nat):Int) == 0)=decide (n.m=[]):=len0 _
 cases hn:n.neg with
 | true=>simp only[tick_eq,okN_nm,tst_t,fld_nm0,some_bind,hn,not_b,zH,asBool_b,zF,if_false,Bool.false_and]
 | false=>
  by_cases hm:n.m=[]
  ·simp only[tick_eq,okN_nm,tst_t,fld_nm0,fld_nm1,fld_nm2,some_bind,hn,not_b,zI,asBool_b,if_true,lenV_sl,limbs_len,e,decide_eq_true hm,eql_i,Bool.true_and]
  ·simp only[tick_eq,okN_nm,tst_t,fld_nm0,fld_nm1,fld_nm2,some_bind,hn,not_b,zI,asBool_b,if_true,lenV_sl,limbs_len,e,decide_eq_false hm,zF,if_false,Bool.true_and,Bool.false_and]
def d_(t:Tree)(k:Int):Bool := !decide (t.kind=k)
theorem pos0(l:Nat):decide (((l:Nat):Int) > 0) = !decide (l=0):=by
 by_cases h:l=0
 ·rw[decide_eq_true h,decide_eq_false (by omega)];rfl
 ·rw[decide_eq_false h,decide_eq_true (by omega)];rfl
theorem k0_d(t:Tree):k0 t=decide (t.k.length=0):=by
 unfold k0
 by_cases h:t.k.length=0
 ·rw[decide_eq_true h,h];rfl
 ·rw[decide_eq_false h,beq_eq_false_iff_ne];omega
theorem v0_d(t:Tree):v0 t=decide (t.v.length=0):=by
 unfold v0
 by_cases h:t.v.length=0
 ·rw[decide_eq_true h,h];rfl
 ·rw[decide_eq_false h,beq_eq_false_iff_ne];omega
def badB(t:Tree):Bool:=(d_ t 2 && t.b) || (d_ t 3 && !numZ t.n) || ((d_ t 4 && d_ t 5) && !decide (t.s=[])) || (d_ t 7 && !k0 t) || ((d_ t 7 && d_ t 6) && !v0 t)
theorem rfields_all(t:Tree)(ht:Tame t)(hl:t.n.m.length≤1000000)(hs:t.s.length≤1000000000)(hk:t.k.length≤1000000)(hk' : ∀ x,x∈t.k→x.length≤1000000000):P0 f_ref05_fields [.v t.val] []=some (.bool (ownB t),[]):=by
 have r1:(if(d_ t 2)=true then(fldV t.val 1).bind fun c4=>some c4 else some (.bool false):Option V)=some (.bool (d_ t 2 && t.b)):=by
  cases d_ t 2 with
  | false=>rfl
  | true=>rw[if_pos rfl,fld1];rfl
 have r2 : ∀ b:Bool,(if b=false then(fldV t.val 0).bind fun c7=>(binV .neq c7 (.int .i64 3)).bind fun x8=>(asBool x8).bind fun b9=>((if b9=true then(P0 f_ref05_zero [.v (subV t.val 2 3)] []).bind fun r10=>(unV .not r10.1).bind fun x11=>some x11 else some (.bool false):Option V)).bind fun x12=>some x12 else some (.bool true):Option V)=some (.bool (b || (d_ t 3 && !numZ t.n))):=by
  intro b;cases b with
  | true=>rfl
  | false=>
   rw[if_pos rfl,Bool.false_or]
   simp only[tick_eq,fld0,some_bind,neq_i,asBool_b]
   show((if(d_ t 3)=true then _ else _:Option V)).bind _=_
   cases d_ t 3 with
   | false=>rfl
   | true=>simp only[tick_eq,if_true,subV_nm,rzero_ok,some_bind,not_b,Bool.true_and]
 have r3 : ∀ b:Bool,(if b=false then(fldV t.val 0).bind fun c15=>(binV .neq c15 (.int .i64 4)).bind fun x16=>(asBool x16).bind fun b17=>((if b17=true then(fldV t.val 0).bind fun c18=>(binV .neq c18 (.int .i64 5)).bind fun x19=>some x19 else some (.bool false):Option V)).bind fun x20=>(asBool x20).bind fun b21=>((if b21=true then(fldV t.val 5).bind fun c22=>(binV .neq c22 (.str [])).bind fun x23=>some x23 else some (.bool false):Option V)).bind fun x24=>some x24 else some (.bool true):Option V)=some (.bool (b || ((d_ t 4 && d_ t 5) && !decide (t.s=[])))):=by
  intro b;cases b with
  | true=>rfl
  | false=>
   rw[if_pos rfl,Bool.false_or]
   simp only[tick_eq,fld0,some_bind,neq_i,asBool_b]
   show((if(d_ t 4)=true then(fldV t.val 0).bind fun c18=>(binV .neq c18 (.int .i64 5)).bind fun x19=>some x19 else _:Option V)).bind _=_
   cases d_ t 4 with
   | false=>rfl
   | true=>
    simp only[tick_eq,if_true,fld0,some_bind,neq_i,asBool_b]
    show((if(d_ t 5)=true then _ else _:Option V)).bind _=_
    cases d_ t 5 with
    | false=>rfl
    | true=>simp only[tick_eq,if_true,fld5,some_bind,neq_s,str0,Bool.true_and]
 have r4 : ∀ b:Bool,(if b=false then(fldV t.val 0).bind fun c27=>(binV .neq c27 (.int .i64 7)).bind fun x28=>(asBool x28).bind fun b29=>((if b29=true then(fldV t.val 6).bind fun c30=>(lenV c30).bind fun n31=>some (.bool (decide ((((n31:Nat):Int):Int) > 0)))else some (.bool false):Option V)).bind fun x32=>some x32 else some (.bool true):Option V)=some (.bool (b || (d_ t 7 && !k0 t))):=by
  intro b;cases b with
  | true=>rfl
  | false=>
   rw[if_pos rfl,Bool.false_or]
   simp only[tick_eq,fld0,some_bind,neq_i,asBool_b]
   show((if(d_ t 7)=true then _ else _:Option V)).bind _=_
   cases d_ t 7 with
   | false=>rfl
   | true=>simp only[tick_eq,if_true,fld6,some_bind,lenV_sl,strs_len,pos0,k0_d,Bool.true_and]
 have r5 : ∀ b:Bool,(if b=false then(fldV t.val 0).bind fun c35=>(binV .neq c35 (.int .i64 7)).bind fun x36=>(asBool x36).bind fun b37=>((if b37=true then(fldV t.val 0).bind fun c38=>(binV .neq c38 (.int .i64 6)).bind fun x39=>some x39 else some (.bool false):Option V)).bind fun x40=>(asBool x40).bind fun b41=>((if b41=true then(fldV t.val 7).bind fun c42=>(lenV c42).bind fun n43=>some (.bool (decide ((((n43:Nat):Int):Int) > 0)))else some (.bool false):Option V)).bind fun x44=>some x44 else some (.bool true):Option V)=some (.bool (b || ((d_ t 7 && d_ t 6) && !v0 t))):=by
  intro b;cases b with
  | true=>rfl
  | false=>
   rw[if_pos rfl,Bool.false_or]
   simp only[tick_eq,fld0,some_bind,neq_i,asBool_b]
   show((if(d_ t 7)=true then(fldV t.val 0).bind fun c38=>(binV .neq c38 (.int .i64 6)).bind fun x39=>some x39 else _:Option V)).bind _=_
   cases d_ t 7 with
   | false=>rfl
   | true=>
    simp only[tick_eq,if_true,fld0,some_bind,neq_i,asBool_b]
    show((if(d_ t 6)=true then _ else _:Option V)).bind _=_
    cases d_ t 6 with
    | false=>rfl
    | true=>simp only[tick_eq,if_true,fld7,some_bind,lenV_sl,trs_len,pos0,v0_d,Bool.true_and]
 have r0:(!decide (t.kind=2))=d_ t 2:=rfl
 rw[eq_ref05_fields];unfold F_ref05_fields
 simp only[tick_eq,okN_tree,tst_t,fld0,some_bind,neq_i,asBool_b,r0,r1,r2,r3,r4,r5]
 have fin : ∀ {R:Option (V×List V)},(badB t=true→ownB t=false)→(badB t=false→R=some (.bool (ownB t),[]))→(if badB t=true then some ((.bool false),[])else R)=some (.bool (ownB t),[]):=by
  intro R h1 h2
  cases hb:badB t with
  | true=>rw[if_pos rfl,h1 hb]
  | false=>rw[if_neg (by decide)];exact h2 hb
 refine fin ?_ ?_
 ·intro hb
  cases ho:ownB t with
  | false=>rfl
  | true=>
   exfalso
   obtain⟨a1,a2,a3,a4,a5,a6,a7⟩:=own_shape ho
   rcases own_kind ho with h | h | h | h | h | h | h
   ·rw[a1 h]at hb;exact absurd hb (by decide)
   ·rw[a2 h]at hb
    unfold badB at hb
    rw[k0_nil rfl,v0_nil rfl]at hb
    exact absurd hb (by simp[d_,Tree.kind,Tree.n,Tree.s,numZ_zero])
   ·have:=(a3 h).1
    rw[this]at hb
    unfold badB at hb
    rw[k0_nil rfl,v0_nil rfl]at hb
    exact absurd hb (by simp[d_,Tree.kind,Tree.b,Tree.s])
   ·rw[a4 h]at hb
    unfold badB at hb
    rw[k0_nil rfl,v0_nil rfl]at hb
    exact absurd hb (by simp[d_,Tree.kind,Tree.b,Tree.n,numZ_zero])
   ·rw[a5 h]at hb
    unfold badB at hb
    rw[k0_nil rfl,v0_nil rfl]at hb
    exact absurd hb (by simp[d_,Tree.kind,Tree.b,Tree.n,numZ_zero])
   ·rw[a6 h]at hb
    unfold badB at hb
    rw[k0_nil rfl]at hb
    exact absurd hb (by simp[d_,Tree.kind,Tree.b,Tree.n,Tree.s,numZ_zero])
   ·rw[(a7 h).1]at hb
    unfold badB at hb
    exact absurd hb (by simp[d_,Tree.kind,Tree.b,Tree.n,Tree.s,numZ_zero])
 ·intro hb
  unfold badB d_ at hb
  simp only[Bool.or_eq_false_iff,Bool.and_eq_false_iff,Bool.not_eq_false']at hb
  obtain⟨⟨⟨⟨g1,g2⟩,g3⟩,g4⟩,g5⟩:=hb
  have e300:decide (((t.v.length:Nat):Int)≤300)=decide (t.v.length≤300):=by
   by_cases q:t.v.length≤300
   ·rw[decide_eq_true q,decide_eq_true (by omega)]
   ·rw[decide_eq_false q,decide_eq_false (by omega)]
  have e2000:decide (((t.s.length:Nat):Int)≤2000)=decide (t.s.length≤2000):=by
   by_cases q:t.s.length≤2000
   ·rw[decide_eq_true q,decide_eq_true (by omega)]
   ·rw[decide_eq_false q,decide_eq_false (by omega)]
  have ekv:(((t.k.length:Nat):Int) == ((t.v.length:Nat):Int))=decide (t.k.length=t.v.length):=by
   by_cases q:t.k.length=t.v.length
   ·rw[decide_eq_true q,q];simp
   ·rw[decide_eq_false q,beq_eq_false_iff_ne];omega
  by_cases h1:t.kind=1
  ·rw[own_1 h1]
   simp only[h1]at g1 g2 g3 g4 g5
   have e:(!t.b && numZ t.n && decide (t.s=[]) && k0 t && v0 t)=true:=by
    have q1:t.b=false:=by simpa using g1
    have q2:numZ t.n=true:=by simpa using g2
    have q3:t.s=[]:=by simpa using g3
    have q4:k0 t=true:=by simpa using g4
    have q5:v0 t=true:=by simpa using g5
    rw[q1,q2,decide_eq_true q3,q4,q5];rfl
   rw[e]
   simp only[tick_eq,fld0,some_bind,eql_i,h1,decide_true,asBool_b,if_true,vec_0]
  by_cases h2:t.kind=2
  ·rw[own_2 h2]
   simp only[h2]at g1 g2 g3 g4 g5
   have e:(true && numZ t.n && decide (t.s=[]) && k0 t && v0 t)=true:=by
    have q2:numZ t.n=true:=by simpa using g2
    have q3:t.s=[]:=by simpa using g3
    have q4:k0 t=true:=by simpa using g4
    have q5:v0 t=true:=by simpa using g5
    rw[q2,decide_eq_true q3,q4,q5];rfl
   rw[e]
   simp only[tick_eq,fld0,some_bind,eql_i,h2,Int.reduceEq,decide_true,decide_false,asBool_b,zF,if_false,if_true,vec_0]
  by_cases h3:t.kind=3
  ·rw[own_3 h3]
   simp only[h3]at g1 g2 g3 g4 g5
   have e:(!t.b && nokB t.n && decide (t.s=[]) && k0 t && v0 t)=nokB t.n:=by
    have q1:t.b=false:=by simpa using g1
    have q3:t.s=[]:=by simpa using g3
    have q4:k0 t=true:=by simpa using g4
    have q5:v0 t=true:=by simpa using g5
    rw[q1,decide_eq_true q3,q4,q5];simp
   rw[e]
   simp only[tick_eq,fld0,some_bind,eql_i,h3,Int.reduceEq,decide_true,decide_false,asBool_b,zF,if_false,if_true,vec_0,subV_nm,rcheck_all t.n ht.1 (by omega)]
  by_cases h4:t.kind=4
  ·rw[own_4 h4]
   simp only[h4]at g1 g2 g3 g4 g5
   have e:(!t.b && numZ t.n && textB t.s && k0 t && v0 t)=(textU t.s && decide (t.s.length≤2000)):=by
    have q1:t.b=false:=by simpa using g1
    have q2:numZ t.n=true:=by simpa using g2
    have q4:k0 t=true:=by simpa using g4
    have q5:v0 t=true:=by simpa using g5
    rw[q1,q2,q4,q5];unfold textB;simp[Bool.and_comm]
   rw[e]
   have r:(if textU t.s=true then(fldV t.val 5).bind fun c61=>(lnsV c61).bind fun n62=>some (.bool (decide ((((n62:Nat):Int):Int)≤2000)))else some (.bool false):Option V)=some (.bool (textU t.s && decide (t.s.length≤2000))):=by
    cases textU t.s with
    | false=>rfl
    | true=>simp only[tick_eq,if_true,fld5,some_bind,lns_s,e2000,Bool.true_and]
   simp only[tick_eq,fld0,fld5,some_bind,eql_i,h4,Int.reduceEq,decide_true,decide_false,asBool_b,zF,if_false,if_true,vec_0,rvalid_ok t.s hs,r]
  by_cases h5:t.kind=5
  ·rw[own_5 h5]
   simp only[h5]at g1 g2 g3 g4 g5
   have e:(!t.b && numZ t.n && decide (t.s.length≤2000) && k0 t && v0 t)=decide (t.s.length≤2000):=by
    have q1:t.b=false:=by simpa using g1
    have q2:numZ t.n=true:=by simpa using g2
    have q4:k0 t=true:=by simpa using g4
    have q5:v0 t=true:=by simpa using g5
    rw[q1,q2,q4,q5];simp
   rw[e]
   simp only[tick_eq,fld0,fld5,some_bind,eql_i,h5,Int.reduceEq,decide_true,decide_false,asBool_b,zF,if_false,if_true,vec_0,lns_s,e2000]
  by_cases h6:t.kind=6
  ·rw[own_6 h6]
   simp only[h6]at g1 g2 g3 g4 g5
   have e:(!t.b && numZ t.n && decide (t.s=[]) && k0 t && decide (t.v.length≤300))=decide (t.v.length≤300):=by
    have q1:t.b=false:=by simpa using g1
    have q2:numZ t.n=true:=by simpa using g2
    have q3:t.s=[]:=by simpa using g3
    have q4:k0 t=true:=by simpa using g4
    rw[q1,q2,decide_eq_true q3,q4];simp
   rw[e]
   simp only[tick_eq,fld0,fld7,some_bind,eql_i,h6,Int.reduceEq,decide_true,decide_false,asBool_b,zF,if_false,if_true,vec_0,lenV_sl,trs_len,e300]
  by_cases h7:t.kind=7
  ·rw[own_7 h7]
   simp only[h7]at g1 g2 g3 g4 g5
   have e:(!t.b && numZ t.n && decide (t.s=[]) && (nmsB t.k && decide (t.k.length=t.v.length)) && decide (t.v.length≤300))=(nmsB t.k && decide (t.k.length=t.v.length)):=by
    have q1:t.b=false:=by simpa using g1
    have q2:numZ t.n=true:=by simpa using g2
    have q3:t.s=[]:=by simpa using g3
    rw[q1,q2,decide_eq_true q3]
    cases hn:nmsB t.k with
    | false=>simp
    | true=>
     by_cases q:t.k.length=t.v.length
     ·have:=((nmsB_iff _).1 hn).2
      rw[decide_eq_true q,decide_eq_true (show t.v.length≤300 by omega)];rfl
     ·rw[decide_eq_false q];simp
   rw[e]
   have r:(if nmsB t.k=true then(fldV t.val 6).bind fun c77=>(lenV c77).bind fun n78=>(fldV t.val 7).bind fun c79=>(lenV c79).bind fun n80=>some (.bool ((((n78:Nat):Int):Int) == ((n80:Nat):Int)))else some (.bool false):Option V)=some (.bool (nmsB t.k && decide (t.k.length=t.v.length))):=by
    cases nmsB t.k with
    | false=>rfl
    | true=>simp only[tick_eq,if_true,fld6,fld7,some_bind,lenV_sl,strs_len,trs_len,ekv,Bool.true_and]
   simp only[tick_eq,fld0,fld6,some_bind,eql_i,h7,Int.reduceEq,decide_true,decide_false,asBool_b,zF,if_false,if_true,vec_0,rnames_all t.k hk hk',r]
  ·rw[show ownB t=false from(if_neg h1).trans ((if_neg h2).trans ((if_neg h3).trans ((if_neg h4).trans ((if_neg h5).trans ((if_neg h7).trans (if_neg h6))))))]
   simp only[tick_eq,fld0,some_bind,eql_i,h1,h2,h3,h4,h5,h6,h7,decide_false,asBool_b,zF,if_false,vec_0]
end Go.Ev
