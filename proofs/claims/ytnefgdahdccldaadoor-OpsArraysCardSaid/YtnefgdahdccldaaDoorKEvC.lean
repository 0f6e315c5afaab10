/- The machines Ev and Pv, part 3: an abstract machine over the translated code, proved sound once. -/
import Derived.Test.YtnefgdahdccldaaDoorKEvB
import Derived.Below
set_option linter.all false
open Option renaming bind_eq_some_iff→zA,map_eq_some_iff→zB,map_some→zC,bind_some→zD
open Bool renaming false_eq_true→zF,and_eq_true→zG,not_true→zH
open Nat renaming eq_of_beq_eq_true→zJ,le_refl→zR,le_of_ble_eq_true→zT,mul_le_mul_right→zW
open List renaming getElem?_eq_getElem→zL,getElem?_cons_zero→zM,getElem?_cons_succ→zN,drop_eq_getElem_cons→zO,mem_cons_of_mem→zP,mem_cons→zS,drop_zero→zU,take_of_length_le→zV,length_append→zZ
section
namespace Go.Ev
/-- what a run comes to, whatever the fuel -/
noncomputable def zu(E:Env):Cf:=fun f ds st=>open Classical in
 if h : ∃ r,∃ n,call E n f ds st=some r then some h.choose else none
theorem zkW{E:Env}{f:Nat}{ds:List D}{st:St}{n m:Nat}{r q:Out×St}(h:call E n f ds st=some r)(k:call E m f ds st=some q):r=q:=by
 have a:=yT E (Nat.le_max_left n m) f ds st r h
 have b:=yT E (Nat.le_max_right n m) f ds st q k
 rw[a]at b;injection b
theorem wc{E:Env}{f:Nat}{ds:List D}{st:St}{r:Out×St}:zu E f ds st=some r ↔ ∃ n,call E n f ds st=some r:=by
 unfold zu
 constructor
 ·intro h
  split at h
  ·next hx=>injection h with h;rw[← h];exact hx.choose_spec
  ·simp at h
 ·rintro⟨n,h⟩
  have hx : ∃ r,∃ n,call E n f ds st=some r:=⟨r,n,h⟩
  rw[dif_pos hx]
  obtain⟨m,hm⟩:=hx.choose_spec
  rw[zkW hm h]
theorem zoi(E:Env)(n:Nat):Q8 (call E n) (zu E):=fun _ _ _ _ h=>wc.2 ⟨n,h⟩
noncomputable def execL(E:Env)(c:C)(st:St):Option (Ex×St):=open Classical in
 if h : ∃ r,∃ n,exec E (zu E) n c st=some r then some h.choose else none
theorem zlr{E:Env}{cf:Cf}{c:C}{st:St}{n m:Nat}{r q:Ex×St}(h:exec E cf n c st=some r)(k:exec E cf m c st=some q):r=q:=by
 have a:=jl (cf:=cf) (fun _ _ _ _ h=>h) (Nat.le_max_left n m) h
 have b:=jl (cf:=cf) (fun _ _ _ _ h=>h) (Nat.le_max_right n m) k
 rw[a]at b;injection b
theorem execL_iff{E:Env}{c:C}{st:St}{r:Ex×St}:execL E c st=some r ↔ ∃ n,exec E (zu E) n c st=some r:=by
 unfold execL
 constructor
 ·intro h
  split at h
  ·next hx=>injection h with h;rw[← h];exact hx.choose_spec
  ·simp at h
 ·rintro⟨n,h⟩
  have hx : ∃ r,∃ n,exec E (zu E) n c st=some r:=⟨r,n,h⟩
  rw[dif_pos hx]
  obtain⟨m,hm⟩:=hx.choose_spec
  rw[zlr hm h]
theorem jq{α:Type}{x y:Option α}(h : ∀ r,x=some r↔y=some r):x=y:=by
 cases x with
 | none=>
  cases y with
  | none=>rfl
  | some b=>have:=(h b).2 rfl;simp at this
 | some a=>exact((h a).1 rfl).symm
section
variable {E:Env}
/-- a code that has no loop of its own at its head -/
theorem WZ{c:C}{st:St}{x:Option (Ex×St)}(h : ∀ n,exec E (zu E) n c st=x):execL E c st=x:=
 jq fun r=>execL_iff.trans ⟨fun⟨n,hn⟩=>(h n).symm.trans hn,fun hx=>⟨0,(h 0).trans hx⟩⟩
theorem zcC(st:St):execL E .skip st=some (.nrm,st):=WZ fun _=>rfl
theorem zcg(id:Nat)(st:St):execL E (.exit id) st=some (.ext id,st):=WZ fun _=>rfl
theorem zeg(st:St):execL E .ret st=some (.ret,st):=WZ fun _=>rfl
theorem zfb(ops:List OpC)(keep:List Nat)(st:St):execL E (.reg ops keep) st=match runOps E (zu E) ops st with
  | some (.ok st')=>some (.nrm,{ st' with tm:=kept keep st'.tm })
  | some (.pan d st')=>some (.pan d,st')
  | none=>none:=WZ fun _=>rfl
theorem Kn(a0 a1 b1 b:List OpC)(keep:List Nat)(st:St):execL E (.drw a0 a1 b1 b keep) st=match runDrw E (zu E) a0 a1 b1 b st with
  | some (.ok st')=>some (.nrm,{ st' with tm:=kept keep st'.tm })
  | some (.pan d st')=>some (.pan d,st')
  | none=>none:=WZ fun _=>rfl
theorem JK{n m:Nat}(h:n≤m){c:C}{st:St}{r:Ex×St}(k:exec E (zu E) n c st=some r):exec E (zu E) m c st=some r:=jl (fun _ _ _ _ h=>h) h k
theorem jX(a b:C)(st:St):execL E (.seq a b) st=match execL E a st with
  | some (.nrm,s)=>execL E b s
  | r=>r:=by
 refine jq fun r=>⟨fun h => ?_,fun h => ?_⟩
 ·obtain⟨n,hn⟩:=execL_iff.1 h
  simp only[exec]at hn
  split at hn
  ·next s he=>rw[execL_iff.2 ⟨n,he⟩];exact execL_iff.2 ⟨n,hn⟩
  ·next hne=>
   rw[execL_iff.2 ⟨n,hn⟩]
   obtain⟨e,s⟩:=r
   cases e with
   | nrm=>exact(hne s hn).elim
   | _=>rfl
 ·split at h
  ·next s he=>
   obtain⟨n,hn⟩:=execL_iff.1 he
   obtain⟨m,hm⟩:=execL_iff.1 h
   refine execL_iff.2 ⟨max n m,?_⟩
   simp only[exec]
   rw[JK (Nat.le_max_left n m) hn]
   exact JK (Nat.le_max_right n m) hm
  ·next hne=>
   obtain⟨n,hn⟩:=execL_iff.1 h
   refine execL_iff.2 ⟨n,?_⟩
   simp only[exec]
   rw[hn]
   obtain⟨e,s⟩:=r
   cases e with
   | nrm=>exact(hne s h).elim
   | _=>rfl
theorem XH(c:X)(a b:C)(st:St):execL E (.cond c a b) st=match ev E st.tm c with
  | some (.bool true)=>execL E a st
  | some (.bool false)=>execL E b st
  | _=>none:=by
 refine jq fun r=>⟨fun h => ?_,fun h => ?_⟩
 ·obtain⟨n,hn⟩:=execL_iff.1 h
  simp only[exec]at hn
  split at hn
  ·next hb=>rw[hb];exact execL_iff.2 ⟨n,hn⟩
  ·next hb=>rw[hb];exact execL_iff.2 ⟨n,hn⟩
  ·simp at hn
 ·split at h
  ·next hb=>
   obtain⟨n,hn⟩:=execL_iff.1 h
   exact execL_iff.2 ⟨n,by simp only[exec];rw[hb];exact hn⟩
  ·next hb=>
   obtain⟨n,hn⟩:=execL_iff.1 h
   exact execL_iff.2 ⟨n,by simp only[exec];rw[hb];exact hn⟩
  ·simp at h
def zbB(id:Nat):Option (Ex×St)→Option (Ex×St)
 | some (.ext i,st')=>if i=id then some (.nrm,st')else some (.ext i,st')
 | r=>r
theorem qu(id:Nat)(c:C)(st:St):execL E (.blk id c) st=zbB id (execL E c st):=by
 have key : ∀ n,exec E (zu E) n (.blk id c) st=zbB id (exec E (zu E) n c st):=by
  intro n
  simp only[exec,zbB]
  split<;>simp_all
 refine jq fun r=>⟨fun h => ?_,fun h => ?_⟩
 ·obtain⟨n,hn⟩:=execL_iff.1 h
  rw[key]at hn
  cases hc:exec E (zu E) n c st with
  | none=>rw[hc]at hn;simp[zbB]at hn
  | some q=>rw[execL_iff.2 ⟨n,hc⟩,← hc];exact hn
 ·cases hc:execL E c st with
  | none=>rw[hc]at h;simp[zbB]at h
  | some q=>
   obtain⟨n,hn⟩:=execL_iff.1 hc
   exact execL_iff.2 ⟨n,by rw[key,hn,← hc];exact h⟩
/-- a loop: one round, and on -/
theorem ka(c:C)(st:St):execL E (.loop c) st=match execL E c st with
  | some (.nrm,s)=>execL E (.loop c) s
  | r=>r:=by
 refine jq fun r=>⟨fun h => ?_,fun h => ?_⟩
 ·obtain⟨n,hn⟩:=execL_iff.1 h
  simp only[exec]at hn
  cases n with
  | zero=>simp[loopN]at hn
  | succ n=>
   simp only[loopN]at hn
   split at hn
   ·next s he=>
    rw[execL_iff.2 ⟨n+1,he⟩]
    refine execL_iff.2 ⟨n+1,?_⟩
    simp only[exec]
    exact Xo (fun _ _ h=>h) (Nat.le_succ n) hn
   ·next hne=>
    rw[execL_iff.2 ⟨n+1,hn⟩]
    obtain⟨e,s⟩:=r
    cases e with
    | nrm=>exact(hne s hn).elim
    | _=>rfl
 ·split at h
  ·next s he=>
   obtain⟨n,hn⟩:=execL_iff.1 he
   obtain⟨m,hm⟩:=execL_iff.1 h
   refine execL_iff.2 ⟨max n m+1,?_⟩
   simp only[exec,loopN]
   rw[JK (by omega:n≤max n m+1) hn]
   simp only[exec]at hm
   exact Xo (fun st r h=>JK (by omega:m≤max n m+1) h) (by omega) hm
  ·next hne=>
   obtain⟨n,hn⟩:=execL_iff.1 h
   refine execL_iff.2 ⟨n+1,?_⟩
   simp only[exec,loopN]
   rw[JK (by omega:n≤n+1) hn]
   obtain⟨e,s⟩:=r
   cases e with
   | nrm=>exact(hne s h).elim
   | _=>rfl
/-! a run asks for finitely many calls -/
theorem zpc{st:St}{o:O}{r:Rv}(h:opX E (zu E) st o=some r) : ∃ n,opX E (call E n) st o=some r:=by
 cases o
 case call f xs=>
  simp only[opX,zA,zB]at h ⊢
  obtain⟨l,hl,q,hq,h⟩:=h
  obtain⟨n,hn⟩:=wc.1 hq
  exact⟨n,l,hl,q,hn,h⟩
 case callv g xs=>
  simp only[opX]at h ⊢
  split at h
  ·split at h<;>try contradiction
   next hlt=>
    simp only[if_pos hlt]
    simp only[zA,zB]at h ⊢
    obtain⟨l,hl,q,hq,h⟩:=h
    obtain⟨n,hn⟩:=wc.1 hq
    exact⟨n,l,hl,q,hn,h⟩
  ·simp at h
 all_goals exact⟨0,h⟩
theorem XQ{st:St}{o:OpC}{r:Rs}(h:opC E (zu E) o st=some r) : ∃ n,opC E (call E n) o st=some r:=by
 unfold opC at h ⊢
 split at h
 ·simp only[opR,zB]at h ⊢
  obtain⟨q,hq,h⟩:=h
  obtain⟨n,hn⟩:=zpc hq
  exact⟨n,q,hn,h⟩
 ·exact⟨0,h⟩
 ·exact⟨0,h⟩
theorem XB{l:List OpC}{st:St}{r:Rs}(h:runOps E (zu E) l st=some r) : ∃ n,runOps E (call E n) l st=some r:=by
 induction l generalizing st with
 | nil=>exact⟨0,h⟩
 | cons o l ih=>
  simp only[runOps]at h
  split at h
  ·next s he=>
   obtain⟨n,hn⟩:=XQ he
   obtain⟨m,hm⟩:=ih h
   refine⟨max n m,?_⟩
   simp only[runOps]
   rw[qQ (yT E (Nat.le_max_left n m)) hn]
   exact w6 (yT E (Nat.le_max_right n m)) hm
  ·next hne=>
   obtain⟨n,hn⟩:=XQ h
   refine⟨n,?_⟩
   simp only[runOps]
   rw[hn]
   cases r with
   | ok s=>exact(hne s h).elim
   | pan d s=>rfl
theorem zfQ{l:List OpC}{st s:St}(h:runStill E (zu E) l st=some s) : ∃ n,runStill E (call E n) l st=some s:=by
 induction l generalizing st with
 | nil=>exact⟨0,h⟩
 | cons o l ih=>
  simp only[runStill]at h
  split at h
  ·next s' he=>
   split at h
   ·next hm'=>
    obtain⟨n,hn⟩:=XQ he
    obtain⟨m,hm⟩:=ih h
    refine⟨max n m,?_⟩
    simp only[runStill]
    rw[qQ (yT E (Nat.le_max_left n m)) hn]
    simp only[hm',if_true]
    exact kj (yT E (Nat.le_max_right n m)) hm
   ·simp at h
  ·simp at h
theorem zhK{l:List OpC}{st:St}{q:D×St}(h:panLast E (zu E) l st=some q) : ∃ n,panLast E (call E n) l st=some q:=by
 induction l generalizing st with
 | nil=>exact⟨0,h⟩
 | cons o l ih=>
  simp only[panLast]at h
  split at h
  ·next s' he=>
   split at h
   ·next hm'=>
    obtain⟨n,hn⟩:=XQ he
    obtain⟨m,hm⟩:=ih h
    refine⟨max n m,?_⟩
    simp only[panLast]
    rw[qQ (yT E (Nat.le_max_left n m)) hn]
    simp only[hm',if_true]
    exact Xn (yT E (Nat.le_max_right n m)) hm
   ·simp at h
  ·next d s' he=>
   obtain⟨n,hn⟩:=XQ he
   exact⟨n,by simp only[panLast];rw[hn];exact h⟩
  ·simp at h
theorem zdZ{Y Z l:List OpC}{st:St}{r:Rs}(h:runFl E (zu E) Y Z l st=some r) : ∃ n,runFl E (call E n) Y Z l st=some r:=by
 induction l generalizing st with
 | nil=>exact⟨0,h⟩
 | cons o l ih=>
  simp only[runFl]at h
  split at h
  ·next s' he=>
   split at h
   ·next hm'=>
    obtain⟨n,hn⟩:=XQ he
    obtain⟨m,hm⟩:=ih h
    refine⟨max n m,?_⟩
    simp only[runFl]
    rw[qQ (yT E (Nat.le_max_left n m)) hn]
    simp only
    rw[if_pos hm']
    exact ZS (yT E (Nat.le_max_right n m)) hm
   ·simp at h
  ·next d s' he=>
   obtain⟨n,hn⟩:=XQ he
   exact⟨n,by simp only[runFl];rw[hn];exact h⟩
  ·simp at h
theorem zcn{a0 a1 b1 b:List OpC}{st:St}{r:Rs}(h:runDrw E (zu E) a0 a1 b1 b st=some r) : ∃ n,runDrw E (call E n) a0 a1 b1 b st=some r:=by
 unfold runDrw at h
 split at h
 ·next s1 h1=>
  obtain⟨n1,e1⟩:=XB h1
  split at h
  ·next s2 h2=>
   obtain⟨n2,e2⟩:=zfQ h2
   unfold runB at h
   split at h
   ·next s3 h3=>
    obtain⟨n3,e3⟩:=zdZ h3
    obtain⟨n4,e4⟩:=XB h
    refine⟨max (max n1 n2) (max n3 n4),?_⟩
    unfold runDrw
    rw[w6 (yT E (by omega)) e1]
    simp only
    rw[kj (yT E (by omega)) e2]
    simp only[runB]
    rw[ZS (yT E (by omega)) e3]
    exact w6 (yT E (by omega)) e4
   ·next hne=>
    obtain⟨n3,e3⟩:=zdZ h
    refine⟨max (max n1 n2) n3,?_⟩
    unfold runDrw
    rw[w6 (yT E (by omega)) e1]
    simp only
    rw[kj (yT E (by omega)) e2]
    simp only[runB]
    rw[ZS (yT E (by omega)) e3]
    cases r with
    | ok s3=>exact(hne s3 h).elim
    | pan d s=>rfl
  ·simp only[zB]at h
   obtain⟨q,hq,rfl⟩:=h
   obtain⟨n2,e2⟩:=zhK hq
   refine⟨max n1 n2,?_⟩
   unfold runDrw
   rw[w6 (yT E (by omega)) e1]
   have:=Xn (yT E (show n2≤max n1 n2 by omega)) e2
   simp only
   rw[YF this,this];rfl
 ·simp at h
theorem znm{k:Nat}{c:C}{st:St}{r:Ex×St}(h:exec E (zu E) k c st=some r) : ∃ n,exec E (call E n) n c st=some r:=by
 have up : ∀ {n m:Nat} {c:C} {st:St} {r:Ex×St},n≤m→exec E (call E n) n c st=some r→exec E (call E m) m c st=some r:=
  fun h k=>jl (yT E h) h k
 induction c generalizing st r with
 | skip=>exact⟨0,h⟩
 | reg ops keep=>
  simp only[exec]at h ⊢
  split at h
  ·next s he=>obtain⟨n,hn⟩:=XB he;exact⟨n,by rw[hn];exact h⟩
  ·next d s he=>obtain⟨n,hn⟩:=XB he;exact⟨n,by rw[hn];exact h⟩
  ·simp at h
 | drw a0 a1 b1 b keep=>
  simp only[exec]at h ⊢
  split at h
  ·next s he=>obtain⟨n,hn⟩:=zcn he;exact⟨n,by rw[hn];exact h⟩
  ·next d s he=>obtain⟨n,hn⟩:=zcn he;exact⟨n,by rw[hn];exact h⟩
  ·simp at h
 | seq a b iha ihb=>
  simp only[exec]at h
  split at h
  ·next s he=>
   obtain⟨n,hn⟩:=iha he
   obtain⟨m,hm⟩:=ihb h
   refine⟨max n m,?_⟩
   simp only[exec]
   rw[up (Nat.le_max_left n m) hn]
   exact up (Nat.le_max_right n m) hm
  ·next hne=>
   obtain⟨n,hn⟩:=iha h
   refine⟨n,?_⟩
   simp only[exec]
   rw[hn]
   obtain⟨e,s⟩:=r
   cases e with
   | nrm=>exact(hne s h).elim
   | _=>rfl
 | cond c a b iha ihb=>
  simp only[exec]at h ⊢
  split at h
  ·next hb=>obtain⟨n,hn⟩:=iha h;exact⟨n,hn⟩
  ·next hb=>obtain⟨n,hn⟩:=ihb h;exact⟨n,hn⟩
  ·simp at h
 | blk id c ih=>
  simp only[exec]at h
  split at h
  ·next i s he=>
   obtain⟨n,hn⟩:=ih he
   exact⟨n,by simp only[exec];rw[hn];exact h⟩
  ·next hne=>
   obtain⟨n,hn⟩:=ih h
   refine⟨n,?_⟩
   simp only[exec]
   rw[hn]
   obtain⟨e,s⟩:=r
   cases e with
   | ext i=>exact(hne i s h).elim
   | _=>rfl
 | loop c ih=>
  simp only[exec]at h
  have key : ∀ j {st r},loopN (exec E (zu E) k c) j st=some r → ∃ n,exec E (call E n) n (.loop c) st=some r:=by
   intro j
   induction j with
   | zero=>intro st r h;simp[loopN]at h
   | succ j ihj=>
    intro st r h
    simp only[loopN]at h
    split at h
    ·next s he=>
     obtain⟨n,hn⟩:=ih he
     obtain⟨m,hm⟩:=ihj h
     refine⟨max n m+1,?_⟩
     simp only[exec,loopN]
     rw[up (by omega:n≤max n m+1) hn]
     simp only[exec]at hm
     exact Xo (fun st r h=>up (by omega:m≤max n m+1) h) (by omega) hm
    ·next hne=>
     obtain⟨n,hn⟩:=ih h
     refine⟨n+1,?_⟩
     simp only[exec,loopN]
     rw[up (by omega:n≤n+1) hn]
     obtain⟨e,s⟩:=r
     cases e with
     | nrm=>exact(hne s h).elim
     | _=>rfl
  exact key k h
 | exit id=>exact⟨0,h⟩
 | ret=>exact⟨0,h⟩
/-- a call's equation -/
theorem WQ{f:Nat}(hx:E.ext f=none)(hd:E.dfr f=none){fn:Fn}(hf:E.fn f=some fn)(ds:List D)(st:St):zu E f ds st=match execL E fn.body (enter fn ds st)with
  | some (.nrm,s) | some (.ret,s)=>qo f fn ds st s
  | some (.pan d,s)=>some (.pan (leave fn (home fn ds st) s d).1,(leave fn (home fn ds st) s d).2)
  | some (.ext i,s)=>if i=zi∧zi≤f then(get s.tm zi).map fun d=>((.ret (leave fn (home fn ds st) s (.tup [.bool false,d])).1,(leave fn (home fn ds st) s (.tup [.bool false,d])).2):Out×St)else none
  | none=>none:=by
 have key : ∀ n r,exec E (call E n) n fn.body (enter fn ds st)=some r→execL E fn.body (enter fn ds st)=some r:=
  fun n r h=>execL_iff.2 ⟨n,jl (zoi E n) (zR n) h⟩
 have fin : ∀ cf n w,xg E cf n f fn ds st w=match w with
   | some (.nrm,s) | some (.ret,s)=>qo f fn ds st s
   | some (.pan d,s)=>some (.pan (leave fn (home fn ds st) s d).1,(leave fn (home fn ds st) s d).2)
   | some (.ext i,s)=>if i=zi∧zi≤f then(get s.tm zi).map fun d=>((.ret (leave fn (home fn ds st) s (.tup [.bool false,d])).1,(leave fn (home fn ds st) s (.tup [.bool false,d])).2):Out×St)else none
   | none=>none:=by
  intro cf n w
  match w with
  | none=>rfl
  | some (.ext i,s)=>rfl
  | some (.nrm,s)=>simp only[xg,hd]
  | some (.ret,s)=>simp only[xg,hd]
  | some (.pan d,s)=>simp only[xg,hd]
 refine jq fun r=>⟨fun h => ?_,fun h => ?_⟩
 ·obtain⟨n,hn⟩:=wc.1 h
  cases n with
  | zero=>simp[call]at hn
  | succ n=>
   simp only[call,hx,hf,zD]at hn
   cases he:exec E (call E n) n fn.body (enter fn ds st)with
   | none=>rw[he]at hn;simp[xg]at hn
   | some q=>rw[key n q he];rw[he,fin]at hn;exact hn
 ·cases he:execL E fn.body (enter fn ds st)with
  | none=>rw[he]at h;simp at h
  | some q=>
   obtain⟨k,hk⟩:=execL_iff.1 he
   obtain⟨n,hn⟩:=znm hk
   refine wc.2 ⟨n+1,?_⟩
   simp only[call,hx,hf,zD]
   rw[hn,fin];rw[he]at h;exact h
theorem Ka{f:Nat}{e:Eff}(hx:E.ext f=some (.eff e))(ds:List D)(st:St):zu E f ds st=(effD e ds st).map fun q=>(.ret q.1,q.2):=by
 refine jq fun r=>⟨fun h => ?_,fun h => ?_⟩
 ·obtain⟨n,hn⟩:=wc.1 h
  cases n with
  | zero=>simp[call]at hn
  | succ n=>simp only[call,hx]at hn;exact hn
 ·exact wc.2 ⟨1,by simp only[call,hx];exact h⟩
theorem Kf{f:Nat}{g:List D→List D→Option D}(hx:E.ext f=some (.fn g))(ds:List D)(st:St):zu E f ds st=(g ds (clL st.mem ds)).map fun d=>(.ret (told (frz st (refsL ds)) d).1,(told (frz st (refsL ds)) d).2):=by
 refine jq fun r=>⟨fun h => ?_,fun h => ?_⟩
 ·obtain⟨n,hn⟩:=wc.1 h
  cases n with
  | zero=>simp[call]at hn
  | succ n=>simp only[call,hx]at hn;exact hn
 ·exact wc.2 ⟨1,by simp only[call,hx];exact h⟩
end
theorem zgx{P:Program}{E:Env}{ti:Ti}(hti:yF P ti)(hmix:P.follows .mixedOrders=true)(hE:zeC P ti E):VC P E (zu E):=by
 intro f ds st o st' h
 obtain⟨n,hn⟩:=wc.1 h
 exact zjp hti hmix hE n f ds st o st' hn
end Go.Ev
end
section
namespace Go.Ev
/-- nothing is ours yet; all that lies in memory stays -/
def G0(W:World):G:={ w:=W,φ:=fun b=>match W.heap[b]? with | some (.cells c _ _)=>c.size | _=>0,μ:=fun _=>none,hd:=fun _ _=>none,ρ:=fun _=>0,nx:=0 }
def St0:St:={ tm:=[],mem:=fun _=>none,tip:=fun _=>none,nx:=0,lo:=0,lw:=0 }
theorem zsq(W:World):Inv (G0 W) St0 where
 nx:=rfl
 ob k o h:=by simp[St0]at h
 tip g n h:=by simp[St0]at h
 out b hb:=by
  have hb:W.heap.size≤b:=hb
  refine⟨?_,rfl⟩
  show(match W.heap[b]? with | some (.cells c _ _)=>c.size | _=>0)=0
  rw[Array.getElem?_eq_none hb]
 dis k o h:=rfl
 own b:=zR _
theorem zqK{W:World}{S':G}(h:Ext (G0 W) S'):RowKit.Below W.heap.size W S'.w where
 os:=h.os
 tape:=h.tape
 output:=h.output
 size:=h.size
 block b hb:=(h.free b hb rfl).1
/-- cells that lie in memory at the start -/
theorem zsB{W:World}{b off n:Nat}(h : ∀ j,j<n → ∃ u,W.cell? ⟨b,off+j,none⟩=some u):n=0∨off+n≤(G0 W).φ b:=by
 cases n with
 | zero=>exact .inl rfl
 | succ n=>
  refine .inr ?_
  obtain⟨u,hu⟩:=h n (Nat.lt_succ_self n)
  show _≤(match W.heap[b]? with | some (.cells c _ _)=>c.size | _=>0)
  simp only[World.cell?]at hu
  cases hb:W.heap[b]? with
  | none=>rw[hb]at hu;simp at hu
  | some o=>
   rw[hb]at hu
   cases o<;>first
    | (simp at hu;done)
    | (next c e fr=>
      have:(c[off+n]?)=some u:=hu
      have:=(Array.getElem?_eq_some_iff.1 this).1
      show off+(n+1)≤c.size
      omega)
theorem Does.calls{P:Program}{f:Nat}{args:Array Value}{w:World}{R:Ending→World→Prop}{g:Func}{c:Code}(hP:P.funcs[f]?=some g) (hn:(g.name == "runtime.NumGoroutine")=false) (hb:g.body=some c) (h:Does P f args w R):Calls P f args w R:=by
 rcases h with⟨_,h⟩ | ⟨v,w',h,_⟩
 ·exact h
 ·have hn:g.name ≠ "runtime.NumGoroutine" := by simpa using hn
  simp[callFunc,hP,hn,hb]at h
/-- a law's walk -/
theorem znx{P:Program}{E:Env}{ti:Ti}(hti:yF P ti)(hmix:P.follows .mixedOrders=true)(hE:zeC P ti E){f:Nat}{fn:Fn}(hx:E.ext f=none)(hf:E.fn f=some fn){W:World}{ds:List D}{vs:List Value}(hr:RepL (G0 W) ds vs)(hg:GlOk (G0 W) E)
  {st':St} (h:zu E f ds St0=some (.ret (.bool true),st')):Calls P f vs.toArray W fun e w'=>e = .returned (.bool true)∧RowKit.Below W.heap.size W w':=by
 obtain⟨g,c,hP,hn,hb⟩ : ∃ g c,P.funcs[f]?=some g∧(g.name == "runtime.NumGoroutine")=false∧g.body=some c:=by
  have hpl:=(hE.fns f fn hf).2
  split at hpl
  ·obtain⟨g,c,kp,dp,hP,hn,hb,_,_⟩:=hpl
   exact⟨g,c,hP,hn,hb⟩
  ·obtain⟨gf,_,_,_,_,_,_,_,_,_,_,_,_,_,_,_,_,_,_,_,_,hP,hn,hb,_⟩:=hpl
   exact⟨gf,_,hP,hn,hb⟩
 have:=(zgx hti hmix hE f ds St0 _ st' h (G0 W) vs (zsq W) hr hg).calls hP hn hb
 refine Calls.mono this ?_
 rintro e w' ⟨S',rfl,he,hi,ho⟩
 refine⟨?_,zqK he⟩
 cases e with
 | returned v=>
  obtain⟨d,hd,hv⟩:=ho
  injection hd with hd
  subst hd
  rw[hv.bool_inv rfl]
 | panicked ch=>
  obtain⟨d,v,hd,_⟩:=ho
  cases hd
 | outgrown=>exact ho.elim
end Go.Ev
end
section
namespace Go.Ev
def look:List (Nat×Fn)→Nat→Option Fn
 | [],_=>none
 | p::r,f=>if f=p.1 then some p.2 else look r f
def zeR:List (Nat×List X×Fn)→Nat→Option (List X×Fn)
 | [],_=>none
 | p::r,f=>if f=p.1 then some p.2 else zeR r f
/-- a function of the table stands for the program's -/
def Goods(P:Program)(ti:Ti)(dl:List (Nat×List X×Fn))(l:List (Nat×Fn)):Prop := ∀ p∈l,p.1<wT∧match zeR dl p.1 with | none=>Plain P ti p.1 p.2 | some q=>Dfr P ti p.1 p.2 q
theorem Goods.nil(P:Program)(ti:Ti)(dl:List (Nat×List X×Fn)):Goods P ti dl []:=fun p hp=>by simp at hp
def lone(dl:List (Nat×List X×Fn))(f:Nat):Bool:=Nat.blt f wT && (match zeR dl f with | none=>true | some _=>false)
theorem Goods.cons{P:Program}{ti:Ti}{dl:List (Nat×List X×Fn)}{f:Nat}{fn:Fn}{l:List (Nat×Fn)}(h:Plain P ti f fn)(hl:Goods P ti dl l)(ho:Ev.lone dl f=true:=by rfl):Goods P ti dl ((f,fn)::l):=by
 intro p hp
 rcases List.mem_cons.1 hp with rfl | hp
 ·simp only[Ev.lone,zG,Nat.blt_eq]at ho
  refine⟨ho.1,?_⟩
  split
  ·exact h
  ·next hq=>rw[hq]at ho;exact absurd ho.2 (by simp)
 ·exact hl p hp
theorem Goods.dfr{P:Program}{ti:Ti}{dl:List (Nat×List X×Fn)}{f:Nat}{fn:Fn}{q:List X×Fn}{l:List (Nat×Fn)}(h:Dfr P ti f fn q)(hl:Goods P ti dl l)(ho:zeR dl f=some q:=by rfl)(hf:Nat.blt f wT=true:=by rfl):Goods P ti dl ((f,fn)::l):=by
 intro p hp
 rcases List.mem_cons.1 hp with rfl | hp
 ·refine⟨by simpa using hf,?_⟩
  simp only[ho];exact h
 ·exact hl p hp
theorem Jk{l:List (Nat×Fn)}{f:Nat}{fn:Fn}(h:look l f=some fn):(f,fn)∈l:=by
 induction l with
 | nil=>simp[look]at h
 | cons p r ih=>
  simp only[look]at h
  split at h
  ·next e=>injection h with h;subst e h;simp
  ·exact zP _ (ih h)
theorem zoA{P:Program}{ti:Ti}{E:Env}{l:List (Nat×Fn)}{dl:List (Nat×List X×Fn)}(hl:Goods P ti dl l)(hE:E.fn=look l)(hd:E.dfr=zeR dl)
  (hf : ∀ f e,E.ext f=some (.eff e) → ∀ ds st d st' (S:G) (vs:List Value),effD e ds st=some (d,st')→Inv S st→RepL S ds vs →
   Does P f vs.toArray S.w fun e w' => ∃ S',S'.w=w'∧Ext S S'∧Inv S' st' ∧ ∃ v,e = .returned v∧Rep S' d v)
  (hx : ∀ f h,E.ext f=some (.fn h) → ∀ ds0 ds d,h ds0 ds=some d → ∀ (S:G) (st:St) (vs:List Value),Inv S st→RepL S ds0 vs→RepL S ds vs→GlOk S E →
   Does P f vs.toArray S.w fun e w' => ∃ S',S'.w=w'∧Ext S S'∧Inv S' (told st d).2 ∧ ∃ v,e = .returned v∧Rep S' (told st d).1 v):zeC P ti E where
 fns f fn h:=by rw[hE]at h;rw[hd];exact hl _ (Jk h)
 eff:=hf
 ext:=hx
end Go.Ev
end
section
namespace Go.Ev
def Wp(E:Env)(c:C)(st:St)(Q:Ex→St→Prop):Prop := ∃ e s,execL E c st=some (e,s)∧Q e s
def Nxt(K:St→Prop)(Q:Ex→St→Prop):Ex→St→Prop
 | .nrm,s=>K s
 | e,s=>Q e s
def zsA(id:Nat)(Q:Ex→St→Prop):Ex→St→Prop
 | .ext i,s=>if i=id then Q .nrm s else Q (.ext i) s
 | e,s=>Q e s
section
variable {E:Env} {st:St} {Q:Ex→St→Prop}
theorem Wp.mono{c:C}{Q':Ex→St→Prop}(h:Wp E c st Q)(hq : ∀ e s,Q e s→Q' e s):Wp E c st Q':=
 let ⟨e,s,h1,h2⟩:=h;⟨e,s,h1,hq _ _ h2⟩
theorem Wp.skip(h:Q .nrm st):Wp E .skip st Q:=⟨_,_,zcC st,h⟩
theorem Wp.exit{id:Nat}(h:Q (.ext id) st):Wp E (.exit id) st Q:=⟨_,_,zcg id st,h⟩
theorem Wp.ret(h:Q .ret st):Wp E .ret st Q:=⟨_,_,zeg st,h⟩
theorem Wp.reg{ops:List OpC}{keep:List Nat}{s:St}(h:runOps E (zu E) ops st=some (.ok s))(hq:Q .nrm { s with tm:=kept keep s.tm }):Wp E (.reg ops keep) st Q:=
 ⟨_,_,by rw[zfb,h],hq⟩
theorem Wp.seq{a b:C}(h:Wp E a st (Nxt (fun s=>Wp E b s Q) Q)):Wp E (.seq a b) st Q:=by
 obtain⟨e,s,h1,h2⟩:=h
 cases e with
 | nrm=>
  obtain⟨e',s',h3,h4⟩:=h2
  exact⟨e',s',by rw[jX,h1];exact h3,h4⟩
 | ext i=>exact⟨_,s,by rw[jX,h1],h2⟩
 | ret=>exact⟨_,s,by rw[jX,h1],h2⟩
 | pan d=>exact⟨_,s,by rw[jX,h1],h2⟩
theorem Wp.cond{c:X}{a b:C}{t:Bool}(hc:ev E st.tm c=some (.bool t))(h1:t=true→Wp E a st Q)(h2:t=false→Wp E b st Q):Wp E (.cond c a b) st Q:=by
 cases t with
 | true=>obtain⟨e,s,h3,h4⟩:=h1 rfl;exact⟨e,s,by rw[XH,hc];exact h3,h4⟩
 | false=>obtain⟨e,s,h3,h4⟩:=h2 rfl;exact⟨e,s,by rw[XH,hc];exact h3,h4⟩
theorem Wp.blk{id:Nat}{c:C}(h:Wp E c st (zsA id Q)):Wp E (.blk id c) st Q:=by
 obtain⟨e,s,h1,h2⟩:=h
 cases e with
 | ext i=>
  by_cases hi:i=id
  ·subst hi
   have h2:if i=i then Q .nrm s else Q (.ext i) s:=h2
   rw[if_pos rfl]at h2
   exact⟨.nrm,s,by rw[qu,h1];simp[zbB],h2⟩
  ·have h2:if i=id then Q .nrm s else Q (.ext i) s:=h2
   rw[if_neg hi]at h2
   exact⟨.ext i,s,by rw[qu,h1];simp[zbB,hi],h2⟩
 | nrm=>exact⟨_,s,by rw[qu,h1];rfl,h2⟩
 | ret=>exact⟨_,s,by rw[qu,h1];rfl,h2⟩
 | pan d=>exact⟨_,s,by rw[qu,h1];rfl,h2⟩
/-- a loop: its states are told by some data, which go down -/
theorem Wp.loop{c:C}{α:Type}(f:α→St)(I:α→Prop)(μ:α→Nat)(x:α)(hx:st=f x)(h0:I x)
  (h : ∀ x,I x→Wp E c (f x) (Nxt (fun s => ∃ y,s=f y∧I y∧μ y<μ x) Q)):Wp E (.loop c) st Q:=by
 have key : ∀ n x,μ x=n→I x→Wp E (.loop c) (f x) Q:=by
  intro n
  induction n using Nat.strongRecOn with
  | _ n ih=>
   intro x hn hI
   obtain⟨e,s,h1,h2⟩:=h x hI
   cases e with
   | nrm=>
    obtain⟨y,rfl,hy,hlt⟩:=h2
    obtain⟨e',s',h3,h4⟩:=ih (μ y) (by omega) y rfl hy
    exact⟨e',s',by rw[ka,h1];exact h3,h4⟩
   | ext i=>exact⟨_,s,by rw[ka,h1],h2⟩
   | ret=>exact⟨_,s,by rw[ka,h1],h2⟩
   | pan d=>exact⟨_,s,by rw[ka,h1],h2⟩
 rw[hx]
 exact key _ x rfl h0
end
end Go.Ev
end
section
namespace Go.Ev
def okS:Nat:=1000001
def Vz:Nat:=1000002
def ZH:Option (Nat×Bool)→List Nat
 | some (t,_)=>[t]
 | none=>[]
def yd:List OpC→List Nat
 | []=>[]
 | o::r=>o.op.uses++(ZH o.gd++yd r)
def zfc(h:Option (List OpC×List OpC×List OpC))(ops:List OpC)(keep:List Nat):C:=match h with | none => .reg ops keep | some q => .drw q.1 q.2.1 q.2.2 ops keep
/-- m: functions that may panic; hs: slots that are kept at a panic -/
def vh(m:Nat→Bool)(hs keep:List Nat):Option (List OpC×List OpC×List OpC)→List OpC→List OpC→C
 | h,pre,[]=>zfc h pre keep
 | h,pre,⟨dst,op,gd⟩::r=>match gd,op with
  | none,.pan x => .seq (zfc h (pre++[⟨some zi,.mv x,none⟩,⟨some okS,.inil true (.s zi),none⟩]) (zi::okS::hs)) (.cond (.s okS) (.exit zi) (.exit Vz))
  | none,.call f xs=>match m f with
   | true => .seq (zfc h (pre++[⟨some zi,.call (f+zi) xs,none⟩,⟨some okS,.ext (.s zi) 0,none⟩]) (zi::okS::(yd r++(keep++hs))))
     (.cond (.s okS) (vh m hs keep none [⟨dst,.ext (.s zi) 1,none⟩] r) (.seq (.reg [⟨some zi,.ext (.s zi) 1,none⟩] (zi::hs)) (.exit zi)))
   | false=>vh m hs keep h (pre++[⟨dst,op,gd⟩]) r
  | _,_=>vh m hs keep h (pre++[⟨dst,op,gd⟩]) r
def isM(m:Nat→Bool)(o:OpC):Bool:=match o.op with | .call f _=>m f | _=>false
def Vm:List OpC→Option (List OpC×OpC)
 | []=>none
 | o::r=>match r with | []=>some ([],o) | _::_=>(Vm r).map fun q=>(o::q.1,q.2)
def zcX(m:Nat→Bool):List OpC→Option (List OpC×OpC×List OpC)
 | []=>none
 | o::r=>if isM m o then some ([],o,r)else(zcX m r).map fun q=>(o::q.1,q.2)
/-- it writes nothing that these read or write -/
def apart(Z:List OpC)(d:Option Nat):Bool:=Z.all fun z => !Ys d (yQ z) && zd9 d z.dst
def zh9(m:Nat→Bool)(hs keep:List Nat)(dst:Option Nat)(pre b:List OpC):C:=
 .cond (.s okS) (vh m hs keep none (⟨dst,.ext (.s zi) 1,none⟩::pre) b) (.seq (.reg [⟨some zi,.ext (.s zi) 1,none⟩] (zi::hs)) (.exit zi))
def zgi(w:Bool)(g:Nat)(a b:C):C:=match w with | true => .cond (.s g) a b | false => .cond (.s g) b a
/-- a drawn region: a call that may panic stands last among what may come in any order; or among what floats -/
def zrW(m:Nat→Bool)(hs keep:List Nat)(a0 a1 b1 b:List OpC):C:=
 match zcX m b1 with
 | some (x,⟨dst,.call f xs,none⟩,y)=>
  match hs.isEmpty && apart (qf a1) dst && y.all (fun o=>Nat.beq o.op.kind 0 && apart (qf a1) o.dst)with
  | true => .seq (.drw a0 a1 (x++[⟨some zi,.call (f+zi) xs,none⟩]) [⟨some okS,.ext (.s zi) 0,none⟩] (zi::okS::(yd y++(yd b++keep)))) (zh9 m hs keep dst y b)
  | false => .exit Vz
 | some _ => .exit Vz
 | none=>match b1 with
  | []=>match Vm a1 with
   | some (x,⟨dst,.call f xs,gd⟩)=>match m f with
    | true=>match hs.isEmpty with
     | true=>match gd with
      | none => .seq (.drw a0 (x++[⟨some zi,.call (f+zi) xs,none⟩]) [] [⟨some okS,.ext (.s zi) 0,none⟩] (zi::okS::(yd b++keep))) (zh9 m hs keep dst [] b)
      | some (g,w) => .seq (.drw a0 x [] [] (g::(WT xs++(yd b++keep)))) (zgi w g
        (.seq (.drw [] [⟨some zi,.call (f+zi) xs,none⟩] [] [⟨some okS,.ext (.s zi) 0,none⟩] (zi::okS::(yd b++keep))) (zh9 m hs keep dst [] b))
        (vh m hs keep none [⟨dst,.call f xs,some (g,w)⟩] b))
     | false => .exit Vz
    | false=>vh m hs keep (some (a0,a1,[])) [] b
   | _=>vh m hs keep (some (a0,a1,[])) [] b
  | o::r=>vh m hs keep (some (a0,a1,o::r)) [] b
/-- d: what returns comes out there, too -/
def vI(m:Nat→Bool)(hs:List Nat)(d:Bool):C→C
 | .skip => .skip
 | .reg ops keep=>vh m hs keep none [] ops
 | .drw a0 a1 b1 b keep=>zrW m hs keep a0 a1 b1 b
 | .seq a b => .seq (vI m hs d a) (vI m hs d b)
 | .cond c a b => .cond c (vI m hs d a) (vI m hs d b)
 | .blk id c => .blk id (vI m hs d c)
 | .loop c => .loop (vI m hs d c)
 | .exit id => .exit id
 | .ret=>match d with | true => .seq (.reg [⟨some zi,.mv (.k .nili),none⟩] (zi::hs)) (.exit zi) | false => .ret
/-- slots and ways out are the translation's own -/
def low(l:List Nat):Bool:=l.all fun t=>Nat.blt t zi
def vd(o:OpC):Bool:=low o.op.uses && (match o.dst with | some t=>Nat.blt t zi | none=>true) && (match o.gd with | some (t,_)=>Nat.blt t zi | none=>true) && (match o.op with | .call f _=>Nat.blt f wT | .pan _=>(match o.gd with | none=>true | some _=>false) | _=>true)
def zel(o:OpC):Bool:=match o.op with | .pan _=>false | _=>true
def okC:C→Bool
 | .reg ops keep=>ops.all vd && low keep
 | .drw a0 a1 b1 b keep=>a0.all vd && a1.all vd && b1.all vd && b.all vd && low keep && a0.all zel && a1.all zel && b1.all zel
 | .seq a b=>okC a && okC b
 | .cond c a b=>low c.uses && okC a && okC b
 | .blk id c=>Nat.blt id zi && okC c
 | .loop c=>okC c
 | .exit id=>Nat.blt id zi
 | _=>true
theorem K0{E E1:Env}(hg:E1.gl=E.gl)(tm:Tm)(x:X):ev E1 tm x=ev E tm x:=by cases x<;>simp[ev,hg]
theorem Ki{E E1:Env}(hg:E1.gl=E.gl)(tm:Tm)(l:List X):evL E1 tm l=evL E tm l:=by
 induction l with
 | nil=>rfl
 | cons x r ih=>simp only[evL,K0 hg,ih]
theorem zq7{E E1:Env}(hg:E1.gl=E.gl)(tm:Tm)(l:List (Nat×Nat×X)):evP E1 tm l=evP E tm l:=by
 induction l with
 | nil=>rfl
 | cons x r ih=>obtain⟨a,b,x⟩:=x;simp only[evP,K0 hg,ih]
theorem zqg{E E1:Env}(hg:E1.gl=E.gl)(tm:Tm)(x:Option X):evO E1 tm x=evO E tm x:=by
 cases x with
 | none=>rfl
 | some x=>simp only[evO,K0 hg]
theorem zmY{E E1:Env}(hg:E1.gl=E.gl)(st:St)(o:O):opD E1 st o=opD E st o:=by
 cases o<;>simp only[opD,K0 hg,Ki hg,zq7 hg,zqg hg]
/-! states that agree on what is read yet -/
structure Agree(U:Nat→Prop)(s s1:St):Prop where
 core:s={ s1 with tm:=s.tm }
 tm : ∀ t,U t→get s1.tm t=get s.tm t
structure ZU(cf cf1:Cf):Prop where
 pl : ∀ f ds st q,f<wT→cf1 f ds st=some q→cf f ds st=some q
 np : ∀ f ds st d st',cf1 f ds st≠some (.pan d,st')
 pn : ∀ f ds st q,cf1 (f+zi) ds st=some q → ∃ b d st',q=(.ret (.tup [.bool b,d]),st')∧cf f ds st=some (if b=true then .ret d else .pan d,st')∧(b=false → ∃ t x,d = .iface t x)
theorem zoI{E E1:Env}(hg:E1.gl=E.gl){cf cf1:Cf}(hc:ZU cf cf1){s:St}{o:O}{q:Rv}(hl:(match o with | .call f _=>Nat.blt f wT | _=>true)=true)(h:opX E1 cf1 s o=some q):opX E cf s o=some q:=by
 cases o
 case call f xs=>
  simp only[opX,Ki hg,zA,zB]at h ⊢
  obtain⟨l,hl',p,hq,rfl⟩:=h
  exact⟨l,hl',p,hc.pl _ _ _ _ (by simpa using hl) hq,rfl⟩
 case callv g xs=>
  simp only[opX,Ki hg,K0 hg]at h ⊢
  split at h
  ·split at h<;>try contradiction
   next hlt=>
    rw[if_pos hlt]
    simp only[zA,zB]at h ⊢
    obtain⟨l,hl',p,hq,rfl⟩:=h
    exact⟨l,hl',p,hc.pl _ _ _ _ hlt hq,rfl⟩
  ·contradiction
 case pan x=>simpa only[opX,K0 hg]using h
 all_goals (simp only[opX,zmY hg]at h ⊢;exact h)
def zp7(U:Nat→Prop):Rs→Rs→Prop
 | .ok s,.ok s1=>Agree U s s1
 | .pan d s,.pan d1 s1=>d=d1∧Agree U s s1
 | _,_=>False
theorem Agree.set{U:Nat→Prop}{s s1:St}(h:Agree U s s1)(dst:Option Nat)(r:Option D):Agree U (s.set dst r) (s1.set dst r):=by
 obtain⟨h1,h2⟩:=h
 cases dst with
 | none=>cases r<;>exact⟨h1,h2⟩
 | some t=>
  cases r with
  | some d=>
   refine⟨by rw[h1];rfl,fun u hu => ?_⟩
   show get (Ev.put s1.tm t d) u=get (Ev.put s.tm t d) u
   rw[get_put,get_put,h2 u hu]
  | none=>
   refine⟨by rw[h1];rfl,fun u hu => ?_⟩
   show get (Ev.del s1.tm t) u=get (Ev.del s.tm t) u
   rw[jz,jz,h2 u hu]
theorem JO{E E1:Env}(hg:E1.gl=E.gl){cf cf1:Cf}(hc:ZU cf cf1)(ht:ZF cf)(hf:xT cf){o:OpC}(hl:vd o=true){U:Nat→Prop}(hu : ∀ t∈o.op.uses,U t)(hd : ∀ t∈ZH o.gd,U t){s s1:St}{r1:Rs}(ha:Agree U s s1)(h:opC E1 cf1 o s1=some r1) :
  ∃ r,opC E cf o s=some r∧zp7 U r r1:=by
 have hw:yA s.tm o.gd=yA s1.tm o.gd:=by
  cases hgd:o.gd with
  | none=>rfl
  | some p=>
   obtain⟨t,b⟩:=p
   simp only[yA]
   rw[ha.tm t (hd t (by rw[hgd];simp[ZH]))]
 unfold opC at h ⊢
 rw[hw]
 split at h
 ·simp only[opR,zB]at h
  obtain⟨q,hq,rfl⟩:=h
  simp only[vd,zG]at hl
  have h1:=zoI hg hc (by have:=hl.2;revert this;cases o.op<;>simp) hq
  have h2:=zg9 ht h1 (tm:=s.tm) (fun t ht=>(ha.tm t (hu t ht)).symm)
  have htm:=(Fq.opX hf h1).tm
  rw[← ha.core]at h2
  simp only[opR,h2,zC]
  refine⟨_,rfl,?_⟩
  cases q with
  | val r s'=>
   have htm:s'.tm=s1.tm:=htm
   exact Agree.set ⟨rfl,fun t ht=>by rw[htm];exact ha.tm t ht⟩ o.dst r
  | pan d s'=>
   have htm:s'.tm=s1.tm:=htm
   exact⟨rfl,rfl,fun t ht=>by rw[htm];exact ha.tm t ht⟩
 ·injection h with h;subst h
  exact⟨_,rfl,Agree.set ha o.dst (some .off)⟩
 ·contradiction
theorem Zt{E E1:Env}(hg:E1.gl=E.gl){cf cf1:Cf}(hc:ZU cf cf1)(ht:ZF cf)(hf:xT cf){l:List OpC}(hl:l.all vd=true){U:Nat→Prop}(hu : ∀ t∈yd l,U t){s s1:St}{r1:Rs}(ha:Agree U s s1)(h:runOps E1 cf1 l s1=some r1) :
  ∃ r,runOps E cf l s=some r∧zp7 U r r1:=by
 induction l generalizing s s1 with
 | nil=>injection h with h;subst h;exact⟨_,rfl,ha⟩
 | cons o l ih=>
  simp only[List.all_cons,zG]at hl
  have hu1 : ∀ t∈o.op.uses,U t:=fun t ht=>hu t (by simp[yd,ht])
  have hu2 : ∀ t∈ZH o.gd,U t:=fun t ht=>hu t (by simp[yd,ht])
  have hu3 : ∀ t∈yd l,U t:=fun t ht=>hu t (by simp[yd,ht])
  simp only[runOps]at h ⊢
  split at h
  ·next s1' he=>
   obtain⟨r,h1,h2⟩:=JO hg hc ht hf hl.1 hu1 hu2 ha he
   cases r with
   | ok s'=>rw[h1];exact ih hl.2 hu3 h2 h
   | pan d s'=>exact h2.elim
  ·next hne=>
   obtain⟨r,h1,h2⟩:=JO hg hc ht hf hl.1 hu1 hu2 ha h
   rw[h1]
   cases r with
   | ok s'=>
    cases r1 with
    | ok s1'=>exact(hne s1' h).elim
    | pan d s1'=>exact h2.elim
   | pan d s'=>exact⟨_,rfl,h2⟩
theorem Zd{E E1:Env}(hg:E1.gl=E.gl){cf cf1:Cf}(hc:ZU cf cf1)(ht:ZF cf)(hf:xT cf){l:List OpC}(hl:l.all vd=true){U:Nat→Prop}(hu : ∀ t∈yd l,U t){s s1 s1':St}(ha:Agree U s s1)(h:runStill E1 cf1 l s1=some s1') :
  ∃ s',runStill E cf l s=some s'∧Agree U s' s1':=by
 induction l generalizing s s1 with
 | nil=>injection h with h;subst h;exact⟨_,rfl,ha⟩
 | cons o l ih=>
  simp only[List.all_cons,zG]at hl
  have hu1 : ∀ t∈o.op.uses,U t:=fun t ht=>hu t (by simp[yd,ht])
  have hu2 : ∀ t∈ZH o.gd,U t:=fun t ht=>hu t (by simp[yd,ht])
  have hu3 : ∀ t∈yd l,U t:=fun t ht=>hu t (by simp[yd,ht])
  simp only[runStill]at h ⊢
  split at h
  ·next s2 he=>
   split at h
   ·next hm=>
    obtain⟨r,h1,h2⟩:=JO hg hc ht hf hl.1 hu1 hu2 ha he
    cases r with
    | ok s'=>
     rw[h1]
     have hm':s'.mem=s.mem:=by rw[h2.core,ha.core];exact hm
     simp only[hm',if_true]
     exact ih hl.2 hu3 h2 h
    | pan d s'=>exact h2.elim
   ·contradiction
  ·contradiction
/-! a region that is cut at its calls -/
noncomputable def Y1(E:Env)(cf:Cf):Option (List OpC×List OpC×List OpC)→List OpC→St→Option Rs
 | none,pre,s=>runOps E cf pre s
 | some q,pre,s=>runDrw E cf q.1 q.2.1 q.2.2 pre s
def js(keep:List Nat):Option Rs→Option (Ex×St)
 | some (.ok s')=>some (.nrm,{ s' with tm:=kept keep s'.tm })
 | some (.pan d s')=>some (.pan d,s')
 | none=>none
theorem Zq{E:Env}{cf:Cf}{n:Nat}(h:Option (List OpC×List OpC×List OpC))(ops:List OpC)(keep:List Nat)(s:St):exec E cf n (zfc h ops keep) s=js keep (Y1 E cf h ops s):=by
 cases h with
 | none=>
  simp only[zfc,exec,Y1]
  cases runOps E cf ops s with
  | none=>rfl
  | some r=>cases r<;>rfl
 | some q=>
  simp only[zfc,exec,Y1]
  cases runDrw E cf q.1 q.2.1 q.2.2 ops s with
  | none=>rfl
  | some r=>cases r<;>rfl
theorem Yl{E:Env}{cf:Cf}(h:Option (List OpC×List OpC×List OpC))(a b:List OpC)(s:St):Y1 E cf h (a++b) s=match Y1 E cf h a s with | some (.ok s')=>runOps E cf b s' | e=>e:=by
 cases h with
 | none=>exact xe a b s
 | some q=>
  simp only[Y1,runDrw]
  cases h1:runOps E cf q.1 s with
  | none=>rfl
  | some r=>
   cases r with
   | pan d s'=>rfl
   | ok s1=>
    simp only
    cases h2:runStill E cf q.2.1 s1 with
    | none=>simp only;cases panLast E cf q.2.1 s1<;>rfl
    | some s2=>
     simp only[runB]
     cases h3:runFl E cf (q.1++q.2.1) (qf q.2.1) q.2.2 s2 with
     | none=>rfl
     | some r=>
      cases r with
      | pan d s'=>rfl
      | ok s3=>exact xe a b s3
/-- an operation that is no way out -/
def zp5(m:Nat→Bool)(o:OpC):Prop := ¬ (o.gd=none ∧ ∃ x,o.op = .pan x) ∧ ¬ (o.gd=none ∧ ∃ f xs,o.op = .call f xs∧m f=true)
theorem Jl{m:Nat→Bool}{hs keep:List Nat}{h:Option (List OpC×List OpC×List OpC)}{pre r:List OpC}{o:OpC}(ho:zp5 m o):vh m hs keep h pre (o::r)=vh m hs keep h (pre++[o]) r:=by
 obtain⟨dst,op,gd⟩:=o
 obtain⟨h1,h2⟩:=ho
 cases gd with
 | some p=>cases op<;>rfl
 | none=>
  cases op<;>first | rfl | skip
  case call f xs=>
   have:m f=false:=by
    cases hm:m f with
    | false=>rfl
    | true=>exact(h2 ⟨rfl,f,xs,rfl,hm⟩).elim
   simp only[vh,this]
  case pan x=>exact(h1 ⟨rfl,x,rfl⟩).elim
theorem zhe(m:Nat→Bool)(o:OpC):zp5 m o∨(∃ x,o=⟨o.dst,.pan x,none⟩)∨(∃ f xs,o=⟨o.dst,.call f xs,none⟩∧m f=true):=by
 obtain⟨dst,op,gd⟩:=o
 by_cases h1:gd=none ∧ ∃ x,op = .pan x
 ·obtain⟨rfl,x,rfl⟩:=h1;exact .inr (.inl ⟨x,rfl⟩)
 ·by_cases h2:gd=none ∧ ∃ f xs,op = .call f xs∧m f=true
  ·obtain⟨rfl,f,xs,rfl,hm⟩:=h2;exact .inr (.inr ⟨f,xs,rfl,hm⟩)
  ·exact .inl ⟨h1,h2⟩
theorem kL{E:Env}{cf:Cf}{n:Nat}{a b:C}{s:St}{w:Option (Ex×St)}(h:exec E cf n a s=w)(hw : ∀ s',w≠some (.nrm,s')):exec E cf n (.seq a b) s=w:=by
 simp only[exec]
 rw[h]
 match w,hw with
 | none,_=>rfl
 | some (.nrm,s'),hw=>exact(hw s' rfl).elim
 | some (.ret,s'),_=>rfl
 | some (.ext i,s'),_=>rfl
 | some (.pan d,s'),_=>rfl
theorem WR{E:Env}{cf:Cf}{n:Nat}{m:Nat→Bool}{hs keep:List Nat}(r:List OpC) : ∀ (h:Option (List OpC×List OpC×List OpC)) (pre:List OpC) (s:St),(∀ s',Y1 E cf h pre s≠some (.ok s'))→exec E cf n (vh m hs keep h pre r) s=js [] (Y1 E cf h pre s):=by
 have fin : ∀ (w:Option Rs) (k:List Nat),(∀ s',w≠some (.ok s'))→js k w=js [] w ∧ ∀ s',js [] w≠some (.nrm,s'):=by
  intro w k hw
  match w,hw with
  | none,_=>exact⟨rfl,fun s' h=>by simp[js]at h⟩
  | some (.ok s'),hw=>exact(hw s' rfl).elim
  | some (.pan d s'),_=>exact⟨rfl,fun s' h=>by simp[js]at h⟩
 have app : ∀ (h:Option (List OpC×List OpC×List OpC)) (pre b:List OpC) (s:St),(∀ s',Y1 E cf h pre s≠some (.ok s'))→Y1 E cf h (pre++b) s=Y1 E cf h pre s:=by
  intro h pre b s hw
  rw[Yl]
  match Y1 E cf h pre s,hw with
  | none,_=>rfl
  | some (.ok s'),hw=>exact(hw s' rfl).elim
  | some (.pan d s'),_=>rfl
 induction r with
 | nil=>
  intro h pre s hw
  rw[vh,Zq]
  exact(fin _ keep hw).1
 | cons o r ih=>
  intro h pre s hw
  rcases zhe m o with ho | ⟨x,ho⟩ | ⟨f,xs,ho,hm⟩
  ·rw[Jl ho,ih h (pre++[o]) s (by rw[app h pre [o] s hw];exact hw),app h pre [o] s hw]
  ·rw[ho]
   simp only[vh]
   refine kL ?_ (fin _ [] hw).2
   rw[Zq,app h pre _ s hw]
   exact(fin _ _ hw).1
  ·rw[ho]
   simp only[vh,hm]
   refine kL ?_ (fin _ [] hw).2
   rw[Zq,app h pre _ s hw]
   exact(fin _ _ hw).1
theorem ziE{l:List OpC}{q:List OpC×OpC}(h:Vm l=some q):l=q.1++[q.2]:=by
 induction l generalizing q with
 | nil=>simp[Vm]at h
 | cons o r ih=>
  cases r with
  | nil=>injection h with h;subst h;rfl
  | cons a b=>
   simp only[Vm,zB]at h
   obtain⟨q',h1,rfl⟩:=h
   have:=ih (by simpa only[Vm]using h1)
   rw[this];rfl
theorem zo3{m:Nat→Bool}{l:List OpC}{q:List OpC×OpC×List OpC}(h:zcX m l=some q):l=q.1++q.2.1::q.2.2:=by
 induction l generalizing q with
 | nil=>simp[zcX]at h
 | cons o r ih=>
  simp only[zcX]at h
  split at h
  ·injection h with h;subst h;rfl
  ·simp only[zB]at h
   obtain⟨q',h1,rfl⟩:=h
   rw[ih h1];rfl
theorem WI{E:Env}{cf:Cf}{x y:List OpC}{s:St}:runStill E cf (x++y) s=(runStill E cf x s).bind fun s2=>runStill E cf y s2:=by
 induction x generalizing s with
 | nil=>rfl
 | cons o x ih=>
  simp only[List.cons_append,runStill]
  split
  ·split
   ·exact ih
   ·rfl
  ·rfl
theorem zbH{E:Env}{cf:Cf}{x:List OpC}{c:OpC}{s s2 s3:St}{d:D}(h:runStill E cf x s=some s2)(hc:opC E cf c s2=some (.pan d s3)):panLast E cf (x++[c]) s=some (d,s3):=by
 induction x generalizing s with
 | nil=>injection h with h;subst h;simp only[List.nil_append,panLast,hc]
 | cons o x ih=>
  simp only[runStill]at h
  simp only[List.cons_append,panLast]
  split at h
  ·next s' he=>
   rw[he]
   split at h
   ·next hm=>simp only[hm,if_true];exact ih h
   ·contradiction
  ·contradiction
theorem Xi{E:Env}{cf:Cf}{Y Z x y:List OpC}{s:St}:runFl E cf Y Z (x++y) s=match runFl E cf Y Z x s with | some (.ok s2)=>runFl E cf Y Z y s2 | e=>e:=by
 induction x generalizing s with
 | nil=>rfl
 | cons o x ih=>
  simp only[List.cons_append,runFl]
  split
  ·split
   ·exact ih
   ·rfl
  ·rfl
  ·rfl
theorem Vr{Z:List OpC}{d:Option Nat}(h:apart Z d=true){z:OpC}(hz:z∈Z):(∀ t∈yQ z,d≠some t)∧(∀ t,z.dst=some t→d≠some t):=by
 have:=List.all_eq_true.1 h z hz
 simp only[zG]at this
 refine⟨fun t ht e => ?_,fun t ht e=>zci this.2 e ht⟩
 have h1:=this.1
 rw[e]at h1
 simp[Ys,qV.2 ht]at h1
theorem ZNow.set{E:Env}{z:OpC}{s:St}(hk:z.op.kind≤1){d:Option Nat}(h1 : ∀ t∈yQ z,d≠some t)(h2 : ∀ t,z.dst=some t→d≠some t)(r:Option D)(h:ZNow E z s):ZNow E z (s.set d r):=by
 have hs:Same (yQ z) s.tm (s.set d r).tm:=fun t ht=>by rw[qw,if_neg (h1 t ht)]
 have hw:=wD hs
 rcases h with⟨h0,q,h3,h4⟩ | ⟨h0,h4⟩
 ·refine .inl ⟨hw.trans h0,q,(j9 hk h3).2 _ (fun t ht=>hs t (List.mem_append_left _ ht)) (fun _=>(Eqv.set s d r).1.symm),fun t e ht hg=>h4 t e ht ?_⟩
  rw[qw,if_neg (h2 t ht)]at hg;exact hg
 ·refine .inr ⟨hw.trans h0,fun t e ht hg=>h4 t e ht ?_⟩
  rw[qw,if_neg (h2 t ht)]at hg;exact hg
theorem XX{l:List OpC}{z:OpC}(h:z∈qf l):z∈l∧z.op.kind≤1:=by
 obtain⟨h1,h2⟩:=List.mem_filter.1 h
 exact⟨h1,by rw[zJ h2];exact zR _⟩
theorem zg4{E:Env}{cf:Cf}{Y Z y:List OpC}(hy:y.all (fun o=>Nat.beq o.op.kind 0 && apart Z o.dst)=true)(hZ : ∀ z∈Z,z.op.kind≤1){s s':St}(h:runOps E cf y s=some (.ok s'))(hz : ∀ z∈Z,ZNow E z s):runFl E cf Y Z y s=some (.ok s'):=by
 induction y generalizing s with
 | nil=>exact h
 | cons o y ih=>
  simp only[List.all_cons,zG]at hy
  simp only[runOps]at h
  simp only[runFl]
  split at h
  ·next s2 he=>
   rw[he]
   have hk:=zJ hy.1.1
   have hset : ∃ r,s2=s.set o.dst r:=by
    unfold opC at he
    split at he
    ·simp only[opR,zB]at he
     obtain⟨q,hq,hq2⟩:=he
     obtain⟨r,s3,rfl,hop⟩:=za5 (by omega) (by omega) hq
     obtain⟨rfl,_⟩:=j9 (by omega) hop
     injection hq2 with hq2
     exact⟨r,hq2.symm⟩
    ·injection he with he;injection he with he;exact⟨some .off,he.symm⟩
    ·contradiction
   obtain⟨r,rfl⟩:=hset
   have hz2 : ∀ z∈Z,ZNow E z (s.set o.dst r):=fun z hzm=>(hz z hzm).set (hZ z hzm) (Vr hy.1.2 hzm).1 (Vr hy.1.2 hzm).2 r
   simp only
   rw[if_pos hz2]
   exact ih hy.2 h hz2
  ·next hne=>exact(hne s' h).elim
def YA(t:Nat):Prop:=t<zi
/-- what a run with panics as values says of the other one -/
def zax(hs:List Nat)(d:Bool)(e:Ex)(s:St)(e1:Ex)(s1:St):Prop:=
 match e1 with
 | .nrm=>e = .nrm∧Agree YA s s1
 | .ret=>d=false∧e = .ret∧Agree YA s s1
 | .pan _=>False
 | .ext i=>(i=zi→Agree (fun t=>t∈hs) s s1∧((∃ t x,get s1.tm zi=some (.iface t x)∧e = .pan (.iface t x))∨(d=true∧get s1.tm zi=some .nili∧e = .ret)))∧(i≠zi→e = .ext i∧Agree YA s s1)
theorem Jt{hs:List Nat}{d:Bool}{e:Ex}{s s1:St}(h:Agree (fun t=>t∈hs) s s1∧((∃ t x,get s1.tm zi=some (.iface t x)∧e = .pan (.iface t x))∨(d=true∧get s1.tm zi=some .nili∧e = .ret))):zax hs d e s (.ext zi) s1:=⟨fun _=>h,fun hn=>(hn rfl).elim⟩
theorem zhd{hs:List Nat}{d:Bool}{i:Nat}{s s1:St}(hi:i≠zi)(h:Agree YA s s1):zax hs d (.ext i) s (.ext i) s1:=⟨fun he=>(hi he).elim,fun _=>⟨rfl,h⟩⟩
theorem Y3{hs:List Nat}{d:Bool}{e:Ex}{s s1:St}(h:zax hs d e s (.ext zi) s1):Agree (fun t=>t∈hs) s s1∧((∃ t x,get s1.tm zi=some (.iface t x)∧e = .pan (.iface t x))∨(d=true∧get s1.tm zi=some .nili∧e = .ret)):=h.1 rfl
theorem Kw{hs:List Nat}{d:Bool}{i:Nat}{e:Ex}{s s1:St}(hi:i≠zi)(h:zax hs d e s (.ext i) s1):e = .ext i∧Agree YA s s1:=h.2 hi
theorem zcp(E:Env)(tm:Tm)(t:Nat):ev E tm (.s t)=get tm t:=rfl
theorem wH{l:List Nat}(h:low l=true){t:Nat}(ht:t∈l):t<zi:=by
 have:=List.all_eq_true.1 h t ht
 simpa using this
theorem yr{l:List Nat}{tm:Tm}{t:Nat}(h:t∈l):get (kept l tm) t=get tm t:=by
 rw[wz,if_pos (qV.2 h)]
section
variable {E E1:Env} (hg:E1.gl=E.gl) {cf cf1:Cf} (hc:ZU cf cf1) (ht:ZF cf) (hf:xT cf) {m:Nat→Bool} {hs keep:List Nat} (hk:low keep=true) (hh:low hs=true) {n:Nat}
theorem zmL(hc:ZU cf cf1){o:OpC}(ho : ¬ (o.gd=none ∧ ∃ x,o.op = .pan x))(hl:vd o=true){s s':St}{x:D}(h:opC E1 cf1 o s=some (.pan x s')):False:=by
 have hno : ∀ x,o.op ≠ .pan x:=by
  intro x hx
  cases hgd:o.gd with
  | none=>exact ho ⟨hgd,x,hx⟩
  | some p=>
   simp only[vd,zG]at hl
   have:=hl.2
   rw[hx,hgd]at this
   simp at this
 unfold opC at h
 split at h
 ·simp only[opR,zB]at h
  obtain⟨q,hq,hh⟩:=h
  cases q with
  | val=>simp[Rv.to]at hh
  | pan e s2=>
   have base : ∀ {w:Option Rv},(∃ r,w=r)→(opD E1 s o.op).map (fun p=>Rv.val p.1 p.2)=some (.pan e s2)→False:=by
    intro w _ h
    rw[zB]at h
    obtain⟨p,_,h⟩:=h
    cases h
   cases hop:o.op<;>rw[hop]at hq<;>first | (exact(hno _ hop).elim) | skip
   case call f xs=>
    simp only[opX,zA,zB]at hq
    obtain⟨l,_,⟨q,st'⟩,hq,hv⟩:=hq
    cases q with
    | ret=>simp[outV]at hv
    | pan y=>exact hc.np _ _ _ _ _ hq
   case callv g xs=>
    simp only[opX]at hq
    split at hq
    ·split at hq<;>try contradiction
     simp only[zA,zB]at hq
     obtain⟨l,_,⟨q,st'⟩,hq,hv⟩:=hq
     cases q with
     | ret=>simp[outV]at hv
     | pan y=>exact hc.np _ _ _ _ _ hq
    ·contradiction
   all_goals (simp only[opX,zB]at hq;obtain⟨p,_,hq⟩:=hq;cases hq)
 ·simp at h
 ·contradiction
/-- none of these panics -/
def NP(E:Env)(cf:Cf)(l:List OpC):Prop := ∀ o∈l,∀ s x s',opC E cf o s≠some (.pan x s')
theorem NP.app{E:Env}{cf:Cf}{a b:List OpC}(h:NP E cf a)(k:NP E cf b):NP E cf (a++b):=fun o ho=>by
 rcases List.mem_append.1 ho with ho | ho
 ·exact h o ho
 ·exact k o ho
theorem Qb(hc:ZU cf cf1){l:List OpC}(hl:l.all vd=true)(hn:l.all zel=true):NP E1 cf1 l:=fun o ho s x s' h=>
 zmL hc (fun⟨_,x,hx⟩=>by have:=List.all_eq_true.1 hn o ho;rw[zel,hx]at this;contradiction) (List.all_eq_true.1 hl o ho) h
theorem zfE(hc:ZU cf cf1)(dst:Option Nat)(f:Nat)(xs:List X):NP E1 cf1 [⟨dst,.call f xs,none⟩]:=fun o ho s x s' h=>by
 obtain rfl:=List.mem_singleton.1 ho
 simp only[opC,yA,opR,opX,zB,zA]at h
 obtain⟨v,⟨l,_,q,hq,rfl⟩,h⟩:=h
 obtain⟨o,st'⟩:=q
 cases o with
 | ret y=>cases h
 | pan y=>exact hc.np _ _ _ _ _ hq
omit hg hc ht hf hk hh in
theorem zjE(dst:Option Nat)(x:X)(i:Nat):NP E1 cf1 [⟨dst,.ext x i,none⟩]:=fun o ho s y s' h=>by
 obtain rfl:=List.mem_singleton.1 ho
 simp only[opC,yA,opR,opX,zB]at h
 obtain⟨v,⟨p,_,rfl⟩,h⟩:=h
 cases h
theorem zd3{E:Env}{cf:Cf}{l:List OpC}(hn:NP E cf l){s s':St}{d:D}(h:runOps E cf l s=some (.pan d s')):False:=by
 induction l generalizing s with
 | nil=>injection h with h;cases h
 | cons o l ih=>
  simp only[runOps]at h
  split at h
  ·exact ih (fun o ho=>hn o (zP _ ho)) h
  ·exact hn o List.mem_cons_self _ _ _ h
theorem zn1{E:Env}{cf:Cf}{Y Z l:List OpC}(hn:NP E cf l){s s':St}{d:D}(h:runFl E cf Y Z l s=some (.pan d s')):False:=by
 induction l generalizing s with
 | nil=>injection h with h;cases h
 | cons o l ih=>
  simp only[runFl]at h
  split at h
  ·split at h
   ·exact ih (fun o ho=>hn o (zP _ ho)) h
   ·contradiction
  ·next he=>exact hn o List.mem_cons_self _ _ _ he
  ·contradiction
theorem znK{E:Env}{cf:Cf}{a0 a1 b1 b:List OpC}(h1:NP E cf a1)(h2:NP E cf b1){s:St}{r:Rs}(h:runDrw E cf a0 a1 b1 b s=some r) :
  ∃ s1 s2 s3,runOps E cf a0 s=some (.ok s1)∧runStill E cf a1 s1=some s2∧runFl E cf (a0++a1) (qf a1) b1 s2=some (.ok s3)∧runOps E cf b s3=some r:=by
 unfold runDrw at h
 split at h
 ·next s1 e1=>
  split at h
  ·next s2 e2=>
   unfold runB at h
   split at h
   ·next s3 e3=>exact⟨s1,s2,s3,e1,e2,e3,h⟩
   ·next hne=>
    cases r with
    | ok s3=>exact(hne s3 h).elim
    | pan d s'=>exact(zn1 h2 h).elim
  ·simp only[zB]at h
   obtain⟨q,hq,_⟩:=h
   obtain⟨x,c,s2,rfl,_,h2⟩:=V0 hq
   exact(h1 c (by simp) _ _ _ h2).elim
 ·contradiction
/-- the first part of a run, and what follows -/
theorem zaQ{E:Env}{cf:Cf}{n:Nat}{a0 a1 b1 b:List OpC}{k:List Nat}{c2:C}{s s':St}{e:Ex}(h1:NP E cf a1)(h2:NP E cf b1)(h3:NP E cf b)(h:exec E cf n (.seq (.drw a0 a1 b1 b k) c2) s=some (e,s')) :
  ∃ s1 s2 s3 s4,runOps E cf a0 s=some (.ok s1)∧runStill E cf a1 s1=some s2∧runFl E cf (a0++a1) (qf a1) b1 s2=some (.ok s3)∧runOps E cf b s3=some (.ok s4)∧exec E cf n c2 { s4 with tm:=kept k s4.tm }=some (e,s'):=by
 simp only[exec]at h
 cases hr:runDrw E cf a0 a1 b1 b s with
 | none=>rw[hr]at h;simp at h
 | some r=>
  obtain⟨s1,s2,s3,e1,e2,e3,e4⟩:=znK h1 h2 hr
  cases r with
  | pan d s4=>exact(zd3 h3 e4).elim
  | ok s4=>
   rw[hr]at h
   exact⟨s1,s2,s3,s4,e1,e2,e3,e4,h⟩
theorem zig(hg:E1.gl=E.gl){z:OpC}(hl:vd z=true){s s1:St}(ha:Agree YA s s1)(h:ZNow E1 z s1):ZNow E z s:=by
 simp only[vd,zG]at hl
 have hs:Same z.op.uses s1.tm s.tm:=fun t ht=>(ha.tm t (wH hl.1.1.1 ht)).symm
 have hw:yA s.tm z.gd=yA s1.tm z.gd:=by
  cases hgd:z.gd with
  | none=>rfl
  | some p=>
   obtain⟨t,b⟩:=p
   have:=hl.1.2
   rw[hgd]at this
   simp only[yA]
   rw[ha.tm t (show t<zi by simpa using this)]
 have hd : ∀ t,z.dst=some t→get s.tm t=get s1.tm t:=by
  intro t ht
  have:=hl.1.1.2
  rw[ht]at this
  exact(ha.tm t (show t<zi by simpa using this)).symm
 rcases h with⟨h0,r,h1,h2⟩ | ⟨h0,h2⟩
 ·refine .inl ⟨hw.trans h0,r,?_,fun t d ht hget=>h2 t d ht (by rw[← hd t ht];exact hget)⟩
  rw[zmY hg]at h1
  have:=zho h1 hs
  rw[← ha.core]at this
  exact this
 ·exact .inr ⟨hw.trans h0,fun t d ht hget=>h2 t d ht (by rw[← hd t ht];exact hget)⟩
theorem zeG(hg:E1.gl=E.gl)(hc:ZU cf cf1)(ht:ZF cf)(hf:xT cf){Y Z l:List OpC}(hl:l.all vd=true)(hz : ∀ z∈Z,vd z=true)(hu : ∀ t∈yd l,YA t){s s1 s1':St}(ha:Agree YA s s1)(h:runFl E1 cf1 Y Z l s1=some (.ok s1')) : ∃ s',runFl E cf Y Z l s=some (.ok s')∧Agree YA s' s1':=by
 induction l generalizing s s1 with
 | nil=>injection h with h;injection h with h;subst h;exact⟨s,rfl,ha⟩
 | cons o l ih=>
  simp only[List.all_cons,zG]at hl
  have hu1 : ∀ t∈o.op.uses,YA t:=fun t ht=>hu t (by simp[yd,ht])
  have hu2 : ∀ t∈ZH o.gd,YA t:=fun t ht=>hu t (by simp[yd,ht])
  have hu3 : ∀ t∈yd l,YA t:=fun t ht=>hu t (by simp[yd,ht])
  simp only[runFl]at h ⊢
  split at h
  ·next s2 he=>
   split at h
   ·next hm=>
    obtain⟨r,h1,h2⟩:=JO hg hc ht hf hl.1 hu1 hu2 ha he
    cases r with
    | ok s'=>
     rw[h1]
     simp only
     rw[if_pos (fun z hzm=>zig hg (hz z hzm) h2 (hm z hzm))]
     exact ih hl.2 hu3 h2 h
    | pan d s'=>exact h2.elim
   ·contradiction
  ·injection h with h;cases h
  ·contradiction
/-- a call whose panic is a value -/
theorem Kg(hg:E1.gl=E.gl)(hc:ZU cf cf1)(ht:ZF cf)(hf:xT cf){U:Nat→Prop}{f:Nat}{xs:List X}(hu : ∀ t∈WT xs,U t){sa s1a s1b:St}(ha:Agree U sa s1a)(h:opC E1 cf1 ⟨some zi,.call (f+zi) xs,none⟩ s1a=some (.ok s1b)) :
  ∃ (b:Bool) (y:D) (st':St),s1b={ st' with tm:=put s1a.tm zi (.tup [.bool b,y]) }∧(b=true → ∀ dst,opC E cf ⟨dst,.call f xs,none⟩ sa=some (.ok (St.set { st' with tm:=sa.tm } dst (some y)))) ∧
   (b=false→(∀ dst,opC E cf ⟨dst,.call f xs,none⟩ sa=some (.pan y { st' with tm:=sa.tm })) ∧ ∃ t w,y = .iface t w):=by
 simp only[opC,yA,opR,opX]at h
 rw[Ki hg]at h
 have hev:evL E sa.tm xs=evL E s1a.tm xs:=(Zu (E:=E) (fun t ht=>ha.tm t (hu t ht))).symm
 cases hv:evL E s1a.tm xs with
 | none=>rw[hv]at h;simp at h
 | some l=>
  rw[hv]at h
  simp only[zD]at h
  cases hq:cf1 (f+zi) l s1a with
  | none=>rw[hq]at h;simp at h
  | some q=>
   obtain⟨b,y,st',rfl,hcf,hif⟩:=hc.pn f l s1a q hq
   have hst:st'.tm=s1a.tm:=(hf _ _ _ _ _ hcf).tm
   have hcf2:=ht _ _ _ _ _ sa.tm hcf
   rw[← ha.core]at hcf2
   rw[hq]at h
   simp only[zC,outV,Rv.to,St.set,St.put,Option.some.injEq,Rs.ok.injEq]at h
   refine⟨b,y,st',by rw[← h,hst],fun hb dst => ?_,fun hb=>⟨fun dst => ?_,hif hb⟩⟩
   ·subst hb
    have hcf2:cf f l sa=some (.ret y,{ st' with tm:=sa.tm }):=hcf2
    simp only[opC,yA,opR,opX,hev,hv,zD,hcf2,zC,outV,Rv.to]
   ·subst hb
    have hcf2:cf f l sa=some (Out.pan y,{ st' with tm:=sa.tm }):=hcf2
    simp only[opC,yA,opR,opX,hev,hv,zD,hcf2,zC,outV,Rv.to]
theorem XC(hg:E1.gl=E.gl)(hc:ZU cf cf1)(ht:ZF cf)(hf:xT cf)(hk:low keep=true)(hh:low hs=true)(d:Bool)(r:List OpC) : ∀ (h:Option (List OpC×List OpC×List OpC)) (pre:List OpC) (s1 s1' s1a sa:St) (e1:Ex) (U:Nat→Prop),r.all vd=true→exec E1 cf1 n (vh m hs keep h pre r) s1=some (e1,s1')→e1 ≠ .ext Vz→Y1 E1 cf1 h pre s1=some (.ok s1a) →
  Agree U sa s1a→(∀ t∈yd r,U t)→(∀ t∈keep,U t)→(∀ t∈hs,U t) → ∃ e s',js keep (runOps E cf r sa)=some (e,s')∧zax hs d e s' e1 s1':=by
 induction r with
 | nil=>
  intro h pre s1 s1' s1a sa e1 U _ hx hb hrun ha _ hU2 hU3
  rw[vh,Zq,hrun]at hx
  simp only[js,Option.some.injEq,Prod.mk.injEq]at hx
  obtain⟨rfl,rfl⟩:=hx
  refine⟨_,_,rfl,rfl,?_,fun t _ => ?_⟩
  ·show({ sa with tm:=_ }:St)=_
   rw[ha.core]
  ·show get (kept keep s1a.tm) t=get (kept keep sa.tm) t
   rw[wz,wz]
   split
   ·next hk'=>exact ha.tm t (hU2 t (qV.1 hk'))
   ·rfl
 | cons o r ih=>
  intro h pre s1 s1' s1a sa e1 U hl hx hb hrun ha hU1 hU2 hU3
  simp only[List.all_cons,zG]at hl
  have hu1 : ∀ t∈o.op.uses,U t:=fun t ht=>hU1 t (by simp[yd,ht])
  have hu2 : ∀ t∈ZH o.gd,U t:=fun t ht=>hU1 t (by simp[yd,ht])
  have hu3 : ∀ t∈yd r,U t:=fun t ht=>hU1 t (by simp[yd,ht])
  have hlr : ∀ (r:List OpC),r.all vd=true → ∀ t∈yd r,t<zi:=by
   intro r
   induction r with
   | nil=>intro _ t ht;simp[yd]at ht
   | cons o r ih=>
    intro hl t ht
    simp only[List.all_cons,zG]at hl
    simp only[yd,List.mem_append]at ht
    have ho:=hl.1
    simp only[vd,zG]at ho
    rcases ht with ht | ht | ht
    ·exact wH ho.1.1.1 ht
    ·have:=ho.1.2
     cases hgd:o.gd with
     | none=>rw[hgd]at ht;simp[ZH]at ht
     | some p=>
      obtain⟨u,b⟩:=p
      rw[hgd]at ht this
      simp only[ZH,List.mem_singleton]at ht
      subst ht
      simpa using this
    ·exact ih hl.2 t ht
  have e10:zi≠okS:=by decide
  rcases zhe m o with ho | ⟨x,ho⟩ | ⟨f,xs,ho,hm⟩
  ·-- an operation as any other
   rw[Jl ho]at hx
   have happ:Y1 E1 cf1 h (pre++[o]) s1=opC E1 cf1 o s1a:=by
    rw[Yl,hrun]
    simp only[runOps]
    cases hq:opC E1 cf1 o s1a with
    | none=>rfl
    | some q=>cases q<;>rfl
   cases hq:opC E1 cf1 o s1a with
   | none=>
    rw[WR r h (pre++[o]) s1 (by rw[happ,hq];simp),happ,hq]at hx
    simp[js]at hx
   | some q=>
    cases q with
    | pan y s2=>exact(zmL hc ho.1 hl.1 hq).elim
    | ok s1b=>
     obtain⟨r',h1,h2⟩:=JO hg hc ht hf hl.1 hu1 hu2 ha hq
     cases r' with
     | pan y s2=>exact h2.elim
     | ok sb=>
      obtain⟨e,s',h3,h4⟩:=ih h (pre++[o]) s1 s1' s1b sb e1 U hl.2 hx hb (by rw[happ,hq]) h2 hu3 hU2 hU3
      exact⟨e,s',by simp only[runOps,h1];exact h3,h4⟩
  ·-- a panic
   have hux : ∀ t∈x.uses,U t:=by intro t ht;apply hu1;rw[ho];exact ht
   rw[ho]at hx ⊢
   simp only[vh,exec,Zq]at hx
   rw[Yl,hrun]at hx
   simp only[runOps,opC,yA,opR,opX,opD,zcp]at hx
   rw[K0 hg]at hx
   have hev:ev E sa.tm x=ev E s1a.tm x:=(yB (E:=E) (fun t ht=>(ha.tm t (hux t ht)))).symm
   cases hv:ev E s1a.tm x with
   | none=>rw[hv]at hx;simp[js]at hx
   | some v=>
    rw[hv]at hx
    simp only[zC,Rv.to,St.set,St.put,get_put,if_true]at hx
    cases v<;>try (simp[js]at hx;done)
    case nili=>
     simp only[zC,Rv.to,St.set,St.put,js]at hx
     rw[yr (by simp)]at hx
     rw[get_put,if_pos rfl]at hx
     simp only[zH,Option.some.injEq,Prod.mk.injEq]at hx
     exact(hb hx.1.symm).elim
    case iface t y=>
     simp only[zC,Rv.to,St.set,St.put,js]at hx
     rw[yr (by simp)]at hx
     rw[get_put,if_pos rfl]at hx
     simp only[Option.some.injEq,Prod.mk.injEq]at hx
     obtain⟨rfl,rfl⟩:=hx
     refine⟨.pan (.iface t y),sa,?_,?_⟩
     ·simp only[runOps,opC,yA,opR,opX,hev,hv,zC,Rv.to,js]
     ·refine Jt ⟨⟨?_,fun u hu => ?_⟩,.inl ⟨t,y,?_,rfl⟩⟩
      ·exact ha.core
      ·have hlt:=wH hh hu
       rw[yr (by simp[hu]),get_put,if_neg (by unfold okS;unfold zi at hlt;omega),get_put,if_neg (by omega)]
       exact ha.tm u (hU3 u hu)
      ·rw[yr (by simp),get_put,if_neg e10,get_put,if_pos rfl]
  ·-- a call
   have hux : ∀ t∈WT xs,U t:=by intro t ht;apply hu1;rw[ho];exact ht
   have hdst:(match o.dst with | some t=>Nat.blt t zi | none=>true)=true:=by
    have:=hl.1
    simp only[vd,zG]at this
    exact this.1.1.2
   rw[ho]at hx ⊢
   generalize o.dst=dst at *
   simp only[vh,hm,exec,Zq]at hx
   rw[Yl,hrun]at hx
   simp only[runOps,opC,yA,opR,opX,opD,zcp]at hx
   rw[Ki hg]at hx
   have hev:evL E sa.tm xs=evL E s1a.tm xs:=(Zu (E:=E) (fun t ht=>(ha.tm t (hux t ht)))).symm
   cases hv:evL E s1a.tm xs with
   | none=>rw[hv]at hx;simp[js]at hx
   | some l=>
    rw[hv]at hx
    simp only[zD]at hx
    cases hq:cf1 (f+zi) l s1a with
    | none=>rw[hq]at hx;simp[js]at hx
    | some q=>
     obtain⟨b,y,st',rfl,hcf,hif⟩:=hc.pn f l s1a q hq
     have hst:st'.tm=s1a.tm:=(hf _ _ _ _ _ hcf).tm
     have hcf2:=ht _ _ _ _ _ sa.tm hcf
     rw[← ha.core]at hcf2
     rw[hq]at hx
     simp only[zC,outV,Rv.to,St.set,St.put,get_put,if_true,zD,zM,js]at hx
     rw[yr (by simp)]at hx
     rw[get_put,if_pos rfl]at hx
     have hold : ∀ t,t<zi→t∈yd r++(keep++hs)→get (kept (zi::okS::(yd r++(keep++hs))) (put (put st'.tm zi (.tup [.bool b,y])) okS (.bool b))) t=get sa.tm t:=by
      intro t hlt hm
      rw[yr (by simp only[zS];exact .inr (.inr hm)),get_put,if_neg (by unfold okS;unfold zi at hlt;omega),get_put,if_neg (by omega),hst]
      refine ha.tm t ?_
      rw[List.mem_append,List.mem_append]at hm
      rcases hm with hm | hm | hm
      ·exact hu3 t hm
      ·exact hU2 t hm
      ·exact hU3 t hm
     have hpan:get (kept (zi::okS::(yd r++(keep++hs))) (put (put st'.tm zi (.tup [.bool b,y])) okS (.bool b))) zi=some (.tup [.bool b,y]):=by
      rw[yr (by simp),get_put,if_neg e10,get_put,if_pos rfl]
     cases b with
     | true=>
      simp only at hx
      have hcf2:cf f l sa=some (.ret y,{ st' with tm:=sa.tm }):=hcf2
      have hrun2:Y1 E1 cf1 none [⟨dst,.ext (.s zi) 1,none⟩] { st' with tm:=kept (zi::okS::(yd r++(keep++hs))) (put (put st'.tm zi (.tup [.bool true,y])) okS (.bool true)) }=some (.ok (St.set { st' with tm:=kept (zi::okS::(yd r++(keep++hs))) (put (put st'.tm zi (.tup [.bool true,y])) okS (.bool true)) } dst (some y))):=by
       simp only[Y1,runOps,opC,yA,opR,opX,opD,zcp,hpan,zD,zN,zM,zC,Rv.to]
      have hag:Agree (fun t=>t<zi∧t∈yd r++(keep++hs)) (St.set { st' with tm:=sa.tm } dst (some y)) (St.set { st' with tm:=kept (zi::okS::(yd r++(keep++hs))) (put (put st'.tm zi (.tup [.bool true,y])) okS (.bool true)) } dst (some y)):=
       Agree.set ⟨rfl,fun t ht=>hold t ht.1 ht.2⟩ dst (some y)
      obtain⟨e,s',h3,h4⟩:=ih none [⟨dst,.ext (.s zi) 1,none⟩] _ s1' _ _ e1 _ hl.2 hx hb hrun2 hag (fun t ht=>⟨hlr r hl.2 t ht,by simp[ht]⟩) (fun t ht=>⟨wH hk ht,by simp[ht]⟩) (fun t ht=>⟨wH hh ht,by simp[ht]⟩)
      refine⟨e,s',?_,h4⟩
      simp only[runOps,opC,yA,opR,opX,hev,hv,zD,hcf2,zC,outV,Rv.to]
      exact h3
     | false=>
      obtain⟨t,w,rfl⟩:=hif rfl
      simp only[zcp,hpan,zD,zN,zM,zC,Rv.to,St.set,St.put,Option.some.injEq,Prod.mk.injEq]at hx
      obtain⟨rfl,rfl⟩:=hx
      have hcf2:cf f l sa=some (.pan (.iface t w),{ st' with tm:=sa.tm }):=hcf2
      refine⟨.pan (.iface t w),{ st' with tm:=sa.tm },?_,?_⟩
      ·simp only[runOps,opC,yA,opR,opX,hev,hv,zD,hcf2,zC,outV,Rv.to,js]
      ·refine Jt ⟨⟨rfl,fun u hu => ?_⟩,.inl ⟨t,w,?_,rfl⟩⟩
       ·have hlt:=wH hh hu
        show get (kept (zi::hs) (put _ zi _)) u=get sa.tm u
        rw[yr (by simp[hu]),get_put,if_neg (by omega)]
        exact hold u hlt (by simp[hu])
       ·show get (kept (zi::hs) (put _ zi _)) zi=_
        rw[yr (by simp),get_put,if_pos rfl]
theorem Qd{r:List OpC}(hl:r.all vd=true) : ∀ t∈yd r,YA t:=by
 induction r with
 | nil=>intro t ht;simp[yd]at ht
 | cons o r ih=>
  intro t ht
  simp only[List.all_cons,zG]at hl
  simp only[yd,List.mem_append]at ht
  have ho:=hl.1
  simp only[vd,zG]at ho
  rcases ht with ht | ht | ht
  ·exact wH ho.1.1.1 ht
  ·have:=ho.1.2
   cases hgd:o.gd with
   | none=>rw[hgd]at ht;simp[ZH]at ht
   | some p=>
    obtain⟨u,b⟩:=p
    rw[hgd]at ht this
    simp only[ZH,List.mem_singleton]at ht
    subst ht
    exact(show _<zi by simpa using this)
  ·exact ih hl.2 t ht
theorem zgq{E:Env}{cf:Cf}{n:Nat}{w:Bool}{g:Nat}{A B:C}{s:St}{r:Ex×St}(h:exec E cf n (zgi w g A B) s=some r) : ∃ v,get s.tm g=some (.bool v)∧exec E cf n (if v=w then A else B) s=some r:=by
 cases w<;>simp only[zgi,exec,zcp]at h<;>split at h<;>first | contradiction | (next hv=>exact⟨_,hv,h⟩)
/-- behind a call whose panic is a value -/
theorem Kq(hg:E1.gl=E.gl)(hc:ZU cf cf1)(ht:ZF cf)(hf:xT cf)(hk:low keep=true)(d:Bool){dst:Option Nat}{pre b:List OpC}{bb:Bool}{y:D}{st' sa s1':St}{tmx:Tm}{e1:Ex}(hp:pre.all vd=true)(hpn:pre.all zel=true)(hbl:b.all vd=true)
  (hag : ∀ t,t<zi→t∈yd pre++(yd b++keep)→get tmx t=get sa.tm t)
  (hx:exec E1 cf1 n (zh9 m [] keep dst pre b) { st' with tm:=kept (zi::okS::(yd pre++(yd b++keep))) (put (put tmx zi (.tup [.bool bb,y])) okS (.bool bb)) }=some (e1,s1')) (hb:e1 ≠ .ext Vz) :
  (bb=true → ∃ s6,runOps E cf pre (St.set { st' with tm:=sa.tm } dst (some y))=some (.ok s6) ∧ ∃ e s',js keep (runOps E cf b s6)=some (e,s')∧zax [] d e s' e1 s1') ∧
  (bb=false → ∀ t w,y = .iface t w → ∀ tm',zax [] d (.pan y) { st' with tm:=tm' } e1 s1'):=by
 have e10:zi≠okS:=by decide
 generalize hK:zi::okS::(yd pre++(yd b++keep))=K at hx
 have hKp:zi∈K:=by rw[← hK];simp
 have hKo:okS∈K:=by rw[← hK];simp
 have hpan:get (kept K (put (put tmx zi (.tup [.bool bb,y])) okS (.bool bb))) zi=some (.tup [.bool bb,y]):=by
  rw[yr hKp,get_put,if_neg e10,get_put,if_pos rfl]
 have hok:get (kept K (put (put tmx zi (.tup [.bool bb,y])) okS (.bool bb))) okS=some (.bool bb):=by
  rw[yr hKo,get_put,if_pos rfl]
 have hold : ∀ t,t<zi→t∈yd pre++(yd b++keep)→get (kept K (put (put tmx zi (.tup [.bool bb,y])) okS (.bool bb))) t=get sa.tm t:=by
  intro t hlt hm
  rw[yr (by rw[← hK];simp only[zS];exact .inr (.inr hm)),get_put,if_neg (by unfold okS;unfold zi at hlt;omega),get_put,if_neg (by omega)]
  exact hag t hlt hm
 generalize kept K (put (put tmx zi (.tup [.bool bb,y])) okS (.bool bb))=T at *
 simp only[zh9,exec,zcp,hok]at hx
 constructor
 ·intro hbb
  subst hbb
  simp only at hx
  have hfirst : ∀ r,runOps E1 cf1 (⟨dst,.ext (.s zi) 1,none⟩::r) { st' with tm:=T }=runOps E1 cf1 r (St.set { st' with tm:=T } dst (some y)):=by
   intro r
   simp only[runOps,opC,yA,opR,opX,opD,zcp,hpan,zD,zN,zM,zC,Rv.to]
  have hag0:Agree (fun t=>t<zi∧t∈yd pre++(yd b++keep)) (St.set { st' with tm:=sa.tm } dst (some y)) (St.set { st' with tm:=T } dst (some y)):=
   Agree.set ⟨rfl,fun t ht=>hold t ht.1 ht.2⟩ dst (some y)
  have hup : ∀ t∈yd pre,t<zi∧t∈yd pre++(yd b++keep):=fun t ht=>⟨Qd hp t ht,by simp[ht]⟩
  have hrH:Y1 E1 cf1 none (⟨dst,.ext (.s zi) 1,none⟩::pre) { st' with tm:=T }=runOps E1 cf1 pre (St.set { st' with tm:=T } dst (some y)):=hfirst pre
  cases hr:runOps E1 cf1 pre (St.set { st' with tm:=T } dst (some y))with
  | none=>
   rw[WR b none _ _ (by rw[hrH,hr];simp),hrH,hr]at hx
   simp[js]at hx
  | some w=>
   cases w with
   | pan z s2=>exact(zd3 (Qb hc hp hpn) hr).elim
   | ok s6x=>
    obtain⟨r,h1,h2⟩:=Zt hg hc ht hf hp hup hag0 hr
    cases r with
    | pan z s2=>exact h2.elim
    | ok s6=>
     obtain⟨e,s',h3,h4⟩:=XC hg hc ht hf hk (hs:=[]) rfl d b none _ _ s1' s6x s6 e1 _ hbl hx hb (hrH.trans hr) h2 (fun t ht=>⟨Qd hbl t ht,by simp[ht]⟩) (fun t ht=>⟨wH hk ht,by simp[ht]⟩) (fun t ht=>by simp at ht)
     exact⟨s6,h1,e,s',h3,h4⟩
 ·intro hbb t w hy tm'
  subst hbb
  simp only at hx
  simp only[runOps,opC,yA,opR,opX,opD,zcp,hpan,zD,zN,zM,zC,Rv.to,St.set,St.put,Option.some.injEq,Prod.mk.injEq]at hx
  obtain⟨rfl,rfl⟩:=hx
  refine Jt ⟨⟨rfl,fun u hu=>by simp at hu⟩,.inl ⟨t,w,?_,by rw[hy]⟩⟩
  show get (kept [zi] (put T zi y)) zi=_
  rw[yr (by simp),get_put,if_pos rfl,hy]
theorem zhi(hg:E1.gl=E.gl)(hc:ZU cf cf1)(ht:ZF cf)(hf:xT cf)(hh:low hs=true)(d:Bool)(c:C):okC c=true → ∀ (s s1 s1':St) (e1:Ex),Agree YA s s1→exec E1 cf1 n (vI m hs d c) s1=some (e1,s1')→e1 ≠ .ext Vz → ∃ e s',exec E cf n c s=some (e,s')∧zax hs d e s' e1 s1':=by
 have finE : ∀ (keep:List Nat) (w:Option Rs) (e:Ex) (s':St),js keep w=some (e,s')→(match w with
   | some (.ok st')=>some (Ex.nrm,{ st' with tm:=kept keep st'.tm })
   | some (.pan d st')=>some (.pan d,st')
   | none=>none)=some (e,s'):=by
  intro keep w e s' h
  match w,h with
  | some (.ok _),h=>exact h
  | some (.pan _ _),h=>exact h
 induction c with
 | skip=>
  intro _ s s1 s1' e1 ha hx hb
  simp only[vI,exec,Option.some.injEq,Prod.mk.injEq]at hx
  obtain⟨rfl,rfl⟩:=hx
  exact⟨.nrm,s,rfl,rfl,ha⟩
 | reg ops keep=>
  intro hok s s1 s1' e1 ha hx hb
  simp only[okC,zG]at hok
  simp only[vI]at hx
  obtain⟨e,s',h1,h2⟩:=XC hg hc ht hf hok.2 hh d ops none [] s1 s1' s1 s e1 YA hok.1 hx hb rfl ha (Qd hok.1) (fun t h=>wH hok.2 h) (fun t h=>wH hh h)
  exact⟨e,s',finE _ _ _ _ h1,h2⟩
 | drw a0 a1 b1 b keep=>
  intro hok s s1 s1' e1 ha hx hb
  simp only[okC,zG]at hok
  obtain⟨⟨⟨⟨⟨⟨⟨ho0,ho1⟩,hob⟩,ho2⟩,hkk⟩,hn0⟩,hn1⟩,hnb⟩:=hok
  simp only[vI]at hx
  have hL : ∀ {l:List OpC},l.all vd=true → ∀ z∈qf l,vd z=true:=fun h z hz=>List.all_eq_true.1 h z (XX hz).1
  have hEx : ∀ {e:Ex} {s':St},js keep (runDrw E cf a0 a1 b1 b s)=some (e,s')→exec E cf n (.drw a0 a1 b1 b keep) s=some (e,s'):=fun h=>by
   simp only[exec];exact finE _ _ _ _ h
  -- as it stands
  have plain:exec E1 cf1 n (vh m hs keep (some (a0,a1,b1)) [] b) s1=some (e1,s1') → ∃ e s',exec E cf n (.drw a0 a1 b1 b keep) s=some (e,s')∧zax hs d e s' e1 s1':=by
   intro hx
   cases hr:Y1 E1 cf1 (some (a0,a1,b1)) [] s1 with
   | none=>
    rw[WR b _ [] s1 (by rw[hr];simp),hr]at hx
    simp[js]at hx
   | some w=>
    obtain⟨s1x,s2x,s3x,e0,e1',e2,e3⟩:=znK (Qb hc ho1 hn1) (Qb hc hob hnb) hr
    simp only[runOps,Option.some.injEq]at e3
    subst e3
    obtain⟨r,h3,h4⟩:=Zt hg hc ht hf ho0 (Qd ho0) ha e0
    cases r with
    | pan y z=>exact h4.elim
    | ok sx=>
     obtain⟨sy,h5,h6⟩:=Zd hg hc ht hf ho1 (Qd ho1) h4 e1'
     obtain⟨sz,h7,h8⟩:=zeG hg hc ht hf hob (hL ho1) (Qd hob) h6 e2
     obtain⟨e,s',h9,h10⟩:=XC hg hc ht hf hkk hh d b (some (a0,a1,b1)) [] s1 s1' s3x sz e1 YA ho2 hx hb hr h8 (Qd ho2) (fun t h=>wH hkk h) (fun t h=>wH hh h)
     refine⟨e,s',hEx ?_,h10⟩
     simp only[runDrw,h3,h5,runB,h7]
     exact h9
  unfold zrW at hx
  split at hx
  ·-- a call among what floats
   next x dst f xs y hcut=>
   have hb1:=zo3 hcut
   simp only at hb1
   subst hb1
   split at hx
   ·next hst=>
    simp only[zG]at hst
    obtain⟨⟨hs0,hap⟩,hyk⟩:=hst
    obtain rfl:hs=[]:=by cases hs with | nil=>rfl | cons a b=>simp at hs0
    simp only[List.all_append,List.all_cons,zG]at hob hnb
    obtain⟨hox,hoc,hoy⟩:=hob
    obtain⟨hnx,_,hny⟩:=hnb
    have hux : ∀ t∈WT xs,YA t:=by
     simp only[vd,zG]at hoc
     exact fun t ht=>wH hoc.1.1.1 ht
    obtain⟨s1x,s2x,s3x,s4x,e0,e1',e2,e3,hx⟩:=zaQ (Qb hc ho1 hn1) ((Qb hc hox hnx).app (zfE hc _ _ _)) (zjE _ _ _) hx
    rw[Xi]at e2
    split at e2
    ·next smx e4=>
     simp only[runFl]at e2
     split at e2
     rotate_left
     ·injection e2 with e2;cases e2
     ·contradiction
     next s3x' e5=>
      split at e2<;>try contradiction
      next hchk=>
       injection e2 with e2;injection e2 with e2;subst e2
       obtain⟨r,h3,h4⟩:=Zt hg hc ht hf ho0 (Qd ho0) ha e0
       cases r with
       | pan y z=>exact h4.elim
       | ok sx=>
       obtain⟨sy,h5,h6⟩:=Zd hg hc ht hf ho1 (Qd ho1) h4 e1'
       obtain⟨sm,h7,h8⟩:=zeG hg hc ht hf hox (hL ho1) (Qd hox) h6 e4
       obtain⟨bb,yv,st',rfl,hT,hF⟩:=Kg hg hc ht hf hux h8 e5
       simp only[runOps,opC,yA,opR,opX,opD,zcp,get_put,if_true,zD,zM,zC,Rv.to,St.set,St.put,Option.some.injEq,Rs.ok.injEq]at e3
       subst e3
       obtain⟨k1,k2⟩:=Kq hg hc ht hf hkk d (sa:=sm) hoy hny ho2 (fun t hlt _=>h8.tm t hlt) hx hb
       cases bb with
       | true=>
        obtain⟨s6,q1,e,s',q2,q3⟩:=k1 rfl
        refine⟨e,s',hEx ?_,q3⟩
        have hz0 : ∀ z∈qf a1,ZNow E z { st' with tm:=sm.tm }:=fun z hz=>zig (s:={ st' with tm:=sm.tm }) (s1:={ st' with tm:=put smx.tm zi (.tup [.bool true,yv]) }) hg (hL ho1 z hz) ⟨rfl,fun t hlt=>by
         show get (put smx.tm zi _) t=_
         rw[get_put,if_neg (by have:t<zi:=hlt;omega)]
         exact h8.tm t hlt⟩ (hchk z hz)
        have hz1 : ∀ z∈qf a1,ZNow E z (St.set { st' with tm:=sm.tm } dst (some yv)):=fun z hz=>(hz0 z hz).set (XX hz).2 (Vr hap hz).1 (Vr hap hz).2 _
        have hfl:runFl E cf (a0++a1) (qf a1) (x++⟨dst,.call f xs,none⟩::y) sy=some (.ok s6):=by
         rw[Xi,h7]
         simp only[runFl,hT rfl dst]
         rw[if_pos hz1]
         exact zg4 hyk (fun z hz=>(XX hz).2) q1 hz1
        simp only[runDrw,h3,h5,runB,hfl]
        exact q2
       | false=>
        obtain⟨hF1,t,w,hy⟩:=hF rfl
        have hfl:runFl E cf (a0++a1) (qf a1) (x++⟨dst,.call f xs,none⟩::y) sy=some (.pan yv { st' with tm:=ZE (a0++a1) sm.tm }):=by
         rw[Xi,h7]
         simp only[runFl,hF1 dst]
        refine⟨.pan yv,{ st' with tm:=ZE (a0++a1) sm.tm },hEx ?_,k2 rfl t w hy _⟩
        simp only[runDrw,h3,h5,runB,hfl,js]
    ·next hne=>exact(hne s3x e2).elim
   ·simp only[exec,Option.some.injEq,Prod.mk.injEq]at hx
    exact(hb hx.1.symm).elim
  ·simp only[exec,Option.some.injEq,Prod.mk.injEq]at hx
   exact(hb hx.1.symm).elim
  ·split at hx
   ·split at hx
    ·-- a call, the last of what comes in any order
     next x dst f xs gd hcut=>
     have ha1:=ziE hcut
     simp only at ha1
     subst ha1
     simp only[List.all_append,List.all_cons,List.all_nil,Bool.and_true,zG]at ho1 hn1
     obtain⟨hox,hoc⟩:=ho1
     obtain⟨hnx,_⟩:=hn1
     have hux : ∀ t∈WT xs,YA t:=by
      simp only[vd,zG]at hoc
      exact fun t ht=>wH hoc.1.1.1 ht
     have fin1 : ∀ {sx sm sq:St},runOps E cf a0 s=some (.ok sx)→runStill E cf x sx=some sm→opC E cf ⟨dst,.call f xs,gd⟩ sm=some (.ok sq)→sq.mem=sm.mem → ∀ {e:Ex} {s':St},js keep (runOps E cf b sq)=some (e,s')→js keep (runDrw E cf a0 (x++[⟨dst,.call f xs,gd⟩]) [] b s)=some (e,s'):=by
      intro sx sm sq h1 h2 h3 h4 e s' h5
      have:runStill E cf (x++[⟨dst,.call f xs,gd⟩]) sx=some sq:=by
       rw[WI,h2]
       simp only[zD,runStill,h3,h4,if_true]
      simp only[runDrw,h1,this,runB,runFl]
      exact h5
     have fin2 : ∀ {sx sm sp:St} {y:D},runOps E cf a0 s=some (.ok sx)→runStill E cf x sx=some sm→opC E cf ⟨dst,.call f xs,gd⟩ sm=some (.pan y sp)→js keep (runDrw E cf a0 (x++[⟨dst,.call f xs,gd⟩]) [] b s)=some (.pan y,{ sp with tm:=ZE (a0++(x++[⟨dst,.call f xs,gd⟩])) sp.tm }):=by
      intro sx sm sp y h1 h2 h3
      have:=zbH h2 h3
      simp only[runDrw,h1,YF this,this,zC,js]
     split at hx
     ·split at hx
      ·next hm _ hs0=>
       obtain rfl:hs=[]:=by cases hs with | nil=>rfl | cons a b=>simp at hs0
       split at hx
       ·obtain⟨s1x,s2x,s3x,s4x,e0,e1',e2,e3,hx⟩:=zaQ ((Qb hc hox hnx).app (zfE hc _ _ _)) (fun o ho=>by simp at ho) (zjE _ _ _) hx
        rw[WI,zA]at e1'
        obtain⟨smx,e4,e1'⟩:=e1'
        simp only[runStill]at e1'
        split at e1'<;>try contradiction
        next s2' e5=>
         split at e1'<;>try contradiction
         next hmem=>
          injection e1' with e1';subst e1'
          injection e2 with e2;injection e2 with e2;subst e2
          obtain⟨r,h3,h4⟩:=Zt hg hc ht hf ho0 (Qd ho0) ha e0
          cases r with
          | pan y z=>exact h4.elim
          | ok sx=>
          obtain⟨sm,h7,h8⟩:=Zd hg hc ht hf hox (Qd hox) h4 e4
          obtain⟨bb,yv,st',rfl,hT,hF⟩:=Kg hg hc ht hf hux h8 e5
          simp only[runOps,opC,yA,opR,opX,opD,zcp,get_put,if_true,zD,zM,zC,Rv.to,St.set,St.put,Option.some.injEq,Rs.ok.injEq]at e3
          subst e3
          obtain⟨k1,k2⟩:=Kq (pre:=[]) hg hc ht hf hkk d (sa:=sm) rfl rfl ho2 (fun t hlt _=>h8.tm t hlt) hx hb
          have hme2:st'.mem=sm.mem:=Eq.trans hmem (show smx.mem=sm.mem from(congrArg St.mem h8.core).symm)
          cases bb with
          | true=>
           obtain⟨s6,q1,e,s',q2,q3⟩:=k1 rfl
           injection q1 with q1;injection q1 with q1;subst q1
           exact⟨e,s',hEx (fin1 h3 h7 (hT rfl dst) (by rw[← (Eqv.set _ _ _).1];exact hme2) q2),q3⟩
          | false=>
           obtain⟨hF1,t,w,hy⟩:=hF rfl
           exact⟨_,_,hEx (fin2 h3 h7 (hF1 dst)),k2 rfl t w hy _⟩
       ·next g w _=>
        obtain⟨s1x,s2x,s3x,s4x,e0,e1',e2,e3,hx⟩:=zaQ (Qb hc hox hnx) (fun o ho=>by simp at ho) (fun o ho=>by simp at ho) hx
        injection e2 with e2;injection e2 with e2;subst e2
        injection e3 with e3;injection e3 with e3;subst e3
        have hgl:g<zi:=by
         simp only[vd,zG]at hoc
         simpa using hoc.1.2
        obtain⟨r,h3,h4⟩:=Zt hg hc ht hf ho0 (Qd ho0) ha e0
        cases r with
        | pan y z=>exact h4.elim
        | ok sx=>
        obtain⟨sm,h7,h8⟩:=Zd hg hc ht hf hox (Qd hox) h4 e1'
        generalize hK:g::(WT xs++(yd b++keep))=K at hx
        have hag:Agree (fun t=>t<zi∧t∈K) sm { s2x with tm:=kept K s2x.tm }:=⟨by
         show sm={ s2x with tm:=sm.tm }
         exact h8.core,fun t ht=>by
         show get (kept K s2x.tm) t=get sm.tm t
         rw[yr ht.2];exact h8.tm t ht.1⟩
        have hux2 : ∀ t∈WT xs,t<zi∧t∈K:=fun t ht=>⟨hux t ht,by rw[← hK];simp[ht]⟩
        have hub : ∀ t,t∈yd b++keep→t∈K:=fun t ht=>by rw[← hK];simp only[zS,List.mem_append]at ht ⊢;exact .inr (.inr ht)
        obtain⟨v,hv,hx⟩:=zgq hx
        have hvE:get sm.tm g=some (.bool v):=by rw[← hag.tm g ⟨hgl,by rw[← hK];simp⟩];exact hv
        by_cases hvw:v=w
        ·subst hvw
         rw[if_pos rfl]at hx
         have hgd : ∀ q,opC E cf ⟨dst,.call f xs,none⟩ sm=q→opC E cf ⟨dst,.call f xs,some (g,v)⟩ sm=q:=fun q h=>by
          rw[← h];simp only[opC,yA,hvE,beq_self_eq_true]
         obtain⟨s1y,s2y,s3y,s4y,f0,f1,f2,f3,hx⟩:=zaQ (zfE hc _ _ _) (fun o ho=>by simp at ho) (zjE _ _ _) hx
         injection f0 with f0;injection f0 with f0;subst f0
         injection f2 with f2;injection f2 with f2;subst f2
         simp only[runStill]at f1
         split at f1<;>try contradiction
         next s2' e5=>
          split at f1<;>try contradiction
          next hmem=>
           injection f1 with f1;subst f1
           obtain⟨bb,yv,st',rfl,hT,hF⟩:=Kg hg hc ht hf hux2 hag e5
           simp only[runOps,opC,yA,opR,opX,opD,zcp,get_put,if_true,zD,zM,zC,Rv.to,St.set,St.put,Option.some.injEq,Rs.ok.injEq]at f3
           subst f3
           obtain⟨k1,k2⟩:=Kq (pre:=[]) hg hc ht hf hkk d (sa:=sm) rfl rfl ho2 (fun t hlt hm=>hag.tm t ⟨hlt,hub t hm⟩) hx hb
           have hme2:st'.mem=sm.mem:=Eq.trans hmem (show s2x.mem=sm.mem from(congrArg St.mem h8.core).symm)
           cases bb with
           | true=>
            obtain⟨s6,q1,e,s',q2,q3⟩:=k1 rfl
            injection q1 with q1;injection q1 with q1;subst q1
            exact⟨e,s',hEx (fin1 h3 h7 (hgd _ (hT rfl dst)) (by rw[← (Eqv.set _ _ _).1];exact hme2) q2),q3⟩
           | false=>
            obtain⟨hF1,t,w,hy⟩:=hF rfl
            exact⟨_,_,hEx (fin2 h3 h7 (hgd _ (hF1 dst))),k2 rfl t w hy _⟩
        ·rw[if_neg hvw]at hx
         have hw : ∀ s0:St,get s0.tm g=some (.bool v) → ∀ (E:Env) (cf:Cf),opC E cf ⟨dst,.call f xs,some (g,w)⟩ s0=some (.ok (s0.put dst .off)):=fun s0 h E cf=>by
          have:(v == w)=false:=by simpa using hvw
          simp only[opC,yA,h,this]
         have hE1:=hw _ hv E1 cf1
         have hE:=hw _ hvE E cf
         have hrH:Y1 E1 cf1 none [⟨dst,.call f xs,some (g,w)⟩] { s2x with tm:=kept K s2x.tm }=some (.ok (St.put { s2x with tm:=kept K s2x.tm } dst .off)):=by
          simp only[Y1,runOps,hE1]
         have hdl:Agree (fun t=>t<zi∧t∈K) (sm.put dst .off) (St.put { s2x with tm:=kept K s2x.tm } dst .off):=Agree.set hag dst (some .off)
         obtain⟨e,s',q2,q3⟩:=XC hg hc ht hf hkk (hs:=[]) rfl d b none [⟨dst,.call f xs,some (g,w)⟩] _ s1' _ _ e1 _ ho2 hx hb hrH hdl (fun t ht=>⟨Qd ho2 t ht,hub t (by simp[ht])⟩) (fun t ht=>⟨wH hkk ht,hub t (by simp[ht])⟩) (fun t ht=>by simp at ht)
         exact⟨e,s',hEx (fin1 h3 h7 hE (by show(St.set sm dst (some .off)).mem=_;rw[← (Eqv.set _ _ _).1]) q2),q3⟩
      ·simp only[exec,Option.some.injEq,Prod.mk.injEq]at hx
       exact(hb hx.1.symm).elim
     ·exact plain hx
    ·exact plain hx
   ·exact plain hx
 | seq a b iha ihb=>
  intro hok s s1 s1' e1 ha hx hb
  simp only[okC,zG]at hok
  simp only[vI,exec]at hx
  split at hx
  ·next s2 h1=>
   obtain⟨e,s',h2,h3,h4⟩:=iha hok.1 s s1 s2 .nrm ha h1 (by simp)
   subst h3
   obtain⟨e',s'',h5,h6⟩:=ihb hok.2 s' s2 s1' e1 h4 hx hb
   exact⟨e',s'',by simp only[exec,h2];exact h5,h6⟩
  ·next hne=>
   obtain⟨e,s',h2,h3⟩:=iha hok.1 s s1 s1' e1 ha hx hb
   refine⟨e,s',?_,h3⟩
   have:e ≠ .nrm:=by
    rintro rfl
    cases e1 with
    | nrm=>exact hne s1' hx
    | ret=>simp[zax]at h3
    | pan x=>exact h3
    | ext i=>
     by_cases hi:i=zi
     ·subst hi
      rcases(Y3 h3).2 with⟨t,x,_,h⟩ | ⟨_,_,h⟩<;>cases h
     ·cases (Kw hi h3).1
   exact kL h2 (fun s' h=>by injection h with h;injection h with h _;exact this h)
 | cond c a b iha ihb=>
  intro hok s s1 s1' e1 ha hx hb
  simp only[okC,zG]at hok
  have hev:ev E s.tm c=ev E1 s1.tm c:=by
   rw[K0 hg]
   exact(yB (E:=E) (fun t ht=>(ha.tm t (wH hok.1.1 ht)))).symm
  simp only[vI,exec]at hx
  simp only[exec,hev]
  split at hx
  ·next hc'=>exact iha hok.1.2 s s1 s1' e1 ha hx hb
  ·next hc'=>exact ihb hok.2 s s1 s1' e1 ha hx hb
  ·contradiction
 | blk id c ih=>
  intro hok s s1 s1' e1 ha hx hb
  simp only[okC,zG,Nat.blt_eq]at hok
  have hid:id≠zi∧id≠Vz:=by have:=hok.1;unfold zi at this;unfold zi Vz;omega
  simp only[vI,exec]at hx
  split at hx
  ·next i s2 h1=>
   have hib:(Ex.ext i) ≠ .ext Vz:=by
    rintro h
    injection h with h
    subst h
    rw[if_neg (Ne.symm hid.2)]at hx
    simp only[Option.some.injEq,Prod.mk.injEq]at hx
    exact hb hx.1.symm
   obtain⟨e,s',h2,h3⟩:=ih hok.2 s s1 s2 (.ext i) ha h1 hib
   by_cases hi:i=zi
   ·subst hi
    rw[if_neg (Ne.symm hid.1)]at hx
    simp only[Option.some.injEq,Prod.mk.injEq]at hx
    obtain⟨rfl,rfl⟩:=hx
    refine⟨e,s',?_,h3⟩
    simp only[exec,h2]
    rcases(Y3 h3).2 with⟨t,x,_,rfl⟩ | ⟨_,_,rfl⟩<;>rfl
   ·obtain⟨rfl,h4⟩:=Kw hi h3
    split at hx
    ·next hii=>
     simp only[Option.some.injEq,Prod.mk.injEq]at hx
     obtain⟨rfl,rfl⟩:=hx
     exact⟨.nrm,s',by simp only[exec,h2,if_pos hii],rfl,h4⟩
    ·next hii=>
     simp only[Option.some.injEq,Prod.mk.injEq]at hx
     obtain⟨rfl,rfl⟩:=hx
     exact⟨.ext i,s',by simp only[exec,h2,if_neg hii],zhd hi h4⟩
  ·next hne=>
   obtain⟨e,s',h2,h3⟩:=ih hok.2 s s1 s1' e1 ha hx hb
   refine⟨e,s',?_,h3⟩
   simp only[exec,h2]
   cases e1 with
   | nrm=>rw[h3.1]
   | ret=>rw[h3.2.1]
   | pan x=>exact h3.elim
   | ext i=>exact(hne i s1' hx).elim
 | loop c ih=>
  intro hok s s1 s1' e1 ha hx hb
  simp only[okC]at hok
  simp only[vI,exec]at hx
  have key : ∀ k (s s1:St),Agree YA s s1→loopN (exec E1 cf1 n (vI m hs d c)) k s1=some (e1,s1') → ∃ e s',loopN (exec E cf n c) k s=some (e,s')∧zax hs d e s' e1 s1':=by
   intro k
   induction k with
   | zero=>intro s s1 _ h;simp[loopN]at h
   | succ k ihk=>
    intro s s1 ha h
    simp only[loopN]at h
    split at h
    ·next s2 h1=>
     obtain⟨e,s',h2,h3,h4⟩:=ih hok s s1 s2 .nrm ha h1 (by simp)
     subst h3
     obtain⟨e',s'',h5,h6⟩:=ihk s' s2 h4 h
     exact⟨e',s'',by simp only[loopN,h2];exact h5,h6⟩
    ·next hne=>
     obtain⟨e,s',h2,h3⟩:=ih hok s s1 s1' e1 ha h hb
     refine⟨e,s',?_,h3⟩
     simp only[loopN,h2]
     cases e1 with
     | nrm=>exact(hne s1' h).elim
     | ret=>rw[h3.2.1]
     | pan x=>exact h3.elim
     | ext i=>
      by_cases hi:i=zi
      ·subst hi
       rcases(Y3 h3).2 with⟨t,x,_,rfl⟩ | ⟨_,_,rfl⟩<;>rfl
      ·rw[(Kw hi h3).1]
  obtain⟨e,s',h1,h2⟩:=key n s s1 ha hx
  exact⟨e,s',by simp only[exec];exact h1,h2⟩
 | exit id=>
  intro hok s s1 s1' e1 ha hx hb
  simp only[okC,Nat.blt_eq]at hok
  simp only[vI,exec,Option.some.injEq,Prod.mk.injEq]at hx
  obtain⟨rfl,rfl⟩:=hx
  exact⟨.ext id,s,rfl,zhd (by omega) ha⟩
 | ret=>
  intro _ s s1 s1' e1 ha hx hb
  cases d with
  | false=>
   simp only[vI,exec,Option.some.injEq,Prod.mk.injEq]at hx
   obtain⟨rfl,rfl⟩:=hx
   exact⟨.ret,s,rfl,rfl,rfl,ha⟩
  | true=>
   simp only[vI,exec,runOps,opC,yA,opR,opX,opD,ev,zC,Rv.to,St.set,St.put,Option.some.injEq,Prod.mk.injEq]at hx
   obtain⟨rfl,rfl⟩:=hx
   refine⟨.ret,s,rfl,Jt ⟨⟨ha.core,fun u hu => ?_⟩,.inr ⟨rfl,?_,rfl⟩⟩⟩
   ·have hlt:=wH hh hu
    rw[yr (by simp[hu]),get_put,if_neg (by omega)]
    exact ha.tm u hlt
   ·rw[yr (by simp),get_put,if_pos rfl]
end
/-! calls -/
theorem za7(fn:Fn)(st s:St)(d:D)(tm:Tm):leave fn st { s with tm:=tm } d=leave fn st s d:=by
 unfold leave
 simp only[zcO]
theorem zd8{fn:Fn}(hgv:fn.gv=false)(st s:St)(b:Bool)(d:D):leave fn st s (.tup [.bool b,d])=(.tup [.bool b,(leave fn st s d).1],(leave fn st s d).2):=by
 unfold leave
 rw[hgv]
 simp only[zF,if_false,D.cl,clL,D.pure,pureL,D.refs,refsL,List.nil_append,List.append_nil,Bool.true_and,Bool.and_true]
 split
 ·rfl
 ·split<;>rfl
theorem zeU{E:Env}{s s1:St}{U:Nat→Prop}(ha:Agree U s s1){res:List R}(hr : ∀ r∈res,U (match r with | .tmp t=>t | .cell t _ _=>t)):qm s res=qm s1 res:=by
 induction res with
 | nil=>rfl
 | cons r l ih=>
  have h1:=hr r (by simp)
  have ih:=ih (fun x hx=>hr x (by simp[hx]))
  cases r with
  | tmp t=>simp only[qm,ih,ha.tm t h1]
  | cell t ag sz=>
   have hl : ∀ a,wE s ag sz a=wE s1 ag sz a:=by
    intro a
    rw[ha.core]
    cases a<;>rfl
   simp only[qm,ih,ha.tm t h1,hl]
def J5(res:List R)(p:Nat→Bool):Bool:=res.all fun r=>match r with | .tmp t=>p t | .cell t _ _=>p t
/-- a function with panics as values, and the one without -/
structure ZR(m:Nat→Bool)(fn fn1:Fn):Prop where
 np:fn1.np=fn.np
 res:fn1.res=fn.res
 raw:fn1.raw=fn.raw
 gv:fn1.gv=fn.gv
 ok:okC fn.body=true
 low:J5 fn.res (fun t=>Nat.blt t zi)=true
def zmG(m:Nat→Bool)(hs:List Nat)(g1:Nat)(q:List X×Fn)(body:C):C:=
 .seq (.blk zi (.seq (vI m hs true body) (.seq (.reg [⟨some zi,.mv (.k .nili),none⟩] (zi::hs)) (.exit zi)))) (.reg [⟨none,.call g1 (q.1++[.s zi]),none⟩] hs)
structure zcc(E E1:Env)(m:Nat→Bool):Prop where
 gl:E1.gl=E.gl
 dfr : ∀ f,E1.dfr f=none
 ext : ∀ f x,E1.ext f=some x→f<wT∧E.ext f=some x
 fn : ∀ f fn1,f<wT→E1.ext f=none→E1.fn f=some fn1→E.ext f=none ∧ ∃ fn,E.fn f=some fn∧ZR m fn fn1∧match E.dfr f with
  | none=>fn1.body=vI m [] false fn.body
  | some q => ∃ hs xs g1 h1,q.1=xs.map X.s∧low hs=true∧low xs=true∧(∀ x∈xs,x∈hs)∧J5 fn.res (fun t=>has hs t)=true∧fn1.body=zmG m hs g1 q fn.body∧wT≤g1∧g1<zi∧E1.fn g1=some h1∧ZR m q.2 h1∧q.2.res=[]∧q.2.gv=false∧h1.body=vI m [] false q.2.body
 pn : ∀ f fn1,E1.fn (f+zi)=some fn1→E.ext f=none∧E.dfr f=none∧f<wT ∧ ∃ fn,E.fn f=some fn∧ZR m fn fn1∧fn.gv=false∧fn1.body=vI m [] false fn.body
 ps : ∀ f fn1,wT≤f→f<zi→E1.fn f=some fn1 → ∃ fn,ZR m fn fn1∧fn1.body=vI m [] false fn.body
theorem Agree.refl(U:Nat→Prop)(s:St):Agree U s s:=⟨rfl,fun _ _=>rfl⟩
theorem QG{res:List R}{p:Nat→Bool}(h:J5 res p=true) : ∀ r∈res,p (match r with | .tmp t=>t | .cell t _ _=>t)=true:=by
 intro r hr
 have:=List.all_eq_true.1 h r hr
 cases r<;>exact this
section
variable {E E1:Env} {m:Nat→Bool} (hP:zcc E E1 m)
theorem zaZ(hP:zcc E E1 m){n:Nat}(ih:ZU (call E n) (call E1 n)){fn fn1:Fn}(hs:ZR m fn fn1){hs':List Nat}(hl:low hs'=true)(d:Bool){ds:List D}{st s1:St}{e1:Ex}(h:exec E1 (call E1 n) n (vI m hs' d fn.body) (enter fn1 ds st)=some (e1,s1))(hb:e1 ≠ .ext Vz) :
  ∃ e s,exec E (call E n) n fn.body (enter fn ds st)=some (e,s)∧zax hs' d e s e1 s1:=by
 have he:enter fn1 ds st=enter fn ds st:=by unfold enter;rw[hs.raw]
 rw[he]at h
 exact zhi hP.gl ih (zaT E n) Fq.call hl d fn.body hs.ok _ _ _ _ (Agree.refl _ _) h hb
theorem zcF(hP:zcc E E1 m){f f1:Nat}{fn fn1:Fn}(hs:ZR m fn fn1){U:Nat→Prop}{ds:List D}{st s s1:St}(ha:Agree U s s1)(hr : ∀ r∈fn.res,U (match r with | .tmp t=>t | .cell t _ _=>t))(hw : ∀ d,jo f d=d)(hw1 : ∀ d,jo f1 d=d):qo f fn ds st s=qo f1 fn1 ds st s1:=by
 unfold qo
 have hh:home fn1 ds st=home fn ds st:=by unfold home;rw[hs.raw]
 rw[hs.res,zeU (E:=E) ha hr,hh]
 have hl : ∀ d,leave fn (home fn ds st) s d=leave fn1 (home fn ds st) s1 d:=by
  intro d
  rw[ha.core,za7]
  unfold leave
  rw[hs.gv,hs.raw]
 simp only[hw,hw1,hl]
theorem zmw(hP:zcc E E1 m)(n:Nat):ZU (call E n) (call E1 n):=by
 induction n using Nat.strongRecOn with
 | ind n ih=>
 cases n with
 | zero=>exact⟨fun f ds st q _ h=>by simp[call]at h,fun f ds st d st' h=>by simp[call]at h,fun f ds st q h=>by simp[call]at h⟩
 | succ n=>
 have ihn:=ih n (Nat.lt_succ_self n)
 have hpN:zi=1000000:=rfl
 have hdN:wT=500000:=rfl
 refine⟨fun f ds st q hf h => ?_,fun f ds st d st' h => ?_,fun f ds st q h => ?_⟩
 ·-- a function as it was
  rw[call]at h ⊢
  have hw : ∀ d,jo f d=d:=fun d=>by unfold jo;rw[if_neg (by omega)]
  cases hx:E1.ext f with
  | some x=>
   rw[(hP.ext f x hx).2]
   rw[hx]at h
   cases x<;>exact h
  | none=>
   rw[hx]at h
   simp only[zA]at h
   obtain⟨fn1,hfn1,h⟩:=h
   obtain⟨hxe,fn,hfn,hsf,hd⟩:=hP.fn f fn1 hf hx hfn1
   rw[hxe,hfn]
   simp only[zD]
   cases hdf:E.dfr f with
   | none=>
    rw[hdf]at hd
    simp only at hd
    rw[hd]at h
    cases he:exec E1 (call E1 n) n (vI m [] false fn.body) (enter fn1 ds st)with
    | none=>rw[he]at h;simp[xg]at h
    | some w=>
     obtain⟨e1,s1⟩:=w
     rw[he]at h
     have hb:e1 ≠ .ext Vz:=by
      rintro rfl
      simp only[xg]at h
      rw[if_neg (by omega)]at h
      contradiction
     obtain⟨e,s,h1,h2⟩:=zaZ hP ihn hsf (hs':=[]) rfl false he hb
     rw[h1]
     have hlow:=QG hsf.low
     cases e1 with
     | nrm=>
      obtain⟨rfl,ha⟩:=h2
      simp only[xg,hP.dfr]at h
      simp only[xg,hdf]
      rw[zcF hP hsf ha (fun r hr=>by have:=hlow r hr;rw[Nat.blt_eq]at this;exact this) hw hw];exact h
     | ret=>
      obtain⟨_,rfl,ha⟩:=h2
      simp only[xg,hP.dfr]at h
      simp only[xg,hdf]
      rw[zcF hP hsf ha (fun r hr=>by have:=hlow r hr;rw[Nat.blt_eq]at this;exact this) hw hw];exact h
     | pan d=>exact h2.elim
     | ext i=>
      simp only[xg]at h
      rw[if_neg (by omega)]at h
      contradiction
   | some q'=>
    rw[hdf]at hd
    obtain⟨hs,xs,g1,h1,hqx,hlh,hlx,hxh,hrh,hbd,hg1,hg2,hfg,hsg,hqr,hqg,hbg⟩:=hd
    rw[hbd]at h
    -- the body, with whatever way out
    have body : ∀ s2 r,exec E1 (call E1 n) n (.blk zi (.seq (vI m hs true fn.body) (.seq (.reg [⟨some zi,.mv (.k .nili),none⟩] (zi::hs)) (.exit zi)))) (enter fn1 ds st)=some (r,s2)→(r = .nrm ∧ ∃ v e s,exec E (call E n) n fn.body (enter fn ds st)=some (e,s)∧get s2.tm zi=some v∧Agree (fun t=>t∈hs) s s2∧(e = .pan v∨(e = .nrm∨e = .ret)∧v = .nili))∨(∃ i,r = .ext i∧i≠zi):=by
     intro s2 r hx
     simp only[exec]at hx
     cases he:exec E1 (call E1 n) n (vI m hs true fn.body) (enter fn1 ds st)with
     | none=>rw[he]at hx;simp at hx
     | some w=>
      obtain⟨e1,s1⟩:=w
      rw[he]at hx
      by_cases hb:e1 = .ext Vz
      ·subst hb
       simp only at hx
       rw[if_neg (by decide)]at hx
       simp only[Option.some.injEq,Prod.mk.injEq]at hx
       exact .inr ⟨Vz,hx.1.symm,by decide⟩
      ·obtain⟨e,s,h2,h3⟩:=zaZ hP ihn hsf hlh true he hb
       cases e1 with
       | nrm=>
        obtain⟨rfl,ha⟩:=h3
        simp only[runOps,opC,yA,opR,opX,opD,ev,zC,Rv.to,St.set,St.put,if_true,Option.some.injEq,Prod.mk.injEq]at hx
        obtain⟨rfl,rfl⟩:=hx
        refine .inl ⟨rfl,.nili,_,s,h2,?_,⟨ha.core,fun t ht => ?_⟩,.inr ⟨.inl rfl,rfl⟩⟩
        ·rw[yr (by simp),get_put,if_pos rfl]
        ·have hlt:=wH hlh ht
         rw[yr (by simp[ht]),get_put,if_neg (by omega)]
         exact ha.tm t hlt
       | ret=>exact absurd h3.1 (by simp)
       | pan d=>exact h3.elim
       | ext i=>
        simp only at hx
        by_cases hi:i=zi
        ·subst hi
         rw[if_pos rfl]at hx
         simp only[Option.some.injEq,Prod.mk.injEq]at hx
         obtain⟨rfl,rfl⟩:=hx
         obtain⟨ha,h4⟩:=Y3 h3
         rcases h4 with⟨t,x,h5,rfl⟩ | ⟨_,h5,rfl⟩
         ·exact .inl ⟨rfl,_,_,s,h2,h5,ha,.inl rfl⟩
         ·exact .inl ⟨rfl,_,_,s,h2,h5,ha,.inr ⟨.inr rfl,rfl⟩⟩
        ·rw[if_neg hi]at hx
         simp only[Option.some.injEq,Prod.mk.injEq]at hx
         exact .inr ⟨i,hx.1.symm,hi⟩
    unfold zmG at h
    cases hB:exec E1 (call E1 n) n (.blk zi (.seq (vI m hs true fn.body) (.seq (.reg [⟨some zi,.mv (.k .nili),none⟩] (zi::hs)) (.exit zi)))) (enter fn1 ds st)with
    | none=>
     have:exec E1 (call E1 n) n (.seq (.blk zi (.seq (vI m hs true fn.body) (.seq (.reg [⟨some zi,.mv (.k .nili),none⟩] (zi::hs)) (.exit zi)))) (.reg [⟨none,.call g1 (q'.1++[.s zi]),none⟩] hs)) (enter fn1 ds st)=none:=kL hB (by simp)
     rw[this]at h;simp[xg]at h
    | some w=>
     obtain⟨r,s2⟩:=w
     rcases body s2 r hB with⟨rfl,v,e,s,h2,hv,ha,hev⟩ | ⟨i,rfl,hi⟩
     rotate_left
     ·have:exec E1 (call E1 n) n (.seq (.blk zi (.seq (vI m hs true fn.body) (.seq (.reg [⟨some zi,.mv (.k .nili),none⟩] (zi::hs)) (.exit zi)))) (.reg [⟨none,.call g1 (q'.1++[.s zi]),none⟩] hs)) (enter fn1 ds st)=some (.ext i,s2):=kL hB (by simp)
      rw[this]at h
      simp only[xg]at h
      rw[if_neg (by omega)]at h
      contradiction
     rw[exec,hB]at h
     simp only[exec,runOps,opC,yA,opR,opX]at h
     -- what is handed over
     have hargs : ∀ l1,evL E1 s2.tm (q'.1++[.s zi])=some l1 → ∃ l,evL E s.tm q'.1=some l∧l1=l++[v]:=by
      rw[hqx,Ki hP.gl]
      have hm : ∀ x∈xs,get s2.tm x=get s.tm x:=fun x hx=>ha.tm x (hxh x hx)
      clear hqx hxh hlx
      induction xs with
      | nil=>
       intro l1 h1
       simp only[List.map_nil,List.nil_append,evL,ev,hv,zD,Option.some.injEq]at h1
       exact⟨[],rfl,h1.symm⟩
      | cons x xs ihx=>
       intro l1 h1
       simp only[List.map_cons,List.cons_append,evL,zA]at h1
       obtain⟨d,hd,l',hl',hh⟩:=h1
       injection hh with hh;subst hh
       obtain⟨l,hl,rfl⟩:=ihx (fun y hy=>hm y (by simp[hy])) l' hl'
       refine⟨d::l,?_,rfl⟩
       have hd:get s2.tm x=some d:=hd
       simp only[List.map_cons,evL,ev,← hm x (by simp),hd,zD,hl]
     cases hl1:evL E1 s2.tm (q'.1++[.s zi])with
     | none=>rw[hl1]at h;simp[xg]at h
     | some l1=>
      obtain⟨l,hl,rfl⟩:=hargs l1 hl1
      rw[hl1]at h
      simp only[zD]at h
      cases hcg:call E1 n g1 (l++[v]) s2 with
      | none=>rw[hcg]at h;simp[xg]at h
      | some w=>
       rw[hcg]at h
       -- the deferred call itself
       have hdc : ∃ x,w.1 = .ret x∧dfrRun E (call E n) n q' s v=some { w.2 with tm:=s.tm }:=by
        cases n with
        | zero=>simp[call]at hcg
        | succ k=>
         rw[call]at hcg
         have hxg:E1.ext g1=none:=by
          cases hq:E1.ext g1 with
          | none=>rfl
          | some x=>have:=(hP.ext g1 x hq).1;omega
         rw[hxg,hfg]at hcg
         simp only[zD]at hcg
         rw[hbg]at hcg
         cases hxx:exec E1 (call E1 k) k (vI m [] false q'.2.body) (enter h1 (l++[v]) s2)with
         | none=>rw[hxx]at hcg;simp[xg]at hcg
         | some z=>
          obtain⟨e3,s3⟩:=z
          rw[hxx]at hcg
          have hb:e3 ≠ .ext Vz:=by
           rintro rfl
           simp only[xg]at hcg
           rw[if_neg (by omega)]at hcg
           contradiction
          obtain⟨e4,s4,h5,h6⟩:=zaZ hP (ih k (by omega)) hsg (hs':=[]) rfl false hxx hb
          have hent:enter q'.2 (l++[v]) s2=enter q'.2 (l++[v]) s:=by
           have:=zgN q'.2 (l++[v]) s2 s.tm
           rw[← ha.core]at this
           exact this.symm
          rw[hent]at h5
          have h5':=jl (yT E (Nat.le_succ k)) (Nat.le_succ k) h5
          have hhome:home h1 (l++[v]) s2=home q'.2 (l++[v]) s2:=by unfold home;rw[hsg.raw]
          have hlv : ∀ d,leave h1 (home q'.2 (l++[v]) s2) s3 d=leave q'.2 (home q'.2 (l++[v]) s2) s3 d:=by
           intro d;unfold leave;rw[hsg.gv,hsg.raw]
          have fin:Agree YA s4 s3→qo g1 h1 (l++[v]) s2 s3=some w→(e4 = .nrm∨e4 = .ret) → ∃ x,w.1 = .ret x∧dfrRun E (call E (k+1)) (k+1) q' s v=some { w.2 with tm:=s.tm }:=by
           intro hag hr hee
           have hw1 : ∀ d,jo g1 d=d:=fun d=>by unfold jo;rw[if_neg (by omega)]
           simp only[qo,hsg.res,hqr,qm,zC,hw1,one,hhome,hlv,Option.some.injEq]at hr
           subst hr
           refine⟨_,rfl,?_⟩
           have hf:(leave q'.2 (home q'.2 (l++[v]) s) s4 (.tup [])).2={ (leave q'.2 (home q'.2 (l++[v]) s2) s3 (.tup [])).2 with tm:=s.tm }:=by
            have e1:s={ s2 with tm:=s.tm }:=ha.core
            have e2:s4={ s3 with tm:=s4.tm }:=hag.core
            rw[e2,za7]
            conv=>lhs;rw[e1]
            rw[Xp,Zz]
           unfold dfrRun
           rw[hl]
           simp only[zD]
           rw[h5']
           rcases hee with rfl | rfl<;>simp only[hf]
          cases e3 with
          | nrm=>
           obtain⟨rfl,hag⟩:=h6
           simp only[xg,hP.dfr]at hcg
           exact fin hag hcg (.inl rfl)
          | ret=>
           obtain⟨_,rfl,hag⟩:=h6
           simp only[xg,hP.dfr]at hcg
           exact fin hag hcg (.inr rfl)
          | pan d=>exact h6.elim
          | ext i=>
           simp only[xg]at hcg
           rw[if_neg (by omega)]at hcg
           contradiction
       obtain⟨x,hw1,hdr⟩:=hdc
       obtain⟨o,s5⟩:=w
       simp only at hw1 hdr
       subst hw1
       simp only[zC,outV,Rv.to,St.set,St.put,xg,hP.dfr]at h
       have htm5:s5.tm=s2.tm:=(Fq.call (E:=E1) _ _ _ _ _ hcg).tm
       have hag:Agree (fun t=>t∈hs) { s5 with tm:=s.tm } { s5 with tm:=kept hs s5.tm }:=by
        refine⟨rfl,fun t ht => ?_⟩
        show get (kept hs s5.tm) t=get s.tm t
        rw[yr ht,htm5]
        exact ha.tm t ht
       have hres:qo f fn ds st { s5 with tm:=s.tm }=some q:=by
        rw[zcF hP hsf hag (fun r hr=>qV.1 (QG hrh r hr)) hw hw];exact h
       rw[h2]
       rcases hev with rfl | ⟨hev | hev,rfl⟩
       ·simp only[xg,hdf,hdr,zD];exact hres
       ·subst hev
        simp only[xg,hdf,hdr,zD];exact hres
       ·subst hev
        simp only[xg,hdf,hdr,zD];exact hres
 ·-- nothing panics
  rw[call]at h
  have np : ∀ {c:C} {hs':List Nat} {b:Bool} {s s':St} {x:D},okC c=true→low hs'=true→exec E1 (call E1 n) n (vI m hs' b c) s=some (.pan x,s')→False:=by
   intro c hs' b s s' x hok hl hx
   obtain⟨e,s2,_,h2⟩:=zhi hP.gl ihn (zaT E n) Fq.call hl b c hok s s s' (.pan x) (Agree.refl _ _) hx (by simp)
   exact h2
  have ends : ∀ {fn1:Fn} {w:Option (Ex×St)},(∀ x s',w≠some (.pan x,s'))→xg E1 (call E1 n) n f fn1 ds st w=some (.pan d,st')→False:=by
   intro fn1 w hw h
   match w,hw with
   | none,_=>simp[xg]at h
   | some (.pan x,s'),hw=>exact hw x s' rfl
   | some (.nrm,s'),_=>simp[xg,hP.dfr,qo]at h
   | some (.ret,s'),_=>simp[xg,hP.dfr,qo]at h
   | some (.ext i,s'),_=>
    simp only[xg]at h
    split at h
    ·simp at h
    ·contradiction
  cases hx:E1.ext f with
  | some x=>rw[hx]at h;cases x<;>simp at h
  | none=>
   rw[hx]at h
   simp only[zA]at h
   obtain⟨fn1,hfn1,h⟩:=h
   refine ends (fun x s' he => ?_) h
   rcases Nat.lt_or_ge f wT with hf | hf
   ·obtain⟨_,fn,_,hsf,hd⟩:=hP.fn f fn1 hf hx hfn1
    split at hd
    ·rw[hd]at he;exact np hsf.ok rfl he
    ·obtain⟨hs,xs,g1,h1,hqx,hlh,hlx,hxh,hrh,hbd,_⟩:=hd
     rw[hbd]at he
     unfold zmG at he
     simp only[exec]at he
     split at he
     ·next s2 hb=>
      simp only[runOps]at he
      split at he
      ·next s3 ho=>
       split at ho
       ·simp at he
       ·next hne=>simp at he
      ·next d' s3 ho=>
       simp only[Option.some.injEq,Prod.mk.injEq]at he
       split at ho
       ·simp at ho
       ·next hne=>
        simp only[opC,yA,opR,opX,zB,zA]at ho
        obtain⟨w,⟨l,hl,⟨o,s4⟩,hcl,rfl⟩,hv⟩:=ho
        cases o with
        | ret y=>simp[outV,Rv.to]at hv
        | pan y=>exact ihn.np _ _ _ _ _ hcl
      ·contradiction
     ·next hne=>
      -- from within
      cases hB:exec E1 (call E1 n) n (vI m hs true fn.body) (enter fn1 ds st)with
      | none=>rw[hB]at he;simp at he
      | some w=>
       obtain⟨e1,s1⟩:=w
       rw[hB]at he
       cases e1 with
       | pan y=>exact np hsf.ok hlh hB
       | ret=>simp at he
       | nrm=>
        simp only[runOps,opC,yA,opR,opX,opD,ev,zC,Rv.to]at he
        simp at he
       | ext i=>
        simp only at he
        split at he<;>simp at he
   ·rcases Nat.lt_or_ge f zi with hf2 | hf2
    ·obtain⟨fn,hsf,hbd⟩:=hP.ps f fn1 hf hf2 hfn1
     rw[hbd]at he;exact np hsf.ok rfl he
    ·obtain⟨g,rfl⟩ : ∃ g,f=g+zi:=⟨f - zi,by omega⟩
     obtain⟨_,_,_,fn,_,hsf,_,hbd⟩:=hP.pn g fn1 hfn1
     rw[hbd]at he;exact np hsf.ok rfl he
 ·-- a function that yields its panic
  rw[call]at h ⊢
  have hxe:E1.ext (f+zi)=none:=by
   cases hq:E1.ext (f+zi)with
   | none=>rfl
   | some x=>have:=(hP.ext _ x hq).1;omega
  rw[hxe]at h
  simp only[zA]at h
  obtain⟨fn1,hfn1,h⟩:=h
  obtain⟨hx,hdf,hf,fn,hfn,hsf,hgv,hbd⟩:=hP.pn f fn1 hfn1
  rw[hx,hfn]
  simp only[zD]
  rw[hbd]at h
  have hw : ∀ d,jo f d=d:=fun d=>by unfold jo;rw[if_neg (by omega)]
  have hw1 : ∀ d,jo (f+zi) d = .tup [.bool true,d]:=fun d=>by unfold jo;rw[if_pos (by omega)]
  have hh:home fn1 ds st=home fn ds st:=by unfold home;rw[hsf.raw]
  have hlv : ∀ s d,leave fn1 (home fn ds st) s d=leave fn (home fn ds st) s d:=by
   intro s d;unfold leave;rw[hsf.gv,hsf.raw]
  cases he:exec E1 (call E1 n) n (vI m [] false fn.body) (enter fn1 ds st)with
  | none=>rw[he]at h;simp[xg]at h
  | some w=>
   obtain⟨e1,s1⟩:=w
   rw[he]at h
   have hb:e1 ≠ .ext Vz:=by
    rintro rfl
    simp only[xg]at h
    rw[if_neg (by intro hc;exact absurd hc.1 (by decide))]at h
    contradiction
   obtain⟨e,s,h1,h2⟩:=zaZ hP ihn hsf (hs':=[]) rfl false he hb
   rw[h1]
   have hlow:=QG hsf.low
   have fin:Agree YA s s1→qo (f+zi) fn1 ds st s1=some q → ∃ b d st',q=(.ret (.tup [.bool b,d]),st')∧qo f fn ds st s=some (if b=true then .ret d else .pan d,st')∧(b=false → ∃ t x,d = .iface t x):=by
    intro ha hr
    have hl : ∀ d,leave fn (home fn ds st) s d=leave fn (home fn ds st) s1 d:=by
     intro d;rw[ha.core,za7]
    have hro:qm s fn.res=qm s1 fn.res:=zeU (E:=E) ha (fun r hr=>by have:=hlow r hr;rw[Nat.blt_eq]at this;exact this)
    simp only[qo,hsf.res,hh,hlv,hw1,zd8 hgv,zB]at hr
    obtain⟨l,hl1,rfl⟩:=hr
    refine⟨true,_,_,rfl,?_,by simp⟩
    simp only[qo,hro,hl1,hw,hl,zC,if_true]
   cases e1 with
   | nrm=>
    obtain⟨rfl,ha⟩:=h2
    simp only[xg,hP.dfr]at h
    simp only[xg,hdf]
    exact fin ha h
   | ret=>
    obtain⟨_,rfl,ha⟩:=h2
    simp only[xg,hP.dfr]at h
    simp only[xg,hdf]
    exact fin ha h
   | pan d=>exact h2.elim
   | ext i=>
    simp only[xg]at h
    by_cases hi:i=zi
    ·subst hi
     rw[if_pos ⟨rfl,by omega⟩]at h
     obtain⟨ha,h4⟩:=Y3 h2
     rcases h4 with⟨t,x,h5,rfl⟩ | ⟨hf,_⟩
     ·rw[h5]at h
      simp only[zC,hh,hlv,zd8 hgv,Option.some.injEq]at h
      subst h
      have hl : ∀ d,leave fn (home fn ds st) s d=leave fn (home fn ds st) s1 d:=by
       intro d;rw[ha.core,za7]
      refine⟨false,_,_,rfl,?_,fun _ => ?_⟩
      ·simp only[xg,hdf,hl,zF,if_false]
      ·unfold leave
       rw[hgv]
       simp only[zF,if_false]
       split
       ·exact⟨_,_,rfl⟩
       ·split<;>exact⟨_,_,rfl⟩
     ·simp at hf
    ·rw[if_neg (fun hc=>hi hc.1)]at h
     contradiction
/-- without fuel -/
theorem zl4(hP:zcc E E1 m){f:Nat}(hf:f<wT){ds:List D}{st:St}{q:Out×St}(h:zu E1 f ds st=some q):zu E f ds st=some q:=by
 obtain⟨n,hn⟩:=wc.1 h
 exact wc.2 ⟨n,(zmw hP n).pl f ds st q hf hn⟩
end
/-! tables -/
def ziP(fn:Fn):Bool:=okC fn.body && J5 fn.res (fun t=>Nat.blt t zi)
def zm6(m:Nat→Bool)(fn:Fn):Fn:=⟨fn.np,fn.res,fn.raw,fn.gv,vI m [] false fn.body⟩
theorem Y8{m:Nat→Bool}{fn:Fn}(h:ziP fn=true):ZR m fn (zm6 m fn):=by
 simp only[ziP,zG]at h
 exact⟨rfl,rfl,rfl,rfl,h.1,h.2⟩
def Ent(E E1:Env)(m:Nat→Bool)(f:Nat)(fn1:Fn):Prop:=
 (f<wT∧E.ext f=none ∧ ∃ fn,E.fn f=some fn∧ZR m fn fn1∧match E.dfr f with
  | none=>fn1.body=vI m [] false fn.body
  | some q => ∃ hs xs g1 h1,q.1=xs.map X.s∧low hs=true∧low xs=true∧(∀ x∈xs,x∈hs)∧J5 fn.res (fun t=>has hs t)=true∧fn1.body=zmG m hs g1 q fn.body∧wT≤g1∧g1<zi∧E1.fn g1=some h1∧ZR m q.2 h1∧q.2.res=[]∧q.2.gv=false∧h1.body=vI m [] false q.2.body) ∨
 (wT≤f∧f<zi ∧ ∃ fn,ZR m fn fn1∧fn1.body=vI m [] false fn.body) ∨
 (∃ g,f=g+zi∧E.ext g=none∧E.dfr g=none∧g<wT ∧ ∃ fn,E.fn g=some fn∧ZR m fn fn1∧fn.gv=false∧fn1.body=vI m [] false fn.body)
section
variable {E E1:Env} {m:Nat→Bool}
theorem Ent.pl{f:Nat}{fn1:Fn}(fn:Fn)(hf:Nat.blt f wT=true)(hx:E.ext f=none)(hn:E.fn f=some fn)(hd:E.dfr f=none)(hs:fn1=zm6 m fn)(ho:ziP fn=true):Ent E E1 m f fn1:=by
 subst hs
 refine .inl ⟨by simpa using hf,hx,fn,hn,Y8 ho,?_⟩
 rw[hd];rfl
theorem Ent.ps{f:Nat}{fn1:Fn}(fn:Fn)(h1:Nat.ble wT f=true)(h2:Nat.blt f zi=true)(hs:fn1=zm6 m fn)(ho:ziP fn=true):Ent E E1 m f fn1:=by
 subst hs
 exact .inr (.inl ⟨by simpa using h1,by simpa using h2,fn,Y8 ho,rfl⟩)
theorem Ent.pn{f:Nat}{fn1:Fn}(g:Nat)(fn:Fn)(hg:f=g+zi)(hf:Nat.blt g wT=true)(hx:E.ext g=none)(hn:E.fn g=some fn)(hd:E.dfr g=none)(hgv:fn.gv=false)(hs:fn1=zm6 m fn)(ho:ziP fn=true):Ent E E1 m f fn1:=by
 subst hs
 exact .inr (.inr ⟨g,hg,hx,hd,by simpa using hf,fn,hn,Y8 ho,hgv,rfl⟩)
def zsp(xs hs:List Nat):Bool:=xs.all fun x=>has hs x
theorem Ent.df{f:Nat}{fn1:Fn}(fn:Fn)(q:List X×Fn)(hs xs:List Nat)(g1:Nat)(h1:Fn)(hf:Nat.blt f wT=true)(hx:E.ext f=none)(hn:E.fn f=some fn)(hd:E.dfr f=some q)(hq:q.1=xs.map X.s)(hk:(low hs && low xs && zsp xs hs && J5 fn.res (fun t=>has hs t) && Nat.ble wT g1 && Nat.blt g1 zi && ziP fn && ziP q.2)=true)
  (hb:fn1=⟨fn.np,fn.res,fn.raw,fn.gv,zmG m hs g1 q fn.body⟩) (h1n:E1.fn g1=some h1) (hh:h1=zm6 m q.2) (hr:q.2.res=[]) (hgv:q.2.gv=false):Ent E E1 m f fn1:=by
 subst hb hh
 simp only[zG]at hk
 obtain⟨⟨⟨⟨⟨⟨⟨k1,k2⟩,k3⟩,k4⟩,k5⟩,k6⟩,k7⟩,k8⟩:=hk
 have hok:=Y8 (m:=m) k7
 refine .inl ⟨by simpa using hf,hx,fn,hn,⟨rfl,rfl,rfl,rfl,hok.ok,hok.low⟩,?_⟩
 rw[hd]
 exact⟨hs,xs,g1,_,hq,k1,k2,fun x hx=>qV.1 (List.all_eq_true.1 k3 x hx),k4,rfl,by simpa using k5,by simpa using k6,h1n,Y8 k8,hr,hgv,rfl⟩
def Ents(E E1:Env)(m:Nat→Bool)(l:List (Nat×Fn)):Prop := ∀ p∈l,Ent E E1 m p.1 p.2
theorem Ents.nil:Ents E E1 m []:=fun p hp=>by simp at hp
theorem Ents.cons{f:Nat}{fn:Fn}{l:List (Nat×Fn)}(h:Ent E E1 m f fn)(hl:Ents E E1 m l):Ents E E1 m ((f,fn)::l):=by
 intro p hp
 rcases List.mem_cons.1 hp with rfl | hp
 ·exact h
 ·exact hl p hp
theorem zn3{l:List (Nat×Fn)}(hl:Ents E E1 m l)(h1:E1.fn=look l)(hg:E1.gl=E.gl)(hd : ∀ f,E1.dfr f=none)(hx : ∀ f x,E1.ext f=some x→f<wT∧E.ext f=some x):zcc E E1 m where
 gl:=hg
 dfr:=hd
 ext:=hx
 fn f fn1 hf _ hn:=by
  rw[h1]at hn
  have hpN:zi=1000000:=rfl
  have hdN:wT=500000:=rfl
  rcases hl _ (Jk hn)with h | h | h
  ·exact⟨h.2.1,h.2.2⟩
  ·have:=h.1;omega
  ·obtain⟨g,hg,_⟩:=h;omega
 pn f fn1 hn:=by
  rw[h1]at hn
  have hpN:zi=1000000:=rfl
  have hdN:wT=500000:=rfl
  rcases hl _ (Jk hn)with h | h | h
  ·have:=h.1;omega
  ·have:=h.2.1;omega
  ·obtain⟨g,hg,h⟩:=h
   have:f=g:=by omega
   subst this
   exact h
 ps f fn1 hf hf2 hn:=by
  rw[h1]at hn
  have hpN:zi=1000000:=rfl
  have hdN:wT=500000:=rfl
  rcases hl _ (Jk hn)with h | h | h
  ·have:=h.1;omega
  ·exact h.2.2
  ·obtain⟨g,hg,_⟩:=h;omega
end
end Go.Ev
end
section
namespace Go.Ev
inductive V where
 | bool (b:Bool)
 | int (k:IntKind) (n:Int)
 | float (k:FloatKind) (b:Nat)
 | str (s:List UInt8)
 | nilp | nilf | nili
 | sl (xs:List V)
 | agg (xs:List V)
 | tup (xs:List V)
 | fn (f:Nat) (cap:List V)
 | iface (t:Nat) (x:V)
mutual
def V.toD:V→D
 | .bool b => .bool b
 | .int k n => .int k n
 | .float k b => .float k b
 | .str s => .str s
 | .nilp => .nilp
 | .nilf => .nilf
 | .nili => .nili
 | .sl xs => .sl .no xs.length (flatD xs)
 | .agg xs => .agg (toDL xs)
 | .tup xs => .tup (toDL xs)
 | .fn f c => .fn f (toDL c)
 | .iface t x => .iface t x.toD
def toDL:List V→List D
 | []=>[]
 | x::r=>x.toD::toDL r
def flatD:List V→List D
 | []=>[]
 | x::r=>x.toD.cells++flatD r
end
def V.parts:V→List V
 | .agg xs=>xs
 | x=>[x]
def V.one:V→Bool
 | .agg _ | .tup _=>false
 | _=>true
def yy:List V→Bool
 | []=>true
 | x::r=>x.one && yy r
/-- so many cells -/
def okN(n:Nat)(x:V):Bool:=Nat.beq x.parts.length n && yy x.parts
def yc(sz:Nat):List V→Bool
 | []=>true
 | x::r=>okN sz x && yc sz r
def tst{ρ:Type}(b:Bool)(k:Option ρ):Option ρ:=match b with | true=>k | false=>none
def asBool:V→Option Bool
 | .bool b=>some b
 | _=>none
def zaf:V→Option (List UInt8)
 | .str s=>some s
 | _=>none
def xk(sz:Nat):V→Option (List V)
 | .sl xs=>match yc sz xs with | true=>some xs | false=>none
 | _=>none
def zqw:V→Option (Nat×List V)
 | .fn f c=>some (f,c)
 | _=>none
def zn(x:V)(i:Nat):Option V:=x.parts[i]?
def zsl(x:V)(i:Nat):Option V:=match x with | .agg xs=>xs[i]? | _=>none
def We(x:V)(off sz:Nat):V := .agg ((x.parts.drop off).take sz)
def zrT(x:V)(off sz:Nat):Option V:=match x with | .agg xs=>if off+sz≤xs.length then some (.agg ((xs.drop off).take sz))else none | _=>none
def WJ:BinOp→IntKind→Int→Int→Option V
 | .add,k,a,b=>some (.int k (k.wrap (a+b)))
 | .sub,k,a,b=>some (.int k (k.wrap (a - b)))
 | .mul,k,a,b=>some (.int k (k.wrap (a * b)))
 | .quo,k,a,b=>if b=0 then none else some (.int k (k.wrap (a.tdiv b)))
 | .rem,k,a,b=>if b=0 then none else some (.int k (a.tmod b))
 | .and,k,a,b=>some (.int k (bits .and k a b))
 | .or,k,a,b=>some (.int k (bits .or k a b))
 | .xor,k,a,b=>some (.int k (bits .xor k a b))
 | .andNot,k,a,b=>some (.int k (bits .andNot k a b))
 | .eql,_,a,b=>some (.bool (a == b))
 | .neq,_,a,b=>some (.bool (a != b))
 | .lss,_,a,b=>some (.bool (decide (a<b)))
 | .leq,_,a,b=>some (.bool (decide (a≤b)))
 | .gtr,_,a,b=>some (.bool (decide (a > b)))
 | .geq,_,a,b=>some (.bool (decide (a ≥ b)))
 | .shl,k,a,b=>if b<0 then none else some (.int k (k.wrap (a * 2 ^ Nat.min b.toNat k.bits)))
 | .shr,k,a,b=>if b<0 then none else some (.int k (a.fdiv (2 ^ Nat.min b.toNat k.bits)))
def zqS:BinOp→List UInt8→List UInt8→Option V
 | .add,a,b=>if a.length+b.length≤9223372036854775807 then some (.str (a++b))else none
 | .eql,a,b=>some (.bool (a == b))
 | .neq,a,b=>some (.bool (!(a == b)))
 | .lss,a,b=>some (.bool (Op.bytesLess a b))
 | .leq,a,b=>some (.bool (Op.bytesLess a b || a == b))
 | .gtr,a,b=>some (.bool !(Op.bytesLess a b || a == b))
 | .geq,a,b=>some (.bool !(Op.bytesLess a b))
 | _,_,_=>none
def ze(op:BinOp):V→V→Option V
 | .int k a,.int k' b=>if Yu op || decide (k=k')then WJ op k a b else none
 | .str a,.str b=>zqS op a b
 | .float k a,.float k' b=>if k=k' then(zqn k op a b).map .bool else none
 | _,_=>none
def unV:UnOp→V→Option V
 | .neg,.int k n=>some (.int k (k.wrap (0 - n)))
 | .xor,.int k n=>some (.int k (bits .xor k (if k.signed then -1 else k.max) n))
 | .not,.bool b=>some (.bool !b)
 | _,_=>none
def VS(neg:Bool):V→Option V
 | .nili=>some (.bool (!neg))
 | .iface _ _=>some (.bool neg)
 | _=>none
def zqZ(t:Nat)(ok:Bool):V→Option V
 | .iface u x=>if u=t then some (if ok then .tup [x,.bool true]else x)else none
 | _=>none
def ZY(k:IntKind):V→Option V
 | .int _ n=>some (.int k (k.wrap n))
 | _=>none
def zrD:V→Option V
 | .str s=>some (.str s)
 | _=>none
def W5:List V→Option (List UInt8)
 | []=>some []
 | .int .u8 n::r=>(W5 r).bind fun l=>some (UInt8.ofNat n.toNat::l)
 | _=>none
def ZV(l:List UInt8):List V:=l.map fun b => .int .u8 b.toNat
def Kj(d:Option V)(dflt:Nat):Option Nat:=
 match d with
 | none=>some dflt
 | some (.int _ i)=>if 0≤i then some i.toNat else none
 | some _=>none
/-- low and high of a slice expression of what has n elements -/
def kT(l h:Option V)(n:Nat):Option (Nat×Nat):=
 (Kj l 0).bind fun l'=>(Kj h n).bind fun h'=>if l'≤h'∧h'≤n then some (l',h')else none
/-- low and high, the most as high as high -/
def zlZ(l h m:Option V)(n:Nat):Option (Nat×Nat):=
 (Kj l 0).bind fun l'=>(Kj h n).bind fun h'=>(Kj m n).bind fun m'=>if h.isSome=true∧l'≤h'∧h'=m'∧m'≤n then some (l',h')else none
/-- low, high and the most, of what has room for c -/
def zpq(l h m:Option V)(n c:Nat):Option (Nat×Nat×Nat):=
 (Kj l 0).bind fun l'=>(Kj h n).bind fun h'=>(Kj m c).bind fun m'=>if(m.isNone=true∨h.isSome=true)∧l'≤h'∧h'≤m'∧m'≤c then some (l',h',m')else none
def JB(x:V)(l h:Option V):Option V:=
 match x with
 | .str s=>(kT l h s.length).bind fun q=>some (.str ((s.drop q.1).take (q.2 - q.1)))
 | _=>none
def xP(i:V)(n:Nat):Option Nat:=
 match i with
 | .int _ i=>if 0≤i∧i<n then some i.toNat else none
 | _=>none
def zrs(ag:Bool)(n sz:Nat)(x i:V):Option V:=
 match x with
 | .agg xs=>(xP i n).bind fun i=>if ag then(if(i+1) * sz≤xs.length then some (.agg ((xs.drop (i * sz)).take sz))else none)else xs[i * sz]?
 | _=>none
def Zx(x i:V):Option V:=
 match x with
 | .str s=>(xP i s.length).bind fun i=>(s[i]?).bind fun b=>some (.int .u8 b.toNat)
 | _=>none
def zj(x:V)(i:Nat):Option V:=match x with | .tup xs=>xs[i]? | _=>none
def yX:V→Option Nat
 | .sl xs=>some xs.length
 | _=>none
def zaH:V→Option Nat
 | .str s=>some s.length
 | _=>none
def zgt:V→List V→Option V
 | .int k x,[]=>some (.int k x)
 | .int k x,.int k' y::r=>if k=k' then zgt (.int k (if y<x then y else x)) r else none
 | _,_=>none
def zhU:V→List V→Option V
 | .int k x,[]=>some (.int k x)
 | .int k x,.int k' y::r=>if k=k' then zhU (.int k (if x<y then y else x)) r else none
 | _,_=>none
def zfn(bytes:Nat)(n c:V):Option (Nat×Nat):=
 match n,c with
 | .int .i64 n,.int .i64 c=>if 0≤n∧n≤c∧c * bytes≤140737488355328∧c≤140737488355328 then some (n.toNat,c.toNat)else none
 | _,_=>none
def wy(bytes n m:Nat):Bool:=decide ((n+m) * bytes≤140737488355328) && decide (n+m≤140737488355328)
def zqI(bytes:Nat):V→Option Nat
 | .int .i64 m=>if 0≤m∧m≤140737488355328∧m.toNat * bytes≤140737488355328 then some m.toNat else none
 | _=>none
/-- an element of cells -/
def Wz:List V→V
 | [x]=>x
 | xs => .agg xs
/-- what a closure has caught: a value, a cell of a row -/
inductive CP where
 | v (x:V) | p (k off:Nat)
/-- what a slot or a cell holds: a value; a slice whose end is its own (a lineage, the cells of an element); one that has no room; an address in a row of cells; one in a row of elements; a slice into a row of elements; an address in cells that never change; one in an element of a slice; a closure -/
inductive PS where
 | v (x:V)
 | own (id sz:Nat) (xs:List V)
 | full (xs:List V)
 | ptr (k off:Nat)
 | ptrA (k sz i off:Nat)
 | ref (k sz off n c:Nat) (z:Bool)
 | el (cs:List V)
 | elx (sz:Nat) (x:V) (off:Nat)
 | fn (f:Nat) (cap:List CP)
inductive PD where
 | s (p:PS) | agg (ps:List PS)
/-- a row of elements: may be stored in; was handed over, so far as we know, or for sure: nothing is stored in it any more -/
inductive Fz where
 | no | may | yes
inductive RowC where
 | box (n:Nat) (x:V)
 | cells (ps:List PS)
 | arr (fz:Fz) (sz:Nat) (xs:List V)
 | iter (s:List UInt8) (pos:Nat)
 | bld (t e:Nat) (s:List UInt8)
 | dead
/-- ro: nothing is stored in it now -/
structure Row where
 ro:Bool
 c:RowC
abbrev PTm:=List (Nat×Bool×PD)
/-- lim: slices of lineages below it are not appended to now -/
structure PSt where
 tm:PTm
 rows:List Row
 ni:Nat
 lim:Nat
/-- o: a slice that may be appended to, whose room goes over; g: the result may be appended to; u: the first argument has no room -/
inductive PA where
 | v (x:V) | p (j off:Nat) | fn (f:Nat) (cap:List CP) | o (sz:Nat) (xs:List V) | g | u
abbrev PcT:=Nat→List PA→List (Bool×Nat×V)→Option (V×List V)
/-- how a function is called: as any; its result may be appended to; its first argument may be appended to, and its room goes over; its first argument is a slice that has no room; so, and the result may be appended to -/
inductive Md where
 | pl | gv (sz:Nat) | raw (sz:Nat) | ful | gvf (sz:Nat) | eff (e:Eff)
/-- tx: functions whose answer is told -/
structure Gl where
 g:Nat→Option (List V)
 md:Nat→Md
 tx:Nat→Option (List V→Option V)
def zb1:PTm→Nat→Option PD
 | [],_=>none
 | (i,_,d)::r,t=>match Nat.beq i t with | true=>some d | false=>zb1 r t
/-- a slot is written: none that is held -/
def zoE:PTm→Nat→PD→Option PTm
 | [],t,d=>some [(t,false,d)]
 | (i,f,e)::r,t,d=>match Nat.beq i t with
  | true=>match f with | true=>none | false=>some ((t,false,d)::r)
  | false=>match zoE r t d with | some r'=>some ((i,f,e)::r') | none=>none
def zk2:PTm→Nat→Option PTm
 | [],_=>some []
 | (i,f,e)::r,t=>match Nat.beq i t with
  | true=>match f with | true=>none | false=>zk2 r t
  | false=>match zk2 r t with | some r'=>some ((i,f,e)::r') | none=>none
def hasB:List Nat→Nat→Bool
 | [],_=>false
 | i::r,t=>match Nat.beq i t with | true=>true | false=>hasB r t
def VN(l:List Nat):PTm→PTm
 | []=>[]
 | (i,e)::r=>match hasB l i with | true=>(i,e)::VN l r | false=>VN l r
def setR(rows:List Row)(k:Nat)(r:Row):List Row:=rows.set k r
/-- a row that may be written -/
def zdQ(p:PSt)(k:Nat):Option RowC:=match p.rows[k]? with | some ⟨false,c⟩=>some c | _=>none
def J7(p:PSt)(k:Nat):Option RowC:=match p.rows[k]? with | some ⟨_,c⟩=>some c | none=>none
def PSt.setR(p:PSt)(k:Nat)(c:RowC):PSt:={ p with rows:=p.rows.set k ⟨false,c⟩ }
def PSt.newR(p:PSt)(c:RowC):PSt:={ p with rows:=p.rows++[⟨false,c⟩] }
def PS.strip(id:Nat):PS→PS
 | .own i sz xs=>match Nat.beq i id with | true => .v (.sl xs) | false => .own i sz xs
 | q=>q
def stripL(id:Nat):List PS→List PS
 | []=>[]
 | q::r=>q.strip id::stripL id r
def PD.strip(id:Nat):PD→PD
 | .s q => .s (q.strip id)
 | .agg ps => .agg (stripL id ps)
def RowC.strip(id:Nat):RowC→RowC
 | .cells ps => .cells (stripL id ps)
 | c=>c
def zfO(id:Nat):PTm→PTm
 | []=>[]
 | (i,f,d)::r=>(i,f,d.strip id)::zfO id r
def stripR(id:Nat):List Row→List Row
 | []=>[]
 | ⟨f,c⟩::r=>⟨f,c.strip id⟩::stripR id r
def PSt.strip(p:PSt)(id:Nat):PSt:={ p with tm:=zfO id p.tm,rows:=stripR id p.rows }
/-- a value out of a handle that hangs on no row -/
def PS.pure:PS→Option V
 | .v x=>some x
 | .own _ _ xs=>some (.sl xs)
 | .full xs=>some (.sl xs)
 | .fn f cap=>match cap with | []=>some (.fn f []) | _=>none
 | _=>none
def j1:List PS→Option (List V)
 | []=>some []
 | q::r=>match q.pure with | some x=>(match j1 r with | some l=>some (x::l) | none=>none) | none=>none
def PD.pureV:PD→Option V
 | .s q=>q.pure
 | .agg ps=>match j1 ps with | some l=>some (.agg l) | none=>none
/-- the same, slices into rows told in place -/
def PS.outV(p:PSt):PS→Option V
 | .ref k _ off n _ _=>match J7 p k with | some (.arr _ _ xs)=>some (.sl ((xs.drop off).take n)) | _=>none
 | q=>q.pure
def Qy(p:PSt):List PS→Option (List V)
 | []=>some []
 | q::r=>match q.outV p with | some x=>(match Qy p r with | some l=>some (x::l) | none=>none) | none=>none
def PD.outV(p:PSt):PD→Option V
 | .s q=>q.outV p
 | .agg ps=>match Qy p ps with | some l=>some (.agg l) | none=>none
def PS.refs:PS→List (Nat×Bool)
 | .ref k _ _ _ _ z=>[(k,z)]
 | _=>[]
def zcq:List PS→List (Nat×Bool)
 | []=>[]
 | q::r=>q.refs++zcq r
def PD.refs:PD→List (Nat×Bool)
 | .s q=>q.refs
 | .agg ps=>zcq ps
/-- values alone -/
def zmQ:List PS→Option (List V)
 | []=>some []
 | .v x::r=>match zmQ r with | some l=>some (x::l) | none=>none
 | _=>none
def PS.oneP:PS→Bool
 | .v x=>x.one
 | _=>true
def ziT:List PS→Bool
 | []=>true
 | q::r=>q.oneP && ziT r
def zef(ps:List PS):PD:=match zmQ ps with | some l => .s (.v (.agg l)) | none => .agg ps
mutual
def ofD:D→Option V
 | .bool b=>some (.bool b)
 | .int k n=>some (.int k n)
 | .float k b=>some (.float k b)
 | .str s=>some (.str s)
 | .nilp=>some .nilp
 | .nilf=>some .nilf
 | .nili=>some .nili
 | .agg ds=>match ofDL ds with | some l=>some (.agg l) | none=>none
 | .fn f c=>match c with | []=>some (.fn f []) | _=>none
 | .iface t d=>match ofD d with | some x=>some (.iface t x) | none=>none
 | _=>none
def ofDL:List D→Option (List V)
 | []=>some []
 | d::r=>match ofD d with | some x=>(match ofDL r with | some l=>some (x::l) | none=>none) | none=>none
end
def Kp:D→Option PS
 | .sl .full 0 []=>some (.full [])
 | .fn f []=>some (.fn f [])
 | d=>match ofD d with | some x=>some (.v x) | none=>none
def Yz:List D→Option (List PS)
 | []=>some []
 | d::r=>match Kp d with | some x=>(match Yz r with | some l=>some (x::l) | none=>none) | none=>none
def zjy:D→Option PD
 | .agg ds=>match Yz ds with | some l=>(match ziT l with | true=>some (zef l) | false=>none) | none=>none
 | d=>match Kp d with | some q=>some (.s q) | none=>none
/-- an element's zero cells -/
def ziu(z:List D):Option (List V):=
 match Yz z with
 | some l=>match ziT l with
  | true=>match j1 l with
   | some l=>match Nat.blt 0 l.length with | true=>some l | false=>none
   | none=>none
  | false=>none
 | none=>none
/-- an array of bytes -/
def zkD:List D→Bool
 | []=>true
 | d::r=>match d with | .int .u8 (.ofNat 0)=>zkD r | _=>false
def zjI(z:List D):Option Nat:=match zkD z with
 | true=>match Nat.blt 2 z.length with | true=>some z.length | false=>none
 | false=>none
def evH(gl:Gl)(p:PSt):X→Option PD
 | .s t=>zb1 p.tm t
 | .k d=>zjy d
 | .g n=>match gl.g n with | some cs=>some (.s (.el cs)) | none=>none
/-- an operand that is a value -/
def evV(gl:Gl)(p:PSt)(x:X):Option V:=match evH gl p x with | some (.s (.v x))=>some x | _=>none
def zlp(gl:Gl)(p:PSt):List X→Option (List V)
 | []=>some []
 | x::r=>match evV gl p x with | some d=>(match zlp gl p r with | some l=>some (d::l) | none=>none) | none=>none
def zbO(gl:Gl)(p:PSt):Option X→Option (Option V)
 | none=>some none
 | some x=>match evV gl p x with | some d=>some (some d) | none=>none
def zfo(gl:Gl)(p:PSt):List X→Option (List PD)
 | []=>some []
 | x::r=>match evH gl p x with | some d=>(match zfo gl p r with | some l=>some (d::l) | none=>none) | none=>none
section
variable {ρ:Type}
/-- a value's cells, one by one, from cell i on -/
def vt(x:V)(i:Nat):Nat→(List PS→Option ρ)→Option ρ
 | 0,K=>K []
 | n+1,K=>(zn x i).bind fun c=>vt x (i+1) n fun l=>K (.v c::l)
def wV(n:Nat)(d:PD)(K:List PS→Option ρ):Option ρ:=
 match d with
 | .s (.v x)=>tst (okN n x) (vt x 0 n K)
 | .s (.el _) | .s (.elx _ _ _)=>none
 | .s q=>match Nat.beq n 1 with | true=>K [q] | false=>none
 | .agg ps=>match Nat.beq ps.length n with | true=>K ps | false=>none
def xR{α:Type}(xs:List α)(o:Nat)(ys:List α):List α:=xs.take o++ys++xs.drop (o+ys.length)
def Qj(gl:Gl)(p:PSt)(cells:List PS):List (Nat×Nat×X)→(List PS→Option ρ)→Option ρ
 | [],K=>K cells
 | (o,n,x)::r,K=>match evH gl p x with
  | some d=>match Nat.ble (o+n) cells.length with
   | true=>wV n d fun cs=>Qj gl p (xR cells o cs) r K
   | false=>none
  | none=>none
/-- an element is laid, or a part of it -/
def elK(sz:Nat)(els:List V)(o n:Nat)(x:V)(K:List V→Option ρ):Option ρ:=
 match Nat.beq n sz && Nat.beq (o % sz) 0 with
 | true=>match Nat.beq sz 1 with
  | true=>tst (okN 1 x) ((zn x 0).bind fun c=>K (els.set (o / sz) c))
  | false=>tst (okN sz x) (K (els.set (o / sz) x))
 | false=>match Nat.beq sz 1 with
  | true=>none
  | false=>match els[o / sz]? with
   | some (.agg xs)=>match Nat.ble (o % sz+n) xs.length && Nat.blt 0 n with
    | true=>tst (okN n x) (K (els.set (o / sz) (.agg (xR xs (o % sz) x.parts))))
    | false=>none
   | _=>none
def ziZ(gl:Gl)(p:PSt)(sz:Nat)(els:List V):List (Nat×Nat×X)→(List V→Option ρ)→Option ρ
 | [],K=>K els
 | (o,n,x)::r,K=>match evH gl p x with
  | some d=>match d.pureV with
   | some x=>match Nat.blt (o / sz) els.length with
    | true=>elK sz els o n x fun els=>ziZ gl p sz els r K
    | false=>none
   | none=>none
  | none=>none
/-- a slice's elements -/
def slK(sz:Nat)(p:PSt)(d:PD)(K:List V→Option ρ):Option ρ:=
 match d with
 | .s (.v x)=>(xk sz x).bind K
 | .s (.own _ _ xs)=>tst (yc sz xs) (K xs)
 | .s (.full xs)=>tst (yc sz xs) (K xs)
 | .s (.ref k sz' off n _ _)=>match J7 p k with
  | some (.arr _ _ xs)=>match Nat.beq sz' sz with | true=>K ((xs.drop off).take n) | false=>none
  | _=>none
 | _=>none
/-- elements to be copied: a text's bytes, too -/
def Y0(sz:Nat):V→Option (List V)
 | .sl xs=>match yc sz xs with | true=>some xs | false=>none
 | .str s=>match Nat.beq sz 1 with | true=>some (ZV s) | false=>none
 | _=>none
def zja(sz:Nat)(p:PSt)(d:PD)(K:List V→Option ρ):Option ρ:=
 match d with
 | .s (.v x)=>(Y0 sz x).bind K
 | d=>slK sz p d K
def KL(p:PSt)(ag:Bool)(sz:Nat)(d:PD)(K:PD→Option ρ):Option ρ:=
 match d with
 | .s (.ptr k off)=>match J7 p k with
  | some (.box n x)=>match ag with
   | true=>tst (Nat.ble (off+sz) n) (match Nat.beq sz n && Nat.blt 1 n with | true=>K (.s (.v x)) | false=>K (.s (.v (We x off sz))))
   | false=>(zn x off).bind fun c=>K (.s (.v c))
  | some (.cells ps)=>match ag with
   | true=>match Nat.ble (off+sz) ps.length with | true=>K (zef ((ps.drop off).take sz)) | false=>none
   | false=>match ps[off]? with | some q=>K (.s q) | none=>none
  | _=>none
 | .s (.ptrA k sz' i off)=>match J7 p k with
  | some (.arr _ _ xs)=>match ag with
   | true=>match Nat.ble (off+sz) sz' with
    | true=>(xs[i]?).bind fun x=>match Nat.beq sz sz' && Nat.blt 1 sz' with | true=>K (.s (.v x)) | false=>K (.s (.v (We x off sz)))
    | false=>none
   | false=>(xs[i]?).bind fun x=>(zn x off).bind fun c=>K (.s (.v c))
  | _=>none
 | .s (.elx sz' x off)=>match ag with
  | true=>match Nat.ble (off+sz) sz' with
   | true=>match Nat.beq sz sz' && Nat.blt 1 sz' with | true=>K (.s (.v x)) | false=>K (.s (.v (We x off sz)))
   | false=>none
  | false=>(zn x off).bind fun c=>K (.s (.v c))
 | .s (.el cs)=>match ag with
  | true=>tst (Nat.ble sz cs.length) (K (.s (.v (.agg (cs.take sz)))))
  | false=>(cs[0]?).bind fun c=>K (.s (.v c))
 | _=>none
/-- a value that goes over into a row's cells -/
def Qf(p:PSt)(sz:Nat)(a v:PD)(K:PSt→Option ρ):Option ρ:=
 match a with
 | .s (.ptr k off)=>match zdQ p k with
  | some (.box n x)=>match Nat.beq off 0 && Nat.beq sz n && Nat.blt 1 n with
   | true=>match v with
    | .s (.v y)=>tst (okN n y) (K (p.setR k (.box n y)))
    | v=>wV n v fun cs=>K (p.setR k (.cells cs))
   | false=>match Nat.ble (off+sz) n with
    | true=>vt x 0 n fun xs=>wV sz v fun cs=>K (p.setR k (.cells (xR xs off cs)))
    | false=>none
  | some (.cells ps)=>match Nat.beq off 0 && Nat.beq sz ps.length && Nat.blt 1 sz with
   | true=>match v with
    | .s (.v y)=>tst (okN sz y) (K (p.setR k (.box sz y)))
    | v=>wV sz v fun cs=>K (p.setR k (.cells cs))
   | false=>match Nat.ble (off+sz) ps.length with
    | true=>wV sz v fun cs=>K (p.setR k (.cells (xR ps off cs)))
    | false=>none
  | _=>none
 | .s (.ptrA k sz' i off)=>match zdQ p k with
  | some (.arr .no _ xs)=>match v.pureV with
   | some y=>match Nat.beq off 0 && Nat.beq sz sz' with
    | true=>match Nat.beq sz 1 with
     | true=>tst (okN 1 y) ((zn y 0).bind fun c=>K (p.setR k (.arr .no sz' (xs.set i c))))
     | false=>tst (okN sz y) (K (p.setR k (.arr .no sz' (xs.set i y))))
    | false=>match Nat.ble (off+sz) sz' && Nat.blt 0 sz with
     | true=>(xs[i]?).bind fun e=>tst (okN sz y) (K (p.setR k (.arr .no sz' (xs.set i (.agg (xR e.parts off y.parts))))))
     | false=>none
   | none=>none
  | _=>none
 | _=>none
/-- m elements ys behind a slice -/
def zhk(p:PSt)(sz bytes:Nat)(s:PD)(ys:List V)(K:PD→PSt→Option ρ):Option ρ:=
 match s with
 | .s (.full xs)=>match Nat.blt 0 sz with
  | true=>tst (yc sz xs) (tst (wy bytes xs.length ys.length) (K (.s (.own p.ni sz (xs++ys))) { p with ni:=p.ni+1 }))
  | false=>none
 | .s (.own id sz' xs)=>match Nat.beq sz sz' && Nat.blt 0 sz && Nat.ble p.lim id with
  | true=>tst (wy bytes xs.length ys.length) (K (.s (.own id sz (xs++ys))) (p.strip id))
  | false=>none
 | .s (.ref k sz' off n c z)=>match Nat.beq sz sz' && Nat.blt 0 sz with
  | true=>match J7 p k with
   | some (.arr fz _ xs)=>tst (wy bytes n ys.length) (if n+ys.length≤c∧(z=false∨0<c)then
     (match zdQ p k with
     | some (.arr .no _ _)=>K (.s (.ref k sz off (n+ys.length) c z)) (p.setR k (.arr fz sz (xR xs (off+n) ys)))
     | _=>none)
    else K (.s (.own p.ni sz ((xs.drop off).take n++ys))) { p with ni:=p.ni+1 })
   | _=>none
  | false=>none
 | _=>none
/-- a slice of an array -/
def zob(p:PSt)(n sz:Nat)(l h m:Option V)(d:PD)(K:PD→Option ρ):Option ρ:=
 match d with
 | .s q=>match q with
  | .ptr k o=>match J7 p k with
   | some (.arr _ sz' xs)=>match Nat.beq o 0 && Nat.beq sz sz' with
    | true=>tst (Nat.ble n xs.length) ((zpq l h m n n).bind fun q=>K (.s (.ref k sz q.1 (q.2.1 - q.1) (q.2.2 - q.1) true)))
    | false=>none
   | _=>none
  | _=>none
 | .agg _=>none
/- what goes over into a call: values; the rows that are pointed to, in the order in which they are met -/
def place(k:Nat)(l:List Nat):Nat×List Nat:=match l.findIdx? (fun j=>Nat.beq j k)with | some j=>(j,l) | none=>(l.length,l++[k])
def zbn(ks:List Nat):List CP→List CP×List Nat
 | []=>([],ks)
 | .v x::r=>(.v x::(zbn ks r).1,(zbn ks r).2)
 | .p k off::r=>(.p (place k ks).1 off::(zbn (place k ks).2 r).1,(zbn (place k ks).2 r).2)
/-- a row that is handed over: it is held from now on; z: it may be that nothing is handed over -/
def freeze(p:PSt)(kz:Nat×Bool):Option PSt:=match p.rows[kz.1]? with
 | some ⟨_,.arr .yes _ _⟩=>some p
 | some ⟨false,.arr .may sz xs⟩=>match kz.2 with | true=>some p | false=>some { p with rows:=p.rows.set kz.1 ⟨false,.arr .yes sz xs⟩ }
 | some ⟨false,.arr .no sz xs⟩=>match kz.2 with | true=>some { p with rows:=p.rows.set kz.1 ⟨false,.arr .may sz xs⟩ } | false=>some { p with rows:=p.rows.set kz.1 ⟨false,.arr .yes sz xs⟩ }
 | _=>none
def xW(p:PSt):List (Nat×Bool)→Option PSt
 | []=>some p
 | k::r=>match freeze p k with | some p'=>xW p' r | none=>none
def zmm(p:PSt)(ks:List Nat)(d:PD):Option (PA×List Nat×PSt):=
 match d with
 | .s (.ptr k off)=>some (.p (place k ks).1 off,(place k ks).2,p)
 | .s (.fn f cap)=>some (.fn f (zbn ks cap).1,(zbn ks cap).2,p)
 | d=>match d.outV p with
  | some x=>match xW p d.refs with | some p'=>some (.v x,ks,p') | none=>none
  | none=>none
def Z7(p:PSt)(ks:List Nat):List PD→Option (List PA×List Nat×PSt)
 | []=>some ([],ks,p)
 | d::r=>match zmm p ks d with
  | some (a,ks',p')=>match Z7 p' ks' r with | some (l,ks'',p'')=>some (a::l,ks'',p'') | none=>none
  | none=>none
/-- what a row holds, as a value, and how many cells -/
def zbC:RowC→Option (Nat×V)
 | .box n x=>match Nat.beq n 1 with | true=>none | false=>some (n,x)
 | .cells ps=>match j1 ps with | some l=>some (ps.length,Wz l) | none=>none
 | _=>none
def zd4(p:PSt):List Nat→Option (List (Bool×Nat×V))
 | []=>some []
 | k::r=>match p.rows[k]? with
  | some ⟨ro,c⟩=>match zbC c with
   | some (n,x)=>match zd4 p r with | some l=>some ((ro,n,x)::l) | none=>none
   | none=>none
  | none=>none
def Jn(n:Nat)(x:V):RowC:=match Nat.beq n 1 with | true => .cells [.v x] | false => .box n x
/-- the rows as the callee left them -/
def zaa(p:PSt)(ys:List V)(j:Nat):List Nat→(PSt→Option ρ)→Option ρ
 | [],K=>K p
 | k::r,K=>match p.rows[k]? with
  | some ⟨true,_⟩=>zaa p ys (j+1) r K
  | some ⟨false,c⟩=>match zbC c with
   | some (n,_)=>(ys[j]?).bind fun y=>zaa (p.setR k (Jn n y)) ys (j+1) r K
   | none=>none
  | none=>none
def Zy(pc:PcT)(f:Nat)(ds:List PD)(p:PSt)(K:PD→PSt→Option ρ):Option ρ:=
 match Z7 p [] ds with
 | some (as,ks,p')=>match zd4 p' ks with
  | some pars=>(pc f as pars).bind fun r=>zaa p' r.2 0 ks fun p''=>K (.s (.v r.1)) p''
  | none=>none
 | none=>none
def ze9:List PD→Option (List V)
 | []=>some []
 | d::r=>match d.pureV with | some x=>(match ze9 r with | some l=>some (x::l) | none=>none) | none=>none
def slV:V→Option (List V)
 | .sl xs=>some xs
 | _=>none
def WV(pc:PcT)(sz f:Nat)(ds:List PD)(p:PSt)(K:PD→PSt→Option ρ):Option ρ:=
 match Z7 p [] ds with
 | some (as,[],p')=>(pc f (.g::as) []).bind fun r=>(slV r.1).bind fun xs=>K (.s (.own p'.ni sz xs)) { p' with ni:=p'.ni+1 }
 | _=>none
def zcH(pc:PcT)(sz f:Nat)(ds:List PD)(p:PSt)(K:PD→PSt→Option ρ):Option ρ:=
 match ds with
 | .s (.own id sz' ys)::r=>match Nat.beq sz sz' with
  | true=>match ze9 r with
   | some xs=>(pc f (.o sz ys::xs.map PA.v) []).bind fun q=>K (.s (.v q.1)) (p.strip id)
   | none=>none
  | false=>none
 | .s (.full ys)::r=>match ze9 r with
  | some xs=>tst (yc sz ys) ((pc f (.o sz ys::xs.map PA.v) []).bind fun q=>K (.s (.v q.1)) (p.strip p.ni))
  | none=>none
 | _=>none
/-- a slice that has no room -/
def zay(d:PD)(k:Option ρ):Option ρ:=
 match d with
 | .s (.full _)=>k
 | .s (.ref _ _ _ n c _)=>tst (Nat.beq n c) k
 | _=>none
def zcd(pc:PcT)(f:Nat)(ds:List PD)(p:PSt)(K:PD→PSt→Option ρ):Option ρ:=
 match ds with
 | d::r=>zay d (match Z7 p [] (d::r)with
  | some (as,[],p')=>(pc f (.u::as) []).bind fun q=>K (.s (.v q.1)) p'
  | _=>none)
 | []=>none
def asByte:V→Option UInt8
 | .int .u8 n=>if 0≤n∧n<256 then some (UInt8.ofNat n.toNat)else none
 | _=>none
/-- what a told function does to a builder -/
def zhl(e:Eff)(ds:List PD)(p:PSt)(K:PD→PSt→Option ρ):Option ρ:=
 match e with
 | .ws t e=>match ds with
  | [.s (.ptr k 0),.s (.v x)]=>match zdQ p k with
   | some (.bld t' e' r)=>match Nat.beq t' t && Nat.beq e' e with
    | true=>(zaf x).bind fun s=>tst (decide (r.length+s.length≤140737488355328)) (K (.s (.v (.tup [.int .i64 (s.length:Nat),.nili]))) (p.setR k (.bld t e (r++s))))
    | false=>none
   | _=>none
  | _=>none
 | .wb t e=>match ds with
  | [.s (.ptr k 0),.s (.v x)]=>match zdQ p k with
   | some (.bld t' e' r)=>match Nat.beq t' t && Nat.beq e' e with
    | true=>(asByte x).bind fun c=>tst (decide (r.length+1≤140737488355328)) (K (.s (.v .nili)) (p.setR k (.bld t e (r++[c]))))
    | false=>none
   | _=>none
  | _=>none
 | .bs t e=>match ds with
  | [.s (.ptr k 0)]=>match zdQ p k with
   | some (.bld t' e' r)=>match Nat.beq t' t && Nat.beq e' e with
    | true=>K (.s (.v (.str r))) (p.setR k .dead)
    | false=>none
   | _=>none
  | _=>none
def kH(md:Nat→Md)(pc:PcT)(f:Nat)(ds:List PD)(p:PSt)(K:PD→PSt→Option ρ):Option ρ:=
 match md f with
 | .pl=>Zy pc f ds p K
 | .gv sz=>WV pc sz f ds p K
 | .raw sz=>zcH pc sz f ds p K
 | .ful=>zcd pc f ds p K
 | .gvf sz=>match ds with
  | d::r=>zay d (WV pc sz f (d::r) p K)
  | []=>none
 | .eff e=>zhl e ds p K
def zrM:CP→PD
 | .v x => .s (.v x)
 | .p k off => .s (.ptr k off)
def zd5:List PD→Option (List CP)
 | []=>some []
 | .s (.v x)::r=>match zd5 r with | some l=>some (.v x::l) | none=>none
 | .s (.ptr k off)::r=>match zd5 r with | some l=>some (.p k off::l) | none=>none
 | _=>none
/-- an operation: what it yields, and the state behind it -/
def Y5(gl:Gl)(pc:PcT)(p:PSt)(o:O)(K:Option PD→PSt→Option ρ):Option ρ:=
 match o with
 | .mv x=>match evH gl p x with | some d=>K (some d) p | none=>none
 | .pick c a b=>match evV gl p c with
  | some c=>match evV gl p a with
   | some x=>match evV gl p b with
    | some y=>(asBool c).bind fun c=>K (some (.s (.v (if c then x else y)))) p
    | none=>none
   | none=>none
  | none=>none
 | .alloc z=>match zjI z with
  | some n=>K (some (.s (.ptr p.rows.length 0))) (p.newR (.arr .no 1 (List.replicate n (.int .u8 0))))
  | none=>match Yz z with
   | some l=>match ziT l with
    | true=>K (some (.s (.ptr p.rows.length 0))) (p.newR (.cells l))
    | false=>none
   | none=>none
 | .build z ps=>match Yz z with
  | some l=>match ziT l with
   | true=>Qj gl p l ps fun cs=>K (some (zef cs)) p
   | false=>none
  | none=>none
 | .lit n z ps=>match ziu z with
  | some l=>ziZ gl p l.length (List.replicate n (Wz l)) ps fun els=>K (some (.s (.full els))) p
  | none=>none
 | .load ag sz a=>match evH gl p a with | some d=>KL p ag sz d fun v=>K (some v) p | none=>none
 | .store sz a v=>match evH gl p a with
  | some d=>match evH gl p v with | some v=>Qf p sz d v fun p'=>K none p' | none=>none
  | none=>none
 | .chk x=>match evH gl p x with
  | some (.s (.ptr k off))=>K (some (.s (.ptr k off))) p
  | some (.s (.ptrA k sz i off))=>K (some (.s (.ptrA k sz i off))) p
  | some (.s (.el cs))=>K (some (.s (.el cs))) p
  | some (.s (.elx sz x off))=>K (some (.s (.elx sz x off))) p
  | some (.s (.fn f c))=>K (some (.s (.fn f c))) p
  | _=>none
 | .bin op x y=>match evV gl p x with
  | some x=>match evV gl p y with | some y=>(ze op x y).bind fun d=>K (some (.s (.v d))) p | none=>none
  | none=>none
 | .beq neg x y=>match evV gl p x with
  | some x=>match evV gl p y with
   | some y=>(asBool x).bind fun a=>(asBool y).bind fun b=>K (some (.s (.v (.bool (match neg with | true => !(a == b) | false=>a == b))))) p
   | none=>none
  | none=>none
 | .inil neg x=>match evV gl p x with | some x=>(VS neg x).bind fun d=>K (some (.s (.v d))) p | none=>none
 | .tas t ok x=>match evV gl p x with | some x=>(zqZ t ok x).bind fun d=>K (some (.s (.v d))) p | none=>none
 | .un op x=>match evV gl p x with | some x=>(unV op x).bind fun d=>K (some (.s (.v d))) p | none=>none
 | .cvi k x=>match evV gl p x with | some x=>(ZY k x).bind fun d=>K (some (.s (.v d))) p | none=>none
 | .cms x=>match evV gl p x with | some x=>(zrD x).bind fun d=>K (some (.s (.v d))) p | none=>none
 | .cbs x=>match evH gl p x with
  | some d=>slK 1 p d fun xs=>(W5 xs).bind fun s=>K (some (.s (.v (.str s)))) p
  | none=>none
 | .csb x=>match evV gl p x with | some x=>(zaf x).bind fun s=>K (some (.s (.v (.sl (ZV s))))) p | none=>none
 | .ifc t x=>match evH gl p x with
  | some d=>match d.pureV with | some x=>K (some (.s (.v (.iface t x)))) p | none=>none
  | none=>none
 | .mkf f cap=>match zfo gl p cap with
  | some l=>match zd5 l with
   | some l=>K (some (.s (.fn f l))) p
   | none=>none
  | none=>none
 | .mks z bytes n c=>match ziu z with
  | some l=>match evV gl p n with
   | some n=>match evV gl p c with
    | some c=>(zfn bytes n c).bind fun q=>K (some (.s (.ref p.rows.length l.length 0 q.1 q.2 false))) (p.newR (.arr .no l.length (List.replicate q.2 (Wz l))))
    | none=>none
   | none=>none
  | none=>none
 | .slc sz x l h m=>match evH gl p x with
  | some d=>match zbO gl p l with
   | some l=>match zbO gl p h with
    | some h=>match zbO gl p m with
     | some m=>match d with
      | .s (.ref k sz' off n c _)=>match Nat.beq sz' sz with
       | true=>(zpq l h m n c).bind fun q=>K (some (.s (.ref k sz (off+q.1) (q.2.1 - q.1) (q.2.2 - q.1) true))) p
       | false=>none
      | d=>slK sz p d fun xs=>match m with
       | none=>(kT l h xs.length).bind fun q=>K (some (.s (.v (.sl ((xs.drop q.1).take (q.2 - q.1)))))) p
       | some m=>(zlZ l h (some m) xs.length).bind fun q=>K (some (.s (.full ((xs.drop q.1).take (q.2 - q.1))))) p
     | none=>none
    | none=>none
   | none=>none
  | none=>none
 | .sla n sz x l h m=>match evH gl p x with
  | some d=>match zbO gl p l with
   | some l=>match zbO gl p h with
    | some h=>match zbO gl p m with
     | some m=>zob p n sz l h m d fun d=>K (some d) p
     | none=>none
    | none=>none
   | none=>none
  | none=>none
 | .sls x l h=>match evV gl p x with
  | some x=>match zbO gl p l with
   | some l=>match zbO gl p h with
    | some h=>(JB x l h).bind fun d=>K (some (.s (.v d))) p
    | none=>none
   | none=>none
  | none=>none
 | .fad off x=>match evH gl p x with
  | some (.s (.ptr k o))=>K (some (.s (.ptr k (o+off)))) p
  | some (.s (.ptrA k sz i o))=>K (some (.s (.ptrA k sz i (o+off)))) p
  | some (.s (.el cs))=>K (some (.s (.el (cs.drop off)))) p
  | some (.s (.elx sz x o))=>K (some (.s (.elx sz x (o+off)))) p
  | _=>none
 | .fld ag off sz x=>match evH gl p x with
  | some (.s (.v x))=>match ag with
   | true=>(zrT x off sz).bind fun d=>K (some (.s (.v d))) p
   | false=>(zsl x off).bind fun d=>K (some (.s (.v d))) p
  | some (.agg ps)=>match ag with
   | true=>match Nat.ble (off+sz) ps.length with | true=>K (some (zef ((ps.drop off).take sz))) p | false=>none
   | false=>match ps[off]? with | some q=>K (some (.s q)) p | none=>none
  | _=>none
 | .iad sz x i=>match evH gl p x with
  | some d=>match evV gl p i with
   | some i=>match d with
    | .s (.ref k sz' off n _ _)=>match Nat.beq sz' sz && Nat.blt 0 sz with
     | true=>(xP i n).bind fun i=>K (some (.s (.ptrA k sz (off+i) 0))) p
     | false=>none
    | d=>slK sz p d fun xs=>(xP i xs.length).bind fun i=>(xs[i]?).bind fun e=>K (some (.s (.elx sz e 0))) p
   | none=>none
  | none=>none
 | .iaa n sz x i=>match evH gl p x with
  | some d=>match evV gl p i with
   | some i=>(xP i n).bind fun i=>match d with
    | .s (.ptr k o)=>match J7 p k with
     | some (.arr _ sz' xs)=>match Nat.beq o 0 && Nat.beq sz sz' with
      | true=>tst (Nat.blt i xs.length) (K (some (.s (.ptrA k sz i 0))) p)
      | false=>none
     | _=>K (some (.s (.ptr k (o+i * sz)))) p
    | .s (.el cs)=>K (some (.s (.el (cs.drop (i * sz))))) p
    | _=>none
   | none=>none
  | none=>none
 | .ixa ag n sz x i=>match evV gl p x with
  | some x=>match evV gl p i with | some i=>(zrs ag n sz x i).bind fun d=>K (some (.s (.v d))) p | none=>none
  | none=>none
 | .ixs x i=>match evV gl p x with
  | some x=>match evV gl p i with | some i=>(Zx x i).bind fun d=>K (some (.s (.v d))) p | none=>none
  | none=>none
 | .ext x i=>match evV gl p x with | some x=>(zj x i).bind fun d=>K (some (.s (.v d))) p | none=>none
 | .len x=>match evH gl p x with
  | some (.s (.v x))=>(yX x).bind fun n=>K (some (.s (.v (.int .i64 n)))) p
  | some (.s (.own _ _ xs))=>K (some (.s (.v (.int .i64 xs.length)))) p
  | some (.s (.full xs))=>K (some (.s (.v (.int .i64 xs.length)))) p
  | some (.s (.ref _ _ _ n _ _))=>K (some (.s (.v (.int .i64 n)))) p
  | _=>none
 | .lns x=>match evV gl p x with | some x=>(zaH x).bind fun n=>K (some (.s (.v (.int .i64 n)))) p | none=>none
 | .cap x=>match evH gl p x with
  | some (.s (.full xs))=>K (some (.s (.v (.int .i64 xs.length)))) p
  | some (.s (.ref _ _ _ _ c _))=>K (some (.s (.v (.int .i64 c)))) p
  | _=>none
 | .app sz bytes s x=>match evH gl p s with
  | some s=>match evH gl p x with
   | some d=>zja sz p d fun ys=>zhk p sz bytes s ys fun d p'=>K (some d) p'
   | none=>none
  | none=>none
 | .apz z bytes s x=>match ziu z with
  | some l=>match evH gl p s with
   | some s=>match evV gl p x with
    | some x=>(zqI bytes x).bind fun m=>zhk p l.length bytes s (List.replicate m (Wz l)) fun d p'=>K (some d) p'
    | none=>none
   | none=>none
  | none=>none
 | .cpy sz d s=>match evH gl p d with
  | some d=>match evH gl p s with
   | some s=>zja sz p s fun ys=>match d with
    | .s (.ref k sz' off n _ _)=>match zdQ p k with
     | some (.arr .no _ xs)=>match Nat.beq sz' sz with
      | true=>K (some (.s (.v (.int .i64 (Nat.min ys.length n:Nat))))) (p.setR k (.arr .no sz (xR xs off (ys.take (Nat.min ys.length n)))))
      | false=>none
     | _=>none
    | .s (.full [])=>K (some (.s (.v (.int .i64 0)))) p
    | _=>none
   | none=>none
  | none=>none
 | .min xs=>match zlp gl p xs with
  | some (x::r)=>(zgt x r).bind fun d=>K (some (.s (.v d))) p
  | _=>none
 | .max xs=>match zlp gl p xs with
  | some (x::r)=>(zhU x r).bind fun d=>K (some (.s (.v d))) p
  | _=>none
 | .call f xs=>match zfo gl p xs with | some ds=>kH gl.md pc f ds p fun d p'=>K (some d) p' | none=>none
 | .callv g xs=>match evH gl p g with
  | some (.s (.fn f cap))=>match Nat.blt f wT with
   | true=>match zfo gl p xs with | some ds=>Zy pc f (ds++cap.map zrM) p fun d p'=>K (some d) p' | none=>none
   | false=>none
  | some (.s (.v x))=>match zfo gl p xs with
   | some ds=>(zqw x).bind fun q=>match q.2 with
    | []=>match Nat.blt q.1 wT with | true=>Zy pc q.1 ds p fun d p'=>K (some d) p' | false=>none
    | _=>none
   | none=>none
  | _=>none
 | .nbl t e=>K (some (.s (.ptr p.rows.length 0))) (p.newR (.bld t e []))
 | .rng x=>match evV gl p x with | some x=>(zaf x).bind fun s=>K (some (.s (.ptr p.rows.length 0))) (p.newR (.iter s 0)) | none=>none
 | .nxt x=>match evH gl p x with
  | some (.s (.ptr k 0))=>match zdQ p k with
   | some (.iter s pos)=>if pos<s.length then
     K (some (.s (.v (.tup [.bool true,.int .i64 pos,.int .i32 (Utf8.decode ⟨s.toArray⟩ pos).1])))) (p.setR k (.iter s (pos+(Utf8.decode ⟨s.toArray⟩ pos).2)))
    else K (some (.s (.v (.tup [.bool false])))) p
   | _=>none
  | _=>none
 | _=>none
end
end Go.Ev
end
section
namespace Go.Ev
/- drf: a load of row k that may come behind b1, too; drq: as drw; what may stand in any order writes no object: it is looked at operation by operation -/
/-- an operation; a value that is boxed, so many cells; operations under one guard and the choice behind them -/
inductive PO where
 | nil
 | one (o:OpC) (r:PO)
 | box (n dst:Nat) (x:X) (r:PO)
 | grp (c:Nat) (w:Bool) (ops:PO) (dst:Nat) (a b:X) (r:PO)
inductive PEx where
 | nrm | ext (id:Nat) | ret
/-- how a slot or a cell is kept: as a value; as a slice that may be appended to; an address; a slice into a row; untouched -/
inductive Kd where
 | v | own (sz:Nat) | ptr (k off:Nat) | ref (k sz:Nat) (z:Bool) | same
inductive RK where
 | same | dead | box (n:Nat) | cells (l:List Kd) | arr (fz:Fz) (sz:Nat) | iter | bld (t e:Nat)
structure Sh where
 slots:List (Nat×Kd)
 rows:List RK
inductive PC where
 | skip
 | reg (ops:PO) (keep:List Nat)
 | drw (a0 a1 b:PO) (keep:List Nat)
 | drq (a0 a1 b:PO) (keep:List Nat)
 | drf (a0:PO) (t:Nat) (ag:Bool) (sz a k:Nat) (b1 b:PO) (keep:List Nat)
 | seq (a b:PC)
 | cond (c:X) (a b:PC)
 | blk (id:Nat) (c:PC)
 | loop (h:Sh) (xs:List (PEx×Sh)) (c:PC)
 | cut (h:Sh) (xs:List (PEx×Sh)) (c:PC)
 | exit (id:Nat)
 | ret
structure PFn where
 res:List R
 body:PC
 pn:Bool
def zcP(c:Nat)(w:Bool)(a b:X):O:=match w with | true => .pick (.s c) a b | false => .pick (.s c) b a
def WW(g:Option (Nat×Bool))(o:OpC):OpC:=match o.gd with | none=>⟨o.dst,o.op,g⟩ | some _=>o
def yR(g:Option (Nat×Bool)):PO→List OpC
 | .nil=>[]
 | .one o r=>WW g o::yR g r
 | .box _ dst x r=>⟨some dst,.box x,g⟩::yR g r
 | .grp c w ops dst a b r=>yR (some (c,w)) ops++⟨some dst,zcP c w a b,g⟩::yR g r
def wW(l:PO):List OpC:=yR none l
def zq:PC→C
 | .skip => .skip
 | .reg ops keep => .reg (wW ops) keep
 | .drw a0 a1 b keep => .drw (wW a0) (wW a1) [] (wW b) keep
 | .drq a0 a1 b keep => .drw (wW a0) (wW a1) [] (wW b) keep
 | .drf a0 t ag sz a _ b1 b keep => .drw (wW a0) [⟨some t,.load ag sz (.s a),none⟩] (wW b1) (wW b) keep
 | .seq a b => .seq (zq a) (zq b)
 | .cond c a b => .cond c (zq a) (zq b)
 | .blk id c => .blk id (zq c)
 | .loop _ _ c => .loop (zq c)
 | .cut _ _ c=>zq c
 | .exit id => .exit id
 | .ret => .ret
def zq9:Fz→Fz→Bool
 | .no,.no=>true
 | .may,.may=>true
 | .yes,.yes=>true
 | _,_=>false
def yO:PTm→Nat→Option (Bool×PD)
 | [],_=>none
 | (i,f,d)::r,t=>match Nat.beq i t with | true=>some (f,d) | false=>yO r t
def V.elems:V→List V
 | .sl xs=>xs
 | _=>[]
def YQ:V→Nat
 | .int _ n=>n.toNat
 | _=>0
def zdb:V→List UInt8
 | .str s=>s
 | _=>[]
def vec(l:List V)(i:Nat):V:=l.getD i .nilp
def wM:List PS→Bool
 | []=>false
 | .own _ _ _::_=>true
 | _::r=>wM r
def PD.hasOwn:PD→Bool
 | .s q=>wM [q]
 | .agg ps=>wM ps
def RowC.hasOwn:RowC→Bool
 | .cells ps=>wM ps
 | _=>false
section
variable {ρ:Type}
/- what is kept, as values: ids are the lineages that are kept already -/
def encS(m:Nat)(kd:Kd)(q:PS)(ids:List Nat)(K:List V→List Nat→Option ρ):Option ρ:=
 match kd with
 | .v=>match q.pure with | some x=>K [x] ids | none=>none
 | .own sz=>match q with
  | .own id sz' xs=>match Nat.beq sz sz' && !hasB ids id with | true=>K [.sl xs] (id::ids) | false=>none
  | .full xs=>tst (yc sz xs) (K [.sl xs] ids)
  | _=>none
 | .ptr k off=>match q with
  | .ptr k' off'=>match Nat.beq k k' && Nat.beq off off' && Nat.blt k m with | true=>K [] ids | false=>none
  | _=>none
 | .ref k sz z=>match q with
  | .ref k' sz' off n c z'=>match Nat.beq k k' && Nat.beq sz sz' && Nat.blt k m && (z == z')with | true=>K [.int .i64 off,.int .i64 n,.int .i64 c] ids | false=>none
  | _=>none
 | .same=>none
def zbZ(m:Nat):List Kd→List PS→List Nat→(List V→List Nat→Option ρ)→Option ρ
 | [],[],ids,K=>K [] ids
 | kd::r,q::s,ids,K=>encS m kd q ids fun l ids=>zbZ m r s ids fun l' ids=>K (l++l') ids
 | _,_,_,_=>none
/-- strict: what is untouched must be marked so -/
def zdw(strict:Bool)(m:Nat)(p:PSt):List (Nat×Kd)→List Nat→(List V→List Nat→Option ρ)→Option ρ
 | [],ids,K=>K [] ids
 | (t,kd)::r,ids,K=>match yO p.tm t with
  | some (f,d)=>match kd with
   | .same=>match(!strict || f) && !d.hasOwn with
    | true=>zdw strict m p r ids K
    | false=>none
   | kd=>match f with
    | true=>none
    | false=>match d with
     | .s q=>encS m kd q ids fun l ids=>zdw strict m p r ids fun l' ids=>K (l++l') ids
     | .agg ps=>match kd with
      | .v=>match j1 ps with | some x=>zdw strict m p r ids fun l' ids=>K (.agg x::l') ids | none=>none
      | _=>none
  | none=>none
def encR(strict:Bool)(m:Nat):List RK→List Row→List Nat→(List V→List Nat→Option ρ)→Option ρ
 | [],[],ids,K=>K [] ids
 | [],_::_,ids,K=>match strict with | true=>K [] ids | false=>none
 | rk::r,⟨f,c⟩::s,ids,K=>match rk with
  | .same=>match(!strict || f) && !c.hasOwn with
   | true=>encR strict m r s ids K
   | false=>none
  | .dead=>match f with | true=>none | false=>encR strict m r s ids K
  | .box n=>match f with
   | true=>none
   | false=>match c with
    | .box n' x=>match Nat.beq n n' with | true=>encR strict m r s ids fun l ids=>K (x::l) ids | false=>none
    | .cells ps=>match Nat.beq n ps.length && Nat.blt 1 n with
     | true=>match j1 ps with | some l=>encR strict m r s ids fun l' ids=>K (.agg l::l') ids | none=>none
     | false=>none
    | _=>none
  | .cells kds=>match f with
   | true=>none
   | false=>match c with
    | .cells ps=>zbZ m kds ps ids fun l ids=>encR strict m r s ids fun l' ids=>K (l++l') ids
    | .box n x=>vt x 0 n fun ps=>zbZ m kds ps ids fun l ids=>encR strict m r s ids fun l' ids=>K (l++l') ids
    | _=>none
  | .arr fz sz=>match f with
   | true=>none
   | false=>match c with
    | .arr fz' sz' xs=>match Nat.beq sz sz' && zq9 fz fz' with | true=>encR strict m r s ids fun l ids=>K (.sl xs::l) ids | false=>none
    | _=>none
  | .iter=>match f with
   | true=>none
   | false=>match c with
    | .iter x n=>encR strict m r s ids fun l ids=>K (.str x :: .int .i64 (n:Int)::l) ids
    | _=>none
  | .bld t e=>match f with
   | true=>none
   | false=>match c with
    | .bld t' e' x=>match Nat.beq t t' && Nat.beq e e' with | true=>encR strict m r s ids fun l ids=>K (.str x::l) ids | false=>none
    | _=>none
 | _::_,[],_,_=>none
def W6(strict:Bool)(sh:Sh)(p:PSt)(K:(Nat→V)→Option ρ):Option ρ:=
 zdw strict sh.rows.length p sh.slots [] fun l ids=>encR strict sh.rows.length sh.rows p.rows ids fun l' _=>K (vec (l++l'))
end
/- and back: i: the next value, ni: the next lineage -/
def Wr(kd:Kd)(v:Nat→V)(i ni:Nat):PS×Nat×Nat:=
 match kd with
 | .v=>(.v (v i),i+1,ni)
 | .own sz=>(.own ni sz (v i).elems,i+1,ni+1)
 | .ptr k off=>(.ptr k off,i,ni)
 | .ref k sz z=>(.ref k sz (YQ (v i)) (YQ (v (i+1))) (YQ (v (i+2))) z,i+3,ni)
 | .same=>(.v .nilp,i,ni)
def zdN(v:Nat→V)(i ni:Nat):List Kd→List PS×Nat×Nat
 | []=>([],i,ni)
 | kd::r=>((Wr kd v i ni).1::(zdN v (Wr kd v i ni).2.1 (Wr kd v i ni).2.2 r).1,(zdN v (Wr kd v i ni).2.1 (Wr kd v i ni).2.2 r).2)
/-- head: what is untouched is marked so -/
def zgy(head:Bool)(p:PSt)(v:Nat→V)(i ni:Nat):List (Nat×Kd)→Option (PTm×Nat×Nat)
 | []=>some ([],i,ni)
 | (t,.same)::r=>match yO p.tm t with
  | some (f,d)=>match zgy head p v i ni r with | some (l,q)=>some ((t,head || f,d)::l,q) | none=>none
  | none=>none
 | (t,kd)::r=>match zgy head p v (Wr kd v i ni).2.1 (Wr kd v i ni).2.2 r with | some (l,q)=>some ((t,false,.s (Wr kd v i ni).1)::l,q) | none=>none
def kU(head:Bool)(v:Nat→V)(i ni:Nat):List RK→List Row→Option (List Row×Nat×Nat)
 | [],[]=>some ([],i,ni)
 | rk::r,⟨f,c⟩::s=>match rk with
  | .same=>match kU head v i ni r s with | some (l,q)=>some (⟨head || f,c⟩::l,q) | none=>none
  | .dead=>match kU head v i ni r s with | some (l,q)=>some (⟨false,.dead⟩::l,q) | none=>none
  | .box n=>match kU head v (i+1) ni r s with | some (l,q)=>some (⟨false,.box n (v i)⟩::l,q) | none=>none
  | .cells kds=>match kU head v (zdN v i ni kds).2.1 (zdN v i ni kds).2.2 r s with | some (l,q)=>some (⟨false,.cells (zdN v i ni kds).1⟩::l,q) | none=>none
  | .arr fz sz=>match kU head v (i+1) ni r s with | some (l,q)=>some (⟨false,.arr fz sz (v i).elems⟩::l,q) | none=>none
  | .iter=>match kU head v (i+2) ni r s with | some (l,q)=>some (⟨false,.iter (zdb (v i)) (YQ (v (i+1)))⟩::l,q) | none=>none
  | .bld t e=>match kU head v (i+1) ni r s with | some (l,q)=>some (⟨false,.bld t e (zdb (v i))⟩::l,q) | none=>none
 | _,_=>none
def dec(head:Bool)(sh:Sh)(p:PSt)(v:Nat→V):Option PSt:=
 match zgy head p v 0 0 sh.slots with
 | some (tm,i,ni)=>match kU head v i ni sh.rows p.rows with
  | some (rows,_,ni)=>some ⟨tm,rows,ni,p.lim⟩
  | none=>none
 | none=>none
def vS{α β:Type}(f:α→Option (α ⊕ β)):Nat→α→Option β
 | 0,_=>none
 | n+1,a=>match f a with
  | some (.inl a')=>vS f n a'
  | some (.inr b)=>some b
  | none=>none
noncomputable def yk{α β:Type}(f:α→Option (α ⊕ β))(a:α):Option β:=open Classical in
 if h : ∃ n b,vS f n a=some b then some h.choose_spec.choose else none
def PS.sealOf:PS→PS
 | .own _ _ xs => .v (.sl xs)
 | q=>q
def Q5:List PS→List PS
 | []=>[]
 | q::r=>q.sealOf::Q5 r
def PD.sealOf:PD→PD
 | .s q => .s q.sealOf
 | .agg ps => .agg (Q5 ps)
def zkk:PTm→PTm
 | []=>[]
 | (i,f,d)::r=>(i,f,d.sealOf)::zkk r
def jN:List Row→List Row
 | []=>[]
 | ⟨_,.cells ps⟩::r=>⟨true,.cells (Q5 ps)⟩::jN r
 | ⟨_,c⟩::r=>⟨true,c⟩::jN r
def RowC.sealC:RowC→RowC
 | .cells ps => .cells (Q5 ps)
 | c=>c
/-- a row that is not stored in for a while -/
def hold(p:PSt)(k:Nat):Option PSt:=match p.rows[k]? with | some ⟨false,c⟩=>some { p with rows:=p.rows.set k ⟨true,c.sealC⟩ } | _=>none
def zfI(p:PSt)(k:Nat):PSt:=match p.rows[k]? with | some ⟨_,c⟩=>{ p with rows:=p.rows.set k ⟨false,c⟩ } | none=>p
def ze6:PO→Bool
 | .nil=>true
 | .one o r=>(match o.gd with | none=>true | some _=>false) && ze6 r
 | _=>false
def PSt.sealOf(p:PSt):PSt:=⟨zkk p.tm,jN p.rows,p.ni,p.lim⟩
/-- slots that are written -/
def xn:PO→List Nat
 | .nil=>[]
 | .one o r=>(match o.dst with | some t=>[t] | none=>[])++xn r
 | .box _ dst _ r=>dst::xn r
 | .grp _ _ ops dst _ _ r=>xn ops++dst::xn r
/-- no slot that is held is written -/
def zf6(tm:PTm):List Nat→Bool
 | []=>true
 | t::r=>(match yO tm t with | some _=>false | none=>true) && zf6 tm r
/-- groups within are guarded by what is done within -/
def Jf(W:List Nat):PO→Bool
 | .nil=>true
 | .one o r=>(match o.gd with | none=>true | some _=>false) && Jf ((match o.dst with | some t=>[t] | none=>[])++W) r
 | .box _ dst _ r=>Jf (dst::W) r
 | .grp c _ ops dst _ _ r=>hasB W c && Jf [] ops && Jf (dst::W) r
def Qx(p:PSt)(dst:Option Nat)(r:Option PD):Option PSt:=
 match dst with
 | none=>some p
 | some t=>match r with
  | some d=>match zoE p.tm t d with | some tm=>some { p with tm:=tm } | none=>none
  | none=>match zk2 p.tm t with | some tm=>some { p with tm:=tm } | none=>none
def still(md:Nat→Md):O→Bool
 | .call f _=>match md f with | .raw _=>false | _=>true
 | .alloc _ | .box _ | .store _ _ _ | .mks _ _ _ _ | .cpy _ _ _ | .nbl _ _ | .rng _ | .nxt _ | .pan _=>false
 | _=>true
def Wm(md:Nat→Md):PO→Bool
 | .nil=>true
 | .one o r=>still md o.op && Wm md r
 | .box _ _ _ _=>false
 | .grp _ _ ops _ _ _ r=>Wm md ops && Wm md r
/-- an operation that changes nothing but its slot -/
def quiet:O→Bool
 | .alloc _ | .box _ | .store _ _ _ | .mks _ _ _ _ | .app _ _ _ _ | .apz _ _ _ _ | .cpy _ _ _ | .nbl _ _ | .rng _ | .nxt _ | .pan _ | .call _ _ | .callv _ _=>false
 | _=>true
/-- values, or what goes over as such -/
def WK:PS→Bool
 | .v _ | .own _ _ _ | .full _=>true
 | _=>false
def Z8:List PS→Bool
 | []=>true
 | q::r=>WK q && Z8 r
def ZQ:List PD→Bool
 | []=>true
 | .s q::r=>WK q && ZQ r
 | .agg ps::r=>Z8 ps && ZQ r
/-- it writes no object -/
def qOk(gl:Gl)(p:PSt):O→Bool
 | .app _ _ s _=>match evH gl p s with | some (.s q)=>(match q with | .own _ _ _=>true | .full _=>true | _=>false) | _=>false
 | .apz _ _ s _=>match evH gl p s with | some (.s q)=>(match q with | .own _ _ _=>true | .full _=>true | _=>false) | _=>false
 | .call f xs=>match gl.md f with | .pl=>(match zfo gl p xs with | some ds=>ZQ ds | none=>false) | _=>false
 | o=>quiet o
/-- a row of so many cells that hold a value -/
def Jv{ρ:Type}(n:Nat)(d:PD)(K:RowC→Option ρ):Option ρ:=
 match Nat.blt 1 n with
 | true=>match d with
  | .s (.v x)=>tst (okN n x) (K (.box n x))
  | d=>wV n d fun cs=>K (.cells cs)
 | false=>wV n d fun cs=>K (.cells cs)
section
variable {ρ:Type} (gl:Gl) (pc:PcT)
def zcG(o:OpC)(p:PSt)(K:PSt→Option ρ):Option ρ:=
 match o.gd with
 | none=>Y5 gl pc p o.op fun r p'=>match Qx p' o.dst r with | some p''=>K p'' | none=>none
 | some (t,b)=>match evV gl p (.s t)with
  | some c=>(asBool c).bind fun c=>if c=b then(Y5 gl pc p o.op fun r p'=>match Qx p' o.dst r with | some p''=>K p'' | none=>none)
   else(match Qx p o.dst none with | some p''=>K p'' | none=>none)
  | none=>none
def wC:{ρ:Type}→PO→PSt→(PSt→Option ρ)→Option ρ
 | _,.nil,p,K=>K p
 | _,.one o r,p,K=>zcG gl pc o p fun p'=>wC r p' K
 | _,.box n dst x r,p,K=>match evH gl p x with
  | some d=>Jv n d (fun c=>match Qx (p.newR c) (some dst) (some (.s (.ptr p.rows.length 0)))with | some p'=>wC r p' K | none=>none)
  | none=>none
 | _,.grp c w ops dst a b r,p,K=>match evV gl p (.s c)with
  | some c=>match evH gl p b with
   | some b=>match b.pureV with
    | some b=>match zf6 p.tm (xn ops) && Jf [] ops with
     | true=>(asBool c).bind fun c=>
      ((if c=w then wC ops p.sealOf fun p'=>match evH gl p' a with | some d=>d.pureV | none=>none else some b):Option V).bind fun x=>
      match Qx p (some dst) (some (.s (.v x)))with | some p'=>wC r p' K | none=>none
     | false=>none
    | none=>none
   | none=>none
  | none=>none
def Wa:{ρ:Type}→PO→PSt→(PSt→Option ρ)→Option ρ
 | _,.nil,p,K=>K p
 | _,.one o r,p,K=>match o.gd with
  | none=>match qOk gl p o.op with
   | true=>zcG gl pc o p fun p'=>Wa r p' K
   | false=>none
  | some _=>none
 | _,_,_,_=>none
def jr:List (PEx×Sh)→PEx→Nat→Option (Nat×Sh)
 | [],_,_=>none
 | (.nrm,sh)::r,x,j=>match x with | .nrm=>some (j,sh) | x=>jr r x (j+1)
 | (.ret,sh)::r,x,j=>match x with | .ret=>some (j,sh) | x=>jr r x (j+1)
 | (.ext i,sh)::r,x,j=>match x with
  | .ext i'=>match Nat.beq i i' with | true=>some (j,sh) | false=>jr r (.ext i') (j+1)
  | x=>jr r x (j+1)
def Ky(p:PSt)(v:Nat→V)(K:PEx→PSt→Option ρ):List (PEx×Sh)→Nat→Option ρ
 | [],_=>none
 | [(x,sh)],_=>match dec false sh p v with | some p'=>K x p' | none=>none
 | (x,sh)::r,j=>if j=0 then(match dec false sh p v with | some p'=>K x p' | none=>none)else Ky p v K r (j - 1)
noncomputable def yx:{ρ:Type}→PC→PSt→(PEx→PSt→Option ρ)→Option ρ
 | _,.skip,p,K=>K .nrm p
 | _,.reg ops keep,p,K=>wC gl pc ops p fun p'=>K .nrm { p' with tm:=VN keep p'.tm }
 | _,.drw a0 a1 b keep,p,K=>wC gl pc a0 p fun p0=>match Wm gl.md a1 with
  | true=>wC gl pc a1 { p0 with rows:=jN p0.rows,lim:=p0.ni } fun p1=>wC gl pc b { p1 with rows:=p0.rows,lim:=p0.lim } fun p'=>K .nrm { p' with tm:=VN keep p'.tm }
  | false=>none
 | _,.drq a0 a1 b keep,p,K=>wC gl pc a0 p fun p0=>Wa gl pc a1 p0 fun p1=>wC gl pc b p1 fun p'=>K .nrm { p' with tm:=VN keep p'.tm }
 | _,.drf a0 t ag sz a k b1 b keep,p,K=>wC gl pc a0 p fun p0=>zcG gl pc ⟨some t,.load ag sz (.s a),none⟩ p0 fun p1=>match zb1 p1.tm a with
  | some (.s (.ptr k' _))=>match Nat.beq k k' && !Nat.beq t a && !hasB (xn b1) t && !hasB (xn b1) a && ze6 b1 with
   | true=>match hold p1 k with
    | some p2=>wC gl pc b1 p2 fun p3=>wC gl pc b (zfI p3 k) fun p'=>K .nrm { p' with tm:=VN keep p'.tm }
    | none=>none
   | false=>none
  | _=>none
 | _,.seq a b,p,K=>yx a p fun x p'=>match x with | .nrm=>yx b p' K | .ext i=>K (.ext i) p' | .ret=>K .ret p'
 | _,.cond c a b,p,K=>match evV gl p c with
  | some c=>(asBool c).bind fun c=>if c=true then yx a p K else yx b p K
  | none=>none
 | _,.blk id c,p,K=>yx c p fun x p'=>match x with
  | .nrm=>K .nrm p'
  | .ext i=>match Nat.beq i id with | true=>K .nrm p' | false=>K (.ext i) p'
  | .ret=>K .ret p'
 | _,.loop h xs c,p,K=>W6 false h p fun v0=>
  (yk (fun v:Nat→V=>match dec true h p v with
   | some pv=>yx c pv fun x p'=>match x with
    | .nrm=>W6 true h p' fun v'=>some (.inl v')
    | .ext i=>match jr xs (.ext i) 0 with | some (j,sh)=>W6 true sh p' fun v'=>some (.inr (j,v')) | none=>none
    | .ret=>match jr xs .ret 0 with | some (j,sh)=>W6 true sh p' fun v'=>some (.inr (j,v')) | none=>none
   | none=>none) v0).bind fun o:Nat×(Nat→V)=>Ky p o.2 K xs o.1
 | _,.cut h xs c,p,K=>W6 false h p fun v0=>match dec true h p v0 with
  | some pv=>(yx c pv fun x p'=>match jr xs x 0 with | some (j,sh)=>W6 true sh p' fun v'=>some (j,v') | none=>none).bind fun o:Nat×(Nat→V)=>Ky p o.2 K xs o.1
  | none=>none
 | _,.exit id,p,K=>K (.ext id) p
 | _,.ret,p,K=>K .ret p
end
def zrN:PA→PD
 | .v x => .s (.v x)
 | .p j off => .s (.ptr j off)
 | .fn f cap => .s (.fn f cap)
 | .o sz xs => .s (.own 0 sz xs)
 | .g => .s (.v .nilp)
 | .u => .s (.v .nilp)
def WD(i:Nat):List PA→PTm
 | []=>[]
 | a::r=>(i,false,zrN a)::WD (i+1) r
def je:List (Bool×Nat×V)→List Row
 | []=>[]
 | (ro,n,x)::r=>⟨ro,Jn n x⟩::je r
def ww(as:List PA)(pars:List (Bool×Nat×V)):PSt:=⟨WD 0 as,je pars,1,0⟩
def zcK{ρ:Type}(p:PSt):List R→(List V→Option ρ)→Option ρ
 | [],K=>K []
 | .tmp t::r,K=>match zb1 p.tm t with
  | some d=>match d.outV p with | some x=>zcK p r fun l=>K (x::l) | none=>none
  | none=>none
 | .cell t ag sz::r,K=>match zb1 p.tm t with
  | some a=>KL p ag sz a fun d=>match d.outV p with | some x=>zcK p r fun l=>K (x::l) | none=>none
  | none=>none
def zgd:List V→V
 | [x]=>x
 | l => .tup l
def ky(p:PSt):Nat→List (Bool×Nat×V)→Option (List V)
 | _,[]=>some []
 | j,(_,n,_)::r=>match J7 p j with
  | some c=>match zbC c with
   | some (n',x)=>match Nat.beq n' n with
    | true=>match ky p (j+1) r with | some l=>some (x::l) | none=>none
    | false=>none
   | none=>none
  | none=>none
def zpQ(res:List R)(pars:List (Bool×Nat×V))(x:PEx)(p:PSt):Option (V×List V):=
 match x with
 | .ext _=>none
 | _=>match ky p 0 pars with
  | some ys=>zcK p res fun l=>some (zgd l,ys)
  | none=>none
/-- pn: what is returned, or the panic, as a pair -/
def zgW(pn:Bool)(res:List R)(pars:List (Bool×Nat×V))(x:PEx)(p:PSt):Option (V×List V):=
 match pn with
 | false=>zpQ res pars x p
 | true=>match x with
  | .ext i=>match Nat.beq i zi with
   | true=>match ky p 0 pars with
    | some ys=>zcK p [.tmp zi] fun l=>some (.tup [.bool false,zgd l],ys)
    | none=>none
   | false=>none
  | _=>match ky p 0 pars with
   | some ys=>zcK p res fun l=>some (.tup [.bool true,zgd l],ys)
   | none=>none
/-- the result may be appended to -/
def zl5(sz:Nat)(res:List R)(x:PEx)(p:PSt):Option (V×List V):=
 match x with
 | .ext _=>none
 | _=>match res with
  | [.tmp t]=>match zb1 p.tm t with
   | some (.s (.own _ sz' xs))=>match Nat.beq sz sz' with | true=>some (.sl xs,[]) | false=>none
   | some (.s (.full xs))=>tst (yc sz xs) (some (.sl xs,[]))
   | _=>none
  | _=>none
/-- the result is told as it is -/
def zkT(res:List R)(x:PEx)(p:PSt):Option (V×List V):=
 match x with
 | .ext _=>none
 | _=>match res with
  | [.tmp t]=>match zb1 p.tm t with
   | some d=>match d.pureV with | some y=>some (y,[]) | none=>none
   | none=>none
  | _=>none
noncomputable def Z3(gl:Gl)(pc:PcT)(fn:PFn)(md:Md)(as:List PA)(pars:List (Bool×Nat×V)):Option (V×List V):=
 match md with
 | .pl=>yx gl pc fn.body (ww as pars) (zgW fn.pn fn.res pars)
 | .gv sz=>match as with
  | .g::as=>match pars with | []=>yx gl pc fn.body (ww as []) (zl5 sz fn.res) | _=>none
  | _=>none
 | .raw sz=>match as with
  | .o sz' xs::as=>match pars with
   | []=>match Nat.beq sz sz' with | true=>yx gl pc fn.body (ww (.o sz' xs::as) []) (zkT fn.res) | false=>none
   | _=>none
  | _=>none
 | .ful=>none
 | .gvf _=>none
 | .eff _=>none
def V1:List PA→Option (List V)
 | []=>some []
 | .v x::r=>match V1 r with | some l=>some (x::l) | none=>none
 | _=>none
def zcB(g:List V→Option V)(as:List PA)(pars:List (Bool×Nat×V)):Option (V×List V):=
 match pars with
 | []=>match V1 as with | some xs=>(g xs).bind fun y=>some (y,[]) | none=>none
 | _=>none
def ZK(g:List V→Option V)(md:Md)(as:List PA)(pars:List (Bool×Nat×V)):Option (V×List V):=
 match md with
 | .pl=>zcB g as pars
 | .gv _=>none
 | .gvf _=>match as with
  | .g::as=>(zcB g as pars).bind fun q=>match q.1 with | .sl []=>some q | _=>none
  | _=>none
 | .ful=>match as with
  | .u::as=>zcB g as pars
  | _=>none
 | .raw _=>none
 | .eff _=>none
noncomputable def pcN(gl:Gl)(tab:Nat→Nat→Option PFn):Nat→PcT
 | 0=>fun _ _ _=>none
 | n+1=>fun f as pars=>match tab f pars.length with
  | some fn=>Z3 gl (pcN gl tab n) fn (gl.md f) as pars
  | none=>match gl.tx f with
   | some g=>ZK g (gl.md f) as pars
   | none=>none
/-- a call -/
noncomputable def pcL(gl:Gl)(tab:Nat→Nat→Option PFn):PcT:=fun f as pars=>open Classical in
 if h : ∃ n r,pcN gl tab n f as pars=some r then some h.choose_spec.choose else none
end Go.Ev
end
section
namespace Go.Ev
theorem zeW(d:D):cl0L d.cells=d.cl0.cells:=by cases d<;>simp[D.cells,D.cl0,cl0L]
theorem jn(x:V):x.toD.cells=toDL x.parts:=by cases x<;>simp[V.toD,D.cells,V.parts,toDL]
theorem K8{d:D}(h:d.cl0.oneCell=true):d.oneCell=true:=by cases d<;>simp_all [D.cl0,D.oneCell]
theorem zkw{x:V}(h:x.one=true):x.toD.oneCell=true:=by cases x<;>simp_all [V.one,V.toD,D.oneCell]
theorem wX{ds:List D}{xs:List V}(h:cl0L ds=toDL xs)(hx:yy xs=true):z8 ds=true:=by
 induction ds generalizing xs with
 | nil=>rfl
 | cons d r ih=>
  cases xs with
  | nil=>simp[cl0L,toDL]at h
  | cons x s=>
   simp only[cl0L,toDL,List.cons.injEq]at h
   simp only[yy,zG]at hx
   simp only[z8,zG]
   exact⟨K8 (by rw[h.1];exact zkw hx.1),ih h.2 hx.2⟩
theorem xD(xs:List V):(toDL xs).length=xs.length:=by induction xs<;>simp_all [toDL]
theorem JH(xs:List V)(i:Nat):(toDL xs)[i]?=(xs[i]?).map V.toD:=by
 induction xs generalizing i with
 | nil=>simp[toDL]
 | cons x r ih=>cases i<;>simp_all [toDL]
theorem kG(xs ys:List V):toDL (xs++ys)=toDL xs++toDL ys:=by induction xs<;>simp_all [toDL]
theorem Vl(xs:List V)(i:Nat):(toDL xs).take i=toDL (xs.take i):=by
 induction xs generalizing i with
 | nil=>simp[toDL]
 | cons x r ih=>cases i<;>simp_all [toDL]
theorem j6(xs:List V)(i:Nat):(toDL xs).drop i=toDL (xs.drop i):=by
 induction xs generalizing i with
 | nil=>simp[toDL]
 | cons x r ih=>cases i<;>simp_all [toDL]
theorem vA(xs ys:List D):cl0L (xs++ys)=cl0L xs++cl0L ys:=by induction xs<;>simp_all [cl0L]
theorem vY(xs:List D)(i:Nat):cl0L (xs.take i)=(cl0L xs).take i:=by
 induction xs generalizing i with
 | nil=>simp[cl0L]
 | cons x r ih=>cases i<;>simp_all [cl0L]
theorem vq(xs:List D)(i:Nat):cl0L (xs.drop i)=(cl0L xs).drop i:=by
 induction xs generalizing i with
 | nil=>simp[cl0L]
 | cons x r ih=>cases i<;>simp_all [cl0L]
theorem wj(xs ys:List V):flatD (xs++ys)=flatD xs++flatD ys:=by induction xs<;>simp_all [flatD]
theorem kF(sz:Nat)(xs ys:List V):yc sz (xs++ys)=(yc sz xs && yc sz ys):=by
 induction xs with
 | nil=>simp[yc]
 | cons x r ih=>simp[yc,ih,Bool.and_assoc]
theorem yH{sz:Nat}{x:V}{r:List V}:yc sz (x::r)=true↔okN sz x=true∧yc sz r=true:=by simp[yc]
theorem Zp{sz:Nat}{xs:List V}(h:yc sz xs=true)(i:Nat):yc sz (xs.take i)=true:=by
 induction xs generalizing i with
 | nil=>simp[yc]
 | cons x r ih=>cases i with
  | zero=>simp[yc]
  | succ i=>rw[List.take_succ_cons];exact yH.2 ⟨(yH.1 h).1,ih (yH.1 h).2 i⟩
theorem jm{sz:Nat}{xs:List V}(h:yc sz xs=true)(i:Nat):yc sz (xs.drop i)=true:=by
 induction xs generalizing i with
 | nil=>simp[yc]
 | cons x r ih=>cases i with
  | zero=>exact h
  | succ i=>rw[List.drop_succ_cons];exact ih (yH.1 h).2 i
theorem ZA{sz:Nat}{xs:List V}(h:yc sz xs=true){i:Nat}{x:V}(hi:xs[i]?=some x):okN sz x=true:=by
 induction xs generalizing i with
 | nil=>simp at hi
 | cons y r ih=>cases i with
  | zero=>simp at hi;subst hi;exact(yH.1 h).1
  | succ i=>exact ih (yH.1 h).2 (by simpa using hi)
theorem Xb{sz:Nat}{xs:List V}(h:yc sz xs=true){i:Nat}{x:V}(hx:okN sz x=true):yc sz (xs.set i x)=true:=by
 induction xs generalizing i with
 | nil=>simp[yc]
 | cons y r ih=>cases i with
  | zero=>exact yH.2 ⟨hx,(yH.1 h).2⟩
  | succ i=>exact yH.2 ⟨(yH.1 h).1,ih (yH.1 h).2⟩
theorem Q9{sz n:Nat}{x:V}(hx:okN sz x=true):yc sz (List.replicate n x)=true:=by
 induction n with
 | zero=>simp[yc]
 | succ n ih=>rw[List.replicate_succ];exact yH.2 ⟨hx,ih⟩
theorem y1{n:Nat}{x:V}(h:okN n x=true):x.parts.length=n:=by
 simp only[okN,zG]at h;exact zJ h.1
theorem xM{n:Nat}{x:V}(h:okN n x=true):yy x.parts=true:=by simp only[okN,zG]at h;exact h.2
theorem YL{n:Nat}{x:V}(h:x.parts.length=n)(k:yy x.parts=true):okN n x=true:=by
 simp only[okN,zG];exact⟨by rw[h];exact Nat.beq_refl n,k⟩
theorem xb{sz:Nat}{xs:List V}(h:yc sz xs=true):(flatD xs).length=xs.length * sz:=by
 induction xs with
 | nil=>simp[flatD]
 | cons x r ih=>
  simp only[flatD,zZ,List.length_cons]
  rw[ih (yH.1 h).2,jn,xD,y1 (yH.1 h).1,Nat.add_mul,Nat.one_mul,Nat.add_comm]
theorem vF{sz:Nat}{xs:List V}(h:yc sz xs=true)(i:Nat):(flatD xs).drop (i * sz)=flatD (xs.drop i):=by
 induction xs generalizing i with
 | nil=>simp[flatD]
 | cons x r ih=>cases i with
  | zero=>simp
  | succ i=>
   simp only[flatD,List.drop_succ_cons]
   have hl:(x.toD.cells).length=sz:=by rw[jn,xD,y1 (yH.1 h).1]
   rw[show(i+1) * sz=sz+i * sz by rw[Nat.add_mul,Nat.one_mul,Nat.add_comm],← List.drop_drop]
   rw[← ih (yH.1 h).2,List.drop_left' hl]
theorem qr{sz:Nat}{xs:List V}(h:yc sz xs=true)(i:Nat):(flatD xs).take (i * sz)=flatD (xs.take i):=by
 induction xs generalizing i with
 | nil=>simp[flatD]
 | cons x r ih=>cases i with
  | zero=>simp[flatD]
  | succ i=>
   simp only[flatD,List.take_succ_cons]
   have hl:(x.toD.cells).length=sz:=by rw[jn,xD,y1 (yH.1 h).1]
   rw[← ih (yH.1 h).2,show(i+1) * sz=sz+i * sz by rw[Nat.add_mul,Nat.one_mul,Nat.add_comm]]
   rw[List.take_append,hl,zV (by omega)]
   congr 2;omega
theorem zct{xs:List V}{i:Nat}{x:V}(h:xs[i]?=some x):flatD (xs.drop i)=toDL x.parts++flatD (xs.drop (i+1)):=by
 have hi:i<xs.length:=by
  rcases Nat.lt_or_ge i xs.length with h' | h'
  ·exact h'
  ·rw[List.getElem?_eq_none h']at h;simp at h
 rw[zO hi]
 have:xs[i]=x:=by rw[zL hi]at h;injection h
 rw[this];simp[flatD,jn]
theorem zln(n:Nat)(x:V):flatD (List.replicate n x)=rep n (toDL x.parts):=by
 induction n with
 | zero=>simp[flatD,rep]
 | succ n ih=>simp[List.replicate_succ,flatD,ih,rep,jn]
theorem KO(l:List UInt8):flatD (ZV l)=ofBytes l:=by
 induction l with
 | nil=>rfl
 | cons b r ih=>simp_all [ZV,ofBytes,flatD,V.toD,D.cells]
theorem zjc(l:List UInt8):yc 1 (ZV l)=true:=by
 induction l with
 | nil=>rfl
 | cons b r ih=>exact yH.2 ⟨rfl,ih⟩
/- nothing in a pure value is told in place -/
mutual
def D.noU:D→Bool
 | .und=>false
 | .sl _ _ xs=>noUL xs
 | .agg xs=>noUL xs
 | .tup xs=>noUL xs
 | .iface _ d=>d.noU
 | _=>true
def noUL:List D→Bool
 | []=>true
 | d::r=>d.noU && noUL r
end
mutual
theorem J8(m:Mem) : ∀ d:D,d.cl0.noU=true→d.cl m=d.cl0∧d.refs=[]
 | .und,h=>by simp[D.cl0,D.noU]at h
 | .off,_=>⟨rfl,rfl⟩
 | .bool _,_=>⟨rfl,rfl⟩
 | .int _ _,_=>⟨rfl,rfl⟩
 | .float _ _,_=>⟨rfl,rfl⟩
 | .str _,_=>⟨rfl,rfl⟩
 | .nilp,_=>⟨rfl,rfl⟩
 | .nilf,_=>⟨rfl,rfl⟩
 | .nili,_=>⟨rfl,rfl⟩
 | .sl g n xs,h=>by
  have:=clL_of_noU m xs (by simpa[D.cl0,D.noU]using h)
  simp[D.cl,D.cl0,D.refs,this.1,this.2]
 | .ref _ _ _ _ _,h=>by simp[D.cl0,D.noU]at h
 | .ptr _ _,_=>⟨rfl,rfl⟩
 | .el _,_=>⟨rfl,rfl⟩
 | .agg xs,h=>by
  have:=clL_of_noU m xs (by simpa[D.cl0,D.noU]using h)
  simp[D.cl,D.cl0,D.refs,this.1,this.2]
 | .tup xs,h=>by
  have:=clL_of_noU m xs (by simpa[D.cl0,D.noU]using h)
  simp[D.cl,D.cl0,D.refs,this.1,this.2]
 | .fn _ _,_=>⟨rfl,rfl⟩
 | .iface t d,h=>by
  have:=J8 m d (by simpa[D.cl0,D.noU]using h)
  simp[D.cl,D.cl0,D.refs,this.1,this.2]
theorem clL_of_noU(m:Mem) : ∀ l:List D,noUL (cl0L l)=true→clL m l=cl0L l∧refsL l=[]
 | [],_=>⟨rfl,rfl⟩
 | d::r,h=>by
  simp only[cl0L,noUL,zG]at h
  have h1:=J8 m d h.1
  have h2:=clL_of_noU m r h.2
  simp[clL,cl0L,refsL,h1.1,h1.2,h2.1,h2.2]
end
theorem zgC(a b:List D):noUL (a++b)=(noUL a && noUL b):=by
 induction a with
 | nil=>simp[noUL]
 | cons x r ih=>simp[noUL,ih,Bool.and_assoc]
theorem zl3{d:D}(h:d.noU=true):noUL d.cells=true:=by cases d<;>simp_all [D.cells,D.noU,noUL]
mutual
theorem za4 : ∀ x:V,x.toD.noU=true
 | .bool _=>rfl
 | .int _ _=>rfl
 | .float _ _=>rfl
 | .str _=>rfl
 | .nilp=>rfl
 | .nilf=>rfl
 | .nili=>rfl
 | .sl xs=>by simp only[V.toD,D.noU];exact flatD_noU xs
 | .agg xs=>by simp only[V.toD,D.noU];exact toDL_noU xs
 | .tup xs=>by simp only[V.toD,D.noU];exact toDL_noU xs
 | .fn _ _=>rfl
 | .iface _ x=>by simp only[V.toD,D.noU];exact za4 x
theorem toDL_noU : ∀ l:List V,noUL (toDL l)=true
 | []=>rfl
 | x::r=>by simp only[toDL,noUL,za4 x,toDL_noU r,Bool.and_self]
theorem flatD_noU : ∀ l:List V,noUL (flatD l)=true
 | []=>rfl
 | x::r=>by simp only[flatD,zgC,zl3 (za4 x),flatD_noU r,Bool.and_self]
end
theorem zih{x:V}{d:D}(h:d.cl0=x.toD)(m:Mem):d.cl m=x.toD∧d.refs=[]:=by
 have:=J8 m d (by rw[h];exact za4 x)
 exact⟨this.1.trans h,this.2⟩
theorem zmv{xs:List V}{ds:List D}(h:cl0L ds=flatD xs)(m:Mem):clL m ds=flatD xs∧refsL ds=[]:=by
 have:=clL_of_noU m ds (by rw[h];exact flatD_noU xs)
 exact⟨this.1.trans h,this.2⟩
theorem zmu{xs:List V}{ds:List D}(h:cl0L ds=toDL xs)(m:Mem):clL m ds=toDL xs∧refsL ds=[]:=by
 have:=clL_of_noU m ds (by rw[h];exact toDL_noU xs)
 exact⟨this.1.trans h,this.2⟩
mutual
theorem Xj : ∀ x:V,x.toD.cl0=x.toD
 | .bool _=>rfl
 | .int _ _=>rfl
 | .float _ _=>rfl
 | .str _=>rfl
 | .nilp=>rfl
 | .nilf=>rfl
 | .nili=>rfl
 | .sl xs=>by simp only[V.toD,D.cl0,flatD_cl0]
 | .agg xs=>by simp only[V.toD,D.cl0,toDL_cl0]
 | .tup xs=>by simp only[V.toD,D.cl0,toDL_cl0]
 | .fn _ _=>rfl
 | .iface _ x=>by simp only[V.toD,D.cl0,Xj]
theorem toDL_cl0 : ∀ l:List V,cl0L (toDL l)=toDL l
 | []=>rfl
 | x::r=>by simp only[toDL,cl0L,Xj x,toDL_cl0 r]
theorem flatD_cl0 : ∀ l:List V,cl0L (flatD l)=flatD l
 | []=>rfl
 | x::r=>by simp only[flatD,vA,zeW,Xj x,flatD_cl0 r]
end
/- what handles stand for -/
def RC(ρ:Nat→Nat)(m:Nat):CP→D→Prop
 | .v x,d=>d.cl0=x.toD
 | .p k off,d=>k<m∧d = .ptr (ρ k) off
def RCL(ρ:Nat→Nat)(m:Nat):List CP→List D→Prop
 | [],[]=>True
 | q::r,d::s=>RC ρ m q d∧RCL ρ m r s
 | _,_=>False
def yf(rows:List Row)(k:Nat):Option (Nat×Nat):=match rows[k]? with | some ⟨_,.arr _ sz xs⟩=>some (sz,xs.length) | _=>none
/-- what a relation leans on: names of rows, lineages, the rows, the tips -/
structure Cx where
 ρ:Nat→Nat
 τ:Nat→Option Nat
 m:Nat
 rk:Nat→Option (Nat×Nat)
 tip:Nat→Option Nat
 ni:Nat
def RS(c:Cx):PS→D→Prop
 | .v x,d=>d.cl0=x.toD
 | .own id sz xs,d => ∃ g ds,d = .sl g xs.length ds∧cl0L ds=flatD xs∧yc sz xs=true∧id<c.ni∧(g = .full ∨ ∃ l,g = .ln l sz∧c.τ id=some l∧c.tip l=some xs.length)
 | .full xs,d => ∃ ds,d = .sl .full xs.length ds∧cl0L ds=flatD xs
 | .ptr k off,d=>k<c.m∧d = .ptr (c.ρ k) off
 | .ptrA k sz i off,d=>k<c.m∧d = .ptr (c.ρ k) (i * sz+off) ∧ ∀ s n,c.rk k=some (s,n)→s=sz∧i<n
 | .ref k sz off n cp z,d=>k<c.m∧n≤cp∧(d = .ref (c.ρ k) (off * sz) n cp sz∧(z=false∨0<cp)∨cp=0∧d = .sl .full 0 []∧z=true) ∧ ∀ s l,c.rk k=some (s,l)→s=sz∧off+cp≤l
 | .el cs,d => ∃ ds,d = .el ds∧toDL cs <+: cl0L ds
 | .elx sz x off,d=>okN sz x=true ∧ ∃ ds,d = .el ds∧(toDL x.parts).drop off <+: cl0L ds
 | .fn f cap,d => ∃ ds,d = .fn f ds∧RCL c.ρ c.m cap ds
def RSL(c:Cx):List PS→List D→Prop
 | [],[]=>True
 | q::r,d::s=>RS c q d∧RSL c r s
 | _,_=>False
def RP(c:Cx):PD→D→Prop
 | .s q,d=>RS c q d
 | .agg ps,d => ∃ ds,d = .agg ds∧RSL c ps ds∧z8 ds=true
def RO(c:Cx):Option PD→Option D→Prop
 | none,none=>True
 | some d,some e=>RP c d e
 | _,_=>False
def Fz.ok:Fz→Bool→Prop
 | .no,b=>b=false
 | .may,_=>True
 | .yes,b=>b=true
def RW(c:Cx):RowC→Ob→Prop
 | .box n x,o => ∃ ds,o = .row ds false∧cl0L ds=toDL x.parts∧okN n x=true
 | .cells ps,o => ∃ ds,o = .row ds false∧RSL c ps ds∧z8 ds=true
 | .arr fz sz xs,o => ∃ ds b,o = .row ds b∧fz.ok b∧cl0L ds=flatD xs∧yc sz xs=true
 | .iter s pos,o=>o = .iter s pos
 | .bld t e s,o=>o = .bld t e s
 | .dead,_=>True
def zx(ρ:Nat→Nat)(τ:Nat→Option Nat)(p:PSt)(st:St):Cx:=⟨ρ,τ,p.rows.length,yf p.rows,st.tip,p.ni⟩
structure Sim(ρ:Nat→Nat)(τ:Nat→Option Nat)(p:PSt)(st:St):Prop where
 tm : ∀ t f d,yO p.tm t=some (f,d) → ∃ e,get st.tm t=some e∧RP (zx ρ τ p st) d e
 nx : ∀ k,k<p.rows.length→ρ k<st.nx
 rows : ∀ k r,p.rows[k]?=some r → ∃ o,(r.c = .dead∨st.mem (ρ k)=some o)∧RW (zx ρ τ p st) r.c o
 inj : ∀ j k,j<p.rows.length→k<p.rows.length→ρ j=ρ k→j=k
 lin : ∀ i l,τ i=some l→i<p.ni∧l<st.nx
 linj : ∀ i j l,τ i=some l→τ j=some l→i=j
theorem Ym{c:Cx}{ps:List PS}{ds:List D}(h:RSL c ps ds):ps.length=ds.length:=by
 induction ps generalizing ds with
 | nil=>cases ds with | nil=>rfl | cons d s=>exact h.elim
 | cons q r ih=>cases ds with | nil=>exact h.elim | cons d s=>simp[ih h.2]
theorem zkd{c:Cx}{ps:List PS}{ds:List D}(h:RSL c ps ds){i:Nat}{q:PS}(hi:ps[i]?=some q) : ∃ d,ds[i]?=some d∧RS c q d:=by
 induction ps generalizing ds i with
 | nil=>simp at hi
 | cons p r ih=>cases ds with
  | nil=>exact h.elim
  | cons d s=>cases i with
   | zero=>simp at hi;subst hi;exact⟨d,by simp,h.1⟩
   | succ i=>simpa using ih h.2 (by simpa using hi)
theorem zcV{c:Cx}{ps:List PS}{ds:List D}(h:RSL c ps ds)(n:Nat):RSL c (ps.take n) (ds.take n):=by
 induction ps generalizing ds n with
 | nil=>cases ds with | nil=>simpa using h | cons d s=>exact h.elim
 | cons p r ih=>cases ds with
  | nil=>exact h.elim
  | cons d s=>cases n with
   | zero=>simp[RSL]
   | succ n=>exact⟨h.1,ih h.2 n⟩
theorem zca{c:Cx}{ps:List PS}{ds:List D}(h:RSL c ps ds)(n:Nat):RSL c (ps.drop n) (ds.drop n):=by
 induction ps generalizing ds n with
 | nil=>cases ds with | nil=>simpa using h | cons d s=>exact h.elim
 | cons p r ih=>cases ds with
  | nil=>exact h.elim
  | cons d s=>cases n with
   | zero=>exact h
   | succ n=>exact ih h.2 n
theorem zco{c:Cx}{ps qs:List PS}{ds es:List D}(h:RSL c ps ds)(k:RSL c qs es):RSL c (ps++qs) (ds++es):=by
 induction ps generalizing ds with
 | nil=>cases ds with | nil=>simpa using k | cons d s=>exact h.elim
 | cons p r ih=>cases ds with
  | nil=>exact h.elim
  | cons d s=>exact⟨h.1,ih h.2⟩
theorem zfi{c:Cx}{ps qs:List PS}{ds es:List D}(h:RSL c ps ds)(k:RSL c qs es)(o:Nat):RSL c (xR ps o qs) (vN ds o es):=by
 unfold xR vN
 rw[Ym k]
 exact zco (zco (zcV h o) k) (zca h _)
theorem zkI{c:Cx}{xs:List V}{ds:List D}(h:cl0L ds=toDL xs):RSL c (xs.map PS.v) ds:=by
 induction xs generalizing ds with
 | nil=>cases ds with | nil=>trivial | cons d s=>simp[cl0L,toDL]at h
 | cons x r ih=>cases ds with
  | nil=>simp[cl0L,toDL]at h
  | cons d s=>simp only[cl0L,toDL,List.cons.injEq]at h;exact⟨h.1,ih h.2⟩
theorem zoJ{c:Cx}{ps:List PS}{ds:List D}(h:RSL c ps ds){l:List V}(k:zmQ ps=some l):cl0L ds=toDL l:=by
 induction ps generalizing ds l with
 | nil=>cases ds with
  | nil=>simp[zmQ]at k;subst k;rfl
  | cons d s=>exact h.elim
 | cons p r ih=>cases ds with
  | nil=>exact h.elim
  | cons d s=>
   cases p<;>simp only[zmQ]at k<;>try contradiction
   split at k<;>simp at k
   rename_i l' hl
   subst k
   simp only[cl0L,toDL,ih h.2 hl]
   rw[show d.cl0=_ from h.1]
theorem JC{c:Cx}{ps:List PS}{ds:List D}(h:RSL c ps ds)(h1:z8 ds=true):RP c (zef ps) (.agg ds):=by
 unfold zef
 split
 ·next l hl=>show(D.agg ds).cl0=_;simp only[D.cl0,V.toD,zoJ h hl]
 ·exact⟨ds,rfl,h,h1⟩
theorem PS.pure_ok{c:Cx}{q:PS}{d:D}(h:RS c q d){x:V}(k:q.pure=some x):d.cl0=x.toD:=by
 cases q
 case fn f cap=>
  simp only[PS.pure]at k
  split at k<;>try contradiction
  injection k with k;subst k
  obtain⟨ds,rfl,hd⟩:=h
  cases ds with
  | nil=>rfl
  | cons _ _=>exact hd.elim
 all_goals simp[PS.pure]at k
 all_goals subst k
 ·exact h
 ·obtain⟨g,ds,rfl,hd,_,_⟩:=h;simp[D.cl0,V.toD,hd]
 ·obtain⟨ds,rfl,hd⟩:=h;simp[D.cl0,V.toD,hd]
theorem W4{c:Cx}{ps:List PS}{ds:List D}(h:RSL c ps ds){l:List V}(k:j1 ps=some l):cl0L ds=toDL l:=by
 induction ps generalizing ds l with
 | nil=>cases ds with
  | nil=>simp[j1]at k;subst k;rfl
  | cons d s=>exact h.elim
 | cons p r ih=>cases ds with
  | nil=>exact h.elim
  | cons d s=>
   simp only[j1]at k
   split at k<;>try contradiction
   split at k<;>try contradiction
   next x hx _ l' hl=>
    injection k with k;subst k
    simp only[cl0L,toDL,ih h.2 hl,PS.pure_ok h.1 hx]
theorem PD.pure_ok{c:Cx}{q:PD}{d:D}(h:RP c q d){x:V}(k:q.pureV=some x):d.cl0=x.toD:=by
 cases q with
 | s q=>exact PS.pure_ok h k
 | agg ps=>
  obtain⟨ds,rfl,hd,_⟩:=h
  simp only[PD.pureV]at k
  split at k<;>try contradiction
  next l hl=>injection k with k;subst k;simp only[D.cl0,V.toD,W4 hd hl]
/- constants -/
mutual
theorem zgc : ∀ (d:D) (x:V),ofD d=some x→d.cl0=x.toD
 | .und,x,h=>by simp[ofD]at h
 | .off,x,h=>by simp[ofD]at h
 | .bool _,x,h=>by simp[ofD]at h;subst h;rfl
 | .int _ _,x,h=>by simp[ofD]at h;subst h;rfl
 | .float _ _,x,h=>by simp[ofD]at h;subst h;rfl
 | .str _,x,h=>by simp[ofD]at h;subst h;rfl
 | .nilp,x,h=>by simp[ofD]at h;subst h;rfl
 | .nilf,x,h=>by simp[ofD]at h;subst h;rfl
 | .nili,x,h=>by simp[ofD]at h;subst h;rfl
 | .sl _ _ _,x,h=>by simp[ofD]at h
 | .ref _ _ _ _ _,x,h=>by simp[ofD]at h
 | .ptr _ _,x,h=>by simp[ofD]at h
 | .el _,x,h=>by simp[ofD]at h
 | .agg ds,x,h=>by
  simp only[ofD]at h
  split at h<;>try contradiction
  next l hl=>injection h with h;subst h;simp only[D.cl0,V.toD,ofDL_ok ds l hl]
 | .tup _,x,h=>by simp[ofD]at h
 | .fn f c,x,h=>by
  simp only[ofD]at h
  split at h<;>try contradiction
  injection h with h;subst h;rfl
 | .iface t d,x,h=>by
  simp only[ofD]at h
  split at h<;>try contradiction
  next y hy=>injection h with h;subst h;simp only[D.cl0,V.toD,zgc d y hy]
theorem ofDL_ok : ∀ (l:List D) (xs:List V),ofDL l=some xs→cl0L l=toDL xs
 | [],xs,h=>by simp[ofDL]at h;subst h;rfl
 | d::r,xs,h=>by
  simp only[ofDL]at h
  split at h<;>try contradiction
  split at h<;>try contradiction
  next x hx _ l hl=>injection h with h;subst h;simp only[cl0L,toDL,zgc d x hx,ofDL_ok r l hl]
end
theorem zen{c:Cx}{d:D}{q:PS}(h:Kp d=some q):RS c q d:=by
 unfold Kp at h
 split at h
 ·injection h with h;subst h;exact⟨[],rfl,rfl⟩
 ·injection h with h;subst h;exact⟨[],rfl,trivial⟩
 ·split at h<;>try contradiction
  next x hx=>injection h with h;subst h;exact zgc _ _ hx
theorem W9{c:Cx}{ds:List D}{l:List PS}(h:Yz ds=some l):RSL c l ds:=by
 induction ds generalizing l with
 | nil=>simp[Yz]at h;subst h;trivial
 | cons d r ih=>
  simp only[Yz]at h
  split at h<;>try contradiction
  split at h<;>try contradiction
  next x hx _ l' hl=>injection h with h;subst h;exact⟨zen hx,ih hl⟩
theorem zju{d:D}{q:PS}(h:Kp d=some q)(k:q.oneP=true):d.oneCell=true:=by
 unfold Kp at h
 split at h
 ·rfl
 ·rfl
 ·split at h<;>try contradiction
  next x hx=>
   injection h with h;subst h
   exact K8 (by rw[zgc _ _ hx];exact zkw k)
theorem Xl{ds:List D}{l:List PS}(h:Yz ds=some l)(k:ziT l=true):z8 ds=true:=by
 induction ds generalizing l with
 | nil=>rfl
 | cons d r ih=>
  simp only[Yz]at h
  split at h<;>try contradiction
  split at h<;>try contradiction
  next x hx _ l' hl=>
   injection h with h;subst h
   simp only[ziT,zG]at k
   simp only[z8,zG]
   exact⟨zju hx k.1,ih hl k.2⟩
theorem zlR{c:Cx}{d:D}{q:PD}(h:zjy d=some q):RP c q d:=by
 unfold zjy at h
 split at h
 ·split at h<;>try contradiction
  split at h<;>try contradiction
  next l hl _ h1=>injection h with h;subst h;exact JC (W9 hl) (Xl hl h1)
 ·split at h<;>try contradiction
  next q hq=>injection h with h;subst h;exact zen hq
def GlR(E:Env)(gl:Gl):Prop := ∀ n cs,gl.g n=some cs → ∃ ds,E.gl n=some ds∧toDL cs <+: cl0L ds
theorem qE(tm:PTm)(t:Nat):zb1 tm t=(yO tm t).map (·.2):=by
 induction tm with
 | nil=>rfl
 | cons e r ih=>
  obtain⟨i,f,d⟩:=e
  simp only[zb1,yO]
  cases i.beq t
  ·exact ih
  ·rfl
theorem yt{E:Env}{gl:Gl}(hg:GlR E gl){ρ τ p st}(hS:Sim ρ τ p st){x:X}{d:PD}(h:evH gl p x=some d) : ∃ e,ev E st.tm x=some e∧RP (zx ρ τ p st) d e:=by
 cases x with
 | s t=>
  simp only[evH,qE,zB]at h
  obtain⟨⟨f,d'⟩,h1,rfl⟩:=h
  obtain⟨e,he,hr⟩:=hS.tm t f d' h1
  exact⟨e,he,hr⟩
 | k c=>exact⟨c,rfl,zlR h⟩
 | g n=>
  simp only[evH]at h
  split at h<;>try contradiction
  next cs hc=>
   injection h with h;subst h
   obtain⟨ds,h1,h2⟩:=hg n cs hc
   exact⟨.el ds,by simp[ev,h1],ds,rfl,h2⟩
theorem y5{E:Env}{gl:Gl}(hg:GlR E gl){ρ τ p st}(hS:Sim ρ τ p st){x:X}{v:V}(h:evV gl p x=some v) : ∃ e,ev E st.tm x=some e∧e.cl0=v.toD:=by
 unfold evV at h
 split at h<;>try contradiction
 next y hy=>injection h with h;subst h;exact yt hg hS hy
theorem zkx{E:Env}{gl:Gl}(hg:GlR E gl){ρ τ p st}(hS:Sim ρ τ p st){xs:List X}{l:List V}(h:zlp gl p xs=some l) : ∃ es,evL E st.tm xs=some es∧cl0L es=toDL l:=by
 induction xs generalizing l with
 | nil=>simp[zlp]at h;subst h;exact⟨[],rfl,rfl⟩
 | cons x r ih=>
  simp only[zlp]at h
  split at h<;>try contradiction
  split at h<;>try contradiction
  next v hv _ l' hl=>
   injection h with h;subst h
   obtain⟨e,h1,h2⟩:=y5 hg hS hv
   obtain⟨es,h3,h4⟩:=ih hl
   exact⟨e::es,by simp[evL,h1,h3],by simp[cl0L,toDL,h2,h4]⟩
theorem Z6{E:Env}{gl:Gl}(hg:GlR E gl){ρ τ p st}(hS:Sim ρ τ p st){x:Option X}{v:Option V}(h:zbO gl p x=some v) : ∃ e,evO E st.tm x=some e∧e.map D.cl0=v.map V.toD:=by
 cases x with
 | none=>simp[zbO]at h;subst h;exact⟨none,rfl,rfl⟩
 | some x=>
  simp only[zbO]at h
  split at h<;>try contradiction
  next d hd=>
   injection h with h;subst h
   obtain⟨e,h1,h2⟩:=y5 hg hS hd
   exact⟨some e,by simp[evO,h1],by simp[h2]⟩
def RPL(c:Cx):List PD→List D→Prop
 | [],[]=>True
 | q::r,d::s=>RP c q d∧RPL c r s
 | _,_=>False
theorem QX{E:Env}{gl:Gl}(hg:GlR E gl){ρ τ p st}(hS:Sim ρ τ p st){xs:List X}{l:List PD}(h:zfo gl p xs=some l) : ∃ es,evL E st.tm xs=some es∧RPL (zx ρ τ p st) l es:=by
 induction xs generalizing l with
 | nil=>simp[zfo]at h;subst h;exact⟨[],rfl,trivial⟩
 | cons x r ih=>
  simp only[zfo]at h
  split at h<;>try contradiction
  split at h<;>try contradiction
  next v hv _ l' hl=>
   injection h with h;subst h
   obtain⟨e,h1,h2⟩:=yt hg hS hv
   obtain⟨es,h3,h4⟩:=ih hl
   exact⟨e::es,by simp[evL,h1,h3],h2,h4⟩
end Go.Ev
end
section
namespace Go.Ev
theorem zg3{d:D}{b:Bool}(h:d.cl0 = .bool b):d = .bool b:=by cases d<;>simp_all [D.cl0]
theorem wL{d:D}{k:IntKind}{n:Int}(h:d.cl0 = .int k n):d = .int k n:=by cases d<;>simp_all [D.cl0]
theorem zeY{d:D}{k:FloatKind}{b:Nat}(h:d.cl0 = .float k b):d = .float k b:=by cases d<;>simp_all [D.cl0]
theorem Ya{d:D}{s:List UInt8}(h:d.cl0 = .str s):d = .str s:=by cases d<;>simp_all [D.cl0]
theorem zrc{d:D}{f:Nat}{l:List D}(h:d.cl0 = .fn f l):d = .fn f l:=by cases d<;>simp_all [D.cl0]
theorem zog{d:D}{g:Tg}{n:Nat}{l:List D}(h:d.cl0 = .sl g n l) : ∃ g' l',d = .sl g' n l'∧cl0L l'=l:=by
 cases d
 case sl g' n' l'=>simp only[D.cl0,D.sl.injEq]at h;exact⟨g',l',by rw[h.2.1],h.2.2⟩
 all_goals simp[D.cl0]at h
theorem za3{d:D}{l:List D}(h:d.cl0 = .agg l) : ∃ l',d = .agg l'∧cl0L l'=l:=by cases d<;>simp_all [D.cl0]
theorem zkE{d:D}{l:List D}(h:d.cl0 = .tup l) : ∃ l',d = .tup l'∧cl0L l'=l:=by cases d<;>simp_all [D.cl0]
theorem zaV{ds:List D}{xs:List V}(h:cl0L ds=toDL xs){i:Nat}{x:V}(hi:xs[i]?=some x) : ∃ d,ds[i]?=some d∧d.cl0=x.toD:=by
 have h1:=congrArg (fun l:List D=>l[i]?) h
 simp only[ZI,JH,hi,zC]at h1
 cases hd:ds[i]? with
 | none=>rw[hd]at h1;simp at h1
 | some d=>rw[hd]at h1;exact⟨d,rfl,by simpa using h1⟩
theorem zfW{ds:List D}{xs:List V}(h:toDL xs <+: cl0L ds){i:Nat}{x:V}(hi:xs[i]?=some x) : ∃ d,ds[i]?=some d∧d.cl0=x.toD:=by
 obtain⟨t,ht⟩:=h
 have hl:i<xs.length:=by
  rcases Nat.lt_or_ge i xs.length with h' | h'
  ·exact h'
  ·rw[List.getElem?_eq_none h']at hi;simp at hi
 have h1:(cl0L ds)[i]?=some x.toD:=by
  rw[← ht,List.getElem?_append_left (by rw[xD];exact hl),JH,hi];rfl
 rw[ZI]at h1
 cases hd:ds[i]? with
 | none=>rw[hd]at h1;simp at h1
 | some d=>rw[hd]at h1;exact⟨d,rfl,by simpa using h1⟩
theorem zc8{ds:List D}{xs:List V}(h:toDL xs <+: cl0L ds){n:Nat}(hn:n≤xs.length):n≤ds.length∧cl0L (ds.take n)=toDL (xs.take n):=by
 obtain⟨t,ht⟩:=h
 have hl:xs.length≤ds.length:=by
  have:=congrArg List.length ht
  simp[xD,yG]at this;omega
 refine⟨by omega,?_⟩
 rw[vY,← ht,List.take_append_of_le_length (by rw[xD];exact hn),Vl]
theorem JG{ds:List D}{ys:List D}(h:ys <+: cl0L ds)(n:Nat):ys.drop n <+: cl0L (ds.drop n):=by
 obtain⟨t,ht⟩:=h
 rw[vq,← ht,List.drop_append]
 exact List.prefix_append _ _
theorem znc(op:BinOp)(k:IntKind)(a b:Int):intD op k a b=(WJ op k a b).map V.toD:=by
 cases op<;>simp only[WJ,intD,zC,V.toD]<;>split<;>rfl
theorem zm5(op:BinOp)(a b:List UInt8):znY op a b=(zqS op a b).map V.toD:=by
 cases op<;>simp only[zqS,znY,zC,Option.map_none,V.toD]
 split<;>rfl
theorem zpz{op:BinOp}{x y z:V}{a b:D}(ha:a.cl0=x.toD)(hb:b.cl0=y.toD)(h:ze op x y=some z):zl8 op a b=some z.toD:=by
 unfold ze at h
 split at h
 ·rw[wL ha,wL hb]
  simp only[zl8]
  split at h
  ·next h1=>rw[if_pos h1,znc,h];rfl
  ·contradiction
 ·rw[Ya ha,Ya hb];simp only[zl8];rw[zm5,h];rfl
 ·rw[zeY ha,zeY hb]
  simp only[zl8]
  split at h
  ·next h1=>
   rw[if_pos h1]
   rw[zB]at h
   obtain⟨c,hc,rfl⟩:=h
   rw[hc];rfl
  ·contradiction
 ·contradiction
theorem zqG{op:UnOp}{x z:V}{a:D}(ha:a.cl0=x.toD)(h:unV op x=some z):unD op a=some z.toD:=by
 unfold unV at h
 split at h<;>try contradiction
 all_goals injection h with h;subst h
 ·rw[wL ha];rfl
 ·rw[wL ha];rfl
 ·rw[zg3 ha];rfl
theorem j2{x:V}{b:Bool}{d:D}(h:asBool x=some b)(hd:d.cl0=x.toD):d = .bool b:=by
 unfold asBool at h;split at h<;>try contradiction
 injection h with h;subst h;exact zg3 hd
theorem zch{x:V}{s:List UInt8}{d:D}(h:zaf x=some s)(hd:d.cl0=x.toD):d = .str s:=by
 unfold zaf at h;split at h<;>try contradiction
 injection h with h;subst h;exact Ya hd
theorem zj3{sz:Nat}{x:V}{xs:List V}{d:D}(h:xk sz x=some xs)(hd:d.cl0=x.toD):(∃ g ds,d = .sl g xs.length ds∧cl0L ds=flatD xs)∧yc sz xs=true:=by
 unfold xk at h;split at h<;>try contradiction
 split at h<;>try contradiction
 next hs=>
  injection h with h;subst h
  obtain⟨g,l,rfl,hl⟩:=zog hd
  exact⟨⟨g,l,rfl,hl⟩,hs⟩
theorem zpy{x:V}{q:Nat×List V}{d:D}(h:zqw x=some q)(hd:d.cl0=x.toD):d = .fn q.1 (toDL q.2):=by
 unfold zqw at h;split at h<;>try contradiction
 injection h with h;subst h;exact zrc hd
theorem j4{x c:V}{i:Nat}(h:zn x i=some c):x.parts[i]?=some c:=h
theorem zh4{xs:List V}{s:List UInt8}{ds:List D}(h:W5 xs=some s)(hd:cl0L ds=flatD xs):jF ds=some s:=by
 induction xs generalizing s ds with
 | nil=>
  cases ds with
  | nil=>simpa[W5,jF]using h
  | cons d r=>simp[flatD,cl0L]at hd
 | cons x r ih=>
  unfold W5 at h
  split at h<;>try contradiction
  next n r' he=>
   injection he with he1 he2;subst he1;subst he2
   rw[zA]at h
   obtain⟨l,hl,h⟩:=h
   injection h with h;subst h
   cases ds with
   | nil=>simp[flatD,cl0L,V.toD,D.cells]at hd
   | cons d s=>
    simp only[flatD,cl0L,V.toD,D.cells,List.cons_append,List.nil_append,List.cons.injEq]at hd
    rw[wL hd.1]
    simp only[jF,ih hl hd.2,zD]
theorem qx{d:Option D}{x:Option V}(h:d.map D.cl0=x.map V.toD){n m:Nat}(k:Kj x n=some m):bnd d n=some m:=by
 cases x with
 | none=>cases d with
  | none=>exact k
  | some d=>simp at h
 | some x=>cases d with
  | none=>simp at h
  | some d=>
   have h:d.cl0=x.toD:=by simpa using h
   unfold Kj at k
   split at k
   ·next e=>simp at e
   ·next e=>
     injection e with e;subst e
     rw[wL h];exact k
   ·contradiction
theorem Yw{d:D}{x:V}(h:d.cl0=x.toD){n i:Nat}(k:xP x n=some i):idx d n=some i:=by
 unfold xP at k
 split at k<;>try contradiction
 rw[wL h];exact k
theorem zmI{d:D}{n i:Nat}(h:idx d n=some i):i<n:=by
 unfold idx at h
 split at h<;>try contradiction
 split at h<;>try contradiction
 injection h with h;omega
theorem getElem?_lt{α:Type}{xs:List α}{i:Nat}{x:α}(h:xs[i]?=some x):i<xs.length:=by
 rcases Nat.lt_or_ge i xs.length with h' | h'
 ·exact h'
 ·rw[List.getElem?_eq_none h']at h;simp at h
theorem yq{ρ:Type}{b:Bool}{k:Option ρ}{r:ρ}(h:tst b k=some r):b=true∧k=some r:=by
 cases b<;>simp_all [tst]
theorem jj{p:PSt}{k:Nat}{c:RowC}(h:J7 p k=some c) : ∃ r,p.rows[k]?=some r∧r.c=c:=by
 unfold J7 at h
 split at h<;>try contradiction
 next f c' hr=>injection h with h;subst h;exact⟨_,hr,rfl⟩
theorem qB{p:PSt}{k:Nat}{c:RowC}(h:zdQ p k=some c):p.rows[k]?=some ⟨false,c⟩:=by
 unfold zdQ at h
 split at h<;>try contradiction
 next c' hr=>injection h with h;subst h;exact hr
theorem Xw{p:PSt}{k:Nat}{r:Row}{fz:Fz}{sz:Nat}{xs:List V}(h:p.rows[k]?=some r)(hc:r.c = .arr fz sz xs):yf p.rows k=some (sz,xs.length):=by
 obtain⟨f,c⟩:=r
 simp only at hc;subst hc
 simp[yf,h]
section
variable {ρ:Nat→Nat} {τ:Nat→Option Nat} {p:PSt} {st:St} {ρ':Type} {r:ρ'}
theorem Sim.row(hS:Sim ρ τ p st){k:Nat}{c:RowC}(h:J7 p k=some c)(hd:c ≠ .dead) : ∃ o,st.mem (ρ k)=some o∧RW (zx ρ τ p st) c o:=by
 obtain⟨rr,hr,rfl⟩:=jj h
 obtain⟨o,h1,h2⟩:=hS.rows k rr hr
 rcases h1 with h1 | h1
 ·exact(hd h1).elim
 ·exact⟨o,h1,h2⟩
theorem JI{x:V}{i n:Nat}{K:List PS→Option ρ'}(h:vt x i n K=some r):i+n≤x.parts.length∧K (((x.parts.drop i).take n).map .v)=some r∨n=0∧K []=some r:=by
 induction n generalizing i K with
 | zero=>exact .inr ⟨rfl,h⟩
 | succ n ih=>
  left
  simp only[vt]at h
  rw[zA]at h
  obtain⟨c,hc,h⟩:=h
  have hlt:=getElem?_lt (j4 hc)
  have he:(x.parts.drop i).take (n+1)=c::((x.parts.drop (i+1)).take n):=by
   rw[zO hlt,List.take_succ_cons]
   have:x.parts[i]=c:=by have:=j4 hc;rw[zL hlt]at this;injection this
   rw[this]
  rcases ih h with⟨h1,h2⟩ | ⟨rfl,h2⟩
  ·refine⟨by omega,?_⟩
   rw[he];exact h2
  ·refine⟨by omega,?_⟩
   rw[he];simpa using h2
theorem YP{x:V}{n:Nat}(hx:okN n x=true){K:List PS→Option ρ'}(h:vt x 0 n K=some r):K (x.parts.map .v)=some r:=by
 have hl:=y1 hx
 rcases JI h with⟨_,h2⟩ | ⟨rfl,h2⟩
 ·rw[zU,zV (by omega)]at h2;exact h2
 ·rw[List.length_eq_zero_iff.1 hl];exact h2
theorem cells_ok{x:V}{d:D}(h:d.cl0=x.toD):cl0L d.cells=toDL x.parts:=by
 rw[zeW,h,jn]
theorem kb{c:Cx}{n:Nat}{d:PD}{e:D}(hd:RP c d e){K:List PS→Option ρ'}(h:wV n d K=some r) : ∃ cs,K cs=some r∧cs.length=n∧RSL c cs e.cells∧z8 e.cells=true∧e.cells.length=n:=by
 cases d with
 | agg ps=>
  obtain⟨ds,rfl,h1,h2⟩:=hd
  simp only[wV]at h
  split at h<;>try contradiction
  next hn=>
   have hn:=zJ hn
   exact⟨ps,h,hn,h1,h2,by simp only[D.cells];rw[← Ym h1,hn]⟩
 | s q=>
  cases q
  case v x=>
   simp only[wV]at h
   obtain⟨h1,h2⟩:=yq h
   have hd:e.cl0=x.toD:=hd
   have hc:=cells_ok hd
   refine⟨_,YP h1 h2,by simp[y1 h1],zkI hc,wX hc (xM h1),?_⟩
   have:=congrArg List.length hc
   rw[yG,xD,y1 h1]at this;exact this
  case el cs=>simp[wV]at h
  case elx sz x off=>simp[wV]at h
  case own id sz xs=>
   simp only[wV]at h
   split at h<;>try contradiction
   next hn=>
    have hn:=zJ hn;subst hn
    obtain⟨g,ds,rfl,h1⟩:=hd
    exact⟨_,h,rfl,⟨⟨g,ds,rfl,h1⟩,trivial⟩,rfl,rfl⟩
  case full xs=>
   simp only[wV]at h
   split at h<;>try contradiction
   next hn=>
    have hn:=zJ hn;subst hn
    obtain⟨ds,rfl,h1⟩:=hd
    exact⟨_,h,rfl,⟨⟨ds,rfl,h1⟩,trivial⟩,rfl,rfl⟩
  case ptr k off=>
   simp only[wV]at h
   split at h<;>try contradiction
   next hn=>
    have hn:=zJ hn;subst hn
    obtain⟨h1,rfl⟩:=hd
    exact⟨_,h,rfl,⟨⟨h1,rfl⟩,trivial⟩,rfl,rfl⟩
  case ptrA k sz i off=>
   simp only[wV]at h
   split at h<;>try contradiction
   next hn=>
    have hn:=zJ hn;subst hn
    obtain⟨h1,rfl,h2⟩:=hd
    exact⟨_,h,rfl,⟨⟨h1,rfl,h2⟩,trivial⟩,rfl,rfl⟩
  case ref k sz off n' cp z=>
   simp only[wV]at h
   split at h<;>try contradiction
   next hn=>
    have hn:=zJ hn;subst hn
    obtain⟨h0,h1,⟨h2,h3⟩ | ⟨h2,h3,h3'⟩,h4⟩:=hd
    ·subst h2
     exact⟨_,h,rfl,⟨⟨h0,h1,.inl ⟨rfl,h3⟩,h4⟩,trivial⟩,rfl,rfl⟩
    ·subst h3
     exact⟨_,h,rfl,⟨⟨h0,h1,.inr ⟨h2,rfl,h3'⟩,h4⟩,trivial⟩,rfl,rfl⟩
  case fn f cap=>
   simp only[wV]at h
   split at h<;>try contradiction
   next hn=>
    have hn:=zJ hn;subst hn
    obtain⟨ds,rfl,h1⟩:=hd
    exact⟨_,h,rfl,⟨⟨ds,rfl,h1⟩,trivial⟩,rfl,rfl⟩
theorem VW(a b:List D):z8 (a++b)=(z8 a && z8 b):=by
 induction a with
 | nil=>simp[z8]
 | cons x r ih=>simp[z8,ih,Bool.and_assoc]
theorem Z5{ds:List D}(h:z8 ds=true)(n:Nat):z8 (ds.take n)=true:=by
 induction ds generalizing n with
 | nil=>simp[z8]
 | cons d r ih=>cases n with
  | zero=>rfl
  | succ n=>simp only[z8,zG,List.take_succ_cons]at h ⊢;exact⟨h.1,ih h.2 n⟩
theorem WH{ds:List D}(h:z8 ds=true)(n:Nat):z8 (ds.drop n)=true:=by
 induction ds generalizing n with
 | nil=>simp[z8]
 | cons d r ih=>cases n with
  | zero=>exact h
  | succ n=>simp only[z8,zG,List.drop_succ_cons]at h ⊢;exact ih h.2 n
theorem kZ{ds es:List D}(h:z8 ds=true)(k:z8 es=true)(o:Nat):z8 (vN ds o es)=true:=by
 simp only[vN,VW,Z5 h,k,WH h,Bool.and_self]
theorem ziH{z:List D}(h:z8 z=true)(n:Nat):z8 (rep n z)=true:=by
 induction n with
 | zero=>rfl
 | succ n ih=>simp only[rep,List.replicate_succ,List.flatten_cons,VW,h,Bool.true_and];exact ih
/-- a struct that is built -/
theorem zmt{E:Env}{gl:Gl}(hg:GlR E gl)(hS:Sim ρ τ p st){ps:List (Nat×Nat×X)}{cells:List PS}{ds:List D}(hc:RSL (zx ρ τ p st) cells ds)(h1:z8 ds=true){K:List PS→Option ρ'}(h:Qj gl p cells ps K=some r) :
  ∃ cs,K cs=some r ∧ ∃ l es,Ev.evP E st.tm ps=some l∧QL ds l=some es∧RSL (zx ρ τ p st) cs es∧z8 es=true:=by
 induction ps generalizing cells ds with
 | nil=>exact⟨cells,h,[],ds,rfl,rfl,hc,h1⟩
 | cons q rest ih=>
  obtain⟨o,n,x⟩:=q
  simp only[Qj]at h
  split at h<;>try contradiction
  split at h<;>try contradiction
  next d hd _ hle=>
   have hle:=zT hle
   obtain⟨e,he,hr⟩:=yt hg hS hd
   obtain⟨cs,h2,h3,h4,h5,h6⟩:=kb hr h
   obtain⟨cs',h7,l,es,h8,h9,h10,h11⟩:=ih (zfi hc h4 o) (kZ h1 h5 o) h2
   refine⟨cs',h7,(o,n,e)::l,es,by simp[Ev.evP,he,h8],?_,h10,h11⟩
   simp only[QL]
   rw[if_pos ⟨h6,by rw[← Ym hc];exact hle,h5⟩]
   exact h9
theorem XV{sz:Nat}{els:List V}(hs:yc sz els=true){ds es:List D}(hd:cl0L ds=flatD els){i f n:Nat}{e x:V}(hi:els[i]?=some e)(hes:cl0L es=toDL x.parts)(hx:x.parts.length=n)(hf:f+n≤sz) :
  cl0L (vN ds (i * sz+f) es)=flatD (els.take i)++((toDL e.parts).take f++toDL x.parts++(toDL e.parts).drop (f+n))++flatD (els.drop (i+1)):=by
 have hlt:=getElem?_lt hi
 have hel:=y1 (ZA hs hi)
 have h1:flatD els=flatD (els.take i)++(toDL e.parts++flatD (els.drop (i+1))):=by
  rw[← zct hi,← wj,List.take_append_drop]
 have hl1:(flatD (els.take i)).length=i * sz:=by rw[xb (Zp hs i),List.length_take,Nat.min_eq_left (by omega)]
 have hesl:es.length=n:=by have:=congrArg List.length hes;rw[yG,xD,hx]at this;exact this
 have hpl:(toDL e.parts).length=sz:=by rw[xD,hel]
 simp only[vN,vA,vY,vq,hd,hes,hesl]
 rw[h1]
 rw[List.take_append,zV (by omega),hl1,Nat.add_sub_cancel_left,List.take_append,hpl,show f - sz=0 by omega,List.take_zero,List.append_nil]
 rw[List.drop_append,List.drop_of_length_le (by omega),List.nil_append,hl1,show i * sz+f+n - i * sz=f+n by omega,List.drop_append,hpl,show f+n - sz=0 by omega,zU]
 simp only[List.append_assoc]
theorem Vf{els:List V}{i:Nat}{e x:V}(hi:els[i]?=some e):flatD (els.set i x)=flatD (els.take i)++toDL x.parts++flatD (els.drop (i+1)):=by
 have hlt:=getElem?_lt hi
 rw[List.set_eq_take_append_cons_drop,if_pos hlt,wj]
 simp[flatD,jn]
theorem one_cell{y c:V}(hx:okN 1 y=true)(h:zn y 0=some c):y.parts=[c]∧c.one=true∧c.parts=[c]:=by
 have hl:=y1 hx
 have h:=j4 h
 have hp:y.parts=[c]:=by
  cases hxp:y.parts with
  | nil=>rw[hxp]at hl;simp at hl
  | cons a s=>
   rw[hxp]at hl h
   cases s with
   | nil=>simp at h;rw[h]
   | cons b s=>simp at hl
 have hone:c.one=true:=by have:=xM hx;rw[hp]at this;simpa[yy]using this
 refine⟨hp,hone,?_⟩
 cases c<;>first | rfl | simp[V.one]at hone
theorem jH(a b:List V):yy (a++b)=(yy a && yy b):=by
 induction a with
 | nil=>simp[yy]
 | cons y r ih=>simp[yy,ih,Bool.and_assoc]
theorem Yi{a:List V}(h:yy a=true)(k:Nat):yy (a.take k)=true∧yy (a.drop k)=true:=by
 have h2:yy (a.take k++a.drop k)=true:=by rw[List.take_append_drop];exact h
 rw[jH,zG]at h2;exact h2
theorem zq3{sz:Nat}{els:List V}(hs:yc sz els=true)(hz:0<sz){ds es:List D}(hd:cl0L ds=flatD els){o n:Nat}{x:V}(hes:cl0L es=toDL x.parts)(ho:o / sz<els.length){K:List V→Option ρ'}(h:elK sz els o n x K=some r) :
  ∃ els',K els'=some r∧els'.length=els.length∧yc sz els'=true∧cl0L (vN ds o es)=flatD els'∧es.length=n∧o+n≤ds.length∧yy x.parts=true:=by
 have hdl:ds.length=els.length * sz:=by have:=congrArg List.length hd;rw[yG,xb hs]at this;exact this
 have hesl:es.length=x.parts.length:=by have:=congrArg List.length hes;rw[yG,xD]at this;exact this
 obtain⟨e,he⟩ : ∃ e,els[o / sz]?=some e:=⟨_,zL ho⟩
 have hdm:o / sz * sz+o % sz=o:=by rw[Nat.mul_comm];exact Nat.div_add_mod o sz
 have hmul:(o / sz+1) * sz≤els.length * sz:=zW sz ho
 have hmul':(o / sz+1) * sz=o / sz * sz+sz:=by rw[Nat.add_mul,Nat.one_mul]
 have hel:=y1 (ZA hs he)
 have hpl:(toDL e.parts).length=sz:=by rw[xD,hel]
 unfold elK at h
 split at h
 ·next hw=>
  simp only[zG]at hw
  have hn:=zJ hw.1
  have h0:=zJ hw.2
  subst hn
  have key : ∀ y:V,y.parts=x.parts→okN n x=true→cl0L (vN ds o es)=flatD (els.set (o / n) y):=by
   intro y hy hx
   have:=XV hs hd (i:=o / n) (f:=o % n) (n:=n) he hes (y1 hx) (by omega)
   rw[hdm]at this
   rw[this,Vf he,h0,List.take_zero,List.nil_append,Nat.zero_add,List.drop_of_length_le (by omega),List.append_nil,hy]
  split at h
  ·next h1=>
   have h1:=zJ h1
   obtain⟨hx,h⟩:=yq h
   rw[zA]at h
   obtain⟨c,hc,h⟩:=h
   have hx':okN n x=true:=by rw[h1];exact hx
   have hp:x.parts=[c]:=by
    have hl:=y1 hx
    have hc:=j4 hc
    match hxp:x.parts,hl with
    | [a],_=>rw[hxp]at hc;simp at hc;rw[hc]
   have hone:c.one=true:=by have:=xM hx;rw[hp]at this;simpa[yy]using this
   have hcp:c.parts=[c]:=by cases c<;>simp_all [V.parts,V.one]
   refine⟨_,h,by simp,Xb hs (YL ?_ ?_),key c (by rw[hcp,hp]) hx',by rw[hesl,y1 hx'],by omega,xM hx⟩
   ·rw[hcp];exact h1.symm
   ·rw[hcp,← hp];exact xM hx
  ·obtain⟨hx,h⟩:=yq h
   exact⟨_,h,by simp,Xb hs hx,key x rfl hx,by rw[hesl,y1 hx],by omega,xM hx⟩
 ·split at h<;>try contradiction
  split at h<;>try contradiction
  next xs hxs=>
   split at h<;>try contradiction
   next hle=>
    simp only[zG]at hle
    have hle1:=zT hle.1
    obtain⟨hx,h⟩:=yq h
    rw[he]at hxs;injection hxs with hxs;subst hxs
    have hel':xs.length=sz:=hel
    have hxl:=y1 hx
    refine⟨_,h,by simp,Xb hs (YL ?_ ?_),?_,by rw[hesl,hxl],by omega,xM hx⟩
    ·show(xR xs (o % sz) x.parts).length=sz
     simp only[xR,zZ,List.length_take,List.length_drop,hxl];omega
    ·have:yy xs=true:=xM (ZA hs he)
     show yy (xR xs (o % sz) x.parts)=true
     simp only[xR,jH,(Yi this _).1,(Yi this _).2,xM hx,Bool.and_self]
    ·have:=XV hs hd (i:=o / sz) (f:=o % sz) (n:=n) he hes hxl (by omega)
     rw[hdm]at this
     rw[this,Vf he]
     show _=_++toDL (xR xs (o % sz) x.parts)++_
     simp only[xR,kG,Vl,j6,hxl]
     rfl
theorem zo5{E:Env}{gl:Gl}(hg:GlR E gl)(hS:Sim ρ τ p st){sz:Nat}(hz:0<sz){ps:List (Nat×Nat×X)}{els:List V}{ds:List D}(hs:yc sz els=true)(hd:cl0L ds=flatD els)(h1:z8 ds=true){K:List V→Option ρ'}(h:ziZ gl p sz els ps K=some r) :
  ∃ els',K els'=some r∧els'.length=els.length∧yc sz els'=true ∧ ∃ l es,Ev.evP E st.tm ps=some l∧QL ds l=some es∧cl0L es=flatD els'∧z8 es=true:=by
 induction ps generalizing els ds with
 | nil=>exact⟨els,h,rfl,hs,[],ds,rfl,rfl,hd,h1⟩
 | cons q rest ih=>
  obtain⟨o,n,x⟩:=q
  simp only[ziZ]at h
  split at h<;>try contradiction
  split at h<;>try contradiction
  split at h<;>try contradiction
  next d hd' _ y hy _ hlt=>
   have hlt:o / sz<els.length:=zT hlt
   obtain⟨e,he,hr⟩:=yt hg hS hd'
   have hey:=PD.pure_ok hr hy
   have hec:=cells_ok hey
   obtain⟨els1,h2,h3,h4,h5,h6,h7,h8⟩:=zq3 hs hz hd hec hlt h
   have ho:=wX hec h8
   obtain⟨els',h9,h10,h11,l,es,h12,h13,h14,h15⟩:=ih h4 h5 (kZ h1 ho o) h2
   refine⟨els',h9,by omega,h11,(o,n,e)::l,es,by simp[Ev.evP,he,h12],?_,h14,h15⟩
   simp only[QL]
   rw[if_pos ⟨h6,h7,ho⟩]
   exact h13
end
end Go.Ev
end
