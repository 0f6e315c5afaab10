/- The machines Ev and Pv, part 3: an abstract machine over the translated code, proved sound once. -/
import Derived.Test.YtnefgdahdccldaaDoorKEvB
import Derived.Below
set_option linter.all false
open Option renaming bind_eq_some_iff→zA,map_eq_some_iff→zB,map_some→zC,bind_some→zD
open Bool renaming false_eq_true→zF,and_eq_true→zG,not_true→zH
open Nat renaming eq_of_beq_eq_true→zJ,le_refl→zR,le_of_ble_eq_true→zT,mul_le_mul_right→zW
open List renaming getElem?_eq_getElem→zL,getElem?_cons_zero→zM,getElem?_cons_succ→zN,drop_eq_getElem_cons→zO,mem_cons_of_mem→zP,mem_cons→zS,drop_zero→zU,take_of_length_le→zV,length_append→zZ
section
namespace Go.Ev
/-- what a run comes to, whatever the fuel -/
noncomputable def zr(E:Env):Cf:=fun f ds st=>open Classical in
 if h : ∃ r,∃ n,call E n f ds st=some r then some h.choose else none
theorem zlF{E:Env}{f:Nat}{ds:List D}{st:St}{n m:Nat}{r q:Out×St}(h:call E n f ds st=some r)(k:call E m f ds st=some q):r=q:=by
 have a:=yM E (Nat.le_max_left n m) f ds st r h
 have b:=yM E (Nat.le_max_right n m) f ds st q k
 rw[a]at b;injection b
theorem xT{E:Env}{f:Nat}{ds:List D}{st:St}{r:Out×St}:zr E f ds st=some r ↔ ∃ n,call E n f ds st=some r:=by
 unfold zr
 constructor
 ·intro h
  split at h
  ·next hx=>injection h with h;rw[← h];exact hx.choose_spec
  ·simp at h
 ·rintro⟨n,h⟩
  have hx : ∃ r,∃ n,call E n f ds st=some r:=⟨r,n,h⟩
  rw[dif_pos hx]
  obtain⟨m,hm⟩:=hx.choose_spec
  rw[zlF hm h]
theorem znm(E:Env)(n:Nat):JH (call E n) (zr E):=fun _ _ _ _ h=>xT.2 ⟨n,h⟩
noncomputable def execL(E:Env)(c:C)(st:St):Option (Ex×St):=open Classical in
 if h : ∃ r,∃ n,exec E (zr E) n c st=some r then some h.choose else none
theorem zlE{E:Env}{cf:Cf}{c:C}{st:St}{n m:Nat}{r q:Ex×St}(h:exec E cf n c st=some r)(k:exec E cf m c st=some q):r=q:=by
 have a:=jj (cf:=cf) (fun _ _ _ _ h=>h) (Nat.le_max_left n m) h
 have b:=jj (cf:=cf) (fun _ _ _ _ h=>h) (Nat.le_max_right n m) k
 rw[a]at b;injection b
theorem execL_iff{E:Env}{c:C}{st:St}{r:Ex×St}:execL E c st=some r ↔ ∃ n,exec E (zr E) n c st=some r:=by
 unfold execL
 constructor
 ·intro h
  split at h
  ·next hx=>injection h with h;rw[← h];exact hx.choose_spec
  ·simp at h
 ·rintro⟨n,h⟩
  have hx : ∃ r,∃ n,exec E (zr E) n c st=some r:=⟨r,n,h⟩
  rw[dif_pos hx]
  obtain⟨m,hm⟩:=hx.choose_spec
  rw[zlE hm h]
theorem jq{α:Type}{x y:Option α}(h : ∀ r,x=some r↔y=some r):x=y:=by
 cases x with
 | none=>
  cases y with
  | none=>rfl
  | some b=>have:=(h b).2 rfl;simp at this
 | some a=>exact((h a).1 rfl).symm
section
variable {E:Env}
/-- a code that has no loop of its own at its head -/
theorem WY{c:C}{st:St}{x:Option (Ex×St)}(h : ∀ n,exec E (zr E) n c st=x):execL E c st=x:=
 jq fun r=>execL_iff.trans ⟨fun⟨n,hn⟩=>(h n).symm.trans hn,fun hx=>⟨0,(h 0).trans hx⟩⟩
theorem zcL(st:St):execL E .skip st=some (.nrm,st):=WY fun _=>rfl
theorem zba(id:Nat)(st:St):execL E (.exit id) st=some (.ext id,st):=WY fun _=>rfl
theorem zeK(st:St):execL E .ret st=some (.ret,st):=WY fun _=>rfl
theorem zeF(ops:List OpC)(keep:List Nat)(st:St):execL E (.reg ops keep) st=match runOps E (zr E) ops st with
  | some (.ok st')=>some (.nrm,{ st' with tm:=kept keep st'.tm })
  | some (.pan d st')=>some (.pan d,st')
  | none=>none:=WY fun _=>rfl
theorem Ku(a0 a1 b1 b:List OpC)(keep:List Nat)(st:St):execL E (.drw a0 a1 b1 b keep) st=match runDrw E (zr E) a0 a1 b1 b st with
  | some (.ok st')=>some (.nrm,{ st' with tm:=kept keep st'.tm })
  | some (.pan d st')=>some (.pan d,st')
  | none=>none:=WY fun _=>rfl
theorem Q5{n m:Nat}(h:n≤m){c:C}{st:St}{r:Ex×St}(k:exec E (zr E) n c st=some r):exec E (zr E) m c st=some r:=jj (fun _ _ _ _ h=>h) h k
theorem jQ(a b:C)(st:St):execL E (.seq a b) st=match execL E a st with
  | some (.nrm,s)=>execL E b s
  | r=>r:=by
 refine jq fun r=>⟨fun h => ?_,fun h => ?_⟩
 ·obtain⟨n,hn⟩:=execL_iff.1 h
  simp only[exec]at hn
  split at hn
  ·next s he=>rw[execL_iff.2 ⟨n,he⟩];exact execL_iff.2 ⟨n,hn⟩
  ·next hne=>
   rw[execL_iff.2 ⟨n,hn⟩]
   obtain⟨e,s⟩:=r
   cases e with
   | nrm=>exact(hne s hn).elim
   | _=>rfl
 ·split at h
  ·next s he=>
   obtain⟨n,hn⟩:=execL_iff.1 he
   obtain⟨m,hm⟩:=execL_iff.1 h
   refine execL_iff.2 ⟨max n m,?_⟩
   simp only[exec]
   rw[Q5 (Nat.le_max_left n m) hn]
   exact Q5 (Nat.le_max_right n m) hm
  ·next hne=>
   obtain⟨n,hn⟩:=execL_iff.1 h
   refine execL_iff.2 ⟨n,?_⟩
   simp only[exec]
   rw[hn]
   obtain⟨e,s⟩:=r
   cases e with
   | nrm=>exact(hne s h).elim
   | _=>rfl
theorem Xy(c:X)(a b:C)(st:St):execL E (.cond c a b) st=match ev E st.tm c with
  | some (.bool true)=>execL E a st
  | some (.bool false)=>execL E b st
  | _=>none:=by
 refine jq fun r=>⟨fun h => ?_,fun h => ?_⟩
 ·obtain⟨n,hn⟩:=execL_iff.1 h
  simp only[exec]at hn
  split at hn
  ·next hb=>rw[hb];exact execL_iff.2 ⟨n,hn⟩
  ·next hb=>rw[hb];exact execL_iff.2 ⟨n,hn⟩
  ·simp at hn
 ·split at h
  ·next hb=>
   obtain⟨n,hn⟩:=execL_iff.1 h
   exact execL_iff.2 ⟨n,by simp only[exec];rw[hb];exact hn⟩
  ·next hb=>
   obtain⟨n,hn⟩:=execL_iff.1 h
   exact execL_iff.2 ⟨n,by simp only[exec];rw[hb];exact hn⟩
  ·simp at h
def zc2(id:Nat):Option (Ex×St)→Option (Ex×St)
 | some (.ext i,st')=>if i=id then some (.nrm,st')else some (.ext i,st')
 | r=>r
theorem qr(id:Nat)(c:C)(st:St):execL E (.blk id c) st=zc2 id (execL E c st):=by
 have key : ∀ n,exec E (zr E) n (.blk id c) st=zc2 id (exec E (zr E) n c st):=by
  intro n
  simp only[exec,zc2]
  split<;>simp_all
 refine jq fun r=>⟨fun h => ?_,fun h => ?_⟩
 ·obtain⟨n,hn⟩:=execL_iff.1 h
  rw[key]at hn
  cases hc:exec E (zr E) n c st with
  | none=>rw[hc]at hn;simp[zc2]at hn
  | some q=>rw[execL_iff.2 ⟨n,hc⟩,← hc];exact hn
 ·cases hc:execL E c st with
  | none=>rw[hc]at h;simp[zc2]at h
  | some q=>
   obtain⟨n,hn⟩:=execL_iff.1 hc
   exact execL_iff.2 ⟨n,by rw[key,hn,← hc];exact h⟩
/-- a loop: one round, and on -/
theorem jW(c:C)(st:St):execL E (.loop c) st=match execL E c st with
  | some (.nrm,s)=>execL E (.loop c) s
  | r=>r:=by
 refine jq fun r=>⟨fun h => ?_,fun h => ?_⟩
 ·obtain⟨n,hn⟩:=execL_iff.1 h
  simp only[exec]at hn
  cases n with
  | zero=>simp[loopN]at hn
  | succ n=>
   simp only[loopN]at hn
   split at hn
   ·next s he=>
    rw[execL_iff.2 ⟨n+1,he⟩]
    refine execL_iff.2 ⟨n+1,?_⟩
    simp only[exec]
    exact XR (fun _ _ h=>h) (Nat.le_succ n) hn
   ·next hne=>
    rw[execL_iff.2 ⟨n+1,hn⟩]
    obtain⟨e,s⟩:=r
    cases e with
    | nrm=>exact(hne s hn).elim
    | _=>rfl
 ·split at h
  ·next s he=>
   obtain⟨n,hn⟩:=execL_iff.1 he
   obtain⟨m,hm⟩:=execL_iff.1 h
   refine execL_iff.2 ⟨max n m+1,?_⟩
   simp only[exec,loopN]
   rw[Q5 (by omega:n≤max n m+1) hn]
   simp only[exec]at hm
   exact XR (fun st r h=>Q5 (by omega:m≤max n m+1) h) (by omega) hm
  ·next hne=>
   obtain⟨n,hn⟩:=execL_iff.1 h
   refine execL_iff.2 ⟨n+1,?_⟩
   simp only[exec,loopN]
   rw[Q5 (by omega:n≤n+1) hn]
   obtain⟨e,s⟩:=r
   cases e with
   | nrm=>exact(hne s h).elim
   | _=>rfl
/-! a run asks for finitely many calls -/
theorem zpx{st:St}{o:O}{r:Rv}(h:opX E (zr E) st o=some r) : ∃ n,opX E (call E n) st o=some r:=by
 cases o
 case call f xs=>
  simp only[opX,zA,zB]at h ⊢
  obtain⟨l,hl,q,hq,h⟩:=h
  obtain⟨n,hn⟩:=xT.1 hq
  exact⟨n,l,hl,q,hn,h⟩
 case callv g xs=>
  simp only[opX]at h ⊢
  split at h
  ·split at h<;>try contradiction
   next hlt=>
    simp only[if_pos hlt]
    simp only[zA,zB]at h ⊢
    obtain⟨l,hl,q,hq,h⟩:=h
    obtain⟨n,hn⟩:=xT.1 hq
    exact⟨n,l,hl,q,hn,h⟩
  ·simp at h
 all_goals exact⟨0,h⟩
theorem Xk{st:St}{o:OpC}{r:Rs}(h:opC E (zr E) o st=some r) : ∃ n,opC E (call E n) o st=some r:=by
 unfold opC at h ⊢
 split at h
 ·simp only[opR,zB]at h ⊢
  obtain⟨q,hq,h⟩:=h
  obtain⟨n,hn⟩:=zpx hq
  exact⟨n,q,hn,h⟩
 ·exact⟨0,h⟩
 ·exact⟨0,h⟩
theorem Xv{l:List OpC}{st:St}{r:Rs}(h:runOps E (zr E) l st=some r) : ∃ n,runOps E (call E n) l st=some r:=by
 induction l generalizing st with
 | nil=>exact⟨0,h⟩
 | cons o l ih=>
  simp only[runOps]at h
  split at h
  ·next s he=>
   obtain⟨n,hn⟩:=Xk he
   obtain⟨m,hm⟩:=ih h
   refine⟨max n m,?_⟩
   simp only[runOps]
   rw[qK (yM E (Nat.le_max_left n m)) hn]
   exact w7 (yM E (Nat.le_max_right n m)) hm
  ·next hne=>
   obtain⟨n,hn⟩:=Xk h
   refine⟨n,?_⟩
   simp only[runOps]
   rw[hn]
   cases r with
   | ok s=>exact(hne s h).elim
   | pan d s=>rfl
theorem zfp{l:List OpC}{st s:St}(h:runStill E (zr E) l st=some s) : ∃ n,runStill E (call E n) l st=some s:=by
 induction l generalizing st with
 | nil=>exact⟨0,h⟩
 | cons o l ih=>
  simp only[runStill]at h
  split at h
  ·next s' he=>
   split at h
   ·next hm'=>
    obtain⟨n,hn⟩:=Xk he
    obtain⟨m,hm⟩:=ih h
    refine⟨max n m,?_⟩
    simp only[runStill]
    rw[qK (yM E (Nat.le_max_left n m)) hn]
    simp only[hm',if_true]
    exact kg (yM E (Nat.le_max_right n m)) hm
   ·simp at h
  ·simp at h
theorem zg1{l:List OpC}{st:St}{q:D×St}(h:panLast E (zr E) l st=some q) : ∃ n,panLast E (call E n) l st=some q:=by
 induction l generalizing st with
 | nil=>exact⟨0,h⟩
 | cons o l ih=>
  simp only[panLast]at h
  split at h
  ·next s' he=>
   split at h
   ·next hm'=>
    obtain⟨n,hn⟩:=Xk he
    obtain⟨m,hm⟩:=ih h
    refine⟨max n m,?_⟩
    simp only[panLast]
    rw[qK (yM E (Nat.le_max_left n m)) hn]
    simp only[hm',if_true]
    exact XH (yM E (Nat.le_max_right n m)) hm
   ·simp at h
  ·next d s' he=>
   obtain⟨n,hn⟩:=Xk he
   exact⟨n,by simp only[panLast];rw[hn];exact h⟩
  ·simp at h
theorem zeS{Y Z l:List OpC}{st:St}{r:Rs}(h:runFl E (zr E) Y Z l st=some r) : ∃ n,runFl E (call E n) Y Z l st=some r:=by
 induction l generalizing st with
 | nil=>exact⟨0,h⟩
 | cons o l ih=>
  simp only[runFl]at h
  split at h
  ·next s' he=>
   split at h
   ·next hm'=>
    obtain⟨n,hn⟩:=Xk he
    obtain⟨m,hm⟩:=ih h
    refine⟨max n m,?_⟩
    simp only[runFl]
    rw[qK (yM E (Nat.le_max_left n m)) hn]
    simp only
    rw[if_pos hm']
    exact Zz (yM E (Nat.le_max_right n m)) hm
   ·simp at h
  ·next d s' he=>
   obtain⟨n,hn⟩:=Xk he
   exact⟨n,by simp only[runFl];rw[hn];exact h⟩
  ·simp at h
theorem zce{a0 a1 b1 b:List OpC}{st:St}{r:Rs}(h:runDrw E (zr E) a0 a1 b1 b st=some r) : ∃ n,runDrw E (call E n) a0 a1 b1 b st=some r:=by
 unfold runDrw at h
 split at h
 ·next s1 h1=>
  obtain⟨n1,e1⟩:=Xv h1
  split at h
  ·next s2 h2=>
   obtain⟨n2,e2⟩:=zfp h2
   unfold runB at h
   split at h
   ·next s3 h3=>
    obtain⟨n3,e3⟩:=zeS h3
    obtain⟨n4,e4⟩:=Xv h
    refine⟨max (max n1 n2) (max n3 n4),?_⟩
    unfold runDrw
    rw[w7 (yM E (by omega)) e1]
    simp only
    rw[kg (yM E (by omega)) e2]
    simp only[runB]
    rw[Zz (yM E (by omega)) e3]
    exact w7 (yM E (by omega)) e4
   ·next hne=>
    obtain⟨n3,e3⟩:=zeS h
    refine⟨max (max n1 n2) n3,?_⟩
    unfold runDrw
    rw[w7 (yM E (by omega)) e1]
    simp only
    rw[kg (yM E (by omega)) e2]
    simp only[runB]
    rw[Zz (yM E (by omega)) e3]
    cases r with
    | ok s3=>exact(hne s3 h).elim
    | pan d s=>rfl
  ·simp only[zB]at h
   obtain⟨q,hq,rfl⟩:=h
   obtain⟨n2,e2⟩:=zg1 hq
   refine⟨max n1 n2,?_⟩
   unfold runDrw
   rw[w7 (yM E (by omega)) e1]
   have:=XH (yM E (show n2≤max n1 n2 by omega)) e2
   simp only
   rw[YA this,this];rfl
 ·simp at h
theorem zos{k:Nat}{c:C}{st:St}{r:Ex×St}(h:exec E (zr E) k c st=some r) : ∃ n,exec E (call E n) n c st=some r:=by
 have up : ∀ {n m:Nat} {c:C} {st:St} {r:Ex×St},n≤m→exec E (call E n) n c st=some r→exec E (call E m) m c st=some r:=
  fun h k=>jj (yM E h) h k
 induction c generalizing st r with
 | skip=>exact⟨0,h⟩
 | reg ops keep=>
  simp only[exec]at h ⊢
  split at h
  ·next s he=>obtain⟨n,hn⟩:=Xv he;exact⟨n,by rw[hn];exact h⟩
  ·next d s he=>obtain⟨n,hn⟩:=Xv he;exact⟨n,by rw[hn];exact h⟩
  ·simp at h
 | drw a0 a1 b1 b keep=>
  simp only[exec]at h ⊢
  split at h
  ·next s he=>obtain⟨n,hn⟩:=zce he;exact⟨n,by rw[hn];exact h⟩
  ·next d s he=>obtain⟨n,hn⟩:=zce he;exact⟨n,by rw[hn];exact h⟩
  ·simp at h
 | seq a b iha ihb=>
  simp only[exec]at h
  split at h
  ·next s he=>
   obtain⟨n,hn⟩:=iha he
   obtain⟨m,hm⟩:=ihb h
   refine⟨max n m,?_⟩
   simp only[exec]
   rw[up (Nat.le_max_left n m) hn]
   exact up (Nat.le_max_right n m) hm
  ·next hne=>
   obtain⟨n,hn⟩:=iha h
   refine⟨n,?_⟩
   simp only[exec]
   rw[hn]
   obtain⟨e,s⟩:=r
   cases e with
   | nrm=>exact(hne s h).elim
   | _=>rfl
 | cond c a b iha ihb=>
  simp only[exec]at h ⊢
  split at h
  ·next hb=>obtain⟨n,hn⟩:=iha h;exact⟨n,hn⟩
  ·next hb=>obtain⟨n,hn⟩:=ihb h;exact⟨n,hn⟩
  ·simp at h
 | blk id c ih=>
  simp only[exec]at h
  split at h
  ·next i s he=>
   obtain⟨n,hn⟩:=ih he
   exact⟨n,by simp only[exec];rw[hn];exact h⟩
  ·next hne=>
   obtain⟨n,hn⟩:=ih h
   refine⟨n,?_⟩
   simp only[exec]
   rw[hn]
   obtain⟨e,s⟩:=r
   cases e with
   | ext i=>exact(hne i s h).elim
   | _=>rfl
 | loop c ih=>
  simp only[exec]at h
  have key : ∀ j {st r},loopN (exec E (zr E) k c) j st=some r → ∃ n,exec E (call E n) n (.loop c) st=some r:=by
   intro j
   induction j with
   | zero=>intro st r h;simp[loopN]at h
   | succ j ihj=>
    intro st r h
    simp only[loopN]at h
    split at h
    ·next s he=>
     obtain⟨n,hn⟩:=ih he
     obtain⟨m,hm⟩:=ihj h
     refine⟨max n m+1,?_⟩
     simp only[exec,loopN]
     rw[up (by omega:n≤max n m+1) hn]
     simp only[exec]at hm
     exact XR (fun st r h=>up (by omega:m≤max n m+1) h) (by omega) hm
    ·next hne=>
     obtain⟨n,hn⟩:=ih h
     refine⟨n+1,?_⟩
     simp only[exec,loopN]
     rw[up (by omega:n≤n+1) hn]
     obtain⟨e,s⟩:=r
     cases e with
     | nrm=>exact(hne s h).elim
     | _=>rfl
  exact key k h
 | exit id=>exact⟨0,h⟩
 | ret=>exact⟨0,h⟩
/-- a call's equation -/
theorem WO{f:Nat}(hx:E.ext f=none)(hd:E.dfr f=none){fn:Fn}(hf:E.fn f=some fn)(ds:List D)(st:St):zr E f ds st=match execL E fn.body (enter fn ds st)with
  | some (.nrm,s) | some (.ret,s)=>qg f fn ds st s
  | some (.pan d,s)=>some (.pan (leave fn (home fn ds st) s d).1,(leave fn (home fn ds st) s d).2)
  | some (.ext i,s)=>if i=zg∧zg≤f then(get s.tm zg).map fun d=>((.ret (leave fn (home fn ds st) s (.tup [.bool false,d])).1,(leave fn (home fn ds st) s (.tup [.bool false,d])).2):Out×St)else none
  | none=>none:=by
 have key : ∀ n r,exec E (call E n) n fn.body (enter fn ds st)=some r→execL E fn.body (enter fn ds st)=some r:=
  fun n r h=>execL_iff.2 ⟨n,jj (znm E n) (zR n) h⟩
 have fin : ∀ cf n w,y8 E cf n f fn ds st w=match w with
   | some (.nrm,s) | some (.ret,s)=>qg f fn ds st s
   | some (.pan d,s)=>some (.pan (leave fn (home fn ds st) s d).1,(leave fn (home fn ds st) s d).2)
   | some (.ext i,s)=>if i=zg∧zg≤f then(get s.tm zg).map fun d=>((.ret (leave fn (home fn ds st) s (.tup [.bool false,d])).1,(leave fn (home fn ds st) s (.tup [.bool false,d])).2):Out×St)else none
   | none=>none:=by
  intro cf n w
  match w with
  | none=>rfl
  | some (.ext i,s)=>rfl
  | some (.nrm,s)=>simp only[y8,hd]
  | some (.ret,s)=>simp only[y8,hd]
  | some (.pan d,s)=>simp only[y8,hd]
 refine jq fun r=>⟨fun h => ?_,fun h => ?_⟩
 ·obtain⟨n,hn⟩:=xT.1 h
  cases n with
  | zero=>simp[call]at hn
  | succ n=>
   simp only[call,hx,hf,zD]at hn
   cases he:exec E (call E n) n fn.body (enter fn ds st)with
   | none=>rw[he]at hn;simp[y8]at hn
   | some q=>rw[key n q he];rw[he,fin]at hn;exact hn
 ·cases he:execL E fn.body (enter fn ds st)with
  | none=>rw[he]at h;simp at h
  | some q=>
   obtain⟨k,hk⟩:=execL_iff.1 he
   obtain⟨n,hn⟩:=zos hk
   refine xT.2 ⟨n+1,?_⟩
   simp only[call,hx,hf,zD]
   rw[hn,fin];rw[he]at h;exact h
theorem KH{f:Nat}{e:Eff}(hx:E.ext f=some (.eff e))(ds:List D)(st:St):zr E f ds st=(effD e ds st).map fun q=>(.ret q.1,q.2):=by
 refine jq fun r=>⟨fun h => ?_,fun h => ?_⟩
 ·obtain⟨n,hn⟩:=xT.1 h
  cases n with
  | zero=>simp[call]at hn
  | succ n=>simp only[call,hx]at hn;exact hn
 ·exact xT.2 ⟨1,by simp only[call,hx];exact h⟩
theorem KB{f:Nat}{g:List D→List D→Option D}(hx:E.ext f=some (.fn g))(ds:List D)(st:St):zr E f ds st=(g ds (clL st.mem ds)).map fun d=>(.ret (told (frz st (refsL ds)) d).1,(told (frz st (refsL ds)) d).2):=by
 refine jq fun r=>⟨fun h => ?_,fun h => ?_⟩
 ·obtain⟨n,hn⟩:=xT.1 h
  cases n with
  | zero=>simp[call]at hn
  | succ n=>simp only[call,hx]at hn;exact hn
 ·exact xT.2 ⟨1,by simp only[call,hx];exact h⟩
end
theorem zhb{P:Program}{E:Env}{ti:Ti}(hti:yC P ti)(hmix:P.follows .mixedOrders=true)(hE:ze2 P ti E):VA P E (zr E):=by
 intro f ds st o st' h
 obtain⟨n,hn⟩:=xT.1 h
 exact zi2 hti hmix hE n f ds st o st' hn
end Go.Ev
end
section
namespace Go.Ev
/-- nothing is ours yet; all that lies in memory stays -/
def G0(W:World):G:={ w:=W,φ:=fun b=>match W.heap[b]? with | some (.cells c _ _)=>c.size | _=>0,μ:=fun _=>none,hd:=fun _ _=>none,ρ:=fun _=>0,nx:=0 }
def St0:St:={ tm:=[],mem:=fun _=>none,tip:=fun _=>none,nx:=0,lo:=0,lw:=0 }
theorem zst(W:World):Inv (G0 W) St0 where
 nx:=rfl
 ob k o h:=by simp[St0]at h
 tip g n h:=by simp[St0]at h
 out b hb:=by
  have hb:W.heap.size≤b:=hb
  refine⟨?_,rfl⟩
  show(match W.heap[b]? with | some (.cells c _ _)=>c.size | _=>0)=0
  rw[Array.getElem?_eq_none hb]
 dis k o h:=rfl
 own b:=zR _
theorem zrb{W:World}{S':G}(h:Ext (G0 W) S'):RowKit.Below W.heap.size W S'.w where
 os:=h.os
 tape:=h.tape
 output:=h.output
 size:=h.size
 block b hb:=(h.free b hb rfl).1
/-- cells that lie in memory at the start -/
theorem zsu{W:World}{b off n:Nat}(h : ∀ j,j<n → ∃ u,W.cell? ⟨b,off+j,none⟩=some u):n=0∨off+n≤(G0 W).φ b:=by
 cases n with
 | zero=>exact .inl rfl
 | succ n=>
  refine .inr ?_
  obtain⟨u,hu⟩:=h n (Nat.lt_succ_self n)
  show _≤(match W.heap[b]? with | some (.cells c _ _)=>c.size | _=>0)
  simp only[World.cell?]at hu
  cases hb:W.heap[b]? with
  | none=>rw[hb]at hu;simp at hu
  | some o=>
   rw[hb]at hu
   cases o<;>first
    | (simp at hu;done)
    | (next c e fr=>
      have:(c[off+n]?)=some u:=hu
      have:=(Array.getElem?_eq_some_iff.1 this).1
      show off+(n+1)≤c.size
      omega)
theorem Does.calls{P:Program}{f:Nat}{args:Array Value}{w:World}{R:Ending→World→Prop}{g:Func}{c:Code}(hP:P.funcs[f]?=some g) (hn:(g.name == "runtime.NumGoroutine")=false) (hb:g.body=some c) (h:Does P f args w R):Calls P f args w R:=by
 rcases h with⟨_,h⟩ | ⟨v,w',h,_⟩
 ·exact h
 ·have hn:g.name ≠ "runtime.NumGoroutine" := by simpa using hn
  simp[callFunc,hP,hn,hb]at h
/-- a law's walk -/
theorem zmX{P:Program}{E:Env}{ti:Ti}(hti:yC P ti)(hmix:P.follows .mixedOrders=true)(hE:ze2 P ti E){f:Nat}{fn:Fn}(hx:E.ext f=none)(hf:E.fn f=some fn){W:World}{ds:List D}{vs:List Value}(hr:RepL (G0 W) ds vs)(hg:GlOk (G0 W) E)
  {st':St} (h:zr E f ds St0=some (.ret (.bool true),st')):Calls P f vs.toArray W fun e w'=>e = .returned (.bool true)∧RowKit.Below W.heap.size W w':=by
 obtain⟨g,c,hP,hn,hb⟩ : ∃ g c,P.funcs[f]?=some g∧(g.name == "runtime.NumGoroutine")=false∧g.body=some c:=by
  have hpl:=(hE.fns f fn hf).2
  split at hpl
  ·obtain⟨g,c,kp,dp,hP,hn,hb,_,_⟩:=hpl
   exact⟨g,c,hP,hn,hb⟩
  ·obtain⟨gf,_,_,_,_,_,_,_,_,_,_,_,_,_,_,_,_,_,_,_,_,hP,hn,hb,_⟩:=hpl
   exact⟨gf,_,hP,hn,hb⟩
 have:=(zhb hti hmix hE f ds St0 _ st' h (G0 W) vs (zst W) hr hg).calls hP hn hb
 refine Calls.mono this ?_
 rintro e w' ⟨S',rfl,he,hi,ho⟩
 refine⟨?_,zrb he⟩
 cases e with
 | returned v=>
  obtain⟨d,hd,hv⟩:=ho
  injection hd with hd
  subst hd
  rw[hv.bool_inv rfl]
 | panicked ch=>
  obtain⟨d,v,hd,_⟩:=ho
  cases hd
 | outgrown=>exact ho.elim
end Go.Ev
end
section
namespace Go.Ev
def look:List (Nat×Fn)→Nat→Option Fn
 | [],_=>none
 | p::r,f=>if f=p.1 then some p.2 else look r f
def zes:List (Nat×List X×Fn)→Nat→Option (List X×Fn)
 | [],_=>none
 | p::r,f=>if f=p.1 then some p.2 else zes r f
/-- a function of the table stands for the program's -/
def Goods(P:Program)(ti:Ti)(dl:List (Nat×List X×Fn))(l:List (Nat×Fn)):Prop := ∀ p∈l,p.1<wS∧match zes dl p.1 with | none=>Plain P ti p.1 p.2 | some q=>Dfr P ti p.1 p.2 q
theorem Goods.nil(P:Program)(ti:Ti)(dl:List (Nat×List X×Fn)):Goods P ti dl []:=fun p hp=>by simp at hp
def lone(dl:List (Nat×List X×Fn))(f:Nat):Bool:=Nat.blt f wS && (match zes dl f with | none=>true | some _=>false)
theorem Goods.cons{P:Program}{ti:Ti}{dl:List (Nat×List X×Fn)}{f:Nat}{fn:Fn}{l:List (Nat×Fn)}(h:Plain P ti f fn)(hl:Goods P ti dl l)(ho:Ev.lone dl f=true:=by rfl):Goods P ti dl ((f,fn)::l):=by
 intro p hp
 rcases List.mem_cons.1 hp with rfl | hp
 ·simp only[Ev.lone,zG,Nat.blt_eq]at ho
  refine⟨ho.1,?_⟩
  split
  ·exact h
  ·next hq=>rw[hq]at ho;exact absurd ho.2 (by simp)
 ·exact hl p hp
theorem Goods.dfr{P:Program}{ti:Ti}{dl:List (Nat×List X×Fn)}{f:Nat}{fn:Fn}{q:List X×Fn}{l:List (Nat×Fn)}(h:Dfr P ti f fn q)(hl:Goods P ti dl l)(ho:zes dl f=some q:=by rfl)(hf:Nat.blt f wS=true:=by rfl):Goods P ti dl ((f,fn)::l):=by
 intro p hp
 rcases List.mem_cons.1 hp with rfl | hp
 ·refine⟨by simpa using hf,?_⟩
  simp only[ho];exact h
 ·exact hl p hp
theorem Q9{l:List (Nat×Fn)}{f:Nat}{fn:Fn}(h:look l f=some fn):(f,fn)∈l:=by
 induction l with
 | nil=>simp[look]at h
 | cons p r ih=>
  simp only[look]at h
  split at h
  ·next e=>injection h with h;subst e h;simp
  ·exact zP _ (ih h)
theorem znS{P:Program}{ti:Ti}{E:Env}{l:List (Nat×Fn)}{dl:List (Nat×List X×Fn)}(hl:Goods P ti dl l)(hE:E.fn=look l)(hd:E.dfr=zes dl)
  (hf : ∀ f e,E.ext f=some (.eff e) → ∀ ds st d st' (S:G) (vs:List Value),effD e ds st=some (d,st')→Inv S st→RepL S ds vs →
   Does P f vs.toArray S.w fun e w' => ∃ S',S'.w=w'∧Ext S S'∧Inv S' st' ∧ ∃ v,e = .returned v∧Rep S' d v)
  (hx : ∀ f h,E.ext f=some (.fn h) → ∀ ds0 ds d,h ds0 ds=some d → ∀ (S:G) (st:St) (vs:List Value),Inv S st→RepL S ds0 vs→RepL S ds vs→GlOk S E →
   Does P f vs.toArray S.w fun e w' => ∃ S',S'.w=w'∧Ext S S'∧Inv S' (told st d).2 ∧ ∃ v,e = .returned v∧Rep S' (told st d).1 v):ze2 P ti E where
 fns f fn h:=by rw[hE]at h;rw[hd];exact hl _ (Q9 h)
 eff:=hf
 ext:=hx
end Go.Ev
end
section
namespace Go.Ev
def Wp(E:Env)(c:C)(st:St)(Q:Ex→St→Prop):Prop := ∃ e s,execL E c st=some (e,s)∧Q e s
def Nxt(K:St→Prop)(Q:Ex→St→Prop):Ex→St→Prop
 | .nrm,s=>K s
 | e,s=>Q e s
def zsp(id:Nat)(Q:Ex→St→Prop):Ex→St→Prop
 | .ext i,s=>if i=id then Q .nrm s else Q (.ext i) s
 | e,s=>Q e s
section
variable {E:Env} {st:St} {Q:Ex→St→Prop}
theorem Wp.mono{c:C}{Q':Ex→St→Prop}(h:Wp E c st Q)(hq : ∀ e s,Q e s→Q' e s):Wp E c st Q':=
 let ⟨e,s,h1,h2⟩:=h;⟨e,s,h1,hq _ _ h2⟩
theorem Wp.skip(h:Q .nrm st):Wp E .skip st Q:=⟨_,_,zcL st,h⟩
theorem Wp.exit{id:Nat}(h:Q (.ext id) st):Wp E (.exit id) st Q:=⟨_,_,zba id st,h⟩
theorem Wp.ret(h:Q .ret st):Wp E .ret st Q:=⟨_,_,zeK st,h⟩
theorem Wp.reg{ops:List OpC}{keep:List Nat}{s:St}(h:runOps E (zr E) ops st=some (.ok s))(hq:Q .nrm { s with tm:=kept keep s.tm }):Wp E (.reg ops keep) st Q:=
 ⟨_,_,by rw[zeF,h],hq⟩
theorem Wp.seq{a b:C}(h:Wp E a st (Nxt (fun s=>Wp E b s Q) Q)):Wp E (.seq a b) st Q:=by
 obtain⟨e,s,h1,h2⟩:=h
 cases e with
 | nrm=>
  obtain⟨e',s',h3,h4⟩:=h2
  exact⟨e',s',by rw[jQ,h1];exact h3,h4⟩
 | ext i=>exact⟨_,s,by rw[jQ,h1],h2⟩
 | ret=>exact⟨_,s,by rw[jQ,h1],h2⟩
 | pan d=>exact⟨_,s,by rw[jQ,h1],h2⟩
theorem Wp.cond{c:X}{a b:C}{t:Bool}(hc:ev E st.tm c=some (.bool t))(h1:t=true→Wp E a st Q)(h2:t=false→Wp E b st Q):Wp E (.cond c a b) st Q:=by
 cases t with
 | true=>obtain⟨e,s,h3,h4⟩:=h1 rfl;exact⟨e,s,by rw[Xy,hc];exact h3,h4⟩
 | false=>obtain⟨e,s,h3,h4⟩:=h2 rfl;exact⟨e,s,by rw[Xy,hc];exact h3,h4⟩
theorem Wp.blk{id:Nat}{c:C}(h:Wp E c st (zsp id Q)):Wp E (.blk id c) st Q:=by
 obtain⟨e,s,h1,h2⟩:=h
 cases e with
 | ext i=>
  by_cases hi:i=id
  ·subst hi
   have h2:if i=i then Q .nrm s else Q (.ext i) s:=h2
   rw[if_pos rfl]at h2
   exact⟨.nrm,s,by rw[qr,h1];simp[zc2],h2⟩
  ·have h2:if i=id then Q .nrm s else Q (.ext i) s:=h2
   rw[if_neg hi]at h2
   exact⟨.ext i,s,by rw[qr,h1];simp[zc2,hi],h2⟩
 | nrm=>exact⟨_,s,by rw[qr,h1];rfl,h2⟩
 | ret=>exact⟨_,s,by rw[qr,h1];rfl,h2⟩
 | pan d=>exact⟨_,s,by rw[qr,h1];rfl,h2⟩
/-- a loop: its states are told by some data, which go down -/
theorem Wp.loop{c:C}{α:Type}(f:α→St)(I:α→Prop)(μ:α→Nat)(x:α)(hx:st=f x)(h0:I x)
  (h : ∀ x,I x→Wp E c (f x) (Nxt (fun s => ∃ y,s=f y∧I y∧μ y<μ x) Q)):Wp E (.loop c) st Q:=by
 have key : ∀ n x,μ x=n→I x→Wp E (.loop c) (f x) Q:=by
  intro n
  induction n using Nat.strongRecOn with
  | _ n ih=>
   intro x hn hI
   obtain⟨e,s,h1,h2⟩:=h x hI
   cases e with
   | nrm=>
    obtain⟨y,rfl,hy,hlt⟩:=h2
    obtain⟨e',s',h3,h4⟩:=ih (μ y) (by omega) y rfl hy
    exact⟨e',s',by rw[jW,h1];exact h3,h4⟩
   | ext i=>exact⟨_,s,by rw[jW,h1],h2⟩
   | ret=>exact⟨_,s,by rw[jW,h1],h2⟩
   | pan d=>exact⟨_,s,by rw[jW,h1],h2⟩
 rw[hx]
 exact key _ x rfl h0
end
end Go.Ev
end
section
namespace Go.Ev
def okS:Nat:=1000001
def VF:Nat:=1000002
def Zs:Option (Nat×Bool)→List Nat
 | some (t,_)=>[t]
 | none=>[]
def z7:List OpC→List Nat
 | []=>[]
 | o::r=>o.op.uses++(Zs o.gd++z7 r)
def zeT(h:Option (List OpC×List OpC×List OpC))(ops:List OpC)(keep:List Nat):C:=match h with | none => .reg ops keep | some q => .drw q.1 q.2.1 q.2.2 ops keep
/-- m: functions that may panic; hs: slots that are kept at a panic -/
def vg(m:Nat→Bool)(hs keep:List Nat):Option (List OpC×List OpC×List OpC)→List OpC→List OpC→C
 | h,pre,[]=>zeT h pre keep
 | h,pre,⟨dst,op,gd⟩::r=>match gd,op with
  | none,.pan x => .seq (zeT h (pre++[⟨some zg,.mv x,none⟩,⟨some okS,.inil true (.s zg),none⟩]) (zg::okS::hs)) (.cond (.s okS) (.exit zg) (.exit VF))
  | none,.call f xs=>match m f with
   | true => .seq (zeT h (pre++[⟨some zg,.call (f+zg) xs,none⟩,⟨some okS,.ext (.s zg) 0,none⟩]) (zg::okS::(z7 r++(keep++hs))))
     (.cond (.s okS) (vg m hs keep none [⟨dst,.ext (.s zg) 1,none⟩] r) (.seq (.reg [⟨some zg,.ext (.s zg) 1,none⟩] (zg::hs)) (.exit zg)))
   | false=>vg m hs keep h (pre++[⟨dst,op,gd⟩]) r
  | _,_=>vg m hs keep h (pre++[⟨dst,op,gd⟩]) r
def isM(m:Nat→Bool)(o:OpC):Bool:=match o.op with | .call f _=>m f | _=>false
def Vi:List OpC→Option (List OpC×OpC)
 | []=>none
 | o::r=>match r with | []=>some ([],o) | _::_=>(Vi r).map fun q=>(o::q.1,q.2)
def zc6(m:Nat→Bool):List OpC→Option (List OpC×OpC×List OpC)
 | []=>none
 | o::r=>if isM m o then some ([],o,r)else(zc6 m r).map fun q=>(o::q.1,q.2)
/-- it writes nothing that these read or write -/
def apart(Z:List OpC)(d:Option Nat):Bool:=Z.all fun z => !ZX d (yI z) && zeR d z.dst
def zio(m:Nat→Bool)(hs keep:List Nat)(dst:Option Nat)(pre b:List OpC):C:=
 .cond (.s okS) (vg m hs keep none (⟨dst,.ext (.s zg) 1,none⟩::pre) b) (.seq (.reg [⟨some zg,.ext (.s zg) 1,none⟩] (zg::hs)) (.exit zg))
def ze7(w:Bool)(g:Nat)(a b:C):C:=match w with | true => .cond (.s g) a b | false => .cond (.s g) b a
/-- a drawn region: a call that may panic stands last among what may come in any order; or among what floats -/
def zrB(m:Nat→Bool)(hs keep:List Nat)(a0 a1 b1 b:List OpC):C:=
 match zc6 m b1 with
 | some (x,⟨dst,.call f xs,none⟩,y)=>
  match hs.isEmpty && apart (v7 a1) dst && y.all (fun o=>Nat.beq o.op.kind 0 && apart (v7 a1) o.dst)with
  | true => .seq (.drw a0 a1 (x++[⟨some zg,.call (f+zg) xs,none⟩]) [⟨some okS,.ext (.s zg) 0,none⟩] (zg::okS::(z7 y++(z7 b++keep)))) (zio m hs keep dst y b)
  | false => .exit VF
 | some _ => .exit VF
 | none=>match b1 with
  | []=>match Vi a1 with
   | some (x,⟨dst,.call f xs,gd⟩)=>match m f with
    | true=>match hs.isEmpty with
     | true=>match gd with
      | none => .seq (.drw a0 (x++[⟨some zg,.call (f+zg) xs,none⟩]) [] [⟨some okS,.ext (.s zg) 0,none⟩] (zg::okS::(z7 b++keep))) (zio m hs keep dst [] b)
      | some (g,w) => .seq (.drw a0 x [] [] (g::(Wx xs++(z7 b++keep)))) (ze7 w g
        (.seq (.drw [] [⟨some zg,.call (f+zg) xs,none⟩] [] [⟨some okS,.ext (.s zg) 0,none⟩] (zg::okS::(z7 b++keep))) (zio m hs keep dst [] b))
        (vg m hs keep none [⟨dst,.call f xs,some (g,w)⟩] b))
     | false => .exit VF
    | false=>vg m hs keep (some (a0,a1,[])) [] b
   | _=>vg m hs keep (some (a0,a1,[])) [] b
  | o::r=>vg m hs keep (some (a0,a1,o::r)) [] b
/-- d: what returns comes out there, too -/
def vG(m:Nat→Bool)(hs:List Nat)(d:Bool):C→C
 | .skip => .skip
 | .reg ops keep=>vg m hs keep none [] ops
 | .drw a0 a1 b1 b keep=>zrB m hs keep a0 a1 b1 b
 | .seq a b => .seq (vG m hs d a) (vG m hs d b)
 | .cond c a b => .cond c (vG m hs d a) (vG m hs d b)
 | .blk id c => .blk id (vG m hs d c)
 | .loop c => .loop (vG m hs d c)
 | .exit id => .exit id
 | .ret=>match d with | true => .seq (.reg [⟨some zg,.mv (.k .nili),none⟩] (zg::hs)) (.exit zg) | false => .ret
/-- slots and ways out are the translation's own -/
def low(l:List Nat):Bool:=l.all fun t=>Nat.blt t zg
def wZ(o:OpC):Bool:=low o.op.uses && (match o.dst with | some t=>Nat.blt t zg | none=>true) && (match o.gd with | some (t,_)=>Nat.blt t zg | none=>true) && (match o.op with | .call f _=>Nat.blt f wS | .pan _=>(match o.gd with | none=>true | some _=>false) | _=>true)
def zeE(o:OpC):Bool:=match o.op with | .pan _=>false | _=>true
def okC:C→Bool
 | .reg ops keep=>ops.all wZ && low keep
 | .drw a0 a1 b1 b keep=>a0.all wZ && a1.all wZ && b1.all wZ && b.all wZ && low keep && a0.all zeE && a1.all zeE && b1.all zeE
 | .seq a b=>okC a && okC b
 | .cond c a b=>low c.uses && okC a && okC b
 | .blk id c=>Nat.blt id zg && okC c
 | .loop c=>okC c
 | .exit id=>Nat.blt id zg
 | _=>true
theorem zaf{E E1:Env}(hg:E1.gl=E.gl)(tm:Tm)(x:X):ev E1 tm x=ev E tm x:=by cases x<;>simp[ev,hg]
theorem J0{E E1:Env}(hg:E1.gl=E.gl)(tm:Tm)(l:List X):evL E1 tm l=evL E tm l:=by
 induction l with
 | nil=>rfl
 | cons x r ih=>simp only[evL,zaf hg,ih]
theorem zql{E E1:Env}(hg:E1.gl=E.gl)(tm:Tm)(l:List (Nat×Nat×X)):evP E1 tm l=evP E tm l:=by
 induction l with
 | nil=>rfl
 | cons x r ih=>obtain⟨a,b,x⟩:=x;simp only[evP,zaf hg,ih]
theorem zqy{E E1:Env}(hg:E1.gl=E.gl)(tm:Tm)(x:Option X):evO E1 tm x=evO E tm x:=by
 cases x with
 | none=>rfl
 | some x=>simp only[evO,zaf hg]
theorem zog{E E1:Env}(hg:E1.gl=E.gl)(st:St)(o:O):opD E1 st o=opD E st o:=by
 cases o<;>simp only[opD,zaf hg,J0 hg,zql hg,zqy hg]
/-! states that agree on what is read yet -/
structure Agree(U:Nat→Prop)(s s1:St):Prop where
 core:s={ s1 with tm:=s.tm }
 tm : ∀ t,U t→get s1.tm t=get s.tm t
structure ZH(cf cf1:Cf):Prop where
 pl : ∀ f ds st q,f<wS→cf1 f ds st=some q→cf f ds st=some q
 np : ∀ f ds st d st',cf1 f ds st≠some (.pan d,st')
 pn : ∀ f ds st q,cf1 (f+zg) ds st=some q → ∃ b d st',q=(.ret (.tup [.bool b,d]),st')∧cf f ds st=some (if b=true then .ret d else .pan d,st')∧(b=false → ∃ t x,d = .iface t x)
theorem zpL{E E1:Env}(hg:E1.gl=E.gl){cf cf1:Cf}(hc:ZH cf cf1){s:St}{o:O}{q:Rv}(hl:(match o with | .call f _=>Nat.blt f wS | _=>true)=true)(h:opX E1 cf1 s o=some q):opX E cf s o=some q:=by
 cases o
 case call f xs=>
  simp only[opX,J0 hg,zA,zB]at h ⊢
  obtain⟨l,hl',p,hq,rfl⟩:=h
  exact⟨l,hl',p,hc.pl _ _ _ _ (by simpa using hl) hq,rfl⟩
 case callv g xs=>
  simp only[opX,J0 hg,zaf hg]at h ⊢
  split at h
  ·split at h<;>try contradiction
   next hlt=>
    rw[if_pos hlt]
    simp only[zA,zB]at h ⊢
    obtain⟨l,hl',p,hq,rfl⟩:=h
    exact⟨l,hl',p,hc.pl _ _ _ _ hlt hq,rfl⟩
  ·contradiction
 case pan x=>simpa only[opX,zaf hg]using h
 all_goals (simp only[opX,zog hg]at h ⊢;exact h)
def zp3(U:Nat→Prop):Rs→Rs→Prop
 | .ok s,.ok s1=>Agree U s s1
 | .pan d s,.pan d1 s1=>d=d1∧Agree U s s1
 | _,_=>False
theorem Agree.set{U:Nat→Prop}{s s1:St}(h:Agree U s s1)(dst:Option Nat)(r:Option D):Agree U (s.set dst r) (s1.set dst r):=by
 obtain⟨h1,h2⟩:=h
 cases dst with
 | none=>cases r<;>exact⟨h1,h2⟩
 | some t=>
  cases r with
  | some d=>
   refine⟨by rw[h1];rfl,fun u hu => ?_⟩
   show get (Ev.put s1.tm t d) u=get (Ev.put s.tm t d) u
   rw[get_put,get_put,h2 u hu]
  | none=>
   refine⟨by rw[h1];rfl,fun u hu => ?_⟩
   show get (Ev.del s1.tm t) u=get (Ev.del s.tm t) u
   rw[jm,jm,h2 u hu]
theorem JK{E E1:Env}(hg:E1.gl=E.gl){cf cf1:Cf}(hc:ZH cf cf1)(ht:ZA cf)(hf:xO cf){o:OpC}(hl:wZ o=true){U:Nat→Prop}(hu : ∀ t∈o.op.uses,U t)(hd : ∀ t∈Zs o.gd,U t){s s1:St}{r1:Rs}(ha:Agree U s s1)(h:opC E1 cf1 o s1=some r1) :
  ∃ r,opC E cf o s=some r∧zp3 U r r1:=by
 have hw:yr s.tm o.gd=yr s1.tm o.gd:=by
  cases hgd:o.gd with
  | none=>rfl
  | some p=>
   obtain⟨t,b⟩:=p
   simp only[yr]
   rw[ha.tm t (hd t (by rw[hgd];simp[Zs]))]
 unfold opC at h ⊢
 rw[hw]
 split at h
 ·simp only[opR,zB]at h
  obtain⟨q,hq,rfl⟩:=h
  simp only[wZ,zG]at hl
  have h1:=zpL hg hc (by have:=hl.2;revert this;cases o.op<;>simp) hq
  have h2:=zg7 ht h1 (tm:=s.tm) (fun t ht=>(ha.tm t (hu t ht)).symm)
  have htm:=(Fq.opX hf h1).tm
  rw[← ha.core]at h2
  simp only[opR,h2,zC]
  refine⟨_,rfl,?_⟩
  cases q with
  | val r s'=>
   have htm:s'.tm=s1.tm:=htm
   exact Agree.set ⟨rfl,fun t ht=>by rw[htm];exact ha.tm t ht⟩ o.dst r
  | pan d s'=>
   have htm:s'.tm=s1.tm:=htm
   exact⟨rfl,rfl,fun t ht=>by rw[htm];exact ha.tm t ht⟩
 ·injection h with h;subst h
  exact⟨_,rfl,Agree.set ha o.dst (some .off)⟩
 ·contradiction
theorem ZN{E E1:Env}(hg:E1.gl=E.gl){cf cf1:Cf}(hc:ZH cf cf1)(ht:ZA cf)(hf:xO cf){l:List OpC}(hl:l.all wZ=true){U:Nat→Prop}(hu : ∀ t∈z7 l,U t){s s1:St}{r1:Rs}(ha:Agree U s s1)(h:runOps E1 cf1 l s1=some r1) :
  ∃ r,runOps E cf l s=some r∧zp3 U r r1:=by
 induction l generalizing s s1 with
 | nil=>injection h with h;subst h;exact⟨_,rfl,ha⟩
 | cons o l ih=>
  simp only[List.all_cons,zG]at hl
  have hu1 : ∀ t∈o.op.uses,U t:=fun t ht=>hu t (by simp[z7,ht])
  have hu2 : ∀ t∈Zs o.gd,U t:=fun t ht=>hu t (by simp[z7,ht])
  have hu3 : ∀ t∈z7 l,U t:=fun t ht=>hu t (by simp[z7,ht])
  simp only[runOps]at h ⊢
  split at h
  ·next s1' he=>
   obtain⟨r,h1,h2⟩:=JK hg hc ht hf hl.1 hu1 hu2 ha he
   cases r with
   | ok s'=>rw[h1];exact ih hl.2 hu3 h2 h
   | pan d s'=>exact h2.elim
  ·next hne=>
   obtain⟨r,h1,h2⟩:=JK hg hc ht hf hl.1 hu1 hu2 ha h
   rw[h1]
   cases r with
   | ok s'=>
    cases r1 with
    | ok s1'=>exact(hne s1' h).elim
    | pan d s1'=>exact h2.elim
   | pan d s'=>exact⟨_,rfl,h2⟩
theorem kP{E E1:Env}(hg:E1.gl=E.gl){cf cf1:Cf}(hc:ZH cf cf1)(ht:ZA cf)(hf:xO cf){l:List OpC}(hl:l.all wZ=true){U:Nat→Prop}(hu : ∀ t∈z7 l,U t){s s1 s1':St}(ha:Agree U s s1)(h:runStill E1 cf1 l s1=some s1') :
  ∃ s',runStill E cf l s=some s'∧Agree U s' s1':=by
 induction l generalizing s s1 with
 | nil=>injection h with h;subst h;exact⟨_,rfl,ha⟩
 | cons o l ih=>
  simp only[List.all_cons,zG]at hl
  have hu1 : ∀ t∈o.op.uses,U t:=fun t ht=>hu t (by simp[z7,ht])
  have hu2 : ∀ t∈Zs o.gd,U t:=fun t ht=>hu t (by simp[z7,ht])
  have hu3 : ∀ t∈z7 l,U t:=fun t ht=>hu t (by simp[z7,ht])
  simp only[runStill]at h ⊢
  split at h
  ·next s2 he=>
   split at h
   ·next hm=>
    obtain⟨r,h1,h2⟩:=JK hg hc ht hf hl.1 hu1 hu2 ha he
    cases r with
    | ok s'=>
     rw[h1]
     have hm':s'.mem=s.mem:=by rw[h2.core,ha.core];exact hm
     simp only[hm',if_true]
     exact ih hl.2 hu3 h2 h
    | pan d s'=>exact h2.elim
   ·contradiction
  ·contradiction
/-! a region that is cut at its calls -/
noncomputable def Y2(E:Env)(cf:Cf):Option (List OpC×List OpC×List OpC)→List OpC→St→Option Rs
 | none,pre,s=>runOps E cf pre s
 | some q,pre,s=>runDrw E cf q.1 q.2.1 q.2.2 pre s
def ju(keep:List Nat):Option Rs→Option (Ex×St)
 | some (.ok s')=>some (.nrm,{ s' with tm:=kept keep s'.tm })
 | some (.pan d s')=>some (.pan d,s')
 | none=>none
theorem Zj{E:Env}{cf:Cf}{n:Nat}(h:Option (List OpC×List OpC×List OpC))(ops:List OpC)(keep:List Nat)(s:St):exec E cf n (zeT h ops keep) s=ju keep (Y2 E cf h ops s):=by
 cases h with
 | none=>
  simp only[zeT,exec,Y2]
  cases runOps E cf ops s with
  | none=>rfl
  | some r=>cases r<;>rfl
 | some q=>
  simp only[zeT,exec,Y2]
  cases runDrw E cf q.1 q.2.1 q.2.2 ops s with
  | none=>rfl
  | some r=>cases r<;>rfl
theorem ZZ{E:Env}{cf:Cf}(h:Option (List OpC×List OpC×List OpC))(a b:List OpC)(s:St):Y2 E cf h (a++b) s=match Y2 E cf h a s with | some (.ok s')=>runOps E cf b s' | e=>e:=by
 cases h with
 | none=>exact y1 a b s
 | some q=>
  simp only[Y2,runDrw]
  cases h1:runOps E cf q.1 s with
  | none=>rfl
  | some r=>
   cases r with
   | pan d s'=>rfl
   | ok s1=>
    simp only
    cases h2:runStill E cf q.2.1 s1 with
    | none=>simp only;cases panLast E cf q.2.1 s1<;>rfl
    | some s2=>
     simp only[runB]
     cases h3:runFl E cf (q.1++q.2.1) (v7 q.2.1) q.2.2 s2 with
     | none=>rfl
     | some r=>
      cases r with
      | pan d s'=>rfl
      | ok s3=>exact y1 a b s3
/-- an operation that is no way out -/
def zpZ(m:Nat→Bool)(o:OpC):Prop := ¬ (o.gd=none ∧ ∃ x,o.op = .pan x) ∧ ¬ (o.gd=none ∧ ∃ f xs,o.op = .call f xs∧m f=true)
theorem JL{m:Nat→Bool}{hs keep:List Nat}{h:Option (List OpC×List OpC×List OpC)}{pre r:List OpC}{o:OpC}(ho:zpZ m o):vg m hs keep h pre (o::r)=vg m hs keep h (pre++[o]) r:=by
 obtain⟨dst,op,gd⟩:=o
 obtain⟨h1,h2⟩:=ho
 cases gd with
 | some p=>cases op<;>rfl
 | none=>
  cases op<;>first | rfl | skip
  case call f xs=>
   have:m f=false:=by
    cases hm:m f with
    | false=>rfl
    | true=>exact(h2 ⟨rfl,f,xs,rfl,hm⟩).elim
   simp only[vg,this]
  case pan x=>exact(h1 ⟨rfl,x,rfl⟩).elim
theorem zhu(m:Nat→Bool)(o:OpC):zpZ m o∨(∃ x,o=⟨o.dst,.pan x,none⟩)∨(∃ f xs,o=⟨o.dst,.call f xs,none⟩∧m f=true):=by
 obtain⟨dst,op,gd⟩:=o
 by_cases h1:gd=none ∧ ∃ x,op = .pan x
 ·obtain⟨rfl,x,rfl⟩:=h1;exact .inr (.inl ⟨x,rfl⟩)
 ·by_cases h2:gd=none ∧ ∃ f xs,op = .call f xs∧m f=true
  ·obtain⟨rfl,f,xs,rfl,hm⟩:=h2;exact .inr (.inr ⟨f,xs,rfl,hm⟩)
  ·exact .inl ⟨h1,h2⟩
theorem kv{E:Env}{cf:Cf}{n:Nat}{a b:C}{s:St}{w:Option (Ex×St)}(h:exec E cf n a s=w)(hw : ∀ s',w≠some (.nrm,s')):exec E cf n (.seq a b) s=w:=by
 simp only[exec]
 rw[h]
 match w,hw with
 | none,_=>rfl
 | some (.nrm,s'),hw=>exact(hw s' rfl).elim
 | some (.ret,s'),_=>rfl
 | some (.ext i,s'),_=>rfl
 | some (.pan d,s'),_=>rfl
theorem WI{E:Env}{cf:Cf}{n:Nat}{m:Nat→Bool}{hs keep:List Nat}(r:List OpC) : ∀ (h:Option (List OpC×List OpC×List OpC)) (pre:List OpC) (s:St),(∀ s',Y2 E cf h pre s≠some (.ok s'))→exec E cf n (vg m hs keep h pre r) s=ju [] (Y2 E cf h pre s):=by
 have fin : ∀ (w:Option Rs) (k:List Nat),(∀ s',w≠some (.ok s'))→ju k w=ju [] w ∧ ∀ s',ju [] w≠some (.nrm,s'):=by
  intro w k hw
  match w,hw with
  | none,_=>exact⟨rfl,fun s' h=>by simp[ju]at h⟩
  | some (.ok s'),hw=>exact(hw s' rfl).elim
  | some (.pan d s'),_=>exact⟨rfl,fun s' h=>by simp[ju]at h⟩
 have app : ∀ (h:Option (List OpC×List OpC×List OpC)) (pre b:List OpC) (s:St),(∀ s',Y2 E cf h pre s≠some (.ok s'))→Y2 E cf h (pre++b) s=Y2 E cf h pre s:=by
  intro h pre b s hw
  rw[ZZ]
  match Y2 E cf h pre s,hw with
  | none,_=>rfl
  | some (.ok s'),hw=>exact(hw s' rfl).elim
  | some (.pan d s'),_=>rfl
 induction r with
 | nil=>
  intro h pre s hw
  rw[vg,Zj]
  exact(fin _ keep hw).1
 | cons o r ih=>
  intro h pre s hw
  rcases zhu m o with ho | ⟨x,ho⟩ | ⟨f,xs,ho,hm⟩
  ·rw[JL ho,ih h (pre++[o]) s (by rw[app h pre [o] s hw];exact hw),app h pre [o] s hw]
  ·rw[ho]
   simp only[vg]
   refine kv ?_ (fin _ [] hw).2
   rw[Zj,app h pre _ s hw]
   exact(fin _ _ hw).1
  ·rw[ho]
   simp only[vg,hm]
   refine kv ?_ (fin _ [] hw).2
   rw[Zj,app h pre _ s hw]
   exact(fin _ _ hw).1
theorem zjE{l:List OpC}{q:List OpC×OpC}(h:Vi l=some q):l=q.1++[q.2]:=by
 induction l generalizing q with
 | nil=>simp[Vi]at h
 | cons o r ih=>
  cases r with
  | nil=>injection h with h;subst h;rfl
  | cons a b=>
   simp only[Vi,zB]at h
   obtain⟨q',h1,rfl⟩:=h
   have:=ih (by simpa only[Vi]using h1)
   rw[this];rfl
theorem zpl{m:Nat→Bool}{l:List OpC}{q:List OpC×OpC×List OpC}(h:zc6 m l=some q):l=q.1++q.2.1::q.2.2:=by
 induction l generalizing q with
 | nil=>simp[zc6]at h
 | cons o r ih=>
  simp only[zc6]at h
  split at h
  ·injection h with h;subst h;rfl
  ·simp only[zB]at h
   obtain⟨q',h1,rfl⟩:=h
   rw[ih h1];rfl
theorem WN{E:Env}{cf:Cf}{x y:List OpC}{s:St}:runStill E cf (x++y) s=(runStill E cf x s).bind fun s2=>runStill E cf y s2:=by
 induction x generalizing s with
 | nil=>rfl
 | cons o x ih=>
  simp only[List.cons_append,runStill]
  split
  ·split
   ·exact ih
   ·rfl
  ·rfl
theorem zdm{E:Env}{cf:Cf}{x:List OpC}{c:OpC}{s s2 s3:St}{d:D}(h:runStill E cf x s=some s2)(hc:opC E cf c s2=some (.pan d s3)):panLast E cf (x++[c]) s=some (d,s3):=by
 induction x generalizing s with
 | nil=>injection h with h;subst h;simp only[List.nil_append,panLast,hc]
 | cons o x ih=>
  simp only[runStill]at h
  simp only[List.cons_append,panLast]
  split at h
  ·next s' he=>
   rw[he]
   split at h
   ·next hm=>simp only[hm,if_true];exact ih h
   ·contradiction
  ·contradiction
theorem Xg{E:Env}{cf:Cf}{Y Z x y:List OpC}{s:St}:runFl E cf Y Z (x++y) s=match runFl E cf Y Z x s with | some (.ok s2)=>runFl E cf Y Z y s2 | e=>e:=by
 induction x generalizing s with
 | nil=>rfl
 | cons o x ih=>
  simp only[List.cons_append,runFl]
  split
  ·split
   ·exact ih
   ·rfl
  ·rfl
  ·rfl
theorem Vq{Z:List OpC}{d:Option Nat}(h:apart Z d=true){z:OpC}(hz:z∈Z):(∀ t∈yI z,d≠some t)∧(∀ t,z.dst=some t→d≠some t):=by
 have:=List.all_eq_true.1 h z hz
 simp only[zG]at this
 refine⟨fun t ht e => ?_,fun t ht e=>zcH this.2 e ht⟩
 have h1:=this.1
 rw[e]at h1
 simp[ZX,qQ.2 ht]at h1
theorem ZNow.set{E:Env}{z:OpC}{s:St}(hk:z.op.kind≤1){d:Option Nat}(h1 : ∀ t∈yI z,d≠some t)(h2 : ∀ t,z.dst=some t→d≠some t)(r:Option D)(h:ZNow E z s):ZNow E z (s.set d r):=by
 have hs:Same (yI z) s.tm (s.set d r).tm:=fun t ht=>by rw[qx,if_neg (h1 t ht)]
 have hw:=wv hs
 rcases h with⟨h0,q,h3,h4⟩ | ⟨h0,h4⟩
 ·refine .inl ⟨hw.trans h0,q,(jS hk h3).2 _ (fun t ht=>hs t (List.mem_append_left _ ht)) (fun _=>(Eqv.set s d r).1.symm),fun t e ht hg=>h4 t e ht ?_⟩
  rw[qx,if_neg (h2 t ht)]at hg;exact hg
 ·refine .inr ⟨hw.trans h0,fun t e ht hg=>h4 t e ht ?_⟩
  rw[qx,if_neg (h2 t ht)]at hg;exact hg
theorem Xw{l:List OpC}{z:OpC}(h:z∈v7 l):z∈l∧z.op.kind≤1:=by
 obtain⟨h1,h2⟩:=List.mem_filter.1 h
 exact⟨h1,by rw[zJ h2];exact zR _⟩
theorem zgs{E:Env}{cf:Cf}{Y Z y:List OpC}(hy:y.all (fun o=>Nat.beq o.op.kind 0 && apart Z o.dst)=true)(hZ : ∀ z∈Z,z.op.kind≤1){s s':St}(h:runOps E cf y s=some (.ok s'))(hz : ∀ z∈Z,ZNow E z s):runFl E cf Y Z y s=some (.ok s'):=by
 induction y generalizing s with
 | nil=>exact h
 | cons o y ih=>
  simp only[List.all_cons,zG]at hy
  simp only[runOps]at h
  simp only[runFl]
  split at h
  ·next s2 he=>
   rw[he]
   have hk:=zJ hy.1.1
   have hset : ∃ r,s2=s.set o.dst r:=by
    unfold opC at he
    split at he
    ·simp only[opR,zB]at he
     obtain⟨q,hq,hq2⟩:=he
     obtain⟨r,s3,rfl,hop⟩:=za0 (by omega) (by omega) hq
     obtain⟨rfl,_⟩:=jS (by omega) hop
     injection hq2 with hq2
     exact⟨r,hq2.symm⟩
    ·injection he with he;injection he with he;exact⟨some .off,he.symm⟩
    ·contradiction
   obtain⟨r,rfl⟩:=hset
   have hz2 : ∀ z∈Z,ZNow E z (s.set o.dst r):=fun z hzm=>(hz z hzm).set (hZ z hzm) (Vq hy.1.2 hzm).1 (Vq hy.1.2 hzm).2 r
   simp only
   rw[if_pos hz2]
   exact ih hy.2 h hz2
  ·next hne=>exact(hne s' h).elim
def YB(t:Nat):Prop:=t<zg
/-- what a run with panics as values says of the other one -/
def zaG(hs:List Nat)(d:Bool)(e:Ex)(s:St)(e1:Ex)(s1:St):Prop:=
 match e1 with
 | .nrm=>e = .nrm∧Agree YB s s1
 | .ret=>d=false∧e = .ret∧Agree YB s s1
 | .pan _=>False
 | .ext i=>(i=zg→Agree (fun t=>t∈hs) s s1∧((∃ t x,get s1.tm zg=some (.iface t x)∧e = .pan (.iface t x))∨(d=true∧get s1.tm zg=some .nili∧e = .ret)))∧(i≠zg→e = .ext i∧Agree YB s s1)
theorem Q1{hs:List Nat}{d:Bool}{e:Ex}{s s1:St}(h:Agree (fun t=>t∈hs) s s1∧((∃ t x,get s1.tm zg=some (.iface t x)∧e = .pan (.iface t x))∨(d=true∧get s1.tm zg=some .nili∧e = .ret))):zaG hs d e s (.ext zg) s1:=⟨fun _=>h,fun hn=>(hn rfl).elim⟩
theorem zg9{hs:List Nat}{d:Bool}{i:Nat}{s s1:St}(hi:i≠zg)(h:Agree YB s s1):zaG hs d (.ext i) s (.ext i) s1:=⟨fun he=>(hi he).elim,fun _=>⟨rfl,h⟩⟩
theorem YU{hs:List Nat}{d:Bool}{e:Ex}{s s1:St}(h:zaG hs d e s (.ext zg) s1):Agree (fun t=>t∈hs) s s1∧((∃ t x,get s1.tm zg=some (.iface t x)∧e = .pan (.iface t x))∨(d=true∧get s1.tm zg=some .nili∧e = .ret)):=h.1 rfl
theorem Kg{hs:List Nat}{d:Bool}{i:Nat}{e:Ex}{s s1:St}(hi:i≠zg)(h:zaG hs d e s (.ext i) s1):e = .ext i∧Agree YB s s1:=h.2 hi
theorem zbH(E:Env)(tm:Tm)(t:Nat):ev E tm (.s t)=get tm t:=rfl
theorem wN{l:List Nat}(h:low l=true){t:Nat}(ht:t∈l):t<zg:=by
 have:=List.all_eq_true.1 h t ht
 simpa using this
theorem yk{l:List Nat}{tm:Tm}{t:Nat}(h:t∈l):get (kept l tm) t=get tm t:=by
 rw[wC,if_pos (qQ.2 h)]
section
variable {E E1:Env} (hg:E1.gl=E.gl) {cf cf1:Cf} (hc:ZH cf cf1) (ht:ZA cf) (hf:xO cf) {m:Nat→Bool} {hs keep:List Nat} (hk:low keep=true) (hh:low hs=true) {n:Nat}
theorem zmH(hc:ZH cf cf1){o:OpC}(ho : ¬ (o.gd=none ∧ ∃ x,o.op = .pan x))(hl:wZ o=true){s s':St}{x:D}(h:opC E1 cf1 o s=some (.pan x s')):False:=by
 have hno : ∀ x,o.op ≠ .pan x:=by
  intro x hx
  cases hgd:o.gd with
  | none=>exact ho ⟨hgd,x,hx⟩
  | some p=>
   simp only[wZ,zG]at hl
   have:=hl.2
   rw[hx,hgd]at this
   simp at this
 unfold opC at h
 split at h
 ·simp only[opR,zB]at h
  obtain⟨q,hq,hh⟩:=h
  cases q with
  | val=>simp[Rv.to]at hh
  | pan e s2=>
   have base : ∀ {w:Option Rv},(∃ r,w=r)→(opD E1 s o.op).map (fun p=>Rv.val p.1 p.2)=some (.pan e s2)→False:=by
    intro w _ h
    rw[zB]at h
    obtain⟨p,_,h⟩:=h
    cases h
   cases hop:o.op<;>rw[hop]at hq<;>first | (exact(hno _ hop).elim) | skip
   case call f xs=>
    simp only[opX,zA,zB]at hq
    obtain⟨l,_,⟨q,st'⟩,hq,hv⟩:=hq
    cases q with
    | ret=>simp[outV]at hv
    | pan y=>exact hc.np _ _ _ _ _ hq
   case callv g xs=>
    simp only[opX]at hq
    split at hq
    ·split at hq<;>try contradiction
     simp only[zA,zB]at hq
     obtain⟨l,_,⟨q,st'⟩,hq,hv⟩:=hq
     cases q with
     | ret=>simp[outV]at hv
     | pan y=>exact hc.np _ _ _ _ _ hq
    ·contradiction
   all_goals (simp only[opX,zB]at hq;obtain⟨p,_,hq⟩:=hq;cases hq)
 ·simp at h
 ·contradiction
/-- none of these panics -/
def NP(E:Env)(cf:Cf)(l:List OpC):Prop := ∀ o∈l,∀ s x s',opC E cf o s≠some (.pan x s')
theorem NP.app{E:Env}{cf:Cf}{a b:List OpC}(h:NP E cf a)(k:NP E cf b):NP E cf (a++b):=fun o ho=>by
 rcases List.mem_append.1 ho with ho | ho
 ·exact h o ho
 ·exact k o ho
theorem V9(hc:ZH cf cf1){l:List OpC}(hl:l.all wZ=true)(hn:l.all zeE=true):NP E1 cf1 l:=fun o ho s x s' h=>
 zmH hc (fun⟨_,x,hx⟩=>by have:=List.all_eq_true.1 hn o ho;rw[zeE,hx]at this;contradiction) (List.all_eq_true.1 hl o ho) h
theorem zfW(hc:ZH cf cf1)(dst:Option Nat)(f:Nat)(xs:List X):NP E1 cf1 [⟨dst,.call f xs,none⟩]:=fun o ho s x s' h=>by
 obtain rfl:=List.mem_singleton.1 ho
 simp only[opC,yr,opR,opX,zB,zA]at h
 obtain⟨v,⟨l,_,q,hq,rfl⟩,h⟩:=h
 obtain⟨o,st'⟩:=q
 cases o with
 | ret y=>cases h
 | pan y=>exact hc.np _ _ _ _ _ hq
omit hg hc ht hf hk hh in
theorem ziE(dst:Option Nat)(x:X)(i:Nat):NP E1 cf1 [⟨dst,.ext x i,none⟩]:=fun o ho s y s' h=>by
 obtain rfl:=List.mem_singleton.1 ho
 simp only[opC,yr,opR,opX,zB]at h
 obtain⟨v,⟨p,_,rfl⟩,h⟩:=h
 cases h
theorem zez{E:Env}{cf:Cf}{l:List OpC}(hn:NP E cf l){s s':St}{d:D}(h:runOps E cf l s=some (.pan d s')):False:=by
 induction l generalizing s with
 | nil=>injection h with h;cases h
 | cons o l ih=>
  simp only[runOps]at h
  split at h
  ·exact ih (fun o ho=>hn o (zP _ ho)) h
  ·exact hn o List.mem_cons_self _ _ _ h
theorem znB{E:Env}{cf:Cf}{Y Z l:List OpC}(hn:NP E cf l){s s':St}{d:D}(h:runFl E cf Y Z l s=some (.pan d s')):False:=by
 induction l generalizing s with
 | nil=>injection h with h;cases h
 | cons o l ih=>
  simp only[runFl]at h
  split at h
  ·split at h
   ·exact ih (fun o ho=>hn o (zP _ ho)) h
   ·contradiction
  ·next he=>exact hn o List.mem_cons_self _ _ _ he
  ·contradiction
theorem zmY{E:Env}{cf:Cf}{a0 a1 b1 b:List OpC}(h1:NP E cf a1)(h2:NP E cf b1){s:St}{r:Rs}(h:runDrw E cf a0 a1 b1 b s=some r) :
  ∃ s1 s2 s3,runOps E cf a0 s=some (.ok s1)∧runStill E cf a1 s1=some s2∧runFl E cf (a0++a1) (v7 a1) b1 s2=some (.ok s3)∧runOps E cf b s3=some r:=by
 unfold runDrw at h
 split at h
 ·next s1 e1=>
  split at h
  ·next s2 e2=>
   unfold runB at h
   split at h
   ·next s3 e3=>exact⟨s1,s2,s3,e1,e2,e3,h⟩
   ·next hne=>
    cases r with
    | ok s3=>exact(hne s3 h).elim
    | pan d s'=>exact(znB h2 h).elim
  ·simp only[zB]at h
   obtain⟨q,hq,_⟩:=h
   obtain⟨x,c,s2,rfl,_,h2⟩:=VH hq
   exact(h1 c (by simp) _ _ _ h2).elim
 ·contradiction
/-- the first part of a run, and what follows -/
theorem za2{E:Env}{cf:Cf}{n:Nat}{a0 a1 b1 b:List OpC}{k:List Nat}{c2:C}{s s':St}{e:Ex}(h1:NP E cf a1)(h2:NP E cf b1)(h3:NP E cf b)(h:exec E cf n (.seq (.drw a0 a1 b1 b k) c2) s=some (e,s')) :
  ∃ s1 s2 s3 s4,runOps E cf a0 s=some (.ok s1)∧runStill E cf a1 s1=some s2∧runFl E cf (a0++a1) (v7 a1) b1 s2=some (.ok s3)∧runOps E cf b s3=some (.ok s4)∧exec E cf n c2 { s4 with tm:=kept k s4.tm }=some (e,s'):=by
 simp only[exec]at h
 cases hr:runDrw E cf a0 a1 b1 b s with
 | none=>rw[hr]at h;simp at h
 | some r=>
  obtain⟨s1,s2,s3,e1,e2,e3,e4⟩:=zmY h1 h2 hr
  cases r with
  | pan d s4=>exact(zez h3 e4).elim
  | ok s4=>
   rw[hr]at h
   exact⟨s1,s2,s3,s4,e1,e2,e3,e4,h⟩
theorem zih(hg:E1.gl=E.gl){z:OpC}(hl:wZ z=true){s s1:St}(ha:Agree YB s s1)(h:ZNow E1 z s1):ZNow E z s:=by
 simp only[wZ,zG]at hl
 have hs:Same z.op.uses s1.tm s.tm:=fun t ht=>(ha.tm t (wN hl.1.1.1 ht)).symm
 have hw:yr s.tm z.gd=yr s1.tm z.gd:=by
  cases hgd:z.gd with
  | none=>rfl
  | some p=>
   obtain⟨t,b⟩:=p
   have:=hl.1.2
   rw[hgd]at this
   simp only[yr]
   rw[ha.tm t (show t<zg by simpa using this)]
 have hd : ∀ t,z.dst=some t→get s.tm t=get s1.tm t:=by
  intro t ht
  have:=hl.1.1.2
  rw[ht]at this
  exact(ha.tm t (show t<zg by simpa using this)).symm
 rcases h with⟨h0,r,h1,h2⟩ | ⟨h0,h2⟩
 ·refine .inl ⟨hw.trans h0,r,?_,fun t d ht hget=>h2 t d ht (by rw[← hd t ht];exact hget)⟩
  rw[zog hg]at h1
  have:=zil h1 hs
  rw[← ha.core]at this
  exact this
 ·exact .inr ⟨hw.trans h0,fun t d ht hget=>h2 t d ht (by rw[← hd t ht];exact hget)⟩
theorem zeB(hg:E1.gl=E.gl)(hc:ZH cf cf1)(ht:ZA cf)(hf:xO cf){Y Z l:List OpC}(hl:l.all wZ=true)(hz : ∀ z∈Z,wZ z=true)(hu : ∀ t∈z7 l,YB t){s s1 s1':St}(ha:Agree YB s s1)(h:runFl E1 cf1 Y Z l s1=some (.ok s1')) : ∃ s',runFl E cf Y Z l s=some (.ok s')∧Agree YB s' s1':=by
 induction l generalizing s s1 with
 | nil=>injection h with h;injection h with h;subst h;exact⟨s,rfl,ha⟩
 | cons o l ih=>
  simp only[List.all_cons,zG]at hl
  have hu1 : ∀ t∈o.op.uses,YB t:=fun t ht=>hu t (by simp[z7,ht])
  have hu2 : ∀ t∈Zs o.gd,YB t:=fun t ht=>hu t (by simp[z7,ht])
  have hu3 : ∀ t∈z7 l,YB t:=fun t ht=>hu t (by simp[z7,ht])
  simp only[runFl]at h ⊢
  split at h
  ·next s2 he=>
   split at h
   ·next hm=>
    obtain⟨r,h1,h2⟩:=JK hg hc ht hf hl.1 hu1 hu2 ha he
    cases r with
    | ok s'=>
     rw[h1]
     simp only
     rw[if_pos (fun z hzm=>zih hg (hz z hzm) h2 (hm z hzm))]
     exact ih hl.2 hu3 h2 h
    | pan d s'=>exact h2.elim
   ·contradiction
  ·injection h with h;cases h
  ·contradiction
/-- a call whose panic is a value -/
theorem JY(hg:E1.gl=E.gl)(hc:ZH cf cf1)(ht:ZA cf)(hf:xO cf){U:Nat→Prop}{f:Nat}{xs:List X}(hu : ∀ t∈Wx xs,U t){sa s1a s1b:St}(ha:Agree U sa s1a)(h:opC E1 cf1 ⟨some zg,.call (f+zg) xs,none⟩ s1a=some (.ok s1b)) :
  ∃ (b:Bool) (y:D) (st':St),s1b={ st' with tm:=put s1a.tm zg (.tup [.bool b,y]) }∧(b=true → ∀ dst,opC E cf ⟨dst,.call f xs,none⟩ sa=some (.ok (St.set { st' with tm:=sa.tm } dst (some y)))) ∧
   (b=false→(∀ dst,opC E cf ⟨dst,.call f xs,none⟩ sa=some (.pan y { st' with tm:=sa.tm })) ∧ ∃ t w,y = .iface t w):=by
 simp only[opC,yr,opR,opX]at h
 rw[J0 hg]at h
 have hev:evL E sa.tm xs=evL E s1a.tm xs:=(Zn (E:=E) (fun t ht=>ha.tm t (hu t ht))).symm
 cases hv:evL E s1a.tm xs with
 | none=>rw[hv]at h;simp at h
 | some l=>
  rw[hv]at h
  simp only[zD]at h
  cases hq:cf1 (f+zg) l s1a with
  | none=>rw[hq]at h;simp at h
  | some q=>
   obtain⟨b,y,st',rfl,hcf,hif⟩:=hc.pn f l s1a q hq
   have hst:st'.tm=s1a.tm:=(hf _ _ _ _ _ hcf).tm
   have hcf2:=ht _ _ _ _ _ sa.tm hcf
   rw[← ha.core]at hcf2
   rw[hq]at h
   simp only[zC,outV,Rv.to,St.set,St.put,Option.some.injEq,Rs.ok.injEq]at h
   refine⟨b,y,st',by rw[← h,hst],fun hb dst => ?_,fun hb=>⟨fun dst => ?_,hif hb⟩⟩
   ·subst hb
    have hcf2:cf f l sa=some (.ret y,{ st' with tm:=sa.tm }):=hcf2
    simp only[opC,yr,opR,opX,hev,hv,zD,hcf2,zC,outV,Rv.to]
   ·subst hb
    have hcf2:cf f l sa=some (Out.pan y,{ st' with tm:=sa.tm }):=hcf2
    simp only[opC,yr,opR,opX,hev,hv,zD,hcf2,zC,outV,Rv.to]
theorem Xf(hg:E1.gl=E.gl)(hc:ZH cf cf1)(ht:ZA cf)(hf:xO cf)(hk:low keep=true)(hh:low hs=true)(d:Bool)(r:List OpC) : ∀ (h:Option (List OpC×List OpC×List OpC)) (pre:List OpC) (s1 s1' s1a sa:St) (e1:Ex) (U:Nat→Prop),r.all wZ=true→exec E1 cf1 n (vg m hs keep h pre r) s1=some (e1,s1')→e1 ≠ .ext VF→Y2 E1 cf1 h pre s1=some (.ok s1a) →
  Agree U sa s1a→(∀ t∈z7 r,U t)→(∀ t∈keep,U t)→(∀ t∈hs,U t) → ∃ e s',ju keep (runOps E cf r sa)=some (e,s')∧zaG hs d e s' e1 s1':=by
 induction r with
 | nil=>
  intro h pre s1 s1' s1a sa e1 U _ hx hb hrun ha _ hU2 hU3
  rw[vg,Zj,hrun]at hx
  simp only[ju,Option.some.injEq,Prod.mk.injEq]at hx
  obtain⟨rfl,rfl⟩:=hx
  refine⟨_,_,rfl,rfl,?_,fun t _ => ?_⟩
  ·show({ sa with tm:=_ }:St)=_
   rw[ha.core]
  ·show get (kept keep s1a.tm) t=get (kept keep sa.tm) t
   rw[wC,wC]
   split
   ·next hk'=>exact ha.tm t (hU2 t (qQ.1 hk'))
   ·rfl
 | cons o r ih=>
  intro h pre s1 s1' s1a sa e1 U hl hx hb hrun ha hU1 hU2 hU3
  simp only[List.all_cons,zG]at hl
  have hu1 : ∀ t∈o.op.uses,U t:=fun t ht=>hU1 t (by simp[z7,ht])
  have hu2 : ∀ t∈Zs o.gd,U t:=fun t ht=>hU1 t (by simp[z7,ht])
  have hu3 : ∀ t∈z7 r,U t:=fun t ht=>hU1 t (by simp[z7,ht])
  have hlr : ∀ (r:List OpC),r.all wZ=true → ∀ t∈z7 r,t<zg:=by
   intro r
   induction r with
   | nil=>intro _ t ht;simp[z7]at ht
   | cons o r ih=>
    intro hl t ht
    simp only[List.all_cons,zG]at hl
    simp only[z7,List.mem_append]at ht
    have ho:=hl.1
    simp only[wZ,zG]at ho
    rcases ht with ht | ht | ht
    ·exact wN ho.1.1.1 ht
    ·have:=ho.1.2
     cases hgd:o.gd with
     | none=>rw[hgd]at ht;simp[Zs]at ht
     | some p=>
      obtain⟨u,b⟩:=p
      rw[hgd]at ht this
      simp only[Zs,List.mem_singleton]at ht
      subst ht
      simpa using this
    ·exact ih hl.2 t ht
  have e10:zg≠okS:=by decide
  rcases zhu m o with ho | ⟨x,ho⟩ | ⟨f,xs,ho,hm⟩
  ·-- an operation as any other
   rw[JL ho]at hx
   have happ:Y2 E1 cf1 h (pre++[o]) s1=opC E1 cf1 o s1a:=by
    rw[ZZ,hrun]
    simp only[runOps]
    cases hq:opC E1 cf1 o s1a with
    | none=>rfl
    | some q=>cases q<;>rfl
   cases hq:opC E1 cf1 o s1a with
   | none=>
    rw[WI r h (pre++[o]) s1 (by rw[happ,hq];simp),happ,hq]at hx
    simp[ju]at hx
   | some q=>
    cases q with
    | pan y s2=>exact(zmH hc ho.1 hl.1 hq).elim
    | ok s1b=>
     obtain⟨r',h1,h2⟩:=JK hg hc ht hf hl.1 hu1 hu2 ha hq
     cases r' with
     | pan y s2=>exact h2.elim
     | ok sb=>
      obtain⟨e,s',h3,h4⟩:=ih h (pre++[o]) s1 s1' s1b sb e1 U hl.2 hx hb (by rw[happ,hq]) h2 hu3 hU2 hU3
      exact⟨e,s',by simp only[runOps,h1];exact h3,h4⟩
  ·-- a panic
   have hux : ∀ t∈x.uses,U t:=by intro t ht;apply hu1;rw[ho];exact ht
   rw[ho]at hx ⊢
   simp only[vg,exec,Zj]at hx
   rw[ZZ,hrun]at hx
   simp only[runOps,opC,yr,opR,opX,opD,zbH]at hx
   rw[zaf hg]at hx
   have hev:ev E sa.tm x=ev E s1a.tm x:=(yt (E:=E) (fun t ht=>(ha.tm t (hux t ht)))).symm
   cases hv:ev E s1a.tm x with
   | none=>rw[hv]at hx;simp[ju]at hx
   | some v=>
    rw[hv]at hx
    simp only[zC,Rv.to,St.set,St.put,get_put,if_true]at hx
    cases v<;>try (simp[ju]at hx;done)
    case nili=>
     simp only[zC,Rv.to,St.set,St.put,ju]at hx
     rw[yk (by simp)]at hx
     rw[get_put,if_pos rfl]at hx
     simp only[zH,Option.some.injEq,Prod.mk.injEq]at hx
     exact(hb hx.1.symm).elim
    case iface t y=>
     simp only[zC,Rv.to,St.set,St.put,ju]at hx
     rw[yk (by simp)]at hx
     rw[get_put,if_pos rfl]at hx
     simp only[Option.some.injEq,Prod.mk.injEq]at hx
     obtain⟨rfl,rfl⟩:=hx
     refine⟨.pan (.iface t y),sa,?_,?_⟩
     ·simp only[runOps,opC,yr,opR,opX,hev,hv,zC,Rv.to,ju]
     ·refine Q1 ⟨⟨?_,fun u hu => ?_⟩,.inl ⟨t,y,?_,rfl⟩⟩
      ·exact ha.core
      ·have hlt:=wN hh hu
       rw[yk (by simp[hu]),get_put,if_neg (by unfold okS;unfold zg at hlt;omega),get_put,if_neg (by omega)]
       exact ha.tm u (hU3 u hu)
      ·rw[yk (by simp),get_put,if_neg e10,get_put,if_pos rfl]
  ·-- a call
   have hux : ∀ t∈Wx xs,U t:=by intro t ht;apply hu1;rw[ho];exact ht
   have hdst:(match o.dst with | some t=>Nat.blt t zg | none=>true)=true:=by
    have:=hl.1
    simp only[wZ,zG]at this
    exact this.1.1.2
   rw[ho]at hx ⊢
   generalize o.dst=dst at *
   simp only[vg,hm,exec,Zj]at hx
   rw[ZZ,hrun]at hx
   simp only[runOps,opC,yr,opR,opX,opD,zbH]at hx
   rw[J0 hg]at hx
   have hev:evL E sa.tm xs=evL E s1a.tm xs:=(Zn (E:=E) (fun t ht=>(ha.tm t (hux t ht)))).symm
   cases hv:evL E s1a.tm xs with
   | none=>rw[hv]at hx;simp[ju]at hx
   | some l=>
    rw[hv]at hx
    simp only[zD]at hx
    cases hq:cf1 (f+zg) l s1a with
    | none=>rw[hq]at hx;simp[ju]at hx
    | some q=>
     obtain⟨b,y,st',rfl,hcf,hif⟩:=hc.pn f l s1a q hq
     have hst:st'.tm=s1a.tm:=(hf _ _ _ _ _ hcf).tm
     have hcf2:=ht _ _ _ _ _ sa.tm hcf
     rw[← ha.core]at hcf2
     rw[hq]at hx
     simp only[zC,outV,Rv.to,St.set,St.put,get_put,if_true,zD,zM,ju]at hx
     rw[yk (by simp)]at hx
     rw[get_put,if_pos rfl]at hx
     have hold : ∀ t,t<zg→t∈z7 r++(keep++hs)→get (kept (zg::okS::(z7 r++(keep++hs))) (put (put st'.tm zg (.tup [.bool b,y])) okS (.bool b))) t=get sa.tm t:=by
      intro t hlt hm
      rw[yk (by simp only[zS];exact .inr (.inr hm)),get_put,if_neg (by unfold okS;unfold zg at hlt;omega),get_put,if_neg (by omega),hst]
      refine ha.tm t ?_
      rw[List.mem_append,List.mem_append]at hm
      rcases hm with hm | hm | hm
      ·exact hu3 t hm
      ·exact hU2 t hm
      ·exact hU3 t hm
     have hpan:get (kept (zg::okS::(z7 r++(keep++hs))) (put (put st'.tm zg (.tup [.bool b,y])) okS (.bool b))) zg=some (.tup [.bool b,y]):=by
      rw[yk (by simp),get_put,if_neg e10,get_put,if_pos rfl]
     cases b with
     | true=>
      simp only at hx
      have hcf2:cf f l sa=some (.ret y,{ st' with tm:=sa.tm }):=hcf2
      have hrun2:Y2 E1 cf1 none [⟨dst,.ext (.s zg) 1,none⟩] { st' with tm:=kept (zg::okS::(z7 r++(keep++hs))) (put (put st'.tm zg (.tup [.bool true,y])) okS (.bool true)) }=some (.ok (St.set { st' with tm:=kept (zg::okS::(z7 r++(keep++hs))) (put (put st'.tm zg (.tup [.bool true,y])) okS (.bool true)) } dst (some y))):=by
       simp only[Y2,runOps,opC,yr,opR,opX,opD,zbH,hpan,zD,zN,zM,zC,Rv.to]
      have hag:Agree (fun t=>t<zg∧t∈z7 r++(keep++hs)) (St.set { st' with tm:=sa.tm } dst (some y)) (St.set { st' with tm:=kept (zg::okS::(z7 r++(keep++hs))) (put (put st'.tm zg (.tup [.bool true,y])) okS (.bool true)) } dst (some y)):=
       Agree.set ⟨rfl,fun t ht=>hold t ht.1 ht.2⟩ dst (some y)
      obtain⟨e,s',h3,h4⟩:=ih none [⟨dst,.ext (.s zg) 1,none⟩] _ s1' _ _ e1 _ hl.2 hx hb hrun2 hag (fun t ht=>⟨hlr r hl.2 t ht,by simp[ht]⟩) (fun t ht=>⟨wN hk ht,by simp[ht]⟩) (fun t ht=>⟨wN hh ht,by simp[ht]⟩)
      refine⟨e,s',?_,h4⟩
      simp only[runOps,opC,yr,opR,opX,hev,hv,zD,hcf2,zC,outV,Rv.to]
      exact h3
     | false=>
      obtain⟨t,w,rfl⟩:=hif rfl
      simp only[zbH,hpan,zD,zN,zM,zC,Rv.to,St.set,St.put,Option.some.injEq,Prod.mk.injEq]at hx
      obtain⟨rfl,rfl⟩:=hx
      have hcf2:cf f l sa=some (.pan (.iface t w),{ st' with tm:=sa.tm }):=hcf2
      refine⟨.pan (.iface t w),{ st' with tm:=sa.tm },?_,?_⟩
      ·simp only[runOps,opC,yr,opR,opX,hev,hv,zD,hcf2,zC,outV,Rv.to,ju]
      ·refine Q1 ⟨⟨rfl,fun u hu => ?_⟩,.inl ⟨t,w,?_,rfl⟩⟩
       ·have hlt:=wN hh hu
        show get (kept (zg::hs) (put _ zg _)) u=get sa.tm u
        rw[yk (by simp[hu]),get_put,if_neg (by omega)]
        exact hold u hlt (by simp[hu])
       ·show get (kept (zg::hs) (put _ zg _)) zg=_
        rw[yk (by simp),get_put,if_pos rfl]
theorem Qs{r:List OpC}(hl:r.all wZ=true) : ∀ t∈z7 r,YB t:=by
 induction r with
 | nil=>intro t ht;simp[z7]at ht
 | cons o r ih=>
  intro t ht
  simp only[List.all_cons,zG]at hl
  simp only[z7,List.mem_append]at ht
  have ho:=hl.1
  simp only[wZ,zG]at ho
  rcases ht with ht | ht | ht
  ·exact wN ho.1.1.1 ht
  ·have:=ho.1.2
   cases hgd:o.gd with
   | none=>rw[hgd]at ht;simp[Zs]at ht
   | some p=>
    obtain⟨u,b⟩:=p
    rw[hgd]at ht this
    simp only[Zs,List.mem_singleton]at ht
    subst ht
    exact(show _<zg by simpa using this)
  ·exact ih hl.2 t ht
theorem zff{E:Env}{cf:Cf}{n:Nat}{w:Bool}{g:Nat}{A B:C}{s:St}{r:Ex×St}(h:exec E cf n (ze7 w g A B) s=some r) : ∃ v,get s.tm g=some (.bool v)∧exec E cf n (if v=w then A else B) s=some r:=by
 cases w<;>simp only[ze7,exec,zbH]at h<;>split at h<;>first | contradiction | (next hv=>exact⟨_,hv,h⟩)
/-- behind a call whose panic is a value -/
theorem JW(hg:E1.gl=E.gl)(hc:ZH cf cf1)(ht:ZA cf)(hf:xO cf)(hk:low keep=true)(d:Bool){dst:Option Nat}{pre b:List OpC}{bb:Bool}{y:D}{st' sa s1':St}{tmx:Tm}{e1:Ex}(hp:pre.all wZ=true)(hpn:pre.all zeE=true)(hbl:b.all wZ=true)
  (hag : ∀ t,t<zg→t∈z7 pre++(z7 b++keep)→get tmx t=get sa.tm t)
  (hx:exec E1 cf1 n (zio m [] keep dst pre b) { st' with tm:=kept (zg::okS::(z7 pre++(z7 b++keep))) (put (put tmx zg (.tup [.bool bb,y])) okS (.bool bb)) }=some (e1,s1')) (hb:e1 ≠ .ext VF) :
  (bb=true → ∃ s6,runOps E cf pre (St.set { st' with tm:=sa.tm } dst (some y))=some (.ok s6) ∧ ∃ e s',ju keep (runOps E cf b s6)=some (e,s')∧zaG [] d e s' e1 s1') ∧
  (bb=false → ∀ t w,y = .iface t w → ∀ tm',zaG [] d (.pan y) { st' with tm:=tm' } e1 s1'):=by
 have e10:zg≠okS:=by decide
 generalize hK:zg::okS::(z7 pre++(z7 b++keep))=K at hx
 have hKp:zg∈K:=by rw[← hK];simp
 have hKo:okS∈K:=by rw[← hK];simp
 have hpan:get (kept K (put (put tmx zg (.tup [.bool bb,y])) okS (.bool bb))) zg=some (.tup [.bool bb,y]):=by
  rw[yk hKp,get_put,if_neg e10,get_put,if_pos rfl]
 have hok:get (kept K (put (put tmx zg (.tup [.bool bb,y])) okS (.bool bb))) okS=some (.bool bb):=by
  rw[yk hKo,get_put,if_pos rfl]
 have hold : ∀ t,t<zg→t∈z7 pre++(z7 b++keep)→get (kept K (put (put tmx zg (.tup [.bool bb,y])) okS (.bool bb))) t=get sa.tm t:=by
  intro t hlt hm
  rw[yk (by rw[← hK];simp only[zS];exact .inr (.inr hm)),get_put,if_neg (by unfold okS;unfold zg at hlt;omega),get_put,if_neg (by omega)]
  exact hag t hlt hm
 generalize kept K (put (put tmx zg (.tup [.bool bb,y])) okS (.bool bb))=T at *
 simp only[zio,exec,zbH,hok]at hx
 constructor
 ·intro hbb
  subst hbb
  simp only at hx
  have hfirst : ∀ r,runOps E1 cf1 (⟨dst,.ext (.s zg) 1,none⟩::r) { st' with tm:=T }=runOps E1 cf1 r (St.set { st' with tm:=T } dst (some y)):=by
   intro r
   simp only[runOps,opC,yr,opR,opX,opD,zbH,hpan,zD,zN,zM,zC,Rv.to]
  have hag0:Agree (fun t=>t<zg∧t∈z7 pre++(z7 b++keep)) (St.set { st' with tm:=sa.tm } dst (some y)) (St.set { st' with tm:=T } dst (some y)):=
   Agree.set ⟨rfl,fun t ht=>hold t ht.1 ht.2⟩ dst (some y)
  have hup : ∀ t∈z7 pre,t<zg∧t∈z7 pre++(z7 b++keep):=fun t ht=>⟨Qs hp t ht,by simp[ht]⟩
  have hrH:Y2 E1 cf1 none (⟨dst,.ext (.s zg) 1,none⟩::pre) { st' with tm:=T }=runOps E1 cf1 pre (St.set { st' with tm:=T } dst (some y)):=hfirst pre
  cases hr:runOps E1 cf1 pre (St.set { st' with tm:=T } dst (some y))with
  | none=>
   rw[WI b none _ _ (by rw[hrH,hr];simp),hrH,hr]at hx
   simp[ju]at hx
  | some w=>
   cases w with
   | pan z s2=>exact(zez (V9 hc hp hpn) hr).elim
   | ok s6x=>
    obtain⟨r,h1,h2⟩:=ZN hg hc ht hf hp hup hag0 hr
    cases r with
    | pan z s2=>exact h2.elim
    | ok s6=>
     obtain⟨e,s',h3,h4⟩:=Xf hg hc ht hf hk (hs:=[]) rfl d b none _ _ s1' s6x s6 e1 _ hbl hx hb (hrH.trans hr) h2 (fun t ht=>⟨Qs hbl t ht,by simp[ht]⟩) (fun t ht=>⟨wN hk ht,by simp[ht]⟩) (fun t ht=>by simp at ht)
     exact⟨s6,h1,e,s',h3,h4⟩
 ·intro hbb t w hy tm'
  subst hbb
  simp only at hx
  simp only[runOps,opC,yr,opR,opX,opD,zbH,hpan,zD,zN,zM,zC,Rv.to,St.set,St.put,Option.some.injEq,Prod.mk.injEq]at hx
  obtain⟨rfl,rfl⟩:=hx
  refine Q1 ⟨⟨rfl,fun u hu=>by simp at hu⟩,.inl ⟨t,w,?_,by rw[hy]⟩⟩
  show get (kept [zg] (put T zg y)) zg=_
  rw[yk (by simp),get_put,if_pos rfl,hy]
theorem zgE(hg:E1.gl=E.gl)(hc:ZH cf cf1)(ht:ZA cf)(hf:xO cf)(hh:low hs=true)(d:Bool)(c:C):okC c=true → ∀ (s s1 s1':St) (e1:Ex),Agree YB s s1→exec E1 cf1 n (vG m hs d c) s1=some (e1,s1')→e1 ≠ .ext VF → ∃ e s',exec E cf n c s=some (e,s')∧zaG hs d e s' e1 s1':=by
 have finE : ∀ (keep:List Nat) (w:Option Rs) (e:Ex) (s':St),ju keep w=some (e,s')→(match w with
   | some (.ok st')=>some (Ex.nrm,{ st' with tm:=kept keep st'.tm })
   | some (.pan d st')=>some (.pan d,st')
   | none=>none)=some (e,s'):=by
  intro keep w e s' h
  match w,h with
  | some (.ok _),h=>exact h
  | some (.pan _ _),h=>exact h
 induction c with
 | skip=>
  intro _ s s1 s1' e1 ha hx hb
  simp only[vG,exec,Option.some.injEq,Prod.mk.injEq]at hx
  obtain⟨rfl,rfl⟩:=hx
  exact⟨.nrm,s,rfl,rfl,ha⟩
 | reg ops keep=>
  intro hok s s1 s1' e1 ha hx hb
  simp only[okC,zG]at hok
  simp only[vG]at hx
  obtain⟨e,s',h1,h2⟩:=Xf hg hc ht hf hok.2 hh d ops none [] s1 s1' s1 s e1 YB hok.1 hx hb rfl ha (Qs hok.1) (fun t h=>wN hok.2 h) (fun t h=>wN hh h)
  exact⟨e,s',finE _ _ _ _ h1,h2⟩
 | drw a0 a1 b1 b keep=>
  intro hok s s1 s1' e1 ha hx hb
  simp only[okC,zG]at hok
  obtain⟨⟨⟨⟨⟨⟨⟨ho0,ho1⟩,hob⟩,ho2⟩,hkk⟩,hn0⟩,hn1⟩,hnb⟩:=hok
  simp only[vG]at hx
  have hL : ∀ {l:List OpC},l.all wZ=true → ∀ z∈v7 l,wZ z=true:=fun h z hz=>List.all_eq_true.1 h z (Xw hz).1
  have hEx : ∀ {e:Ex} {s':St},ju keep (runDrw E cf a0 a1 b1 b s)=some (e,s')→exec E cf n (.drw a0 a1 b1 b keep) s=some (e,s'):=fun h=>by
   simp only[exec];exact finE _ _ _ _ h
  -- as it stands
  have plain:exec E1 cf1 n (vg m hs keep (some (a0,a1,b1)) [] b) s1=some (e1,s1') → ∃ e s',exec E cf n (.drw a0 a1 b1 b keep) s=some (e,s')∧zaG hs d e s' e1 s1':=by
   intro hx
   cases hr:Y2 E1 cf1 (some (a0,a1,b1)) [] s1 with
   | none=>
    rw[WI b _ [] s1 (by rw[hr];simp),hr]at hx
    simp[ju]at hx
   | some w=>
    obtain⟨s1x,s2x,s3x,e0,e1',e2,e3⟩:=zmY (V9 hc ho1 hn1) (V9 hc hob hnb) hr
    simp only[runOps,Option.some.injEq]at e3
    subst e3
    obtain⟨r,h3,h4⟩:=ZN hg hc ht hf ho0 (Qs ho0) ha e0
    cases r with
    | pan y z=>exact h4.elim
    | ok sx=>
     obtain⟨sy,h5,h6⟩:=kP hg hc ht hf ho1 (Qs ho1) h4 e1'
     obtain⟨sz,h7,h8⟩:=zeB hg hc ht hf hob (hL ho1) (Qs hob) h6 e2
     obtain⟨e,s',h9,h10⟩:=Xf hg hc ht hf hkk hh d b (some (a0,a1,b1)) [] s1 s1' s3x sz e1 YB ho2 hx hb hr h8 (Qs ho2) (fun t h=>wN hkk h) (fun t h=>wN hh h)
     refine⟨e,s',hEx ?_,h10⟩
     simp only[runDrw,h3,h5,runB,h7]
     exact h9
  unfold zrB at hx
  split at hx
  ·-- a call among what floats
   next x dst f xs y hcut=>
   have hb1:=zpl hcut
   simp only at hb1
   subst hb1
   split at hx
   ·next hst=>
    simp only[zG]at hst
    obtain⟨⟨hs0,hap⟩,hyk⟩:=hst
    obtain rfl:hs=[]:=by cases hs with | nil=>rfl | cons a b=>simp at hs0
    simp only[List.all_append,List.all_cons,zG]at hob hnb
    obtain⟨hox,hoc,hoy⟩:=hob
    obtain⟨hnx,_,hny⟩:=hnb
    have hux : ∀ t∈Wx xs,YB t:=by
     simp only[wZ,zG]at hoc
     exact fun t ht=>wN hoc.1.1.1 ht
    obtain⟨s1x,s2x,s3x,s4x,e0,e1',e2,e3,hx⟩:=za2 (V9 hc ho1 hn1) ((V9 hc hox hnx).app (zfW hc _ _ _)) (ziE _ _ _) hx
    rw[Xg]at e2
    split at e2
    ·next smx e4=>
     simp only[runFl]at e2
     split at e2
     rotate_left
     ·injection e2 with e2;cases e2
     ·contradiction
     next s3x' e5=>
      split at e2<;>try contradiction
      next hchk=>
       injection e2 with e2;injection e2 with e2;subst e2
       obtain⟨r,h3,h4⟩:=ZN hg hc ht hf ho0 (Qs ho0) ha e0
       cases r with
       | pan y z=>exact h4.elim
       | ok sx=>
       obtain⟨sy,h5,h6⟩:=kP hg hc ht hf ho1 (Qs ho1) h4 e1'
       obtain⟨sm,h7,h8⟩:=zeB hg hc ht hf hox (hL ho1) (Qs hox) h6 e4
       obtain⟨bb,yv,st',rfl,hT,hF⟩:=JY hg hc ht hf hux h8 e5
       simp only[runOps,opC,yr,opR,opX,opD,zbH,get_put,if_true,zD,zM,zC,Rv.to,St.set,St.put,Option.some.injEq,Rs.ok.injEq]at e3
       subst e3
       obtain⟨k1,k2⟩:=JW hg hc ht hf hkk d (sa:=sm) hoy hny ho2 (fun t hlt _=>h8.tm t hlt) hx hb
       cases bb with
       | true=>
        obtain⟨s6,q1,e,s',q2,q3⟩:=k1 rfl
        refine⟨e,s',hEx ?_,q3⟩
        have hz0 : ∀ z∈v7 a1,ZNow E z { st' with tm:=sm.tm }:=fun z hz=>zih (s:={ st' with tm:=sm.tm }) (s1:={ st' with tm:=put smx.tm zg (.tup [.bool true,yv]) }) hg (hL ho1 z hz) ⟨rfl,fun t hlt=>by
         show get (put smx.tm zg _) t=_
         rw[get_put,if_neg (by have:t<zg:=hlt;omega)]
         exact h8.tm t hlt⟩ (hchk z hz)
        have hz1 : ∀ z∈v7 a1,ZNow E z (St.set { st' with tm:=sm.tm } dst (some yv)):=fun z hz=>(hz0 z hz).set (Xw hz).2 (Vq hap hz).1 (Vq hap hz).2 _
        have hfl:runFl E cf (a0++a1) (v7 a1) (x++⟨dst,.call f xs,none⟩::y) sy=some (.ok s6):=by
         rw[Xg,h7]
         simp only[runFl,hT rfl dst]
         rw[if_pos hz1]
         exact zgs hyk (fun z hz=>(Xw hz).2) q1 hz1
        simp only[runDrw,h3,h5,runB,hfl]
        exact q2
       | false=>
        obtain⟨hF1,t,w,hy⟩:=hF rfl
        have hfl:runFl E cf (a0++a1) (v7 a1) (x++⟨dst,.call f xs,none⟩::y) sy=some (.pan yv { st' with tm:=ZF (a0++a1) sm.tm }):=by
         rw[Xg,h7]
         simp only[runFl,hF1 dst]
        refine⟨.pan yv,{ st' with tm:=ZF (a0++a1) sm.tm },hEx ?_,k2 rfl t w hy _⟩
        simp only[runDrw,h3,h5,runB,hfl,ju]
    ·next hne=>exact(hne s3x e2).elim
   ·simp only[exec,Option.some.injEq,Prod.mk.injEq]at hx
    exact(hb hx.1.symm).elim
  ·simp only[exec,Option.some.injEq,Prod.mk.injEq]at hx
   exact(hb hx.1.symm).elim
  ·split at hx
   ·split at hx
    ·-- a call, the last of what comes in any order
     next x dst f xs gd hcut=>
     have ha1:=zjE hcut
     simp only at ha1
     subst ha1
     simp only[List.all_append,List.all_cons,List.all_nil,Bool.and_true,zG]at ho1 hn1
     obtain⟨hox,hoc⟩:=ho1
     obtain⟨hnx,_⟩:=hn1
     have hux : ∀ t∈Wx xs,YB t:=by
      simp only[wZ,zG]at hoc
      exact fun t ht=>wN hoc.1.1.1 ht
     have fin1 : ∀ {sx sm sq:St},runOps E cf a0 s=some (.ok sx)→runStill E cf x sx=some sm→opC E cf ⟨dst,.call f xs,gd⟩ sm=some (.ok sq)→sq.mem=sm.mem → ∀ {e:Ex} {s':St},ju keep (runOps E cf b sq)=some (e,s')→ju keep (runDrw E cf a0 (x++[⟨dst,.call f xs,gd⟩]) [] b s)=some (e,s'):=by
      intro sx sm sq h1 h2 h3 h4 e s' h5
      have:runStill E cf (x++[⟨dst,.call f xs,gd⟩]) sx=some sq:=by
       rw[WN,h2]
       simp only[zD,runStill,h3,h4,if_true]
      simp only[runDrw,h1,this,runB,runFl]
      exact h5
     have fin2 : ∀ {sx sm sp:St} {y:D},runOps E cf a0 s=some (.ok sx)→runStill E cf x sx=some sm→opC E cf ⟨dst,.call f xs,gd⟩ sm=some (.pan y sp)→ju keep (runDrw E cf a0 (x++[⟨dst,.call f xs,gd⟩]) [] b s)=some (.pan y,{ sp with tm:=ZF (a0++(x++[⟨dst,.call f xs,gd⟩])) sp.tm }):=by
      intro sx sm sp y h1 h2 h3
      have:=zdm h2 h3
      simp only[runDrw,h1,YA this,this,zC,ju]
     split at hx
     ·split at hx
      ·next hm _ hs0=>
       obtain rfl:hs=[]:=by cases hs with | nil=>rfl | cons a b=>simp at hs0
       split at hx
       ·obtain⟨s1x,s2x,s3x,s4x,e0,e1',e2,e3,hx⟩:=za2 ((V9 hc hox hnx).app (zfW hc _ _ _)) (fun o ho=>by simp at ho) (ziE _ _ _) hx
        rw[WN,zA]at e1'
        obtain⟨smx,e4,e1'⟩:=e1'
        simp only[runStill]at e1'
        split at e1'<;>try contradiction
        next s2' e5=>
         split at e1'<;>try contradiction
         next hmem=>
          injection e1' with e1';subst e1'
          injection e2 with e2;injection e2 with e2;subst e2
          obtain⟨r,h3,h4⟩:=ZN hg hc ht hf ho0 (Qs ho0) ha e0
          cases r with
          | pan y z=>exact h4.elim
          | ok sx=>
          obtain⟨sm,h7,h8⟩:=kP hg hc ht hf hox (Qs hox) h4 e4
          obtain⟨bb,yv,st',rfl,hT,hF⟩:=JY hg hc ht hf hux h8 e5
          simp only[runOps,opC,yr,opR,opX,opD,zbH,get_put,if_true,zD,zM,zC,Rv.to,St.set,St.put,Option.some.injEq,Rs.ok.injEq]at e3
          subst e3
          obtain⟨k1,k2⟩:=JW (pre:=[]) hg hc ht hf hkk d (sa:=sm) rfl rfl ho2 (fun t hlt _=>h8.tm t hlt) hx hb
          have hme2:st'.mem=sm.mem:=Eq.trans hmem (show smx.mem=sm.mem from(congrArg St.mem h8.core).symm)
          cases bb with
          | true=>
           obtain⟨s6,q1,e,s',q2,q3⟩:=k1 rfl
           injection q1 with q1;injection q1 with q1;subst q1
           exact⟨e,s',hEx (fin1 h3 h7 (hT rfl dst) (by rw[← (Eqv.set _ _ _).1];exact hme2) q2),q3⟩
          | false=>
           obtain⟨hF1,t,w,hy⟩:=hF rfl
           exact⟨_,_,hEx (fin2 h3 h7 (hF1 dst)),k2 rfl t w hy _⟩
       ·next g w _=>
        obtain⟨s1x,s2x,s3x,s4x,e0,e1',e2,e3,hx⟩:=za2 (V9 hc hox hnx) (fun o ho=>by simp at ho) (fun o ho=>by simp at ho) hx
        injection e2 with e2;injection e2 with e2;subst e2
        injection e3 with e3;injection e3 with e3;subst e3
        have hgl:g<zg:=by
         simp only[wZ,zG]at hoc
         simpa using hoc.1.2
        obtain⟨r,h3,h4⟩:=ZN hg hc ht hf ho0 (Qs ho0) ha e0
        cases r with
        | pan y z=>exact h4.elim
        | ok sx=>
        obtain⟨sm,h7,h8⟩:=kP hg hc ht hf hox (Qs hox) h4 e1'
        generalize hK:g::(Wx xs++(z7 b++keep))=K at hx
        have hag:Agree (fun t=>t<zg∧t∈K) sm { s2x with tm:=kept K s2x.tm }:=⟨by
         show sm={ s2x with tm:=sm.tm }
         exact h8.core,fun t ht=>by
         show get (kept K s2x.tm) t=get sm.tm t
         rw[yk ht.2];exact h8.tm t ht.1⟩
        have hux2 : ∀ t∈Wx xs,t<zg∧t∈K:=fun t ht=>⟨hux t ht,by rw[← hK];simp[ht]⟩
        have hub : ∀ t,t∈z7 b++keep→t∈K:=fun t ht=>by rw[← hK];simp only[zS,List.mem_append]at ht ⊢;exact .inr (.inr ht)
        obtain⟨v,hv,hx⟩:=zff hx
        have hvE:get sm.tm g=some (.bool v):=by rw[← hag.tm g ⟨hgl,by rw[← hK];simp⟩];exact hv
        by_cases hvw:v=w
        ·subst hvw
         rw[if_pos rfl]at hx
         have hgd : ∀ q,opC E cf ⟨dst,.call f xs,none⟩ sm=q→opC E cf ⟨dst,.call f xs,some (g,v)⟩ sm=q:=fun q h=>by
          rw[← h];simp only[opC,yr,hvE,beq_self_eq_true]
         obtain⟨s1y,s2y,s3y,s4y,f0,f1,f2,f3,hx⟩:=za2 (zfW hc _ _ _) (fun o ho=>by simp at ho) (ziE _ _ _) hx
         injection f0 with f0;injection f0 with f0;subst f0
         injection f2 with f2;injection f2 with f2;subst f2
         simp only[runStill]at f1
         split at f1<;>try contradiction
         next s2' e5=>
          split at f1<;>try contradiction
          next hmem=>
           injection f1 with f1;subst f1
           obtain⟨bb,yv,st',rfl,hT,hF⟩:=JY hg hc ht hf hux2 hag e5
           simp only[runOps,opC,yr,opR,opX,opD,zbH,get_put,if_true,zD,zM,zC,Rv.to,St.set,St.put,Option.some.injEq,Rs.ok.injEq]at f3
           subst f3
           obtain⟨k1,k2⟩:=JW (pre:=[]) hg hc ht hf hkk d (sa:=sm) rfl rfl ho2 (fun t hlt hm=>hag.tm t ⟨hlt,hub t hm⟩) hx hb
           have hme2:st'.mem=sm.mem:=Eq.trans hmem (show s2x.mem=sm.mem from(congrArg St.mem h8.core).symm)
           cases bb with
           | true=>
            obtain⟨s6,q1,e,s',q2,q3⟩:=k1 rfl
            injection q1 with q1;injection q1 with q1;subst q1
            exact⟨e,s',hEx (fin1 h3 h7 (hgd _ (hT rfl dst)) (by rw[← (Eqv.set _ _ _).1];exact hme2) q2),q3⟩
           | false=>
            obtain⟨hF1,t,w,hy⟩:=hF rfl
            exact⟨_,_,hEx (fin2 h3 h7 (hgd _ (hF1 dst))),k2 rfl t w hy _⟩
        ·rw[if_neg hvw]at hx
         have hw : ∀ s0:St,get s0.tm g=some (.bool v) → ∀ (E:Env) (cf:Cf),opC E cf ⟨dst,.call f xs,some (g,w)⟩ s0=some (.ok (s0.put dst .off)):=fun s0 h E cf=>by
          have:(v == w)=false:=by simpa using hvw
          simp only[opC,yr,h,this]
         have hE1:=hw _ hv E1 cf1
         have hE:=hw _ hvE E cf
         have hrH:Y2 E1 cf1 none [⟨dst,.call f xs,some (g,w)⟩] { s2x with tm:=kept K s2x.tm }=some (.ok (St.put { s2x with tm:=kept K s2x.tm } dst .off)):=by
          simp only[Y2,runOps,hE1]
         have hdl:Agree (fun t=>t<zg∧t∈K) (sm.put dst .off) (St.put { s2x with tm:=kept K s2x.tm } dst .off):=Agree.set hag dst (some .off)
         obtain⟨e,s',q2,q3⟩:=Xf hg hc ht hf hkk (hs:=[]) rfl d b none [⟨dst,.call f xs,some (g,w)⟩] _ s1' _ _ e1 _ ho2 hx hb hrH hdl (fun t ht=>⟨Qs ho2 t ht,hub t (by simp[ht])⟩) (fun t ht=>⟨wN hkk ht,hub t (by simp[ht])⟩) (fun t ht=>by simp at ht)
         exact⟨e,s',hEx (fin1 h3 h7 hE (by show(St.set sm dst (some .off)).mem=_;rw[← (Eqv.set _ _ _).1]) q2),q3⟩
      ·simp only[exec,Option.some.injEq,Prod.mk.injEq]at hx
       exact(hb hx.1.symm).elim
     ·exact plain hx
    ·exact plain hx
   ·exact plain hx
 | seq a b iha ihb=>
  intro hok s s1 s1' e1 ha hx hb
  simp only[okC,zG]at hok
  simp only[vG,exec]at hx
  split at hx
  ·next s2 h1=>
   obtain⟨e,s',h2,h3,h4⟩:=iha hok.1 s s1 s2 .nrm ha h1 (by simp)
   subst h3
   obtain⟨e',s'',h5,h6⟩:=ihb hok.2 s' s2 s1' e1 h4 hx hb
   exact⟨e',s'',by simp only[exec,h2];exact h5,h6⟩
  ·next hne=>
   obtain⟨e,s',h2,h3⟩:=iha hok.1 s s1 s1' e1 ha hx hb
   refine⟨e,s',?_,h3⟩
   have:e ≠ .nrm:=by
    rintro rfl
    cases e1 with
    | nrm=>exact hne s1' hx
    | ret=>simp[zaG]at h3
    | pan x=>exact h3
    | ext i=>
     by_cases hi:i=zg
     ·subst hi
      rcases(YU h3).2 with⟨t,x,_,h⟩ | ⟨_,_,h⟩<;>cases h
     ·cases (Kg hi h3).1
   exact kv h2 (fun s' h=>by injection h with h;injection h with h _;exact this h)
 | cond c a b iha ihb=>
  intro hok s s1 s1' e1 ha hx hb
  simp only[okC,zG]at hok
  have hev:ev E s.tm c=ev E1 s1.tm c:=by
   rw[zaf hg]
   exact(yt (E:=E) (fun t ht=>(ha.tm t (wN hok.1.1 ht)))).symm
  simp only[vG,exec]at hx
  simp only[exec,hev]
  split at hx
  ·next hc'=>exact iha hok.1.2 s s1 s1' e1 ha hx hb
  ·next hc'=>exact ihb hok.2 s s1 s1' e1 ha hx hb
  ·contradiction
 | blk id c ih=>
  intro hok s s1 s1' e1 ha hx hb
  simp only[okC,zG,Nat.blt_eq]at hok
  have hid:id≠zg∧id≠VF:=by have:=hok.1;unfold zg at this;unfold zg VF;omega
  simp only[vG,exec]at hx
  split at hx
  ·next i s2 h1=>
   have hib:(Ex.ext i) ≠ .ext VF:=by
    rintro h
    injection h with h
    subst h
    rw[if_neg (Ne.symm hid.2)]at hx
    simp only[Option.some.injEq,Prod.mk.injEq]at hx
    exact hb hx.1.symm
   obtain⟨e,s',h2,h3⟩:=ih hok.2 s s1 s2 (.ext i) ha h1 hib
   by_cases hi:i=zg
   ·subst hi
    rw[if_neg (Ne.symm hid.1)]at hx
    simp only[Option.some.injEq,Prod.mk.injEq]at hx
    obtain⟨rfl,rfl⟩:=hx
    refine⟨e,s',?_,h3⟩
    simp only[exec,h2]
    rcases(YU h3).2 with⟨t,x,_,rfl⟩ | ⟨_,_,rfl⟩<;>rfl
   ·obtain⟨rfl,h4⟩:=Kg hi h3
    split at hx
    ·next hii=>
     simp only[Option.some.injEq,Prod.mk.injEq]at hx
     obtain⟨rfl,rfl⟩:=hx
     exact⟨.nrm,s',by simp only[exec,h2,if_pos hii],rfl,h4⟩
    ·next hii=>
     simp only[Option.some.injEq,Prod.mk.injEq]at hx
     obtain⟨rfl,rfl⟩:=hx
     exact⟨.ext i,s',by simp only[exec,h2,if_neg hii],zg9 hi h4⟩
  ·next hne=>
   obtain⟨e,s',h2,h3⟩:=ih hok.2 s s1 s1' e1 ha hx hb
   refine⟨e,s',?_,h3⟩
   simp only[exec,h2]
   cases e1 with
   | nrm=>rw[h3.1]
   | ret=>rw[h3.2.1]
   | pan x=>exact h3.elim
   | ext i=>exact(hne i s1' hx).elim
 | loop c ih=>
  intro hok s s1 s1' e1 ha hx hb
  simp only[okC]at hok
  simp only[vG,exec]at hx
  have key : ∀ k (s s1:St),Agree YB s s1→loopN (exec E1 cf1 n (vG m hs d c)) k s1=some (e1,s1') → ∃ e s',loopN (exec E cf n c) k s=some (e,s')∧zaG hs d e s' e1 s1':=by
   intro k
   induction k with
   | zero=>intro s s1 _ h;simp[loopN]at h
   | succ k ihk=>
    intro s s1 ha h
    simp only[loopN]at h
    split at h
    ·next s2 h1=>
     obtain⟨e,s',h2,h3,h4⟩:=ih hok s s1 s2 .nrm ha h1 (by simp)
     subst h3
     obtain⟨e',s'',h5,h6⟩:=ihk s' s2 h4 h
     exact⟨e',s'',by simp only[loopN,h2];exact h5,h6⟩
    ·next hne=>
     obtain⟨e,s',h2,h3⟩:=ih hok s s1 s1' e1 ha h hb
     refine⟨e,s',?_,h3⟩
     simp only[loopN,h2]
     cases e1 with
     | nrm=>exact(hne s1' h).elim
     | ret=>rw[h3.2.1]
     | pan x=>exact h3.elim
     | ext i=>
      by_cases hi:i=zg
      ·subst hi
       rcases(YU h3).2 with⟨t,x,_,rfl⟩ | ⟨_,_,rfl⟩<;>rfl
      ·rw[(Kg hi h3).1]
  obtain⟨e,s',h1,h2⟩:=key n s s1 ha hx
  exact⟨e,s',by simp only[exec];exact h1,h2⟩
 | exit id=>
  intro hok s s1 s1' e1 ha hx hb
  simp only[okC,Nat.blt_eq]at hok
  simp only[vG,exec,Option.some.injEq,Prod.mk.injEq]at hx
  obtain⟨rfl,rfl⟩:=hx
  exact⟨.ext id,s,rfl,zg9 (by omega) ha⟩
 | ret=>
  intro _ s s1 s1' e1 ha hx hb
  cases d with
  | false=>
   simp only[vG,exec,Option.some.injEq,Prod.mk.injEq]at hx
   obtain⟨rfl,rfl⟩:=hx
   exact⟨.ret,s,rfl,rfl,rfl,ha⟩
  | true=>
   simp only[vG,exec,runOps,opC,yr,opR,opX,opD,ev,zC,Rv.to,St.set,St.put,Option.some.injEq,Prod.mk.injEq]at hx
   obtain⟨rfl,rfl⟩:=hx
   refine⟨.ret,s,rfl,Q1 ⟨⟨ha.core,fun u hu => ?_⟩,.inr ⟨rfl,?_,rfl⟩⟩⟩
   ·have hlt:=wN hh hu
    rw[yk (by simp[hu]),get_put,if_neg (by omega)]
    exact ha.tm u hlt
   ·rw[yk (by simp),get_put,if_pos rfl]
end
/-! calls -/
theorem zaT(fn:Fn)(st s:St)(d:D)(tm:Tm):leave fn st { s with tm:=tm } d=leave fn st s d:=by
 unfold leave
 simp only[zc0]
theorem zd6{fn:Fn}(hgv:fn.gv=false)(st s:St)(b:Bool)(d:D):leave fn st s (.tup [.bool b,d])=(.tup [.bool b,(leave fn st s d).1],(leave fn st s d).2):=by
 unfold leave
 rw[hgv]
 simp only[zF,if_false,D.cl,clL,D.pure,pureL,D.refs,refsL,List.nil_append,List.append_nil,Bool.true_and,Bool.and_true]
 split
 ·rfl
 ·split<;>rfl
theorem zeq{E:Env}{s s1:St}{U:Nat→Prop}(ha:Agree U s s1){res:List R}(hr : ∀ r∈res,U (match r with | .tmp t=>t | .cell t _ _=>t)):qm s res=qm s1 res:=by
 induction res with
 | nil=>rfl
 | cons r l ih=>
  have h1:=hr r (by simp)
  have ih:=ih (fun x hx=>hr x (by simp[hx]))
  cases r with
  | tmp t=>simp only[qm,ih,ha.tm t h1]
  | cell t ag sz=>
   have hl : ∀ a,wx s ag sz a=wx s1 ag sz a:=by
    intro a
    rw[ha.core]
    cases a<;>rfl
   simp only[qm,ih,ha.tm t h1,hl]
def Ka(res:List R)(p:Nat→Bool):Bool:=res.all fun r=>match r with | .tmp t=>p t | .cell t _ _=>p t
/-- a function with panics as values, and the one without -/
structure Zq(m:Nat→Bool)(fn fn1:Fn):Prop where
 np:fn1.np=fn.np
 res:fn1.res=fn.res
 raw:fn1.raw=fn.raw
 gv:fn1.gv=fn.gv
 ok:okC fn.body=true
 low:Ka fn.res (fun t=>Nat.blt t zg)=true
def znU(m:Nat→Bool)(hs:List Nat)(g1:Nat)(q:List X×Fn)(body:C):C:=
 .seq (.blk zg (.seq (vG m hs true body) (.seq (.reg [⟨some zg,.mv (.k .nili),none⟩] (zg::hs)) (.exit zg)))) (.reg [⟨none,.call g1 (q.1++[.s zg]),none⟩] hs)
structure zbk(E E1:Env)(m:Nat→Bool):Prop where
 gl:E1.gl=E.gl
 dfr : ∀ f,E1.dfr f=none
 ext : ∀ f x,E1.ext f=some x→f<wS∧E.ext f=some x
 fn : ∀ f fn1,f<wS→E1.ext f=none→E1.fn f=some fn1→E.ext f=none ∧ ∃ fn,E.fn f=some fn∧Zq m fn fn1∧match E.dfr f with
  | none=>fn1.body=vG m [] false fn.body
  | some q => ∃ hs xs g1 h1,q.1=xs.map X.s∧low hs=true∧low xs=true∧(∀ x∈xs,x∈hs)∧Ka fn.res (fun t=>has hs t)=true∧fn1.body=znU m hs g1 q fn.body∧wS≤g1∧g1<zg∧E1.fn g1=some h1∧Zq m q.2 h1∧q.2.res=[]∧q.2.gv=false∧h1.body=vG m [] false q.2.body
 pn : ∀ f fn1,E1.fn (f+zg)=some fn1→E.ext f=none∧E.dfr f=none∧f<wS ∧ ∃ fn,E.fn f=some fn∧Zq m fn fn1∧fn.gv=false∧fn1.body=vG m [] false fn.body
 ps : ∀ f fn1,wS≤f→f<zg→E1.fn f=some fn1 → ∃ fn,Zq m fn fn1∧fn1.body=vG m [] false fn.body
theorem Agree.refl(U:Nat→Prop)(s:St):Agree U s s:=⟨rfl,fun _ _=>rfl⟩
theorem QC{res:List R}{p:Nat→Bool}(h:Ka res p=true) : ∀ r∈res,p (match r with | .tmp t=>t | .cell t _ _=>t)=true:=by
 intro r hr
 have:=List.all_eq_true.1 h r hr
 cases r<;>exact this
section
variable {E E1:Env} {m:Nat→Bool} (hP:zbk E E1 m)
theorem zaZ(hP:zbk E E1 m){n:Nat}(ih:ZH (call E n) (call E1 n)){fn fn1:Fn}(hs:Zq m fn fn1){hs':List Nat}(hl:low hs'=true)(d:Bool){ds:List D}{st s1:St}{e1:Ex}(h:exec E1 (call E1 n) n (vG m hs' d fn.body) (enter fn1 ds st)=some (e1,s1))(hb:e1 ≠ .ext VF) :
  ∃ e s,exec E (call E n) n fn.body (enter fn ds st)=some (e,s)∧zaG hs' d e s e1 s1:=by
 have he:enter fn1 ds st=enter fn ds st:=by unfold enter;rw[hs.raw]
 rw[he]at h
 exact zgE hP.gl ih (zaQ E n) Fq.call hl d fn.body hs.ok _ _ _ _ (Agree.refl _ _) h hb
theorem zcK(hP:zbk E E1 m){f f1:Nat}{fn fn1:Fn}(hs:Zq m fn fn1){U:Nat→Prop}{ds:List D}{st s s1:St}(ha:Agree U s s1)(hr : ∀ r∈fn.res,U (match r with | .tmp t=>t | .cell t _ _=>t))(hw : ∀ d,jg f d=d)(hw1 : ∀ d,jg f1 d=d):qg f fn ds st s=qg f1 fn1 ds st s1:=by
 unfold qg
 have hh:home fn1 ds st=home fn ds st:=by unfold home;rw[hs.raw]
 rw[hs.res,zeq (E:=E) ha hr,hh]
 have hl : ∀ d,leave fn (home fn ds st) s d=leave fn1 (home fn ds st) s1 d:=by
  intro d
  rw[ha.core,zaT]
  unfold leave
  rw[hs.gv,hs.raw]
 simp only[hw,hw1,hl]
theorem zmy(hP:zbk E E1 m)(n:Nat):ZH (call E n) (call E1 n):=by
 induction n using Nat.strongRecOn with
 | ind n ih=>
 cases n with
 | zero=>exact⟨fun f ds st q _ h=>by simp[call]at h,fun f ds st d st' h=>by simp[call]at h,fun f ds st q h=>by simp[call]at h⟩
 | succ n=>
 have ihn:=ih n (Nat.lt_succ_self n)
 have hpN:zg=1000000:=rfl
 have hdN:wS=500000:=rfl
 refine⟨fun f ds st q hf h => ?_,fun f ds st d st' h => ?_,fun f ds st q h => ?_⟩
 ·-- a function as it was
  rw[call]at h ⊢
  have hw : ∀ d,jg f d=d:=fun d=>by unfold jg;rw[if_neg (by omega)]
  cases hx:E1.ext f with
  | some x=>
   rw[(hP.ext f x hx).2]
   rw[hx]at h
   cases x<;>exact h
  | none=>
   rw[hx]at h
   simp only[zA]at h
   obtain⟨fn1,hfn1,h⟩:=h
   obtain⟨hxe,fn,hfn,hsf,hd⟩:=hP.fn f fn1 hf hx hfn1
   rw[hxe,hfn]
   simp only[zD]
   cases hdf:E.dfr f with
   | none=>
    rw[hdf]at hd
    simp only at hd
    rw[hd]at h
    cases he:exec E1 (call E1 n) n (vG m [] false fn.body) (enter fn1 ds st)with
    | none=>rw[he]at h;simp[y8]at h
    | some w=>
     obtain⟨e1,s1⟩:=w
     rw[he]at h
     have hb:e1 ≠ .ext VF:=by
      rintro rfl
      simp only[y8]at h
      rw[if_neg (by omega)]at h
      contradiction
     obtain⟨e,s,h1,h2⟩:=zaZ hP ihn hsf (hs':=[]) rfl false he hb
     rw[h1]
     have hlow:=QC hsf.low
     cases e1 with
     | nrm=>
      obtain⟨rfl,ha⟩:=h2
      simp only[y8,hP.dfr]at h
      simp only[y8,hdf]
      rw[zcK hP hsf ha (fun r hr=>by have:=hlow r hr;rw[Nat.blt_eq]at this;exact this) hw hw];exact h
     | ret=>
      obtain⟨_,rfl,ha⟩:=h2
      simp only[y8,hP.dfr]at h
      simp only[y8,hdf]
      rw[zcK hP hsf ha (fun r hr=>by have:=hlow r hr;rw[Nat.blt_eq]at this;exact this) hw hw];exact h
     | pan d=>exact h2.elim
     | ext i=>
      simp only[y8]at h
      rw[if_neg (by omega)]at h
      contradiction
   | some q'=>
    rw[hdf]at hd
    obtain⟨hs,xs,g1,h1,hqx,hlh,hlx,hxh,hrh,hbd,hg1,hg2,hfg,hsg,hqr,hqg,hbg⟩:=hd
    rw[hbd]at h
    -- the body, with whatever way out
    have body : ∀ s2 r,exec E1 (call E1 n) n (.blk zg (.seq (vG m hs true fn.body) (.seq (.reg [⟨some zg,.mv (.k .nili),none⟩] (zg::hs)) (.exit zg)))) (enter fn1 ds st)=some (r,s2)→(r = .nrm ∧ ∃ v e s,exec E (call E n) n fn.body (enter fn ds st)=some (e,s)∧get s2.tm zg=some v∧Agree (fun t=>t∈hs) s s2∧(e = .pan v∨(e = .nrm∨e = .ret)∧v = .nili))∨(∃ i,r = .ext i∧i≠zg):=by
     intro s2 r hx
     simp only[exec]at hx
     cases he:exec E1 (call E1 n) n (vG m hs true fn.body) (enter fn1 ds st)with
     | none=>rw[he]at hx;simp at hx
     | some w=>
      obtain⟨e1,s1⟩:=w
      rw[he]at hx
      by_cases hb:e1 = .ext VF
      ·subst hb
       simp only at hx
       rw[if_neg (by decide)]at hx
       simp only[Option.some.injEq,Prod.mk.injEq]at hx
       exact .inr ⟨VF,hx.1.symm,by decide⟩
      ·obtain⟨e,s,h2,h3⟩:=zaZ hP ihn hsf hlh true he hb
       cases e1 with
       | nrm=>
        obtain⟨rfl,ha⟩:=h3
        simp only[runOps,opC,yr,opR,opX,opD,ev,zC,Rv.to,St.set,St.put,if_true,Option.some.injEq,Prod.mk.injEq]at hx
        obtain⟨rfl,rfl⟩:=hx
        refine .inl ⟨rfl,.nili,_,s,h2,?_,⟨ha.core,fun t ht => ?_⟩,.inr ⟨.inl rfl,rfl⟩⟩
        ·rw[yk (by simp),get_put,if_pos rfl]
        ·have hlt:=wN hlh ht
         rw[yk (by simp[ht]),get_put,if_neg (by omega)]
         exact ha.tm t hlt
       | ret=>exact absurd h3.1 (by simp)
       | pan d=>exact h3.elim
       | ext i=>
        simp only at hx
        by_cases hi:i=zg
        ·subst hi
         rw[if_pos rfl]at hx
         simp only[Option.some.injEq,Prod.mk.injEq]at hx
         obtain⟨rfl,rfl⟩:=hx
         obtain⟨ha,h4⟩:=YU h3
         rcases h4 with⟨t,x,h5,rfl⟩ | ⟨_,h5,rfl⟩
         ·exact .inl ⟨rfl,_,_,s,h2,h5,ha,.inl rfl⟩
         ·exact .inl ⟨rfl,_,_,s,h2,h5,ha,.inr ⟨.inr rfl,rfl⟩⟩
        ·rw[if_neg hi]at hx
         simp only[Option.some.injEq,Prod.mk.injEq]at hx
         exact .inr ⟨i,hx.1.symm,hi⟩
    unfold znU at h
    cases hB:exec E1 (call E1 n) n (.blk zg (.seq (vG m hs true fn.body) (.seq (.reg [⟨some zg,.mv (.k .nili),none⟩] (zg::hs)) (.exit zg)))) (enter fn1 ds st)with
    | none=>
     have:exec E1 (call E1 n) n (.seq (.blk zg (.seq (vG m hs true fn.body) (.seq (.reg [⟨some zg,.mv (.k .nili),none⟩] (zg::hs)) (.exit zg)))) (.reg [⟨none,.call g1 (q'.1++[.s zg]),none⟩] hs)) (enter fn1 ds st)=none:=kv hB (by simp)
     rw[this]at h;simp[y8]at h
    | some w=>
     obtain⟨r,s2⟩:=w
     rcases body s2 r hB with⟨rfl,v,e,s,h2,hv,ha,hev⟩ | ⟨i,rfl,hi⟩
     rotate_left
     ·have:exec E1 (call E1 n) n (.seq (.blk zg (.seq (vG m hs true fn.body) (.seq (.reg [⟨some zg,.mv (.k .nili),none⟩] (zg::hs)) (.exit zg)))) (.reg [⟨none,.call g1 (q'.1++[.s zg]),none⟩] hs)) (enter fn1 ds st)=some (.ext i,s2):=kv hB (by simp)
      rw[this]at h
      simp only[y8]at h
      rw[if_neg (by omega)]at h
      contradiction
     rw[exec,hB]at h
     simp only[exec,runOps,opC,yr,opR,opX]at h
     -- what is handed over
     have hargs : ∀ l1,evL E1 s2.tm (q'.1++[.s zg])=some l1 → ∃ l,evL E s.tm q'.1=some l∧l1=l++[v]:=by
      rw[hqx,J0 hP.gl]
      have hm : ∀ x∈xs,get s2.tm x=get s.tm x:=fun x hx=>ha.tm x (hxh x hx)
      clear hqx hxh hlx
      induction xs with
      | nil=>
       intro l1 h1
       simp only[List.map_nil,List.nil_append,evL,ev,hv,zD,Option.some.injEq]at h1
       exact⟨[],rfl,h1.symm⟩
      | cons x xs ihx=>
       intro l1 h1
       simp only[List.map_cons,List.cons_append,evL,zA]at h1
       obtain⟨d,hd,l',hl',hh⟩:=h1
       injection hh with hh;subst hh
       obtain⟨l,hl,rfl⟩:=ihx (fun y hy=>hm y (by simp[hy])) l' hl'
       refine⟨d::l,?_,rfl⟩
       have hd:get s2.tm x=some d:=hd
       simp only[List.map_cons,evL,ev,← hm x (by simp),hd,zD,hl]
     cases hl1:evL E1 s2.tm (q'.1++[.s zg])with
     | none=>rw[hl1]at h;simp[y8]at h
     | some l1=>
      obtain⟨l,hl,rfl⟩:=hargs l1 hl1
      rw[hl1]at h
      simp only[zD]at h
      cases hcg:call E1 n g1 (l++[v]) s2 with
      | none=>rw[hcg]at h;simp[y8]at h
      | some w=>
       rw[hcg]at h
       -- the deferred call itself
       have hdc : ∃ x,w.1 = .ret x∧dfrRun E (call E n) n q' s v=some { w.2 with tm:=s.tm }:=by
        cases n with
        | zero=>simp[call]at hcg
        | succ k=>
         rw[call]at hcg
         have hxg:E1.ext g1=none:=by
          cases hq:E1.ext g1 with
          | none=>rfl
          | some x=>have:=(hP.ext g1 x hq).1;omega
         rw[hxg,hfg]at hcg
         simp only[zD]at hcg
         rw[hbg]at hcg
         cases hxx:exec E1 (call E1 k) k (vG m [] false q'.2.body) (enter h1 (l++[v]) s2)with
         | none=>rw[hxx]at hcg;simp[y8]at hcg
         | some z=>
          obtain⟨e3,s3⟩:=z
          rw[hxx]at hcg
          have hb:e3 ≠ .ext VF:=by
           rintro rfl
           simp only[y8]at hcg
           rw[if_neg (by omega)]at hcg
           contradiction
          obtain⟨e4,s4,h5,h6⟩:=zaZ hP (ih k (by omega)) hsg (hs':=[]) rfl false hxx hb
          have hent:enter q'.2 (l++[v]) s2=enter q'.2 (l++[v]) s:=by
           have:=zhF q'.2 (l++[v]) s2 s.tm
           rw[← ha.core]at this
           exact this.symm
          rw[hent]at h5
          have h5':=jj (yM E (Nat.le_succ k)) (Nat.le_succ k) h5
          have hhome:home h1 (l++[v]) s2=home q'.2 (l++[v]) s2:=by unfold home;rw[hsg.raw]
          have hlv : ∀ d,leave h1 (home q'.2 (l++[v]) s2) s3 d=leave q'.2 (home q'.2 (l++[v]) s2) s3 d:=by
           intro d;unfold leave;rw[hsg.gv,hsg.raw]
          have fin:Agree YB s4 s3→qg g1 h1 (l++[v]) s2 s3=some w→(e4 = .nrm∨e4 = .ret) → ∃ x,w.1 = .ret x∧dfrRun E (call E (k+1)) (k+1) q' s v=some { w.2 with tm:=s.tm }:=by
           intro hag hr hee
           have hw1 : ∀ d,jg g1 d=d:=fun d=>by unfold jg;rw[if_neg (by omega)]
           simp only[qg,hsg.res,hqr,qm,zC,hw1,one,hhome,hlv,Option.some.injEq]at hr
           subst hr
           refine⟨_,rfl,?_⟩
           have hf:(leave q'.2 (home q'.2 (l++[v]) s) s4 (.tup [])).2={ (leave q'.2 (home q'.2 (l++[v]) s2) s3 (.tup [])).2 with tm:=s.tm }:=by
            have e1:s={ s2 with tm:=s.tm }:=ha.core
            have e2:s4={ s3 with tm:=s4.tm }:=hag.core
            rw[e2,zaT]
            conv=>lhs;rw[e1]
            rw[Xi,ZD]
           unfold dfrRun
           rw[hl]
           simp only[zD]
           rw[h5']
           rcases hee with rfl | rfl<;>simp only[hf]
          cases e3 with
          | nrm=>
           obtain⟨rfl,hag⟩:=h6
           simp only[y8,hP.dfr]at hcg
           exact fin hag hcg (.inl rfl)
          | ret=>
           obtain⟨_,rfl,hag⟩:=h6
           simp only[y8,hP.dfr]at hcg
           exact fin hag hcg (.inr rfl)
          | pan d=>exact h6.elim
          | ext i=>
           simp only[y8]at hcg
           rw[if_neg (by omega)]at hcg
           contradiction
       obtain⟨x,hw1,hdr⟩:=hdc
       obtain⟨o,s5⟩:=w
       simp only at hw1 hdr
       subst hw1
       simp only[zC,outV,Rv.to,St.set,St.put,y8,hP.dfr]at h
       have htm5:s5.tm=s2.tm:=(Fq.call (E:=E1) _ _ _ _ _ hcg).tm
       have hag:Agree (fun t=>t∈hs) { s5 with tm:=s.tm } { s5 with tm:=kept hs s5.tm }:=by
        refine⟨rfl,fun t ht => ?_⟩
        show get (kept hs s5.tm) t=get s.tm t
        rw[yk ht,htm5]
        exact ha.tm t ht
       have hres:qg f fn ds st { s5 with tm:=s.tm }=some q:=by
        rw[zcK hP hsf hag (fun r hr=>qQ.1 (QC hrh r hr)) hw hw];exact h
       rw[h2]
       rcases hev with rfl | ⟨hev | hev,rfl⟩
       ·simp only[y8,hdf,hdr,zD];exact hres
       ·subst hev
        simp only[y8,hdf,hdr,zD];exact hres
       ·subst hev
        simp only[y8,hdf,hdr,zD];exact hres
 ·-- nothing panics
  rw[call]at h
  have np : ∀ {c:C} {hs':List Nat} {b:Bool} {s s':St} {x:D},okC c=true→low hs'=true→exec E1 (call E1 n) n (vG m hs' b c) s=some (.pan x,s')→False:=by
   intro c hs' b s s' x hok hl hx
   obtain⟨e,s2,_,h2⟩:=zgE hP.gl ihn (zaQ E n) Fq.call hl b c hok s s s' (.pan x) (Agree.refl _ _) hx (by simp)
   exact h2
  have ends : ∀ {fn1:Fn} {w:Option (Ex×St)},(∀ x s',w≠some (.pan x,s'))→y8 E1 (call E1 n) n f fn1 ds st w=some (.pan d,st')→False:=by
   intro fn1 w hw h
   match w,hw with
   | none,_=>simp[y8]at h
   | some (.pan x,s'),hw=>exact hw x s' rfl
   | some (.nrm,s'),_=>simp[y8,hP.dfr,qg]at h
   | some (.ret,s'),_=>simp[y8,hP.dfr,qg]at h
   | some (.ext i,s'),_=>
    simp only[y8]at h
    split at h
    ·simp at h
    ·contradiction
  cases hx:E1.ext f with
  | some x=>rw[hx]at h;cases x<;>simp at h
  | none=>
   rw[hx]at h
   simp only[zA]at h
   obtain⟨fn1,hfn1,h⟩:=h
   refine ends (fun x s' he => ?_) h
   rcases Nat.lt_or_ge f wS with hf | hf
   ·obtain⟨_,fn,_,hsf,hd⟩:=hP.fn f fn1 hf hx hfn1
    split at hd
    ·rw[hd]at he;exact np hsf.ok rfl he
    ·obtain⟨hs,xs,g1,h1,hqx,hlh,hlx,hxh,hrh,hbd,_⟩:=hd
     rw[hbd]at he
     unfold znU at he
     simp only[exec]at he
     split at he
     ·next s2 hb=>
      simp only[runOps]at he
      split at he
      ·next s3 ho=>
       split at ho
       ·simp at he
       ·next hne=>simp at he
      ·next d' s3 ho=>
       simp only[Option.some.injEq,Prod.mk.injEq]at he
       split at ho
       ·simp at ho
       ·next hne=>
        simp only[opC,yr,opR,opX,zB,zA]at ho
        obtain⟨w,⟨l,hl,⟨o,s4⟩,hcl,rfl⟩,hv⟩:=ho
        cases o with
        | ret y=>simp[outV,Rv.to]at hv
        | pan y=>exact ihn.np _ _ _ _ _ hcl
      ·contradiction
     ·next hne=>
      -- from within
      cases hB:exec E1 (call E1 n) n (vG m hs true fn.body) (enter fn1 ds st)with
      | none=>rw[hB]at he;simp at he
      | some w=>
       obtain⟨e1,s1⟩:=w
       rw[hB]at he
       cases e1 with
       | pan y=>exact np hsf.ok hlh hB
       | ret=>simp at he
       | nrm=>
        simp only[runOps,opC,yr,opR,opX,opD,ev,zC,Rv.to]at he
        simp at he
       | ext i=>
        simp only at he
        split at he<;>simp at he
   ·rcases Nat.lt_or_ge f zg with hf2 | hf2
    ·obtain⟨fn,hsf,hbd⟩:=hP.ps f fn1 hf hf2 hfn1
     rw[hbd]at he;exact np hsf.ok rfl he
    ·obtain⟨g,rfl⟩ : ∃ g,f=g+zg:=⟨f - zg,by omega⟩
     obtain⟨_,_,_,fn,_,hsf,_,hbd⟩:=hP.pn g fn1 hfn1
     rw[hbd]at he;exact np hsf.ok rfl he
 ·-- a function that yields its panic
  rw[call]at h ⊢
  have hxe:E1.ext (f+zg)=none:=by
   cases hq:E1.ext (f+zg)with
   | none=>rfl
   | some x=>have:=(hP.ext _ x hq).1;omega
  rw[hxe]at h
  simp only[zA]at h
  obtain⟨fn1,hfn1,h⟩:=h
  obtain⟨hx,hdf,hf,fn,hfn,hsf,hgv,hbd⟩:=hP.pn f fn1 hfn1
  rw[hx,hfn]
  simp only[zD]
  rw[hbd]at h
  have hw : ∀ d,jg f d=d:=fun d=>by unfold jg;rw[if_neg (by omega)]
  have hw1 : ∀ d,jg (f+zg) d = .tup [.bool true,d]:=fun d=>by unfold jg;rw[if_pos (by omega)]
  have hh:home fn1 ds st=home fn ds st:=by unfold home;rw[hsf.raw]
  have hlv : ∀ s d,leave fn1 (home fn ds st) s d=leave fn (home fn ds st) s d:=by
   intro s d;unfold leave;rw[hsf.gv,hsf.raw]
  cases he:exec E1 (call E1 n) n (vG m [] false fn.body) (enter fn1 ds st)with
  | none=>rw[he]at h;simp[y8]at h
  | some w=>
   obtain⟨e1,s1⟩:=w
   rw[he]at h
   have hb:e1 ≠ .ext VF:=by
    rintro rfl
    simp only[y8]at h
    rw[if_neg (by intro hc;exact absurd hc.1 (by decide))]at h
    contradiction
   obtain⟨e,s,h1,h2⟩:=zaZ hP ihn hsf (hs':=[]) rfl false he hb
   rw[h1]
   have hlow:=QC hsf.low
   have fin:Agree YB s s1→qg (f+zg) fn1 ds st s1=some q → ∃ b d st',q=(.ret (.tup [.bool b,d]),st')∧qg f fn ds st s=some (if b=true then .ret d else .pan d,st')∧(b=false → ∃ t x,d = .iface t x):=by
    intro ha hr
    have hl : ∀ d,leave fn (home fn ds st) s d=leave fn (home fn ds st) s1 d:=by
     intro d;rw[ha.core,zaT]
    have hro:qm s fn.res=qm s1 fn.res:=zeq (E:=E) ha (fun r hr=>by have:=hlow r hr;rw[Nat.blt_eq]at this;exact this)
    simp only[qg,hsf.res,hh,hlv,hw1,zd6 hgv,zB]at hr
    obtain⟨l,hl1,rfl⟩:=hr
    refine⟨true,_,_,rfl,?_,by simp⟩
    simp only[qg,hro,hl1,hw,hl,zC,if_true]
   cases e1 with
   | nrm=>
    obtain⟨rfl,ha⟩:=h2
    simp only[y8,hP.dfr]at h
    simp only[y8,hdf]
    exact fin ha h
   | ret=>
    obtain⟨_,rfl,ha⟩:=h2
    simp only[y8,hP.dfr]at h
    simp only[y8,hdf]
    exact fin ha h
   | pan d=>exact h2.elim
   | ext i=>
    simp only[y8]at h
    by_cases hi:i=zg
    ·subst hi
     rw[if_pos ⟨rfl,by omega⟩]at h
     obtain⟨ha,h4⟩:=YU h2
     rcases h4 with⟨t,x,h5,rfl⟩ | ⟨hf,_⟩
     ·rw[h5]at h
      simp only[zC,hh,hlv,zd6 hgv,Option.some.injEq]at h
      subst h
      have hl : ∀ d,leave fn (home fn ds st) s d=leave fn (home fn ds st) s1 d:=by
       intro d;rw[ha.core,zaT]
      refine⟨false,_,_,rfl,?_,fun _ => ?_⟩
      ·simp only[y8,hdf,hl,zF,if_false]
      ·unfold leave
       rw[hgv]
       simp only[zF,if_false]
       split
       ·exact⟨_,_,rfl⟩
       ·split<;>exact⟨_,_,rfl⟩
     ·simp at hf
    ·rw[if_neg (fun hc=>hi hc.1)]at h
     contradiction
/-- without fuel -/
theorem zlx(hP:zbk E E1 m){f:Nat}(hf:f<wS){ds:List D}{st:St}{q:Out×St}(h:zr E1 f ds st=some q):zr E f ds st=some q:=by
 obtain⟨n,hn⟩:=xT.1 h
 exact xT.2 ⟨n,(zmy hP n).pl f ds st q hf hn⟩
end
/-! tables -/
def zi6(fn:Fn):Bool:=okC fn.body && Ka fn.res (fun t=>Nat.blt t zg)
def zou(m:Nat→Bool)(fn:Fn):Fn:=⟨fn.np,fn.res,fn.raw,fn.gv,vG m [] false fn.body⟩
theorem YZ{m:Nat→Bool}{fn:Fn}(h:zi6 fn=true):Zq m fn (zou m fn):=by
 simp only[zi6,zG]at h
 exact⟨rfl,rfl,rfl,rfl,h.1,h.2⟩
def Ent(E E1:Env)(m:Nat→Bool)(f:Nat)(fn1:Fn):Prop:=
 (f<wS∧E.ext f=none ∧ ∃ fn,E.fn f=some fn∧Zq m fn fn1∧match E.dfr f with
  | none=>fn1.body=vG m [] false fn.body
  | some q => ∃ hs xs g1 h1,q.1=xs.map X.s∧low hs=true∧low xs=true∧(∀ x∈xs,x∈hs)∧Ka fn.res (fun t=>has hs t)=true∧fn1.body=znU m hs g1 q fn.body∧wS≤g1∧g1<zg∧E1.fn g1=some h1∧Zq m q.2 h1∧q.2.res=[]∧q.2.gv=false∧h1.body=vG m [] false q.2.body) ∨
 (wS≤f∧f<zg ∧ ∃ fn,Zq m fn fn1∧fn1.body=vG m [] false fn.body) ∨
 (∃ g,f=g+zg∧E.ext g=none∧E.dfr g=none∧g<wS ∧ ∃ fn,E.fn g=some fn∧Zq m fn fn1∧fn.gv=false∧fn1.body=vG m [] false fn.body)
section
variable {E E1:Env} {m:Nat→Bool}
theorem Ent.pl{f:Nat}{fn1:Fn}(fn:Fn)(hf:Nat.blt f wS=true)(hx:E.ext f=none)(hn:E.fn f=some fn)(hd:E.dfr f=none)(hs:fn1=zou m fn)(ho:zi6 fn=true):Ent E E1 m f fn1:=by
 subst hs
 refine .inl ⟨by simpa using hf,hx,fn,hn,YZ ho,?_⟩
 rw[hd];rfl
theorem Ent.ps{f:Nat}{fn1:Fn}(fn:Fn)(h1:Nat.ble wS f=true)(h2:Nat.blt f zg=true)(hs:fn1=zou m fn)(ho:zi6 fn=true):Ent E E1 m f fn1:=by
 subst hs
 exact .inr (.inl ⟨by simpa using h1,by simpa using h2,fn,YZ ho,rfl⟩)
theorem Ent.pn{f:Nat}{fn1:Fn}(g:Nat)(fn:Fn)(hg:f=g+zg)(hf:Nat.blt g wS=true)(hx:E.ext g=none)(hn:E.fn g=some fn)(hd:E.dfr g=none)(hgv:fn.gv=false)(hs:fn1=zou m fn)(ho:zi6 fn=true):Ent E E1 m f fn1:=by
 subst hs
 exact .inr (.inr ⟨g,hg,hx,hd,by simpa using hf,fn,hn,YZ ho,hgv,rfl⟩)
def zso(xs hs:List Nat):Bool:=xs.all fun x=>has hs x
theorem Ent.df{f:Nat}{fn1:Fn}(fn:Fn)(q:List X×Fn)(hs xs:List Nat)(g1:Nat)(h1:Fn)(hf:Nat.blt f wS=true)(hx:E.ext f=none)(hn:E.fn f=some fn)(hd:E.dfr f=some q)(hq:q.1=xs.map X.s)(hk:(low hs && low xs && zso xs hs && Ka fn.res (fun t=>has hs t) && Nat.ble wS g1 && Nat.blt g1 zg && zi6 fn && zi6 q.2)=true)
  (hb:fn1=⟨fn.np,fn.res,fn.raw,fn.gv,znU m hs g1 q fn.body⟩) (h1n:E1.fn g1=some h1) (hh:h1=zou m q.2) (hr:q.2.res=[]) (hgv:q.2.gv=false):Ent E E1 m f fn1:=by
 subst hb hh
 simp only[zG]at hk
 obtain⟨⟨⟨⟨⟨⟨⟨k1,k2⟩,k3⟩,k4⟩,k5⟩,k6⟩,k7⟩,k8⟩:=hk
 have hok:=YZ (m:=m) k7
 refine .inl ⟨by simpa using hf,hx,fn,hn,⟨rfl,rfl,rfl,rfl,hok.ok,hok.low⟩,?_⟩
 rw[hd]
 exact⟨hs,xs,g1,_,hq,k1,k2,fun x hx=>qQ.1 (List.all_eq_true.1 k3 x hx),k4,rfl,by simpa using k5,by simpa using k6,h1n,YZ k8,hr,hgv,rfl⟩
def Ents(E E1:Env)(m:Nat→Bool)(l:List (Nat×Fn)):Prop := ∀ p∈l,Ent E E1 m p.1 p.2
theorem Ents.nil:Ents E E1 m []:=fun p hp=>by simp at hp
theorem Ents.cons{f:Nat}{fn:Fn}{l:List (Nat×Fn)}(h:Ent E E1 m f fn)(hl:Ents E E1 m l):Ents E E1 m ((f,fn)::l):=by
 intro p hp
 rcases List.mem_cons.1 hp with rfl | hp
 ·exact h
 ·exact hl p hp
theorem zm4{l:List (Nat×Fn)}(hl:Ents E E1 m l)(h1:E1.fn=look l)(hg:E1.gl=E.gl)(hd : ∀ f,E1.dfr f=none)(hx : ∀ f x,E1.ext f=some x→f<wS∧E.ext f=some x):zbk E E1 m where
 gl:=hg
 dfr:=hd
 ext:=hx
 fn f fn1 hf _ hn:=by
  rw[h1]at hn
  have hpN:zg=1000000:=rfl
  have hdN:wS=500000:=rfl
  rcases hl _ (Q9 hn)with h | h | h
  ·exact⟨h.2.1,h.2.2⟩
  ·have:=h.1;omega
  ·obtain⟨g,hg,_⟩:=h;omega
 pn f fn1 hn:=by
  rw[h1]at hn
  have hpN:zg=1000000:=rfl
  have hdN:wS=500000:=rfl
  rcases hl _ (Q9 hn)with h | h | h
  ·have:=h.1;omega
  ·have:=h.2.1;omega
  ·obtain⟨g,hg,h⟩:=h
   have:f=g:=by omega
   subst this
   exact h
 ps f fn1 hf hf2 hn:=by
  rw[h1]at hn
  have hpN:zg=1000000:=rfl
  have hdN:wS=500000:=rfl
  rcases hl _ (Q9 hn)with h | h | h
  ·have:=h.1;omega
  ·exact h.2.2
  ·obtain⟨g,hg,_⟩:=h;omega
end
end Go.Ev
end
section
namespace Go.Ev
inductive V where
 | bool (b:Bool)
 | int (k:IntKind) (n:Int)
 | float (k:FloatKind) (b:Nat)
 | str (s:List UInt8)
 | nilp | nilf | nili
 | sl (xs:List V)
 | agg (xs:List V)
 | tup (xs:List V)
 | fn (f:Nat) (cap:List V)
 | iface (t:Nat) (x:V)
mutual
def V.toD:V→D
 | .bool b => .bool b
 | .int k n => .int k n
 | .float k b => .float k b
 | .str s => .str s
 | .nilp => .nilp
 | .nilf => .nilf
 | .nili => .nili
 | .sl xs => .sl .no xs.length (flatD xs)
 | .agg xs => .agg (toDL xs)
 | .tup xs => .tup (toDL xs)
 | .fn f c => .fn f (toDL c)
 | .iface t x => .iface t x.toD
def toDL:List V→List D
 | []=>[]
 | x::r=>x.toD::toDL r
def flatD:List V→List D
 | []=>[]
 | x::r=>x.toD.cells++flatD r
end
def V.parts:V→List V
 | .agg xs=>xs
 | x=>[x]
def V.one:V→Bool
 | .agg _ | .tup _=>false
 | _=>true
def yo:List V→Bool
 | []=>true
 | x::r=>x.one && yo r
/-- so many cells -/
def okN(n:Nat)(x:V):Bool:=Nat.beq x.parts.length n && yo x.parts
def yu(sz:Nat):List V→Bool
 | []=>true
 | x::r=>okN sz x && yu sz r
def tst{ρ:Type}(b:Bool)(k:Option ρ):Option ρ:=match b with | true=>k | false=>none
def asBool:V→Option Bool
 | .bool b=>some b
 | _=>none
def zar:V→Option (List UInt8)
 | .str s=>some s
 | _=>none
def xy(sz:Nat):V→Option (List V)
 | .sl xs=>match yu sz xs with | true=>some xs | false=>none
 | _=>none
def zqg:V→Option (Nat×List V)
 | .fn f c=>some (f,c)
 | _=>none
def zh(x:V)(i:Nat):Option V:=x.parts[i]?
def zsl(x:V)(i:Nat):Option V:=match x with | .agg xs=>xs[i]? | _=>none
def YK(x:V)(off sz:Nat):V := .agg ((x.parts.drop off).take sz)
def zrC(x:V)(off sz:Nat):Option V:=match x with | .agg xs=>if off+sz≤xs.length then some (.agg ((xs.drop off).take sz))else none | _=>none
def WX:BinOp→IntKind→Int→Int→Option V
 | .add,k,a,b=>some (.int k (k.wrap (a+b)))
 | .sub,k,a,b=>some (.int k (k.wrap (a - b)))
 | .mul,k,a,b=>some (.int k (k.wrap (a * b)))
 | .quo,k,a,b=>if b=0 then none else some (.int k (k.wrap (a.tdiv b)))
 | .rem,k,a,b=>if b=0 then none else some (.int k (a.tmod b))
 | .and,k,a,b=>some (.int k (bits .and k a b))
 | .or,k,a,b=>some (.int k (bits .or k a b))
 | .xor,k,a,b=>some (.int k (bits .xor k a b))
 | .andNot,k,a,b=>some (.int k (bits .andNot k a b))
 | .eql,_,a,b=>some (.bool (a == b))
 | .neq,_,a,b=>some (.bool (a != b))
 | .lss,_,a,b=>some (.bool (decide (a<b)))
 | .leq,_,a,b=>some (.bool (decide (a≤b)))
 | .gtr,_,a,b=>some (.bool (decide (a > b)))
 | .geq,_,a,b=>some (.bool (decide (a ≥ b)))
 | .shl,k,a,b=>if b<0 then none else some (.int k (k.wrap (a * 2 ^ Nat.min b.toNat k.bits)))
 | .shr,k,a,b=>if b<0 then none else some (.int k (a.fdiv (2 ^ Nat.min b.toNat k.bits)))
def zq3:BinOp→List UInt8→List UInt8→Option V
 | .add,a,b=>if a.length+b.length≤9223372036854775807 then some (.str (a++b))else none
 | .eql,a,b=>some (.bool (a == b))
 | .neq,a,b=>some (.bool (!(a == b)))
 | .lss,a,b=>some (.bool (Op.bytesLess a b))
 | .leq,a,b=>some (.bool (Op.bytesLess a b || a == b))
 | .gtr,a,b=>some (.bool !(Op.bytesLess a b || a == b))
 | .geq,a,b=>some (.bool !(Op.bytesLess a b))
 | _,_,_=>none
def ze(op:BinOp):V→V→Option V
 | .int k a,.int k' b=>if Z8 op || decide (k=k')then WX op k a b else none
 | .str a,.str b=>zq3 op a b
 | .float k a,.float k' b=>if k=k' then(zqv k op a b).map .bool else none
 | _,_=>none
def unV:UnOp→V→Option V
 | .neg,.int k n=>some (.int k (k.wrap (0 - n)))
 | .xor,.int k n=>some (.int k (bits .xor k (if k.signed then -1 else k.max) n))
 | .not,.bool b=>some (.bool !b)
 | _,_=>none
def Jy(neg:Bool):V→Option V
 | .nili=>some (.bool (!neg))
 | .iface _ _=>some (.bool neg)
 | _=>none
def zqP(t:Nat)(ok:Bool):V→Option V
 | .iface u x=>if u=t then some (if ok then .tup [x,.bool true]else x)else none
 | _=>none
def ZP(k:IntKind):V→Option V
 | .int _ n=>some (.int k (k.wrap n))
 | _=>none
def zrl:V→Option V
 | .str s=>some (.str s)
 | _=>none
def kr:List V→Option (List UInt8)
 | []=>some []
 | .int .u8 n::r=>(kr r).bind fun l=>some (UInt8.ofNat n.toNat::l)
 | _=>none
def Zv(l:List UInt8):List V:=l.map fun b => .int .u8 b.toNat
def Kx(d:Option V)(dflt:Nat):Option Nat:=
 match d with
 | none=>some dflt
 | some (.int _ i)=>if 0≤i then some i.toNat else none
 | some _=>none
/-- low and high of a slice expression of what has n elements -/
def zay(l h:Option V)(n:Nat):Option (Nat×Nat):=
 (Kx l 0).bind fun l'=>(Kx h n).bind fun h'=>if l'≤h'∧h'≤n then some (l',h')else none
/-- low and high, the most as high as high -/
def zlA(l h m:Option V)(n:Nat):Option (Nat×Nat):=
 (Kx l 0).bind fun l'=>(Kx h n).bind fun h'=>(Kx m n).bind fun m'=>if h.isSome=true∧l'≤h'∧h'=m'∧m'≤n then some (l',h')else none
/-- low, high and the most, of what has room for c -/
def zpA(l h m:Option V)(n c:Nat):Option (Nat×Nat×Nat):=
 (Kx l 0).bind fun l'=>(Kx h n).bind fun h'=>(Kx m c).bind fun m'=>if(m.isNone=true∨h.isSome=true)∧l'≤h'∧h'≤m'∧m'≤c then some (l',h',m')else none
def zm0(x:V)(l h:Option V):Option V:=
 match x with
 | .str s=>(zay l h s.length).bind fun q=>some (.str ((s.drop q.1).take (q.2 - q.1)))
 | _=>none
def xN(i:V)(n:Nat):Option Nat:=
 match i with
 | .int _ i=>if 0≤i∧i<n then some i.toNat else none
 | _=>none
def zr1(ag:Bool)(n sz:Nat)(x i:V):Option V:=
 match x with
 | .agg xs=>(xN i n).bind fun i=>if ag then(if(i+1) * sz≤xs.length then some (.agg ((xs.drop (i * sz)).take sz))else none)else xs[i * sz]?
 | _=>none
def Zw(x i:V):Option V:=
 match x with
 | .str s=>(xN i s.length).bind fun i=>(s[i]?).bind fun b=>some (.int .u8 b.toNat)
 | _=>none
def zp(x:V)(i:Nat):Option V:=match x with | .tup xs=>xs[i]? | _=>none
def yR:V→Option Nat
 | .sl xs=>some xs.length
 | _=>none
def Ke:V→Option Nat
 | .str s=>some s.length
 | _=>none
def zhj:V→List V→Option V
 | .int k x,[]=>some (.int k x)
 | .int k x,.int k' y::r=>if k=k' then zhj (.int k (if y<x then y else x)) r else none
 | _,_=>none
def zg3:V→List V→Option V
 | .int k x,[]=>some (.int k x)
 | .int k x,.int k' y::r=>if k=k' then zg3 (.int k (if x<y then y else x)) r else none
 | _,_=>none
def zc5(bytes:Nat)(n c:V):Option (Nat×Nat):=
 match n,c with
 | .int .i64 n,.int .i64 c=>if 0≤n∧n≤c∧c * bytes≤140737488355328∧c≤140737488355328 then some (n.toNat,c.toNat)else none
 | _,_=>none
def VO(bytes n m:Nat):Bool:=decide ((n+m) * bytes≤140737488355328) && decide (n+m≤140737488355328)
def zqh(bytes:Nat):V→Option Nat
 | .int .i64 m=>if 0≤m∧m≤140737488355328∧m.toNat * bytes≤140737488355328 then some m.toNat else none
 | _=>none
/-- an element of cells -/
def WB:List V→V
 | [x]=>x
 | xs => .agg xs
/-- what a closure has caught: a value, a cell of a row -/
inductive CP where
 | v (x:V) | p (k off:Nat)
/-- what a slot or a cell holds: a value; a slice whose end is its own (a lineage, the cells of an element); one that has no room; an address in a row of cells; one in a row of elements; a slice into a row of elements; an address in cells that never change; one in an element of a slice; a closure -/
inductive PS where
 | v (x:V)
 | own (id sz:Nat) (xs:List V)
 | full (xs:List V)
 | ptr (k off:Nat)
 | ptrA (k sz i off:Nat)
 | ref (k sz off n c:Nat) (z:Bool)
 | el (cs:List V)
 | elx (sz:Nat) (x:V) (off:Nat)
 | fn (f:Nat) (cap:List CP)
inductive PD where
 | s (p:PS) | agg (ps:List PS)
/-- a row of elements: may be stored in; was handed over, so far as we know, or for sure: nothing is stored in it any more -/
inductive Fz where
 | no | may | yes
inductive RowC where
 | box (n:Nat) (x:V)
 | cells (ps:List PS)
 | arr (fz:Fz) (sz:Nat) (xs:List V)
 | iter (s:List UInt8) (pos:Nat)
 | bld (t e:Nat) (s:List UInt8)
 | dead
/-- ro: nothing is stored in it now -/
structure Row where
 ro:Bool
 c:RowC
abbrev PTm:=List (Nat×Bool×PD)
/-- lim: slices of lineages below it are not appended to now -/
structure PSt where
 tm:PTm
 rows:List Row
 ni:Nat
 lim:Nat
/-- o: a slice that may be appended to, whose room goes over; g: the result may be appended to; u: the first argument has no room -/
inductive PA where
 | v (x:V) | p (j off:Nat) | fn (f:Nat) (cap:List CP) | o (sz:Nat) (xs:List V) | g | u
abbrev PcT:=Nat→List PA→List (Bool×Nat×V)→Option (V×List V)
/-- how a function is called: as any; its result may be appended to; its first argument may be appended to, and its room goes over; its first argument is a slice that has no room; so, and the result may be appended to -/
inductive Md where
 | pl | gv (sz:Nat) | raw (sz:Nat) | ful | gvf (sz:Nat) | eff (e:Eff)
/-- tx: functions whose answer is told -/
structure Gl where
 g:Nat→Option (List V)
 md:Nat→Md
 tx:Nat→Option (List V→Option V)
def zbF:PTm→Nat→Option PD
 | [],_=>none
 | (i,_,d)::r,t=>match Nat.beq i t with | true=>some d | false=>zbF r t
/-- a slot is written: none that is held -/
def znN:PTm→Nat→PD→Option PTm
 | [],t,d=>some [(t,false,d)]
 | (i,f,e)::r,t,d=>match Nat.beq i t with
  | true=>match f with | true=>none | false=>some ((t,false,d)::r)
  | false=>match znN r t d with | some r'=>some ((i,f,e)::r') | none=>none
def zll:PTm→Nat→Option PTm
 | [],_=>some []
 | (i,f,e)::r,t=>match Nat.beq i t with
  | true=>match f with | true=>none | false=>zll r t
  | false=>match zll r t with | some r'=>some ((i,f,e)::r') | none=>none
def hasB:List Nat→Nat→Bool
 | [],_=>false
 | i::r,t=>match Nat.beq i t with | true=>true | false=>hasB r t
def VV(l:List Nat):PTm→PTm
 | []=>[]
 | (i,e)::r=>match hasB l i with | true=>(i,e)::VV l r | false=>VV l r
def setR(rows:List Row)(k:Nat)(r:Row):List Row:=rows.set k r
/-- a row that may be written -/
def zdP(p:PSt)(k:Nat):Option RowC:=match p.rows[k]? with | some ⟨false,c⟩=>some c | _=>none
def J3(p:PSt)(k:Nat):Option RowC:=match p.rows[k]? with | some ⟨_,c⟩=>some c | none=>none
def PSt.setR(p:PSt)(k:Nat)(c:RowC):PSt:={ p with rows:=p.rows.set k ⟨false,c⟩ }
def PSt.newR(p:PSt)(c:RowC):PSt:={ p with rows:=p.rows++[⟨false,c⟩] }
def PS.strip(id:Nat):PS→PS
 | .own i sz xs=>match Nat.beq i id with | true => .v (.sl xs) | false => .own i sz xs
 | q=>q
def stripL(id:Nat):List PS→List PS
 | []=>[]
 | q::r=>q.strip id::stripL id r
def PD.strip(id:Nat):PD→PD
 | .s q => .s (q.strip id)
 | .agg ps => .agg (stripL id ps)
def RowC.strip(id:Nat):RowC→RowC
 | .cells ps => .cells (stripL id ps)
 | c=>c
def ze6(id:Nat):PTm→PTm
 | []=>[]
 | (i,f,d)::r=>(i,f,d.strip id)::ze6 id r
def stripR(id:Nat):List Row→List Row
 | []=>[]
 | ⟨f,c⟩::r=>⟨f,c.strip id⟩::stripR id r
def PSt.strip(p:PSt)(id:Nat):PSt:={ p with tm:=ze6 id p.tm,rows:=stripR id p.rows }
/-- a value out of a handle that hangs on no row -/
def PS.pure:PS→Option V
 | .v x=>some x
 | .own _ _ xs=>some (.sl xs)
 | .full xs=>some (.sl xs)
 | .fn f cap=>match cap with | []=>some (.fn f []) | _=>none
 | _=>none
def j3:List PS→Option (List V)
 | []=>some []
 | q::r=>match q.pure with | some x=>(match j3 r with | some l=>some (x::l) | none=>none) | none=>none
def PD.pureV:PD→Option V
 | .s q=>q.pure
 | .agg ps=>match j3 ps with | some l=>some (.agg l) | none=>none
/-- the same, slices into rows told in place -/
def PS.outV(p:PSt):PS→Option V
 | .ref k _ off n _ _=>match J3 p k with | some (.arr _ _ xs)=>some (.sl ((xs.drop off).take n)) | _=>none
 | q=>q.pure
def Qj(p:PSt):List PS→Option (List V)
 | []=>some []
 | q::r=>match q.outV p with | some x=>(match Qj p r with | some l=>some (x::l) | none=>none) | none=>none
def PD.outV(p:PSt):PD→Option V
 | .s q=>q.outV p
 | .agg ps=>match Qj p ps with | some l=>some (.agg l) | none=>none
def PS.refs:PS→List (Nat×Bool)
 | .ref k _ _ _ _ z=>[(k,z)]
 | _=>[]
def za9:List PS→List (Nat×Bool)
 | []=>[]
 | q::r=>q.refs++za9 r
def PD.refs:PD→List (Nat×Bool)
 | .s q=>q.refs
 | .agg ps=>za9 ps
/-- values alone -/
def zoe:List PS→Option (List V)
 | []=>some []
 | .v x::r=>match zoe r with | some l=>some (x::l) | none=>none
 | _=>none
def PS.oneP:PS→Bool
 | .v x=>x.one
 | _=>true
def zi9:List PS→Bool
 | []=>true
 | q::r=>q.oneP && zi9 r
def zeV(ps:List PS):PD:=match zoe ps with | some l => .s (.v (.agg l)) | none => .agg ps
mutual
def ofD:D→Option V
 | .bool b=>some (.bool b)
 | .int k n=>some (.int k n)
 | .float k b=>some (.float k b)
 | .str s=>some (.str s)
 | .nilp=>some .nilp
 | .nilf=>some .nilf
 | .nili=>some .nili
 | .agg ds=>match ofDL ds with | some l=>some (.agg l) | none=>none
 | .fn f c=>match c with | []=>some (.fn f []) | _=>none
 | .iface t d=>match ofD d with | some x=>some (.iface t x) | none=>none
 | _=>none
def ofDL:List D→Option (List V)
 | []=>some []
 | d::r=>match ofD d with | some x=>(match ofDL r with | some l=>some (x::l) | none=>none) | none=>none
end
def Kn:D→Option PS
 | .sl .full 0 []=>some (.full [])
 | .fn f []=>some (.fn f [])
 | d=>match ofD d with | some x=>some (.v x) | none=>none
def YF:List D→Option (List PS)
 | []=>some []
 | d::r=>match Kn d with | some x=>(match YF r with | some l=>some (x::l) | none=>none) | none=>none
def zji:D→Option PD
 | .agg ds=>match YF ds with | some l=>(match zi9 l with | true=>some (zeV l) | false=>none) | none=>none
 | d=>match Kn d with | some q=>some (.s q) | none=>none
/-- an element's zero cells -/
def zif(z:List D):Option (List V):=
 match YF z with
 | some l=>match zi9 l with
  | true=>match j3 l with
   | some l=>match Nat.blt 0 l.length with | true=>some l | false=>none
   | none=>none
  | false=>none
 | none=>none
/-- an array of bytes -/
def zkF:List D→Bool
 | []=>true
 | d::r=>match d with | .int .u8 (.ofNat 0)=>zkF r | _=>false
def ziU(z:List D):Option Nat:=match zkF z with
 | true=>match Nat.blt 2 z.length with | true=>some z.length | false=>none
 | false=>none
def evH(gl:Gl)(p:PSt):X→Option PD
 | .s t=>zbF p.tm t
 | .k d=>zji d
 | .g n=>match gl.g n with | some cs=>some (.s (.el cs)) | none=>none
/-- an operand that is a value -/
def evV(gl:Gl)(p:PSt)(x:X):Option V:=match evH gl p x with | some (.s (.v x))=>some x | _=>none
def zlg(gl:Gl)(p:PSt):List X→Option (List V)
 | []=>some []
 | x::r=>match evV gl p x with | some d=>(match zlg gl p r with | some l=>some (d::l) | none=>none) | none=>none
def zb1(gl:Gl)(p:PSt):Option X→Option (Option V)
 | none=>some none
 | some x=>match evV gl p x with | some d=>some (some d) | none=>none
def zf1(gl:Gl)(p:PSt):List X→Option (List PD)
 | []=>some []
 | x::r=>match evH gl p x with | some d=>(match zf1 gl p r with | some l=>some (d::l) | none=>none) | none=>none
section
variable {ρ:Type}
/-- a value's cells, one by one, from cell i on -/
def vl(x:V)(i:Nat):Nat→(List PS→Option ρ)→Option ρ
 | 0,K=>K []
 | n+1,K=>(zh x i).bind fun c=>vl x (i+1) n fun l=>K (.v c::l)
def wU(n:Nat)(d:PD)(K:List PS→Option ρ):Option ρ:=
 match d with
 | .s (.v x)=>tst (okN n x) (vl x 0 n K)
 | .s (.el _) | .s (.elx _ _ _)=>none
 | .s q=>match Nat.beq n 1 with | true=>K [q] | false=>none
 | .agg ps=>match Nat.beq ps.length n with | true=>K ps | false=>none
def xM{α:Type}(xs:List α)(o:Nat)(ys:List α):List α:=xs.take o++ys++xs.drop (o+ys.length)
def Qf(gl:Gl)(p:PSt)(cells:List PS):List (Nat×Nat×X)→(List PS→Option ρ)→Option ρ
 | [],K=>K cells
 | (o,n,x)::r,K=>match evH gl p x with
  | some d=>match Nat.ble (o+n) cells.length with
   | true=>wU n d fun cs=>Qf gl p (xM cells o cs) r K
   | false=>none
  | none=>none
/-- an element is laid, or a part of it -/
def elK(sz:Nat)(els:List V)(o n:Nat)(x:V)(K:List V→Option ρ):Option ρ:=
 match Nat.beq n sz && Nat.beq (o % sz) 0 with
 | true=>match Nat.beq sz 1 with
  | true=>tst (okN 1 x) ((zh x 0).bind fun c=>K (els.set (o / sz) c))
  | false=>tst (okN sz x) (K (els.set (o / sz) x))
 | false=>match Nat.beq sz 1 with
  | true=>none
  | false=>match els[o / sz]? with
   | some (.agg xs)=>match Nat.ble (o % sz+n) xs.length && Nat.blt 0 n with
    | true=>tst (okN n x) (K (els.set (o / sz) (.agg (xM xs (o % sz) x.parts))))
    | false=>none
   | _=>none
def ziv(gl:Gl)(p:PSt)(sz:Nat)(els:List V):List (Nat×Nat×X)→(List V→Option ρ)→Option ρ
 | [],K=>K els
 | (o,n,x)::r,K=>match evH gl p x with
  | some d=>match d.pureV with
   | some x=>match Nat.blt (o / sz) els.length with
    | true=>elK sz els o n x fun els=>ziv gl p sz els r K
    | false=>none
   | none=>none
  | none=>none
/-- a slice's elements -/
def slK(sz:Nat)(p:PSt)(d:PD)(K:List V→Option ρ):Option ρ:=
 match d with
 | .s (.v x)=>(xy sz x).bind K
 | .s (.own _ _ xs)=>tst (yu sz xs) (K xs)
 | .s (.full xs)=>tst (yu sz xs) (K xs)
 | .s (.ref k sz' off n _ _)=>match J3 p k with
  | some (.arr _ _ xs)=>match Nat.beq sz' sz with | true=>K ((xs.drop off).take n) | false=>none
  | _=>none
 | _=>none
/-- elements to be copied: a text's bytes, too -/
def zbR(sz:Nat):V→Option (List V)
 | .sl xs=>match yu sz xs with | true=>some xs | false=>none
 | .str s=>match Nat.beq sz 1 with | true=>some (Zv s) | false=>none
 | _=>none
def ziT(sz:Nat)(p:PSt)(d:PD)(K:List V→Option ρ):Option ρ:=
 match d with
 | .s (.v x)=>(zbR sz x).bind K
 | d=>slK sz p d K
def zab(p:PSt)(ag:Bool)(sz:Nat)(d:PD)(K:PD→Option ρ):Option ρ:=
 match d with
 | .s (.ptr k off)=>match J3 p k with
  | some (.box n x)=>match ag with
   | true=>tst (Nat.ble (off+sz) n) (match Nat.beq sz n && Nat.blt 1 n with | true=>K (.s (.v x)) | false=>K (.s (.v (YK x off sz))))
   | false=>(zh x off).bind fun c=>K (.s (.v c))
  | some (.cells ps)=>match ag with
   | true=>match Nat.ble (off+sz) ps.length with | true=>K (zeV ((ps.drop off).take sz)) | false=>none
   | false=>match ps[off]? with | some q=>K (.s q) | none=>none
  | _=>none
 | .s (.ptrA k sz' i off)=>match J3 p k with
  | some (.arr _ _ xs)=>match ag with
   | true=>match Nat.ble (off+sz) sz' with
    | true=>(xs[i]?).bind fun x=>match Nat.beq sz sz' && Nat.blt 1 sz' with | true=>K (.s (.v x)) | false=>K (.s (.v (YK x off sz)))
    | false=>none
   | false=>(xs[i]?).bind fun x=>(zh x off).bind fun c=>K (.s (.v c))
  | _=>none
 | .s (.elx sz' x off)=>match ag with
  | true=>match Nat.ble (off+sz) sz' with
   | true=>match Nat.beq sz sz' && Nat.blt 1 sz' with | true=>K (.s (.v x)) | false=>K (.s (.v (YK x off sz)))
   | false=>none
  | false=>(zh x off).bind fun c=>K (.s (.v c))
 | .s (.el cs)=>match ag with
  | true=>tst (Nat.ble sz cs.length) (K (.s (.v (.agg (cs.take sz)))))
  | false=>(cs[0]?).bind fun c=>K (.s (.v c))
 | _=>none
/-- a value that goes over into a row's cells -/
def Qp(p:PSt)(sz:Nat)(a v:PD)(K:PSt→Option ρ):Option ρ:=
 match a with
 | .s (.ptr k off)=>match zdP p k with
  | some (.box n x)=>match Nat.beq off 0 && Nat.beq sz n && Nat.blt 1 n with
   | true=>match v with
    | .s (.v y)=>tst (okN n y) (K (p.setR k (.box n y)))
    | v=>wU n v fun cs=>K (p.setR k (.cells cs))
   | false=>match Nat.ble (off+sz) n with
    | true=>vl x 0 n fun xs=>wU sz v fun cs=>K (p.setR k (.cells (xM xs off cs)))
    | false=>none
  | some (.cells ps)=>match Nat.beq off 0 && Nat.beq sz ps.length && Nat.blt 1 sz with
   | true=>match v with
    | .s (.v y)=>tst (okN sz y) (K (p.setR k (.box sz y)))
    | v=>wU sz v fun cs=>K (p.setR k (.cells cs))
   | false=>match Nat.ble (off+sz) ps.length with
    | true=>wU sz v fun cs=>K (p.setR k (.cells (xM ps off cs)))
    | false=>none
  | _=>none
 | .s (.ptrA k sz' i off)=>match zdP p k with
  | some (.arr .no _ xs)=>match v.pureV with
   | some y=>match Nat.beq off 0 && Nat.beq sz sz' with
    | true=>match Nat.beq sz 1 with
     | true=>tst (okN 1 y) ((zh y 0).bind fun c=>K (p.setR k (.arr .no sz' (xs.set i c))))
     | false=>tst (okN sz y) (K (p.setR k (.arr .no sz' (xs.set i y))))
    | false=>match Nat.ble (off+sz) sz' && Nat.blt 0 sz with
     | true=>(xs[i]?).bind fun e=>tst (okN sz y) (K (p.setR k (.arr .no sz' (xs.set i (.agg (xM e.parts off y.parts))))))
     | false=>none
   | none=>none
  | _=>none
 | _=>none
/-- m elements ys behind a slice -/
def zh1(p:PSt)(sz bytes:Nat)(s:PD)(ys:List V)(K:PD→PSt→Option ρ):Option ρ:=
 match s with
 | .s (.full xs)=>match Nat.blt 0 sz with
  | true=>tst (yu sz xs) (tst (VO bytes xs.length ys.length) (K (.s (.own p.ni sz (xs++ys))) { p with ni:=p.ni+1 }))
  | false=>none
 | .s (.own id sz' xs)=>match Nat.beq sz sz' && Nat.blt 0 sz && Nat.ble p.lim id with
  | true=>tst (VO bytes xs.length ys.length) (K (.s (.own id sz (xs++ys))) (p.strip id))
  | false=>none
 | .s (.ref k sz' off n c z)=>match Nat.beq sz sz' && Nat.blt 0 sz with
  | true=>match J3 p k with
   | some (.arr fz _ xs)=>tst (VO bytes n ys.length) (if n+ys.length≤c∧(z=false∨0<c)then
     (match zdP p k with
     | some (.arr .no _ _)=>K (.s (.ref k sz off (n+ys.length) c z)) (p.setR k (.arr fz sz (xM xs (off+n) ys)))
     | _=>none)
    else K (.s (.own p.ni sz ((xs.drop off).take n++ys))) { p with ni:=p.ni+1 })
   | _=>none
  | false=>none
 | _=>none
/-- a slice of an array -/
def znk(p:PSt)(n sz:Nat)(l h m:Option V)(d:PD)(K:PD→Option ρ):Option ρ:=
 match d with
 | .s q=>match q with
  | .ptr k o=>match J3 p k with
   | some (.arr _ sz' xs)=>match Nat.beq o 0 && Nat.beq sz sz' with
    | true=>tst (Nat.ble n xs.length) ((zpA l h m n n).bind fun q=>K (.s (.ref k sz q.1 (q.2.1 - q.1) (q.2.2 - q.1) true)))
    | false=>none
   | _=>none
  | _=>none
 | .agg _=>none
/- what goes over into a call: values; the rows that are pointed to, in the order in which they are met -/
def place(k:Nat)(l:List Nat):Nat×List Nat:=match l.findIdx? (fun j=>Nat.beq j k)with | some j=>(j,l) | none=>(l.length,l++[k])
def zbC(ks:List Nat):List CP→List CP×List Nat
 | []=>([],ks)
 | .v x::r=>(.v x::(zbC ks r).1,(zbC ks r).2)
 | .p k off::r=>(.p (place k ks).1 off::(zbC (place k ks).2 r).1,(zbC (place k ks).2 r).2)
/-- a row that is handed over: it is held from now on; z: it may be that nothing is handed over -/
def freeze(p:PSt)(kz:Nat×Bool):Option PSt:=match p.rows[kz.1]? with
 | some ⟨_,.arr .yes _ _⟩=>some p
 | some ⟨false,.arr .may sz xs⟩=>match kz.2 with | true=>some p | false=>some { p with rows:=p.rows.set kz.1 ⟨false,.arr .yes sz xs⟩ }
 | some ⟨false,.arr .no sz xs⟩=>match kz.2 with | true=>some { p with rows:=p.rows.set kz.1 ⟨false,.arr .may sz xs⟩ } | false=>some { p with rows:=p.rows.set kz.1 ⟨false,.arr .yes sz xs⟩ }
 | _=>none
def xQ(p:PSt):List (Nat×Bool)→Option PSt
 | []=>some p
 | k::r=>match freeze p k with | some p'=>xQ p' r | none=>none
def zld(p:PSt)(ks:List Nat)(d:PD):Option (PA×List Nat×PSt):=
 match d with
 | .s (.ptr k off)=>some (.p (place k ks).1 off,(place k ks).2,p)
 | .s (.fn f cap)=>some (.fn f (zbC ks cap).1,(zbC ks cap).2,p)
 | d=>match d.outV p with
  | some x=>match xQ p d.refs with | some p'=>some (.v x,ks,p') | none=>none
  | none=>none
def Z9(p:PSt)(ks:List Nat):List PD→Option (List PA×List Nat×PSt)
 | []=>some ([],ks,p)
 | d::r=>match zld p ks d with
  | some (a,ks',p')=>match Z9 p' ks' r with | some (l,ks'',p'')=>some (a::l,ks'',p'') | none=>none
  | none=>none
/-- what a row holds, as a value, and how many cells -/
def zcE:RowC→Option (Nat×V)
 | .box n x=>match Nat.beq n 1 with | true=>none | false=>some (n,x)
 | .cells ps=>match j3 ps with | some l=>some (ps.length,WB l) | none=>none
 | _=>none
def zd8(p:PSt):List Nat→Option (List (Bool×Nat×V))
 | []=>some []
 | k::r=>match p.rows[k]? with
  | some ⟨ro,c⟩=>match zcE c with
   | some (n,x)=>match zd8 p r with | some l=>some ((ro,n,x)::l) | none=>none
   | none=>none
  | none=>none
def Jc(n:Nat)(x:V):RowC:=match Nat.beq n 1 with | true => .cells [.v x] | false => .box n x
/-- the rows as the callee left them -/
def zal(p:PSt)(ys:List V)(j:Nat):List Nat→(PSt→Option ρ)→Option ρ
 | [],K=>K p
 | k::r,K=>match p.rows[k]? with
  | some ⟨true,_⟩=>zal p ys (j+1) r K
  | some ⟨false,c⟩=>match zcE c with
   | some (n,_)=>(ys[j]?).bind fun y=>zal (p.setR k (Jc n y)) ys (j+1) r K
   | none=>none
  | none=>none
def Zy(pc:PcT)(f:Nat)(ds:List PD)(p:PSt)(K:PD→PSt→Option ρ):Option ρ:=
 match Z9 p [] ds with
 | some (as,ks,p')=>match zd8 p' ks with
  | some pars=>(pc f as pars).bind fun r=>zal p' r.2 0 ks fun p''=>K (.s (.v r.1)) p''
  | none=>none
 | none=>none
def zek:List PD→Option (List V)
 | []=>some []
 | d::r=>match d.pureV with | some x=>(match zek r with | some l=>some (x::l) | none=>none) | none=>none
def slV:V→Option (List V)
 | .sl xs=>some xs
 | _=>none
def Wu(pc:PcT)(sz f:Nat)(ds:List PD)(p:PSt)(K:PD→PSt→Option ρ):Option ρ:=
 match Z9 p [] ds with
 | some (as,[],p')=>(pc f (.g::as) []).bind fun r=>(slV r.1).bind fun xs=>K (.s (.own p'.ni sz xs)) { p' with ni:=p'.ni+1 }
 | _=>none
def zck(pc:PcT)(sz f:Nat)(ds:List PD)(p:PSt)(K:PD→PSt→Option ρ):Option ρ:=
 match ds with
 | .s (.own id sz' ys)::r=>match Nat.beq sz sz' with
  | true=>match zek r with
   | some xs=>(pc f (.o sz ys::xs.map PA.v) []).bind fun q=>K (.s (.v q.1)) (p.strip id)
   | none=>none
  | false=>none
 | .s (.full ys)::r=>match zek r with
  | some xs=>tst (yu sz ys) ((pc f (.o sz ys::xs.map PA.v) []).bind fun q=>K (.s (.v q.1)) (p.strip p.ni))
  | none=>none
 | _=>none
/-- a slice that has no room -/
def zaO(d:PD)(k:Option ρ):Option ρ:=
 match d with
 | .s (.full _)=>k
 | .s (.ref _ _ _ n c _)=>tst (Nat.beq n c) k
 | _=>none
def zcz(pc:PcT)(f:Nat)(ds:List PD)(p:PSt)(K:PD→PSt→Option ρ):Option ρ:=
 match ds with
 | d::r=>zaO d (match Z9 p [] (d::r)with
  | some (as,[],p')=>(pc f (.u::as) []).bind fun q=>K (.s (.v q.1)) p'
  | _=>none)
 | []=>none
def asByte:V→Option UInt8
 | .int .u8 n=>if 0≤n∧n<256 then some (UInt8.ofNat n.toNat)else none
 | _=>none
/-- what a told function does to a builder -/
def zik(e:Eff)(ds:List PD)(p:PSt)(K:PD→PSt→Option ρ):Option ρ:=
 match e with
 | .ws t e=>match ds with
  | [.s (.ptr k 0),.s (.v x)]=>match zdP p k with
   | some (.bld t' e' r)=>match Nat.beq t' t && Nat.beq e' e with
    | true=>(zar x).bind fun s=>tst (decide (r.length+s.length≤140737488355328)) (K (.s (.v (.tup [.int .i64 (s.length:Nat),.nili]))) (p.setR k (.bld t e (r++s))))
    | false=>none
   | _=>none
  | _=>none
 | .wb t e=>match ds with
  | [.s (.ptr k 0),.s (.v x)]=>match zdP p k with
   | some (.bld t' e' r)=>match Nat.beq t' t && Nat.beq e' e with
    | true=>(asByte x).bind fun c=>tst (decide (r.length+1≤140737488355328)) (K (.s (.v .nili)) (p.setR k (.bld t e (r++[c]))))
    | false=>none
   | _=>none
  | _=>none
 | .bs t e=>match ds with
  | [.s (.ptr k 0)]=>match zdP p k with
   | some (.bld t' e' r)=>match Nat.beq t' t && Nat.beq e' e with
    | true=>K (.s (.v (.str r))) (p.setR k .dead)
    | false=>none
   | _=>none
  | _=>none
def ky(md:Nat→Md)(pc:PcT)(f:Nat)(ds:List PD)(p:PSt)(K:PD→PSt→Option ρ):Option ρ:=
 match md f with
 | .pl=>Zy pc f ds p K
 | .gv sz=>Wu pc sz f ds p K
 | .raw sz=>zck pc sz f ds p K
 | .ful=>zcz pc f ds p K
 | .gvf sz=>match ds with
  | d::r=>zaO d (Wu pc sz f (d::r) p K)
  | []=>none
 | .eff e=>zik e ds p K
def zrL:CP→PD
 | .v x => .s (.v x)
 | .p k off => .s (.ptr k off)
def zd9:List PD→Option (List CP)
 | []=>some []
 | .s (.v x)::r=>match zd9 r with | some l=>some (.v x::l) | none=>none
 | .s (.ptr k off)::r=>match zd9 r with | some l=>some (.p k off::l) | none=>none
 | _=>none
/-- an operation: what it yields, and the state behind it -/
def YT(gl:Gl)(pc:PcT)(p:PSt)(o:O)(K:Option PD→PSt→Option ρ):Option ρ:=
 match o with
 | .mv x=>match evH gl p x with | some d=>K (some d) p | none=>none
 | .pick c a b=>match evV gl p c with
  | some c=>match evV gl p a with
   | some x=>match evV gl p b with
    | some y=>(asBool c).bind fun c=>K (some (.s (.v (if c then x else y)))) p
    | none=>none
   | none=>none
  | none=>none
 | .alloc z=>match ziU z with
  | some n=>K (some (.s (.ptr p.rows.length 0))) (p.newR (.arr .no 1 (List.replicate n (.int .u8 0))))
  | none=>match YF z with
   | some l=>match zi9 l with
    | true=>K (some (.s (.ptr p.rows.length 0))) (p.newR (.cells l))
    | false=>none
   | none=>none
 | .build z ps=>match YF z with
  | some l=>match zi9 l with
   | true=>Qf gl p l ps fun cs=>K (some (zeV cs)) p
   | false=>none
  | none=>none
 | .lit n z ps=>match zif z with
  | some l=>ziv gl p l.length (List.replicate n (WB l)) ps fun els=>K (some (.s (.full els))) p
  | none=>none
 | .load ag sz a=>match evH gl p a with | some d=>zab p ag sz d fun v=>K (some v) p | none=>none
 | .store sz a v=>match evH gl p a with
  | some d=>match evH gl p v with | some v=>Qp p sz d v fun p'=>K none p' | none=>none
  | none=>none
 | .chk x=>match evH gl p x with
  | some (.s (.ptr k off))=>K (some (.s (.ptr k off))) p
  | some (.s (.ptrA k sz i off))=>K (some (.s (.ptrA k sz i off))) p
  | some (.s (.el cs))=>K (some (.s (.el cs))) p
  | some (.s (.elx sz x off))=>K (some (.s (.elx sz x off))) p
  | some (.s (.fn f c))=>K (some (.s (.fn f c))) p
  | _=>none
 | .bin op x y=>match evV gl p x with
  | some x=>match evV gl p y with | some y=>(ze op x y).bind fun d=>K (some (.s (.v d))) p | none=>none
  | none=>none
 | .beq neg x y=>match evV gl p x with
  | some x=>match evV gl p y with
   | some y=>(asBool x).bind fun a=>(asBool y).bind fun b=>K (some (.s (.v (.bool (match neg with | true => !(a == b) | false=>a == b))))) p
   | none=>none
  | none=>none
 | .inil neg x=>match evV gl p x with | some x=>(Jy neg x).bind fun d=>K (some (.s (.v d))) p | none=>none
 | .tas t ok x=>match evV gl p x with | some x=>(zqP t ok x).bind fun d=>K (some (.s (.v d))) p | none=>none
 | .un op x=>match evV gl p x with | some x=>(unV op x).bind fun d=>K (some (.s (.v d))) p | none=>none
 | .cvi k x=>match evV gl p x with | some x=>(ZP k x).bind fun d=>K (some (.s (.v d))) p | none=>none
 | .cms x=>match evV gl p x with | some x=>(zrl x).bind fun d=>K (some (.s (.v d))) p | none=>none
 | .cbs x=>match evH gl p x with
  | some d=>slK 1 p d fun xs=>(kr xs).bind fun s=>K (some (.s (.v (.str s)))) p
  | none=>none
 | .csb x=>match evV gl p x with | some x=>(zar x).bind fun s=>K (some (.s (.v (.sl (Zv s))))) p | none=>none
 | .ifc t x=>match evH gl p x with
  | some d=>match d.pureV with | some x=>K (some (.s (.v (.iface t x)))) p | none=>none
  | none=>none
 | .mkf f cap=>match zf1 gl p cap with
  | some l=>match zd9 l with
   | some l=>K (some (.s (.fn f l))) p
   | none=>none
  | none=>none
 | .mks z bytes n c=>match zif z with
  | some l=>match evV gl p n with
   | some n=>match evV gl p c with
    | some c=>(zc5 bytes n c).bind fun q=>K (some (.s (.ref p.rows.length l.length 0 q.1 q.2 false))) (p.newR (.arr .no l.length (List.replicate q.2 (WB l))))
    | none=>none
   | none=>none
  | none=>none
 | .slc sz x l h m=>match evH gl p x with
  | some d=>match zb1 gl p l with
   | some l=>match zb1 gl p h with
    | some h=>match zb1 gl p m with
     | some m=>match d with
      | .s (.ref k sz' off n c _)=>match Nat.beq sz' sz with
       | true=>(zpA l h m n c).bind fun q=>K (some (.s (.ref k sz (off+q.1) (q.2.1 - q.1) (q.2.2 - q.1) true))) p
       | false=>none
      | d=>slK sz p d fun xs=>match m with
       | none=>(zay l h xs.length).bind fun q=>K (some (.s (.v (.sl ((xs.drop q.1).take (q.2 - q.1)))))) p
       | some m=>(zlA l h (some m) xs.length).bind fun q=>K (some (.s (.full ((xs.drop q.1).take (q.2 - q.1))))) p
     | none=>none
    | none=>none
   | none=>none
  | none=>none
 | .sla n sz x l h m=>match evH gl p x with
  | some d=>match zb1 gl p l with
   | some l=>match zb1 gl p h with
    | some h=>match zb1 gl p m with
     | some m=>znk p n sz l h m d fun d=>K (some d) p
     | none=>none
    | none=>none
   | none=>none
  | none=>none
 | .sls x l h=>match evV gl p x with
  | some x=>match zb1 gl p l with
   | some l=>match zb1 gl p h with
    | some h=>(zm0 x l h).bind fun d=>K (some (.s (.v d))) p
    | none=>none
   | none=>none
  | none=>none
 | .fad off x=>match evH gl p x with
  | some (.s (.ptr k o))=>K (some (.s (.ptr k (o+off)))) p
  | some (.s (.ptrA k sz i o))=>K (some (.s (.ptrA k sz i (o+off)))) p
  | some (.s (.el cs))=>K (some (.s (.el (cs.drop off)))) p
  | some (.s (.elx sz x o))=>K (some (.s (.elx sz x (o+off)))) p
  | _=>none
 | .fld ag off sz x=>match evH gl p x with
  | some (.s (.v x))=>match ag with
   | true=>(zrC x off sz).bind fun d=>K (some (.s (.v d))) p
   | false=>(zsl x off).bind fun d=>K (some (.s (.v d))) p
  | some (.agg ps)=>match ag with
   | true=>match Nat.ble (off+sz) ps.length with | true=>K (some (zeV ((ps.drop off).take sz))) p | false=>none
   | false=>match ps[off]? with | some q=>K (some (.s q)) p | none=>none
  | _=>none
 | .iad sz x i=>match evH gl p x with
  | some d=>match evV gl p i with
   | some i=>match d with
    | .s (.ref k sz' off n _ _)=>match Nat.beq sz' sz && Nat.blt 0 sz with
     | true=>(xN i n).bind fun i=>K (some (.s (.ptrA k sz (off+i) 0))) p
     | false=>none
    | d=>slK sz p d fun xs=>(xN i xs.length).bind fun i=>(xs[i]?).bind fun e=>K (some (.s (.elx sz e 0))) p
   | none=>none
  | none=>none
 | .iaa n sz x i=>match evH gl p x with
  | some d=>match evV gl p i with
   | some i=>(xN i n).bind fun i=>match d with
    | .s (.ptr k o)=>match J3 p k with
     | some (.arr _ sz' xs)=>match Nat.beq o 0 && Nat.beq sz sz' with
      | true=>tst (Nat.blt i xs.length) (K (some (.s (.ptrA k sz i 0))) p)
      | false=>none
     | _=>K (some (.s (.ptr k (o+i * sz)))) p
    | .s (.el cs)=>K (some (.s (.el (cs.drop (i * sz))))) p
    | _=>none
   | none=>none
  | none=>none
 | .ixa ag n sz x i=>match evV gl p x with
  | some x=>match evV gl p i with | some i=>(zr1 ag n sz x i).bind fun d=>K (some (.s (.v d))) p | none=>none
  | none=>none
 | .ixs x i=>match evV gl p x with
  | some x=>match evV gl p i with | some i=>(Zw x i).bind fun d=>K (some (.s (.v d))) p | none=>none
  | none=>none
 | .ext x i=>match evV gl p x with | some x=>(zp x i).bind fun d=>K (some (.s (.v d))) p | none=>none
 | .len x=>match evH gl p x with
  | some (.s (.v x))=>(yR x).bind fun n=>K (some (.s (.v (.int .i64 n)))) p
  | some (.s (.own _ _ xs))=>K (some (.s (.v (.int .i64 xs.length)))) p
  | some (.s (.full xs))=>K (some (.s (.v (.int .i64 xs.length)))) p
  | some (.s (.ref _ _ _ n _ _))=>K (some (.s (.v (.int .i64 n)))) p
  | _=>none
 | .lns x=>match evV gl p x with | some x=>(Ke x).bind fun n=>K (some (.s (.v (.int .i64 n)))) p | none=>none
 | .cap x=>match evH gl p x with
  | some (.s (.full xs))=>K (some (.s (.v (.int .i64 xs.length)))) p
  | some (.s (.ref _ _ _ _ c _))=>K (some (.s (.v (.int .i64 c)))) p
  | _=>none
 | .app sz bytes s x=>match evH gl p s with
  | some s=>match evH gl p x with
   | some d=>ziT sz p d fun ys=>zh1 p sz bytes s ys fun d p'=>K (some d) p'
   | none=>none
  | none=>none
 | .apz z bytes s x=>match zif z with
  | some l=>match evH gl p s with
   | some s=>match evV gl p x with
    | some x=>(zqh bytes x).bind fun m=>zh1 p l.length bytes s (List.replicate m (WB l)) fun d p'=>K (some d) p'
    | none=>none
   | none=>none
  | none=>none
 | .cpy sz d s=>match evH gl p d with
  | some d=>match evH gl p s with
   | some s=>ziT sz p s fun ys=>match d with
    | .s (.ref k sz' off n _ _)=>match zdP p k with
     | some (.arr .no _ xs)=>match Nat.beq sz' sz with
      | true=>K (some (.s (.v (.int .i64 (Nat.min ys.length n:Nat))))) (p.setR k (.arr .no sz (xM xs off (ys.take (Nat.min ys.length n)))))
      | false=>none
     | _=>none
    | .s (.full [])=>K (some (.s (.v (.int .i64 0)))) p
    | _=>none
   | none=>none
  | none=>none
 | .min xs=>match zlg gl p xs with
  | some (x::r)=>(zhj x r).bind fun d=>K (some (.s (.v d))) p
  | _=>none
 | .max xs=>match zlg gl p xs with
  | some (x::r)=>(zg3 x r).bind fun d=>K (some (.s (.v d))) p
  | _=>none
 | .call f xs=>match zf1 gl p xs with | some ds=>ky gl.md pc f ds p fun d p'=>K (some d) p' | none=>none
 | .callv g xs=>match evH gl p g with
  | some (.s (.fn f cap))=>match Nat.blt f wS with
   | true=>match zf1 gl p xs with | some ds=>Zy pc f (ds++cap.map zrL) p fun d p'=>K (some d) p' | none=>none
   | false=>none
  | some (.s (.v x))=>match zf1 gl p xs with
   | some ds=>(zqg x).bind fun q=>match q.2 with
    | []=>match Nat.blt q.1 wS with | true=>Zy pc q.1 ds p fun d p'=>K (some d) p' | false=>none
    | _=>none
   | none=>none
  | _=>none
 | .nbl t e=>K (some (.s (.ptr p.rows.length 0))) (p.newR (.bld t e []))
 | .rng x=>match evV gl p x with | some x=>(zar x).bind fun s=>K (some (.s (.ptr p.rows.length 0))) (p.newR (.iter s 0)) | none=>none
 | .nxt x=>match evH gl p x with
  | some (.s (.ptr k 0))=>match zdP p k with
   | some (.iter s pos)=>if pos<s.length then
     K (some (.s (.v (.tup [.bool true,.int .i64 pos,.int .i32 (Utf8.decode ⟨s.toArray⟩ pos).1])))) (p.setR k (.iter s (pos+(Utf8.decode ⟨s.toArray⟩ pos).2)))
    else K (some (.s (.v (.tup [.bool false])))) p
   | _=>none
  | _=>none
 | _=>none
end
end Go.Ev
end
section
namespace Go.Ev
/- drf: a load of row k that may come behind b1, too; drq: as drw; what may stand in any order writes no object: it is looked at operation by operation -/
/-- an operation; a value that is boxed, so many cells; operations under one guard and the choice behind them -/
inductive PO where
 | nil
 | one (o:OpC) (r:PO)
 | box (n dst:Nat) (x:X) (r:PO)
 | grp (c:Nat) (w:Bool) (ops:PO) (dst:Nat) (a b:X) (r:PO)
inductive PEx where
 | nrm | ext (id:Nat) | ret
/-- how a slot or a cell is kept: as a value; as a slice that may be appended to; an address; a slice into a row; untouched -/
inductive Kd where
 | v | own (sz:Nat) | ptr (k off:Nat) | ref (k sz:Nat) (z:Bool) | same
inductive RK where
 | same | dead | box (n:Nat) | cells (l:List Kd) | arr (fz:Fz) (sz:Nat) | iter | bld (t e:Nat)
structure Sh where
 slots:List (Nat×Kd)
 rows:List RK
inductive PC where
 | skip
 | reg (ops:PO) (keep:List Nat)
 | drw (a0 a1 b:PO) (keep:List Nat)
 | drq (a0 a1 b:PO) (keep:List Nat)
 | drf (a0:PO) (t:Nat) (ag:Bool) (sz a k:Nat) (b1 b:PO) (keep:List Nat)
 | seq (a b:PC)
 | cond (c:X) (a b:PC)
 | blk (id:Nat) (c:PC)
 | loop (h:Sh) (xs:List (PEx×Sh)) (c:PC)
 | cut (h:Sh) (xs:List (PEx×Sh)) (c:PC)
 | exit (id:Nat)
 | ret
structure PFn where
 res:List R
 body:PC
 pn:Bool
def zca(c:Nat)(w:Bool)(a b:X):O:=match w with | true => .pick (.s c) a b | false => .pick (.s c) b a
def Wo(g:Option (Nat×Bool))(o:OpC):OpC:=match o.gd with | none=>⟨o.dst,o.op,g⟩ | some _=>o
def yJ(g:Option (Nat×Bool)):PO→List OpC
 | .nil=>[]
 | .one o r=>Wo g o::yJ g r
 | .box _ dst x r=>⟨some dst,.box x,g⟩::yJ g r
 | .grp c w ops dst a b r=>yJ (some (c,w)) ops++⟨some dst,zca c w a b,g⟩::yJ g r
def wT(l:PO):List OpC:=yJ none l
def zm:PC→C
 | .skip => .skip
 | .reg ops keep => .reg (wT ops) keep
 | .drw a0 a1 b keep => .drw (wT a0) (wT a1) [] (wT b) keep
 | .drq a0 a1 b keep => .drw (wT a0) (wT a1) [] (wT b) keep
 | .drf a0 t ag sz a _ b1 b keep => .drw (wT a0) [⟨some t,.load ag sz (.s a),none⟩] (wT b1) (wT b) keep
 | .seq a b => .seq (zm a) (zm b)
 | .cond c a b => .cond c (zm a) (zm b)
 | .blk id c => .blk id (zm c)
 | .loop _ _ c => .loop (zm c)
 | .cut _ _ c=>zm c
 | .exit id => .exit id
 | .ret => .ret
def zqW:Fz→Fz→Bool
 | .no,.no=>true
 | .may,.may=>true
 | .yes,.yes=>true
 | _,_=>false
def yH:PTm→Nat→Option (Bool×PD)
 | [],_=>none
 | (i,f,d)::r,t=>match Nat.beq i t with | true=>some (f,d) | false=>yH r t
def V.elems:V→List V
 | .sl xs=>xs
 | _=>[]
def YC:V→Nat
 | .int _ n=>n.toNat
 | _=>0
def zbX:V→List UInt8
 | .str s=>s
 | _=>[]
def vec(l:List V)(i:Nat):V:=l.getD i .nilp
def wK:List PS→Bool
 | []=>false
 | .own _ _ _::_=>true
 | _::r=>wK r
def PD.hasOwn:PD→Bool
 | .s q=>wK [q]
 | .agg ps=>wK ps
def RowC.hasOwn:RowC→Bool
 | .cells ps=>wK ps
 | _=>false
section
variable {ρ:Type}
/- what is kept, as values: ids are the lineages that are kept already -/
def encS(m:Nat)(kd:Kd)(q:PS)(ids:List Nat)(K:List V→List Nat→Option ρ):Option ρ:=
 match kd with
 | .v=>match q.pure with | some x=>K [x] ids | none=>none
 | .own sz=>match q with
  | .own id sz' xs=>match Nat.beq sz sz' && !hasB ids id with | true=>K [.sl xs] (id::ids) | false=>none
  | .full xs=>tst (yu sz xs) (K [.sl xs] ids)
  | _=>none
 | .ptr k off=>match q with
  | .ptr k' off'=>match Nat.beq k k' && Nat.beq off off' && Nat.blt k m with | true=>K [] ids | false=>none
  | _=>none
 | .ref k sz z=>match q with
  | .ref k' sz' off n c z'=>match Nat.beq k k' && Nat.beq sz sz' && Nat.blt k m && (z == z')with | true=>K [.int .i64 off,.int .i64 n,.int .i64 c] ids | false=>none
  | _=>none
 | .same=>none
def zdi(m:Nat):List Kd→List PS→List Nat→(List V→List Nat→Option ρ)→Option ρ
 | [],[],ids,K=>K [] ids
 | kd::r,q::s,ids,K=>encS m kd q ids fun l ids=>zdi m r s ids fun l' ids=>K (l++l') ids
 | _,_,_,_=>none
/-- strict: what is untouched must be marked so -/
def zdK(strict:Bool)(m:Nat)(p:PSt):List (Nat×Kd)→List Nat→(List V→List Nat→Option ρ)→Option ρ
 | [],ids,K=>K [] ids
 | (t,kd)::r,ids,K=>match yH p.tm t with
  | some (f,d)=>match kd with
   | .same=>match(!strict || f) && !d.hasOwn with
    | true=>zdK strict m p r ids K
    | false=>none
   | kd=>match f with
    | true=>none
    | false=>match d with
     | .s q=>encS m kd q ids fun l ids=>zdK strict m p r ids fun l' ids=>K (l++l') ids
     | .agg ps=>match kd with
      | .v=>match j3 ps with | some x=>zdK strict m p r ids fun l' ids=>K (.agg x::l') ids | none=>none
      | _=>none
  | none=>none
def encR(strict:Bool)(m:Nat):List RK→List Row→List Nat→(List V→List Nat→Option ρ)→Option ρ
 | [],[],ids,K=>K [] ids
 | [],_::_,ids,K=>match strict with | true=>K [] ids | false=>none
 | rk::r,⟨f,c⟩::s,ids,K=>match rk with
  | .same=>match(!strict || f) && !c.hasOwn with
   | true=>encR strict m r s ids K
   | false=>none
  | .dead=>match f with | true=>none | false=>encR strict m r s ids K
  | .box n=>match f with
   | true=>none
   | false=>match c with
    | .box n' x=>match Nat.beq n n' with | true=>encR strict m r s ids fun l ids=>K (x::l) ids | false=>none
    | .cells ps=>match Nat.beq n ps.length && Nat.blt 1 n with
     | true=>match j3 ps with | some l=>encR strict m r s ids fun l' ids=>K (.agg l::l') ids | none=>none
     | false=>none
    | _=>none
  | .cells kds=>match f with
   | true=>none
   | false=>match c with
    | .cells ps=>zdi m kds ps ids fun l ids=>encR strict m r s ids fun l' ids=>K (l++l') ids
    | .box n x=>vl x 0 n fun ps=>zdi m kds ps ids fun l ids=>encR strict m r s ids fun l' ids=>K (l++l') ids
    | _=>none
  | .arr fz sz=>match f with
   | true=>none
   | false=>match c with
    | .arr fz' sz' xs=>match Nat.beq sz sz' && zqW fz fz' with | true=>encR strict m r s ids fun l ids=>K (.sl xs::l) ids | false=>none
    | _=>none
  | .iter=>match f with
   | true=>none
   | false=>match c with
    | .iter x n=>encR strict m r s ids fun l ids=>K (.str x :: .int .i64 (n:Int)::l) ids
    | _=>none
  | .bld t e=>match f with
   | true=>none
   | false=>match c with
    | .bld t' e' x=>match Nat.beq t t' && Nat.beq e e' with | true=>encR strict m r s ids fun l ids=>K (.str x::l) ids | false=>none
    | _=>none
 | _::_,[],_,_=>none
def WA(strict:Bool)(sh:Sh)(p:PSt)(K:(Nat→V)→Option ρ):Option ρ:=
 zdK strict sh.rows.length p sh.slots [] fun l ids=>encR strict sh.rows.length sh.rows p.rows ids fun l' _=>K (vec (l++l'))
end
/- and back: i: the next value, ni: the next lineage -/
def W3(kd:Kd)(v:Nat→V)(i ni:Nat):PS×Nat×Nat:=
 match kd with
 | .v=>(.v (v i),i+1,ni)
 | .own sz=>(.own ni sz (v i).elems,i+1,ni+1)
 | .ptr k off=>(.ptr k off,i,ni)
 | .ref k sz z=>(.ref k sz (YC (v i)) (YC (v (i+1))) (YC (v (i+2))) z,i+3,ni)
 | .same=>(.v .nilp,i,ni)
def zdp(v:Nat→V)(i ni:Nat):List Kd→List PS×Nat×Nat
 | []=>([],i,ni)
 | kd::r=>((W3 kd v i ni).1::(zdp v (W3 kd v i ni).2.1 (W3 kd v i ni).2.2 r).1,(zdp v (W3 kd v i ni).2.1 (W3 kd v i ni).2.2 r).2)
/-- head: what is untouched is marked so -/
def zg5(head:Bool)(p:PSt)(v:Nat→V)(i ni:Nat):List (Nat×Kd)→Option (PTm×Nat×Nat)
 | []=>some ([],i,ni)
 | (t,.same)::r=>match yH p.tm t with
  | some (f,d)=>match zg5 head p v i ni r with | some (l,q)=>some ((t,head || f,d)::l,q) | none=>none
  | none=>none
 | (t,kd)::r=>match zg5 head p v (W3 kd v i ni).2.1 (W3 kd v i ni).2.2 r with | some (l,q)=>some ((t,false,.s (W3 kd v i ni).1)::l,q) | none=>none
def kC(head:Bool)(v:Nat→V)(i ni:Nat):List RK→List Row→Option (List Row×Nat×Nat)
 | [],[]=>some ([],i,ni)
 | rk::r,⟨f,c⟩::s=>match rk with
  | .same=>match kC head v i ni r s with | some (l,q)=>some (⟨head || f,c⟩::l,q) | none=>none
  | .dead=>match kC head v i ni r s with | some (l,q)=>some (⟨false,.dead⟩::l,q) | none=>none
  | .box n=>match kC head v (i+1) ni r s with | some (l,q)=>some (⟨false,.box n (v i)⟩::l,q) | none=>none
  | .cells kds=>match kC head v (zdp v i ni kds).2.1 (zdp v i ni kds).2.2 r s with | some (l,q)=>some (⟨false,.cells (zdp v i ni kds).1⟩::l,q) | none=>none
  | .arr fz sz=>match kC head v (i+1) ni r s with | some (l,q)=>some (⟨false,.arr fz sz (v i).elems⟩::l,q) | none=>none
  | .iter=>match kC head v (i+2) ni r s with | some (l,q)=>some (⟨false,.iter (zbX (v i)) (YC (v (i+1)))⟩::l,q) | none=>none
  | .bld t e=>match kC head v (i+1) ni r s with | some (l,q)=>some (⟨false,.bld t e (zbX (v i))⟩::l,q) | none=>none
 | _,_=>none
def dec(head:Bool)(sh:Sh)(p:PSt)(v:Nat→V):Option PSt:=
 match zg5 head p v 0 0 sh.slots with
 | some (tm,i,ni)=>match kC head v i ni sh.rows p.rows with
  | some (rows,_,ni)=>some ⟨tm,rows,ni,p.lim⟩
  | none=>none
 | none=>none
def vL{α β:Type}(f:α→Option (α ⊕ β)):Nat→α→Option β
 | 0,_=>none
 | n+1,a=>match f a with
  | some (.inl a')=>vL f n a'
  | some (.inr b)=>some b
  | none=>none
noncomputable def yi{α β:Type}(f:α→Option (α ⊕ β))(a:α):Option β:=open Classical in
 if h : ∃ n b,vL f n a=some b then some h.choose_spec.choose else none
def PS.sealOf:PS→PS
 | .own _ _ xs => .v (.sl xs)
 | q=>q
def JM:List PS→List PS
 | []=>[]
 | q::r=>q.sealOf::JM r
def PD.sealOf:PD→PD
 | .s q => .s q.sealOf
 | .agg ps => .agg (JM ps)
def zjN:PTm→PTm
 | []=>[]
 | (i,f,d)::r=>(i,f,d.sealOf)::zjN r
def jI:List Row→List Row
 | []=>[]
 | ⟨_,.cells ps⟩::r=>⟨true,.cells (JM ps)⟩::jI r
 | ⟨_,c⟩::r=>⟨true,c⟩::jI r
def RowC.sealC:RowC→RowC
 | .cells ps => .cells (JM ps)
 | c=>c
/-- a row that is not stored in for a while -/
def hold(p:PSt)(k:Nat):Option PSt:=match p.rows[k]? with | some ⟨false,c⟩=>some { p with rows:=p.rows.set k ⟨true,c.sealC⟩ } | _=>none
def ze9(p:PSt)(k:Nat):PSt:=match p.rows[k]? with | some ⟨_,c⟩=>{ p with rows:=p.rows.set k ⟨false,c⟩ } | none=>p
def zd0:PO→Bool
 | .nil=>true
 | .one o r=>(match o.gd with | none=>true | some _=>false) && zd0 r
 | _=>false
def PSt.sealOf(p:PSt):PSt:=⟨zjN p.tm,jI p.rows,p.ni,p.lim⟩
/-- slots that are written -/
def xa:PO→List Nat
 | .nil=>[]
 | .one o r=>(match o.dst with | some t=>[t] | none=>[])++xa r
 | .box _ dst _ r=>dst::xa r
 | .grp _ _ ops dst _ _ r=>xa ops++dst::xa r
/-- no slot that is held is written -/
def zfP(tm:PTm):List Nat→Bool
 | []=>true
 | t::r=>(match yH tm t with | some _=>false | none=>true) && zfP tm r
/-- groups within are guarded by what is done within -/
def Js(W:List Nat):PO→Bool
 | .nil=>true
 | .one o r=>(match o.gd with | none=>true | some _=>false) && Js ((match o.dst with | some t=>[t] | none=>[])++W) r
 | .box _ dst _ r=>Js (dst::W) r
 | .grp c _ ops dst _ _ r=>hasB W c && Js [] ops && Js (dst::W) r
def V8(p:PSt)(dst:Option Nat)(r:Option PD):Option PSt:=
 match dst with
 | none=>some p
 | some t=>match r with
  | some d=>match znN p.tm t d with | some tm=>some { p with tm:=tm } | none=>none
  | none=>match zll p.tm t with | some tm=>some { p with tm:=tm } | none=>none
def still(md:Nat→Md):O→Bool
 | .call f _=>match md f with | .raw _=>false | _=>true
 | .alloc _ | .box _ | .store _ _ _ | .mks _ _ _ _ | .cpy _ _ _ | .nbl _ _ | .rng _ | .nxt _ | .pan _=>false
 | _=>true
def Wm(md:Nat→Md):PO→Bool
 | .nil=>true
 | .one o r=>still md o.op && Wm md r
 | .box _ _ _ _=>false
 | .grp _ _ ops _ _ _ r=>Wm md ops && Wm md r
/-- an operation that changes nothing but its slot -/
def quiet:O→Bool
 | .alloc _ | .box _ | .store _ _ _ | .mks _ _ _ _ | .app _ _ _ _ | .apz _ _ _ _ | .cpy _ _ _ | .nbl _ _ | .rng _ | .nxt _ | .pan _ | .call _ _ | .callv _ _=>false
 | _=>true
/-- values, or what goes over as such -/
def W9:PS→Bool
 | .v _ | .own _ _ _ | .full _=>true
 | _=>false
def Yk:List PS→Bool
 | []=>true
 | q::r=>W9 q && Yk r
def Zo:List PD→Bool
 | []=>true
 | .s q::r=>W9 q && Zo r
 | .agg ps::r=>Yk ps && Zo r
/-- it writes no object -/
def qOk(gl:Gl)(p:PSt):O→Bool
 | .app _ _ s _=>match evH gl p s with | some (.s q)=>(match q with | .own _ _ _=>true | .full _=>true | _=>false) | _=>false
 | .apz _ _ s _=>match evH gl p s with | some (.s q)=>(match q with | .own _ _ _=>true | .full _=>true | _=>false) | _=>false
 | .call f xs=>match gl.md f with | .pl=>(match zf1 gl p xs with | some ds=>Zo ds | none=>false) | _=>false
 | o=>quiet o
/-- a row of so many cells that hold a value -/
def Jl{ρ:Type}(n:Nat)(d:PD)(K:RowC→Option ρ):Option ρ:=
 match Nat.blt 1 n with
 | true=>match d with
  | .s (.v x)=>tst (okN n x) (K (.box n x))
  | d=>wU n d fun cs=>K (.cells cs)
 | false=>wU n d fun cs=>K (.cells cs)
section
variable {ρ:Type} (gl:Gl) (pc:PcT)
def zcn(o:OpC)(p:PSt)(K:PSt→Option ρ):Option ρ:=
 match o.gd with
 | none=>YT gl pc p o.op fun r p'=>match V8 p' o.dst r with | some p''=>K p'' | none=>none
 | some (t,b)=>match evV gl p (.s t)with
  | some c=>(asBool c).bind fun c=>if c=b then(YT gl pc p o.op fun r p'=>match V8 p' o.dst r with | some p''=>K p'' | none=>none)
   else(match V8 p o.dst none with | some p''=>K p'' | none=>none)
  | none=>none
def wt:{ρ:Type}→PO→PSt→(PSt→Option ρ)→Option ρ
 | _,.nil,p,K=>K p
 | _,.one o r,p,K=>zcn gl pc o p fun p'=>wt r p' K
 | _,.box n dst x r,p,K=>match evH gl p x with
  | some d=>Jl n d (fun c=>match V8 (p.newR c) (some dst) (some (.s (.ptr p.rows.length 0)))with | some p'=>wt r p' K | none=>none)
  | none=>none
 | _,.grp c w ops dst a b r,p,K=>match evV gl p (.s c)with
  | some c=>match evH gl p b with
   | some b=>match b.pureV with
    | some b=>match zfP p.tm (xa ops) && Js [] ops with
     | true=>(asBool c).bind fun c=>
      ((if c=w then wt ops p.sealOf fun p'=>match evH gl p' a with | some d=>d.pureV | none=>none else some b):Option V).bind fun x=>
      match V8 p (some dst) (some (.s (.v x)))with | some p'=>wt r p' K | none=>none
     | false=>none
    | none=>none
   | none=>none
  | none=>none
def X9:{ρ:Type}→PO→PSt→(PSt→Option ρ)→Option ρ
 | _,.nil,p,K=>K p
 | _,.one o r,p,K=>match o.gd with
  | none=>match qOk gl p o.op with
   | true=>zcn gl pc o p fun p'=>X9 r p' K
   | false=>none
  | some _=>none
 | _,_,_,_=>none
def jp:List (PEx×Sh)→PEx→Nat→Option (Nat×Sh)
 | [],_,_=>none
 | (.nrm,sh)::r,x,j=>match x with | .nrm=>some (j,sh) | x=>jp r x (j+1)
 | (.ret,sh)::r,x,j=>match x with | .ret=>some (j,sh) | x=>jp r x (j+1)
 | (.ext i,sh)::r,x,j=>match x with
  | .ext i'=>match Nat.beq i i' with | true=>some (j,sh) | false=>jp r (.ext i') (j+1)
  | x=>jp r x (j+1)
def Kl(p:PSt)(v:Nat→V)(K:PEx→PSt→Option ρ):List (PEx×Sh)→Nat→Option ρ
 | [],_=>none
 | [(x,sh)],_=>match dec false sh p v with | some p'=>K x p' | none=>none
 | (x,sh)::r,j=>if j=0 then(match dec false sh p v with | some p'=>K x p' | none=>none)else Kl p v K r (j - 1)
noncomputable def yn:{ρ:Type}→PC→PSt→(PEx→PSt→Option ρ)→Option ρ
 | _,.skip,p,K=>K .nrm p
 | _,.reg ops keep,p,K=>wt gl pc ops p fun p'=>K .nrm { p' with tm:=VV keep p'.tm }
 | _,.drw a0 a1 b keep,p,K=>wt gl pc a0 p fun p0=>match Wm gl.md a1 with
  | true=>wt gl pc a1 { p0 with rows:=jI p0.rows,lim:=p0.ni } fun p1=>wt gl pc b { p1 with rows:=p0.rows,lim:=p0.lim } fun p'=>K .nrm { p' with tm:=VV keep p'.tm }
  | false=>none
 | _,.drq a0 a1 b keep,p,K=>wt gl pc a0 p fun p0=>X9 gl pc a1 p0 fun p1=>wt gl pc b p1 fun p'=>K .nrm { p' with tm:=VV keep p'.tm }
 | _,.drf a0 t ag sz a k b1 b keep,p,K=>wt gl pc a0 p fun p0=>zcn gl pc ⟨some t,.load ag sz (.s a),none⟩ p0 fun p1=>match zbF p1.tm a with
  | some (.s (.ptr k' _))=>match Nat.beq k k' && !Nat.beq t a && !hasB (xa b1) t && !hasB (xa b1) a && zd0 b1 with
   | true=>match hold p1 k with
    | some p2=>wt gl pc b1 p2 fun p3=>wt gl pc b (ze9 p3 k) fun p'=>K .nrm { p' with tm:=VV keep p'.tm }
    | none=>none
   | false=>none
  | _=>none
 | _,.seq a b,p,K=>yn a p fun x p'=>match x with | .nrm=>yn b p' K | .ext i=>K (.ext i) p' | .ret=>K .ret p'
 | _,.cond c a b,p,K=>match evV gl p c with
  | some c=>(asBool c).bind fun c=>if c=true then yn a p K else yn b p K
  | none=>none
 | _,.blk id c,p,K=>yn c p fun x p'=>match x with
  | .nrm=>K .nrm p'
  | .ext i=>match Nat.beq i id with | true=>K .nrm p' | false=>K (.ext i) p'
  | .ret=>K .ret p'
 | _,.loop h xs c,p,K=>WA false h p fun v0=>
  (yi (fun v:Nat→V=>match dec true h p v with
   | some pv=>yn c pv fun x p'=>match x with
    | .nrm=>WA true h p' fun v'=>some (.inl v')
    | .ext i=>match jp xs (.ext i) 0 with | some (j,sh)=>WA true sh p' fun v'=>some (.inr (j,v')) | none=>none
    | .ret=>match jp xs .ret 0 with | some (j,sh)=>WA true sh p' fun v'=>some (.inr (j,v')) | none=>none
   | none=>none) v0).bind fun o:Nat×(Nat→V)=>Kl p o.2 K xs o.1
 | _,.cut h xs c,p,K=>WA false h p fun v0=>match dec true h p v0 with
  | some pv=>(yn c pv fun x p'=>match jp xs x 0 with | some (j,sh)=>WA true sh p' fun v'=>some (j,v') | none=>none).bind fun o:Nat×(Nat→V)=>Kl p o.2 K xs o.1
  | none=>none
 | _,.exit id,p,K=>K (.ext id) p
 | _,.ret,p,K=>K .ret p
end
def zr7:PA→PD
 | .v x => .s (.v x)
 | .p j off => .s (.ptr j off)
 | .fn f cap => .s (.fn f cap)
 | .o sz xs => .s (.own 0 sz xs)
 | .g => .s (.v .nilp)
 | .u => .s (.v .nilp)
def WC(i:Nat):List PA→PTm
 | []=>[]
 | a::r=>(i,false,zr7 a)::WC (i+1) r
def jk:List (Bool×Nat×V)→List Row
 | []=>[]
 | (ro,n,x)::r=>⟨ro,Jc n x⟩::jk r
def wy(as:List PA)(pars:List (Bool×Nat×V)):PSt:=⟨WC 0 as,jk pars,1,0⟩
def zcc{ρ:Type}(p:PSt):List R→(List V→Option ρ)→Option ρ
 | [],K=>K []
 | .tmp t::r,K=>match zbF p.tm t with
  | some d=>match d.outV p with | some x=>zcc p r fun l=>K (x::l) | none=>none
  | none=>none
 | .cell t ag sz::r,K=>match zbF p.tm t with
  | some a=>zab p ag sz a fun d=>match d.outV p with | some x=>zcc p r fun l=>K (x::l) | none=>none
  | none=>none
def zfR:List V→V
 | [x]=>x
 | l => .tup l
def j9(p:PSt):Nat→List (Bool×Nat×V)→Option (List V)
 | _,[]=>some []
 | j,(_,n,_)::r=>match J3 p j with
  | some c=>match zcE c with
   | some (n',x)=>match Nat.beq n' n with
    | true=>match j9 p (j+1) r with | some l=>some (x::l) | none=>none
    | false=>none
   | none=>none
  | none=>none
def zpo(res:List R)(pars:List (Bool×Nat×V))(x:PEx)(p:PSt):Option (V×List V):=
 match x with
 | .ext _=>none
 | _=>match j9 p 0 pars with
  | some ys=>zcc p res fun l=>some (zfR l,ys)
  | none=>none
/-- pn: what is returned, or the panic, as a pair -/
def zgp(pn:Bool)(res:List R)(pars:List (Bool×Nat×V))(x:PEx)(p:PSt):Option (V×List V):=
 match pn with
 | false=>zpo res pars x p
 | true=>match x with
  | .ext i=>match Nat.beq i zg with
   | true=>match j9 p 0 pars with
    | some ys=>zcc p [.tmp zg] fun l=>some (.tup [.bool false,zfR l],ys)
    | none=>none
   | false=>none
  | _=>match j9 p 0 pars with
   | some ys=>zcc p res fun l=>some (.tup [.bool true,zfR l],ys)
   | none=>none
/-- the result may be appended to -/
def zkT(sz:Nat)(res:List R)(x:PEx)(p:PSt):Option (V×List V):=
 match x with
 | .ext _=>none
 | _=>match res with
  | [.tmp t]=>match zbF p.tm t with
   | some (.s (.own _ sz' xs))=>match Nat.beq sz sz' with | true=>some (.sl xs,[]) | false=>none
   | some (.s (.full xs))=>tst (yu sz xs) (some (.sl xs,[]))
   | _=>none
  | _=>none
/-- the result is told as it is -/
def zkH(res:List R)(x:PEx)(p:PSt):Option (V×List V):=
 match x with
 | .ext _=>none
 | _=>match res with
  | [.tmp t]=>match zbF p.tm t with
   | some d=>match d.pureV with | some y=>some (y,[]) | none=>none
   | none=>none
  | _=>none
noncomputable def ZY(gl:Gl)(pc:PcT)(fn:PFn)(md:Md)(as:List PA)(pars:List (Bool×Nat×V)):Option (V×List V):=
 match md with
 | .pl=>yn gl pc fn.body (wy as pars) (zgp fn.pn fn.res pars)
 | .gv sz=>match as with
  | .g::as=>match pars with | []=>yn gl pc fn.body (wy as []) (zkT sz fn.res) | _=>none
  | _=>none
 | .raw sz=>match as with
  | .o sz' xs::as=>match pars with
   | []=>match Nat.beq sz sz' with | true=>yn gl pc fn.body (wy (.o sz' xs::as) []) (zkH fn.res) | false=>none
   | _=>none
  | _=>none
 | .ful=>none
 | .gvf _=>none
 | .eff _=>none
def Q4:List PA→Option (List V)
 | []=>some []
 | .v x::r=>match Q4 r with | some l=>some (x::l) | none=>none
 | _=>none
def zdG(g:List V→Option V)(as:List PA)(pars:List (Bool×Nat×V)):Option (V×List V):=
 match pars with
 | []=>match Q4 as with | some xs=>(g xs).bind fun y=>some (y,[]) | none=>none
 | _=>none
def Xb(g:List V→Option V)(md:Md)(as:List PA)(pars:List (Bool×Nat×V)):Option (V×List V):=
 match md with
 | .pl=>zdG g as pars
 | .gv _=>none
 | .gvf _=>match as with
  | .g::as=>(zdG g as pars).bind fun q=>match q.1 with | .sl []=>some q | _=>none
  | _=>none
 | .ful=>match as with
  | .u::as=>zdG g as pars
  | _=>none
 | .raw _=>none
 | .eff _=>none
noncomputable def pcN(gl:Gl)(tab:Nat→Nat→Option PFn):Nat→PcT
 | 0=>fun _ _ _=>none
 | n+1=>fun f as pars=>match tab f pars.length with
  | some fn=>ZY gl (pcN gl tab n) fn (gl.md f) as pars
  | none=>match gl.tx f with
   | some g=>Xb g (gl.md f) as pars
   | none=>none
/-- a call -/
noncomputable def pcL(gl:Gl)(tab:Nat→Nat→Option PFn):PcT:=fun f as pars=>open Classical in
 if h : ∃ n r,pcN gl tab n f as pars=some r then some h.choose_spec.choose else none
end Go.Ev
end
section
namespace Go.Ev
theorem zeQ(d:D):cl0L d.cells=d.cl0.cells:=by cases d<;>simp[D.cells,D.cl0,cl0L]
theorem ja(x:V):x.toD.cells=toDL x.parts:=by cases x<;>simp[V.toD,D.cells,V.parts,toDL]
theorem KM{d:D}(h:d.cl0.oneCell=true):d.oneCell=true:=by cases d<;>simp_all [D.cl0,D.oneCell]
theorem zkA{x:V}(h:x.one=true):x.toD.oneCell=true:=by cases x<;>simp_all [V.one,V.toD,D.oneCell]
theorem wX{ds:List D}{xs:List V}(h:cl0L ds=toDL xs)(hx:yo xs=true):z6 ds=true:=by
 induction ds generalizing xs with
 | nil=>rfl
 | cons d r ih=>
  cases xs with
  | nil=>simp[cl0L,toDL]at h
  | cons x s=>
   simp only[cl0L,toDL,List.cons.injEq]at h
   simp only[yo,zG]at hx
   simp only[z6,zG]
   exact⟨KM (by rw[h.1];exact zkA hx.1),ih h.2 hx.2⟩
theorem xr(xs:List V):(toDL xs).length=xs.length:=by induction xs<;>simp_all [toDL]
theorem Jn(xs:List V)(i:Nat):(toDL xs)[i]?=(xs[i]?).map V.toD:=by
 induction xs generalizing i with
 | nil=>simp[toDL]
 | cons x r ih=>cases i<;>simp_all [toDL]
theorem ko(xs ys:List V):toDL (xs++ys)=toDL xs++toDL ys:=by induction xs<;>simp_all [toDL]
theorem Vm(xs:List V)(i:Nat):(toDL xs).take i=toDL (xs.take i):=by
 induction xs generalizing i with
 | nil=>simp[toDL]
 | cons x r ih=>cases i<;>simp_all [toDL]
theorem jZ(xs:List V)(i:Nat):(toDL xs).drop i=toDL (xs.drop i):=by
 induction xs generalizing i with
 | nil=>simp[toDL]
 | cons x r ih=>cases i<;>simp_all [toDL]
theorem vt(xs ys:List D):cl0L (xs++ys)=cl0L xs++cl0L ys:=by induction xs<;>simp_all [cl0L]
theorem vT(xs:List D)(i:Nat):cl0L (xs.take i)=(cl0L xs).take i:=by
 induction xs generalizing i with
 | nil=>simp[cl0L]
 | cons x r ih=>cases i<;>simp_all [cl0L]
theorem vq(xs:List D)(i:Nat):cl0L (xs.drop i)=(cl0L xs).drop i:=by
 induction xs generalizing i with
 | nil=>simp[cl0L]
 | cons x r ih=>cases i<;>simp_all [cl0L]
theorem we(xs ys:List V):flatD (xs++ys)=flatD xs++flatD ys:=by induction xs<;>simp_all [flatD]
theorem kt(sz:Nat)(xs ys:List V):yu sz (xs++ys)=(yu sz xs && yu sz ys):=by
 induction xs with
 | nil=>simp[yu]
 | cons x r ih=>simp[yu,ih,Bool.and_assoc]
theorem yG{sz:Nat}{x:V}{r:List V}:yu sz (x::r)=true↔okN sz x=true∧yu sz r=true:=by simp[yu]
theorem Zi{sz:Nat}{xs:List V}(h:yu sz xs=true)(i:Nat):yu sz (xs.take i)=true:=by
 induction xs generalizing i with
 | nil=>simp[yu]
 | cons x r ih=>cases i with
  | zero=>simp[yu]
  | succ i=>rw[List.take_succ_cons];exact yG.2 ⟨(yG.1 h).1,ih (yG.1 h).2 i⟩
theorem jf{sz:Nat}{xs:List V}(h:yu sz xs=true)(i:Nat):yu sz (xs.drop i)=true:=by
 induction xs generalizing i with
 | nil=>simp[yu]
 | cons x r ih=>cases i with
  | zero=>exact h
  | succ i=>rw[List.drop_succ_cons];exact ih (yG.1 h).2 i
theorem ZG{sz:Nat}{xs:List V}(h:yu sz xs=true){i:Nat}{x:V}(hi:xs[i]?=some x):okN sz x=true:=by
 induction xs generalizing i with
 | nil=>simp at hi
 | cons y r ih=>cases i with
  | zero=>simp at hi;subst hi;exact(yG.1 h).1
  | succ i=>exact ih (yG.1 h).2 (by simpa using hi)
theorem YV{sz:Nat}{xs:List V}(h:yu sz xs=true){i:Nat}{x:V}(hx:okN sz x=true):yu sz (xs.set i x)=true:=by
 induction xs generalizing i with
 | nil=>simp[yu]
 | cons y r ih=>cases i with
  | zero=>exact yG.2 ⟨hx,(yG.1 h).2⟩
  | succ i=>exact yG.2 ⟨(yG.1 h).1,ih (yG.1 h).2⟩
theorem Jv{sz n:Nat}{x:V}(hx:okN sz x=true):yu sz (List.replicate n x)=true:=by
 induction n with
 | zero=>simp[yu]
 | succ n ih=>rw[List.replicate_succ];exact yG.2 ⟨hx,ih⟩
theorem yT{n:Nat}{x:V}(h:okN n x=true):x.parts.length=n:=by
 simp only[okN,zG]at h;exact zJ h.1
theorem xF{n:Nat}{x:V}(h:okN n x=true):yo x.parts=true:=by simp only[okN,zG]at h;exact h.2
theorem Yt{n:Nat}{x:V}(h:x.parts.length=n)(k:yo x.parts=true):okN n x=true:=by
 simp only[okN,zG];exact⟨by rw[h];exact Nat.beq_refl n,k⟩
theorem yY{sz:Nat}{xs:List V}(h:yu sz xs=true):(flatD xs).length=xs.length * sz:=by
 induction xs with
 | nil=>simp[flatD]
 | cons x r ih=>
  simp only[flatD,zZ,List.length_cons]
  rw[ih (yG.1 h).2,ja,xr,yT (yG.1 h).1,Nat.add_mul,Nat.one_mul,Nat.add_comm]
theorem vE{sz:Nat}{xs:List V}(h:yu sz xs=true)(i:Nat):(flatD xs).drop (i * sz)=flatD (xs.drop i):=by
 induction xs generalizing i with
 | nil=>simp[flatD]
 | cons x r ih=>cases i with
  | zero=>simp
  | succ i=>
   simp only[flatD,List.drop_succ_cons]
   have hl:(x.toD.cells).length=sz:=by rw[ja,xr,yT (yG.1 h).1]
   rw[show(i+1) * sz=sz+i * sz by rw[Nat.add_mul,Nat.one_mul,Nat.add_comm],← List.drop_drop]
   rw[← ih (yG.1 h).2,List.drop_left' hl]
theorem qk{sz:Nat}{xs:List V}(h:yu sz xs=true)(i:Nat):(flatD xs).take (i * sz)=flatD (xs.take i):=by
 induction xs generalizing i with
 | nil=>simp[flatD]
 | cons x r ih=>cases i with
  | zero=>simp[flatD]
  | succ i=>
   simp only[flatD,List.take_succ_cons]
   have hl:(x.toD.cells).length=sz:=by rw[ja,xr,yT (yG.1 h).1]
   rw[← ih (yG.1 h).2,show(i+1) * sz=sz+i * sz by rw[Nat.add_mul,Nat.one_mul,Nat.add_comm]]
   rw[List.take_append,hl,zV (by omega)]
   congr 2;omega
theorem zcu{xs:List V}{i:Nat}{x:V}(h:xs[i]?=some x):flatD (xs.drop i)=toDL x.parts++flatD (xs.drop (i+1)):=by
 have hi:i<xs.length:=by
  rcases Nat.lt_or_ge i xs.length with h' | h'
  ·exact h'
  ·rw[List.getElem?_eq_none h']at h;simp at h
 rw[zO hi]
 have:xs[i]=x:=by rw[zL hi]at h;injection h
 rw[this];simp[flatD,ja]
theorem zk7(n:Nat)(x:V):flatD (List.replicate n x)=rep n (toDL x.parts):=by
 induction n with
 | zero=>simp[flatD,rep]
 | succ n ih=>simp[List.replicate_succ,flatD,ih,rep,ja]
theorem zan(l:List UInt8):flatD (Zv l)=ofBytes l:=by
 induction l with
 | nil=>rfl
 | cons b r ih=>simp_all [Zv,ofBytes,flatD,V.toD,D.cells]
theorem zjb(l:List UInt8):yu 1 (Zv l)=true:=by
 induction l with
 | nil=>rfl
 | cons b r ih=>exact yG.2 ⟨rfl,ih⟩
/- nothing in a pure value is told in place -/
mutual
def D.noU:D→Bool
 | .und=>false
 | .sl _ _ xs=>noUL xs
 | .agg xs=>noUL xs
 | .tup xs=>noUL xs
 | .iface _ d=>d.noU
 | _=>true
def noUL:List D→Bool
 | []=>true
 | d::r=>d.noU && noUL r
end
mutual
theorem Kp(m:Mem) : ∀ d:D,d.cl0.noU=true→d.cl m=d.cl0∧d.refs=[]
 | .und,h=>by simp[D.cl0,D.noU]at h
 | .off,_=>⟨rfl,rfl⟩
 | .bool _,_=>⟨rfl,rfl⟩
 | .int _ _,_=>⟨rfl,rfl⟩
 | .float _ _,_=>⟨rfl,rfl⟩
 | .str _,_=>⟨rfl,rfl⟩
 | .nilp,_=>⟨rfl,rfl⟩
 | .nilf,_=>⟨rfl,rfl⟩
 | .nili,_=>⟨rfl,rfl⟩
 | .sl g n xs,h=>by
  have:=clL_of_noU m xs (by simpa[D.cl0,D.noU]using h)
  simp[D.cl,D.cl0,D.refs,this.1,this.2]
 | .ref _ _ _ _ _,h=>by simp[D.cl0,D.noU]at h
 | .ptr _ _,_=>⟨rfl,rfl⟩
 | .el _,_=>⟨rfl,rfl⟩
 | .agg xs,h=>by
  have:=clL_of_noU m xs (by simpa[D.cl0,D.noU]using h)
  simp[D.cl,D.cl0,D.refs,this.1,this.2]
 | .tup xs,h=>by
  have:=clL_of_noU m xs (by simpa[D.cl0,D.noU]using h)
  simp[D.cl,D.cl0,D.refs,this.1,this.2]
 | .fn _ _,_=>⟨rfl,rfl⟩
 | .iface t d,h=>by
  have:=Kp m d (by simpa[D.cl0,D.noU]using h)
  simp[D.cl,D.cl0,D.refs,this.1,this.2]
theorem clL_of_noU(m:Mem) : ∀ l:List D,noUL (cl0L l)=true→clL m l=cl0L l∧refsL l=[]
 | [],_=>⟨rfl,rfl⟩
 | d::r,h=>by
  simp only[cl0L,noUL,zG]at h
  have h1:=Kp m d h.1
  have h2:=clL_of_noU m r h.2
  simp[clL,cl0L,refsL,h1.1,h1.2,h2.1,h2.2]
end
theorem zgi(a b:List D):noUL (a++b)=(noUL a && noUL b):=by
 induction a with
 | nil=>simp[noUL]
 | cons x r ih=>simp[noUL,ih,Bool.and_assoc]
theorem zlu{d:D}(h:d.noU=true):noUL d.cells=true:=by cases d<;>simp_all [D.cells,D.noU,noUL]
mutual
theorem zaS : ∀ x:V,x.toD.noU=true
 | .bool _=>rfl
 | .int _ _=>rfl
 | .float _ _=>rfl
 | .str _=>rfl
 | .nilp=>rfl
 | .nilf=>rfl
 | .nili=>rfl
 | .sl xs=>by simp only[V.toD,D.noU];exact flatD_noU xs
 | .agg xs=>by simp only[V.toD,D.noU];exact toDL_noU xs
 | .tup xs=>by simp only[V.toD,D.noU];exact toDL_noU xs
 | .fn _ _=>rfl
 | .iface _ x=>by simp only[V.toD,D.noU];exact zaS x
theorem toDL_noU : ∀ l:List V,noUL (toDL l)=true
 | []=>rfl
 | x::r=>by simp only[toDL,noUL,zaS x,toDL_noU r,Bool.and_self]
theorem flatD_noU : ∀ l:List V,noUL (flatD l)=true
 | []=>rfl
 | x::r=>by simp only[flatD,zgi,zlu (zaS x),flatD_noU r,Bool.and_self]
end
theorem zhs{x:V}{d:D}(h:d.cl0=x.toD)(m:Mem):d.cl m=x.toD∧d.refs=[]:=by
 have:=Kp m d (by rw[h];exact zaS x)
 exact⟨this.1.trans h,this.2⟩
theorem zn4{xs:List V}{ds:List D}(h:cl0L ds=flatD xs)(m:Mem):clL m ds=flatD xs∧refsL ds=[]:=by
 have:=clL_of_noU m ds (by rw[h];exact flatD_noU xs)
 exact⟨this.1.trans h,this.2⟩
theorem zmG{xs:List V}{ds:List D}(h:cl0L ds=toDL xs)(m:Mem):clL m ds=toDL xs∧refsL ds=[]:=by
 have:=clL_of_noU m ds (by rw[h];exact toDL_noU xs)
 exact⟨this.1.trans h,this.2⟩
mutual
theorem Xh : ∀ x:V,x.toD.cl0=x.toD
 | .bool _=>rfl
 | .int _ _=>rfl
 | .float _ _=>rfl
 | .str _=>rfl
 | .nilp=>rfl
 | .nilf=>rfl
 | .nili=>rfl
 | .sl xs=>by simp only[V.toD,D.cl0,flatD_cl0]
 | .agg xs=>by simp only[V.toD,D.cl0,toDL_cl0]
 | .tup xs=>by simp only[V.toD,D.cl0,toDL_cl0]
 | .fn _ _=>rfl
 | .iface _ x=>by simp only[V.toD,D.cl0,Xh]
theorem toDL_cl0 : ∀ l:List V,cl0L (toDL l)=toDL l
 | []=>rfl
 | x::r=>by simp only[toDL,cl0L,Xh x,toDL_cl0 r]
theorem flatD_cl0 : ∀ l:List V,cl0L (flatD l)=flatD l
 | []=>rfl
 | x::r=>by simp only[flatD,vt,zeQ,Xh x,flatD_cl0 r]
end
/- what handles stand for -/
def RC(ρ:Nat→Nat)(m:Nat):CP→D→Prop
 | .v x,d=>d.cl0=x.toD
 | .p k off,d=>k<m∧d = .ptr (ρ k) off
def RCL(ρ:Nat→Nat)(m:Nat):List CP→List D→Prop
 | [],[]=>True
 | q::r,d::s=>RC ρ m q d∧RCL ρ m r s
 | _,_=>False
def z8(rows:List Row)(k:Nat):Option (Nat×Nat):=match rows[k]? with | some ⟨_,.arr _ sz xs⟩=>some (sz,xs.length) | _=>none
/-- what a relation leans on: names of rows, lineages, the rows, the tips -/
structure Cx where
 ρ:Nat→Nat
 τ:Nat→Option Nat
 m:Nat
 rk:Nat→Option (Nat×Nat)
 tip:Nat→Option Nat
 ni:Nat
def RS(c:Cx):PS→D→Prop
 | .v x,d=>d.cl0=x.toD
 | .own id sz xs,d => ∃ g ds,d = .sl g xs.length ds∧cl0L ds=flatD xs∧yu sz xs=true∧id<c.ni∧(g = .full ∨ ∃ l,g = .ln l sz∧c.τ id=some l∧c.tip l=some xs.length)
 | .full xs,d => ∃ ds,d = .sl .full xs.length ds∧cl0L ds=flatD xs
 | .ptr k off,d=>k<c.m∧d = .ptr (c.ρ k) off
 | .ptrA k sz i off,d=>k<c.m∧d = .ptr (c.ρ k) (i * sz+off) ∧ ∀ s n,c.rk k=some (s,n)→s=sz∧i<n
 | .ref k sz off n cp z,d=>k<c.m∧n≤cp∧(d = .ref (c.ρ k) (off * sz) n cp sz∧(z=false∨0<cp)∨cp=0∧d = .sl .full 0 []∧z=true) ∧ ∀ s l,c.rk k=some (s,l)→s=sz∧off+cp≤l
 | .el cs,d => ∃ ds,d = .el ds∧toDL cs <+: cl0L ds
 | .elx sz x off,d=>okN sz x=true ∧ ∃ ds,d = .el ds∧(toDL x.parts).drop off <+: cl0L ds
 | .fn f cap,d => ∃ ds,d = .fn f ds∧RCL c.ρ c.m cap ds
def RSL(c:Cx):List PS→List D→Prop
 | [],[]=>True
 | q::r,d::s=>RS c q d∧RSL c r s
 | _,_=>False
def RP(c:Cx):PD→D→Prop
 | .s q,d=>RS c q d
 | .agg ps,d => ∃ ds,d = .agg ds∧RSL c ps ds∧z6 ds=true
def RO(c:Cx):Option PD→Option D→Prop
 | none,none=>True
 | some d,some e=>RP c d e
 | _,_=>False
def Fz.ok:Fz→Bool→Prop
 | .no,b=>b=false
 | .may,_=>True
 | .yes,b=>b=true
def RW(c:Cx):RowC→Ob→Prop
 | .box n x,o => ∃ ds,o = .row ds false∧cl0L ds=toDL x.parts∧okN n x=true
 | .cells ps,o => ∃ ds,o = .row ds false∧RSL c ps ds∧z6 ds=true
 | .arr fz sz xs,o => ∃ ds b,o = .row ds b∧fz.ok b∧cl0L ds=flatD xs∧yu sz xs=true
 | .iter s pos,o=>o = .iter s pos
 | .bld t e s,o=>o = .bld t e s
 | .dead,_=>True
def zv(ρ:Nat→Nat)(τ:Nat→Option Nat)(p:PSt)(st:St):Cx:=⟨ρ,τ,p.rows.length,z8 p.rows,st.tip,p.ni⟩
structure Sim(ρ:Nat→Nat)(τ:Nat→Option Nat)(p:PSt)(st:St):Prop where
 tm : ∀ t f d,yH p.tm t=some (f,d) → ∃ e,get st.tm t=some e∧RP (zv ρ τ p st) d e
 nx : ∀ k,k<p.rows.length→ρ k<st.nx
 rows : ∀ k r,p.rows[k]?=some r → ∃ o,(r.c = .dead∨st.mem (ρ k)=some o)∧RW (zv ρ τ p st) r.c o
 inj : ∀ j k,j<p.rows.length→k<p.rows.length→ρ j=ρ k→j=k
 lin : ∀ i l,τ i=some l→i<p.ni∧l<st.nx
 linj : ∀ i j l,τ i=some l→τ j=some l→i=j
theorem Ye{c:Cx}{ps:List PS}{ds:List D}(h:RSL c ps ds):ps.length=ds.length:=by
 induction ps generalizing ds with
 | nil=>cases ds with | nil=>rfl | cons d s=>exact h.elim
 | cons q r ih=>cases ds with | nil=>exact h.elim | cons d s=>simp[ih h.2]
theorem zjS{c:Cx}{ps:List PS}{ds:List D}(h:RSL c ps ds){i:Nat}{q:PS}(hi:ps[i]?=some q) : ∃ d,ds[i]?=some d∧RS c q d:=by
 induction ps generalizing ds i with
 | nil=>simp at hi
 | cons p r ih=>cases ds with
  | nil=>exact h.elim
  | cons d s=>cases i with
   | zero=>simp at hi;subst hi;exact⟨d,by simp,h.1⟩
   | succ i=>simpa using ih h.2 (by simpa using hi)
theorem zbw{c:Cx}{ps:List PS}{ds:List D}(h:RSL c ps ds)(n:Nat):RSL c (ps.take n) (ds.take n):=by
 induction ps generalizing ds n with
 | nil=>cases ds with | nil=>simpa using h | cons d s=>exact h.elim
 | cons p r ih=>cases ds with
  | nil=>exact h.elim
  | cons d s=>cases n with
   | zero=>simp[RSL]
   | succ n=>exact⟨h.1,ih h.2 n⟩
theorem zbW{c:Cx}{ps:List PS}{ds:List D}(h:RSL c ps ds)(n:Nat):RSL c (ps.drop n) (ds.drop n):=by
 induction ps generalizing ds n with
 | nil=>cases ds with | nil=>simpa using h | cons d s=>exact h.elim
 | cons p r ih=>cases ds with
  | nil=>exact h.elim
  | cons d s=>cases n with
   | zero=>exact h
   | succ n=>exact ih h.2 n
theorem zdd{c:Cx}{ps qs:List PS}{ds es:List D}(h:RSL c ps ds)(k:RSL c qs es):RSL c (ps++qs) (ds++es):=by
 induction ps generalizing ds with
 | nil=>cases ds with | nil=>simpa using k | cons d s=>exact h.elim
 | cons p r ih=>cases ds with
  | nil=>exact h.elim
  | cons d s=>exact⟨h.1,ih h.2⟩
theorem zfx{c:Cx}{ps qs:List PS}{ds es:List D}(h:RSL c ps ds)(k:RSL c qs es)(o:Nat):RSL c (xM ps o qs) (vQ ds o es):=by
 unfold xM vQ
 rw[Ye k]
 exact zdd (zdd (zbw h o) k) (zbW h _)
theorem zjX{c:Cx}{xs:List V}{ds:List D}(h:cl0L ds=toDL xs):RSL c (xs.map PS.v) ds:=by
 induction xs generalizing ds with
 | nil=>cases ds with | nil=>trivial | cons d s=>simp[cl0L,toDL]at h
 | cons x r ih=>cases ds with
  | nil=>simp[cl0L,toDL]at h
  | cons d s=>simp only[cl0L,toDL,List.cons.injEq]at h;exact⟨h.1,ih h.2⟩
theorem zoG{c:Cx}{ps:List PS}{ds:List D}(h:RSL c ps ds){l:List V}(k:zoe ps=some l):cl0L ds=toDL l:=by
 induction ps generalizing ds l with
 | nil=>cases ds with
  | nil=>simp[zoe]at k;subst k;rfl
  | cons d s=>exact h.elim
 | cons p r ih=>cases ds with
  | nil=>exact h.elim
  | cons d s=>
   cases p<;>simp only[zoe]at k<;>try contradiction
   split at k<;>simp at k
   rename_i l' hl
   subst k
   simp only[cl0L,toDL,ih h.2 hl]
   rw[show d.cl0=_ from h.1]
theorem JJ{c:Cx}{ps:List PS}{ds:List D}(h:RSL c ps ds)(h1:z6 ds=true):RP c (zeV ps) (.agg ds):=by
 unfold zeV
 split
 ·next l hl=>show(D.agg ds).cl0=_;simp only[D.cl0,V.toD,zoG h hl]
 ·exact⟨ds,rfl,h,h1⟩
theorem PS.pure_ok{c:Cx}{q:PS}{d:D}(h:RS c q d){x:V}(k:q.pure=some x):d.cl0=x.toD:=by
 cases q
 case fn f cap=>
  simp only[PS.pure]at k
  split at k<;>try contradiction
  injection k with k;subst k
  obtain⟨ds,rfl,hd⟩:=h
  cases ds with
  | nil=>rfl
  | cons _ _=>exact hd.elim
 all_goals simp[PS.pure]at k
 all_goals subst k
 ·exact h
 ·obtain⟨g,ds,rfl,hd,_,_⟩:=h;simp[D.cl0,V.toD,hd]
 ·obtain⟨ds,rfl,hd⟩:=h;simp[D.cl0,V.toD,hd]
theorem WF{c:Cx}{ps:List PS}{ds:List D}(h:RSL c ps ds){l:List V}(k:j3 ps=some l):cl0L ds=toDL l:=by
 induction ps generalizing ds l with
 | nil=>cases ds with
  | nil=>simp[j3]at k;subst k;rfl
  | cons d s=>exact h.elim
 | cons p r ih=>cases ds with
  | nil=>exact h.elim
  | cons d s=>
   simp only[j3]at k
   split at k<;>try contradiction
   split at k<;>try contradiction
   next x hx _ l' hl=>
    injection k with k;subst k
    simp only[cl0L,toDL,ih h.2 hl,PS.pure_ok h.1 hx]
theorem PD.pure_ok{c:Cx}{q:PD}{d:D}(h:RP c q d){x:V}(k:q.pureV=some x):d.cl0=x.toD:=by
 cases q with
 | s q=>exact PS.pure_ok h k
 | agg ps=>
  obtain⟨ds,rfl,hd,_⟩:=h
  simp only[PD.pureV]at k
  split at k<;>try contradiction
  next l hl=>injection k with k;subst k;simp only[D.cl0,V.toD,WF hd hl]
/- constants -/
mutual
theorem zfF : ∀ (d:D) (x:V),ofD d=some x→d.cl0=x.toD
 | .und,x,h=>by simp[ofD]at h
 | .off,x,h=>by simp[ofD]at h
 | .bool _,x,h=>by simp[ofD]at h;subst h;rfl
 | .int _ _,x,h=>by simp[ofD]at h;subst h;rfl
 | .float _ _,x,h=>by simp[ofD]at h;subst h;rfl
 | .str _,x,h=>by simp[ofD]at h;subst h;rfl
 | .nilp,x,h=>by simp[ofD]at h;subst h;rfl
 | .nilf,x,h=>by simp[ofD]at h;subst h;rfl
 | .nili,x,h=>by simp[ofD]at h;subst h;rfl
 | .sl _ _ _,x,h=>by simp[ofD]at h
 | .ref _ _ _ _ _,x,h=>by simp[ofD]at h
 | .ptr _ _,x,h=>by simp[ofD]at h
 | .el _,x,h=>by simp[ofD]at h
 | .agg ds,x,h=>by
  simp only[ofD]at h
  split at h<;>try contradiction
  next l hl=>injection h with h;subst h;simp only[D.cl0,V.toD,ofDL_ok ds l hl]
 | .tup _,x,h=>by simp[ofD]at h
 | .fn f c,x,h=>by
  simp only[ofD]at h
  split at h<;>try contradiction
  injection h with h;subst h;rfl
 | .iface t d,x,h=>by
  simp only[ofD]at h
  split at h<;>try contradiction
  next y hy=>injection h with h;subst h;simp only[D.cl0,V.toD,zfF d y hy]
theorem ofDL_ok : ∀ (l:List D) (xs:List V),ofDL l=some xs→cl0L l=toDL xs
 | [],xs,h=>by simp[ofDL]at h;subst h;rfl
 | d::r,xs,h=>by
  simp only[ofDL]at h
  split at h<;>try contradiction
  split at h<;>try contradiction
  next x hx _ l hl=>injection h with h;subst h;simp only[cl0L,toDL,zfF d x hx,ofDL_ok r l hl]
end
theorem zd4{c:Cx}{d:D}{q:PS}(h:Kn d=some q):RS c q d:=by
 unfold Kn at h
 split at h
 ·injection h with h;subst h;exact⟨[],rfl,rfl⟩
 ·injection h with h;subst h;exact⟨[],rfl,trivial⟩
 ·split at h<;>try contradiction
  next x hx=>injection h with h;subst h;exact zfF _ _ hx
theorem Vu{c:Cx}{ds:List D}{l:List PS}(h:YF ds=some l):RSL c l ds:=by
 induction ds generalizing l with
 | nil=>simp[YF]at h;subst h;trivial
 | cons d r ih=>
  simp only[YF]at h
  split at h<;>try contradiction
  split at h<;>try contradiction
  next x hx _ l' hl=>injection h with h;subst h;exact⟨zd4 hx,ih hl⟩
theorem zir{d:D}{q:PS}(h:Kn d=some q)(k:q.oneP=true):d.oneCell=true:=by
 unfold Kn at h
 split at h
 ·rfl
 ·rfl
 ·split at h<;>try contradiction
  next x hx=>
   injection h with h;subst h
   exact KM (by rw[zfF _ _ hx];exact zkA k)
theorem Xm{ds:List D}{l:List PS}(h:YF ds=some l)(k:zi9 l=true):z6 ds=true:=by
 induction ds generalizing l with
 | nil=>rfl
 | cons d r ih=>
  simp only[YF]at h
  split at h<;>try contradiction
  split at h<;>try contradiction
  next x hx _ l' hl=>
   injection h with h;subst h
   simp only[zi9,zG]at k
   simp only[z6,zG]
   exact⟨zir hx k.1,ih hl k.2⟩
theorem zl7{c:Cx}{d:D}{q:PD}(h:zji d=some q):RP c q d:=by
 unfold zji at h
 split at h
 ·split at h<;>try contradiction
  split at h<;>try contradiction
  next l hl _ h1=>injection h with h;subst h;exact JJ (Vu hl) (Xm hl h1)
 ·split at h<;>try contradiction
  next q hq=>injection h with h;subst h;exact zd4 hq
def GlR(E:Env)(gl:Gl):Prop := ∀ n cs,gl.g n=some cs → ∃ ds,E.gl n=some ds∧toDL cs <+: cl0L ds
theorem qn(tm:PTm)(t:Nat):zbF tm t=(yH tm t).map (·.2):=by
 induction tm with
 | nil=>rfl
 | cons e r ih=>
  obtain⟨i,f,d⟩:=e
  simp only[zbF,yH]
  cases i.beq t
  ·exact ih
  ·rfl
theorem yj{E:Env}{gl:Gl}(hg:GlR E gl){ρ τ p st}(hS:Sim ρ τ p st){x:X}{d:PD}(h:evH gl p x=some d) : ∃ e,ev E st.tm x=some e∧RP (zv ρ τ p st) d e:=by
 cases x with
 | s t=>
  simp only[evH,qn,zB]at h
  obtain⟨⟨f,d'⟩,h1,rfl⟩:=h
  obtain⟨e,he,hr⟩:=hS.tm t f d' h1
  exact⟨e,he,hr⟩
 | k c=>exact⟨c,rfl,zl7 h⟩
 | g n=>
  simp only[evH]at h
  split at h<;>try contradiction
  next cs hc=>
   injection h with h;subst h
   obtain⟨ds,h1,h2⟩:=hg n cs hc
   exact⟨.el ds,by simp[ev,h1],ds,rfl,h2⟩
theorem yV{E:Env}{gl:Gl}(hg:GlR E gl){ρ τ p st}(hS:Sim ρ τ p st){x:X}{v:V}(h:evV gl p x=some v) : ∃ e,ev E st.tm x=some e∧e.cl0=v.toD:=by
 unfold evV at h
 split at h<;>try contradiction
 next y hy=>injection h with h;subst h;exact yj hg hS hy
theorem zkz{E:Env}{gl:Gl}(hg:GlR E gl){ρ τ p st}(hS:Sim ρ τ p st){xs:List X}{l:List V}(h:zlg gl p xs=some l) : ∃ es,evL E st.tm xs=some es∧cl0L es=toDL l:=by
 induction xs generalizing l with
 | nil=>simp[zlg]at h;subst h;exact⟨[],rfl,rfl⟩
 | cons x r ih=>
  simp only[zlg]at h
  split at h<;>try contradiction
  split at h<;>try contradiction
  next v hv _ l' hl=>
   injection h with h;subst h
   obtain⟨e,h1,h2⟩:=yV hg hS hv
   obtain⟨es,h3,h4⟩:=ih hl
   exact⟨e::es,by simp[evL,h1,h3],by simp[cl0L,toDL,h2,h4]⟩
theorem ZW{E:Env}{gl:Gl}(hg:GlR E gl){ρ τ p st}(hS:Sim ρ τ p st){x:Option X}{v:Option V}(h:zb1 gl p x=some v) : ∃ e,evO E st.tm x=some e∧e.map D.cl0=v.map V.toD:=by
 cases x with
 | none=>simp[zb1]at h;subst h;exact⟨none,rfl,rfl⟩
 | some x=>
  simp only[zb1]at h
  split at h<;>try contradiction
  next d hd=>
   injection h with h;subst h
   obtain⟨e,h1,h2⟩:=yV hg hS hd
   exact⟨some e,by simp[evO,h1],by simp[h2]⟩
def RPL(c:Cx):List PD→List D→Prop
 | [],[]=>True
 | q::r,d::s=>RP c q d∧RPL c r s
 | _,_=>False
theorem JB{E:Env}{gl:Gl}(hg:GlR E gl){ρ τ p st}(hS:Sim ρ τ p st){xs:List X}{l:List PD}(h:zf1 gl p xs=some l) : ∃ es,evL E st.tm xs=some es∧RPL (zv ρ τ p st) l es:=by
 induction xs generalizing l with
 | nil=>simp[zf1]at h;subst h;exact⟨[],rfl,trivial⟩
 | cons x r ih=>
  simp only[zf1]at h
  split at h<;>try contradiction
  split at h<;>try contradiction
  next v hv _ l' hl=>
   injection h with h;subst h
   obtain⟨e,h1,h2⟩:=yj hg hS hv
   obtain⟨es,h3,h4⟩:=ih hl
   exact⟨e::es,by simp[evL,h1,h3],h2,h4⟩
end Go.Ev
end
section
namespace Go.Ev
theorem zh2{d:D}{b:Bool}(h:d.cl0 = .bool b):d = .bool b:=by cases d<;>simp_all [D.cl0]
theorem wI{d:D}{k:IntKind}{n:Int}(h:d.cl0 = .int k n):d = .int k n:=by cases d<;>simp_all [D.cl0]
theorem zeI{d:D}{k:FloatKind}{b:Nat}(h:d.cl0 = .float k b):d = .float k b:=by cases d<;>simp_all [D.cl0]
theorem Z1{d:D}{s:List UInt8}(h:d.cl0 = .str s):d = .str s:=by cases d<;>simp_all [D.cl0]
theorem zqm{d:D}{f:Nat}{l:List D}(h:d.cl0 = .fn f l):d = .fn f l:=by cases d<;>simp_all [D.cl0]
theorem znp{d:D}{g:Tg}{n:Nat}{l:List D}(h:d.cl0 = .sl g n l) : ∃ g' l',d = .sl g' n l'∧cl0L l'=l:=by
 cases d
 case sl g' n' l'=>simp only[D.cl0,D.sl.injEq]at h;exact⟨g',l',by rw[h.2.1],h.2.2⟩
 all_goals simp[D.cl0]at h
theorem za1{d:D}{l:List D}(h:d.cl0 = .agg l) : ∃ l',d = .agg l'∧cl0L l'=l:=by cases d<;>simp_all [D.cl0]
theorem zkp{d:D}{l:List D}(h:d.cl0 = .tup l) : ∃ l',d = .tup l'∧cl0L l'=l:=by cases d<;>simp_all [D.cl0]
theorem za4{ds:List D}{xs:List V}(h:cl0L ds=toDL xs){i:Nat}{x:V}(hi:xs[i]?=some x) : ∃ d,ds[i]?=some d∧d.cl0=x.toD:=by
 have h1:=congrArg (fun l:List D=>l[i]?) h
 simp only[ZE,Jn,hi,zC]at h1
 cases hd:ds[i]? with
 | none=>rw[hd]at h1;simp at h1
 | some d=>rw[hd]at h1;exact⟨d,rfl,by simpa using h1⟩
theorem zf9{ds:List D}{xs:List V}(h:toDL xs <+: cl0L ds){i:Nat}{x:V}(hi:xs[i]?=some x) : ∃ d,ds[i]?=some d∧d.cl0=x.toD:=by
 obtain⟨t,ht⟩:=h
 have hl:i<xs.length:=by
  rcases Nat.lt_or_ge i xs.length with h' | h'
  ·exact h'
  ·rw[List.getElem?_eq_none h']at hi;simp at hi
 have h1:(cl0L ds)[i]?=some x.toD:=by
  rw[← ht,List.getElem?_append_left (by rw[xr];exact hl),Jn,hi];rfl
 rw[ZE]at h1
 cases hd:ds[i]? with
 | none=>rw[hd]at h1;simp at h1
 | some d=>rw[hd]at h1;exact⟨d,rfl,by simpa using h1⟩
theorem za6{ds:List D}{xs:List V}(h:toDL xs <+: cl0L ds){n:Nat}(hn:n≤xs.length):n≤ds.length∧cl0L (ds.take n)=toDL (xs.take n):=by
 obtain⟨t,ht⟩:=h
 have hl:xs.length≤ds.length:=by
  have:=congrArg List.length ht
  simp[xr,yD]at this;omega
 refine⟨by omega,?_⟩
 rw[vT,← ht,List.take_append_of_le_length (by rw[xr];exact hn),Vm]
theorem QK{ds:List D}{ys:List D}(h:ys <+: cl0L ds)(n:Nat):ys.drop n <+: cl0L (ds.drop n):=by
 obtain⟨t,ht⟩:=h
 rw[vq,← ht,List.drop_append]
 exact List.prefix_append _ _
theorem zn5(op:BinOp)(k:IntKind)(a b:Int):intD op k a b=(WX op k a b).map V.toD:=by
 cases op<;>simp only[WX,intD,zC,V.toD]<;>split<;>rfl
theorem zmI(op:BinOp)(a b:List UInt8):znx op a b=(zq3 op a b).map V.toD:=by
 cases op<;>simp only[zq3,znx,zC,Option.map_none,V.toD]
 split<;>rfl
theorem zo5{op:BinOp}{x y z:V}{a b:D}(ha:a.cl0=x.toD)(hb:b.cl0=y.toD)(h:ze op x y=some z):zlG op a b=some z.toD:=by
 unfold ze at h
 split at h
 ·rw[wI ha,wI hb]
  simp only[zlG]
  split at h
  ·next h1=>rw[if_pos h1,zn5,h];rfl
  ·contradiction
 ·rw[Z1 ha,Z1 hb];simp only[zlG];rw[zmI,h];rfl
 ·rw[zeI ha,zeI hb]
  simp only[zlG]
  split at h
  ·next h1=>
   rw[if_pos h1]
   rw[zB]at h
   obtain⟨c,hc,rfl⟩:=h
   rw[hc];rfl
  ·contradiction
 ·contradiction
theorem zqz{op:UnOp}{x z:V}{a:D}(ha:a.cl0=x.toD)(h:unV op x=some z):unD op a=some z.toD:=by
 unfold unV at h
 split at h<;>try contradiction
 all_goals injection h with h;subst h
 ·rw[wI ha];rfl
 ·rw[wI ha];rfl
 ·rw[zh2 ha];rfl
theorem j4{x:V}{b:Bool}{d:D}(h:asBool x=some b)(hd:d.cl0=x.toD):d = .bool b:=by
 unfold asBool at h;split at h<;>try contradiction
 injection h with h;subst h;exact zh2 hd
theorem zbT{x:V}{s:List UInt8}{d:D}(h:zar x=some s)(hd:d.cl0=x.toD):d = .str s:=by
 unfold zar at h;split at h<;>try contradiction
 injection h with h;subst h;exact Z1 hd
theorem zjR{sz:Nat}{x:V}{xs:List V}{d:D}(h:xy sz x=some xs)(hd:d.cl0=x.toD):(∃ g ds,d = .sl g xs.length ds∧cl0L ds=flatD xs)∧yu sz xs=true:=by
 unfold xy at h;split at h<;>try contradiction
 split at h<;>try contradiction
 next hs=>
  injection h with h;subst h
  obtain⟨g,l,rfl,hl⟩:=znp hd
  exact⟨⟨g,l,rfl,hl⟩,hs⟩
theorem zpv{x:V}{q:Nat×List V}{d:D}(h:zqg x=some q)(hd:d.cl0=x.toD):d = .fn q.1 (toDL q.2):=by
 unfold zqg at h;split at h<;>try contradiction
 injection h with h;subst h;exact zqm hd
theorem jP{x c:V}{i:Nat}(h:zh x i=some c):x.parts[i]?=some c:=h
theorem zhi{xs:List V}{s:List UInt8}{ds:List D}(h:kr xs=some s)(hd:cl0L ds=flatD xs):jt ds=some s:=by
 induction xs generalizing s ds with
 | nil=>
  cases ds with
  | nil=>simpa[kr,jt]using h
  | cons d r=>simp[flatD,cl0L]at hd
 | cons x r ih=>
  unfold kr at h
  split at h<;>try contradiction
  next n r' he=>
   injection he with he1 he2;subst he1;subst he2
   rw[zA]at h
   obtain⟨l,hl,h⟩:=h
   injection h with h;subst h
   cases ds with
   | nil=>simp[flatD,cl0L,V.toD,D.cells]at hd
   | cons d s=>
    simp only[flatD,cl0L,V.toD,D.cells,List.cons_append,List.nil_append,List.cons.injEq]at hd
    rw[wI hd.1]
    simp only[jt,ih hl hd.2,zD]
theorem qA{d:Option D}{x:Option V}(h:d.map D.cl0=x.map V.toD){n m:Nat}(k:Kx x n=some m):bnd d n=some m:=by
 cases x with
 | none=>cases d with
  | none=>exact k
  | some d=>simp at h
 | some x=>cases d with
  | none=>simp at h
  | some d=>
   have h:d.cl0=x.toD:=by simpa using h
   unfold Kx at k
   split at k
   ·next e=>simp at e
   ·next e=>
     injection e with e;subst e
     rw[wI h];exact k
   ·contradiction
theorem Yn{d:D}{x:V}(h:d.cl0=x.toD){n i:Nat}(k:xN x n=some i):idx d n=some i:=by
 unfold xN at k
 split at k<;>try contradiction
 rw[wI h];exact k
theorem zn0{d:D}{n i:Nat}(h:idx d n=some i):i<n:=by
 unfold idx at h
 split at h<;>try contradiction
 split at h<;>try contradiction
 injection h with h;omega
theorem getElem?_lt{α:Type}{xs:List α}{i:Nat}{x:α}(h:xs[i]?=some x):i<xs.length:=by
 rcases Nat.lt_or_ge i xs.length with h' | h'
 ·exact h'
 ·rw[List.getElem?_eq_none h']at h;simp at h
theorem yg{ρ:Type}{b:Bool}{k:Option ρ}{r:ρ}(h:tst b k=some r):b=true∧k=some r:=by
 cases b<;>simp_all [tst]
theorem jb{p:PSt}{k:Nat}{c:RowC}(h:J3 p k=some c) : ∃ r,p.rows[k]?=some r∧r.c=c:=by
 unfold J3 at h
 split at h<;>try contradiction
 next f c' hr=>injection h with h;subst h;exact⟨_,hr,rfl⟩
theorem qo{p:PSt}{k:Nat}{c:RowC}(h:zdP p k=some c):p.rows[k]?=some ⟨false,c⟩:=by
 unfold zdP at h
 split at h<;>try contradiction
 next c' hr=>injection h with h;subst h;exact hr
theorem XX{p:PSt}{k:Nat}{r:Row}{fz:Fz}{sz:Nat}{xs:List V}(h:p.rows[k]?=some r)(hc:r.c = .arr fz sz xs):z8 p.rows k=some (sz,xs.length):=by
 obtain⟨f,c⟩:=r
 simp only at hc;subst hc
 simp[z8,h]
section
variable {ρ:Nat→Nat} {τ:Nat→Option Nat} {p:PSt} {st:St} {ρ':Type} {r:ρ'}
theorem Sim.row(hS:Sim ρ τ p st){k:Nat}{c:RowC}(h:J3 p k=some c)(hd:c ≠ .dead) : ∃ o,st.mem (ρ k)=some o∧RW (zv ρ τ p st) c o:=by
 obtain⟨rr,hr,rfl⟩:=jb h
 obtain⟨o,h1,h2⟩:=hS.rows k rr hr
 rcases h1 with h1 | h1
 ·exact(hd h1).elim
 ·exact⟨o,h1,h2⟩
theorem Jg{x:V}{i n:Nat}{K:List PS→Option ρ'}(h:vl x i n K=some r):i+n≤x.parts.length∧K (((x.parts.drop i).take n).map .v)=some r∨n=0∧K []=some r:=by
 induction n generalizing i K with
 | zero=>exact .inr ⟨rfl,h⟩
 | succ n ih=>
  left
  simp only[vl]at h
  rw[zA]at h
  obtain⟨c,hc,h⟩:=h
  have hlt:=getElem?_lt (jP hc)
  have he:(x.parts.drop i).take (n+1)=c::((x.parts.drop (i+1)).take n):=by
   rw[zO hlt,List.take_succ_cons]
   have:x.parts[i]=c:=by have:=jP hc;rw[zL hlt]at this;injection this
   rw[this]
  rcases ih h with⟨h1,h2⟩ | ⟨rfl,h2⟩
  ·refine⟨by omega,?_⟩
   rw[he];exact h2
  ·refine⟨by omega,?_⟩
   rw[he];simpa using h2
theorem Ys{x:V}{n:Nat}(hx:okN n x=true){K:List PS→Option ρ'}(h:vl x 0 n K=some r):K (x.parts.map .v)=some r:=by
 have hl:=yT hx
 rcases Jg h with⟨_,h2⟩ | ⟨rfl,h2⟩
 ·rw[zU,zV (by omega)]at h2;exact h2
 ·rw[List.length_eq_zero_iff.1 hl];exact h2
theorem cells_ok{x:V}{d:D}(h:d.cl0=x.toD):cl0L d.cells=toDL x.parts:=by
 rw[zeQ,h,ja]
theorem jX{c:Cx}{n:Nat}{d:PD}{e:D}(hd:RP c d e){K:List PS→Option ρ'}(h:wU n d K=some r) : ∃ cs,K cs=some r∧cs.length=n∧RSL c cs e.cells∧z6 e.cells=true∧e.cells.length=n:=by
 cases d with
 | agg ps=>
  obtain⟨ds,rfl,h1,h2⟩:=hd
  simp only[wU]at h
  split at h<;>try contradiction
  next hn=>
   have hn:=zJ hn
   exact⟨ps,h,hn,h1,h2,by simp only[D.cells];rw[← Ye h1,hn]⟩
 | s q=>
  cases q
  case v x=>
   simp only[wU]at h
   obtain⟨h1,h2⟩:=yg h
   have hd:e.cl0=x.toD:=hd
   have hc:=cells_ok hd
   refine⟨_,Ys h1 h2,by simp[yT h1],zjX hc,wX hc (xF h1),?_⟩
   have:=congrArg List.length hc
   rw[yD,xr,yT h1]at this;exact this
  case el cs=>simp[wU]at h
  case elx sz x off=>simp[wU]at h
  case own id sz xs=>
   simp only[wU]at h
   split at h<;>try contradiction
   next hn=>
    have hn:=zJ hn;subst hn
    obtain⟨g,ds,rfl,h1⟩:=hd
    exact⟨_,h,rfl,⟨⟨g,ds,rfl,h1⟩,trivial⟩,rfl,rfl⟩
  case full xs=>
   simp only[wU]at h
   split at h<;>try contradiction
   next hn=>
    have hn:=zJ hn;subst hn
    obtain⟨ds,rfl,h1⟩:=hd
    exact⟨_,h,rfl,⟨⟨ds,rfl,h1⟩,trivial⟩,rfl,rfl⟩
  case ptr k off=>
   simp only[wU]at h
   split at h<;>try contradiction
   next hn=>
    have hn:=zJ hn;subst hn
    obtain⟨h1,rfl⟩:=hd
    exact⟨_,h,rfl,⟨⟨h1,rfl⟩,trivial⟩,rfl,rfl⟩
  case ptrA k sz i off=>
   simp only[wU]at h
   split at h<;>try contradiction
   next hn=>
    have hn:=zJ hn;subst hn
    obtain⟨h1,rfl,h2⟩:=hd
    exact⟨_,h,rfl,⟨⟨h1,rfl,h2⟩,trivial⟩,rfl,rfl⟩
  case ref k sz off n' cp z=>
   simp only[wU]at h
   split at h<;>try contradiction
   next hn=>
    have hn:=zJ hn;subst hn
    obtain⟨h0,h1,⟨h2,h3⟩ | ⟨h2,h3,h3'⟩,h4⟩:=hd
    ·subst h2
     exact⟨_,h,rfl,⟨⟨h0,h1,.inl ⟨rfl,h3⟩,h4⟩,trivial⟩,rfl,rfl⟩
    ·subst h3
     exact⟨_,h,rfl,⟨⟨h0,h1,.inr ⟨h2,rfl,h3'⟩,h4⟩,trivial⟩,rfl,rfl⟩
  case fn f cap=>
   simp only[wU]at h
   split at h<;>try contradiction
   next hn=>
    have hn:=zJ hn;subst hn
    obtain⟨ds,rfl,h1⟩:=hd
    exact⟨_,h,rfl,⟨⟨ds,rfl,h1⟩,trivial⟩,rfl,rfl⟩
theorem VJ(a b:List D):z6 (a++b)=(z6 a && z6 b):=by
 induction a with
 | nil=>simp[z6]
 | cons x r ih=>simp[z6,ih,Bool.and_assoc]
theorem Yo{ds:List D}(h:z6 ds=true)(n:Nat):z6 (ds.take n)=true:=by
 induction ds generalizing n with
 | nil=>simp[z6]
 | cons d r ih=>cases n with
  | zero=>rfl
  | succ n=>simp only[z6,zG,List.take_succ_cons]at h ⊢;exact⟨h.1,ih h.2 n⟩
theorem Wr{ds:List D}(h:z6 ds=true)(n:Nat):z6 (ds.drop n)=true:=by
 induction ds generalizing n with
 | nil=>simp[z6]
 | cons d r ih=>cases n with
  | zero=>exact h
  | succ n=>simp only[z6,zG,List.drop_succ_cons]at h ⊢;exact ih h.2 n
theorem Za{ds es:List D}(h:z6 ds=true)(k:z6 es=true)(o:Nat):z6 (vQ ds o es)=true:=by
 simp only[vQ,VJ,Yo h,k,Wr h,Bool.and_self]
theorem ziz{z:List D}(h:z6 z=true)(n:Nat):z6 (rep n z)=true:=by
 induction n with
 | zero=>rfl
 | succ n ih=>simp only[rep,List.replicate_succ,List.flatten_cons,VJ,h,Bool.true_and];exact ih
/-- a struct that is built -/
theorem zkO{E:Env}{gl:Gl}(hg:GlR E gl)(hS:Sim ρ τ p st){ps:List (Nat×Nat×X)}{cells:List PS}{ds:List D}(hc:RSL (zv ρ τ p st) cells ds)(h1:z6 ds=true){K:List PS→Option ρ'}(h:Qf gl p cells ps K=some r) :
  ∃ cs,K cs=some r ∧ ∃ l es,Ev.evP E st.tm ps=some l∧Jm ds l=some es∧RSL (zv ρ τ p st) cs es∧z6 es=true:=by
 induction ps generalizing cells ds with
 | nil=>exact⟨cells,h,[],ds,rfl,rfl,hc,h1⟩
 | cons q rest ih=>
  obtain⟨o,n,x⟩:=q
  simp only[Qf]at h
  split at h<;>try contradiction
  split at h<;>try contradiction
  next d hd _ hle=>
   have hle:=zT hle
   obtain⟨e,he,hr⟩:=yj hg hS hd
   obtain⟨cs,h2,h3,h4,h5,h6⟩:=jX hr h
   obtain⟨cs',h7,l,es,h8,h9,h10,h11⟩:=ih (zfx hc h4 o) (Za h1 h5 o) h2
   refine⟨cs',h7,(o,n,e)::l,es,by simp[Ev.evP,he,h8],?_,h10,h11⟩
   simp only[Jm]
   rw[if_pos ⟨h6,by rw[← Ye hc];exact hle,h5⟩]
   exact h9
theorem XW{sz:Nat}{els:List V}(hs:yu sz els=true){ds es:List D}(hd:cl0L ds=flatD els){i f n:Nat}{e x:V}(hi:els[i]?=some e)(hes:cl0L es=toDL x.parts)(hx:x.parts.length=n)(hf:f+n≤sz) :
  cl0L (vQ ds (i * sz+f) es)=flatD (els.take i)++((toDL e.parts).take f++toDL x.parts++(toDL e.parts).drop (f+n))++flatD (els.drop (i+1)):=by
 have hlt:=getElem?_lt hi
 have hel:=yT (ZG hs hi)
 have h1:flatD els=flatD (els.take i)++(toDL e.parts++flatD (els.drop (i+1))):=by
  rw[← zcu hi,← we,List.take_append_drop]
 have hl1:(flatD (els.take i)).length=i * sz:=by rw[yY (Zi hs i),List.length_take,Nat.min_eq_left (by omega)]
 have hesl:es.length=n:=by have:=congrArg List.length hes;rw[yD,xr,hx]at this;exact this
 have hpl:(toDL e.parts).length=sz:=by rw[xr,hel]
 simp only[vQ,vt,vT,vq,hd,hes,hesl]
 rw[h1]
 rw[List.take_append,zV (by omega),hl1,Nat.add_sub_cancel_left,List.take_append,hpl,show f - sz=0 by omega,List.take_zero,List.append_nil]
 rw[List.drop_append,List.drop_of_length_le (by omega),List.nil_append,hl1,show i * sz+f+n - i * sz=f+n by omega,List.drop_append,hpl,show f+n - sz=0 by omega,zU]
 simp only[List.append_assoc]
theorem Vj{els:List V}{i:Nat}{e x:V}(hi:els[i]?=some e):flatD (els.set i x)=flatD (els.take i)++toDL x.parts++flatD (els.drop (i+1)):=by
 have hlt:=getElem?_lt hi
 rw[List.set_eq_take_append_cons_drop,if_pos hlt,we]
 simp[flatD,ja]
theorem one_cell{y c:V}(hx:okN 1 y=true)(h:zh y 0=some c):y.parts=[c]∧c.one=true∧c.parts=[c]:=by
 have hl:=yT hx
 have h:=jP h
 have hp:y.parts=[c]:=by
  cases hxp:y.parts with
  | nil=>rw[hxp]at hl;simp at hl
  | cons a s=>
   rw[hxp]at hl h
   cases s with
   | nil=>simp at h;rw[h]
   | cons b s=>simp at hl
 have hone:c.one=true:=by have:=xF hx;rw[hp]at this;simpa[yo]using this
 refine⟨hp,hone,?_⟩
 cases c<;>first | rfl | simp[V.one]at hone
theorem jr(a b:List V):yo (a++b)=(yo a && yo b):=by
 induction a with
 | nil=>simp[yo]
 | cons y r ih=>simp[yo,ih,Bool.and_assoc]
theorem Z7{a:List V}(h:yo a=true)(k:Nat):yo (a.take k)=true∧yo (a.drop k)=true:=by
 have h2:yo (a.take k++a.drop k)=true:=by rw[List.take_append_drop];exact h
 rw[jr,zG]at h2;exact h2
theorem zqn{sz:Nat}{els:List V}(hs:yu sz els=true)(hz:0<sz){ds es:List D}(hd:cl0L ds=flatD els){o n:Nat}{x:V}(hes:cl0L es=toDL x.parts)(ho:o / sz<els.length){K:List V→Option ρ'}(h:elK sz els o n x K=some r) :
  ∃ els',K els'=some r∧els'.length=els.length∧yu sz els'=true∧cl0L (vQ ds o es)=flatD els'∧es.length=n∧o+n≤ds.length∧yo x.parts=true:=by
 have hdl:ds.length=els.length * sz:=by have:=congrArg List.length hd;rw[yD,yY hs]at this;exact this
 have hesl:es.length=x.parts.length:=by have:=congrArg List.length hes;rw[yD,xr]at this;exact this
 obtain⟨e,he⟩ : ∃ e,els[o / sz]?=some e:=⟨_,zL ho⟩
 have hdm:o / sz * sz+o % sz=o:=by rw[Nat.mul_comm];exact Nat.div_add_mod o sz
 have hmul:(o / sz+1) * sz≤els.length * sz:=zW sz ho
 have hmul':(o / sz+1) * sz=o / sz * sz+sz:=by rw[Nat.add_mul,Nat.one_mul]
 have hel:=yT (ZG hs he)
 have hpl:(toDL e.parts).length=sz:=by rw[xr,hel]
 unfold elK at h
 split at h
 ·next hw=>
  simp only[zG]at hw
  have hn:=zJ hw.1
  have h0:=zJ hw.2
  subst hn
  have key : ∀ y:V,y.parts=x.parts→okN n x=true→cl0L (vQ ds o es)=flatD (els.set (o / n) y):=by
   intro y hy hx
   have:=XW hs hd (i:=o / n) (f:=o % n) (n:=n) he hes (yT hx) (by omega)
   rw[hdm]at this
   rw[this,Vj he,h0,List.take_zero,List.nil_append,Nat.zero_add,List.drop_of_length_le (by omega),List.append_nil,hy]
  split at h
  ·next h1=>
   have h1:=zJ h1
   obtain⟨hx,h⟩:=yg h
   rw[zA]at h
   obtain⟨c,hc,h⟩:=h
   have hx':okN n x=true:=by rw[h1];exact hx
   have hp:x.parts=[c]:=by
    have hl:=yT hx
    have hc:=jP hc
    match hxp:x.parts,hl with
    | [a],_=>rw[hxp]at hc;simp at hc;rw[hc]
   have hone:c.one=true:=by have:=xF hx;rw[hp]at this;simpa[yo]using this
   have hcp:c.parts=[c]:=by cases c<;>simp_all [V.parts,V.one]
   refine⟨_,h,by simp,YV hs (Yt ?_ ?_),key c (by rw[hcp,hp]) hx',by rw[hesl,yT hx'],by omega,xF hx⟩
   ·rw[hcp];exact h1.symm
   ·rw[hcp,← hp];exact xF hx
  ·obtain⟨hx,h⟩:=yg h
   exact⟨_,h,by simp,YV hs hx,key x rfl hx,by rw[hesl,yT hx],by omega,xF hx⟩
 ·split at h<;>try contradiction
  split at h<;>try contradiction
  next xs hxs=>
   split at h<;>try contradiction
   next hle=>
    simp only[zG]at hle
    have hle1:=zT hle.1
    obtain⟨hx,h⟩:=yg h
    rw[he]at hxs;injection hxs with hxs;subst hxs
    have hel':xs.length=sz:=hel
    have hxl:=yT hx
    refine⟨_,h,by simp,YV hs (Yt ?_ ?_),?_,by rw[hesl,hxl],by omega,xF hx⟩
    ·show(xM xs (o % sz) x.parts).length=sz
     simp only[xM,zZ,List.length_take,List.length_drop,hxl];omega
    ·have:yo xs=true:=xF (ZG hs he)
     show yo (xM xs (o % sz) x.parts)=true
     simp only[xM,jr,(Z7 this _).1,(Z7 this _).2,xF hx,Bool.and_self]
    ·have:=XW hs hd (i:=o / sz) (f:=o % sz) (n:=n) he hes hxl (by omega)
     rw[hdm]at this
     rw[this,Vj he]
     show _=_++toDL (xM xs (o % sz) x.parts)++_
     simp only[xM,ko,Vm,jZ,hxl]
     rfl
theorem zoN{E:Env}{gl:Gl}(hg:GlR E gl)(hS:Sim ρ τ p st){sz:Nat}(hz:0<sz){ps:List (Nat×Nat×X)}{els:List V}{ds:List D}(hs:yu sz els=true)(hd:cl0L ds=flatD els)(h1:z6 ds=true){K:List V→Option ρ'}(h:ziv gl p sz els ps K=some r) :
  ∃ els',K els'=some r∧els'.length=els.length∧yu sz els'=true ∧ ∃ l es,Ev.evP E st.tm ps=some l∧Jm ds l=some es∧cl0L es=flatD els'∧z6 es=true:=by
 induction ps generalizing els ds with
 | nil=>exact⟨els,h,rfl,hs,[],ds,rfl,rfl,hd,h1⟩
 | cons q rest ih=>
  obtain⟨o,n,x⟩:=q
  simp only[ziv]at h
  split at h<;>try contradiction
  split at h<;>try contradiction
  split at h<;>try contradiction
  next d hd' _ y hy _ hlt=>
   have hlt:o / sz<els.length:=zT hlt
   obtain⟨e,he,hr⟩:=yj hg hS hd'
   have hey:=PD.pure_ok hr hy
   have hec:=cells_ok hey
   obtain⟨els1,h2,h3,h4,h5,h6,h7,h8⟩:=zqn hs hz hd hec hlt h
   have ho:=wX hec h8
   obtain⟨els',h9,h10,h11,l,es,h12,h13,h14,h15⟩:=ih h4 h5 (Za h1 ho o) h2
   refine⟨els',h9,by omega,h11,(o,n,e)::l,es,by simp[Ev.evP,he,h12],?_,h14,h15⟩
   simp only[Jm]
   rw[if_pos ⟨h6,h7,ho⟩]
   exact h13
end
end Go.Ev
end
