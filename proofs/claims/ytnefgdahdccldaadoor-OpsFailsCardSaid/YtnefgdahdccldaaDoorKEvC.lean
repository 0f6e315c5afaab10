/- The machines Ev and Pv, part 3: an abstract machine over the translated code, proved sound once. -/
import Derived.Test.YtnefgdahdccldaaDoorKEvB
import Derived.Below
set_option linter.all false
open Option renaming bind_eq_some_iff->zA,map_eq_some_iff->zB,map_some->zC,bind_some->zD
open Bool renaming false_eq_true->zF,and_eq_true->zG,not_true->zH
open Nat renaming eq_of_beq_eq_true->zJ,le_refl->zR,le_of_ble_eq_true->zT,mul_le_mul_right->zW
open List renaming getElem?_eq_getElem->zL,getElem?_cons_zero->zM,getElem?_cons_succ->zN,drop_eq_getElem_cons->zO,mem_cons_of_mem->zP,mem_cons->zS,drop_zero->zU,take_of_length_le->zV,length_append->zZ
noncomputable section
namespace Go.Ev
section
def zz(E:Env):Cf:=fun f ds st=>open Classical in
 if h : ∃ r,∃ n,call E n f ds st=some r then some h.choose else none
theorem ztr{E:Env}{f:Nat}{ds:List D}{st:St}{n m:Nat}{r q:Out×St}(h:call E n f ds st=some r)(k:call E m f ds st=some q):r=q:=by have a:=xj E (Nat.le_max_left n m) f ds st r h;have b:=xj E (Nat.le_max_right n m) f ds st q k;rw[a]at b;injection b
theorem wJ{E:Env}{f:Nat}{ds:List D}{st:St}{r:Out×St}:zz E f ds st=some r ↔ ∃ n,call E n f ds st=some r:=by
 unfold zz;constructor
 ·intro h;split at h
  ·next hx=>injection h with h;rw[<- h];exact hx.choose_spec
  ·simp at h
 ·rintro⟨n,h⟩;have hx : ∃ r,∃ n,call E n f ds st=some r:=⟨r,n,h⟩
  rw[dif_pos hx];obtain⟨m,hm⟩:=hx.choose_spec;rw[ztr hm h]
theorem zv2(E:Env)(n:Nat):zcg (call E n) (zz E):=fun _ _ _ _ h=>wJ.2 ⟨n,h⟩
def execL(E:Env)(c:C)(st:St):Option (Ex×St):=open Classical in
 if h : ∃ r,∃ n,exec E (zz E) n c st=some r then some h.choose else none
theorem zt7{E:Env}{cf:Cf}{c:C}{st:St}{n m:Nat}{r q:Ex×St}(h:exec E cf n c st=some r)(k:exec E cf m c st=some q):r=q:=by have a:=kU (cf:=cf) (fun _ _ _ _ h=>h) (Nat.le_max_left n m) h;have b:=kU (cf:=cf) (fun _ _ _ _ h=>h) (Nat.le_max_right n m) k;rw[a]at b;injection b
theorem execL_iff{E:Env}{c:C}{st:St}{r:Ex×St}:execL E c st=some r ↔ ∃ n,exec E (zz E) n c st=some r:=by
 unfold execL;constructor
 ·intro h;split at h
  ·next hx=>injection h with h;rw[<- h];exact hx.choose_spec
  ·simp at h
 ·rintro⟨n,h⟩;have hx : ∃ r,∃ n,exec E (zz E) n c st=some r:=⟨r,n,h⟩
  rw[dif_pos hx];obtain⟨m,hm⟩:=hx.choose_spec;rw[zt7 hm h]
theorem Zk{α:Type}{x y:Option α}(h : ∀ r,x=some r↔y=some r):x=y:=by
 cases x with
 | none=>
  cases y with
  | none=>rfl
  | some b=>have:=(h b).2 rfl;simp at this
 | some a=>exact((h a).1 rfl).symm
section
variable {E:Env}
theorem Kn{c:C}{st:St}{x:Option (Ex×St)}(h : ∀ n,exec E (zz E) n c st=x):execL E c st=x:=
 Zk fun r=>execL_iff.trans ⟨fun⟨n,hn⟩=>(h n).symm.trans hn,fun hx=>⟨0,(h 0).trans hx⟩⟩
theorem zq7(st:St):execL E .skip st=some (.nrm,st):=Kn fun _=>rfl
theorem zq8(id:Nat)(st:St):execL E (.exit id) st=some (.ext id,st):=Kn fun _=>rfl
theorem zt3(st:St):execL E .ret st=some (.ret,st):=Kn fun _=>rfl
theorem ztD(ops:List OpC)(keep:List Nat)(st:St):execL E (.reg ops keep) st=match runOps E (zz E) ops st with
  | some (.ok st')=>some (.nrm,{ st' with tm:=kept keep st'.tm })
  | some (.pan d st')=>some (.pan d,st')
  | none=>none:=Kn fun _=>rfl
theorem zeb(a0 a1 b1 b:List OpC)(keep:List Nat)(st:St):execL E (.drw a0 a1 b1 b keep) st=match runDrw E (zz E) a0 a1 b1 b st with
  | some (.ok st')=>some (.nrm,{ st' with tm:=kept keep st'.tm })
  | some (.pan d st')=>some (.pan d,st')
  | none=>none:=Kn fun _=>rfl
theorem zdv{n m:Nat}(h:n<=m){c:C}{st:St}{r:Ex×St}(k:exec E (zz E) n c st=some r):exec E (zz E) m c st=some r:=kU (fun _ _ _ _ h=>h) h k
theorem zdF(a b:C)(st:St):execL E (.seq a b) st=match execL E a st with
  | some (.nrm,s)=>execL E b s
  | r=>r:=by
 refine Zk fun r=>⟨fun h => ?_,fun h => ?_⟩
 ·obtain⟨n,hn⟩:=execL_iff.1 h;simp only[exec]at hn;split at hn
  ·next s he=>rw[execL_iff.2 ⟨n,he⟩];exact execL_iff.2 ⟨n,hn⟩
  ·next hne=>
   rw[execL_iff.2 ⟨n,hn⟩];obtain⟨e,s⟩:=r;cases e with
   | nrm=>exact(hne s hn).elim
   | _=>rfl
 ·split at h
  ·next s he=>
   obtain⟨n,hn⟩:=execL_iff.1 he;obtain⟨m,hm⟩:=execL_iff.1 h;refine execL_iff.2 ⟨max n m,?_⟩;simp only[exec];rw[zdv (Nat.le_max_left n m) hn];exact zdv (Nat.le_max_right n m) hm
  ·next hne=>
   obtain⟨n,hn⟩:=execL_iff.1 h;refine execL_iff.2 ⟨n,?_⟩;simp only[exec];rw[hn];obtain⟨e,s⟩:=r;cases e with
   | nrm=>exact(hne s h).elim
   | _=>rfl
theorem ziZ(c:X)(a b:C)(st:St):execL E (.cond c a b) st=match ev E st.tm c with
  | some (.bool true)=>execL E a st
  | some (.bool false)=>execL E b st
  | _=>none:=by
 refine Zk fun r=>⟨fun h => ?_,fun h => ?_⟩
 ·obtain⟨n,hn⟩:=execL_iff.1 h;simp only[exec]at hn;split at hn
  ·next hb=>rw[hb];exact execL_iff.2 ⟨n,hn⟩
  ·next hb=>rw[hb];exact execL_iff.2 ⟨n,hn⟩
  ·simp at hn
 ·split at h
  ·next hb=>
   obtain⟨n,hn⟩:=execL_iff.1 h;exact execL_iff.2 ⟨n,by simp only[exec];rw[hb];exact hn⟩
  ·next hb=>
   obtain⟨n,hn⟩:=execL_iff.1 h;exact execL_iff.2 ⟨n,by simp only[exec];rw[hb];exact hn⟩
  ·simp at h
def zmN(id:Nat):Option (Ex×St)->Option (Ex×St)
 | some (.ext i,st')=>if i=id then some (.nrm,st')else some (.ext i,st')
 | r=>r
theorem KK(id:Nat)(c:C)(st:St):execL E (.blk id c) st=zmN id (execL E c st):=by
 have key : ∀ n,exec E (zz E) n (.blk id c) st=zmN id (exec E (zz E) n c st):=by intro n;simp only[exec,zmN];split<;>simp_all
 refine Zk fun r=>⟨fun h => ?_,fun h => ?_⟩
 ·obtain⟨n,hn⟩:=execL_iff.1 h;rw[key]at hn;cases hc:exec E (zz E) n c st with
  | none=>rw[hc]at hn;simp[zmN]at hn
  | some q=>rw[execL_iff.2 ⟨n,hc⟩,<- hc];exact hn
 ·cases hc:execL E c st with
  | none=>rw[hc]at h;simp[zmN]at h
  | some q=>obtain⟨n,hn⟩:=execL_iff.1 hc;exact execL_iff.2 ⟨n,by rw[key,hn,<- hc];exact h⟩
theorem zh3(c:C)(st:St):execL E (.loop c) st=match execL E c st with
  | some (.nrm,s)=>execL E (.loop c) s
  | r=>r:=by
 refine Zk fun r=>⟨fun h => ?_,fun h => ?_⟩
 ·obtain⟨n,hn⟩:=execL_iff.1 h;simp only[exec]at hn;cases n with
  | zero=>simp[loopN]at hn
  | succ n=>
   simp only[loopN]at hn;split at hn
   ·next s he=>
    rw[execL_iff.2 ⟨n+1,he⟩];refine execL_iff.2 ⟨n+1,?_⟩;simp only[exec];exact VZ (fun _ _ h=>h) (Nat.le_succ n) hn
   ·next hne=>
    rw[execL_iff.2 ⟨n+1,hn⟩];obtain⟨e,s⟩:=r;cases e with
    | nrm=>exact(hne s hn).elim
    | _=>rfl
 ·split at h
  ·next s he=>
   obtain⟨n,hn⟩:=execL_iff.1 he;obtain⟨m,hm⟩:=execL_iff.1 h;refine execL_iff.2 ⟨max n m+1,?_⟩;simp only[exec,loopN];rw[zdv (by omega:n<=max n m+1) hn];simp only[exec]at hm;exact VZ (fun st r h=>zdv (by omega:m<=max n m+1) h) (by omega) hm
  ·next hne=>
   obtain⟨n,hn⟩:=execL_iff.1 h;refine execL_iff.2 ⟨n+1,?_⟩;simp only[exec,loopN];rw[zdv (by omega:n<=n+1) hn];obtain⟨e,s⟩:=r;cases e with
   | nrm=>exact(hne s h).elim
   | _=>rfl
theorem zyf{st:St}{o:O}{r:Rv}(h:opX E (zz E) st o=some r) : ∃ n,opX E (call E n) st o=some r:=by
 cases o;case call f xs=>simp only[opX,zA,zB]at h ⊢;obtain⟨l,hl,q,hq,h⟩:=h;obtain⟨n,hn⟩:=wJ.1 hq;exact⟨n,l,hl,q,hn,h⟩
 case callv g xs=>
  simp only[opX]at h ⊢;split at h
  ·split at h<;>try contradiction
   next hlt=>simp only[zBu hlt];simp only[zA,zB]at h ⊢;obtain⟨l,hl,q,hq,h⟩:=h;obtain⟨n,hn⟩:=wJ.1 hq;exact⟨n,l,hl,q,hn,h⟩
  ·simp at h
 all_goals exact⟨0,h⟩
theorem Qz{st:St}{o:OpC}{r:Rs}(h:opC E (zz E) o st=some r) : ∃ n,opC E (call E n) o st=some r:=by
 unfold opC at h ⊢;split at h
 ·simp only[opR,zB]at h ⊢;obtain⟨q,hq,h⟩:=h;obtain⟨n,hn⟩:=zyf hq;exact⟨n,q,hn,h⟩
 ·exact⟨0,h⟩
 ·exact⟨0,h⟩
theorem Qu{l:List OpC}{st:St}{r:Rs}(h:runOps E (zz E) l st=some r) : ∃ n,runOps E (call E n) l st=some r:=by
 induction l generalizing st with
 | nil=>exact⟨0,h⟩
 | cons o l ih=>
  simp only[runOps]at h;split at h
  ·next s he=>
   obtain⟨n,hn⟩:=Qz he;obtain⟨m,hm⟩:=ih h;refine⟨max n m,?_⟩;simp only[runOps];rw[km (xj E (Nat.le_max_left n m)) hn];exact qh (xj E (Nat.le_max_right n m)) hm
  ·next hne=>
   obtain⟨n,hn⟩:=Qz h;refine⟨n,?_⟩;simp only[runOps];rw[hn];cases r with
   | ok s=>exact(hne s h).elim
   | pan d s=>rfl
theorem zlH{l:List OpC}{st s:St}(h:runStill E (zz E) l st=some s) : ∃ n,runStill E (call E n) l st=some s:=by
 induction l generalizing st with
 | nil=>exact⟨0,h⟩
 | cons o l ih=>
  simp only[runStill]at h;split at h
  ·next s' he=>
   split at h
   ·next hm'=>
    obtain⟨n,hn⟩:=Qz he;obtain⟨m,hm⟩:=ih h;refine⟨max n m,?_⟩;simp only[runStill];rw[km (xj E (Nat.le_max_left n m)) hn];simp only[hm',zBv];exact Yn (xj E (Nat.le_max_right n m)) hm
   ·simp at h
  ·simp at h
theorem znH{l:List OpC}{st:St}{q:D×St}(h:panLast E (zz E) l st=some q) : ∃ n,panLast E (call E n) l st=some q:=by
 induction l generalizing st with
 | nil=>exact⟨0,h⟩
 | cons o l ih=>
  simp only[panLast]at h;split at h
  ·next s' he=>
   split at h
   ·next hm'=>
    obtain⟨n,hn⟩:=Qz he;obtain⟨m,hm⟩:=ih h;refine⟨max n m,?_⟩;simp only[panLast];rw[km (xj E (Nat.le_max_left n m)) hn];simp only[hm',zBv];exact Qb (xj E (Nat.le_max_right n m)) hm
   ·simp at h
  ·next d s' he=>
   obtain⟨n,hn⟩:=Qz he;exact⟨n,by simp only[panLast];rw[hn];exact h⟩
  ·simp at h
theorem zlk{Y Z l:List OpC}{st:St}{r:Rs}(h:runFl E (zz E) Y Z l st=some r) : ∃ n,runFl E (call E n) Y Z l st=some r:=by
 induction l generalizing st with
 | nil=>exact⟨0,h⟩
 | cons o l ih=>
  simp only[runFl]at h;split at h
  ·next s' he=>
   split at h
   ·next hm'=>
    obtain⟨n,hn⟩:=Qz he;obtain⟨m,hm⟩:=ih h;refine⟨max n m,?_⟩;simp only[runFl];rw[km (xj E (Nat.le_max_left n m)) hn];simp only;rw[zBu hm'];exact X5 (xj E (Nat.le_max_right n m)) hm
   ·simp at h
  ·next d s' he=>
   obtain⟨n,hn⟩:=Qz he;exact⟨n,by simp only[runFl];rw[hn];exact h⟩
  ·simp at h
theorem zhE{a0 a1 b1 b:List OpC}{st:St}{r:Rs}(h:runDrw E (zz E) a0 a1 b1 b st=some r) : ∃ n,runDrw E (call E n) a0 a1 b1 b st=some r:=by
 unfold runDrw at h;split at h
 ·next s1 h1=>
  obtain⟨n1,e1⟩:=Qu h1;split at h
  ·next s2 h2=>
   obtain⟨n2,e2⟩:=zlH h2;unfold runB at h;split at h
   ·next s3 h3=>
    obtain⟨n3,e3⟩:=zlk h3;obtain⟨n4,e4⟩:=Qu h;refine⟨max (max n1 n2) (max n3 n4),?_⟩;unfold runDrw;rw[qh (xj E (by omega)) e1];simp only;rw[Yn (xj E (by omega)) e2];simp only[runB];rw[X5 (xj E (by omega)) e3];exact qh (xj E (by omega)) e4
   ·next hne=>
    obtain⟨n3,e3⟩:=zlk h;refine⟨max (max n1 n2) n3,?_⟩;unfold runDrw;rw[qh (xj E (by omega)) e1];simp only;rw[Yn (xj E (by omega)) e2];simp only[runB];rw[X5 (xj E (by omega)) e3];cases r with
    | ok s3=>exact(hne s3 h).elim
    | pan d s=>rfl
  ·simp only[zB]at h;obtain⟨q,hq,rfl⟩:=h;obtain⟨n2,e2⟩:=znH hq;refine⟨max n1 n2,?_⟩;unfold runDrw;rw[qh (xj E (by omega)) e1];have:=Qb (xj E (show n2<=max n1 n2 by omega)) e2;simp only;rw[WV this,this];rfl
 ·simp at h
theorem zvz{k:Nat}{c:C}{st:St}{r:Ex×St}(h:exec E (zz E) k c st=some r) : ∃ n,exec E (call E n) n c st=some r:=by
 have up : ∀ {n m:Nat} {c:C} {st:St} {r:Ex×St},n<=m->exec E (call E n) n c st=some r->exec E (call E m) m c st=some r:=
  fun h k=>kU (xj E h) h k
 induction c generalizing st r with
 | skip=>exact⟨0,h⟩
 | reg ops keep=>
  simp only[exec]at h ⊢;split at h
  ·next s he=>obtain⟨n,hn⟩:=Qu he;exact⟨n,by rw[hn];exact h⟩
  ·next d s he=>obtain⟨n,hn⟩:=Qu he;exact⟨n,by rw[hn];exact h⟩
  ·simp at h
 | drw a0 a1 b1 b keep=>
  simp only[exec]at h ⊢;split at h
  ·next s he=>obtain⟨n,hn⟩:=zhE he;exact⟨n,by rw[hn];exact h⟩
  ·next d s he=>obtain⟨n,hn⟩:=zhE he;exact⟨n,by rw[hn];exact h⟩
  ·simp at h
 | seq a b iha ihb=>
  simp only[exec]at h;split at h
  ·next s he=>
   obtain⟨n,hn⟩:=iha he;obtain⟨m,hm⟩:=ihb h;refine⟨max n m,?_⟩;simp only[exec];rw[up (Nat.le_max_left n m) hn];exact up (Nat.le_max_right n m) hm
  ·next hne=>
   obtain⟨n,hn⟩:=iha h;refine⟨n,?_⟩;simp only[exec];rw[hn];obtain⟨e,s⟩:=r;cases e with
   | nrm=>exact(hne s h).elim
   | _=>rfl
 | cond c a b iha ihb=>
  simp only[exec]at h ⊢;split at h
  ·next hb=>obtain⟨n,hn⟩:=iha h;exact⟨n,hn⟩
  ·next hb=>obtain⟨n,hn⟩:=ihb h;exact⟨n,hn⟩
  ·simp at h
 | blk id c ih=>
  simp only[exec]at h;split at h
  ·next i s he=>
   obtain⟨n,hn⟩:=ih he;exact⟨n,by simp only[exec];rw[hn];exact h⟩
  ·next hne=>
   obtain⟨n,hn⟩:=ih h;refine⟨n,?_⟩;simp only[exec];rw[hn];obtain⟨e,s⟩:=r;cases e with
   | ext i=>exact(hne i s h).elim
   | _=>rfl
 | loop c ih=>
  simp only[exec]at h;have key : ∀ j {st r},loopN (exec E (zz E) k c) j st=some r -> ∃ n,exec E (call E n) n (.loop c) st=some r:=by
   intro j;induction j with
   | zero=>intro st r h;simp[loopN]at h
   | succ j ihj=>
    intro st r h;simp only[loopN]at h;split at h
    ·next s he=>
     obtain⟨n,hn⟩:=ih he;obtain⟨m,hm⟩:=ihj h;refine⟨max n m+1,?_⟩;simp only[exec,loopN];rw[up (by omega:n<=max n m+1) hn];simp only[exec]at hm;exact VZ (fun st r h=>up (by omega:m<=max n m+1) h) (by omega) hm
    ·next hne=>
     obtain⟨n,hn⟩:=ih h;refine⟨n+1,?_⟩;simp only[exec,loopN];rw[up (by omega:n<=n+1) hn];obtain⟨e,s⟩:=r;cases e with
     | nrm=>exact(hne s h).elim
     | _=>rfl
  exact key k h
 | exit id=>exact⟨0,h⟩
 | ret=>exact⟨0,h⟩
theorem J9{f:Nat}(hx:E.ext f=none)(hd:E.dfr f=none){fn:Fn}(hf:E.fn f=some fn)(ds:List D)(st:St):zz E f ds st=match execL E fn.body (enter fn ds st)with
  | some (.nrm,s) | some (.ret,s)=>jB f fn ds st s
  | some (.pan d,s)=>some (.pan (leave fn (home fn ds st) s d).1,(leave fn (home fn ds st) s d).2)
  | some (.ext i,s)=>if i=zo/\zo<=f then(get s.tm zo).map fun d=>((.ret (leave fn (home fn ds st) s (.tup [.bool false,d])).1,(leave fn (home fn ds st) s (.tup [.bool false,d])).2):Out×St)else none
  | none=>none:=by
 have key : ∀ n r,exec E (call E n) n fn.body (enter fn ds st)=some r->execL E fn.body (enter fn ds st)=some r:=
  fun n r h=>execL_iff.2 ⟨n,kU (zv2 E n) (zR n) h⟩
 have fin : ∀ cf n w,xK E cf n f fn ds st w=match w with
   | some (.nrm,s) | some (.ret,s)=>jB f fn ds st s
   | some (.pan d,s)=>some (.pan (leave fn (home fn ds st) s d).1,(leave fn (home fn ds st) s d).2)
   | some (.ext i,s)=>if i=zo/\zo<=f then(get s.tm zo).map fun d=>((.ret (leave fn (home fn ds st) s (.tup [.bool false,d])).1,(leave fn (home fn ds st) s (.tup [.bool false,d])).2):Out×St)else none
   | none=>none:=by
  intro cf n w
  match w with
  | none=>rfl
  | some (.ext i,s)=>rfl
  | some (.nrm,s)=>simp only[xK,hd]
  | some (.ret,s)=>simp only[xK,hd]
  | some (.pan d,s)=>simp only[xK,hd]
 refine Zk fun r=>⟨fun h => ?_,fun h => ?_⟩
 ·obtain⟨n,hn⟩:=wJ.1 h;cases n with
  | zero=>simp[call]at hn
  | succ n=>
   simp only[call,hx,hf,zD]at hn;cases he:exec E (call E n) n fn.body (enter fn ds st)with
   | none=>rw[he]at hn;simp[xK]at hn
   | some q=>rw[key n q he];rw[he,fin]at hn;exact hn
 ·cases he:execL E fn.body (enter fn ds st)with
  | none=>rw[he]at h;simp at h
  | some q=>obtain⟨k,hk⟩:=execL_iff.1 he;obtain⟨n,hn⟩:=zvz hk;refine wJ.2 ⟨n+1,?_⟩;simp only[call,hx,hf,zD];rw[hn,fin];rw[he]at h;exact h
theorem zdG{f:Nat}{e:Eff}(hx:E.ext f=some (.eff e))(ds:List D)(st:St):zz E f ds st=(effD e ds st).map fun q=>(.ret q.1,q.2):=by
 refine Zk fun r=>⟨fun h => ?_,fun h => ?_⟩
 ·obtain⟨n,hn⟩:=wJ.1 h;cases n with
  | zero=>simp[call]at hn
  | succ n=>simp only[call,hx]at hn;exact hn
 ·exact wJ.2 ⟨1,by simp only[call,hx];exact h⟩
theorem zem{f:Nat}{g:List D->List D->Option D}(hx:E.ext f=some (.fn g))(ds:List D)(st:St):zz E f ds st=(g ds (clL st.mem ds)).map fun d=>(.ret (told (frz st (refsL ds)) d).1,(told (frz st (refsL ds)) d).2):=by
 refine Zk fun r=>⟨fun h => ?_,fun h => ?_⟩
 ·obtain⟨n,hn⟩:=wJ.1 h;cases n with
  | zero=>simp[call]at hn
  | succ n=>simp only[call,hx]at hn;exact hn
 ·exact wJ.2 ⟨1,by simp only[call,hx];exact h⟩
end
theorem zoF{P:Program}{E:Env}{ti:Ti}(hti:yS P ti)(hmix:P.follows .mixedOrders=true)(hE:zll P ti E):zag P E (zz E):=by intro f ds st o st' h;obtain⟨n,hn⟩:=wJ.1 h;exact zp1 hti hmix hE n f ds st o st' hn
end
section
def G0(W:World):G:={ w:=W,φ:=fun b=>match W.heap[b]? with | some (.cells c _ _)=>c.size | _=>0,μ:=fun _=>none,hd:=fun _ _=>none,ρ:=fun _=>0,nx:=0 }
def St0:St:={ tm:=[],mem:=fun _=>none,tip:=fun _=>none,nx:=0,lo:=0,lw:=0 }
theorem zBe(W:World):Inv (G0 W) St0 where
 nx:=rfl
 ob k o h:=by simp[St0]at h
 tip g n h:=by simp[St0]at h
 out b hb:=by have hb:W.heap.size<=b:=hb;refine⟨?_,rfl⟩;show(match W.heap[b]? with | some (.cells c _ _)=>c.size | _=>0)=0;rw[Array.getElem?_eq_none hb]
 dis k o h:=rfl
 own b:=zR _
theorem zzV{W:World}{S':G}(h:Ext (G0 W) S'):RowKit.Below W.heap.size W S'.w where
 os:=h.os
 tape:=h.tape
 output:=h.output
 size:=h.size
 block b hb:=(h.free b hb rfl).1
theorem zBk{W:World}{b off n:Nat}(h : ∀ j,j<n -> ∃ u,W.cell? ⟨b,off+j,none⟩=some u):n=0\/off+n<=(G0 W).φ b:=by
 cases n with
 | zero=>exact .inl rfl
 | succ n=>
  refine .inr ?_;obtain⟨u,hu⟩:=h n (zCf n);show _<=(match W.heap[b]? with | some (.cells c _ _)=>c.size | _=>0);simp only[World.cell?]at hu;cases hb:W.heap[b]? with
  | none=>rw[hb]at hu;simp at hu
  | some o=>
   rw[hb]at hu;cases o<;>first
    | (simp at hu;done)
    | (next c e fr=>have:(c[off+n]?)=some u:=hu;have:=(Array.getElem?_eq_some_iff.1 this).1;show off+(n+1)<=c.size;omega)
theorem Does.calls{P:Program}{f:Nat}{args:Array Value}{w:World}{R:Ending->World->Prop}{g:Func}{c:Code}(hP:P.funcs[f]?=some g) (hn:(g.name == "runtime.NumGoroutine")=false) (hb:g.body=some c) (h:Does P f args w R):Calls P f args w R:=by
 rcases h with⟨_,h⟩ | ⟨v,w',h,_⟩
 ·exact h
 ·have hn:g.name ≠ "runtime.NumGoroutine" := by simpa using hn
  simp[callFunc,hP,hn,hb]at h
theorem zwi{P:Program}{E:Env}{ti:Ti}(hti:yS P ti)(hmix:P.follows .mixedOrders=true)(hE:zll P ti E){f:Nat}{fn:Fn}(hx:E.ext f=none)(hf:E.fn f=some fn){W:World}{ds:List D}{vs:List Value}(hr:RepL (G0 W) ds vs)(hg:GlOk (G0 W) E)
  {st':St} (h:zz E f ds St0=some (.ret (.bool true),st')):Calls P f vs.toArray W fun e w'=>e = .returned (.bool true)/\RowKit.Below W.heap.size W w':=by
 obtain⟨g,c,hP,hn,hb⟩ : ∃ g c,P.funcs[f]?=some g/\(g.name == "runtime.NumGoroutine")=false/\g.body=some c:=by
  have hpl:=(hE.fns f fn hf).2;split at hpl
  ·obtain⟨g,c,kp,dp,hP,hn,hb,_,_⟩:=hpl;exact⟨g,c,hP,hn,hb⟩
  ·obtain⟨gf,_,_,_,_,_,_,_,_,_,_,_,_,_,_,_,_,_,_,_,_,hP,hn,hb,_⟩:=hpl;exact⟨gf,_,hP,hn,hb⟩
 have:=(zoF hti hmix hE f ds St0 _ st' h (G0 W) vs (zBe W) hr hg).calls hP hn hb;refine Calls.mono this ?_;rintro e w' ⟨S',rfl,he,hi,ho⟩;refine⟨?_,zzV he⟩;cases e with
 | returned v=>obtain⟨d,hd,hv⟩:=ho;injection hd with hd;subst hd;rw[hv.bool_inv rfl]
 | panicked ch=>obtain⟨d,v,hd,_⟩:=ho;cases hd
 | outgrown=>exact ho.elim
end
section
def look:List (Nat×Fn)->Nat->Option Fn
 | [],_=>none
 | p::r,f=>if f=p.1 then some p.2 else look r f
def zlo:List (Nat×List X×Fn)->Nat->Option (List X×Fn)
 | [],_=>none
 | p::r,f=>if f=p.1 then some p.2 else zlo r f
def Goods(P:Program)(ti:Ti)(dl:List (Nat×List X×Fn))(l:List (Nat×Fn)):Prop := ∀ p∈l,p.1<wX/\match zlo dl p.1 with | none=>Plain P ti p.1 p.2 | some q=>Dfr P ti p.1 p.2 q
theorem Goods.nil(P:Program)(ti:Ti)(dl:List (Nat×List X×Fn)):Goods P ti dl []:=fun p hp=>by simp at hp
def lone(dl:List (Nat×List X×Fn))(f:Nat):Bool:=Nat.blt f wX&&(match zlo dl f with | none=>true | some _=>false)
theorem Goods.cons{P:Program}{ti:Ti}{dl:List (Nat×List X×Fn)}{f:Nat}{fn:Fn}{l:List (Nat×Fn)}(h:Plain P ti f fn)(hl:Goods P ti dl l)(ho:Ev.lone dl f=true:=by rfl):Goods P ti dl ((f,fn)::l):=by
 intro p hp;rcases List.mem_cons.1 hp with rfl | hp
 ·simp only[Ev.lone,zG,Nat.blt_eq]at ho;refine⟨ho.1,?_⟩;split
  ·exact h
  ·next hq=>rw[hq]at ho;exact absurd ho.2 (by simp)
 ·exact hl p hp
theorem Goods.dfr{P:Program}{ti:Ti}{dl:List (Nat×List X×Fn)}{f:Nat}{fn:Fn}{q:List X×Fn}{l:List (Nat×Fn)}(h:Dfr P ti f fn q)(hl:Goods P ti dl l)(ho:zlo dl f=some q:=by rfl)(hf:Nat.blt f wX=true:=by rfl):Goods P ti dl ((f,fn)::l):=by
 intro p hp;rcases List.mem_cons.1 hp with rfl | hp
 ·refine⟨by simpa using hf,?_⟩;simp only[ho];exact h
 ·exact hl p hp
theorem zcV{l:List (Nat×Fn)}{f:Nat}{fn:Fn}(h:look l f=some fn):(f,fn)∈l:=by
 induction l with
 | nil=>simp[look]at h
 | cons p r ih=>
  simp only[look]at h;split at h
  ·next e=>injection h with h;subst e h;simp
  ·exact zP _ (ih h)
theorem zwL{P:Program}{ti:Ti}{E:Env}{l:List (Nat×Fn)}{dl:List (Nat×List X×Fn)}(hl:Goods P ti dl l)(hE:E.fn=look l)(hd:E.dfr=zlo dl)
  (hf : ∀ f e,E.ext f=some (.eff e) -> ∀ ds st d st' (S:G) (vs:List Value),effD e ds st=some (d,st')->Inv S st->RepL S ds vs ->
   Does P f vs.toArray S.w fun e w' => ∃ S',S'.w=w'/\Ext S S'/\Inv S' st' /\ ∃ v,e = .returned v/\Rep S' d v)
  (hx : ∀ f h,E.ext f=some (.fn h) -> ∀ ds0 ds d,h ds0 ds=some d -> ∀ (S:G) (st:St) (vs:List Value),Inv S st->RepL S ds0 vs->RepL S ds vs->GlOk S E ->
   Does P f vs.toArray S.w fun e w' => ∃ S',S'.w=w'/\Ext S S'/\Inv S' (told st d).2 /\ ∃ v,e = .returned v/\Rep S' (told st d).1 v):zll P ti E where
 fns f fn h:=by rw[hE]at h;rw[hd];exact hl _ (zcV h)
 eff:=hf
 ext:=hx
end
section
section
variable {E:Env} {st:St} {Q:Ex->St->Prop}
end
end
section
def okS:Nat:=1000001
def zac:Nat:=1000002
def XN:Option (Nat×Bool)->List Nat
 | some (t,_)=>[t]
 | none=>[]
def yg:List OpC->List Nat
 | []=>[]
 | o::r=>o.op.uses++(XN o.gd++yg r)
def zkL(h:Option (List OpC×List OpC×List OpC))(ops:List OpC)(keep:List Nat):C:=match h with | none => .reg ops keep | some q => .drw q.1 q.2.1 q.2.2 ops keep
def qk(m:Nat->Bool)(hs keep:List Nat):Option (List OpC×List OpC×List OpC)->List OpC->List OpC->C
 | h,pre,[]=>zkL h pre keep
 | h,pre,⟨dst,op,gd⟩::r=>match gd,op with
  | none,.pan x => .seq (zkL h (pre++[⟨some zo,.mv x,none⟩,⟨some okS,.inil true (.s zo),none⟩]) (zo::okS::hs)) (.cond (.s okS) (.exit zo) (.exit zac))
  | none,.call f xs=>match m f with
   | true => .seq (zkL h (pre++[⟨some zo,.call (f+zo) xs,none⟩,⟨some okS,.ext (.s zo) 0,none⟩]) (zo::okS::(yg r++(keep++hs))))
     (.cond (.s okS) (qk m hs keep none [⟨dst,.ext (.s zo) 1,none⟩] r) (.seq (.reg [⟨some zo,.ext (.s zo) 1,none⟩] (zo::hs)) (.exit zo)))
   | false=>qk m hs keep h (pre++[⟨dst,op,gd⟩]) r
  | _,_=>qk m hs keep h (pre++[⟨dst,op,gd⟩]) r
def isM(m:Nat->Bool)(o:OpC):Bool:=match o.op with | .call f _=>m f | _=>false
def KT:List OpC->Option (List OpC×OpC)
 | []=>none
 | o::r=>match r with | []=>some ([],o) | _::_=>(KT r).map fun q=>(o::q.1,q.2)
def zhs(m:Nat->Bool):List OpC->Option (List OpC×OpC×List OpC)
 | []=>none
 | o::r=>if isM m o then some ([],o,r)else(zhs m r).map fun q=>(o::q.1,q.2)
def apart(Z:List OpC)(d:Option Nat):Bool:=Z.all fun z => !Wt d (xd z)&&zk5 d z.dst
def zns(m:Nat->Bool)(hs keep:List Nat)(dst:Option Nat)(pre b:List OpC):C:=
 .cond (.s okS) (qk m hs keep none (⟨dst,.ext (.s zo) 1,none⟩::pre) b) (.seq (.reg [⟨some zo,.ext (.s zo) 1,none⟩] (zo::hs)) (.exit zo))
def zlF(w:Bool)(g:Nat)(a b:C):C:=match w with | true => .cond (.s g) a b | false => .cond (.s g) b a
def zAq(m:Nat->Bool)(hs keep:List Nat)(a0 a1 b1 b:List OpC):C:=
 match zhs m b1 with
 | some (x,⟨dst,.call f xs,none⟩,y)=>
  match hs.isEmpty&&apart (jy a1) dst&&y.all (fun o=>Nat.beq o.op.kind 0&&apart (jy a1) o.dst)with
  | true => .seq (.drw a0 a1 (x++[⟨some zo,.call (f+zo) xs,none⟩]) [⟨some okS,.ext (.s zo) 0,none⟩] (zo::okS::(yg y++(yg b++keep)))) (zns m hs keep dst y b)
  | false => .exit zac
 | some _ => .exit zac
 | none=>match b1 with
  | []=>match KT a1 with
   | some (x,⟨dst,.call f xs,gd⟩)=>match m f with
    | true=>match hs.isEmpty with
     | true=>match gd with
      | none => .seq (.drw a0 (x++[⟨some zo,.call (f+zo) xs,none⟩]) [] [⟨some okS,.ext (.s zo) 0,none⟩] (zo::okS::(yg b++keep))) (zns m hs keep dst [] b)
      | some (g,w) => .seq (.drw a0 x [] [] (g::(Kr xs++(yg b++keep)))) (zlF w g
        (.seq (.drw [] [⟨some zo,.call (f+zo) xs,none⟩] [] [⟨some okS,.ext (.s zo) 0,none⟩] (zo::okS::(yg b++keep))) (zns m hs keep dst [] b))
        (qk m hs keep none [⟨dst,.call f xs,some (g,w)⟩] b))
     | false => .exit zac
    | false=>qk m hs keep (some (a0,a1,[])) [] b
   | _=>qk m hs keep (some (a0,a1,[])) [] b
  | o::r=>qk m hs keep (some (a0,a1,o::r)) [] b
def vr(m:Nat->Bool)(hs:List Nat)(d:Bool):C->C
 | .skip => .skip
 | .reg ops keep=>qk m hs keep none [] ops
 | .drw a0 a1 b1 b keep=>zAq m hs keep a0 a1 b1 b
 | .seq a b => .seq (vr m hs d a) (vr m hs d b)
 | .cond c a b => .cond c (vr m hs d a) (vr m hs d b)
 | .blk id c => .blk id (vr m hs d c)
 | .loop c => .loop (vr m hs d c)
 | .exit id => .exit id
 | .ret=>match d with | true => .seq (.reg [⟨some zo,.mv (.k .nili),none⟩] (zo::hs)) (.exit zo) | false => .ret
def low(l:List Nat):Bool:=l.all fun t=>Nat.blt t zo
def qf(o:OpC):Bool:=low o.op.uses&&(match o.dst with | some t=>Nat.blt t zo | none=>true)&&(match o.gd with | some (t,_)=>Nat.blt t zo | none=>true)&&(match o.op with | .call f _=>Nat.blt f wX | .pan _=>(match o.gd with | none=>true | some _=>false) | _=>true)
def zlm(o:OpC):Bool:=match o.op with | .pan _=>false | _=>true
def okC:C->Bool
 | .reg ops keep=>ops.all qf&&low keep
 | .drw a0 a1 b1 b keep=>a0.all qf&&a1.all qf&&b1.all qf&&b.all qf&&low keep&&a0.all zlm&&a1.all zlm&&b1.all zlm
 | .seq a b=>okC a&&okC b
 | .cond c a b=>low c.uses&&okC a&&okC b
 | .blk id c=>Nat.blt id zo&&okC c
 | .loop c=>okC c
 | .exit id=>Nat.blt id zo
 | _=>true
theorem zfF{E E1:Env}(hg:E1.gl=E.gl)(tm:Tm)(x:X):ev E1 tm x=ev E tm x:=by cases x<;>simp[ev,hg]
theorem zeD{E E1:Env}(hg:E1.gl=E.gl)(tm:Tm)(l:List X):evL E1 tm l=evL E tm l:=by
 induction l with
 | nil=>rfl
 | cons x r ih=>simp only[evL,zfF hg,ih]
theorem zzh{E E1:Env}(hg:E1.gl=E.gl)(tm:Tm)(l:List (Nat×Nat×X)):evP E1 tm l=evP E tm l:=by
 induction l with
 | nil=>rfl
 | cons x r ih=>obtain⟨a,b,x⟩:=x;simp only[evP,zfF hg,ih]
theorem zzQ{E E1:Env}(hg:E1.gl=E.gl)(tm:Tm)(x:Option X):evO E1 tm x=evO E tm x:=by
 cases x with
 | none=>rfl
 | some x=>simp only[evO,zfF hg]
theorem zwb{E E1:Env}(hg:E1.gl=E.gl)(st:St)(o:O):opD E1 st o=opD E st o:=by cases o<;>simp only[opD,zfF hg,zeD hg,zzh hg,zzQ hg]
structure Agree(U:Nat->Prop)(s s1:St):Prop where
 core:s={ s1 with tm:=s.tm }
 tm : ∀ t,U t->get s1.tm t=get s.tm t
structure XE(cf cf1:Cf):Prop where
 pl : ∀ f ds st q,f<wX->cf1 f ds st=some q->cf f ds st=some q
 np : ∀ f ds st d st',cf1 f ds st≠some (.pan d,st')
 pn : ∀ f ds st q,cf1 (f+zo) ds st=some q -> ∃ b d st',q=(.ret (.tup [.bool b,d]),st')/\cf f ds st=some (if b=true then .ret d else .pan d,st')/\(b=false -> ∃ t x,d = .iface t x)
theorem zx7{E E1:Env}(hg:E1.gl=E.gl){cf cf1:Cf}(hc:XE cf cf1){s:St}{o:O}{q:Rv}(hl:(match o with | .call f _=>Nat.blt f wX | _=>true)=true)(h:opX E1 cf1 s o=some q):opX E cf s o=some q:=by
 cases o;case call f xs=>simp only[opX,zeD hg,zA,zB]at h ⊢;obtain⟨l,hl',p,hq,rfl⟩:=h;exact⟨l,hl',p,hc.pl _ _ _ _ (by simpa using hl) hq,rfl⟩
 case callv g xs=>
  simp only[opX,zeD hg,zfF hg]at h ⊢;split at h
  ·split at h<;>try contradiction
   next hlt=>rw[zBu hlt];simp only[zA,zB]at h ⊢;obtain⟨l,hl',p,hq,rfl⟩:=h;exact⟨l,hl',p,hc.pl _ _ _ _ hlt hq,rfl⟩
  ·contradiction
 case pan x=>simpa only[opX,zfF hg]using h
 all_goals (simp only[opX,zwb hg]at h ⊢;exact h)
def zy8(U:Nat->Prop):Rs->Rs->Prop
 | .ok s,.ok s1=>Agree U s s1
 | .pan d s,.pan d1 s1=>d=d1/\Agree U s s1
 | _,_=>False
theorem Agree.set{U:Nat->Prop}{s s1:St}(h:Agree U s s1)(dst:Option Nat)(r:Option D):Agree U (s.set dst r) (s1.set dst r):=by
 obtain⟨h1,h2⟩:=h;cases dst with
 | none=>cases r<;>exact⟨h1,h2⟩
 | some t=>
  cases r with
  | some d=>refine⟨by rw[h1];rfl,fun u hu => ?_⟩;show get (Ev.put s1.tm t d) u=get (Ev.put s.tm t d) u;rw[get_put,get_put,h2 u hu]
  | none=>refine⟨by rw[h1];rfl,fun u hu => ?_⟩;show get (Ev.del s1.tm t) u=get (Ev.del s.tm t) u;rw[Zx,Zx,h2 u hu]
theorem zc0{E E1:Env}(hg:E1.gl=E.gl){cf cf1:Cf}(hc:XE cf cf1)(ht:XC cf)(hf:wH cf){o:OpC}(hl:qf o=true){U:Nat->Prop}(hu : ∀ t∈o.op.uses,U t)(hd : ∀ t∈XN o.gd,U t){s s1:St}{r1:Rs}(ha:Agree U s s1)(h:opC E1 cf1 o s1=some r1) :
  ∃ r,opC E cf o s=some r/\zy8 U r r1:=by
 have hw:yO s.tm o.gd=yO s1.tm o.gd:=by
  cases hgd:o.gd with
  | none=>rfl
  | some p=>obtain⟨t,b⟩:=p;simp only[yO];rw[ha.tm t (hd t (by rw[hgd];simp[XN]))]
 unfold opC at h ⊢;rw[hw];split at h
 ·simp only[opR,zB]at h;obtain⟨q,hq,rfl⟩:=h;simp only[qf,zG]at hl;have h1:=zx7 hg hc (by have:=hl.2;revert this;cases o.op<;>simp) hq;have h2:=zpR ht h1 (tm:=s.tm) (fun t ht=>(ha.tm t (hu t ht)).symm);have htm:=(Fq.opX hf h1).tm;rw[<- ha.core]at h2;simp only[opR,h2,zC];refine⟨_,rfl,?_⟩;cases q with
  | val r s'=>have htm:s'.tm=s1.tm:=htm;exact Agree.set ⟨rfl,fun t ht=>by rw[htm];exact ha.tm t ht⟩ o.dst r
  | pan d s'=>have htm:s'.tm=s1.tm:=htm;exact⟨rfl,rfl,fun t ht=>by rw[htm];exact ha.tm t ht⟩
 ·injection h with h;subst h;exact⟨_,rfl,Agree.set ha o.dst (some .off)⟩
 ·contradiction
theorem XI{E E1:Env}(hg:E1.gl=E.gl){cf cf1:Cf}(hc:XE cf cf1)(ht:XC cf)(hf:wH cf){l:List OpC}(hl:l.all qf=true){U:Nat->Prop}(hu : ∀ t∈yg l,U t){s s1:St}{r1:Rs}(ha:Agree U s s1)(h:runOps E1 cf1 l s1=some r1) :
  ∃ r,runOps E cf l s=some r/\zy8 U r r1:=by
 induction l generalizing s s1 with
 | nil=>injection h with h;subst h;exact⟨_,rfl,ha⟩
 | cons o l ih=>
  simp only[List.all_cons,zG]at hl;have hu1 : ∀ t∈o.op.uses,U t:=fun t ht=>hu t (by simp[yg,ht])
  have hu2 : ∀ t∈XN o.gd,U t:=fun t ht=>hu t (by simp[yg,ht])
  have hu3 : ∀ t∈yg l,U t:=fun t ht=>hu t (by simp[yg,ht])
  simp only[runOps]at h ⊢;split at h
  ·next s1' he=>
   obtain⟨r,h1,h2⟩:=zc0 hg hc ht hf hl.1 hu1 hu2 ha he;cases r with
   | ok s'=>rw[h1];exact ih hl.2 hu3 h2 h
   | pan d s'=>exact h2.elim
  ·next hne=>
   obtain⟨r,h1,h2⟩:=zc0 hg hc ht hf hl.1 hu1 hu2 ha h;rw[h1];cases r with
   | ok s'=>
    cases r1 with
    | ok s1'=>exact(hne s1' h).elim
    | pan d s1'=>exact h2.elim
   | pan d s'=>exact⟨_,rfl,h2⟩
theorem Xf{E E1:Env}(hg:E1.gl=E.gl){cf cf1:Cf}(hc:XE cf cf1)(ht:XC cf)(hf:wH cf){l:List OpC}(hl:l.all qf=true){U:Nat->Prop}(hu : ∀ t∈yg l,U t){s s1 s1':St}(ha:Agree U s s1)(h:runStill E1 cf1 l s1=some s1') :
  ∃ s',runStill E cf l s=some s'/\Agree U s' s1':=by
 induction l generalizing s s1 with
 | nil=>injection h with h;subst h;exact⟨_,rfl,ha⟩
 | cons o l ih=>
  simp only[List.all_cons,zG]at hl;have hu1 : ∀ t∈o.op.uses,U t:=fun t ht=>hu t (by simp[yg,ht])
  have hu2 : ∀ t∈XN o.gd,U t:=fun t ht=>hu t (by simp[yg,ht])
  have hu3 : ∀ t∈yg l,U t:=fun t ht=>hu t (by simp[yg,ht])
  simp only[runStill]at h ⊢;split at h
  ·next s2 he=>
   split at h
   ·next hm=>
    obtain⟨r,h1,h2⟩:=zc0 hg hc ht hf hl.1 hu1 hu2 ha he;cases r with
    | ok s'=>
     rw[h1];have hm':s'.mem=s.mem:=by rw[h2.core,ha.core];exact hm
     simp only[hm',zBv];exact ih hl.2 hu3 h2 h
    | pan d s'=>exact h2.elim
   ·contradiction
  ·contradiction
def VV(E:Env)(cf:Cf):Option (List OpC×List OpC×List OpC)->List OpC->St->Option Rs
 | none,pre,s=>runOps E cf pre s
 | some q,pre,s=>runDrw E cf q.1 q.2.1 q.2.2 pre s
def Zs(keep:List Nat):Option Rs->Option (Ex×St)
 | some (.ok s')=>some (.nrm,{ s' with tm:=kept keep s'.tm })
 | some (.pan d s')=>some (.pan d,s')
 | none=>none
theorem XB{E:Env}{cf:Cf}{n:Nat}(h:Option (List OpC×List OpC×List OpC))(ops:List OpC)(keep:List Nat)(s:St):exec E cf n (zkL h ops keep) s=Zs keep (VV E cf h ops s):=by
 cases h with
 | none=>
  simp only[zkL,exec,VV];cases runOps E cf ops s with
  | none=>rfl
  | some r=>cases r<;>rfl
 | some q=>
  simp only[zkL,exec,VV];cases runDrw E cf q.1 q.2.1 q.2.2 ops s with
  | none=>rfl
  | some r=>cases r<;>rfl
theorem Wr{E:Env}{cf:Cf}(h:Option (List OpC×List OpC×List OpC))(a b:List OpC)(s:St):VV E cf h (a++b) s=match VV E cf h a s with | some (.ok s')=>runOps E cf b s' | e=>e:=by
 cases h with
 | none=>exact xH a b s
 | some q=>
  simp only[VV,runDrw];cases h1:runOps E cf q.1 s with
  | none=>rfl
  | some r=>
   cases r with
   | pan d s'=>rfl
   | ok s1=>
    simp only;cases h2:runStill E cf q.2.1 s1 with
    | none=>simp only;cases panLast E cf q.2.1 s1<;>rfl
    | some s2=>
     simp only[runB];cases h3:runFl E cf (q.1++q.2.1) (jy q.2.1) q.2.2 s2 with
     | none=>rfl
     | some r=>
      cases r with
      | pan d s'=>rfl
      | ok s3=>exact xH a b s3
def zyJ(m:Nat->Bool)(o:OpC):Prop := ¬ (o.gd=none /\ ∃ x,o.op = .pan x) /\ ¬ (o.gd=none /\ ∃ f xs,o.op = .call f xs/\m f=true)
theorem zcD{m:Nat->Bool}{hs keep:List Nat}{h:Option (List OpC×List OpC×List OpC)}{pre r:List OpC}{o:OpC}(ho:zyJ m o):qk m hs keep h pre (o::r)=qk m hs keep h (pre++[o]) r:=by
 obtain⟨dst,op,gd⟩:=o;obtain⟨h1,h2⟩:=ho;cases gd with
 | some p=>cases op<;>rfl
 | none=>
  cases op<;>first | rfl | skip
  case call f xs=>
   have:m f=false:=by
    cases hm:m f with
    | false=>rfl
    | true=>exact(h2 ⟨rfl,f,xs,rfl,hm⟩).elim
   simp only[qk,this]
  case pan x=>exact(h1 ⟨rfl,x,rfl⟩).elim
theorem znB(m:Nat->Bool)(o:OpC):zyJ m o\/(∃ x,o=⟨o.dst,.pan x,none⟩)\/(∃ f xs,o=⟨o.dst,.call f xs,none⟩/\m f=true):=by
 obtain⟨dst,op,gd⟩:=o;by_cases h1:gd=none /\ ∃ x,op = .pan x
 ·obtain⟨rfl,x,rfl⟩:=h1;exact .inr (.inl ⟨x,rfl⟩)
 ·by_cases h2:gd=none /\ ∃ f xs,op = .call f xs/\m f=true
  ·obtain⟨rfl,f,xs,rfl,hm⟩:=h2;exact .inr (.inr ⟨f,xs,rfl,hm⟩)
  ·exact .inl ⟨h1,h2⟩
theorem YH{E:Env}{cf:Cf}{n:Nat}{a b:C}{s:St}{w:Option (Ex×St)}(h:exec E cf n a s=w)(hw : ∀ s',w≠some (.nrm,s')):exec E cf n (.seq a b) s=w:=by
 simp only[exec];rw[h]
 match w,hw with
 | none,_=>rfl
 | some (.nrm,s'),hw=>exact(hw s' rfl).elim
 | some (.ret,s'),_=>rfl
 | some (.ext i,s'),_=>rfl
 | some (.pan d,s'),_=>rfl
theorem JH{E:Env}{cf:Cf}{n:Nat}{m:Nat->Bool}{hs keep:List Nat}(r:List OpC) : ∀ (h:Option (List OpC×List OpC×List OpC)) (pre:List OpC) (s:St),(∀ s',VV E cf h pre s≠some (.ok s'))->exec E cf n (qk m hs keep h pre r) s=Zs [] (VV E cf h pre s):=by
 have fin : ∀ (w:Option Rs) (k:List Nat),(∀ s',w≠some (.ok s'))->Zs k w=Zs [] w /\ ∀ s',Zs [] w≠some (.nrm,s'):=by
  intro w k hw
  match w,hw with
  | none,_=>exact⟨rfl,fun s' h=>by simp[Zs]at h⟩
  | some (.ok s'),hw=>exact(hw s' rfl).elim
  | some (.pan d s'),_=>exact⟨rfl,fun s' h=>by simp[Zs]at h⟩
 have app : ∀ (h:Option (List OpC×List OpC×List OpC)) (pre b:List OpC) (s:St),(∀ s',VV E cf h pre s≠some (.ok s'))->VV E cf h (pre++b) s=VV E cf h pre s:=by
  intro h pre b s hw;rw[Wr]
  match VV E cf h pre s,hw with
  | none,_=>rfl
  | some (.ok s'),hw=>exact(hw s' rfl).elim
  | some (.pan d s'),_=>rfl
 induction r with
 | nil=>intro h pre s hw;rw[qk,XB];exact(fin _ keep hw).1
 | cons o r ih=>
  intro h pre s hw;rcases znB m o with ho | ⟨x,ho⟩ | ⟨f,xs,ho,hm⟩
  ·rw[zcD ho,ih h (pre++[o]) s (by rw[app h pre [o] s hw];exact hw),app h pre [o] s hw]
  ·rw[ho];simp only[qk];refine YH ?_ (fin _ [] hw).2;rw[XB,app h pre _ s hw];exact(fin _ _ hw).1
  ·rw[ho];simp only[qk,hm];refine YH ?_ (fin _ [] hw).2;rw[XB,app h pre _ s hw];exact(fin _ _ hw).1
theorem zrr{l:List OpC}{q:List OpC×OpC}(h:KT l=some q):l=q.1++[q.2]:=by
 induction l generalizing q with
 | nil=>simp[KT]at h
 | cons o r ih=>
  cases r with
  | nil=>injection h with h;subst h;rfl
  | cons a b=>simp only[KT,zB]at h;obtain⟨q',h1,rfl⟩:=h;have:=ih (by simpa only[KT]using h1);rw[this];rfl
theorem zxH{m:Nat->Bool}{l:List OpC}{q:List OpC×OpC×List OpC}(h:zhs m l=some q):l=q.1++q.2.1::q.2.2:=by
 induction l generalizing q with
 | nil=>simp[zhs]at h
 | cons o r ih=>
  simp only[zhs]at h;split at h
  ·injection h with h;subst h;rfl
  ·simp only[zB]at h;obtain⟨q',h1,rfl⟩:=h;rw[ih h1];rfl
theorem JY{E:Env}{cf:Cf}{x y:List OpC}{s:St}:runStill E cf (x++y) s=(runStill E cf x s).bind fun s2=>runStill E cf y s2:=by
 induction x generalizing s with
 | nil=>rfl
 | cons o x ih=>
  simp only[List.cons_append,runStill];split
  ·split
   ·exact ih
   ·rfl
  ·rfl
theorem zhv{E:Env}{cf:Cf}{x:List OpC}{c:OpC}{s s2 s3:St}{d:D}(h:runStill E cf x s=some s2)(hc:opC E cf c s2=some (.pan d s3)):panLast E cf (x++[c]) s=some (d,s3):=by
 induction x generalizing s with
 | nil=>injection h with h;subst h;simp only[List.nil_append,panLast,hc]
 | cons o x ih=>
  simp only[runStill]at h;simp only[List.cons_append,panLast];split at h
  ·next s' he=>
   rw[he];split at h
   ·next hm=>simp only[hm,zBv];exact ih h
   ·contradiction
  ·contradiction
theorem V2{E:Env}{cf:Cf}{Y Z x y:List OpC}{s:St}:runFl E cf Y Z (x++y) s=match runFl E cf Y Z x s with | some (.ok s2)=>runFl E cf Y Z y s2 | e=>e:=by
 induction x generalizing s with
 | nil=>rfl
 | cons o x ih=>
  simp only[List.cons_append,runFl];split
  ·split
   ·exact ih
   ·rfl
  ·rfl
  ·rfl
theorem K5{Z:List OpC}{d:Option Nat}(h:apart Z d=true){z:OpC}(hz:z∈Z):(∀ t∈xd z,d≠some t)/\(∀ t,z.dst=some t->d≠some t):=by have:=List.all_eq_true.1 h z hz;simp only[zG]at this;refine⟨fun t ht e => ?_,fun t ht e=>zgK this.2 e ht⟩;have h1:=this.1;rw[e]at h1;simp[Wt,kD.2 ht]at h1
theorem ZNow.set{E:Env}{z:OpC}{s:St}(hk:z.op.kind<=1){d:Option Nat}(h1 : ∀ t∈xd z,d≠some t)(h2 : ∀ t,z.dst=some t->d≠some t)(r:Option D)(h:ZNow E z s):ZNow E z (s.set d r):=by
 have hs:Same (xd z) s.tm (s.set d r).tm:=fun t ht=>by rw[jW,zBt (h1 t ht)]
 have hw:=vu hs;rcases h with⟨h0,q,h3,h4⟩ | ⟨h0,h4⟩
 ·refine .inl ⟨hw.trans h0,q,(Yj hk h3).2 _ (fun t ht=>hs t (List.mem_append_left _ ht)) (fun _=>(Eqv.set s d r).1.symm),fun t e ht hg=>h4 t e ht ?_⟩;rw[jW,zBt (h2 t ht)]at hg;exact hg
 ·refine .inr ⟨hw.trans h0,fun t e ht hg=>h4 t e ht ?_⟩;rw[jW,zBt (h2 t ht)]at hg;exact hg
theorem Qv{l:List OpC}{z:OpC}(h:z∈jy l):z∈l/\z.op.kind<=1:=by obtain⟨h1,h2⟩:=List.mem_filter.1 h;exact⟨h1,by rw[zJ h2];exact zR _⟩
theorem znu{E:Env}{cf:Cf}{Y Z y:List OpC}(hy:y.all (fun o=>Nat.beq o.op.kind 0&&apart Z o.dst)=true)(hZ : ∀ z∈Z,z.op.kind<=1){s s':St}(h:runOps E cf y s=some (.ok s'))(hz : ∀ z∈Z,ZNow E z s):runFl E cf Y Z y s=some (.ok s'):=by
 induction y generalizing s with
 | nil=>exact h
 | cons o y ih=>
  simp only[List.all_cons,zG]at hy;simp only[runOps]at h;simp only[runFl];split at h
  ·next s2 he=>
   rw[he];have hk:=zJ hy.1.1;have hset : ∃ r,s2=s.set o.dst r:=by
    unfold opC at he;split at he
    ·simp only[opR,zB]at he;obtain⟨q,hq,hq2⟩:=he;obtain⟨r,s3,rfl,hop⟩:=zgv (by omega) (by omega) hq;obtain⟨rfl,_⟩:=Yj (by omega) hop;injection hq2 with hq2;exact⟨r,hq2.symm⟩
    ·injection he with he;injection he with he;exact⟨some .off,he.symm⟩
    ·contradiction
   obtain⟨r,rfl⟩:=hset;have hz2 : ∀ z∈Z,ZNow E z (s.set o.dst r):=fun z hzm=>(hz z hzm).set (hZ z hzm) (K5 hy.1.2 hzm).1 (K5 hy.1.2 hzm).2 r
   simp only;rw[zBu hz2];exact ih hy.2 h hz2
  ·next hne=>exact(hne s' h).elim
def Vg(t:Nat):Prop:=t<zo
def zge(hs:List Nat)(d:Bool)(e:Ex)(s:St)(e1:Ex)(s1:St):Prop:=
 match e1 with
 | .nrm=>e = .nrm/\Agree Vg s s1
 | .ret=>d=false/\e = .ret/\Agree Vg s s1
 | .pan _=>False
 | .ext i=>(i=zo->Agree (fun t=>t∈hs) s s1/\((∃ t x,get s1.tm zo=some (.iface t x)/\e = .pan (.iface t x))\/(d=true/\get s1.tm zo=some .nili/\e = .ret)))/\(i≠zo->e = .ext i/\Agree Vg s s1)
theorem zdB{hs:List Nat}{d:Bool}{e:Ex}{s s1:St}(h:Agree (fun t=>t∈hs) s s1/\((∃ t x,get s1.tm zo=some (.iface t x)/\e = .pan (.iface t x))\/(d=true/\get s1.tm zo=some .nili/\e = .ret))):zge hs d e s (.ext zo) s1:=⟨fun _=>h,fun hn=>(hn rfl).elim⟩
theorem zpf{hs:List Nat}{d:Bool}{i:Nat}{s s1:St}(hi:i≠zo)(h:Agree Vg s s1):zge hs d (.ext i) s (.ext i) s1:=⟨fun he=>(hi he).elim,fun _=>⟨rfl,h⟩⟩
theorem Vr{hs:List Nat}{d:Bool}{e:Ex}{s s1:St}(h:zge hs d e s (.ext zo) s1):Agree (fun t=>t∈hs) s s1/\((∃ t x,get s1.tm zo=some (.iface t x)/\e = .pan (.iface t x))\/(d=true/\get s1.tm zo=some .nili/\e = .ret)):=h.1 rfl
theorem zeQ{hs:List Nat}{d:Bool}{i:Nat}{e:Ex}{s s1:St}(hi:i≠zo)(h:zge hs d e s (.ext i) s1):e = .ext i/\Agree Vg s s1:=h.2 hi
theorem zhy(E:Env)(tm:Tm)(t:Nat):ev E tm (.s t)=get tm t:=rfl
theorem vH{l:List Nat}(h:low l=true){t:Nat}(ht:t∈l):t<zo:=by have:=List.all_eq_true.1 h t ht;simpa using this
theorem yy{l:List Nat}{tm:Tm}{t:Nat}(h:t∈l):get (kept l tm) t=get tm t:=by rw[vy,zBu (kD.2 h)]
section
variable {E E1:Env} (hg:E1.gl=E.gl) {cf cf1:Cf} (hc:XE cf cf1) (ht:XC cf) (hf:wH cf) {m:Nat->Bool} {hs keep:List Nat} (hk:low keep=true) (hh:low hs=true) {n:Nat}
theorem zvm(hc:XE cf cf1){o:OpC}(ho : ¬ (o.gd=none /\ ∃ x,o.op = .pan x))(hl:qf o=true){s s':St}{x:D}(h:opC E1 cf1 o s=some (.pan x s')):False:=by
 have hno : ∀ x,o.op ≠ .pan x:=by
  intro x hx;cases hgd:o.gd with
  | none=>exact ho ⟨hgd,x,hx⟩
  | some p=>simp only[qf,zG]at hl;have:=hl.2;rw[hx,hgd]at this;simp at this
 unfold opC at h;split at h
 ·simp only[opR,zB]at h;obtain⟨q,hq,hh⟩:=h;cases q with
  | val=>simp[Rv.to]at hh
  | pan e s2=>
   have base : ∀ {w:Option Rv},(∃ r,w=r)->(opD E1 s o.op).map (fun p=>Rv.val p.1 p.2)=some (.pan e s2)->False:=by intro w _ h;rw[zB]at h;obtain⟨p,_,h⟩:=h;cases h
   cases hop:o.op<;>rw[hop]at hq<;>first | (exact(hno _ hop).elim) | skip
   case call f xs=>
    simp only[opX,zA,zB]at hq;obtain⟨l,_,⟨q,st'⟩,hq,hv⟩:=hq;cases q with
    | ret=>simp[outV]at hv
    | pan y=>exact hc.np _ _ _ _ _ hq
   case callv g xs=>
    simp only[opX]at hq;split at hq
    ·split at hq<;>try contradiction
     simp only[zA,zB]at hq;obtain⟨l,_,⟨q,st'⟩,hq,hv⟩:=hq;cases q with
     | ret=>simp[outV]at hv
     | pan y=>exact hc.np _ _ _ _ _ hq
    ·contradiction
   all_goals (simp only[opX,zB]at hq;obtain⟨p,_,hq⟩:=hq;cases hq)
 ·simp at h
 ·contradiction
def NP(E:Env)(cf:Cf)(l:List OpC):Prop := ∀ o∈l,∀ s x s',opC E cf o s≠some (.pan x s')
theorem NP.app{E:Env}{cf:Cf}{a b:List OpC}(h:NP E cf a)(k:NP E cf b):NP E cf (a++b):=fun o ho=>by
 rcases List.mem_append.1 ho with ho | ho
 ·exact h o ho
 ·exact k o ho
theorem zbs(hc:XE cf cf1){l:List OpC}(hl:l.all qf=true)(hn:l.all zlm=true):NP E1 cf1 l:=fun o ho s x s' h=>zvm hc (fun⟨_,x,hx⟩=>by have:=List.all_eq_true.1 hn o ho;rw[zlm,hx]at this;contradiction) (List.all_eq_true.1 hl o ho) h
theorem zl5(hc:XE cf cf1)(dst:Option Nat)(f:Nat)(xs:List X):NP E1 cf1 [⟨dst,.call f xs,none⟩]:=fun o ho s x s' h=>by
 obtain rfl:=List.mem_singleton.1 ho;simp only[opC,yO,opR,opX,zB,zA]at h;obtain⟨v,⟨l,_,q,hq,rfl⟩,h⟩:=h;obtain⟨o,st'⟩:=q;cases o with
 | ret y=>cases h
 | pan y=>exact hc.np _ _ _ _ _ hq
omit hg hc ht hf hk hh in
theorem zqO(dst:Option Nat)(x:X)(i:Nat):NP E1 cf1 [⟨dst,.ext x i,none⟩]:=fun o ho s y s' h=>by obtain rfl:=List.mem_singleton.1 ho;simp only[opC,yO,opR,opX,zB]at h;obtain⟨v,⟨p,_,rfl⟩,h⟩:=h;cases h
theorem zkC{E:Env}{cf:Cf}{l:List OpC}(hn:NP E cf l){s s':St}{d:D}(h:runOps E cf l s=some (.pan d s')):False:=by
 induction l generalizing s with
 | nil=>injection h with h;cases h
 | cons o l ih=>
  simp only[runOps]at h;split at h
  ·exact ih (fun o ho=>hn o (zP _ ho)) h
  ·exact hn o zBY _ _ _ h
theorem zvy{E:Env}{cf:Cf}{Y Z l:List OpC}(hn:NP E cf l){s s':St}{d:D}(h:runFl E cf Y Z l s=some (.pan d s')):False:=by
 induction l generalizing s with
 | nil=>injection h with h;cases h
 | cons o l ih=>
  simp only[runFl]at h;split at h
  ·split at h
   ·exact ih (fun o ho=>hn o (zP _ ho)) h
   ·contradiction
  ·next he=>exact hn o zBY _ _ _ he
  ·contradiction
theorem zuR{E:Env}{cf:Cf}{a0 a1 b1 b:List OpC}(h1:NP E cf a1)(h2:NP E cf b1){s:St}{r:Rs}(h:runDrw E cf a0 a1 b1 b s=some r) :
  ∃ s1 s2 s3,runOps E cf a0 s=some (.ok s1)/\runStill E cf a1 s1=some s2/\runFl E cf (a0++a1) (jy a1) b1 s2=some (.ok s3)/\runOps E cf b s3=some r:=by
 unfold runDrw at h;split at h
 ·next s1 e1=>
  split at h
  ·next s2 e2=>
   unfold runB at h;split at h
   ·next s3 e3=>exact⟨s1,s2,s3,e1,e2,e3,h⟩
   ·next hne=>
    cases r with
    | ok s3=>exact(hne s3 h).elim
    | pan d s'=>exact(zvy h2 h).elim
  ·simp only[zB]at h;obtain⟨q,hq,_⟩:=h;obtain⟨x,c,s2,rfl,_,h2⟩:=zar hq;exact(h1 c (by simp) _ _ _ h2).elim
 ·contradiction
theorem zgu{E:Env}{cf:Cf}{n:Nat}{a0 a1 b1 b:List OpC}{k:List Nat}{c2:C}{s s':St}{e:Ex}(h1:NP E cf a1)(h2:NP E cf b1)(h3:NP E cf b)(h:exec E cf n (.seq (.drw a0 a1 b1 b k) c2) s=some (e,s')) :
  ∃ s1 s2 s3 s4,runOps E cf a0 s=some (.ok s1)/\runStill E cf a1 s1=some s2/\runFl E cf (a0++a1) (jy a1) b1 s2=some (.ok s3)/\runOps E cf b s3=some (.ok s4)/\exec E cf n c2 { s4 with tm:=kept k s4.tm }=some (e,s'):=by
 simp only[exec]at h;cases hr:runDrw E cf a0 a1 b1 b s with
 | none=>rw[hr]at h;simp at h
 | some r=>
  obtain⟨s1,s2,s3,e1,e2,e3,e4⟩:=zuR h1 h2 hr;cases r with
  | pan d s4=>exact(zkC h3 e4).elim
  | ok s4=>rw[hr]at h;exact⟨s1,s2,s3,s4,e1,e2,e3,e4,h⟩
theorem zpP(hg:E1.gl=E.gl){z:OpC}(hl:qf z=true){s s1:St}(ha:Agree Vg s s1)(h:ZNow E1 z s1):ZNow E z s:=by
 simp only[qf,zG]at hl;have hs:Same z.op.uses s1.tm s.tm:=fun t ht=>(ha.tm t (vH hl.1.1.1 ht)).symm
 have hw:yO s.tm z.gd=yO s1.tm z.gd:=by
  cases hgd:z.gd with
  | none=>rfl
  | some p=>obtain⟨t,b⟩:=p;have:=hl.1.2;rw[hgd]at this;simp only[yO];rw[ha.tm t (show t<zo by simpa using this)]
 have hd : ∀ t,z.dst=some t->get s.tm t=get s1.tm t:=by intro t ht;have:=hl.1.1.2;rw[ht]at this;exact(ha.tm t (show t<zo by simpa using this)).symm
 rcases h with⟨h0,r,h1,h2⟩ | ⟨h0,h2⟩
 ·refine .inl ⟨hw.trans h0,r,?_,fun t d ht hget=>h2 t d ht (by rw[<- hd t ht];exact hget)⟩;rw[zwb hg]at h1;have:=zpL h1 hs;rw[<- ha.core]at this;exact this
 ·exact .inr ⟨hw.trans h0,fun t d ht hget=>h2 t d ht (by rw[<- hd t ht];exact hget)⟩
theorem zkr(hg:E1.gl=E.gl)(hc:XE cf cf1)(ht:XC cf)(hf:wH cf){Y Z l:List OpC}(hl:l.all qf=true)(hz : ∀ z∈Z,qf z=true)(hu : ∀ t∈yg l,Vg t){s s1 s1':St}(ha:Agree Vg s s1)(h:runFl E1 cf1 Y Z l s1=some (.ok s1')) : ∃ s',runFl E cf Y Z l s=some (.ok s')/\Agree Vg s' s1':=by
 induction l generalizing s s1 with
 | nil=>injection h with h;injection h with h;subst h;exact⟨s,rfl,ha⟩
 | cons o l ih=>
  simp only[List.all_cons,zG]at hl;have hu1 : ∀ t∈o.op.uses,Vg t:=fun t ht=>hu t (by simp[yg,ht])
  have hu2 : ∀ t∈XN o.gd,Vg t:=fun t ht=>hu t (by simp[yg,ht])
  have hu3 : ∀ t∈yg l,Vg t:=fun t ht=>hu t (by simp[yg,ht])
  simp only[runFl]at h ⊢;split at h
  ·next s2 he=>
   split at h
   ·next hm=>
    obtain⟨r,h1,h2⟩:=zc0 hg hc ht hf hl.1 hu1 hu2 ha he;cases r with
    | ok s'=>rw[h1];simp only;rw[zBu (fun z hzm=>zpP hg (hz z hzm) h2 (hm z hzm))];exact ih hl.2 hu3 h2 h
    | pan d s'=>exact h2.elim
   ·contradiction
  ·injection h with h;cases h
  ·contradiction
theorem zed(hg:E1.gl=E.gl)(hc:XE cf cf1)(ht:XC cf)(hf:wH cf){U:Nat->Prop}{f:Nat}{xs:List X}(hu : ∀ t∈Kr xs,U t){sa s1a s1b:St}(ha:Agree U sa s1a)(h:opC E1 cf1 ⟨some zo,.call (f+zo) xs,none⟩ s1a=some (.ok s1b)) :
  ∃ (b:Bool) (y:D) (st':St),s1b={ st' with tm:=put s1a.tm zo (.tup [.bool b,y]) }/\(b=true -> ∀ dst,opC E cf ⟨dst,.call f xs,none⟩ sa=some (.ok (St.set { st' with tm:=sa.tm } dst (some y)))) /\
   (b=false->(∀ dst,opC E cf ⟨dst,.call f xs,none⟩ sa=some (.pan y { st' with tm:=sa.tm })) /\ ∃ t w,y = .iface t w):=by
 simp only[opC,yO,opR,opX]at h;rw[zeD hg]at h;have hev:evL E sa.tm xs=evL E s1a.tm xs:=(XP (E:=E) (fun t ht=>ha.tm t (hu t ht))).symm;cases hv:evL E s1a.tm xs with
 | none=>rw[hv]at h;simp at h
 | some l=>
  rw[hv]at h;simp only[zD]at h;cases hq:cf1 (f+zo) l s1a with
  | none=>rw[hq]at h;simp at h
  | some q=>
   obtain⟨b,y,st',rfl,hcf,hif⟩:=hc.pn f l s1a q hq;have hst:st'.tm=s1a.tm:=(hf _ _ _ _ _ hcf).tm;have hcf2:=ht _ _ _ _ _ sa.tm hcf;rw[<- ha.core]at hcf2;rw[hq]at h;simp only[zC,outV,Rv.to,St.set,St.put,zBB,Rs.ok.injEq]at h;refine⟨b,y,st',by rw[<- h,hst],fun hb dst => ?_,fun hb=>⟨fun dst => ?_,hif hb⟩⟩
   ·subst hb;have hcf2:cf f l sa=some (.ret y,{ st' with tm:=sa.tm }):=hcf2;simp only[opC,yO,opR,opX,hev,hv,zD,hcf2,zC,outV,Rv.to]
   ·subst hb;have hcf2:cf f l sa=some (Out.pan y,{ st' with tm:=sa.tm }):=hcf2;simp only[opC,yO,opR,opX,hev,hv,zD,hcf2,zC,outV,Rv.to]
theorem QK(hg:E1.gl=E.gl)(hc:XE cf cf1)(ht:XC cf)(hf:wH cf)(hk:low keep=true)(hh:low hs=true)(d:Bool)(r:List OpC) : ∀ (h:Option (List OpC×List OpC×List OpC)) (pre:List OpC) (s1 s1' s1a sa:St) (e1:Ex) (U:Nat->Prop),r.all qf=true->exec E1 cf1 n (qk m hs keep h pre r) s1=some (e1,s1')->e1 ≠ .ext zac->VV E1 cf1 h pre s1=some (.ok s1a) ->
  Agree U sa s1a->(∀ t∈yg r,U t)->(∀ t∈keep,U t)->(∀ t∈hs,U t) -> ∃ e s',Zs keep (runOps E cf r sa)=some (e,s')/\zge hs d e s' e1 s1':=by
 induction r with
 | nil=>
  intro h pre s1 s1' s1a sa e1 U _ hx hb hrun ha _ hU2 hU3;rw[qk,XB,hrun]at hx;simp only[Zs,zBB,zBC]at hx;obtain⟨rfl,rfl⟩:=hx;refine⟨_,_,rfl,rfl,?_,fun t _ => ?_⟩
  ·show({ sa with tm:=_ }:St)=_;rw[ha.core]
  ·show get (kept keep s1a.tm) t=get (kept keep sa.tm) t;rw[vy,vy];split
   ·next hk'=>exact ha.tm t (hU2 t (kD.1 hk'))
   ·rfl
 | cons o r ih=>
  intro h pre s1 s1' s1a sa e1 U hl hx hb hrun ha hU1 hU2 hU3;simp only[List.all_cons,zG]at hl;have hu1 : ∀ t∈o.op.uses,U t:=fun t ht=>hU1 t (by simp[yg,ht])
  have hu2 : ∀ t∈XN o.gd,U t:=fun t ht=>hU1 t (by simp[yg,ht])
  have hu3 : ∀ t∈yg r,U t:=fun t ht=>hU1 t (by simp[yg,ht])
  have hlr : ∀ (r:List OpC),r.all qf=true -> ∀ t∈yg r,t<zo:=by
   intro r;induction r with
   | nil=>intro _ t ht;simp[yg]at ht
   | cons o r ih=>
    intro hl t ht;simp only[List.all_cons,zG]at hl;simp only[yg,zBO]at ht;have ho:=hl.1;simp only[qf,zG]at ho;rcases ht with ht | ht | ht
    ·exact vH ho.1.1.1 ht
    ·have:=ho.1.2;cases hgd:o.gd with
     | none=>rw[hgd]at ht;simp[XN]at ht
     | some p=>obtain⟨u,b⟩:=p;rw[hgd]at ht this;simp only[XN,List.mem_singleton]at ht;subst ht;simpa using this
    ·exact ih hl.2 t ht
  have e10:zo≠okS:=by decide
  rcases znB m o with ho | ⟨x,ho⟩ | ⟨f,xs,ho,hm⟩
  ·-- an operation as any other
   rw[zcD ho]at hx;have happ:VV E1 cf1 h (pre++[o]) s1=opC E1 cf1 o s1a:=by
    rw[Wr,hrun];simp only[runOps];cases hq:opC E1 cf1 o s1a with
    | none=>rfl
    | some q=>cases q<;>rfl
   cases hq:opC E1 cf1 o s1a with
   | none=>rw[JH r h (pre++[o]) s1 (by rw[happ,hq];simp),happ,hq]at hx;simp[Zs]at hx
   | some q=>
    cases q with
    | pan y s2=>exact(zvm hc ho.1 hl.1 hq).elim
    | ok s1b=>
     obtain⟨r',h1,h2⟩:=zc0 hg hc ht hf hl.1 hu1 hu2 ha hq;cases r' with
     | pan y s2=>exact h2.elim
     | ok sb=>obtain⟨e,s',h3,h4⟩:=ih h (pre++[o]) s1 s1' s1b sb e1 U hl.2 hx hb (by rw[happ,hq]) h2 hu3 hU2 hU3;exact⟨e,s',by simp only[runOps,h1];exact h3,h4⟩
  ·-- a panic
   have hux : ∀ t∈x.uses,U t:=by intro t ht;apply hu1;rw[ho];exact ht
   rw[ho]at hx ⊢;simp only[qk,exec,XB]at hx;rw[Wr,hrun]at hx;simp only[runOps,opC,yO,opR,opX,opD,zhy]at hx;rw[zfF hg]at hx;have hev:ev E sa.tm x=ev E s1a.tm x:=(yL (E:=E) (fun t ht=>(ha.tm t (hux t ht)))).symm;cases hv:ev E s1a.tm x with
   | none=>rw[hv]at hx;simp[Zs]at hx
   | some v=>
    rw[hv]at hx;simp only[zC,Rv.to,St.set,St.put,get_put,zBv]at hx;cases v<;>try (simp[Zs]at hx;done)
    case nili=>simp only[zC,Rv.to,St.set,St.put,Zs]at hx;rw[yy (by simp)]at hx;rw[get_put,zBu rfl]at hx;simp only[zH,zBB,zBC]at hx;exact(hb hx.1.symm).elim
    case iface t y=>
     simp only[zC,Rv.to,St.set,St.put,Zs]at hx;rw[yy (by simp)]at hx;rw[get_put,zBu rfl]at hx;simp only[zBB,zBC]at hx;obtain⟨rfl,rfl⟩:=hx;refine⟨.pan (.iface t y),sa,?_,?_⟩
     ·simp only[runOps,opC,yO,opR,opX,hev,hv,zC,Rv.to,Zs]
     ·refine zdB ⟨⟨?_,fun u hu => ?_⟩,.inl ⟨t,y,?_,rfl⟩⟩
      ·exact ha.core
      ·have hlt:=vH hh hu;rw[yy (by simp[hu]),get_put,zBt (by unfold okS;unfold zo at hlt;omega),get_put,zBt (by omega)];exact ha.tm u (hU3 u hu)
      ·rw[yy (by simp),get_put,zBt e10,get_put,zBu rfl]
  ·-- a call
   have hux : ∀ t∈Kr xs,U t:=by intro t ht;apply hu1;rw[ho];exact ht
   have hdst:(match o.dst with | some t=>Nat.blt t zo | none=>true)=true:=by have:=hl.1;simp only[qf,zG]at this;exact this.1.1.2
   rw[ho]at hx ⊢;generalize o.dst=dst at *;simp only[qk,hm,exec,XB]at hx;rw[Wr,hrun]at hx;simp only[runOps,opC,yO,opR,opX,opD,zhy]at hx;rw[zeD hg]at hx;have hev:evL E sa.tm xs=evL E s1a.tm xs:=(XP (E:=E) (fun t ht=>(ha.tm t (hux t ht)))).symm;cases hv:evL E s1a.tm xs with
   | none=>rw[hv]at hx;simp[Zs]at hx
   | some l=>
    rw[hv]at hx;simp only[zD]at hx;cases hq:cf1 (f+zo) l s1a with
    | none=>rw[hq]at hx;simp[Zs]at hx
    | some q=>
     obtain⟨b,y,st',rfl,hcf,hif⟩:=hc.pn f l s1a q hq;have hst:st'.tm=s1a.tm:=(hf _ _ _ _ _ hcf).tm;have hcf2:=ht _ _ _ _ _ sa.tm hcf;rw[<- ha.core]at hcf2;rw[hq]at hx;simp only[zC,outV,Rv.to,St.set,St.put,get_put,zBv,zD,zM,Zs]at hx;rw[yy (by simp)]at hx;rw[get_put,zBu rfl]at hx;have hold : ∀ t,t<zo->t∈yg r++(keep++hs)->get (kept (zo::okS::(yg r++(keep++hs))) (put (put st'.tm zo (.tup [.bool b,y])) okS (.bool b))) t=get sa.tm t:=by
      intro t hlt hm;rw[yy (by simp only[zS];exact .inr (.inr hm)),get_put,zBt (by unfold okS;unfold zo at hlt;omega),get_put,zBt (by omega),hst];refine ha.tm t ?_;rw[zBO,zBO]at hm;rcases hm with hm | hm | hm
      ·exact hu3 t hm
      ·exact hU2 t hm
      ·exact hU3 t hm
     have hpan:get (kept (zo::okS::(yg r++(keep++hs))) (put (put st'.tm zo (.tup [.bool b,y])) okS (.bool b))) zo=some (.tup [.bool b,y]):=by rw[yy (by simp),get_put,zBt e10,get_put,zBu rfl]
     cases b with
     | true=>
      simp only at hx;have hcf2:cf f l sa=some (.ret y,{ st' with tm:=sa.tm }):=hcf2;have hrun2:VV E1 cf1 none [⟨dst,.ext (.s zo) 1,none⟩] { st' with tm:=kept (zo::okS::(yg r++(keep++hs))) (put (put st'.tm zo (.tup [.bool true,y])) okS (.bool true)) }=some (.ok (St.set { st' with tm:=kept (zo::okS::(yg r++(keep++hs))) (put (put st'.tm zo (.tup [.bool true,y])) okS (.bool true)) } dst (some y))):=by simp only[VV,runOps,opC,yO,opR,opX,opD,zhy,hpan,zD,zN,zM,zC,Rv.to]
      have hag:Agree (fun t=>t<zo/\t∈yg r++(keep++hs)) (St.set { st' with tm:=sa.tm } dst (some y)) (St.set { st' with tm:=kept (zo::okS::(yg r++(keep++hs))) (put (put st'.tm zo (.tup [.bool true,y])) okS (.bool true)) } dst (some y)):=
       Agree.set ⟨rfl,fun t ht=>hold t ht.1 ht.2⟩ dst (some y)
      obtain⟨e,s',h3,h4⟩:=ih none [⟨dst,.ext (.s zo) 1,none⟩] _ s1' _ _ e1 _ hl.2 hx hb hrun2 hag (fun t ht=>⟨hlr r hl.2 t ht,by simp[ht]⟩) (fun t ht=>⟨vH hk ht,by simp[ht]⟩) (fun t ht=>⟨vH hh ht,by simp[ht]⟩);refine⟨e,s',?_,h4⟩;simp only[runOps,opC,yO,opR,opX,hev,hv,zD,hcf2,zC,outV,Rv.to];exact h3
     | false=>
      obtain⟨t,w,rfl⟩:=hif rfl;simp only[zhy,hpan,zD,zN,zM,zC,Rv.to,St.set,St.put,zBB,zBC]at hx;obtain⟨rfl,rfl⟩:=hx;have hcf2:cf f l sa=some (.pan (.iface t w),{ st' with tm:=sa.tm }):=hcf2;refine⟨.pan (.iface t w),{ st' with tm:=sa.tm },?_,?_⟩
      ·simp only[runOps,opC,yO,opR,opX,hev,hv,zD,hcf2,zC,outV,Rv.to,Zs]
      ·refine zdB ⟨⟨rfl,fun u hu => ?_⟩,.inl ⟨t,w,?_,rfl⟩⟩
       ·have hlt:=vH hh hu;show get (kept (zo::hs) (put _ zo _)) u=get sa.tm u;rw[yy (by simp[hu]),get_put,zBt (by omega)];exact hold u hlt (by simp[hu])
       ·show get (kept (zo::hs) (put _ zo _)) zo=_;rw[yy (by simp),get_put,zBu rfl]
theorem zbn{r:List OpC}(hl:r.all qf=true) : ∀ t∈yg r,Vg t:=by
 induction r with
 | nil=>intro t ht;simp[yg]at ht
 | cons o r ih=>
  intro t ht;simp only[List.all_cons,zG]at hl;simp only[yg,zBO]at ht;have ho:=hl.1;simp only[qf,zG]at ho;rcases ht with ht | ht | ht
  ·exact vH ho.1.1.1 ht
  ·have:=ho.1.2;cases hgd:o.gd with
   | none=>rw[hgd]at ht;simp[XN]at ht
   | some p=>obtain⟨u,b⟩:=p;rw[hgd]at ht this;simp only[XN,List.mem_singleton]at ht;subst ht;exact(show _<zo by simpa using this)
  ·exact ih hl.2 t ht
theorem zmk{E:Env}{cf:Cf}{n:Nat}{w:Bool}{g:Nat}{A B:C}{s:St}{r:Ex×St}(h:exec E cf n (zlF w g A B) s=some r) : ∃ v,get s.tm g=some (.bool v)/\exec E cf n (if v=w then A else B) s=some r:=by cases w<;>simp only[zlF,exec,zhy]at h<;>split at h<;>first | contradiction | (next hv=>exact⟨_,hv,h⟩)
theorem zdR(hg:E1.gl=E.gl)(hc:XE cf cf1)(ht:XC cf)(hf:wH cf)(hk:low keep=true)(d:Bool){dst:Option Nat}{pre b:List OpC}{bb:Bool}{y:D}{st' sa s1':St}{tmx:Tm}{e1:Ex}(hp:pre.all qf=true)(hpn:pre.all zlm=true)(hbl:b.all qf=true)
  (hag : ∀ t,t<zo->t∈yg pre++(yg b++keep)->get tmx t=get sa.tm t)
  (hx:exec E1 cf1 n (zns m [] keep dst pre b) { st' with tm:=kept (zo::okS::(yg pre++(yg b++keep))) (put (put tmx zo (.tup [.bool bb,y])) okS (.bool bb)) }=some (e1,s1')) (hb:e1 ≠ .ext zac) :
  (bb=true -> ∃ s6,runOps E cf pre (St.set { st' with tm:=sa.tm } dst (some y))=some (.ok s6) /\ ∃ e s',Zs keep (runOps E cf b s6)=some (e,s')/\zge [] d e s' e1 s1') /\
  (bb=false -> ∀ t w,y = .iface t w -> ∀ tm',zge [] d (.pan y) { st' with tm:=tm' } e1 s1'):=by
 have e10:zo≠okS:=by decide
 generalize hK:zo::okS::(yg pre++(yg b++keep))=K at hx;have hKp:zo∈K:=by rw[<- hK];simp
 have hKo:okS∈K:=by rw[<- hK];simp
 have hpan:get (kept K (put (put tmx zo (.tup [.bool bb,y])) okS (.bool bb))) zo=some (.tup [.bool bb,y]):=by rw[yy hKp,get_put,zBt e10,get_put,zBu rfl]
 have hok:get (kept K (put (put tmx zo (.tup [.bool bb,y])) okS (.bool bb))) okS=some (.bool bb):=by rw[yy hKo,get_put,zBu rfl]
 have hold : ∀ t,t<zo->t∈yg pre++(yg b++keep)->get (kept K (put (put tmx zo (.tup [.bool bb,y])) okS (.bool bb))) t=get sa.tm t:=by intro t hlt hm;rw[yy (by rw[<- hK];simp only[zS];exact .inr (.inr hm)),get_put,zBt (by unfold okS;unfold zo at hlt;omega),get_put,zBt (by omega)];exact hag t hlt hm
 generalize kept K (put (put tmx zo (.tup [.bool bb,y])) okS (.bool bb))=T at *;simp only[zns,exec,zhy,hok]at hx;constructor
 ·intro hbb;subst hbb;simp only at hx;have hfirst : ∀ r,runOps E1 cf1 (⟨dst,.ext (.s zo) 1,none⟩::r) { st' with tm:=T }=runOps E1 cf1 r (St.set { st' with tm:=T } dst (some y)):=by intro r;simp only[runOps,opC,yO,opR,opX,opD,zhy,hpan,zD,zN,zM,zC,Rv.to]
  have hag0:Agree (fun t=>t<zo/\t∈yg pre++(yg b++keep)) (St.set { st' with tm:=sa.tm } dst (some y)) (St.set { st' with tm:=T } dst (some y)):=
   Agree.set ⟨rfl,fun t ht=>hold t ht.1 ht.2⟩ dst (some y)
  have hup : ∀ t∈yg pre,t<zo/\t∈yg pre++(yg b++keep):=fun t ht=>⟨zbn hp t ht,by simp[ht]⟩
  have hrH:VV E1 cf1 none (⟨dst,.ext (.s zo) 1,none⟩::pre) { st' with tm:=T }=runOps E1 cf1 pre (St.set { st' with tm:=T } dst (some y)):=hfirst pre;cases hr:runOps E1 cf1 pre (St.set { st' with tm:=T } dst (some y))with
  | none=>rw[JH b none _ _ (by rw[hrH,hr];simp),hrH,hr]at hx;simp[Zs]at hx
  | some w=>
   cases w with
   | pan z s2=>exact(zkC (zbs hc hp hpn) hr).elim
   | ok s6x=>
    obtain⟨r,h1,h2⟩:=XI hg hc ht hf hp hup hag0 hr;cases r with
    | pan z s2=>exact h2.elim
    | ok s6=>obtain⟨e,s',h3,h4⟩:=QK hg hc ht hf hk (hs:=[]) rfl d b none _ _ s1' s6x s6 e1 _ hbl hx hb (hrH.trans hr) h2 (fun t ht=>⟨zbn hbl t ht,by simp[ht]⟩) (fun t ht=>⟨vH hk ht,by simp[ht]⟩) (fun t ht=>by simp at ht);exact⟨s6,h1,e,s',h3,h4⟩
 ·intro hbb t w hy tm';subst hbb;simp only at hx;simp only[runOps,opC,yO,opR,opX,opD,zhy,hpan,zD,zN,zM,zC,Rv.to,St.set,St.put,zBB,zBC]at hx;obtain⟨rfl,rfl⟩:=hx;refine zdB ⟨⟨rfl,fun u hu=>by simp at hu⟩,.inl ⟨t,w,?_,by rw[hy]⟩⟩;show get (kept [zo] (put T zo y)) zo=_;rw[yy (by simp),get_put,zBu rfl,hy]
theorem zn7(hg:E1.gl=E.gl)(hc:XE cf cf1)(ht:XC cf)(hf:wH cf)(hh:low hs=true)(d:Bool)(c:C):okC c=true -> ∀ (s s1 s1':St) (e1:Ex),Agree Vg s s1->exec E1 cf1 n (vr m hs d c) s1=some (e1,s1')->e1 ≠ .ext zac -> ∃ e s',exec E cf n c s=some (e,s')/\zge hs d e s' e1 s1':=by
 have finE : ∀ (keep:List Nat) (w:Option Rs) (e:Ex) (s':St),Zs keep w=some (e,s')->(match w with
   | some (.ok st')=>some (Ex.nrm,{ st' with tm:=kept keep st'.tm })
   | some (.pan d st')=>some (.pan d,st')
   | none=>none)=some (e,s'):=by
  intro keep w e s' h
  match w,h with
  | some (.ok _),h=>exact h
  | some (.pan _ _),h=>exact h
 induction c with
 | skip=>intro _ s s1 s1' e1 ha hx hb;simp only[vr,exec,zBB,zBC]at hx;obtain⟨rfl,rfl⟩:=hx;exact⟨.nrm,s,rfl,rfl,ha⟩
 | reg ops keep=>intro hok s s1 s1' e1 ha hx hb;simp only[okC,zG]at hok;simp only[vr]at hx;obtain⟨e,s',h1,h2⟩:=QK hg hc ht hf hok.2 hh d ops none [] s1 s1' s1 s e1 Vg hok.1 hx hb rfl ha (zbn hok.1) (fun t h=>vH hok.2 h) (fun t h=>vH hh h);exact⟨e,s',finE _ _ _ _ h1,h2⟩
 | drw a0 a1 b1 b keep=>
  intro hok s s1 s1' e1 ha hx hb;simp only[okC,zG]at hok;obtain⟨⟨⟨⟨⟨⟨⟨ho0,ho1⟩,hob⟩,ho2⟩,hkk⟩,hn0⟩,hn1⟩,hnb⟩:=hok;simp only[vr]at hx;have hL : ∀ {l:List OpC},l.all qf=true -> ∀ z∈jy l,qf z=true:=fun h z hz=>List.all_eq_true.1 h z (Qv hz).1
  have hEx : ∀ {e:Ex} {s':St},Zs keep (runDrw E cf a0 a1 b1 b s)=some (e,s')->exec E cf n (.drw a0 a1 b1 b keep) s=some (e,s'):=fun h=>by simp only[exec];exact finE _ _ _ _ h
  -- as it stands
  have plain:exec E1 cf1 n (qk m hs keep (some (a0,a1,b1)) [] b) s1=some (e1,s1') -> ∃ e s',exec E cf n (.drw a0 a1 b1 b keep) s=some (e,s')/\zge hs d e s' e1 s1':=by
   intro hx;cases hr:VV E1 cf1 (some (a0,a1,b1)) [] s1 with
   | none=>rw[JH b _ [] s1 (by rw[hr];simp),hr]at hx;simp[Zs]at hx
   | some w=>
    obtain⟨s1x,s2x,s3x,e0,e1',e2,e3⟩:=zuR (zbs hc ho1 hn1) (zbs hc hob hnb) hr;simp only[runOps,zBB]at e3;subst e3;obtain⟨r,h3,h4⟩:=XI hg hc ht hf ho0 (zbn ho0) ha e0;cases r with
    | pan y z=>exact h4.elim
    | ok sx=>obtain⟨sy,h5,h6⟩:=Xf hg hc ht hf ho1 (zbn ho1) h4 e1';obtain⟨sz,h7,h8⟩:=zkr hg hc ht hf hob (hL ho1) (zbn hob) h6 e2;obtain⟨e,s',h9,h10⟩:=QK hg hc ht hf hkk hh d b (some (a0,a1,b1)) [] s1 s1' s3x sz e1 Vg ho2 hx hb hr h8 (zbn ho2) (fun t h=>vH hkk h) (fun t h=>vH hh h);refine⟨e,s',hEx ?_,h10⟩;simp only[runDrw,h3,h5,runB,h7];exact h9
  unfold zAq at hx;split at hx
  ·-- a call among what floats
   next x dst f xs y hcut=>
   have hb1:=zxH hcut;simp only at hb1;subst hb1;split at hx
   ·next hst=>
    simp only[zG]at hst;obtain⟨⟨hs0,hap⟩,hyk⟩:=hst;obtain rfl:hs=[]:=by cases hs with | nil=>rfl | cons a b=>simp at hs0
    simp only[List.all_append,List.all_cons,zG]at hob hnb;obtain⟨hox,hoc,hoy⟩:=hob;obtain⟨hnx,_,hny⟩:=hnb;have hux : ∀ t∈Kr xs,Vg t:=by simp only[qf,zG]at hoc;exact fun t ht=>vH hoc.1.1.1 ht
    obtain⟨s1x,s2x,s3x,s4x,e0,e1',e2,e3,hx⟩:=zgu (zbs hc ho1 hn1) ((zbs hc hox hnx).app (zl5 hc _ _ _)) (zqO _ _ _) hx;rw[V2]at e2;split at e2
    ·next smx e4=>
     simp only[runFl]at e2;split at e2
     rotate_left
     ·injection e2 with e2;cases e2
     ·contradiction
     next s3x' e5=>
      split at e2<;>try contradiction
      next hchk=>
       injection e2 with e2;injection e2 with e2;subst e2;obtain⟨r,h3,h4⟩:=XI hg hc ht hf ho0 (zbn ho0) ha e0;cases r with
       | pan y z=>exact h4.elim
       | ok sx=>
       obtain⟨sy,h5,h6⟩:=Xf hg hc ht hf ho1 (zbn ho1) h4 e1';obtain⟨sm,h7,h8⟩:=zkr hg hc ht hf hox (hL ho1) (zbn hox) h6 e4;obtain⟨bb,yv,st',rfl,hT,hF⟩:=zed hg hc ht hf hux h8 e5;simp only[runOps,opC,yO,opR,opX,opD,zhy,get_put,zBv,zD,zM,zC,Rv.to,St.set,St.put,zBB,Rs.ok.injEq]at e3;subst e3;obtain⟨k1,k2⟩:=zdR hg hc ht hf hkk d (sa:=sm) hoy hny ho2 (fun t hlt _=>h8.tm t hlt) hx hb;cases bb with
       | true=>
        obtain⟨s6,q1,e,s',q2,q3⟩:=k1 rfl;refine⟨e,s',hEx ?_,q3⟩;have hz0 : ∀ z∈jy a1,ZNow E z { st' with tm:=sm.tm }:=fun z hz=>zpP (s:={ st' with tm:=sm.tm }) (s1:={ st' with tm:=put smx.tm zo (.tup [.bool true,yv]) }) hg (hL ho1 z hz) ⟨rfl,fun t hlt=>by show get (put smx.tm zo _) t=_;rw[get_put,zBt (by have:t<zo:=hlt;omega)];exact h8.tm t hlt⟩ (hchk z hz)
        have hz1 : ∀ z∈jy a1,ZNow E z (St.set { st' with tm:=sm.tm } dst (some yv)):=fun z hz=>(hz0 z hz).set (Qv hz).2 (K5 hap hz).1 (K5 hap hz).2 _
        have hfl:runFl E cf (a0++a1) (jy a1) (x++⟨dst,.call f xs,none⟩::y) sy=some (.ok s6):=by rw[V2,h7];simp only[runFl,hT rfl dst];rw[zBu hz1];exact znu hyk (fun z hz=>(Qv hz).2) q1 hz1
        simp only[runDrw,h3,h5,runB,hfl];exact q2
       | false=>
        obtain⟨hF1,t,w,hy⟩:=hF rfl;have hfl:runFl E cf (a0++a1) (jy a1) (x++⟨dst,.call f xs,none⟩::y) sy=some (.pan yv { st' with tm:=X7 (a0++a1) sm.tm }):=by rw[V2,h7];simp only[runFl,hF1 dst]
        refine⟨.pan yv,{ st' with tm:=X7 (a0++a1) sm.tm },hEx ?_,k2 rfl t w hy _⟩;simp only[runDrw,h3,h5,runB,hfl,Zs]
    ·next hne=>exact(hne s3x e2).elim
   ·simp only[exec,zBB,zBC]at hx;exact(hb hx.1.symm).elim
  ·simp only[exec,zBB,zBC]at hx;exact(hb hx.1.symm).elim
  ·split at hx
   ·split at hx
    ·-- a call, the last of what comes in any order
     next x dst f xs gd hcut=>
     have ha1:=zrr hcut;simp only at ha1;subst ha1;simp only[List.all_append,List.all_cons,List.all_nil,Bool.and_true,zG]at ho1 hn1;obtain⟨hox,hoc⟩:=ho1;obtain⟨hnx,_⟩:=hn1;have hux : ∀ t∈Kr xs,Vg t:=by simp only[qf,zG]at hoc;exact fun t ht=>vH hoc.1.1.1 ht
     have fin1 : ∀ {sx sm sq:St},runOps E cf a0 s=some (.ok sx)->runStill E cf x sx=some sm->opC E cf ⟨dst,.call f xs,gd⟩ sm=some (.ok sq)->sq.mem=sm.mem -> ∀ {e:Ex} {s':St},Zs keep (runOps E cf b sq)=some (e,s')->Zs keep (runDrw E cf a0 (x++[⟨dst,.call f xs,gd⟩]) [] b s)=some (e,s'):=by
      intro sx sm sq h1 h2 h3 h4 e s' h5;have:runStill E cf (x++[⟨dst,.call f xs,gd⟩]) sx=some sq:=by rw[JY,h2];simp only[zD,runStill,h3,h4,zBv]
      simp only[runDrw,h1,this,runB,runFl];exact h5
     have fin2 : ∀ {sx sm sp:St} {y:D},runOps E cf a0 s=some (.ok sx)->runStill E cf x sx=some sm->opC E cf ⟨dst,.call f xs,gd⟩ sm=some (.pan y sp)->Zs keep (runDrw E cf a0 (x++[⟨dst,.call f xs,gd⟩]) [] b s)=some (.pan y,{ sp with tm:=X7 (a0++(x++[⟨dst,.call f xs,gd⟩])) sp.tm }):=by intro sx sm sp y h1 h2 h3;have:=zhv h2 h3;simp only[runDrw,h1,WV this,this,zC,Zs]
     split at hx
     ·split at hx
      ·next hm _ hs0=>
       obtain rfl:hs=[]:=by cases hs with | nil=>rfl | cons a b=>simp at hs0
       split at hx
       ·obtain⟨s1x,s2x,s3x,s4x,e0,e1',e2,e3,hx⟩:=zgu ((zbs hc hox hnx).app (zl5 hc _ _ _)) (fun o ho=>by simp at ho) (zqO _ _ _) hx;rw[JY,zA]at e1';obtain⟨smx,e4,e1'⟩:=e1';simp only[runStill]at e1';split at e1'<;>try contradiction
        next s2' e5=>
         split at e1'<;>try contradiction
         next hmem=>
          injection e1' with e1';subst e1';injection e2 with e2;injection e2 with e2;subst e2;obtain⟨r,h3,h4⟩:=XI hg hc ht hf ho0 (zbn ho0) ha e0;cases r with
          | pan y z=>exact h4.elim
          | ok sx=>
          obtain⟨sm,h7,h8⟩:=Xf hg hc ht hf hox (zbn hox) h4 e4;obtain⟨bb,yv,st',rfl,hT,hF⟩:=zed hg hc ht hf hux h8 e5;simp only[runOps,opC,yO,opR,opX,opD,zhy,get_put,zBv,zD,zM,zC,Rv.to,St.set,St.put,zBB,Rs.ok.injEq]at e3;subst e3;obtain⟨k1,k2⟩:=zdR (pre:=[]) hg hc ht hf hkk d (sa:=sm) rfl rfl ho2 (fun t hlt _=>h8.tm t hlt) hx hb;have hme2:st'.mem=sm.mem:=Eq.trans hmem (show smx.mem=sm.mem from(congrArg St.mem h8.core).symm);cases bb with
          | true=>obtain⟨s6,q1,e,s',q2,q3⟩:=k1 rfl;injection q1 with q1;injection q1 with q1;subst q1;exact⟨e,s',hEx (fin1 h3 h7 (hT rfl dst) (by rw[<- (Eqv.set _ _ _).1];exact hme2) q2),q3⟩
          | false=>obtain⟨hF1,t,w,hy⟩:=hF rfl;exact⟨_,_,hEx (fin2 h3 h7 (hF1 dst)),k2 rfl t w hy _⟩
       ·next g w _=>
        obtain⟨s1x,s2x,s3x,s4x,e0,e1',e2,e3,hx⟩:=zgu (zbs hc hox hnx) (fun o ho=>by simp at ho) (fun o ho=>by simp at ho) hx;injection e2 with e2;injection e2 with e2;subst e2;injection e3 with e3;injection e3 with e3;subst e3;have hgl:g<zo:=by simp only[qf,zG]at hoc;simpa using hoc.1.2
        obtain⟨r,h3,h4⟩:=XI hg hc ht hf ho0 (zbn ho0) ha e0;cases r with
        | pan y z=>exact h4.elim
        | ok sx=>
        obtain⟨sm,h7,h8⟩:=Xf hg hc ht hf hox (zbn hox) h4 e1';generalize hK:g::(Kr xs++(yg b++keep))=K at hx;have hag:Agree (fun t=>t<zo/\t∈K) sm { s2x with tm:=kept K s2x.tm }:=⟨by
         show sm={ s2x with tm:=sm.tm }
         exact h8.core,fun t ht=>by
         show get (kept K s2x.tm) t=get sm.tm t;rw[yy ht.2];exact h8.tm t ht.1⟩
        have hux2 : ∀ t∈Kr xs,t<zo/\t∈K:=fun t ht=>⟨hux t ht,by rw[<- hK];simp[ht]⟩
        have hub : ∀ t,t∈yg b++keep->t∈K:=fun t ht=>by rw[<- hK];simp only[zS,zBO]at ht ⊢;exact .inr (.inr ht)
        obtain⟨v,hv,hx⟩:=zmk hx;have hvE:get sm.tm g=some (.bool v):=by rw[<- hag.tm g ⟨hgl,by rw[<- hK];simp⟩];exact hv
        by_cases hvw:v=w
        ·subst hvw;rw[zBu rfl]at hx;have hgd : ∀ q,opC E cf ⟨dst,.call f xs,none⟩ sm=q->opC E cf ⟨dst,.call f xs,some (g,v)⟩ sm=q:=fun q h=>by rw[<- h];simp only[opC,yO,hvE,zBL]
         obtain⟨s1y,s2y,s3y,s4y,f0,f1,f2,f3,hx⟩:=zgu (zl5 hc _ _ _) (fun o ho=>by simp at ho) (zqO _ _ _) hx;injection f0 with f0;injection f0 with f0;subst f0;injection f2 with f2;injection f2 with f2;subst f2;simp only[runStill]at f1;split at f1<;>try contradiction
         next s2' e5=>
          split at f1<;>try contradiction
          next hmem=>
           injection f1 with f1;subst f1;obtain⟨bb,yv,st',rfl,hT,hF⟩:=zed hg hc ht hf hux2 hag e5;simp only[runOps,opC,yO,opR,opX,opD,zhy,get_put,zBv,zD,zM,zC,Rv.to,St.set,St.put,zBB,Rs.ok.injEq]at f3;subst f3;obtain⟨k1,k2⟩:=zdR (pre:=[]) hg hc ht hf hkk d (sa:=sm) rfl rfl ho2 (fun t hlt hm=>hag.tm t ⟨hlt,hub t hm⟩) hx hb;have hme2:st'.mem=sm.mem:=Eq.trans hmem (show s2x.mem=sm.mem from(congrArg St.mem h8.core).symm);cases bb with
           | true=>obtain⟨s6,q1,e,s',q2,q3⟩:=k1 rfl;injection q1 with q1;injection q1 with q1;subst q1;exact⟨e,s',hEx (fin1 h3 h7 (hgd _ (hT rfl dst)) (by rw[<- (Eqv.set _ _ _).1];exact hme2) q2),q3⟩
           | false=>obtain⟨hF1,t,w,hy⟩:=hF rfl;exact⟨_,_,hEx (fin2 h3 h7 (hgd _ (hF1 dst))),k2 rfl t w hy _⟩
        ·rw[zBt hvw]at hx;have hw : ∀ s0:St,get s0.tm g=some (.bool v) -> ∀ (E:Env) (cf:Cf),opC E cf ⟨dst,.call f xs,some (g,w)⟩ s0=some (.ok (s0.put dst .off)):=fun s0 h E cf=>by
          have:(v==w)=false:=by simpa using hvw
          simp only[opC,yO,h,this]
         have hE1:=hw _ hv E1 cf1;have hE:=hw _ hvE E cf;have hrH:VV E1 cf1 none [⟨dst,.call f xs,some (g,w)⟩] { s2x with tm:=kept K s2x.tm }=some (.ok (St.put { s2x with tm:=kept K s2x.tm } dst .off)):=by simp only[VV,runOps,hE1]
         have hdl:Agree (fun t=>t<zo/\t∈K) (sm.put dst .off) (St.put { s2x with tm:=kept K s2x.tm } dst .off):=Agree.set hag dst (some .off);obtain⟨e,s',q2,q3⟩:=QK hg hc ht hf hkk (hs:=[]) rfl d b none [⟨dst,.call f xs,some (g,w)⟩] _ s1' _ _ e1 _ ho2 hx hb hrH hdl (fun t ht=>⟨zbn ho2 t ht,hub t (by simp[ht])⟩) (fun t ht=>⟨vH hkk ht,hub t (by simp[ht])⟩) (fun t ht=>by simp at ht);exact⟨e,s',hEx (fin1 h3 h7 hE (by show(St.set sm dst (some .off)).mem=_;rw[<- (Eqv.set _ _ _).1]) q2),q3⟩
      ·simp only[exec,zBB,zBC]at hx;exact(hb hx.1.symm).elim
     ·exact plain hx
    ·exact plain hx
   ·exact plain hx
 | seq a b iha ihb=>
  intro hok s s1 s1' e1 ha hx hb;simp only[okC,zG]at hok;simp only[vr,exec]at hx;split at hx
  ·next s2 h1=>
   obtain⟨e,s',h2,h3,h4⟩:=iha hok.1 s s1 s2 .nrm ha h1 (by simp);subst h3;obtain⟨e',s'',h5,h6⟩:=ihb hok.2 s' s2 s1' e1 h4 hx hb;exact⟨e',s'',by simp only[exec,h2];exact h5,h6⟩
  ·next hne=>
   obtain⟨e,s',h2,h3⟩:=iha hok.1 s s1 s1' e1 ha hx hb;refine⟨e,s',?_,h3⟩;have:e ≠ .nrm:=by
    rintro rfl;cases e1 with
    | nrm=>exact hne s1' hx
    | ret=>simp[zge]at h3
    | pan x=>exact h3
    | ext i=>
     by_cases hi:i=zo
     ·subst hi;rcases(Vr h3).2 with⟨t,x,_,h⟩ | ⟨_,_,h⟩<;>cases h
     ·cases (zeQ hi h3).1
   exact YH h2 (fun s' h=>by injection h with h;injection h with h _;exact this h)
 | cond c a b iha ihb=>
  intro hok s s1 s1' e1 ha hx hb;simp only[okC,zG]at hok;have hev:ev E s.tm c=ev E1 s1.tm c:=by rw[zfF hg];exact(yL (E:=E) (fun t ht=>(ha.tm t (vH hok.1.1 ht)))).symm
  simp only[vr,exec]at hx;simp only[exec,hev];split at hx
  ·next hc'=>exact iha hok.1.2 s s1 s1' e1 ha hx hb
  ·next hc'=>exact ihb hok.2 s s1 s1' e1 ha hx hb
  ·contradiction
 | blk id c ih=>
  intro hok s s1 s1' e1 ha hx hb;simp only[okC,zG,Nat.blt_eq]at hok;have hid:id≠zo/\id≠zac:=by have:=hok.1;unfold zo at this;unfold zo zac;omega
  simp only[vr,exec]at hx;split at hx
  ·next i s2 h1=>
   have hib:(Ex.ext i) ≠ .ext zac:=by rintro h;injection h with h;subst h;rw[zBt (Ne.symm hid.2)]at hx;simp only[zBB,zBC]at hx;exact hb hx.1.symm
   obtain⟨e,s',h2,h3⟩:=ih hok.2 s s1 s2 (.ext i) ha h1 hib;by_cases hi:i=zo
   ·subst hi;rw[zBt (Ne.symm hid.1)]at hx;simp only[zBB,zBC]at hx;obtain⟨rfl,rfl⟩:=hx;refine⟨e,s',?_,h3⟩;simp only[exec,h2];rcases(Vr h3).2 with⟨t,x,_,rfl⟩ | ⟨_,_,rfl⟩<;>rfl
   ·obtain⟨rfl,h4⟩:=zeQ hi h3;split at hx
    ·next hii=>
     simp only[zBB,zBC]at hx;obtain⟨rfl,rfl⟩:=hx;exact⟨.nrm,s',by simp only[exec,h2,zBu hii],rfl,h4⟩
    ·next hii=>
     simp only[zBB,zBC]at hx;obtain⟨rfl,rfl⟩:=hx;exact⟨.ext i,s',by simp only[exec,h2,zBt hii],zpf hi h4⟩
  ·next hne=>
   obtain⟨e,s',h2,h3⟩:=ih hok.2 s s1 s1' e1 ha hx hb;refine⟨e,s',?_,h3⟩;simp only[exec,h2];cases e1 with
   | nrm=>rw[h3.1]
   | ret=>rw[h3.2.1]
   | pan x=>exact h3.elim
   | ext i=>exact(hne i s1' hx).elim
 | loop c ih=>
  intro hok s s1 s1' e1 ha hx hb;simp only[okC]at hok;simp only[vr,exec]at hx;have key : ∀ k (s s1:St),Agree Vg s s1->loopN (exec E1 cf1 n (vr m hs d c)) k s1=some (e1,s1') -> ∃ e s',loopN (exec E cf n c) k s=some (e,s')/\zge hs d e s' e1 s1':=by
   intro k;induction k with
   | zero=>intro s s1 _ h;simp[loopN]at h
   | succ k ihk=>
    intro s s1 ha h;simp only[loopN]at h;split at h
    ·next s2 h1=>
     obtain⟨e,s',h2,h3,h4⟩:=ih hok s s1 s2 .nrm ha h1 (by simp);subst h3;obtain⟨e',s'',h5,h6⟩:=ihk s' s2 h4 h;exact⟨e',s'',by simp only[loopN,h2];exact h5,h6⟩
    ·next hne=>
     obtain⟨e,s',h2,h3⟩:=ih hok s s1 s1' e1 ha h hb;refine⟨e,s',?_,h3⟩;simp only[loopN,h2];cases e1 with
     | nrm=>exact(hne s1' h).elim
     | ret=>rw[h3.2.1]
     | pan x=>exact h3.elim
     | ext i=>
      by_cases hi:i=zo
      ·subst hi;rcases(Vr h3).2 with⟨t,x,_,rfl⟩ | ⟨_,_,rfl⟩<;>rfl
      ·rw[(zeQ hi h3).1]
  obtain⟨e,s',h1,h2⟩:=key n s s1 ha hx;exact⟨e,s',by simp only[exec];exact h1,h2⟩
 | exit id=>intro hok s s1 s1' e1 ha hx hb;simp only[okC,Nat.blt_eq]at hok;simp only[vr,exec,zBB,zBC]at hx;obtain⟨rfl,rfl⟩:=hx;exact⟨.ext id,s,rfl,zpf (by omega) ha⟩
 | ret=>
  intro _ s s1 s1' e1 ha hx hb;cases d with
  | false=>simp only[vr,exec,zBB,zBC]at hx;obtain⟨rfl,rfl⟩:=hx;exact⟨.ret,s,rfl,rfl,rfl,ha⟩
  | true=>
   simp only[vr,exec,runOps,opC,yO,opR,opX,opD,ev,zC,Rv.to,St.set,St.put,zBB,zBC]at hx;obtain⟨rfl,rfl⟩:=hx;refine⟨.ret,s,rfl,zdB ⟨⟨ha.core,fun u hu => ?_⟩,.inr ⟨rfl,?_,rfl⟩⟩⟩
   ·have hlt:=vH hh hu;rw[yy (by simp[hu]),get_put,zBt (by omega)];exact ha.tm u hlt
   ·rw[yy (by simp),get_put,zBu rfl]
end
theorem zgm(fn:Fn)(st s:St)(d:D)(tm:Tm):leave fn st { s with tm:=tm } d=leave fn st s d:=by unfold leave;simp only[zh7]
theorem zlv{fn:Fn}(hgv:fn.gv=false)(st s:St)(b:Bool)(d:D):leave fn st s (.tup [.bool b,d])=(.tup [.bool b,(leave fn st s d).1],(leave fn st s d).2):=by
 unfold leave;rw[hgv];simp only[zF,zBw,D.cl,clL,D.pure,pureL,D.refs,refsL,List.nil_append,List.append_nil,Bool.true_and,Bool.and_true];split
 ·rfl
 ·split<;>rfl
theorem zls{E:Env}{s s1:St}{U:Nat->Prop}(ha:Agree U s s1){res:List R}(hr : ∀ r∈res,U (match r with | .tmp t=>t | .cell t _ _=>t)):jI s res=jI s1 res:=by
 induction res with
 | nil=>rfl
 | cons r l ih=>
  have h1:=hr r (by simp);have ih:=ih (fun x hx=>hr x (by simp[hx]));cases r with
  | tmp t=>simp only[jI,ih,ha.tm t h1]
  | cell t ag sz=>
   have hl : ∀ a,vB s ag sz a=vB s1 ag sz a:=by intro a;rw[ha.core];cases a<;>rfl
   simp only[jI,ih,ha.tm t h1,hl]
def zeK(res:List R)(p:Nat->Bool):Bool:=res.all fun r=>match r with | .tmp t=>p t | .cell t _ _=>p t
structure X0(m:Nat->Bool)(fn fn1:Fn):Prop where
 np:fn1.np=fn.np
 res:fn1.res=fn.res
 raw:fn1.raw=fn.raw
 gv:fn1.gv=fn.gv
 ok:okC fn.body=true
 low:zeK fn.res (fun t=>Nat.blt t zo)=true
def zv9(m:Nat->Bool)(hs:List Nat)(g1:Nat)(q:List X×Fn)(body:C):C:=
 .seq (.blk zo (.seq (vr m hs true body) (.seq (.reg [⟨some zo,.mv (.k .nili),none⟩] (zo::hs)) (.exit zo)))) (.reg [⟨none,.call g1 (q.1++[.s zo]),none⟩] hs)
structure zh2(E E1:Env)(m:Nat->Bool):Prop where
 gl:E1.gl=E.gl
 dfr : ∀ f,E1.dfr f=none
 ext : ∀ f x,E1.ext f=some x->f<wX/\E.ext f=some x
 fn : ∀ f fn1,f<wX->E1.ext f=none->E1.fn f=some fn1->E.ext f=none /\ ∃ fn,E.fn f=some fn/\X0 m fn fn1/\match E.dfr f with
  | none=>fn1.body=vr m [] false fn.body
  | some q => ∃ hs xs g1 h1,q.1=xs.map X.s/\low hs=true/\low xs=true/\(∀ x∈xs,x∈hs)/\zeK fn.res (fun t=>has hs t)=true/\fn1.body=zv9 m hs g1 q fn.body/\wX<=g1/\g1<zo/\E1.fn g1=some h1/\X0 m q.2 h1/\q.2.res=[]/\q.2.gv=false/\h1.body=vr m [] false q.2.body
 pn : ∀ f fn1,E1.fn (f+zo)=some fn1->E.ext f=none/\E.dfr f=none/\f<wX /\ ∃ fn,E.fn f=some fn/\X0 m fn fn1/\fn.gv=false/\fn1.body=vr m [] false fn.body
 ps : ∀ f fn1,wX<=f->f<zo->E1.fn f=some fn1 -> ∃ fn,X0 m fn fn1/\fn1.body=vr m [] false fn.body
theorem Agree.refl(U:Nat->Prop)(s:St):Agree U s s:=⟨rfl,fun _ _=>rfl⟩
theorem za9{res:List R}{p:Nat->Bool}(h:zeK res p=true) : ∀ r∈res,p (match r with | .tmp t=>t | .cell t _ _=>t)=true:=by intro r hr;have:=List.all_eq_true.1 h r hr;cases r<;>exact this
section
variable {E E1:Env} {m:Nat->Bool} (hP:zh2 E E1 m)
theorem zgt(hP:zh2 E E1 m){n:Nat}(ih:XE (call E n) (call E1 n)){fn fn1:Fn}(hs:X0 m fn fn1){hs':List Nat}(hl:low hs'=true)(d:Bool){ds:List D}{st s1:St}{e1:Ex}(h:exec E1 (call E1 n) n (vr m hs' d fn.body) (enter fn1 ds st)=some (e1,s1))(hb:e1 ≠ .ext zac) :
  ∃ e s,exec E (call E n) n fn.body (enter fn ds st)=some (e,s)/\zge hs' d e s e1 s1:=by
 have he:enter fn1 ds st=enter fn ds st:=by unfold enter;rw[hs.raw]
 rw[he]at h;exact zn7 hP.gl ih (zgx E n) Fq.call hl d fn.body hs.ok _ _ _ _ (Agree.refl _ _) h hb
theorem zhq(hP:zh2 E E1 m){f f1:Nat}{fn fn1:Fn}(hs:X0 m fn fn1){U:Nat->Prop}{ds:List D}{st s s1:St}(ha:Agree U s s1)(hr : ∀ r∈fn.res,U (match r with | .tmp t=>t | .cell t _ _=>t))(hw : ∀ d,kW f d=d)(hw1 : ∀ d,kW f1 d=d):jB f fn ds st s=jB f1 fn1 ds st s1:=by
 unfold jB;have hh:home fn1 ds st=home fn ds st:=by unfold home;rw[hs.raw]
 rw[hs.res,zls (E:=E) ha hr,hh];have hl : ∀ d,leave fn (home fn ds st) s d=leave fn1 (home fn ds st) s1 d:=by intro d;rw[ha.core,zgm];unfold leave;rw[hs.gv,hs.raw]
 simp only[hw,hw1,hl]
theorem zwa(hP:zh2 E E1 m)(n:Nat):XE (call E n) (call E1 n):=by
 induction n using Nat.strongRecOn with
 | ind n ih=>
 cases n with
 | zero=>exact⟨fun f ds st q _ h=>by simp[call]at h,fun f ds st d st' h=>by simp[call]at h,fun f ds st q h=>by simp[call]at h⟩
 | succ n=>
 have ihn:=ih n (zCf n);have hpN:zo=1000000:=rfl;have hdN:wX=500000:=rfl;refine⟨fun f ds st q hf h => ?_,fun f ds st d st' h => ?_,fun f ds st q h => ?_⟩
 ·-- a function as it was
  rw[call]at h ⊢;have hw : ∀ d,kW f d=d:=fun d=>by unfold kW;rw[zBt (by omega)]
  cases hx:E1.ext f with
  | some x=>rw[(hP.ext f x hx).2];rw[hx]at h;cases x<;>exact h
  | none=>
   rw[hx]at h;simp only[zA]at h;obtain⟨fn1,hfn1,h⟩:=h;obtain⟨hxe,fn,hfn,hsf,hd⟩:=hP.fn f fn1 hf hx hfn1;rw[hxe,hfn];simp only[zD];cases hdf:E.dfr f with
   | none=>
    rw[hdf]at hd;simp only at hd;rw[hd]at h;cases he:exec E1 (call E1 n) n (vr m [] false fn.body) (enter fn1 ds st)with
    | none=>rw[he]at h;simp[xK]at h
    | some w=>
     obtain⟨e1,s1⟩:=w;rw[he]at h;have hb:e1 ≠ .ext zac:=by rintro rfl;simp only[xK]at h;rw[zBt (by omega)]at h;contradiction
     obtain⟨e,s,h1,h2⟩:=zgt hP ihn hsf (hs':=[]) rfl false he hb;rw[h1];have hlow:=za9 hsf.low;cases e1 with
     | nrm=>obtain⟨rfl,ha⟩:=h2;simp only[xK,hP.dfr]at h;simp only[xK,hdf];rw[zhq hP hsf ha (fun r hr=>by have:=hlow r hr;rw[Nat.blt_eq]at this;exact this) hw hw];exact h
     | ret=>obtain⟨_,rfl,ha⟩:=h2;simp only[xK,hP.dfr]at h;simp only[xK,hdf];rw[zhq hP hsf ha (fun r hr=>by have:=hlow r hr;rw[Nat.blt_eq]at this;exact this) hw hw];exact h
     | pan d=>exact h2.elim
     | ext i=>simp only[xK]at h;rw[zBt (by omega)]at h;contradiction
   | some q'=>
    rw[hdf]at hd;obtain⟨hs,xs,g1,h1,hqx,hlh,hlx,hxh,hrh,hbd,hg1,hg2,hfg,hsg,hqr,hqg,hbg⟩:=hd;rw[hbd]at h
    -- the body, with whatever way out
    have body : ∀ s2 r,exec E1 (call E1 n) n (.blk zo (.seq (vr m hs true fn.body) (.seq (.reg [⟨some zo,.mv (.k .nili),none⟩] (zo::hs)) (.exit zo)))) (enter fn1 ds st)=some (r,s2)->(r = .nrm /\ ∃ v e s,exec E (call E n) n fn.body (enter fn ds st)=some (e,s)/\get s2.tm zo=some v/\Agree (fun t=>t∈hs) s s2/\(e = .pan v\/(e = .nrm\/e = .ret)/\v = .nili))\/(∃ i,r = .ext i/\i≠zo):=by
     intro s2 r hx;simp only[exec]at hx;cases he:exec E1 (call E1 n) n (vr m hs true fn.body) (enter fn1 ds st)with
     | none=>rw[he]at hx;simp at hx
     | some w=>
      obtain⟨e1,s1⟩:=w;rw[he]at hx;by_cases hb:e1 = .ext zac
      ·subst hb;simp only at hx;rw[zBt (by decide)]at hx;simp only[zBB,zBC]at hx;exact .inr ⟨zac,hx.1.symm,by decide⟩
      ·obtain⟨e,s,h2,h3⟩:=zgt hP ihn hsf hlh true he hb;cases e1 with
       | nrm=>
        obtain⟨rfl,ha⟩:=h3;simp only[runOps,opC,yO,opR,opX,opD,ev,zC,Rv.to,St.set,St.put,zBv,zBB,zBC]at hx;obtain⟨rfl,rfl⟩:=hx;refine .inl ⟨rfl,.nili,_,s,h2,?_,⟨ha.core,fun t ht => ?_⟩,.inr ⟨.inl rfl,rfl⟩⟩
        ·rw[yy (by simp),get_put,zBu rfl]
        ·have hlt:=vH hlh ht;rw[yy (by simp[ht]),get_put,zBt (by omega)];exact ha.tm t hlt
       | ret=>exact absurd h3.1 (by simp)
       | pan d=>exact h3.elim
       | ext i=>
        simp only at hx;by_cases hi:i=zo
        ·subst hi;rw[zBu rfl]at hx;simp only[zBB,zBC]at hx;obtain⟨rfl,rfl⟩:=hx;obtain⟨ha,h4⟩:=Vr h3;rcases h4 with⟨t,x,h5,rfl⟩ | ⟨_,h5,rfl⟩
         ·exact .inl ⟨rfl,_,_,s,h2,h5,ha,.inl rfl⟩
         ·exact .inl ⟨rfl,_,_,s,h2,h5,ha,.inr ⟨.inr rfl,rfl⟩⟩
        ·rw[zBt hi]at hx;simp only[zBB,zBC]at hx;exact .inr ⟨i,hx.1.symm,hi⟩
    unfold zv9 at h;cases hB:exec E1 (call E1 n) n (.blk zo (.seq (vr m hs true fn.body) (.seq (.reg [⟨some zo,.mv (.k .nili),none⟩] (zo::hs)) (.exit zo)))) (enter fn1 ds st)with
    | none=>have:exec E1 (call E1 n) n (.seq (.blk zo (.seq (vr m hs true fn.body) (.seq (.reg [⟨some zo,.mv (.k .nili),none⟩] (zo::hs)) (.exit zo)))) (.reg [⟨none,.call g1 (q'.1++[.s zo]),none⟩] hs)) (enter fn1 ds st)=none:=YH hB (by simp);rw[this]at h;simp[xK]at h
    | some w=>
     obtain⟨r,s2⟩:=w;rcases body s2 r hB with⟨rfl,v,e,s,h2,hv,ha,hev⟩ | ⟨i,rfl,hi⟩
     rotate_left
     ·have:exec E1 (call E1 n) n (.seq (.blk zo (.seq (vr m hs true fn.body) (.seq (.reg [⟨some zo,.mv (.k .nili),none⟩] (zo::hs)) (.exit zo)))) (.reg [⟨none,.call g1 (q'.1++[.s zo]),none⟩] hs)) (enter fn1 ds st)=some (.ext i,s2):=YH hB (by simp);rw[this]at h;simp only[xK]at h;rw[zBt (by omega)]at h;contradiction
     rw[exec,hB]at h;simp only[exec,runOps,opC,yO,opR,opX]at h
     -- what is handed over
     have hargs : ∀ l1,evL E1 s2.tm (q'.1++[.s zo])=some l1 -> ∃ l,evL E s.tm q'.1=some l/\l1=l++[v]:=by
      rw[hqx,zeD hP.gl];have hm : ∀ x∈xs,get s2.tm x=get s.tm x:=fun x hx=>ha.tm x (hxh x hx)
      clear hqx hxh hlx;induction xs with
      | nil=>intro l1 h1;simp only[List.map_nil,List.nil_append,evL,ev,hv,zD,zBB]at h1;exact⟨[],rfl,h1.symm⟩
      | cons x xs ihx=>intro l1 h1;simp only[List.map_cons,List.cons_append,evL,zA]at h1;obtain⟨d,hd,l',hl',hh⟩:=h1;injection hh with hh;subst hh;obtain⟨l,hl,rfl⟩:=ihx (fun y hy=>hm y (by simp[hy])) l' hl';refine⟨d::l,?_,rfl⟩;have hd:get s2.tm x=some d:=hd;simp only[List.map_cons,evL,ev,<- hm x (by simp),hd,zD,hl]
     cases hl1:evL E1 s2.tm (q'.1++[.s zo])with
     | none=>rw[hl1]at h;simp[xK]at h
     | some l1=>
      obtain⟨l,hl,rfl⟩:=hargs l1 hl1;rw[hl1]at h;simp only[zD]at h;cases hcg:call E1 n g1 (l++[v]) s2 with
      | none=>rw[hcg]at h;simp[xK]at h
      | some w=>
       rw[hcg]at h
       -- the deferred call itself
       have hdc : ∃ x,w.1 = .ret x/\dfrRun E (call E n) n q' s v=some { w.2 with tm:=s.tm }:=by
        cases n with
        | zero=>simp[call]at hcg
        | succ k=>
         rw[call]at hcg;have hxg:E1.ext g1=none:=by
          cases hq:E1.ext g1 with
          | none=>rfl
          | some x=>have:=(hP.ext g1 x hq).1;omega
         rw[hxg,hfg]at hcg;simp only[zD]at hcg;rw[hbg]at hcg;cases hxx:exec E1 (call E1 k) k (vr m [] false q'.2.body) (enter h1 (l++[v]) s2)with
         | none=>rw[hxx]at hcg;simp[xK]at hcg
         | some z=>
          obtain⟨e3,s3⟩:=z;rw[hxx]at hcg;have hb:e3 ≠ .ext zac:=by rintro rfl;simp only[xK]at hcg;rw[zBt (by omega)]at hcg;contradiction
          obtain⟨e4,s4,h5,h6⟩:=zgt hP (ih k (by omega)) hsg (hs':=[]) rfl false hxx hb;have hent:enter q'.2 (l++[v]) s2=enter q'.2 (l++[v]) s:=by have:=zoI q'.2 (l++[v]) s2 s.tm;rw[<- ha.core]at this;exact this.symm
          rw[hent]at h5;have h5':=kU (xj E (Nat.le_succ k)) (Nat.le_succ k) h5;have hhome:home h1 (l++[v]) s2=home q'.2 (l++[v]) s2:=by unfold home;rw[hsg.raw]
          have hlv : ∀ d,leave h1 (home q'.2 (l++[v]) s2) s3 d=leave q'.2 (home q'.2 (l++[v]) s2) s3 d:=by intro d;unfold leave;rw[hsg.gv,hsg.raw]
          have fin:Agree Vg s4 s3->jB g1 h1 (l++[v]) s2 s3=some w->(e4 = .nrm\/e4 = .ret) -> ∃ x,w.1 = .ret x/\dfrRun E (call E (k+1)) (k+1) q' s v=some { w.2 with tm:=s.tm }:=by
           intro hag hr hee;have hw1 : ∀ d,kW g1 d=d:=fun d=>by unfold kW;rw[zBt (by omega)]
           simp only[jB,hsg.res,hqr,jI,zC,hw1,one,hhome,hlv,zBB]at hr;subst hr;refine⟨_,rfl,?_⟩;have hf:(leave q'.2 (home q'.2 (l++[v]) s) s4 (.tup [])).2={ (leave q'.2 (home q'.2 (l++[v]) s2) s3 (.tup [])).2 with tm:=s.tm }:=by
            have e1:s={ s2 with tm:=s.tm }:=ha.core;have e2:s4={ s3 with tm:=s4.tm }:=hag.core;rw[e2,zgm]
            conv=>lhs;rw[e1]
            rw[V9,XS]
           unfold dfrRun;rw[hl];simp only[zD];rw[h5'];rcases hee with rfl | rfl<;>simp only[hf]
          cases e3 with
          | nrm=>obtain⟨rfl,hag⟩:=h6;simp only[xK,hP.dfr]at hcg;exact fin hag hcg (.inl rfl)
          | ret=>obtain⟨_,rfl,hag⟩:=h6;simp only[xK,hP.dfr]at hcg;exact fin hag hcg (.inr rfl)
          | pan d=>exact h6.elim
          | ext i=>simp only[xK]at hcg;rw[zBt (by omega)]at hcg;contradiction
       obtain⟨x,hw1,hdr⟩:=hdc;obtain⟨o,s5⟩:=w;simp only at hw1 hdr;subst hw1;simp only[zC,outV,Rv.to,St.set,St.put,xK,hP.dfr]at h;have htm5:s5.tm=s2.tm:=(Fq.call (E:=E1) _ _ _ _ _ hcg).tm;have hag:Agree (fun t=>t∈hs) { s5 with tm:=s.tm } { s5 with tm:=kept hs s5.tm }:=by refine⟨rfl,fun t ht => ?_⟩;show get (kept hs s5.tm) t=get s.tm t;rw[yy ht,htm5];exact ha.tm t ht
       have hres:jB f fn ds st { s5 with tm:=s.tm }=some q:=by rw[zhq hP hsf hag (fun r hr=>kD.1 (za9 hrh r hr)) hw hw];exact h
       rw[h2];rcases hev with rfl | ⟨hev | hev,rfl⟩
       ·simp only[xK,hdf,hdr,zD];exact hres
       ·subst hev;simp only[xK,hdf,hdr,zD];exact hres
       ·subst hev;simp only[xK,hdf,hdr,zD];exact hres
 ·-- nothing panics
  rw[call]at h;have np : ∀ {c:C} {hs':List Nat} {b:Bool} {s s':St} {x:D},okC c=true->low hs'=true->exec E1 (call E1 n) n (vr m hs' b c) s=some (.pan x,s')->False:=by intro c hs' b s s' x hok hl hx;obtain⟨e,s2,_,h2⟩:=zn7 hP.gl ihn (zgx E n) Fq.call hl b c hok s s s' (.pan x) (Agree.refl _ _) hx (by simp);exact h2
  have ends : ∀ {fn1:Fn} {w:Option (Ex×St)},(∀ x s',w≠some (.pan x,s'))->xK E1 (call E1 n) n f fn1 ds st w=some (.pan d,st')->False:=by
   intro fn1 w hw h
   match w,hw with
   | none,_=>simp[xK]at h
   | some (.pan x,s'),hw=>exact hw x s' rfl
   | some (.nrm,s'),_=>simp[xK,hP.dfr,jB]at h
   | some (.ret,s'),_=>simp[xK,hP.dfr,jB]at h
   | some (.ext i,s'),_=>
    simp only[xK]at h;split at h
    ·simp at h
    ·contradiction
  cases hx:E1.ext f with
  | some x=>rw[hx]at h;cases x<;>simp at h
  | none=>
   rw[hx]at h;simp only[zA]at h;obtain⟨fn1,hfn1,h⟩:=h;refine ends (fun x s' he => ?_) h;rcases zBD f wX with hf | hf
   ·obtain⟨_,fn,_,hsf,hd⟩:=hP.fn f fn1 hf hx hfn1;split at hd
    ·rw[hd]at he;exact np hsf.ok rfl he
    ·obtain⟨hs,xs,g1,h1,hqx,hlh,hlx,hxh,hrh,hbd,_⟩:=hd;rw[hbd]at he;unfold zv9 at he;simp only[exec]at he;split at he
     ·next s2 hb=>
      simp only[runOps]at he;split at he
      ·next s3 ho=>
       split at ho
       ·simp at he
       ·next hne=>simp at he
      ·next d' s3 ho=>
       simp only[zBB,zBC]at he;split at ho
       ·simp at ho
       ·next hne=>
        simp only[opC,yO,opR,opX,zB,zA]at ho;obtain⟨w,⟨l,hl,⟨o,s4⟩,hcl,rfl⟩,hv⟩:=ho;cases o with
        | ret y=>simp[outV,Rv.to]at hv
        | pan y=>exact ihn.np _ _ _ _ _ hcl
      ·contradiction
     ·next hne=>
      -- from within
      cases hB:exec E1 (call E1 n) n (vr m hs true fn.body) (enter fn1 ds st)with
      | none=>rw[hB]at he;simp at he
      | some w=>
       obtain⟨e1,s1⟩:=w;rw[hB]at he;cases e1 with
       | pan y=>exact np hsf.ok hlh hB
       | ret=>simp at he
       | nrm=>simp only[runOps,opC,yO,opR,opX,opD,ev,zC,Rv.to]at he;simp at he
       | ext i=>simp only at he;split at he<;>simp at he
   ·rcases zBD f zo with hf2 | hf2
    ·obtain⟨fn,hsf,hbd⟩:=hP.ps f fn1 hf hf2 hfn1;rw[hbd]at he;exact np hsf.ok rfl he
    ·obtain⟨g,rfl⟩ : ∃ g,f=g+zo:=⟨f-zo,by omega⟩
     obtain⟨_,_,_,fn,_,hsf,_,hbd⟩:=hP.pn g fn1 hfn1;rw[hbd]at he;exact np hsf.ok rfl he
 ·-- a function that yields its panic
  rw[call]at h ⊢;have hxe:E1.ext (f+zo)=none:=by
   cases hq:E1.ext (f+zo)with
   | none=>rfl
   | some x=>have:=(hP.ext _ x hq).1;omega
  rw[hxe]at h;simp only[zA]at h;obtain⟨fn1,hfn1,h⟩:=h;obtain⟨hx,hdf,hf,fn,hfn,hsf,hgv,hbd⟩:=hP.pn f fn1 hfn1;rw[hx,hfn];simp only[zD];rw[hbd]at h;have hw : ∀ d,kW f d=d:=fun d=>by unfold kW;rw[zBt (by omega)]
  have hw1 : ∀ d,kW (f+zo) d = .tup [.bool true,d]:=fun d=>by unfold kW;rw[zBu (by omega)]
  have hh:home fn1 ds st=home fn ds st:=by unfold home;rw[hsf.raw]
  have hlv : ∀ s d,leave fn1 (home fn ds st) s d=leave fn (home fn ds st) s d:=by intro s d;unfold leave;rw[hsf.gv,hsf.raw]
  cases he:exec E1 (call E1 n) n (vr m [] false fn.body) (enter fn1 ds st)with
  | none=>rw[he]at h;simp[xK]at h
  | some w=>
   obtain⟨e1,s1⟩:=w;rw[he]at h;have hb:e1 ≠ .ext zac:=by rintro rfl;simp only[xK]at h;rw[zBt (by intro hc;exact absurd hc.1 (by decide))]at h;contradiction
   obtain⟨e,s,h1,h2⟩:=zgt hP ihn hsf (hs':=[]) rfl false he hb;rw[h1];have hlow:=za9 hsf.low;have fin:Agree Vg s s1->jB (f+zo) fn1 ds st s1=some q -> ∃ b d st',q=(.ret (.tup [.bool b,d]),st')/\jB f fn ds st s=some (if b=true then .ret d else .pan d,st')/\(b=false -> ∃ t x,d = .iface t x):=by
    intro ha hr;have hl : ∀ d,leave fn (home fn ds st) s d=leave fn (home fn ds st) s1 d:=by intro d;rw[ha.core,zgm]
    have hro:jI s fn.res=jI s1 fn.res:=zls (E:=E) ha (fun r hr=>by have:=hlow r hr;rw[Nat.blt_eq]at this;exact this);simp only[jB,hsf.res,hh,hlv,hw1,zlv hgv,zB]at hr;obtain⟨l,hl1,rfl⟩:=hr;refine⟨true,_,_,rfl,?_,by simp⟩;simp only[jB,hro,hl1,hw,hl,zC,zBv]
   cases e1 with
   | nrm=>obtain⟨rfl,ha⟩:=h2;simp only[xK,hP.dfr]at h;simp only[xK,hdf];exact fin ha h
   | ret=>obtain⟨_,rfl,ha⟩:=h2;simp only[xK,hP.dfr]at h;simp only[xK,hdf];exact fin ha h
   | pan d=>exact h2.elim
   | ext i=>
    simp only[xK]at h;by_cases hi:i=zo
    ·subst hi;rw[zBu ⟨rfl,by omega⟩]at h;obtain⟨ha,h4⟩:=Vr h2;rcases h4 with⟨t,x,h5,rfl⟩ | ⟨hf,_⟩
     ·rw[h5]at h;simp only[zC,hh,hlv,zlv hgv,zBB]at h;subst h;have hl : ∀ d,leave fn (home fn ds st) s d=leave fn (home fn ds st) s1 d:=by intro d;rw[ha.core,zgm]
      refine⟨false,_,_,rfl,?_,fun _ => ?_⟩
      ·simp only[xK,hdf,hl,zF,zBw]
      ·unfold leave;rw[hgv];simp only[zF,zBw];split
       ·exact⟨_,_,rfl⟩
       ·split<;>exact⟨_,_,rfl⟩
     ·simp at hf
    ·rw[zBt (fun hc=>hi hc.1)]at h;contradiction
theorem ztw(hP:zh2 E E1 m){f:Nat}(hf:f<wX){ds:List D}{st:St}{q:Out×St}(h:zz E1 f ds st=some q):zz E f ds st=some q:=by obtain⟨n,hn⟩:=wJ.1 h;exact wJ.2 ⟨n,(zwa hP n).pl f ds st q hf hn⟩
end
def zrJ(fn:Fn):Bool:=okC fn.body&&zeK fn.res (fun t=>Nat.blt t zo)
def zvg(m:Nat->Bool)(fn:Fn):Fn:=⟨fn.np,fn.res,fn.raw,fn.gv,vr m [] false fn.body⟩
theorem VB{m:Nat->Bool}{fn:Fn}(h:zrJ fn=true):X0 m fn (zvg m fn):=by simp only[zrJ,zG]at h;exact⟨rfl,rfl,rfl,rfl,h.1,h.2⟩
def Ent(E E1:Env)(m:Nat->Bool)(f:Nat)(fn1:Fn):Prop:=
 (f<wX/\E.ext f=none /\ ∃ fn,E.fn f=some fn/\X0 m fn fn1/\match E.dfr f with
  | none=>fn1.body=vr m [] false fn.body
  | some q => ∃ hs xs g1 h1,q.1=xs.map X.s/\low hs=true/\low xs=true/\(∀ x∈xs,x∈hs)/\zeK fn.res (fun t=>has hs t)=true/\fn1.body=zv9 m hs g1 q fn.body/\wX<=g1/\g1<zo/\E1.fn g1=some h1/\X0 m q.2 h1/\q.2.res=[]/\q.2.gv=false/\h1.body=vr m [] false q.2.body) \/
 (wX<=f/\f<zo /\ ∃ fn,X0 m fn fn1/\fn1.body=vr m [] false fn.body) \/
 (∃ g,f=g+zo/\E.ext g=none/\E.dfr g=none/\g<wX /\ ∃ fn,E.fn g=some fn/\X0 m fn fn1/\fn.gv=false/\fn1.body=vr m [] false fn.body)
section
variable {E E1:Env} {m:Nat->Bool}
theorem Ent.pl{f:Nat}{fn1:Fn}(fn:Fn)(hf:Nat.blt f wX=true)(hx:E.ext f=none)(hn:E.fn f=some fn)(hd:E.dfr f=none)(hs:fn1=zvg m fn)(ho:zrJ fn=true):Ent E E1 m f fn1:=by subst hs;refine .inl ⟨by simpa using hf,hx,fn,hn,VB ho,?_⟩;rw[hd];rfl
theorem Ent.ps{f:Nat}{fn1:Fn}(fn:Fn)(h1:Nat.ble wX f=true)(h2:Nat.blt f zo=true)(hs:fn1=zvg m fn)(ho:zrJ fn=true):Ent E E1 m f fn1:=by subst hs;exact .inr (.inl ⟨by simpa using h1,by simpa using h2,fn,VB ho,rfl⟩)
theorem Ent.pn{f:Nat}{fn1:Fn}(g:Nat)(fn:Fn)(hg:f=g+zo)(hf:Nat.blt g wX=true)(hx:E.ext g=none)(hn:E.fn g=some fn)(hd:E.dfr g=none)(hgv:fn.gv=false)(hs:fn1=zvg m fn)(ho:zrJ fn=true):Ent E E1 m f fn1:=by subst hs;exact .inr (.inr ⟨g,hg,hx,hd,by simpa using hf,fn,hn,VB ho,hgv,rfl⟩)
def zBm(xs hs:List Nat):Bool:=xs.all fun x=>has hs x
theorem Ent.df{f:Nat}{fn1:Fn}(fn:Fn)(q:List X×Fn)(hs xs:List Nat)(g1:Nat)(h1:Fn)(hf:Nat.blt f wX=true)(hx:E.ext f=none)(hn:E.fn f=some fn)(hd:E.dfr f=some q)(hq:q.1=xs.map X.s)(hk:(low hs&&low xs&&zBm xs hs&&zeK fn.res (fun t=>has hs t)&&Nat.ble wX g1&&Nat.blt g1 zo&&zrJ fn&&zrJ q.2)=true)
  (hb:fn1=⟨fn.np,fn.res,fn.raw,fn.gv,zv9 m hs g1 q fn.body⟩) (h1n:E1.fn g1=some h1) (hh:h1=zvg m q.2) (hr:q.2.res=[]) (hgv:q.2.gv=false):Ent E E1 m f fn1:=by
 subst hb hh;simp only[zG]at hk;obtain⟨⟨⟨⟨⟨⟨⟨k1,k2⟩,k3⟩,k4⟩,k5⟩,k6⟩,k7⟩,k8⟩:=hk;have hok:=VB (m:=m) k7;refine .inl ⟨by simpa using hf,hx,fn,hn,⟨rfl,rfl,rfl,rfl,hok.ok,hok.low⟩,?_⟩;rw[hd];exact⟨hs,xs,g1,_,hq,k1,k2,fun x hx=>kD.1 (List.all_eq_true.1 k3 x hx),k4,rfl,by simpa using k5,by simpa using k6,h1n,VB k8,hr,hgv,rfl⟩
def Ents(E E1:Env)(m:Nat->Bool)(l:List (Nat×Fn)):Prop := ∀ p∈l,Ent E E1 m p.1 p.2
theorem Ents.nil:Ents E E1 m []:=fun p hp=>by simp at hp
theorem Ents.cons{f:Nat}{fn:Fn}{l:List (Nat×Fn)}(h:Ent E E1 m f fn)(hl:Ents E E1 m l):Ents E E1 m ((f,fn)::l):=by
 intro p hp;rcases List.mem_cons.1 hp with rfl | hp
 ·exact h
 ·exact hl p hp
theorem zvJ{l:List (Nat×Fn)}(hl:Ents E E1 m l)(h1:E1.fn=look l)(hg:E1.gl=E.gl)(hd : ∀ f,E1.dfr f=none)(hx : ∀ f x,E1.ext f=some x->f<wX/\E.ext f=some x):zh2 E E1 m where
 gl:=hg
 dfr:=hd
 ext:=hx
 fn f fn1 hf _ hn:=by
  rw[h1]at hn;have hpN:zo=1000000:=rfl;have hdN:wX=500000:=rfl;rcases hl _ (zcV hn)with h | h | h
  ·exact⟨h.2.1,h.2.2⟩
  ·have:=h.1;omega
  ·obtain⟨g,hg,_⟩:=h;omega
 pn f fn1 hn:=by
  rw[h1]at hn;have hpN:zo=1000000:=rfl;have hdN:wX=500000:=rfl;rcases hl _ (zcV hn)with h | h | h
  ·have:=h.1;omega
  ·have:=h.2.1;omega
  ·obtain⟨g,hg,h⟩:=h;have:f=g:=by omega
   subst this;exact h
 ps f fn1 hf hf2 hn:=by
  rw[h1]at hn;have hpN:zo=1000000:=rfl;have hdN:wX=500000:=rfl;rcases hl _ (zcV hn)with h | h | h
  ·have:=h.1;omega
  ·exact h.2.2
  ·obtain⟨g,hg,_⟩:=h;omega
end
end
section
inductive V where
 | bool (b:Bool)
 | int (k:IntKind) (n:Int)
 | float (k:FloatKind) (b:Nat)
 | str (s:List UInt8)
 | nilp | nilf | nili
 | sl (xs:List V)
 | agg (xs:List V)
 | tup (xs:List V)
 | fn (f:Nat) (cap:List V)
 | iface (t:Nat) (x:V)
mutual
def V.toD:V->D
 | .bool b => .bool b
 | .int k n => .int k n
 | .float k b => .float k b
 | .str s => .str s
 | .nilp => .nilp
 | .nilf => .nilf
 | .nili => .nili
 | .sl xs => .sl .no xs.length (flatD xs)
 | .agg xs => .agg (toDL xs)
 | .tup xs => .tup (toDL xs)
 | .fn f c => .fn f (toDL c)
 | .iface t x => .iface t x.toD
def toDL:List V->List D
 | []=>[]
 | x::r=>x.toD::toDL r
def flatD:List V->List D
 | []=>[]
 | x::r=>x.toD.cells++flatD r
end
def V.parts:V->List V
 | .agg xs=>xs
 | x=>[x]
def V.one:V->Bool
 | .agg _ | .tup _=>false
 | _=>true
def yE:List V->Bool
 | []=>true
 | x::r=>x.one&&yE r
def okN(n:Nat)(x:V):Bool:=Nat.beq x.parts.length n&&yE x.parts
def yi(sz:Nat):List V->Bool
 | []=>true
 | x::r=>okN sz x&&yi sz r
def tst{ρ:Type}(b:Bool)(k:Option ρ):Option ρ:=match b with | true=>k | false=>none
def asBool:V->Option Bool
 | .bool b=>some b
 | _=>none
def zfa:V->Option (List UInt8)
 | .str s=>some s
 | _=>none
def yN(sz:Nat):V->Option (List V)
 | .sl xs=>match yi sz xs with | true=>some xs | false=>none
 | _=>none
def zz6:V->Option (Nat×List V)
 | .fn f c=>some (f,c)
 | _=>none
def ze(x:V)(i:Nat):Option V:=x.parts[i]?
def zAX(x:V)(i:Nat):Option V:=match x with | .agg xs=>xs[i]? | _=>none
def Wi(x:V)(off sz:Nat):V := .agg ((x.parts.drop off).take sz)
def zAE(x:V)(off sz:Nat):Option V:=match x with | .agg xs=>if off+sz<=xs.length then some (.agg ((xs.drop off).take sz))else none | _=>none
def Jm:BinOp->IntKind->Int->Int->Option V
 | .add,k,a,b=>some (.int k (k.wrap (a+b)))
 | .sub,k,a,b=>some (.int k (k.wrap (a-b)))
 | .mul,k,a,b=>some (.int k (k.wrap (a*b)))
 | .quo,k,a,b=>if b=0 then none else some (.int k (k.wrap (a.tdiv b)))
 | .rem,k,a,b=>if b=0 then none else some (.int k (a.tmod b))
 | .and,k,a,b=>some (.int k (bits .and k a b))
 | .or,k,a,b=>some (.int k (bits .or k a b))
 | .xor,k,a,b=>some (.int k (bits .xor k a b))
 | .andNot,k,a,b=>some (.int k (bits .andNot k a b))
 | .eql,_,a,b=>some (.bool (a==b))
 | .neq,_,a,b=>some (.bool (a != b))
 | .lss,_,a,b=>some (.bool (decide (a<b)))
 | .leq,_,a,b=>some (.bool (decide (a<=b)))
 | .gtr,_,a,b=>some (.bool (decide (a>b)))
 | .geq,_,a,b=>some (.bool (decide (a≥b)))
 | .shl,k,a,b=>if b<0 then none else some (.int k (k.wrap (a*2^Nat.min b.toNat k.bits)))
 | .shr,k,a,b=>if b<0 then none else some (.int k (a.fdiv (2^Nat.min b.toNat k.bits)))
def zz7:BinOp->List UInt8->List UInt8->Option V
 | .add,a,b=>if a.length+b.length<=9223372036854775807 then some (.str (a++b))else none
 | .eql,a,b=>some (.bool (a==b))
 | .neq,a,b=>some (.bool (!(a==b)))
 | .lss,a,b=>some (.bool (Op.bytesLess a b))
 | .leq,a,b=>some (.bool (Op.bytesLess a b||a==b))
 | .gtr,a,b=>some (.bool !(Op.bytesLess a b||a==b))
 | .geq,a,b=>some (.bool !(Op.bytesLess a b))
 | _,_,_=>none
def zc(op:BinOp):V->V->Option V
 | .int k a,.int k' b=>if Y7 op||decide (k=k')then Jm op k a b else none
 | .str a,.str b=>zz7 op a b
 | .float k a,.float k' b=>if k=k' then(zzS k op a b).map .bool else none
 | _,_=>none
def unV:UnOp->V->Option V
 | .neg,.int k n=>some (.int k (k.wrap (0-n)))
 | .xor,.int k n=>some (.int k (bits .xor k (if k.signed then -1 else k.max) n))
 | .not,.bool b=>some (.bool !b)
 | _,_=>none
def zaF(neg:Bool):V->Option V
 | .nili=>some (.bool (!neg))
 | .iface _ _=>some (.bool neg)
 | _=>none
def zza(t:Nat)(ok:Bool):V->Option V
 | .iface u x=>if u=t then some (if ok then .tup [x,.bool true]else x)else none
 | _=>none
def jA(k:IntKind):V->Option V
 | .int _ n=>some (.int k (k.wrap n))
 | _=>none
def zAZ:V->Option V
 | .str s=>some (.str s)
 | _=>none
def JI:List V->Option (List UInt8)
 | []=>some []
 | .int .u8 n::r=>(JI r).bind fun l=>some (UInt8.ofNat n.toNat::l)
 | _=>none
def XW(l:List UInt8):List V:=l.map fun b => .int .u8 b.toNat
def zdU(d:Option V)(dflt:Nat):Option Nat:=
 match d with
 | none=>some dflt
 | some (.int _ i)=>if 0<=i then some i.toNat else none
 | some _=>none
def Wk(l h:Option V)(n:Nat):Option (Nat×Nat):=
 (zdU l 0).bind fun l'=>(zdU h n).bind fun h'=>if l'<=h'/\h'<=n then some (l',h')else none
def ztk(l h m:Option V)(n:Nat):Option (Nat×Nat):=
 (zdU l 0).bind fun l'=>(zdU h n).bind fun h'=>(zdU m n).bind fun m'=>if h.isSome=true/\l'<=h'/\h'=m'/\m'<=n then some (l',h')else none
def zxt(l h m:Option V)(n c:Nat):Option (Nat×Nat×Nat):=
 (zdU l 0).bind fun l'=>(zdU h n).bind fun h'=>(zdU m c).bind fun m'=>if(m.isNone=true\/h.isSome=true)/\l'<=h'/\h'<=m'/\m'<=c then some (l',h',m')else none
def zm2(x:V)(l h:Option V):Option V:=
 match x with
 | .str s=>(Wk l h s.length).bind fun q=>some (.str ((s.drop q.1).take (q.2-q.1)))
 | _=>none
def y3(i:V)(n:Nat):Option Nat:=
 match i with
 | .int _ i=>if 0<=i/\i<n then some i.toNat else none
 | _=>none
def zjE(ag:Bool)(n sz:Nat)(x i:V):Option V:=
 match x with
 | .agg xs=>(y3 i n).bind fun i=>if ag then(if(i+1)*sz<=xs.length then some (.agg ((xs.drop (i*sz)).take sz))else none)else xs[i*sz]?
 | _=>none
def ZE(x i:V):Option V:=
 match x with
 | .str s=>(y3 i s.length).bind fun i=>(s[i]?).bind fun b=>some (.int .u8 b.toNat)
 | _=>none
def zj(x:V)(i:Nat):Option V:=match x with | .tup xs=>xs[i]? | _=>none
def yw:V->Option Nat
 | .sl xs=>some xs.length
 | _=>none
def zaj:V->Option Nat
 | .str s=>some s.length
 | _=>none
def zpl:V->List V->Option V
 | .int k x,[]=>some (.int k x)
 | .int k x,.int k' y::r=>if k=k' then zpl (.int k (if y<x then y else x)) r else none
 | _,_=>none
def zpH:V->List V->Option V
 | .int k x,[]=>some (.int k x)
 | .int k x,.int k' y::r=>if k=k' then zpH (.int k (if x<y then y else x)) r else none
 | _,_=>none
def zjV(bytes:Nat)(n c:V):Option (Nat×Nat):=
 match n,c with
 | .int .i64 n,.int .i64 c=>if 0<=n/\n<=c/\c*bytes<=140737488355328/\c<=140737488355328 then some (n.toNat,c.toNat)else none
 | _,_=>none
def wZ(bytes n m:Nat):Bool:=decide ((n+m)*bytes<=140737488355328)&&decide (n+m<=140737488355328)
def zz8(bytes:Nat):V->Option Nat
 | .int .i64 m=>if 0<=m/\m<=140737488355328/\m.toNat*bytes<=140737488355328 then some m.toNat else none
 | _=>none
def Kj:List V->V
 | [x]=>x
 | xs => .agg xs
inductive CP where
 | v (x:V) | p (k off:Nat)
inductive PS where
 | v (x:V)
 | own (id sz:Nat) (xs:List V)
 | full (xs:List V)
 | ptr (k off:Nat)
 | ptrA (k sz i off:Nat)
 | ref (k sz off n c:Nat) (z:Bool)
 | el (cs:List V)
 | elx (sz:Nat) (x:V) (off:Nat)
 | fn (f:Nat) (cap:List CP)
 | uref (k sz n:Nat)
inductive PD where
 | s (p:PS) | agg (ps:List PS)
inductive Fz where
 | no | may | yes
inductive RowC where
 | box (n:Nat) (x:V)
 | cells (ps:List PS)
 | arr (fz:Fz) (sz:Nat) (xs:List V)
 | iter (s:List UInt8) (pos:Nat)
 | bld (t e:Nat) (s:List UInt8)
 | dead
structure Row where
 ro:Bool
 c:RowC
abbrev PTm:=List (Nat×Bool×PD)
structure PSt where
 tm:PTm
 rows:List Row
 ni:Nat
 lim:Nat
inductive PA where
 | v (x:V) | p (j off:Nat) | fn (f:Nat) (cap:List CP) | o (sz:Nat) (xs:List V) | g | u
abbrev PcT:=Nat->List PA->List (Bool×Nat×V)->Option (V×List V)
inductive Md where
 | pl | gv (sz:Nat) | raw (sz:Nat) | ful | gvf (sz:Nat) | eff (e:Eff)
structure Gl where
 g:Nat->Option (List V)
 md:Nat->Md
 tx:Nat->Option (List V->Option V)
def zja:PTm->Nat->Option PD
 | [],_=>none
 | (i,_,d)::r,t=>match Nat.beq i t with | true=>some d | false=>zja r t
def zvf:PTm->Nat->PD->Option PTm
 | [],t,d=>some [(t,false,d)]
 | (i,f,e)::r,t,d=>match Nat.beq i t with
  | true=>match f with | true=>none | false=>some ((t,false,d)::r)
  | false=>match zvf r t d with | some r'=>some ((i,f,e)::r') | none=>none
def zsZ:PTm->Nat->Option PTm
 | [],_=>some []
 | (i,f,e)::r,t=>match Nat.beq i t with
  | true=>match f with | true=>none | false=>zsZ r t
  | false=>match zsZ r t with | some r'=>some ((i,f,e)::r') | none=>none
def hasB:List Nat->Nat->Bool
 | [],_=>false
 | i::r,t=>match Nat.beq i t with | true=>true | false=>hasB r t
def zaV(l:List Nat):PTm->PTm
 | []=>[]
 | (i,e)::r=>match hasB l i with | true=>(i,e)::zaV l r | false=>zaV l r
def setR(rows:List Row)(k:Nat)(r:Row):List Row:=rows.set k r
def zjv(p:PSt)(k:Nat):Option RowC:=match p.rows[k]? with | some ⟨false,c⟩=>some c | _=>none
def zad(p:PSt)(k:Nat):Option RowC:=match p.rows[k]? with | some ⟨_,c⟩=>some c | none=>none
def PSt.setR(p:PSt)(k:Nat)(c:RowC):PSt:={ p with rows:=p.rows.set k ⟨false,c⟩ }
def PSt.newR(p:PSt)(c:RowC):PSt:={ p with rows:=p.rows++[⟨false,c⟩] }
def PS.strip(id:Nat):PS->PS
 | .own i sz xs=>match Nat.beq i id with | true => .v (.sl xs) | false => .own i sz xs
 | q=>q
def stripL(id:Nat):List PS->List PS
 | []=>[]
 | q::r=>q.strip id::stripL id r
def PD.strip(id:Nat):PD->PD
 | .s q => .s (q.strip id)
 | .agg ps => .agg (stripL id ps)
def RowC.strip(id:Nat):RowC->RowC
 | .cells ps => .cells (stripL id ps)
 | c=>c
def znl(id:Nat):PTm->PTm
 | []=>[]
 | (i,f,d)::r=>(i,f,d.strip id)::znl id r
def stripR(id:Nat):List Row->List Row
 | []=>[]
 | ⟨f,c⟩::r=>⟨f,c.strip id⟩::stripR id r
def PSt.strip(p:PSt)(id:Nat):PSt:={ p with tm:=znl id p.tm,rows:=stripR id p.rows }
def PS.pure:PS->Option V
 | .v x=>some x
 | .own _ _ xs=>some (.sl xs)
 | .full xs=>some (.sl xs)
 | .fn f cap=>match cap with | []=>some (.fn f []) | _=>none
 | _=>none
def Yi:List PS->Option (List V)
 | []=>some []
 | q::r=>match q.pure with | some x=>(match Yi r with | some l=>some (x::l) | none=>none) | none=>none
def PD.pureV:PD->Option V
 | .s q=>q.pure
 | .agg ps=>match Yi ps with | some l=>some (.agg l) | none=>none
def PS.outV(p:PSt):PS->Option V
 | .ref k _ off n _ _=>match zad p k with | some (.arr _ _ xs)=>some (.sl ((xs.drop off).take n)) | _=>none
 | .uref k _ n=>match zad p k with | some (.arr _ _ xs)=>some (.sl (xs.take n)) | _=>none
 | q=>q.pure
def zbQ(p:PSt):List PS->Option (List V)
 | []=>some []
 | q::r=>match q.outV p with | some x=>(match zbQ p r with | some l=>some (x::l) | none=>none) | none=>none
def PD.outV(p:PSt):PD->Option V
 | .s q=>q.outV p
 | .agg ps=>match zbQ p ps with | some l=>some (.agg l) | none=>none
def PS.refs:PS->List (Nat×Bool)
 | .ref k _ _ _ _ z=>[(k,z)]
 | .uref k _ _=>[(k,false)]
 | _=>[]
def ziC:List PS->List (Nat×Bool)
 | []=>[]
 | q::r=>q.refs++ziC r
def PD.refs:PD->List (Nat×Bool)
 | .s q=>q.refs
 | .agg ps=>ziC ps
def zwG:List PS->Option (List V)
 | []=>some []
 | .v x::r=>match zwG r with | some l=>some (x::l) | none=>none
 | _=>none
def PS.oneP:PS->Bool
 | .v x=>x.one
 | _=>true
def zre:List PS->Bool
 | []=>true
 | q::r=>q.oneP&&zre r
def zkJ(ps:List PS):PD:=match zwG ps with | some l => .s (.v (.agg l)) | none => .agg ps
mutual
def ofD:D->Option V
 | .bool b=>some (.bool b)
 | .int k n=>some (.int k n)
 | .float k b=>some (.float k b)
 | .str s=>some (.str s)
 | .nilp=>some .nilp
 | .nilf=>some .nilf
 | .nili=>some .nili
 | .agg ds=>match ofDL ds with | some l=>some (.agg l) | none=>none
 | .fn f c=>match c with | []=>some (.fn f []) | _=>none
 | .iface t d=>match ofD d with | some x=>some (.iface t x) | none=>none
 | _=>none
def ofDL:List D->Option (List V)
 | []=>some []
 | d::r=>match ofD d with | some x=>(match ofDL r with | some l=>some (x::l) | none=>none) | none=>none
end
def zel:D->Option PS
 | .sl .full 0 []=>some (.full [])
 | .fn f []=>some (.fn f [])
 | d=>match ofD d with | some x=>some (.v x) | none=>none
def WW:List D->Option (List PS)
 | []=>some []
 | d::r=>match zel d with | some x=>(match WW r with | some l=>some (x::l) | none=>none) | none=>none
def zqa:D->Option PD
 | .agg ds=>match WW ds with | some l=>(match zre l with | true=>some (zkJ l) | false=>none) | none=>none
 | d=>match zel d with | some q=>some (.s q) | none=>none
def znZ(z:List D):Option (List V):=
 match WW z with
 | some l=>match zre l with
  | true=>match Yi l with
   | some l=>match Nat.blt 0 l.length with | true=>some l | false=>none
   | none=>none
  | false=>none
 | none=>none
def zr0:List D->Bool
 | []=>true
 | d::r=>match d with | .int .u8 (.ofNat 0)=>zr0 r | _=>false
def zqz(z:List D):Option Nat:=match zr0 z with
 | true=>match Nat.blt 2 z.length with | true=>some z.length | false=>none
 | false=>none
def evH(gl:Gl)(p:PSt):X->Option PD
 | .s t=>zja p.tm t
 | .k d=>zqa d
 | .g n=>match gl.g n with | some cs=>some (.s (.el cs)) | none=>none
def evV(gl:Gl)(p:PSt)(x:X):Option V:=match evH gl p x with | some (.s (.v x))=>some x | _=>none
def zt0(gl:Gl)(p:PSt):List X->Option (List V)
 | []=>some []
 | x::r=>match evV gl p x with | some d=>(match zt0 gl p r with | some l=>some (d::l) | none=>none) | none=>none
def zhj(gl:Gl)(p:PSt):Option X->Option (Option V)
 | none=>some none
 | some x=>match evV gl p x with | some d=>some (some d) | none=>none
def zlU(gl:Gl)(p:PSt):List X->Option (List PD)
 | []=>some []
 | x::r=>match evH gl p x with | some d=>(match zlU gl p r with | some l=>some (d::l) | none=>none) | none=>none
section
variable {ρ:Type}
def qv(x:V)(i:Nat):Nat->(List PS->Option ρ)->Option ρ
 | 0,K=>K []
 | n+1,K=>(ze x i).bind fun c=>qv x (i+1) n fun l=>K (.v c::l)
def vz(n:Nat)(d:PD)(K:List PS->Option ρ):Option ρ:=
 match d with
 | .s (.v x)=>tst (okN n x) (qv x 0 n K)
 | .s (.el _) | .s (.elx _ _ _)=>none
 | .s q=>match Nat.beq n 1 with | true=>K [q] | false=>none
 | .agg ps=>match Nat.beq ps.length n with | true=>K ps | false=>none
def wG{α:Type}(xs:List α)(o:Nat)(ys:List α):List α:=xs.take o++ys++xs.drop (o+ys.length)
def zbh(gl:Gl)(p:PSt)(cells:List PS):List (Nat×Nat×X)->(List PS->Option ρ)->Option ρ
 | [],K=>K cells
 | (o,n,x)::r,K=>match evH gl p x with
  | some d=>match Nat.ble (o+n) cells.length with
   | true=>vz n d fun cs=>zbh gl p (wG cells o cs) r K
   | false=>none
  | none=>none
def elK(sz:Nat)(els:List V)(o n:Nat)(x:V)(K:List V->Option ρ):Option ρ:=
 match Nat.beq n sz&&Nat.beq (o%sz) 0 with
 | true=>match Nat.beq sz 1 with
  | true=>tst (okN 1 x) ((ze x 0).bind fun c=>K (els.set (o/sz) c))
  | false=>tst (okN sz x) (K (els.set (o/sz) x))
 | false=>match Nat.beq sz 1 with
  | true=>none
  | false=>match els[o/sz]? with
   | some (.agg xs)=>match Nat.ble (o%sz+n) xs.length&&Nat.blt 0 n with
    | true=>tst (okN n x) (K (els.set (o/sz) (.agg (wG xs (o%sz) x.parts))))
    | false=>none
   | _=>none
def zrp(gl:Gl)(p:PSt)(sz:Nat)(els:List V):List (Nat×Nat×X)->(List V->Option ρ)->Option ρ
 | [],K=>K els
 | (o,n,x)::r,K=>match evH gl p x with
  | some d=>match d.pureV with
   | some x=>match Nat.blt (o/sz) els.length with
    | true=>elK sz els o n x fun els=>zrp gl p sz els r K
    | false=>none
   | none=>none
  | none=>none
def slK(sz:Nat)(p:PSt)(d:PD)(K:List V->Option ρ):Option ρ:=
 match d with
 | .s (.v x)=>(yN sz x).bind K
 | .s (.own _ _ xs)=>tst (yi sz xs) (K xs)
 | .s (.full xs)=>tst (yi sz xs) (K xs)
 | .s (.ref k sz' off n _ _)=>match zad p k with
  | some (.arr _ _ xs)=>match Nat.beq sz' sz with | true=>K ((xs.drop off).take n) | false=>none
  | _=>none
 | .s (.uref k sz' n)=>match zad p k with
  | some (.arr _ _ xs)=>match Nat.beq sz' sz with | true=>K (xs.take n) | false=>none
  | _=>none
 | _=>none
def zds(sz:Nat):V->Option (List V)
 | .sl xs=>match yi sz xs with | true=>some xs | false=>none
 | .str s=>match Nat.beq sz 1 with | true=>some (XW s) | false=>none
 | _=>none
def zrs(sz:Nat)(p:PSt)(d:PD)(K:List V->Option ρ):Option ρ:=
 match d with
 | .s (.v x)=>(zds sz x).bind K
 | d=>slK sz p d K
def ze4(p:PSt)(ag:Bool)(sz:Nat)(d:PD)(K:PD->Option ρ):Option ρ:=
 match d with
 | .s (.ptr k off)=>match zad p k with
  | some (.box n x)=>match ag with
   | true=>tst (Nat.ble (off+sz) n) (match Nat.beq sz n&&Nat.blt 1 n with | true=>K (.s (.v x)) | false=>K (.s (.v (Wi x off sz))))
   | false=>(ze x off).bind fun c=>K (.s (.v c))
  | some (.cells ps)=>match ag with
   | true=>match Nat.ble (off+sz) ps.length with | true=>K (zkJ ((ps.drop off).take sz)) | false=>none
   | false=>match ps[off]? with | some q=>K (.s q) | none=>none
  | _=>none
 | .s (.ptrA k sz' i off)=>match zad p k with
  | some (.arr _ _ xs)=>match ag with
   | true=>match Nat.ble (off+sz) sz' with
    | true=>(xs[i]?).bind fun x=>match Nat.beq sz sz'&&Nat.blt 1 sz' with | true=>K (.s (.v x)) | false=>K (.s (.v (Wi x off sz)))
    | false=>none
   | false=>(xs[i]?).bind fun x=>(ze x off).bind fun c=>K (.s (.v c))
  | _=>none
 | .s (.elx sz' x off)=>match ag with
  | true=>match Nat.ble (off+sz) sz' with
   | true=>match Nat.beq sz sz'&&Nat.blt 1 sz' with | true=>K (.s (.v x)) | false=>K (.s (.v (Wi x off sz)))
   | false=>none
  | false=>(ze x off).bind fun c=>K (.s (.v c))
 | .s (.el cs)=>match ag with
  | true=>tst (Nat.ble sz cs.length) (K (.s (.v (.agg (cs.take sz)))))
  | false=>(cs[0]?).bind fun c=>K (.s (.v c))
 | _=>none
def zbP(p:PSt)(sz:Nat)(a v:PD)(K:PSt->Option ρ):Option ρ:=
 match a with
 | .s (.ptr k off)=>match zjv p k with
  | some (.box n x)=>match Nat.beq off 0&&Nat.beq sz n&&Nat.blt 1 n with
   | true=>match v with
    | .s (.v y)=>tst (okN n y) (K (p.setR k (.box n y)))
    | v=>vz n v fun cs=>K (p.setR k (.cells cs))
   | false=>match Nat.ble (off+sz) n with
    | true=>qv x 0 n fun xs=>vz sz v fun cs=>K (p.setR k (.cells (wG xs off cs)))
    | false=>none
  | some (.cells ps)=>match Nat.beq off 0&&Nat.beq sz ps.length&&Nat.blt 1 sz with
   | true=>match v with
    | .s (.v y)=>tst (okN sz y) (K (p.setR k (.box sz y)))
    | v=>vz sz v fun cs=>K (p.setR k (.cells cs))
   | false=>match Nat.ble (off+sz) ps.length with
    | true=>vz sz v fun cs=>K (p.setR k (.cells (wG ps off cs)))
    | false=>none
  | _=>none
 | .s (.ptrA k sz' i off)=>match zjv p k with
  | some (.arr .no _ xs)=>match v.pureV with
   | some y=>match Nat.beq off 0&&Nat.beq sz sz' with
    | true=>match Nat.beq sz 1 with
     | true=>tst (okN 1 y) ((ze y 0).bind fun c=>K (p.setR k (.arr .no sz' (xs.set i c))))
     | false=>tst (okN sz y) (K (p.setR k (.arr .no sz' (xs.set i y))))
    | false=>match Nat.ble (off+sz) sz'&&Nat.blt 0 sz with
     | true=>(xs[i]?).bind fun e=>tst (okN sz y) (K (p.setR k (.arr .no sz' (xs.set i (.agg (wG e.parts off y.parts))))))
     | false=>none
   | none=>none
  | _=>none
 | _=>none
def zom(p:PSt)(sz bytes:Nat)(s:PD)(ys:List V)(K:PD->PSt->Option ρ):Option ρ:=
 match s with
 | .s (.full xs)=>match Nat.blt 0 sz with
  | true=>tst (yi sz xs) (tst (wZ bytes xs.length ys.length) (K (.s (.own p.ni sz (xs++ys))) { p with ni:=p.ni+1 }))
  | false=>none
 | .s (.own id sz' xs)=>match Nat.beq sz sz'&&Nat.blt 0 sz&&Nat.ble p.lim id with
  | true=>tst (wZ bytes xs.length ys.length) (K (.s (.own id sz (xs++ys))) (p.strip id))
  | false=>none
 | .s (.ref k sz' off n c z)=>match Nat.beq sz sz'&&Nat.blt 0 sz with
  | true=>match zad p k with
   | some (.arr fz _ xs)=>tst (wZ bytes n ys.length) (if n+ys.length<=c/\(z=false\/0<c)then
     (match zjv p k with
     | some (.arr .no _ _)=>K (.s (.ref k sz off (n+ys.length) c z)) (p.setR k (.arr fz sz (wG xs (off+n) ys)))
     | _=>none)
    else K (.s (.own p.ni sz ((xs.drop off).take n++ys))) { p with ni:=p.ni+1 })
   | _=>none
  | false=>none
 | _=>none
def zv6(p:PSt)(n sz:Nat)(l h m:Option V)(d:PD)(K:PD->Option ρ):Option ρ:=
 match d with
 | .s q=>match q with
  | .ptr k o=>match zad p k with
   | some (.arr _ sz' xs)=>match Nat.beq o 0&&Nat.beq sz sz'&&Nat.blt n J4 with
    | true=>tst (Nat.ble n xs.length) ((zxt l h m n n).bind fun q=>K (.s (.ref k sz q.1 (q.2.1-q.1) (q.2.2-q.1) true)))
    | false=>none
   | _=>none
  | _=>none
 | .agg _=>none
def place(k:Nat)(l:List Nat):Nat×List Nat:=match l.findIdx? (fun j=>Nat.beq j k)with | some j=>(j,l) | none=>(l.length,l++[k])
def zg0(ks:List Nat):List CP->List CP×List Nat
 | []=>([],ks)
 | .v x::r=>(.v x::(zg0 ks r).1,(zg0 ks r).2)
 | .p k off::r=>(.p (place k ks).1 off::(zg0 (place k ks).2 r).1,(zg0 (place k ks).2 r).2)
def freeze(p:PSt)(kz:Nat×Bool):Option PSt:=match p.rows[kz.1]? with
 | some ⟨_,.arr .yes _ _⟩=>some p
 | some ⟨false,.arr .may sz xs⟩=>match kz.2 with | true=>some p | false=>some { p with rows:=p.rows.set kz.1 ⟨false,.arr .yes sz xs⟩ }
 | some ⟨false,.arr .no sz xs⟩=>match kz.2 with | true=>some { p with rows:=p.rows.set kz.1 ⟨false,.arr .may sz xs⟩ } | false=>some { p with rows:=p.rows.set kz.1 ⟨false,.arr .yes sz xs⟩ }
 | _=>none
def wy(p:PSt):List (Nat×Bool)->Option PSt
 | []=>some p
 | k::r=>match freeze p k with | some p'=>wy p' r | none=>none
def zth(p:PSt)(ks:List Nat)(d:PD):Option (PA×List Nat×PSt):=
 match d with
 | .s (.ptr k off)=>some (.p (place k ks).1 off,(place k ks).2,p)
 | .s (.fn f cap)=>some (.fn f (zg0 ks cap).1,(zg0 ks cap).2,p)
 | d=>match d.outV p with
  | some x=>match wy p d.refs with | some p'=>some (.v x,ks,p') | none=>none
  | none=>none
def Wl(p:PSt)(ks:List Nat):List PD->Option (List PA×List Nat×PSt)
 | []=>some ([],ks,p)
 | d::r=>match zth p ks d with
  | some (a,ks',p')=>match Wl p' ks' r with | some (l,ks'',p'')=>some (a::l,ks'',p'') | none=>none
  | none=>none
def zhW:RowC->Option (Nat×V)
 | .box n x=>match Nat.beq n 1 with | true=>none | false=>some (n,x)
 | .cells ps=>match Yi ps with | some l=>some (ps.length,Kj l) | none=>none
 | _=>none
def zkP(p:PSt):List Nat->Option (List (Bool×Nat×V))
 | []=>some []
 | k::r=>match p.rows[k]? with
  | some ⟨ro,c⟩=>match zhW c with
   | some (n,x)=>match zkP p r with | some l=>some ((ro,n,x)::l) | none=>none
   | none=>none
  | none=>none
def zbY(n:Nat)(x:V):RowC:=match Nat.beq n 1 with | true => .cells [.v x] | false => .box n x
def zfs(p:PSt)(ys:List V)(j:Nat):List Nat->(PSt->Option ρ)->Option ρ
 | [],K=>K p
 | k::r,K=>match p.rows[k]? with
  | some ⟨true,_⟩=>zfs p ys (j+1) r K
  | some ⟨false,c⟩=>match zhW c with
   | some (n,_)=>(ys[j]?).bind fun y=>zfs (p.setR k (zbY n y)) ys (j+1) r K
   | none=>none
  | none=>none
def XX(pc:PcT)(f:Nat)(ds:List PD)(p:PSt)(K:PD->PSt->Option ρ):Option ρ:=
 match Wl p [] ds with
 | some (as,ks,p')=>match zkP p' ks with
  | some pars=>(pc f as pars).bind fun r=>zfs p' r.2 0 ks fun p''=>K (.s (.v r.1)) p''
  | none=>none
 | none=>none
def zk6:List PD->Option (List V)
 | []=>some []
 | d::r=>match d.pureV with | some x=>(match zk6 r with | some l=>some (x::l) | none=>none) | none=>none
def slV:V->Option (List V)
 | .sl xs=>some xs
 | _=>none
def J1(pc:PcT)(sz f:Nat)(ds:List PD)(p:PSt)(K:PD->PSt->Option ρ):Option ρ:=
 match Wl p [] ds with
 | some (as,[],p')=>(pc f (.g::as) []).bind fun r=>(slV r.1).bind fun xs=>K (.s (.own p'.ni sz xs)) { p' with ni:=p'.ni+1 }
 | _=>none
def zh1(pc:PcT)(sz f:Nat)(ds:List PD)(p:PSt)(K:PD->PSt->Option ρ):Option ρ:=
 match ds with
 | .s (.own id sz' ys)::r=>match Nat.beq sz sz' with
  | true=>match zk6 r with
   | some xs=>(pc f (.o sz ys::xs.map PA.v) []).bind fun q=>K (.s (.v q.1)) (p.strip id)
   | none=>none
  | false=>none
 | .s (.full ys)::r=>match zk6 r with
  | some xs=>tst (yi sz ys) ((pc f (.o sz ys::xs.map PA.v) []).bind fun q=>K (.s (.v q.1)) (p.strip p.ni))
  | none=>none
 | _=>none
def zf4(d:PD)(k:Option ρ):Option ρ:=
 match d with
 | .s (.full _)=>k
 | .s (.ref _ _ _ n c _)=>tst (Nat.beq n c) k
 | _=>none
def zhK(pc:PcT)(f:Nat)(ds:List PD)(p:PSt)(K:PD->PSt->Option ρ):Option ρ:=
 match ds with
 | d::r=>zf4 d (match Wl p [] (d::r)with
  | some (as,[],p')=>(pc f (.u::as) []).bind fun q=>K (.s (.v q.1)) p'
  | _=>none)
 | []=>none
def asByte:V->Option UInt8
 | .int .u8 n=>if 0<=n/\n<256 then some (UInt8.ofNat n.toNat)else none
 | _=>none
def zo7(e:Eff)(ds:List PD)(p:PSt)(K:PD->PSt->Option ρ):Option ρ:=
 match e with
 | .ws t e=>match ds with
  | [.s (.ptr k 0),.s (.v x)]=>match zjv p k with
   | some (.bld t' e' r)=>match Nat.beq t' t&&Nat.beq e' e with
    | true=>(zfa x).bind fun s=>tst (decide (r.length+s.length<=140737488355328)) (K (.s (.v (.tup [.int .i64 (s.length:Nat),.nili]))) (p.setR k (.bld t e (r++s))))
    | false=>none
   | _=>none
  | _=>none
 | .wb t e=>match ds with
  | [.s (.ptr k 0),.s (.v x)]=>match zjv p k with
   | some (.bld t' e' r)=>match Nat.beq t' t&&Nat.beq e' e with
    | true=>(asByte x).bind fun c=>tst (decide (r.length+1<=140737488355328)) (K (.s (.v .nili)) (p.setR k (.bld t e (r++[c]))))
    | false=>none
   | _=>none
  | _=>none
 | .bs t e=>match ds with
  | [.s (.ptr k 0)]=>match zjv p k with
   | some (.bld t' e' r)=>match Nat.beq t' t&&Nat.beq e' e with
    | true=>K (.s (.v (.str r))) (p.setR k .dead)
    | false=>none
   | _=>none
  | _=>none
def YF(md:Nat->Md)(pc:PcT)(f:Nat)(ds:List PD)(p:PSt)(K:PD->PSt->Option ρ):Option ρ:=
 match md f with
 | .pl=>XX pc f ds p K
 | .gv sz=>J1 pc sz f ds p K
 | .raw sz=>zh1 pc sz f ds p K
 | .ful=>zhK pc f ds p K
 | .gvf sz=>match ds with
  | d::r=>zf4 d (J1 pc sz f (d::r) p K)
  | []=>none
 | .eff e=>zo7 e ds p K
def zAC:CP->PD
 | .v x => .s (.v x)
 | .p k off => .s (.ptr k off)
def zk1:List PD->Option (List CP)
 | []=>some []
 | .s (.v x)::r=>match zk1 r with | some l=>some (.v x::l) | none=>none
 | .s (.ptr k off)::r=>match zk1 r with | some l=>some (.p k off::l) | none=>none
 | _=>none
def VF(gl:Gl)(pc:PcT)(p:PSt)(o:O)(K:Option PD->PSt->Option ρ):Option ρ:=
 match o with
 | .mv x=>match evH gl p x with | some d=>K (some d) p | none=>none
 | .pick c a b=>match evV gl p c with
  | some c=>match evV gl p a with
   | some x=>match evV gl p b with
    | some y=>(asBool c).bind fun c=>K (some (.s (.v (if c then x else y)))) p
    | none=>none
   | none=>none
  | none=>none
 | .alloc z=>match zqz z with
  | some n=>K (some (.s (.ptr p.rows.length 0))) (p.newR (.arr .no 1 (List.replicate n (.int .u8 0))))
  | none=>match WW z with
   | some l=>match zre l with
    | true=>K (some (.s (.ptr p.rows.length 0))) (p.newR (.cells l))
    | false=>none
   | none=>none
 | .build z ps=>match WW z with
  | some l=>match zre l with
   | true=>zbh gl p l ps fun cs=>K (some (zkJ cs)) p
   | false=>none
  | none=>none
 | .lit n z ps=>match znZ z with
  | some l=>zrp gl p l.length (List.replicate n (Kj l)) ps fun els=>K (some (.s (.full els))) p
  | none=>none
 | .load ag sz a=>match evH gl p a with | some d=>ze4 p ag sz d fun v=>K (some v) p | none=>none
 | .store sz a v=>match evH gl p a with
  | some d=>match evH gl p v with | some v=>zbP p sz d v fun p'=>K none p' | none=>none
  | none=>none
 | .chk x=>match evH gl p x with
  | some (.s (.ptr k off))=>K (some (.s (.ptr k off))) p
  | some (.s (.ptrA k sz i off))=>K (some (.s (.ptrA k sz i off))) p
  | some (.s (.el cs))=>K (some (.s (.el cs))) p
  | some (.s (.elx sz x off))=>K (some (.s (.elx sz x off))) p
  | some (.s (.fn f c))=>K (some (.s (.fn f c))) p
  | _=>none
 | .bin op x y=>match evV gl p x with
  | some x=>match evV gl p y with | some y=>(zc op x y).bind fun d=>K (some (.s (.v d))) p | none=>none
  | none=>none
 | .beq neg x y=>match evV gl p x with
  | some x=>match evV gl p y with
   | some y=>(asBool x).bind fun a=>(asBool y).bind fun b=>K (some (.s (.v (.bool (match neg with | true => !(a==b) | false=>a==b))))) p
   | none=>none
  | none=>none
 | .inil neg x=>match evV gl p x with | some x=>(zaF neg x).bind fun d=>K (some (.s (.v d))) p | none=>none
 | .tas t ok x=>match evV gl p x with | some x=>(zza t ok x).bind fun d=>K (some (.s (.v d))) p | none=>none
 | .un op x=>match evV gl p x with | some x=>(unV op x).bind fun d=>K (some (.s (.v d))) p | none=>none
 | .cvi k x=>match evV gl p x with | some x=>(jA k x).bind fun d=>K (some (.s (.v d))) p | none=>none
 | .cms x=>match evV gl p x with | some x=>(zAZ x).bind fun d=>K (some (.s (.v d))) p | none=>none
 | .cbs x=>match evH gl p x with
  | some d=>slK 1 p d fun xs=>(JI xs).bind fun s=>K (some (.s (.v (.str s)))) p
  | none=>none
 | .csb x=>match evV gl p x with | some x=>(zfa x).bind fun s=>K (some (.s (.v (.sl (XW s))))) p | none=>none
 | .ifc t x=>match evH gl p x with
  | some d=>match d.pureV with | some x=>K (some (.s (.v (.iface t x)))) p | none=>none
  | none=>none
 | .mkf f cap=>match zlU gl p cap with
  | some l=>match zk1 l with
   | some l=>K (some (.s (.fn f l))) p
   | none=>none
  | none=>none
 | .mks z bytes n c=>match znZ z with
  | some l=>match evV gl p n with
   | some n=>match evV gl p c with
    | some c=>(zjV bytes n c).bind fun q=>K (some (.s (.ref p.rows.length l.length 0 q.1 q.2 false))) (p.newR (.arr .no l.length (List.replicate q.2 (Kj l))))
    | none=>none
   | none=>none
  | none=>none
 | .slc sz x l h m=>match evH gl p x with
  | some d=>match zhj gl p l with
   | some l=>match zhj gl p h with
    | some h=>match zhj gl p m with
     | some m=>match d with
      | .s (.ref k sz' off n c _)=>match Nat.beq sz' sz with
       | true=>(zxt l h m n c).bind fun q=>K (some (.s (.ref k sz (off+q.1) (q.2.1-q.1) (q.2.2-q.1) true))) p
       | false=>none
      | .s (.uref _ _ _)=>none
      | d=>slK sz p d fun xs=>match m with
       | none=>(Wk l h xs.length).bind fun q=>K (some (.s (.v (.sl ((xs.drop q.1).take (q.2-q.1)))))) p
       | some m=>(ztk l h (some m) xs.length).bind fun q=>K (some (.s (.full ((xs.drop q.1).take (q.2-q.1))))) p
     | none=>none
    | none=>none
   | none=>none
  | none=>none
 | .sla n sz x l h m=>match evH gl p x with
  | some d=>match zhj gl p l with
   | some l=>match zhj gl p h with
    | some h=>match zhj gl p m with
     | some m=>zv6 p n sz l h m d fun d=>K (some d) p
     | none=>none
    | none=>none
   | none=>none
  | none=>none
 | .sls x l h=>match evV gl p x with
  | some x=>match zhj gl p l with
   | some l=>match zhj gl p h with
    | some h=>(zm2 x l h).bind fun d=>K (some (.s (.v d))) p
    | none=>none
   | none=>none
  | none=>none
 | .fad off x=>match evH gl p x with
  | some (.s (.ptr k o))=>K (some (.s (.ptr k (o+off)))) p
  | some (.s (.ptrA k sz i o))=>K (some (.s (.ptrA k sz i (o+off)))) p
  | some (.s (.el cs))=>K (some (.s (.el (cs.drop off)))) p
  | some (.s (.elx sz x o))=>K (some (.s (.elx sz x (o+off)))) p
  | _=>none
 | .fld ag off sz x=>match evH gl p x with
  | some (.s (.v x))=>match ag with
   | true=>(zAE x off sz).bind fun d=>K (some (.s (.v d))) p
   | false=>(zAX x off).bind fun d=>K (some (.s (.v d))) p
  | some (.agg ps)=>match ag with
   | true=>match Nat.ble (off+sz) ps.length with | true=>K (some (zkJ ((ps.drop off).take sz))) p | false=>none
   | false=>match ps[off]? with | some q=>K (some (.s q)) p | none=>none
  | _=>none
 | .iad sz x i=>match evH gl p x with
  | some d=>match evV gl p i with
   | some i=>match d with
    | .s (.ref k sz' off n _ _)=>match Nat.beq sz' sz&&Nat.blt 0 sz with
     | true=>(y3 i n).bind fun i=>K (some (.s (.ptrA k sz (off+i) 0))) p
     | false=>none
    | .s (.uref k sz' n)=>match Nat.beq sz' sz&&Nat.blt 0 sz with
     | true=>(y3 i n).bind fun i=>K (some (.s (.ptrA k sz i 0))) p
     | false=>none
    | d=>slK sz p d fun xs=>(y3 i xs.length).bind fun i=>(xs[i]?).bind fun e=>K (some (.s (.elx sz e 0))) p
   | none=>none
  | none=>none
 | .iaa n sz x i=>match evH gl p x with
  | some d=>match evV gl p i with
   | some i=>(y3 i n).bind fun i=>match d with
    | .s (.ptr k o)=>match zad p k with
     | some (.arr _ sz' xs)=>match Nat.beq o 0&&Nat.beq sz sz' with
      | true=>tst (Nat.blt i xs.length) (K (some (.s (.ptrA k sz i 0))) p)
      | false=>none
     | _=>K (some (.s (.ptr k (o+i*sz)))) p
    | .s (.el cs)=>K (some (.s (.el (cs.drop (i*sz))))) p
    | _=>none
   | none=>none
  | none=>none
 | .ixa ag n sz x i=>match evH gl p x with
  | some d=>match d.pureV with
   | some x=>match evV gl p i with | some i=>(zjE ag n sz x i).bind fun d=>K (some (.s (.v d))) p | none=>none
   | none=>none
  | none=>none
 | .ixs x i=>match evV gl p x with
  | some x=>match evV gl p i with | some i=>(ZE x i).bind fun d=>K (some (.s (.v d))) p | none=>none
  | none=>none
 | .ext x i=>match evV gl p x with | some x=>(zj x i).bind fun d=>K (some (.s (.v d))) p | none=>none
 | .len x=>match evH gl p x with
  | some (.s (.v x))=>(yw x).bind fun n=>K (some (.s (.v (.int .i64 n)))) p
  | some (.s (.own _ _ xs))=>K (some (.s (.v (.int .i64 xs.length)))) p
  | some (.s (.full xs))=>K (some (.s (.v (.int .i64 xs.length)))) p
  | some (.s (.ref _ _ _ n _ _))=>K (some (.s (.v (.int .i64 n)))) p
  | some (.s (.uref _ _ n))=>K (some (.s (.v (.int .i64 n)))) p
  | _=>none
 | .lns x=>match evV gl p x with | some x=>(zaj x).bind fun n=>K (some (.s (.v (.int .i64 n)))) p | none=>none
 | .cap x=>match evH gl p x with
  | some (.s (.full xs))=>K (some (.s (.v (.int .i64 xs.length)))) p
  | some (.s (.ref _ _ _ _ c _))=>K (some (.s (.v (.int .i64 c)))) p
  | _=>none
 | .app sz bytes s x=>match evH gl p s with
  | some s=>match evH gl p x with
   | some d=>zrs sz p d fun ys=>zom p sz bytes s ys fun d p'=>K (some d) p'
   | none=>none
  | none=>none
 | .apz z bytes s x=>match znZ z with
  | some l=>match evH gl p s with
   | some s=>match evV gl p x with
    | some x=>(zz8 bytes x).bind fun m=>zom p l.length bytes s (List.replicate m (Kj l)) fun d p'=>K (some d) p'
    | none=>none
   | none=>none
  | none=>none
 | .cpy sz d s=>match evH gl p d with
  | some d=>match evH gl p s with
   | some s=>zrs sz p s fun ys=>match d with
    | .s (.ref k sz' off n _ _)=>match zjv p k with
     | some (.arr .no _ xs)=>match Nat.beq sz' sz with
      | true=>K (some (.s (.v (.int .i64 (Nat.min ys.length n:Nat))))) (p.setR k (.arr .no sz (wG xs off (ys.take (Nat.min ys.length n)))))
      | false=>none
     | _=>none
    | .s (.full [])=>K (some (.s (.v (.int .i64 0)))) p
    | _=>none
   | none=>none
  | none=>none
 | .min xs=>match zt0 gl p xs with
  | some (x::r)=>(zpl x r).bind fun d=>K (some (.s (.v d))) p
  | _=>none
 | .max xs=>match zt0 gl p xs with
  | some (x::r)=>(zpH x r).bind fun d=>K (some (.s (.v d))) p
  | _=>none
 | .call f xs=>match zlU gl p xs with | some ds=>YF gl.md pc f ds p fun d p'=>K (some d) p' | none=>none
 | .callv g xs=>match evH gl p g with
  | some (.s (.fn f cap))=>match Nat.blt f wX with
   | true=>match zlU gl p xs with | some ds=>XX pc f (ds++cap.map zAC) p fun d p'=>K (some d) p' | none=>none
   | false=>none
  | some (.s (.v x))=>match zlU gl p xs with
   | some ds=>(zz6 x).bind fun q=>match q.2 with
    | []=>match Nat.blt q.1 wX with | true=>XX pc q.1 ds p fun d p'=>K (some d) p' | false=>none
    | _=>none
   | none=>none
  | _=>none
 | .apr sz bytes x=>match evH gl p x with
  | some d=>slK sz p d fun ys=>tst (Nat.blt 0 ys.length&&Nat.blt 0 sz&&wZ bytes 0 ys.length) (K (some (.s (.uref p.rows.length sz ys.length))) (p.newR (.arr .no sz ys)))
  | none=>none
 | .nbl t e=>K (some (.s (.ptr p.rows.length 0))) (p.newR (.bld t e []))
 | .rng x=>match evV gl p x with | some x=>(zfa x).bind fun s=>K (some (.s (.ptr p.rows.length 0))) (p.newR (.iter s 0)) | none=>none
 | .nxt x=>match evH gl p x with
  | some (.s (.ptr k 0))=>match zjv p k with
   | some (.iter s pos)=>if pos<s.length then
     K (some (.s (.v (.tup [.bool true,.int .i64 pos,.int .i32 (Utf8.decode ⟨s.toArray⟩ pos).1])))) (p.setR k (.iter s (pos+(Utf8.decode ⟨s.toArray⟩ pos).2)))
    else K (some (.s (.v (.tup [.bool false])))) p
   | _=>none
  | _=>none
 | _=>none
end
end
section
inductive PO where
 | nil
 | one (o:OpC) (r:PO)
 | box (n dst:Nat) (x:X) (r:PO)
 | grp (c:Nat) (w:Bool) (ops:PO) (dst:Nat) (a b:X) (r:PO)
inductive PEx where
 | nrm | ext (id:Nat) | ret
inductive Kd where
 | v | own (sz:Nat) | ptr (k off:Nat) | ref (k sz:Nat) (z:Bool) | same
inductive RK where
 | same | dead | box (n:Nat) | cells (l:List Kd) | arr (fz:Fz) (sz:Nat) | iter | bld (t e:Nat)
structure Sh where
 slots:List (Nat×Kd)
 rows:List RK
inductive PC where
 | skip
 | reg (ops:PO) (keep:List Nat)
 | drw (a0 a1 b:PO) (keep:List Nat)
 | drq (a0 a1 b:PO) (keep:List Nat)
 | drf (a0:PO) (t:Nat) (ag:Bool) (sz a k:Nat) (b1 b:PO) (keep:List Nat)
 | seq (a b:PC)
 | cond (c:X) (a b:PC)
 | blk (id:Nat) (c:PC)
 | loop (h:Sh) (xs:List (PEx×Sh)) (c:PC)
 | cut (h:Sh) (xs:List (PEx×Sh)) (c:PC)
 | exit (id:Nat)
 | ret
structure PFn where
 res:List R
 body:PC
 pn:Bool
def zjm(c:Nat)(w:Bool)(a b:X):O:=match w with | true => .pick (.s c) a b | false => .pick (.s c) b a
def KD(g:Option (Nat×Bool))(o:OpC):OpC:=match o.gd with | none=>⟨o.dst,o.op,g⟩ | some _=>o
def xc(g:Option (Nat×Bool)):PO->List OpC
 | .nil=>[]
 | .one o r=>KD g o::xc g r
 | .box _ dst x r=>⟨some dst,.box x,g⟩::xc g r
 | .grp c w ops dst a b r=>xc (some (c,w)) ops++⟨some dst,zjm c w a b,g⟩::xc g r
def vX(l:PO):List OpC:=xc none l
def xz:PC->C
 | .skip => .skip
 | .reg ops keep => .reg (vX ops) keep
 | .drw a0 a1 b keep => .drw (vX a0) (vX a1) [] (vX b) keep
 | .drq a0 a1 b keep => .drw (vX a0) (vX a1) [] (vX b) keep
 | .drf a0 t ag sz a _ b1 b keep => .drw (vX a0) [⟨some t,.load ag sz (.s a),none⟩] (vX b1) (vX b) keep
 | .seq a b => .seq (xz a) (xz b)
 | .cond c a b => .cond c (xz a) (xz b)
 | .blk id c => .blk id (xz c)
 | .loop _ _ c => .loop (xz c)
 | .cut _ _ c=>xz c
 | .exit id => .exit id
 | .ret => .ret
def zz3:Fz->Fz->Bool
 | .no,.no=>true
 | .may,.may=>true
 | .yes,.yes=>true
 | _,_=>false
def xb:PTm->Nat->Option (Bool×PD)
 | [],_=>none
 | (i,f,d)::r,t=>match Nat.beq i t with | true=>some (f,d) | false=>xb r t
def V.elems:V->List V
 | .sl xs=>xs
 | _=>[]
def WR:V->Nat
 | .int _ n=>n.toNat
 | _=>0
def ziq:V->List UInt8
 | .str s=>s
 | _=>[]
def vec(l:List V)(i:Nat):V:=l.getD i .nilp
def vG:List PS->Bool
 | []=>false
 | .own _ _ _::_=>true
 | _::r=>vG r
def PD.hasOwn:PD->Bool
 | .s q=>vG [q]
 | .agg ps=>vG ps
def RowC.hasOwn:RowC->Bool
 | .cells ps=>vG ps
 | _=>false
section
variable {ρ:Type}
def encS(m:Nat)(kd:Kd)(q:PS)(ids:List Nat)(K:List V->List Nat->Option ρ):Option ρ:=
 match kd with
 | .v=>match q.pure with | some x=>K [x] ids | none=>none
 | .own sz=>match q with
  | .own id sz' xs=>match Nat.beq sz sz' && !hasB ids id with | true=>K [.sl xs] (id::ids) | false=>none
  | .full xs=>tst (yi sz xs) (K [.sl xs] ids)
  | _=>none
 | .ptr k off=>match q with
  | .ptr k' off'=>match Nat.beq k k'&&Nat.beq off off'&&Nat.blt k m with | true=>K [] ids | false=>none
  | _=>none
 | .ref k sz z=>match q with
  | .ref k' sz' off n c z'=>match Nat.beq k k'&&Nat.beq sz sz'&&Nat.blt k m&&(z==z')with | true=>K [.int .i64 off,.int .i64 n,.int .i64 c] ids | false=>none
  | _=>none
 | .same=>none
def ziI(m:Nat):List Kd->List PS->List Nat->(List V->List Nat->Option ρ)->Option ρ
 | [],[],ids,K=>K [] ids
 | kd::r,q::s,ids,K=>encS m kd q ids fun l ids=>ziI m r s ids fun l' ids=>K (l++l') ids
 | _,_,_,_=>none
def zjP(strict:Bool)(m:Nat)(p:PSt):List (Nat×Kd)->List Nat->(List V->List Nat->Option ρ)->Option ρ
 | [],ids,K=>K [] ids
 | (t,kd)::r,ids,K=>match xb p.tm t with
  | some (f,d)=>match kd with
   | .same=>match(!strict||f) && !d.hasOwn with
    | true=>zjP strict m p r ids K
    | false=>none
   | kd=>match f with
    | true=>none
    | false=>match d with
     | .s q=>encS m kd q ids fun l ids=>zjP strict m p r ids fun l' ids=>K (l++l') ids
     | .agg ps=>match kd with
      | .v=>match Yi ps with | some x=>zjP strict m p r ids fun l' ids=>K (.agg x::l') ids | none=>none
      | _=>none
  | none=>none
def encR(strict:Bool)(m:Nat):List RK->List Row->List Nat->(List V->List Nat->Option ρ)->Option ρ
 | [],[],ids,K=>K [] ids
 | [],_::_,ids,K=>match strict with | true=>K [] ids | false=>none
 | rk::r,⟨f,c⟩::s,ids,K=>match rk with
  | .same=>match(!strict||f) && !c.hasOwn with
   | true=>encR strict m r s ids K
   | false=>none
  | .dead=>match f with | true=>none | false=>encR strict m r s ids K
  | .box n=>match f with
   | true=>none
   | false=>match c with
    | .box n' x=>match Nat.beq n n' with | true=>encR strict m r s ids fun l ids=>K (x::l) ids | false=>none
    | .cells ps=>match Nat.beq n ps.length&&Nat.blt 1 n with
     | true=>match Yi ps with | some l=>encR strict m r s ids fun l' ids=>K (.agg l::l') ids | none=>none
     | false=>none
    | _=>none
  | .cells kds=>match f with
   | true=>none
   | false=>match c with
    | .cells ps=>ziI m kds ps ids fun l ids=>encR strict m r s ids fun l' ids=>K (l++l') ids
    | .box n x=>qv x 0 n fun ps=>ziI m kds ps ids fun l ids=>encR strict m r s ids fun l' ids=>K (l++l') ids
    | _=>none
  | .arr fz sz=>match f with
   | true=>none
   | false=>match c with
    | .arr fz' sz' xs=>match Nat.beq sz sz'&&zz3 fz fz' with | true=>encR strict m r s ids fun l ids=>K (.sl xs::l) ids | false=>none
    | _=>none
  | .iter=>match f with
   | true=>none
   | false=>match c with
    | .iter x n=>encR strict m r s ids fun l ids=>K (.str x :: .int .i64 (n:Int)::l) ids
    | _=>none
  | .bld t e=>match f with
   | true=>none
   | false=>match c with
    | .bld t' e' x=>match Nat.beq t t'&&Nat.beq e e' with | true=>encR strict m r s ids fun l ids=>K (.str x::l) ids | false=>none
    | _=>none
 | _::_,[],_,_=>none
def Kt(strict:Bool)(sh:Sh)(p:PSt)(K:(Nat->V)->Option ρ):Option ρ:=
 zjP strict sh.rows.length p sh.slots [] fun l ids=>encR strict sh.rows.length sh.rows p.rows ids fun l' _=>K (vec (l++l'))
end
def JJ(kd:Kd)(v:Nat->V)(i ni:Nat):PS×Nat×Nat:=
 match kd with
 | .v=>(.v (v i),i+1,ni)
 | .own sz=>(.own ni sz (v i).elems,i+1,ni+1)
 | .ptr k off=>(.ptr k off,i,ni)
 | .ref k sz z=>(.ref k sz (WR (v i)) (WR (v (i+1))) (WR (v (i+2))) z,i+3,ni)
 | .same=>(.v .nilp,i,ni)
def zj2(v:Nat->V)(i ni:Nat):List Kd->List PS×Nat×Nat
 | []=>([],i,ni)
 | kd::r=>((JJ kd v i ni).1::(zj2 v (JJ kd v i ni).2.1 (JJ kd v i ni).2.2 r).1,(zj2 v (JJ kd v i ni).2.1 (JJ kd v i ni).2.2 r).2)
def znW(head:Bool)(p:PSt)(v:Nat->V)(i ni:Nat):List (Nat×Kd)->Option (PTm×Nat×Nat)
 | []=>some ([],i,ni)
 | (t,.same)::r=>match xb p.tm t with
  | some (f,d)=>match znW head p v i ni r with | some (l,q)=>some ((t,head||f,d)::l,q) | none=>none
  | none=>none
 | (t,kd)::r=>match znW head p v (JJ kd v i ni).2.1 (JJ kd v i ni).2.2 r with | some (l,q)=>some ((t,false,.s (JJ kd v i ni).1)::l,q) | none=>none
def YS(head:Bool)(v:Nat->V)(i ni:Nat):List RK->List Row->Option (List Row×Nat×Nat)
 | [],[]=>some ([],i,ni)
 | rk::r,⟨f,c⟩::s=>match rk with
  | .same=>match YS head v i ni r s with | some (l,q)=>some (⟨head||f,c⟩::l,q) | none=>none
  | .dead=>match YS head v i ni r s with | some (l,q)=>some (⟨false,.dead⟩::l,q) | none=>none
  | .box n=>match YS head v (i+1) ni r s with | some (l,q)=>some (⟨false,.box n (v i)⟩::l,q) | none=>none
  | .cells kds=>match YS head v (zj2 v i ni kds).2.1 (zj2 v i ni kds).2.2 r s with | some (l,q)=>some (⟨false,.cells (zj2 v i ni kds).1⟩::l,q) | none=>none
  | .arr fz sz=>match YS head v (i+1) ni r s with | some (l,q)=>some (⟨false,.arr fz sz (v i).elems⟩::l,q) | none=>none
  | .iter=>match YS head v (i+2) ni r s with | some (l,q)=>some (⟨false,.iter (ziq (v i)) (WR (v (i+1)))⟩::l,q) | none=>none
  | .bld t e=>match YS head v (i+1) ni r s with | some (l,q)=>some (⟨false,.bld t e (ziq (v i))⟩::l,q) | none=>none
 | _,_=>none
def dec(head:Bool)(sh:Sh)(p:PSt)(v:Nat->V):Option PSt:=
 match znW head p v 0 0 sh.slots with
 | some (tm,i,ni)=>match YS head v i ni sh.rows p.rows with
  | some (rows,_,ni)=>some ⟨tm,rows,ni,p.lim⟩
  | none=>none
 | none=>none
def ja{α β:Type}(f:α->Option (α ⊕ β)):Nat->α->Option β
 | 0,_=>none
 | n+1,a=>match f a with
  | some (.inl a')=>ja f n a'
  | some (.inr b)=>some b
  | none=>none
def zr{α β:Type}(f:α->Option (α ⊕ β))(a:α):Option β:=open Classical in
 if h : ∃ n b,ja f n a=some b then some h.choose_spec.choose else none
def PS.sealOf:PS->PS
 | .own _ _ xs => .v (.sl xs)
 | q=>q
def zc6:List PS->List PS
 | []=>[]
 | q::r=>q.sealOf::zc6 r
def PD.sealOf:PD->PD
 | .s q => .s q.sealOf
 | .agg ps => .agg (zc6 ps)
def zsl:PTm->PTm
 | []=>[]
 | (i,f,d)::r=>(i,f,d.sealOf)::zsl r
def ZO:List Row->List Row
 | []=>[]
 | ⟨_,.cells ps⟩::r=>⟨true,.cells (zc6 ps)⟩::ZO r
 | ⟨_,c⟩::r=>⟨true,c⟩::ZO r
def RowC.sealC:RowC->RowC
 | .cells ps => .cells (zc6 ps)
 | c=>c
def hold(p:PSt)(k:Nat):Option PSt:=match p.rows[k]? with | some ⟨false,c⟩=>some { p with rows:=p.rows.set k ⟨true,c.sealC⟩ } | _=>none
def znc(p:PSt)(k:Nat):PSt:=match p.rows[k]? with | some ⟨_,c⟩=>{ p with rows:=p.rows.set k ⟨false,c⟩ } | none=>p
def zkM:PO->Bool
 | .nil=>true
 | .one o r=>(match o.gd with | none=>true | some _=>false)&&zkM r
 | _=>false
def PSt.sealOf(p:PSt):PSt:=⟨zsl p.tm,ZO p.rows,p.ni,p.lim⟩
def xN:PO->List Nat
 | .nil=>[]
 | .one o r=>(match o.dst with | some t=>[t] | none=>[])++xN r
 | .box _ dst _ r=>dst::xN r
 | .grp _ _ ops dst _ _ r=>xN ops++dst::xN r
def zmX(tm:PTm):List Nat->Bool
 | []=>true
 | t::r=>(match xb tm t with | some _=>false | none=>true)&&zmX tm r
def zdm(W:List Nat):PO->Bool
 | .nil=>true
 | .one o r=>(match o.gd with | none=>true | some _=>false)&&zdm ((match o.dst with | some t=>[t] | none=>[])++W) r
 | .box _ dst _ r=>zdm (dst::W) r
 | .grp c _ ops dst _ _ r=>hasB W c&&zdm [] ops&&zdm (dst::W) r
def zbC(p:PSt)(dst:Option Nat)(r:Option PD):Option PSt:=
 match dst with
 | none=>some p
 | some t=>match r with
  | some d=>match zvf p.tm t d with | some tm=>some { p with tm:=tm } | none=>none
  | none=>match zsZ p.tm t with | some tm=>some { p with tm:=tm } | none=>none
def still(md:Nat->Md):O->Bool
 | .call f _=>match md f with | .raw _=>false | _=>true
 | .alloc _ | .box _ | .store _ _ _ | .mks _ _ _ _ | .cpy _ _ _ | .nbl _ _ | .apr _ _ _ | .rng _ | .nxt _ | .pan _=>false
 | _=>true
def Ke(md:Nat->Md):PO->Bool
 | .nil=>true
 | .one o r=>still md o.op&&Ke md r
 | .box _ _ _ _=>false
 | .grp _ _ ops _ _ _ r=>Ke md ops&&Ke md r
def quiet:O->Bool
 | .alloc _ | .box _ | .store _ _ _ | .mks _ _ _ _ | .app _ _ _ _ | .apz _ _ _ _ | .cpy _ _ _ | .nbl _ _ | .apr _ _ _ | .rng _ | .nxt _ | .pan _ | .call _ _ | .callv _ _=>false
 | _=>true
def Jz:PS->Bool
 | .v _ | .own _ _ _ | .full _=>true
 | _=>false
def Wm:List PS->Bool
 | []=>true
 | q::r=>Jz q&&Wm r
def XJ:List PD->Bool
 | []=>true
 | .s q::r=>Jz q&&XJ r
 | .agg ps::r=>Wm ps&&XJ r
def qOk(gl:Gl)(p:PSt):O->Bool
 | .app _ _ s _=>match evH gl p s with | some (.s q)=>(match q with | .own _ _ _=>true | .full _=>true | _=>false) | _=>false
 | .apz _ _ s _=>match evH gl p s with | some (.s q)=>(match q with | .own _ _ _=>true | .full _=>true | _=>false) | _=>false
 | .call f xs=>match gl.md f with | .pl=>(match zlU gl p xs with | some ds=>XJ ds | none=>false) | _=>false
 | o=>quiet o
def zc2{ρ:Type}(n:Nat)(d:PD)(K:RowC->Option ρ):Option ρ:=
 match Nat.blt 1 n with
 | true=>match d with
  | .s (.v x)=>tst (okN n x) (K (.box n x))
  | d=>vz n d fun cs=>K (.cells cs)
 | false=>vz n d fun cs=>K (.cells cs)
section
variable {ρ:Type} (gl:Gl) (pc:PcT)
def zhH(o:OpC)(p:PSt)(K:PSt->Option ρ):Option ρ:=
 match o.gd with
 | none=>VF gl pc p o.op fun r p'=>match zbC p' o.dst r with | some p''=>K p'' | none=>none
 | some (t,b)=>match evV gl p (.s t)with
  | some c=>(asBool c).bind fun c=>if c=b then(VF gl pc p o.op fun r p'=>match zbC p' o.dst r with | some p''=>K p'' | none=>none)
   else(match zbC p o.dst none with | some p''=>K p'' | none=>none)
  | none=>none
def vC:{ρ:Type}->PO->PSt->(PSt->Option ρ)->Option ρ
 | _,.nil,p,K=>K p
 | _,.one o r,p,K=>zhH gl pc o p fun p'=>vC r p' K
 | _,.box n dst x r,p,K=>match evH gl p x with
  | some d=>zc2 n d (fun c=>match zbC (p.newR c) (some dst) (some (.s (.ptr p.rows.length 0)))with | some p'=>vC r p' K | none=>none)
  | none=>none
 | _,.grp c w ops dst a b r,p,K=>match evV gl p (.s c)with
  | some c=>match evH gl p b with
   | some b=>match b.pureV with
    | some b=>match zmX p.tm (xN ops)&&zdm [] ops with
     | true=>(asBool c).bind fun c=>
      ((if c=w then vC ops p.sealOf fun p'=>match evH gl p' a with | some d=>d.pureV | none=>none else some b):Option V).bind fun x=>
      match zbC p (some dst) (some (.s (.v x)))with | some p'=>vC r p' K | none=>none
     | false=>none
    | none=>none
   | none=>none
  | none=>none
def Ja:{ρ:Type}->PO->PSt->(PSt->Option ρ)->Option ρ
 | _,.nil,p,K=>K p
 | _,.one o r,p,K=>match o.gd with
  | none=>match qOk gl p o.op with
   | true=>zhH gl pc o p fun p'=>Ja r p' K
   | false=>none
  | some _=>none
 | _,_,_,_=>none
def Zy:List (PEx×Sh)->PEx->Nat->Option (Nat×Sh)
 | [],_,_=>none
 | (.nrm,sh)::r,x,j=>match x with | .nrm=>some (j,sh) | x=>Zy r x (j+1)
 | (.ret,sh)::r,x,j=>match x with | .ret=>some (j,sh) | x=>Zy r x (j+1)
 | (.ext i,sh)::r,x,j=>match x with
  | .ext i'=>match Nat.beq i i' with | true=>some (j,sh) | false=>Zy r (.ext i') (j+1)
  | x=>Zy r x (j+1)
def zeO(p:PSt)(v:Nat->V)(K:PEx->PSt->Option ρ):List (PEx×Sh)->Nat->Option ρ
 | [],_=>none
 | [(x,sh)],_=>match dec false sh p v with | some p'=>K x p' | none=>none
 | (x,sh)::r,j=>if j=0 then(match dec false sh p v with | some p'=>K x p' | none=>none)else zeO p v K r (j-1)
def yC:{ρ:Type}->PC->PSt->(PEx->PSt->Option ρ)->Option ρ
 | _,.skip,p,K=>K .nrm p
 | _,.reg ops keep,p,K=>vC gl pc ops p fun p'=>K .nrm { p' with tm:=zaV keep p'.tm }
 | _,.drw a0 a1 b keep,p,K=>vC gl pc a0 p fun p0=>match Ke gl.md a1 with
  | true=>vC gl pc a1 { p0 with rows:=ZO p0.rows,lim:=p0.ni } fun p1=>vC gl pc b { p1 with rows:=p0.rows,lim:=p0.lim } fun p'=>K .nrm { p' with tm:=zaV keep p'.tm }
  | false=>none
 | _,.drq a0 a1 b keep,p,K=>vC gl pc a0 p fun p0=>Ja gl pc a1 p0 fun p1=>vC gl pc b p1 fun p'=>K .nrm { p' with tm:=zaV keep p'.tm }
 | _,.drf a0 t ag sz a k b1 b keep,p,K=>vC gl pc a0 p fun p0=>zhH gl pc ⟨some t,.load ag sz (.s a),none⟩ p0 fun p1=>match zja p1.tm a with
  | some (.s (.ptr k' _))=>match Nat.beq k k' && !Nat.beq t a && !hasB (xN b1) t && !hasB (xN b1) a&&zkM b1 with
   | true=>match hold p1 k with
    | some p2=>vC gl pc b1 p2 fun p3=>vC gl pc b (znc p3 k) fun p'=>K .nrm { p' with tm:=zaV keep p'.tm }
    | none=>none
   | false=>none
  | _=>none
 | _,.seq a b,p,K=>yC a p fun x p'=>match x with | .nrm=>yC b p' K | .ext i=>K (.ext i) p' | .ret=>K .ret p'
 | _,.cond c a b,p,K=>match evV gl p c with
  | some c=>(asBool c).bind fun c=>if c=true then yC a p K else yC b p K
  | none=>none
 | _,.blk id c,p,K=>yC c p fun x p'=>match x with
  | .nrm=>K .nrm p'
  | .ext i=>match Nat.beq i id with | true=>K .nrm p' | false=>K (.ext i) p'
  | .ret=>K .ret p'
 | _,.loop h xs c,p,K=>Kt false h p fun v0=>
  (zr (fun v:Nat->V=>match dec true h p v with
   | some pv=>yC c pv fun x p'=>match x with
    | .nrm=>Kt true h p' fun v'=>some (.inl v')
    | .ext i=>match Zy xs (.ext i) 0 with | some (j,sh)=>Kt true sh p' fun v'=>some (.inr (j,v')) | none=>none
    | .ret=>match Zy xs .ret 0 with | some (j,sh)=>Kt true sh p' fun v'=>some (.inr (j,v')) | none=>none
   | none=>none) v0).bind fun o:Nat×(Nat->V)=>zeO p o.2 K xs o.1
 | _,.cut h xs c,p,K=>Kt false h p fun v0=>match dec true h p v0 with
  | some pv=>(yC c pv fun x p'=>match Zy xs x 0 with | some (j,sh)=>Kt true sh p' fun v'=>some (j,v') | none=>none).bind fun o:Nat×(Nat->V)=>zeO p o.2 K xs o.1
  | none=>none
 | _,.exit id,p,K=>K (.ext id) p
 | _,.ret,p,K=>K .ret p
end
def zAP:PA->PD
 | .v x => .s (.v x)
 | .p j off => .s (.ptr j off)
 | .fn f cap => .s (.fn f cap)
 | .o sz xs => .s (.own 0 sz xs)
 | .g => .s (.v .nilp)
 | .u => .s (.v .nilp)
def J0(i:Nat):List PA->PTm
 | []=>[]
 | a::r=>(i,false,zAP a)::J0 (i+1) r
def kV:List (Bool×Nat×V)->List Row
 | []=>[]
 | (ro,n,x)::r=>⟨ro,zbY n x⟩::kV r
def vA(as:List PA)(pars:List (Bool×Nat×V)):PSt:=⟨J0 0 as,kV pars,1,0⟩
def zhi{ρ:Type}(p:PSt):List R->(List V->Option ρ)->Option ρ
 | [],K=>K []
 | .tmp t::r,K=>match zja p.tm t with
  | some d=>match d.outV p with | some x=>zhi p r fun l=>K (x::l) | none=>none
  | none=>none
 | .cell t ag sz::r,K=>match zja p.tm t with
  | some a=>ze4 p ag sz a fun d=>match d.outV p with | some x=>zhi p r fun l=>K (x::l) | none=>none
  | none=>none
def zmT:List V->V
 | [x]=>x
 | l => .tup l
def YA(p:PSt):Nat->List (Bool×Nat×V)->Option (List V)
 | _,[]=>some []
 | j,(_,n,_)::r=>match zad p j with
  | some c=>match zhW c with
   | some (n',x)=>match Nat.beq n' n with
    | true=>match YA p (j+1) r with | some l=>some (x::l) | none=>none
    | false=>none
   | none=>none
  | none=>none
def zyi(res:List R)(pars:List (Bool×Nat×V))(x:PEx)(p:PSt):Option (V×List V):=
 match x with
 | .ext _=>none
 | _=>match YA p 0 pars with
  | some ys=>zhi p res fun l=>some (zmT l,ys)
  | none=>none
def zp0(pn:Bool)(res:List R)(pars:List (Bool×Nat×V))(x:PEx)(p:PSt):Option (V×List V):=
 match pn with
 | false=>zyi res pars x p
 | true=>match x with
  | .ext i=>match Nat.beq i zo with
   | true=>match YA p 0 pars with
    | some ys=>zhi p [.tmp zo] fun l=>some (.tup [.bool false,zmT l],ys)
    | none=>none
   | false=>none
  | _=>match YA p 0 pars with
   | some ys=>zhi p res fun l=>some (.tup [.bool true,zmT l],ys)
   | none=>none
def zuk(sz:Nat)(res:List R)(x:PEx)(p:PSt):Option (V×List V):=
 match x with
 | .ext _=>none
 | _=>match res with
  | [.tmp t]=>match zja p.tm t with
   | some (.s (.own _ sz' xs))=>match Nat.beq sz sz' with | true=>some (.sl xs,[]) | false=>none
   | some (.s (.full xs))=>tst (yi sz xs) (some (.sl xs,[]))
   | _=>none
  | _=>none
def zuj(res:List R)(x:PEx)(p:PSt):Option (V×List V):=
 match x with
 | .ext _=>none
 | _=>match res with
  | [.tmp t]=>match zja p.tm t with
   | some d=>match d.pureV with | some y=>some (y,[]) | none=>none
   | none=>none
  | _=>none
def XH(gl:Gl)(pc:PcT)(fn:PFn)(md:Md)(as:List PA)(pars:List (Bool×Nat×V)):Option (V×List V):=
 match md with
 | .pl=>yC gl pc fn.body (vA as pars) (zp0 fn.pn fn.res pars)
 | .gv sz=>match as with
  | .g::as=>match pars with | []=>yC gl pc fn.body (vA as []) (zuk sz fn.res) | _=>none
  | _=>none
 | .raw sz=>match as with
  | .o sz' xs::as=>match pars with
   | []=>match Nat.beq sz sz' with | true=>yC gl pc fn.body (vA (.o sz' xs::as) []) (zuj fn.res) | false=>none
   | _=>none
  | _=>none
 | .ful=>none
 | .gvf _=>none
 | .eff _=>none
def zaG:List PA->Option (List V)
 | []=>some []
 | .v x::r=>match zaG r with | some l=>some (x::l) | none=>none
 | _=>none
def zii(g:List V->Option V)(as:List PA)(pars:List (Bool×Nat×V)):Option (V×List V):=
 match pars with
 | []=>match zaG as with | some xs=>(g xs).bind fun y=>some (y,[]) | none=>none
 | _=>none
def XZ(g:List V->Option V)(md:Md)(as:List PA)(pars:List (Bool×Nat×V)):Option (V×List V):=
 match md with
 | .pl=>zii g as pars
 | .gv _=>none
 | .gvf _=>match as with
  | .g::as=>(zii g as pars).bind fun q=>match q.1 with | .sl []=>some q | _=>none
  | _=>none
 | .ful=>match as with
  | .u::as=>zii g as pars
  | _=>none
 | .raw _=>none
 | .eff _=>none
def pcN(gl:Gl)(tab:Nat->Nat->Option PFn):Nat->PcT
 | 0=>fun _ _ _=>none
 | n+1=>fun f as pars=>match tab f pars.length with
  | some fn=>XH gl (pcN gl tab n) fn (gl.md f) as pars
  | none=>match gl.tx f with
   | some g=>XZ g (gl.md f) as pars
   | none=>none
def pcL(gl:Gl)(tab:Nat->Nat->Option PFn):PcT:=fun f as pars=>open Classical in
 if h : ∃ n r,pcN gl tab n f as pars=some r then some h.choose_spec.choose else none
inductive Hi where
 | n | l (a:Hi) | b (a c:Hi) | s (k:Nat) (a:Hi) | c (h:Sh) (xs:List (PEx×Sh)) (a:Hi) | o (h:Sh) (xs:List (PEx×Sh)) (a:Hi) | q | f (k:Nat)
def Hi.lf:Hi->Hi
 | .l x=>x
 | .b x _=>x
 | _ => .n
def Hi.rt:Hi->Hi
 | .b _ x=>x
 | .s k x=>(match k with | 0=>x | k+1 => .s k x)
 | _ => .n
def Hi.tl:Hi->Hi
 | .c _ _ x=>x
 | h=>h
def Hi.cut(h:Hi)(p:PC):PC:=match h with | .c sh xs _ => .cut sh xs p | _=>p
def gEq:Option (Nat×Bool)->Option (Nat×Bool)->Bool
 | none,none=>true
 | some (i,a),some (j,b)=>Nat.beq i j&&(a==b)
 | _,_=>false
def bxn:List (Nat×Nat)->Nat->Nat
 | [],_=>0
 | (i,n)::r,t=>match Nat.beq i t with | true=>n | false=>bxn r t
def po1(bx:List (Nat×Nat))(o:OpC)(r:PO):PO:=match o.gd with
 | some _ => .one o r
 | none=>match o.dst with
  | some d=>(match o.op with | .box x => .box (bxn bx d) d x r | _ => .one o r)
  | none => .one o r
def zy6(c:Nat)(o:O):Option (X×X):=match o with
 | .pick (.s t) a b=>match Nat.beq t c with | true=>some (a,b) | false=>none
 | _=>none
def lev(bx:List (Nat×Nat)):Nat->Option (Nat×Bool)->List OpC->Option (PO×List OpC)
 | 0,_,_=>none
 | _+1,g,[]=>match g with | none=>some (.nil,[]) | some _=>none
 | n+1,g,o::r=>match gEq o.gd g with
  | true=>(lev bx n g r).map fun q=>(po1 bx ⟨o.dst,o.op,none⟩ q.1,q.2)
  | false=>match(match g with | some c=>(zy6 c.1 o.op).isSome | none=>false)with
   | true=>some (.nil,o::r)
   | false=>match o.gd with
    | none=>none
    | some c=>(lev bx n (some c) (o::r)).bind fun q=>match q.2 with
     | p::r2=>match gEq p.gd g with
      | true=>match zy6 c.1 p.op with
       | some ab=>match p.dst with
        | some d=>(lev bx n g r2).map fun q2=>(match c.2 with | true => .grp c.1 true q.1 d ab.1 ab.2 q2.1 | false => .grp c.1 false q.1 d ab.2 ab.1 q2.1,q2.2)
        | none=>none
       | none=>none
      | false=>none
     | []=>none
def zzi(bx:List (Nat×Nat)):List OpC->PO
 | [] => .nil
 | o::r=>po1 bx o (zzi bx r)
def zml(bx:List (Nat×Nat))(l:List OpC):PO:=match lev bx (3*l.length+3) none l with | some q=>q.1 | none=>zzi bx l
def ann(bx:List (Nat×Nat)):C->Hi->PC
 | .skip,h=>h.cut .skip
 | .reg ops kp,h=>h.cut (.reg (zml bx ops) kp)
 | .drw a0 a1 b1 b kp,h=>h.cut (match h.tl with
  | .q => .drq (zml bx a0) (zml bx a1) (zml bx b) kp
  | .f k=>match a1 with
   | [⟨some t,.load ag sz (.s a),none⟩] => .drf (zml bx a0) t ag sz a k (zzi bx b1) (zml bx b) kp
   | _ => .skip
  | _ => .drw (zml bx a0) (zml bx a1) (zml bx b) kp)
 | .seq a b,h=>h.cut (.seq (ann bx a h.tl.lf) (ann bx b h.tl.rt))
 | .cond c a b,h=>h.cut (.cond c (ann bx a h.tl.lf) (ann bx b h.tl.rt))
 | .blk id c,h=>h.cut (.blk id (ann bx c h.tl.lf))
 | .loop c,h=>h.cut (match h.tl with | .o s xs a => .loop s xs (ann bx c a) | _ => .loop ⟨[],[]⟩ [] (ann bx c .n))
 | .exit id,h=>h.cut (.exit id)
 | .ret,h=>h.cut .ret
def kl(l:List (List Nat))(i:Nat):List Nat:=(l[i]?).getD []
def kd:List (Nat×List Nat×List Nat×List Nat×List Nat)->Nat->List Nat×List Nat×List Nat×List Nat
 | [],_=>([],[],[],[])
 | (j,x)::r,i=>match Nat.beq i j with | true=>x | false=>kd r i
def cd(P:Program)(g:Func)(kp:Nat->List Nat)(dp:Nat->List Nat×List Nat×List Nat×List Nat):C:=(g.body.bind (trC (yR P) g.ntmps kp dp)).getD .skip
def nf(np:Nat)(p:PFn):Fn:=⟨np,p.res,false,false,xz p.body⟩
theorem pl1{P:Program}{ti:Ti}{f:Nat}{fn:Fn}{g:Func}(kp:Nat->List Nat)(dp:Nat->List Nat×List Nat×List Nat×List Nat)(h:P.funcs[f]?=some g)
  (h2:(g.name == "runtime.NumGoroutine",g.body.bind (trC ti g.ntmps kp dp),zdA ti g.results.toList)=(false,some fn.body,some fn.res)):Plain P ti f fn:=by
 obtain⟨h3,h4⟩:=Prod.mk.inj h2;obtain⟨h4,h5⟩:=Prod.mk.inj h4;obtain⟨c,hc,h6⟩:=Option.bind_eq_some_iff.1 h4;exact⟨g,c,kp,dp,h,h3,hc,h6,h5⟩
end
section
theorem zkX(d:D):cl0L d.cells=d.cl0.cells:=by cases d<;>simp[D.cells,D.cl0,cl0L]
theorem kY(x:V):x.toD.cells=toDL x.parts:=by cases x<;>simp[V.toD,D.cells,V.parts,toDL]
theorem ze9{d:D}(h:d.cl0.oneCell=true):d.oneCell=true:=by cases d<;>simp_all [D.cl0,D.oneCell]
theorem zsr{x:V}(h:x.one=true):x.toD.oneCell=true:=by cases x<;>simp_all [V.one,V.toD,D.oneCell]
theorem v8{ds:List D}{xs:List V}(h:cl0L ds=toDL xs)(hx:yE xs=true):yd ds=true:=by
 induction ds generalizing xs with
 | nil=>rfl
 | cons d r ih=>
  cases xs with
  | nil=>simp[cl0L,toDL]at h
  | cons x s=>simp only[cl0L,toDL,List.cons.injEq]at h;simp only[yE,zG]at hx;simp only[yd,zG];exact⟨ze9 (by rw[h.1];exact zsr hx.1),ih h.2 hx.2⟩
theorem xW(xs:List V):(toDL xs).length=xs.length:=by induction xs<;>simp_all [toDL]
theorem zcM(xs:List V)(i:Nat):(toDL xs)[i]?=(xs[i]?).map V.toD:=by
 induction xs generalizing i with
 | nil=>simp[toDL]
 | cons x r ih=>cases i<;>simp_all [toDL]
theorem YJ(xs ys:List V):toDL (xs++ys)=toDL xs++toDL ys:=by induction xs<;>simp_all [toDL]
theorem K9(xs:List V)(i:Nat):(toDL xs).take i=toDL (xs.take i):=by
 induction xs generalizing i with
 | nil=>simp[toDL]
 | cons x r ih=>cases i<;>simp_all [toDL]
theorem Yd(xs:List V)(i:Nat):(toDL xs).drop i=toDL (xs.drop i):=by
 induction xs generalizing i with
 | nil=>simp[toDL]
 | cons x r ih=>cases i<;>simp_all [toDL]
theorem qL(xs ys:List D):cl0L (xs++ys)=cl0L xs++cl0L ys:=by induction xs<;>simp_all [cl0L]
theorem vY(xs:List D)(i:Nat):cl0L (xs.take i)=(cl0L xs).take i:=by
 induction xs generalizing i with
 | nil=>simp[cl0L]
 | cons x r ih=>cases i<;>simp_all [cl0L]
theorem qw(xs:List D)(i:Nat):cl0L (xs.drop i)=(cl0L xs).drop i:=by
 induction xs generalizing i with
 | nil=>simp[cl0L]
 | cons x r ih=>cases i<;>simp_all [cl0L]
theorem va(xs ys:List V):flatD (xs++ys)=flatD xs++flatD ys:=by induction xs<;>simp_all [flatD]
theorem YO(sz:Nat)(xs ys:List V):yi sz (xs++ys)=(yi sz xs&&yi sz ys):=by
 induction xs with
 | nil=>simp[yi]
 | cons x r ih=>simp[yi,ih,Bool.and_assoc]
theorem y4{sz:Nat}{x:V}{r:List V}:yi sz (x::r)=true↔okN sz x=true/\yi sz r=true:=by simp[yi]
theorem Yl{sz:Nat}{xs:List V}(h:yi sz xs=true)(i:Nat):yi sz (xs.take i)=true:=by
 induction xs generalizing i with
 | nil=>simp[yi]
 | cons x r ih=>cases i with
  | zero=>simp[yi]
  | succ i=>rw[List.take_succ_cons];exact y4.2 ⟨(y4.1 h).1,ih (y4.1 h).2 i⟩
theorem kT{sz:Nat}{xs:List V}(h:yi sz xs=true)(i:Nat):yi sz (xs.drop i)=true:=by
 induction xs generalizing i with
 | nil=>simp[yi]
 | cons x r ih=>cases i with
  | zero=>exact h
  | succ i=>rw[List.drop_succ_cons];exact ih (y4.1 h).2 i
theorem X2{sz:Nat}{xs:List V}(h:yi sz xs=true){i:Nat}{x:V}(hi:xs[i]?=some x):okN sz x=true:=by
 induction xs generalizing i with
 | nil=>simp at hi
 | cons y r ih=>cases i with
  | zero=>simp at hi;subst hi;exact(y4.1 h).1
  | succ i=>exact ih (y4.1 h).2 (by simpa using hi)
theorem VU{sz:Nat}{xs:List V}(h:yi sz xs=true){i:Nat}{x:V}(hx:okN sz x=true):yi sz (xs.set i x)=true:=by
 induction xs generalizing i with
 | nil=>simp[yi]
 | cons y r ih=>cases i with
  | zero=>exact y4.2 ⟨hx,(y4.1 h).2⟩
  | succ i=>exact y4.2 ⟨(y4.1 h).1,ih (y4.1 h).2⟩
theorem zcU{sz n:Nat}{x:V}(hx:okN sz x=true):yi sz (List.replicate n x)=true:=by
 induction n with
 | zero=>simp[yi]
 | succ n ih=>rw[List.replicate_succ];exact y4.2 ⟨hx,ih⟩
theorem xw{n:Nat}{x:V}(h:okN n x=true):x.parts.length=n:=by simp only[okN,zG]at h;exact zJ h.1
theorem wB{n:Nat}{x:V}(h:okN n x=true):yE x.parts=true:=by simp only[okN,zG]at h;exact h.2
theorem Vb{n:Nat}{x:V}(h:x.parts.length=n)(k:yE x.parts=true):okN n x=true:=by simp only[okN,zG];exact⟨by rw[h];exact Nat.beq_refl n,k⟩
theorem xg{sz:Nat}{xs:List V}(h:yi sz xs=true):(flatD xs).length=xs.length*sz:=by
 induction xs with
 | nil=>simp[flatD]
 | cons x r ih=>simp only[flatD,zZ,zBG];rw[ih (y4.1 h).2,kY,xW,xw (y4.1 h).1,zBW,Nat.one_mul,Nat.add_comm]
theorem qS{sz:Nat}{xs:List V}(h:yi sz xs=true)(i:Nat):(flatD xs).drop (i*sz)=flatD (xs.drop i):=by
 induction xs generalizing i with
 | nil=>simp[flatD]
 | cons x r ih=>cases i with
  | zero=>simp
  | succ i=>
   simp only[flatD,List.drop_succ_cons];have hl:(x.toD.cells).length=sz:=by rw[kY,xW,xw (y4.1 h).1]
   rw[show(i+1)*sz=sz+i*sz by rw[zBW,Nat.one_mul,Nat.add_comm],<- List.drop_drop];rw[<- ih (y4.1 h).2,List.drop_left' hl]
theorem qn{sz:Nat}{xs:List V}(h:yi sz xs=true)(i:Nat):(flatD xs).take (i*sz)=flatD (xs.take i):=by
 induction xs generalizing i with
 | nil=>simp[flatD]
 | cons x r ih=>cases i with
  | zero=>simp[flatD]
  | succ i=>
   simp only[flatD,List.take_succ_cons];have hl:(x.toD.cells).length=sz:=by rw[kY,xW,xw (y4.1 h).1]
   rw[<- ih (y4.1 h).2,show(i+1)*sz=sz+i*sz by rw[zBW,Nat.one_mul,Nat.add_comm]];rw[List.take_append,hl,zV (by omega)];congr 2;omega
theorem zim{xs:List V}{i:Nat}{x:V}(h:xs[i]?=some x):flatD (xs.drop i)=toDL x.parts++flatD (xs.drop (i+1)):=by
 have hi:i<xs.length:=by
  rcases zBD i xs.length with h' | h'
  ·exact h'
  ·rw[zBQ h']at h;simp at h
 rw[zO hi];have:xs[i]=x:=by rw[zL hi]at h;injection h
 rw[this];simp[flatD,kY]
theorem ztz(n:Nat)(x:V):flatD (List.replicate n x)=rep n (toDL x.parts):=by
 induction n with
 | zero=>simp[flatD,rep]
 | succ n ih=>simp[List.replicate_succ,flatD,ih,rep,kY]
theorem zfL(l:List UInt8):flatD (XW l)=ofBytes l:=by
 induction l with
 | nil=>rfl
 | cons b r ih=>simp_all [XW,ofBytes,flatD,V.toD,D.cells]
theorem zqe(l:List UInt8):yi 1 (XW l)=true:=by
 induction l with
 | nil=>rfl
 | cons b r ih=>exact y4.2 ⟨rfl,ih⟩
mutual
def D.noU:D->Bool
 | .und=>false
 | .sl _ _ xs=>noUL xs
 | .agg xs=>noUL xs
 | .tup xs=>noUL xs
 | .iface _ d=>d.noU
 | _=>true
def noUL:List D->Bool
 | []=>true
 | d::r=>d.noU&&noUL r
end
mutual
theorem zeq(m:Mem) : ∀ d:D,d.cl0.noU=true->d.cl m=d.cl0/\d.refs=[]
 | .und,h=>by simp[D.cl0,D.noU]at h
 | .off,_=>⟨rfl,rfl⟩
 | .bool _,_=>⟨rfl,rfl⟩
 | .int _ _,_=>⟨rfl,rfl⟩
 | .float _ _,_=>⟨rfl,rfl⟩
 | .str _,_=>⟨rfl,rfl⟩
 | .nilp,_=>⟨rfl,rfl⟩
 | .nilf,_=>⟨rfl,rfl⟩
 | .nili,_=>⟨rfl,rfl⟩
 | .sl g n xs,h=>by have:=clL_of_noU m xs (by simpa[D.cl0,D.noU]using h);simp[D.cl,D.cl0,D.refs,this.1,this.2]
 | .ref _ _ _ _ _,h=>by simp[D.cl0,D.noU]at h
 | .ptr _ _,_=>⟨rfl,rfl⟩
 | .el _,_=>⟨rfl,rfl⟩
 | .agg xs,h=>by have:=clL_of_noU m xs (by simpa[D.cl0,D.noU]using h);simp[D.cl,D.cl0,D.refs,this.1,this.2]
 | .tup xs,h=>by have:=clL_of_noU m xs (by simpa[D.cl0,D.noU]using h);simp[D.cl,D.cl0,D.refs,this.1,this.2]
 | .fn _ _,_=>⟨rfl,rfl⟩
 | .iface t d,h=>by have:=zeq m d (by simpa[D.cl0,D.noU]using h);simp[D.cl,D.cl0,D.refs,this.1,this.2]
theorem clL_of_noU(m:Mem) : ∀ l:List D,noUL (cl0L l)=true->clL m l=cl0L l/\refsL l=[]
 | [],_=>⟨rfl,rfl⟩
 | d::r,h=>by simp only[cl0L,noUL,zG]at h;have h1:=zeq m d h.1;have h2:=clL_of_noU m r h.2;simp[clL,cl0L,refsL,h1.1,h1.2,h2.1,h2.2]
end
theorem znT(a b:List D):noUL (a++b)=(noUL a&&noUL b):=by
 induction a with
 | nil=>simp[noUL]
 | cons x r ih=>simp[noUL,ih,Bool.and_assoc]
theorem zt4{d:D}(h:d.noU=true):noUL d.cells=true:=by cases d<;>simp_all [D.cells,D.noU,noUL]
mutual
theorem zgs : ∀ x:V,x.toD.noU=true
 | .bool _=>rfl
 | .int _ _=>rfl
 | .float _ _=>rfl
 | .str _=>rfl
 | .nilp=>rfl
 | .nilf=>rfl
 | .nili=>rfl
 | .sl xs=>by simp only[V.toD,D.noU];exact flatD_noU xs
 | .agg xs=>by simp only[V.toD,D.noU];exact toDL_noU xs
 | .tup xs=>by simp only[V.toD,D.noU];exact toDL_noU xs
 | .fn _ _=>rfl
 | .iface _ x=>by simp only[V.toD,D.noU];exact zgs x
theorem toDL_noU : ∀ l:List V,noUL (toDL l)=true
 | []=>rfl
 | x::r=>by simp only[toDL,noUL,zgs x,toDL_noU r,Bool.and_self]
theorem flatD_noU : ∀ l:List V,noUL (flatD l)=true
 | []=>rfl
 | x::r=>by simp only[flatD,znT,zt4 (zgs x),flatD_noU r,Bool.and_self]
end
theorem zpe{x:V}{d:D}(h:d.cl0=x.toD)(m:Mem):d.cl m=x.toD/\d.refs=[]:=by have:=zeq m d (by rw[h];exact zgs x);exact⟨this.1.trans h,this.2⟩
theorem zwy{xs:List V}{ds:List D}(h:cl0L ds=flatD xs)(m:Mem):clL m ds=flatD xs/\refsL ds=[]:=by have:=clL_of_noU m ds (by rw[h];exact flatD_noU xs);exact⟨this.1.trans h,this.2⟩
theorem zv5{xs:List V}{ds:List D}(h:cl0L ds=toDL xs)(m:Mem):clL m ds=toDL xs/\refsL ds=[]:=by have:=clL_of_noU m ds (by rw[h];exact toDL_noU xs);exact⟨this.1.trans h,this.2⟩
mutual
theorem Qd : ∀ x:V,x.toD.cl0=x.toD
 | .bool _=>rfl
 | .int _ _=>rfl
 | .float _ _=>rfl
 | .str _=>rfl
 | .nilp=>rfl
 | .nilf=>rfl
 | .nili=>rfl
 | .sl xs=>by simp only[V.toD,D.cl0,flatD_cl0]
 | .agg xs=>by simp only[V.toD,D.cl0,toDL_cl0]
 | .tup xs=>by simp only[V.toD,D.cl0,toDL_cl0]
 | .fn _ _=>rfl
 | .iface _ x=>by simp only[V.toD,D.cl0,Qd]
theorem toDL_cl0 : ∀ l:List V,cl0L (toDL l)=toDL l
 | []=>rfl
 | x::r=>by simp only[toDL,cl0L,Qd x,toDL_cl0 r]
theorem flatD_cl0 : ∀ l:List V,cl0L (flatD l)=flatD l
 | []=>rfl
 | x::r=>by simp only[flatD,qL,zkX,Qd x,flatD_cl0 r]
end
def RC(ρ:Nat->Nat)(m:Nat):CP->D->Prop
 | .v x,d=>d.cl0=x.toD
 | .p k off,d=>k<m/\d = .ptr (ρ k) off
def RCL(ρ:Nat->Nat)(m:Nat):List CP->List D->Prop
 | [],[]=>True
 | q::r,d::s=>RC ρ m q d/\RCL ρ m r s
 | _,_=>False
def yj(rows:List Row)(k:Nat):Option (Nat×Nat):=match rows[k]? with | some ⟨_,.arr _ sz xs⟩=>some (sz,xs.length) | _=>none
structure Cx where
 ρ:Nat->Nat
 τ:Nat->Option Nat
 m:Nat
 rk:Nat->Option (Nat×Nat)
 tip:Nat->Option Nat
 ni:Nat
def RS(c:Cx):PS->D->Prop
 | .v x,d=>d.cl0=x.toD
 | .own id sz xs,d => ∃ g ds,d = .sl g xs.length ds/\cl0L ds=flatD xs/\yi sz xs=true/\id<c.ni/\(g = .full \/ ∃ l,g = .ln l sz/\c.τ id=some l/\c.tip l=some xs.length)
 | .full xs,d => ∃ ds,d = .sl .full xs.length ds/\cl0L ds=flatD xs
 | .ptr k off,d=>k<c.m/\d = .ptr (c.ρ k) off
 | .ptrA k sz i off,d=>k<c.m/\d = .ptr (c.ρ k) (i*sz+off) /\ ∀ s n,c.rk k=some (s,n)->s=sz/\i<n
 | .ref k sz off n cp z,d=>k<c.m/\(n<=cp/\cp<J4)/\(d = .ref (c.ρ k) (off*sz) n cp sz/\(z=false\/0<cp)\/cp=0/\d = .sl .full 0 []/\z=true) /\ ∀ s l,c.rk k=some (s,l)->s=sz/\off+cp<=l
 | .uref k sz n,d=>k<c.m/\(∃ cp,(J4<=cp/\n<=cp)/\d = .ref (c.ρ k) 0 n cp sz) /\ ∀ s l,c.rk k=some (s,l)->s=sz/\n<=l
 | .el cs,d => ∃ ds,d = .el ds/\toDL cs <+: cl0L ds
 | .elx sz x off,d=>okN sz x=true /\ ∃ ds,d = .el ds/\(toDL x.parts).drop off <+: cl0L ds
 | .fn f cap,d => ∃ ds,d = .fn f ds/\RCL c.ρ c.m cap ds
def RSL(c:Cx):List PS->List D->Prop
 | [],[]=>True
 | q::r,d::s=>RS c q d/\RSL c r s
 | _,_=>False
def RP(c:Cx):PD->D->Prop
 | .s q,d=>RS c q d
 | .agg ps,d => ∃ ds,d = .agg ds/\RSL c ps ds/\yd ds=true
def RO(c:Cx):Option PD->Option D->Prop
 | none,none=>True
 | some d,some e=>RP c d e
 | _,_=>False
def Fz.ok:Fz->Bool->Prop
 | .no,b=>b=false
 | .may,_=>True
 | .yes,b=>b=true
def RW(c:Cx):RowC->Ob->Prop
 | .box n x,o => ∃ ds,o = .row ds false/\cl0L ds=toDL x.parts/\okN n x=true
 | .cells ps,o => ∃ ds,o = .row ds false/\RSL c ps ds/\yd ds=true
 | .arr fz sz xs,o => ∃ ds b,o = .row ds b/\fz.ok b/\cl0L ds=flatD xs/\yi sz xs=true
 | .iter s pos,o=>o = .iter s pos
 | .bld t e s,o=>o = .bld t e s
 | .dead,_=>True
def zy(ρ:Nat->Nat)(τ:Nat->Option Nat)(p:PSt)(st:St):Cx:=⟨ρ,τ,p.rows.length,yj p.rows,st.tip,p.ni⟩
structure Sim(ρ:Nat->Nat)(τ:Nat->Option Nat)(p:PSt)(st:St):Prop where
 tm : ∀ t f d,xb p.tm t=some (f,d) -> ∃ e,get st.tm t=some e/\RP (zy ρ τ p st) d e
 nx : ∀ k,k<p.rows.length->ρ k<st.nx
 rows : ∀ k r,p.rows[k]?=some r -> ∃ o,(r.c = .dead\/st.mem (ρ k)=some o)/\RW (zy ρ τ p st) r.c o
 inj : ∀ j k,j<p.rows.length->k<p.rows.length->ρ j=ρ k->j=k
 lin : ∀ i l,τ i=some l->i<p.ni/\l<st.nx
 linj : ∀ i j l,τ i=some l->τ j=some l->i=j
theorem WI{c:Cx}{ps:List PS}{ds:List D}(h:RSL c ps ds):ps.length=ds.length:=by
 induction ps generalizing ds with
 | nil=>cases ds with | nil=>rfl | cons d s=>exact h.elim
 | cons q r ih=>cases ds with | nil=>exact h.elim | cons d s=>simp[ih h.2]
theorem zsv{c:Cx}{ps:List PS}{ds:List D}(h:RSL c ps ds){i:Nat}{q:PS}(hi:ps[i]?=some q) : ∃ d,ds[i]?=some d/\RS c q d:=by
 induction ps generalizing ds i with
 | nil=>simp at hi
 | cons p r ih=>cases ds with
  | nil=>exact h.elim
  | cons d s=>cases i with
   | zero=>simp at hi;subst hi;exact⟨d,by simp,h.1⟩
   | succ i=>simpa using ih h.2 (by simpa using hi)
theorem zil{c:Cx}{ps:List PS}{ds:List D}(h:RSL c ps ds)(n:Nat):RSL c (ps.take n) (ds.take n):=by
 induction ps generalizing ds n with
 | nil=>cases ds with | nil=>simpa using h | cons d s=>exact h.elim
 | cons p r ih=>cases ds with
  | nil=>exact h.elim
  | cons d s=>cases n with
   | zero=>simp[RSL]
   | succ n=>exact⟨h.1,ih h.2 n⟩
theorem zio{c:Cx}{ps:List PS}{ds:List D}(h:RSL c ps ds)(n:Nat):RSL c (ps.drop n) (ds.drop n):=by
 induction ps generalizing ds n with
 | nil=>cases ds with | nil=>simpa using h | cons d s=>exact h.elim
 | cons p r ih=>cases ds with
  | nil=>exact h.elim
  | cons d s=>cases n with
   | zero=>exact h
   | succ n=>exact ih h.2 n
theorem zid{c:Cx}{ps qs:List PS}{ds es:List D}(h:RSL c ps ds)(k:RSL c qs es):RSL c (ps++qs) (ds++es):=by
 induction ps generalizing ds with
 | nil=>cases ds with | nil=>simpa using k | cons d s=>exact h.elim
 | cons p r ih=>cases ds with
  | nil=>exact h.elim
  | cons d s=>exact⟨h.1,ih h.2⟩
theorem zmQ{c:Cx}{ps qs:List PS}{ds es:List D}(h:RSL c ps ds)(k:RSL c qs es)(o:Nat):RSL c (wG ps o qs) (qE ds o es):=by unfold wG qE;rw[WI k];exact zid (zid (zil h o) k) (zio h _)
theorem zsA{c:Cx}{xs:List V}{ds:List D}(h:cl0L ds=toDL xs):RSL c (xs.map PS.v) ds:=by
 induction xs generalizing ds with
 | nil=>cases ds with | nil=>trivial | cons d s=>simp[cl0L,toDL]at h
 | cons x r ih=>cases ds with
  | nil=>simp[cl0L,toDL]at h
  | cons d s=>simp only[cl0L,toDL,List.cons.injEq]at h;exact⟨h.1,ih h.2⟩
theorem zxd{c:Cx}{ps:List PS}{ds:List D}(h:RSL c ps ds){l:List V}(k:zwG ps=some l):cl0L ds=toDL l:=by
 induction ps generalizing ds l with
 | nil=>cases ds with
  | nil=>simp[zwG]at k;subst k;rfl
  | cons d s=>exact h.elim
 | cons p r ih=>cases ds with
  | nil=>exact h.elim
  | cons d s=>
   cases p<;>simp only[zwG]at k<;>try contradiction
   split at k<;>simp at k;rename_i l' hl;subst k;simp only[cl0L,toDL,ih h.2 hl];rw[show d.cl0=_ from h.1]
theorem zcy{c:Cx}{ps:List PS}{ds:List D}(h:RSL c ps ds)(h1:yd ds=true):RP c (zkJ ps) (.agg ds):=by
 unfold zkJ;split
 ·next l hl=>show(D.agg ds).cl0=_;simp only[D.cl0,V.toD,zxd h hl]
 ·exact⟨ds,rfl,h,h1⟩
theorem PS.pure_ok{c:Cx}{q:PS}{d:D}(h:RS c q d){x:V}(k:q.pure=some x):d.cl0=x.toD:=by
 cases q;case fn f cap=>
  simp only[PS.pure]at k;split at k<;>try contradiction
  injection k with k;subst k;obtain⟨ds,rfl,hd⟩:=h;cases ds with
  | nil=>rfl
  | cons _ _=>exact hd.elim
 all_goals simp[PS.pure]at k
 all_goals subst k
 ·exact h
 ·obtain⟨g,ds,rfl,hd,_,_⟩:=h;simp[D.cl0,V.toD,hd]
 ·obtain⟨ds,rfl,hd⟩:=h;simp[D.cl0,V.toD,hd]
theorem Jy{c:Cx}{ps:List PS}{ds:List D}(h:RSL c ps ds){l:List V}(k:Yi ps=some l):cl0L ds=toDL l:=by
 induction ps generalizing ds l with
 | nil=>cases ds with
  | nil=>simp[Yi]at k;subst k;rfl
  | cons d s=>exact h.elim
 | cons p r ih=>cases ds with
  | nil=>exact h.elim
  | cons d s=>
   simp only[Yi]at k;split at k<;>try contradiction
   split at k<;>try contradiction
   next x hx _ l' hl=>injection k with k;subst k;simp only[cl0L,toDL,ih h.2 hl,PS.pure_ok h.1 hx]
theorem PD.pure_ok{c:Cx}{q:PD}{d:D}(h:RP c q d){x:V}(k:q.pureV=some x):d.cl0=x.toD:=by
 cases q with
 | s q=>exact PS.pure_ok h k
 | agg ps=>
  obtain⟨ds,rfl,hd,_⟩:=h;simp only[PD.pureV]at k;split at k<;>try contradiction
  next l hl=>injection k with k;subst k;simp only[D.cl0,V.toD,Jy hd hl]
mutual
theorem zm1 : ∀ (d:D) (x:V),ofD d=some x->d.cl0=x.toD
 | .und,x,h=>by simp[ofD]at h
 | .off,x,h=>by simp[ofD]at h
 | .bool _,x,h=>by simp[ofD]at h;subst h;rfl
 | .int _ _,x,h=>by simp[ofD]at h;subst h;rfl
 | .float _ _,x,h=>by simp[ofD]at h;subst h;rfl
 | .str _,x,h=>by simp[ofD]at h;subst h;rfl
 | .nilp,x,h=>by simp[ofD]at h;subst h;rfl
 | .nilf,x,h=>by simp[ofD]at h;subst h;rfl
 | .nili,x,h=>by simp[ofD]at h;subst h;rfl
 | .sl _ _ _,x,h=>by simp[ofD]at h
 | .ref _ _ _ _ _,x,h=>by simp[ofD]at h
 | .ptr _ _,x,h=>by simp[ofD]at h
 | .el _,x,h=>by simp[ofD]at h
 | .agg ds,x,h=>by
  simp only[ofD]at h;split at h<;>try contradiction
  next l hl=>injection h with h;subst h;simp only[D.cl0,V.toD,ofDL_ok ds l hl]
 | .tup _,x,h=>by simp[ofD]at h
 | .fn f c,x,h=>by
  simp only[ofD]at h;split at h<;>try contradiction
  injection h with h;subst h;rfl
 | .iface t d,x,h=>by
  simp only[ofD]at h;split at h<;>try contradiction
  next y hy=>injection h with h;subst h;simp only[D.cl0,V.toD,zm1 d y hy]
theorem ofDL_ok : ∀ (l:List D) (xs:List V),ofDL l=some xs->cl0L l=toDL xs
 | [],xs,h=>by simp[ofDL]at h;subst h;rfl
 | d::r,xs,h=>by
  simp only[ofDL]at h;split at h<;>try contradiction
  split at h<;>try contradiction
  next x hx _ l hl=>injection h with h;subst h;simp only[cl0L,toDL,zm1 d x hx,ofDL_ok r l hl]
end
theorem zle{c:Cx}{d:D}{q:PS}(h:zel d=some q):RS c q d:=by
 unfold zel at h;split at h
 ·injection h with h;subst h;exact⟨[],rfl,rfl⟩
 ·injection h with h;subst h;exact⟨[],rfl,trivial⟩
 ·split at h<;>try contradiction
  next x hx=>injection h with h;subst h;exact zm1 _ _ hx
theorem KN{c:Cx}{ds:List D}{l:List PS}(h:WW ds=some l):RSL c l ds:=by
 induction ds generalizing l with
 | nil=>simp[WW]at h;subst h;trivial
 | cons d r ih=>
  simp only[WW]at h;split at h<;>try contradiction
  split at h<;>try contradiction
  next x hx _ l' hl=>injection h with h;subst h;exact⟨zle hx,ih hl⟩
theorem zq5{d:D}{q:PS}(h:zel d=some q)(k:q.oneP=true):d.oneCell=true:=by
 unfold zel at h;split at h
 ·rfl
 ·rfl
 ·split at h<;>try contradiction
  next x hx=>injection h with h;subst h;exact ze9 (by rw[zm1 _ _ hx];exact zsr k)
theorem V3{ds:List D}{l:List PS}(h:WW ds=some l)(k:zre l=true):yd ds=true:=by
 induction ds generalizing l with
 | nil=>rfl
 | cons d r ih=>
  simp only[WW]at h;split at h<;>try contradiction
  split at h<;>try contradiction
  next x hx _ l' hl=>injection h with h;subst h;simp only[zre,zG]at k;simp only[yd,zG];exact⟨zq5 hx k.1,ih hl k.2⟩
theorem ztW{c:Cx}{d:D}{q:PD}(h:zqa d=some q):RP c q d:=by
 unfold zqa at h;split at h
 ·split at h<;>try contradiction
  split at h<;>try contradiction
  next l hl _ h1=>injection h with h;subst h;exact zcy (KN hl) (V3 hl h1)
 ·split at h<;>try contradiction
  next q hq=>injection h with h;subst h;exact zle hq
def GlR(E:Env)(gl:Gl):Prop := ∀ n cs,gl.g n=some cs -> ∃ ds,E.gl n=some ds/\toDL cs <+: cl0L ds
theorem jX(tm:PTm)(t:Nat):zja tm t=(xb tm t).map (·.2):=by
 induction tm with
 | nil=>rfl
 | cons e r ih=>
  obtain⟨i,f,d⟩:=e;simp only[zja,xb];cases i.beq t
  ·exact ih
  ·rfl
theorem yp{E:Env}{gl:Gl}(hg:GlR E gl){ρ τ p st}(hS:Sim ρ τ p st){x:X}{d:PD}(h:evH gl p x=some d) : ∃ e,ev E st.tm x=some e/\RP (zy ρ τ p st) d e:=by
 cases x with
 | s t=>simp only[evH,jX,zB]at h;obtain⟨⟨f,d'⟩,h1,rfl⟩:=h;obtain⟨e,he,hr⟩:=hS.tm t f d' h1;exact⟨e,he,hr⟩
 | k c=>exact⟨c,rfl,ztW h⟩
 | g n=>
  simp only[evH]at h;split at h<;>try contradiction
  next cs hc=>injection h with h;subst h;obtain⟨ds,h1,h2⟩:=hg n cs hc;exact⟨.el ds,by simp[ev,h1],ds,rfl,h2⟩
theorem xD{E:Env}{gl:Gl}(hg:GlR E gl){ρ τ p st}(hS:Sim ρ τ p st){x:X}{v:V}(h:evV gl p x=some v) : ∃ e,ev E st.tm x=some e/\e.cl0=v.toD:=by
 unfold evV at h;split at h<;>try contradiction
 next y hy=>injection h with h;subst h;exact yp hg hS hy
theorem zse{E:Env}{gl:Gl}(hg:GlR E gl){ρ τ p st}(hS:Sim ρ τ p st){xs:List X}{l:List V}(h:zt0 gl p xs=some l) : ∃ es,evL E st.tm xs=some es/\cl0L es=toDL l:=by
 induction xs generalizing l with
 | nil=>simp[zt0]at h;subst h;exact⟨[],rfl,rfl⟩
 | cons x r ih=>
  simp only[zt0]at h;split at h<;>try contradiction
  split at h<;>try contradiction
  next v hv _ l' hl=>injection h with h;subst h;obtain⟨e,h1,h2⟩:=xD hg hS hv;obtain⟨es,h3,h4⟩:=ih hl;exact⟨e::es,by simp[evL,h1,h3],by simp[cl0L,toDL,h2,h4]⟩
theorem WO{E:Env}{gl:Gl}(hg:GlR E gl){ρ τ p st}(hS:Sim ρ τ p st){x:Option X}{v:Option V}(h:zhj gl p x=some v) : ∃ e,evO E st.tm x=some e/\e.map D.cl0=v.map V.toD:=by
 cases x with
 | none=>simp[zhj]at h;subst h;exact⟨none,rfl,rfl⟩
 | some x=>
  simp only[zhj]at h;split at h<;>try contradiction
  next d hd=>injection h with h;subst h;obtain⟨e,h1,h2⟩:=xD hg hS hd;exact⟨some e,by simp[evO,h1],by simp[h2]⟩
def RPL(c:Cx):List PD->List D->Prop
 | [],[]=>True
 | q::r,d::s=>RP c q d/\RPL c r s
 | _,_=>False
theorem zdw{E:Env}{gl:Gl}(hg:GlR E gl){ρ τ p st}(hS:Sim ρ τ p st){xs:List X}{l:List PD}(h:zlU gl p xs=some l) : ∃ es,evL E st.tm xs=some es/\RPL (zy ρ τ p st) l es:=by
 induction xs generalizing l with
 | nil=>simp[zlU]at h;subst h;exact⟨[],rfl,trivial⟩
 | cons x r ih=>
  simp only[zlU]at h;split at h<;>try contradiction
  split at h<;>try contradiction
  next v hv _ l' hl=>injection h with h;subst h;obtain⟨e,h1,h2⟩:=yp hg hS hv;obtain⟨es,h3,h4⟩:=ih hl;exact⟨e::es,by simp[evL,h1,h3],h2,h4⟩
end
section
theorem znA{d:D}{b:Bool}(h:d.cl0 = .bool b):d = .bool b:=by cases d<;>simp_all [D.cl0]
theorem vJ{d:D}{k:IntKind}{n:Int}(h:d.cl0 = .int k n):d = .int k n:=by cases d<;>simp_all [D.cl0]
theorem zlA{d:D}{k:FloatKind}{b:Nat}(h:d.cl0 = .float k b):d = .float k b:=by cases d<;>simp_all [D.cl0]
theorem WB{d:D}{s:List UInt8}(h:d.cl0 = .str s):d = .str s:=by cases d<;>simp_all [D.cl0]
theorem zzT{d:D}{f:Nat}{l:List D}(h:d.cl0 = .fn f l):d = .fn f l:=by cases d<;>simp_all [D.cl0]
theorem zv7{d:D}{g:Tg}{n:Nat}{l:List D}(h:d.cl0 = .sl g n l) : ∃ g' l',d = .sl g' n l'/\cl0L l'=l:=by
 cases d;case sl g' n' l'=>simp only[D.cl0,D.sl.injEq]at h;exact⟨g',l',by rw[h.2.1],h.2.2⟩
 all_goals simp[D.cl0]at h
theorem zgy{d:D}{l:List D}(h:d.cl0 = .agg l) : ∃ l',d = .agg l'/\cl0L l'=l:=by cases d<;>simp_all [D.cl0]
theorem zrT{d:D}{l:List D}(h:d.cl0 = .tup l) : ∃ l',d = .tup l'/\cl0L l'=l:=by cases d<;>simp_all [D.cl0]
theorem zgl{ds:List D}{xs:List V}(h:cl0L ds=toDL xs){i:Nat}{x:V}(hi:xs[i]?=some x) : ∃ d,ds[i]?=some d/\d.cl0=x.toD:=by
 have h1:=congrArg (fun l:List D=>l[i]?) h;simp only[XL,zcM,hi,zC]at h1;cases hd:ds[i]? with
 | none=>rw[hd]at h1;simp at h1
 | some d=>rw[hd]at h1;exact⟨d,rfl,by simpa using h1⟩
theorem zm7{ds:List D}{xs:List V}(h:toDL xs <+: cl0L ds){i:Nat}{x:V}(hi:xs[i]?=some x) : ∃ d,ds[i]?=some d/\d.cl0=x.toD:=by
 obtain⟨t,ht⟩:=h;have hl:i<xs.length:=by
  rcases zBD i xs.length with h' | h'
  ·exact h'
  ·rw[zBQ h']at hi;simp at hi
 have h1:(cl0L ds)[i]?=some x.toD:=by rw[<- ht,zBP (by rw[xW];exact hl),zcM,hi];rfl
 rw[XL]at h1;cases hd:ds[i]? with
 | none=>rw[hd]at h1;simp at h1
 | some d=>rw[hd]at h1;exact⟨d,rfl,by simpa using h1⟩
theorem ziA{ds:List D}{xs:List V}(h:toDL xs <+: cl0L ds){n:Nat}(hn:n<=xs.length):n<=ds.length/\cl0L (ds.take n)=toDL (xs.take n):=by
 obtain⟨t,ht⟩:=h;have hl:xs.length<=ds.length:=by have:=congrArg List.length ht;simp[xW,yJ]at this;omega
 refine⟨by omega,?_⟩;rw[vY,<- ht,List.take_append_of_le_length (by rw[xW];exact hn),K9]
theorem zcr{ds:List D}{ys:List D}(h:ys <+: cl0L ds)(n:Nat):ys.drop n <+: cl0L (ds.drop n):=by obtain⟨t,ht⟩:=h;rw[qw,<- ht,List.drop_append];exact List.prefix_append _ _
theorem zuU(op:BinOp)(k:IntKind)(a b:Int):intD op k a b=(Jm op k a b).map V.toD:=by cases op<;>simp only[Jm,intD,zC,V.toD]<;>split<;>rfl
theorem zvQ(op:BinOp)(a b:List UInt8):zvV op a b=(zz7 op a b).map V.toD:=by cases op<;>simp only[zz7,zvV,zC,Option.map_none,V.toD];split<;>rfl
theorem zx9{op:BinOp}{x y z:V}{a b:D}(ha:a.cl0=x.toD)(hb:b.cl0=y.toD)(h:zc op x y=some z):zue op a b=some z.toD:=by
 unfold zc at h;split at h
 ·rw[vJ ha,vJ hb];simp only[zue];split at h
  ·next h1=>rw[zBu h1,zuU,h];rfl
  ·contradiction
 ·rw[WB ha,WB hb];simp only[zue];rw[zvQ,h];rfl
 ·rw[zlA ha,zlA hb];simp only[zue];split at h
  ·next h1=>
   rw[zBu h1];rw[zB]at h;obtain⟨c,hc,rfl⟩:=h;rw[hc];rfl
  ·contradiction
 ·contradiction
theorem zAa{op:UnOp}{x z:V}{a:D}(ha:a.cl0=x.toD)(h:unV op x=some z):unD op a=some z.toD:=by
 unfold unV at h;split at h<;>try contradiction
 all_goals injection h with h;subst h
 ·rw[vJ ha];rfl
 ·rw[vJ ha];rfl
 ·rw[znA ha];rfl
theorem Yg{x:V}{b:Bool}{d:D}(h:asBool x=some b)(hd:d.cl0=x.toD):d = .bool b:=by
 unfold asBool at h;split at h<;>try contradiction
 injection h with h;subst h;exact znA hd
theorem ziB{x:V}{s:List UInt8}{d:D}(h:zfa x=some s)(hd:d.cl0=x.toD):d = .str s:=by
 unfold zfa at h;split at h<;>try contradiction
 injection h with h;subst h;exact WB hd
theorem zr2{sz:Nat}{x:V}{xs:List V}{d:D}(h:yN sz x=some xs)(hd:d.cl0=x.toD):(∃ g ds,d = .sl g xs.length ds/\cl0L ds=flatD xs)/\yi sz xs=true:=by
 unfold yN at h;split at h<;>try contradiction
 split at h<;>try contradiction
 next hs=>injection h with h;subst h;obtain⟨g,l,rfl,hl⟩:=zv7 hd;exact⟨⟨g,l,rfl,hl⟩,hs⟩
theorem zxn{x:V}{q:Nat×List V}{d:D}(h:zz6 x=some q)(hd:d.cl0=x.toD):d = .fn q.1 (toDL q.2):=by
 unfold zz6 at h;split at h<;>try contradiction
 injection h with h;subst h;exact zzT hd
theorem Yc{x c:V}{i:Nat}(h:ze x i=some c):x.parts[i]?=some c:=h
theorem znv{xs:List V}{s:List UInt8}{ds:List D}(h:JI xs=some s)(hd:cl0L ds=flatD xs):Zh ds=some s:=by
 induction xs generalizing s ds with
 | nil=>
  cases ds with
  | nil=>simpa[JI,Zh]using h
  | cons d r=>simp[flatD,cl0L]at hd
 | cons x r ih=>
  unfold JI at h;split at h<;>try contradiction
  next n r' he=>
   injection he with he1 he2;subst he1;subst he2;rw[zA]at h;obtain⟨l,hl,h⟩:=h;injection h with h;subst h;cases ds with
   | nil=>simp[flatD,cl0L,V.toD,D.cells]at hd
   | cons d s=>simp only[flatD,cl0L,V.toD,D.cells,List.cons_append,List.nil_append,List.cons.injEq]at hd;rw[vJ hd.1];simp only[Zh,ih hl hd.2,zD]
theorem jV{d:Option D}{x:Option V}(h:d.map D.cl0=x.map V.toD){n m:Nat}(k:zdU x n=some m):bnd d n=some m:=by
 cases x with
 | none=>cases d with
  | none=>exact k
  | some d=>simp at h
 | some x=>cases d with
  | none=>simp at h
  | some d=>
   have h:d.cl0=x.toD:=by simpa using h
   unfold zdU at k;split at k
   ·next e=>simp at e
   ·next e=>injection e with e;subst e;rw[vJ h];exact k
   ·contradiction
theorem Xp{d:D}{x:V}(h:d.cl0=x.toD){n i:Nat}(k:y3 x n=some i):idx d n=some i:=by
 unfold y3 at k;split at k<;>try contradiction
 rw[vJ h];exact k
theorem zqd{d:D}{n i:Nat}(h:idx d n=some i):i<n:=by
 unfold idx at h;split at h<;>try contradiction
 split at h<;>try contradiction
 injection h with h;omega
theorem getElem?_lt{α:Type}{xs:List α}{i:Nat}{x:α}(h:xs[i]?=some x):i<xs.length:=by
 rcases zBD i xs.length with h' | h'
 ·exact h'
 ·rw[zBQ h']at h;simp at h
theorem yq{ρ:Type}{b:Bool}{k:Option ρ}{r:ρ}(h:tst b k=some r):b=true/\k=some r:=by cases b<;>simp_all [tst]
theorem qu{p:PSt}{k:Nat}{c:RowC}(h:zad p k=some c) : ∃ r,p.rows[k]?=some r/\r.c=c:=by
 unfold zad at h;split at h<;>try contradiction
 next f c' hr=>injection h with h;subst h;exact⟨_,hr,rfl⟩
theorem j1{p:PSt}{k:Nat}{c:RowC}(h:zjv p k=some c):p.rows[k]?=some ⟨false,c⟩:=by
 unfold zjv at h;split at h<;>try contradiction
 next c' hr=>injection h with h;subst h;exact hr
theorem YR{p:PSt}{k:Nat}{r:Row}{fz:Fz}{sz:Nat}{xs:List V}(h:p.rows[k]?=some r)(hc:r.c = .arr fz sz xs):yj p.rows k=some (sz,xs.length):=by obtain⟨f,c⟩:=r;simp only at hc;subst hc;simp[yj,h]
section
variable {ρ:Nat->Nat} {τ:Nat->Option Nat} {p:PSt} {st:St} {ρ':Type} {r:ρ'}
theorem Sim.row(hS:Sim ρ τ p st){k:Nat}{c:RowC}(h:zad p k=some c)(hd:c ≠ .dead) : ∃ o,st.mem (ρ k)=some o/\RW (zy ρ τ p st) c o:=by
 obtain⟨rr,hr,rfl⟩:=qu h;obtain⟨o,h1,h2⟩:=hS.rows k rr hr;rcases h1 with h1 | h1
 ·exact(hd h1).elim
 ·exact⟨o,h1,h2⟩
theorem zck{x:V}{i n:Nat}{K:List PS->Option ρ'}(h:qv x i n K=some r):i+n<=x.parts.length/\K (((x.parts.drop i).take n).map .v)=some r\/n=0/\K []=some r:=by
 induction n generalizing i K with
 | zero=>exact .inr ⟨rfl,h⟩
 | succ n ih=>
  left;simp only[qv]at h;rw[zA]at h;obtain⟨c,hc,h⟩:=h;have hlt:=getElem?_lt (Yc hc);have he:(x.parts.drop i).take (n+1)=c::((x.parts.drop (i+1)).take n):=by
   rw[zO hlt,List.take_succ_cons];have:x.parts[i]=c:=by have:=Yc hc;rw[zL hlt]at this;injection this
   rw[this]
  rcases ih h with⟨h1,h2⟩ | ⟨rfl,h2⟩
  ·refine⟨by omega,?_⟩;rw[he];exact h2
  ·refine⟨by omega,?_⟩;rw[he];simpa using h2
theorem WU{x:V}{n:Nat}(hx:okN n x=true){K:List PS->Option ρ'}(h:qv x 0 n K=some r):K (x.parts.map .v)=some r:=by
 have hl:=xw hx;rcases zck h with⟨_,h2⟩ | ⟨rfl,h2⟩
 ·rw[zU,zV (by omega)]at h2;exact h2
 ·rw[List.length_eq_zero_iff.1 hl];exact h2
theorem cells_ok{x:V}{d:D}(h:d.cl0=x.toD):cl0L d.cells=toDL x.parts:=by rw[zkX,h,kY]
theorem Ya{c:Cx}{n:Nat}{d:PD}{e:D}(hd:RP c d e){K:List PS->Option ρ'}(h:vz n d K=some r) : ∃ cs,K cs=some r/\cs.length=n/\RSL c cs e.cells/\yd e.cells=true/\e.cells.length=n:=by
 cases d with
 | agg ps=>
  obtain⟨ds,rfl,h1,h2⟩:=hd;simp only[vz]at h;split at h<;>try contradiction
  next hn=>have hn:=zJ hn;exact⟨ps,h,hn,h1,h2,by simp only[D.cells];rw[<- WI h1,hn]⟩
 | s q=>
  cases q;case v x=>simp only[vz]at h;obtain⟨h1,h2⟩:=yq h;have hd:e.cl0=x.toD:=hd;have hc:=cells_ok hd;refine⟨_,WU h1 h2,by simp[xw h1],zsA hc,v8 hc (wB h1),?_⟩;have:=congrArg List.length hc;rw[yJ,xW,xw h1]at this;exact this
  case el cs=>simp[vz]at h
  case elx sz x off=>simp[vz]at h
  case own id sz xs=>
   simp only[vz]at h;split at h<;>try contradiction
   next hn=>have hn:=zJ hn;subst hn;obtain⟨g,ds,rfl,h1⟩:=hd;exact⟨_,h,rfl,⟨⟨g,ds,rfl,h1⟩,trivial⟩,rfl,rfl⟩
  case full xs=>
   simp only[vz]at h;split at h<;>try contradiction
   next hn=>have hn:=zJ hn;subst hn;obtain⟨ds,rfl,h1⟩:=hd;exact⟨_,h,rfl,⟨⟨ds,rfl,h1⟩,trivial⟩,rfl,rfl⟩
  case uref k sz n'=>
   simp only[vz]at h;split at h<;>try contradiction
   next hn=>have hn:=zJ hn;subst hn;obtain⟨h1,⟨cp,h2,rfl⟩,h3⟩:=hd;exact⟨_,h,rfl,⟨⟨h1,⟨cp,h2,rfl⟩,h3⟩,trivial⟩,rfl,rfl⟩
  case ptr k off=>
   simp only[vz]at h;split at h<;>try contradiction
   next hn=>have hn:=zJ hn;subst hn;obtain⟨h1,rfl⟩:=hd;exact⟨_,h,rfl,⟨⟨h1,rfl⟩,trivial⟩,rfl,rfl⟩
  case ptrA k sz i off=>
   simp only[vz]at h;split at h<;>try contradiction
   next hn=>have hn:=zJ hn;subst hn;obtain⟨h1,rfl,h2⟩:=hd;exact⟨_,h,rfl,⟨⟨h1,rfl,h2⟩,trivial⟩,rfl,rfl⟩
  case ref k sz off n' cp z=>
   simp only[vz]at h;split at h<;>try contradiction
   next hn=>
    have hn:=zJ hn;subst hn;obtain⟨h0,h1,⟨h2,h3⟩ | ⟨h2,h3,h3'⟩,h4⟩:=hd
    ·subst h2;exact⟨_,h,rfl,⟨⟨h0,h1,.inl ⟨rfl,h3⟩,h4⟩,trivial⟩,rfl,rfl⟩
    ·subst h3;exact⟨_,h,rfl,⟨⟨h0,h1,.inr ⟨h2,rfl,h3'⟩,h4⟩,trivial⟩,rfl,rfl⟩
  case fn f cap=>
   simp only[vz]at h;split at h<;>try contradiction
   next hn=>have hn:=zJ hn;subst hn;obtain⟨ds,rfl,h1⟩:=hd;exact⟨_,h,rfl,⟨⟨ds,rfl,h1⟩,trivial⟩,rfl,rfl⟩
theorem zaX(a b:List D):yd (a++b)=(yd a&&yd b):=by
 induction a with
 | nil=>simp[yd]
 | cons x r ih=>simp[yd,ih,Bool.and_assoc]
theorem WM{ds:List D}(h:yd ds=true)(n:Nat):yd (ds.take n)=true:=by
 induction ds generalizing n with
 | nil=>simp[yd]
 | cons d r ih=>cases n with
  | zero=>rfl
  | succ n=>simp only[yd,zG,List.take_succ_cons]at h ⊢;exact⟨h.1,ih h.2 n⟩
theorem JT{ds:List D}(h:yd ds=true)(n:Nat):yd (ds.drop n)=true:=by
 induction ds generalizing n with
 | nil=>simp[yd]
 | cons d r ih=>cases n with
  | zero=>exact h
  | succ n=>simp only[yd,zG,List.drop_succ_cons]at h ⊢;exact ih h.2 n
theorem Xi{ds es:List D}(h:yd ds=true)(k:yd es=true)(o:Nat):yd (qE ds o es)=true:=by simp only[qE,zaX,WM h,k,JT h,Bool.and_self]
theorem zrw{z:List D}(h:yd z=true)(n:Nat):yd (rep n z)=true:=by
 induction n with
 | zero=>rfl
 | succ n ih=>simp only[rep,List.replicate_succ,List.flatten_cons,zaX,h,Bool.true_and];exact ih
theorem zsW{E:Env}{gl:Gl}(hg:GlR E gl)(hS:Sim ρ τ p st){ps:List (Nat×Nat×X)}{cells:List PS}{ds:List D}(hc:RSL (zy ρ τ p st) cells ds)(h1:yd ds=true){K:List PS->Option ρ'}(h:zbh gl p cells ps K=some r) :
  ∃ cs,K cs=some r /\ ∃ l es,Ev.evP E st.tm ps=some l/\zdq ds l=some es/\RSL (zy ρ τ p st) cs es/\yd es=true:=by
 induction ps generalizing cells ds with
 | nil=>exact⟨cells,h,[],ds,rfl,rfl,hc,h1⟩
 | cons q rest ih=>
  obtain⟨o,n,x⟩:=q;simp only[zbh]at h;split at h<;>try contradiction
  split at h<;>try contradiction
  next d hd _ hle=>have hle:=zT hle;obtain⟨e,he,hr⟩:=yp hg hS hd;obtain⟨cs,h2,h3,h4,h5,h6⟩:=Ya hr h;obtain⟨cs',h7,l,es,h8,h9,h10,h11⟩:=ih (zmQ hc h4 o) (Xi h1 h5 o) h2;refine⟨cs',h7,(o,n,e)::l,es,by simp[Ev.evP,he,h8],?_,h10,h11⟩;simp only[zdq];rw[zBu ⟨h6,by rw[<- WI hc];exact hle,h5⟩];exact h9
theorem QO{sz:Nat}{els:List V}(hs:yi sz els=true){ds es:List D}(hd:cl0L ds=flatD els){i f n:Nat}{e x:V}(hi:els[i]?=some e)(hes:cl0L es=toDL x.parts)(hx:x.parts.length=n)(hf:f+n<=sz) :
  cl0L (qE ds (i*sz+f) es)=flatD (els.take i)++((toDL e.parts).take f++toDL x.parts++(toDL e.parts).drop (f+n))++flatD (els.drop (i+1)):=by
 have hlt:=getElem?_lt hi;have hel:=xw (X2 hs hi);have h1:flatD els=flatD (els.take i)++(toDL e.parts++flatD (els.drop (i+1))):=by rw[<- zim hi,<- va,List.take_append_drop]
 have hl1:(flatD (els.take i)).length=i*sz:=by rw[xg (Yl hs i),zBI,Nat.min_eq_left (by omega)]
 have hesl:es.length=n:=by have:=congrArg List.length hes;rw[yJ,xW,hx]at this;exact this
 have hpl:(toDL e.parts).length=sz:=by rw[xW,hel]
 simp only[qE,qL,vY,qw,hd,hes,hesl];rw[h1];rw[List.take_append,zV (by omega),hl1,Nat.add_sub_cancel_left,List.take_append,hpl,show f-sz=0 by omega,List.take_zero,List.append_nil];rw[List.drop_append,List.drop_of_length_le (by omega),List.nil_append,hl1,show i*sz+f+n-i*sz=f+n by omega,List.drop_append,hpl,show f+n-sz=0 by omega,zU];simp only[zBN]
theorem KY{els:List V}{i:Nat}{e x:V}(hi:els[i]?=some e):flatD (els.set i x)=flatD (els.take i)++toDL x.parts++flatD (els.drop (i+1)):=by have hlt:=getElem?_lt hi;rw[List.set_eq_take_append_cons_drop,zBu hlt,va];simp[flatD,kY]
theorem one_cell{y c:V}(hx:okN 1 y=true)(h:ze y 0=some c):y.parts=[c]/\c.one=true/\c.parts=[c]:=by
 have hl:=xw hx;have h:=Yc h;have hp:y.parts=[c]:=by
  cases hxp:y.parts with
  | nil=>rw[hxp]at hl;simp at hl
  | cons a s=>
   rw[hxp]at hl h;cases s with
   | nil=>simp at h;rw[h]
   | cons b s=>simp at hl
 have hone:c.one=true:=by have:=wB hx;rw[hp]at this;simpa[yE]using this
 refine⟨hp,hone,?_⟩;cases c<;>first | rfl | simp[V.one]at hone
theorem Zg(a b:List V):yE (a++b)=(yE a&&yE b):=by
 induction a with
 | nil=>simp[yE]
 | cons y r ih=>simp[yE,ih,Bool.and_assoc]
theorem Wu{a:List V}(h:yE a=true)(k:Nat):yE (a.take k)=true/\yE (a.drop k)=true:=by
 have h2:yE (a.take k++a.drop k)=true:=by rw[List.take_append_drop];exact h
 rw[Zg,zG]at h2;exact h2
theorem zzL{sz:Nat}{els:List V}(hs:yi sz els=true)(hz:0<sz){ds es:List D}(hd:cl0L ds=flatD els){o n:Nat}{x:V}(hes:cl0L es=toDL x.parts)(ho:o/sz<els.length){K:List V->Option ρ'}(h:elK sz els o n x K=some r) :
  ∃ els',K els'=some r/\els'.length=els.length/\yi sz els'=true/\cl0L (qE ds o es)=flatD els'/\es.length=n/\o+n<=ds.length/\yE x.parts=true:=by
 have hdl:ds.length=els.length*sz:=by have:=congrArg List.length hd;rw[yJ,xg hs]at this;exact this
 have hesl:es.length=x.parts.length:=by have:=congrArg List.length hes;rw[yJ,xW]at this;exact this
 obtain⟨e,he⟩ : ∃ e,els[o/sz]?=some e:=⟨_,zL ho⟩
 have hdm:o/sz*sz+o%sz=o:=by rw[Nat.mul_comm];exact Nat.div_add_mod o sz
 have hmul:(o/sz+1)*sz<=els.length*sz:=zW sz ho;have hmul':(o/sz+1)*sz=o/sz*sz+sz:=by rw[zBW,Nat.one_mul]
 have hel:=xw (X2 hs he);have hpl:(toDL e.parts).length=sz:=by rw[xW,hel]
 unfold elK at h;split at h
 ·next hw=>
  simp only[zG]at hw;have hn:=zJ hw.1;have h0:=zJ hw.2;subst hn;have key : ∀ y:V,y.parts=x.parts->okN n x=true->cl0L (qE ds o es)=flatD (els.set (o/n) y):=by intro y hy hx;have:=QO hs hd (i:=o/n) (f:=o%n) (n:=n) he hes (xw hx) (by omega);rw[hdm]at this;rw[this,KY he,h0,List.take_zero,List.nil_append,zBE,List.drop_of_length_le (by omega),List.append_nil,hy]
  split at h
  ·next h1=>
   have h1:=zJ h1;obtain⟨hx,h⟩:=yq h;rw[zA]at h;obtain⟨c,hc,h⟩:=h;have hx':okN n x=true:=by rw[h1];exact hx
   have hp:x.parts=[c]:=by
    have hl:=xw hx;have hc:=Yc hc
    match hxp:x.parts,hl with
    | [a],_=>rw[hxp]at hc;simp at hc;rw[hc]
   have hone:c.one=true:=by have:=wB hx;rw[hp]at this;simpa[yE]using this
   have hcp:c.parts=[c]:=by cases c<;>simp_all [V.parts,V.one]
   refine⟨_,h,by simp,VU hs (Vb ?_ ?_),key c (by rw[hcp,hp]) hx',by rw[hesl,xw hx'],by omega,wB hx⟩
   ·rw[hcp];exact h1.symm
   ·rw[hcp,<- hp];exact wB hx
  ·obtain⟨hx,h⟩:=yq h;exact⟨_,h,by simp,VU hs hx,key x rfl hx,by rw[hesl,xw hx],by omega,wB hx⟩
 ·split at h<;>try contradiction
  split at h<;>try contradiction
  next xs hxs=>
   split at h<;>try contradiction
   next hle=>
    simp only[zG]at hle;have hle1:=zT hle.1;obtain⟨hx,h⟩:=yq h;rw[he]at hxs;injection hxs with hxs;subst hxs;have hel':xs.length=sz:=hel;have hxl:=xw hx;refine⟨_,h,by simp,VU hs (Vb ?_ ?_),?_,by rw[hesl,hxl],by omega,wB hx⟩
    ·show(wG xs (o%sz) x.parts).length=sz;simp only[wG,zZ,zBI,zBJ,hxl];omega
    ·have:yE xs=true:=wB (X2 hs he);show yE (wG xs (o%sz) x.parts)=true;simp only[wG,Zg,(Wu this _).1,(Wu this _).2,wB hx,Bool.and_self]
    ·have:=QO hs hd (i:=o/sz) (f:=o%sz) (n:=n) he hes hxl (by omega);rw[hdm]at this;rw[this,KY he];show _=_++toDL (wG xs (o%sz) x.parts)++_;simp only[wG,YJ,K9,Yd,hxl];rfl
theorem zx8{E:Env}{gl:Gl}(hg:GlR E gl)(hS:Sim ρ τ p st){sz:Nat}(hz:0<sz){ps:List (Nat×Nat×X)}{els:List V}{ds:List D}(hs:yi sz els=true)(hd:cl0L ds=flatD els)(h1:yd ds=true){K:List V->Option ρ'}(h:zrp gl p sz els ps K=some r) :
  ∃ els',K els'=some r/\els'.length=els.length/\yi sz els'=true /\ ∃ l es,Ev.evP E st.tm ps=some l/\zdq ds l=some es/\cl0L es=flatD els'/\yd es=true:=by
 induction ps generalizing els ds with
 | nil=>exact⟨els,h,rfl,hs,[],ds,rfl,rfl,hd,h1⟩
 | cons q rest ih=>
  obtain⟨o,n,x⟩:=q;simp only[zrp]at h;split at h<;>try contradiction
  split at h<;>try contradiction
  split at h<;>try contradiction
  next d hd' _ y hy _ hlt=>have hlt:o/sz<els.length:=zT hlt;obtain⟨e,he,hr⟩:=yp hg hS hd';have hey:=PD.pure_ok hr hy;have hec:=cells_ok hey;obtain⟨els1,h2,h3,h4,h5,h6,h7,h8⟩:=zzL hs hz hd hec hlt h;have ho:=v8 hec h8;obtain⟨els',h9,h10,h11,l,es,h12,h13,h14,h15⟩:=ih h4 h5 (Xi h1 ho o) h2;refine⟨els',h9,by omega,h11,(o,n,e)::l,es,by simp[Ev.evP,he,h12],?_,h14,h15⟩;simp only[zdq];rw[zBu ⟨h6,h7,ho⟩];exact h13
end
end
end Go.Ev
end
