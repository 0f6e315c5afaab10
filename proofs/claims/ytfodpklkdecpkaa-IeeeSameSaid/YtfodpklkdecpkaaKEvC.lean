/- The machines Ev and Pv, part 3: an abstract machine over the translated code, proved sound once. -/
import Derived.Test.YtfodpklkdecpkaaKEvB
import Derived.Below
set_option linter.all false
open Option renaming bind_eq_some_iff->zA,map_eq_some_iff->zB,map_some->zC,bind_some->zD
open Bool renaming false_eq_true->zF,and_eq_true->zG
open Nat renaming eq_of_beq_eq_true->zJ,lt_of_lt_of_le->zK,le_refl->zR,le_of_ble_eq_true->zT,mul_le_mul_right->zW
open List renaming getElem?_eq_getElem->zL,drop_eq_getElem_cons->zO,mem_cons_of_mem->zP,drop_zero->zU,take_of_length_le->zV,length_append->zZ
noncomputable section
namespace Go.Ev
section
def callL(E:Env):Cf:=fun f ds st=>open Classical in
 if h : ∃ r,∃ n,call E n f ds st=some r then some h.choose else none
theorem call_uniq{E:Env}{f:Nat}{ds:List D}{st:St}{n m:Nat}{r q:Out×St}(h:call E n f ds st=some r)(k:call E m f ds st=some q):r=q:=by have a:=call_mono E (Nat.le_max_left n m) f ds st r h;have b:=call_mono E (Nat.le_max_right n m) f ds st q k;rw[a]at b;injection b
theorem callL_iff{E:Env}{f:Nat}{ds:List D}{st:St}{r:Out×St}:callL E f ds st=some r ↔ ∃ n,call E n f ds st=some r:=by
 unfold callL;constructor
 ·intro h;split at h
  ·next hx=>injection h with h;rw[<- h];exact hx.choose_spec
  ·simp at h
 ·rintro⟨n,h⟩;have hx : ∃ r,∃ n,call E n f ds st=some r:=⟨r,n,h⟩
  rw[dif_pos hx];obtain⟨m,hm⟩:=hx.choose_spec;rw[call_uniq hm h]
theorem callL_le(E:Env)(n:Nat):CfLe (call E n) (callL E):=fun _ _ _ _ h=>callL_iff.2 ⟨n,h⟩
def execL(E:Env)(c:C)(st:St):Option (Ex×St):=open Classical in
 if h : ∃ r,∃ n,exec E (callL E) n c st=some r then some h.choose else none
theorem exec_uniq{E:Env}{cf:Cf}{c:C}{st:St}{n m:Nat}{r q:Ex×St}(h:exec E cf n c st=some r)(k:exec E cf m c st=some q):r=q:=by have a:=exec_mono (cf:=cf) (fun _ _ _ _ h=>h) (Nat.le_max_left n m) h;have b:=exec_mono (cf:=cf) (fun _ _ _ _ h=>h) (Nat.le_max_right n m) k;rw[a]at b;injection b
theorem execL_iff{E:Env}{c:C}{st:St}{r:Ex×St}:execL E c st=some r ↔ ∃ n,exec E (callL E) n c st=some r:=by
 unfold execL;constructor
 ·intro h;split at h
  ·next hx=>injection h with h;rw[<- h];exact hx.choose_spec
  ·simp at h
 ·rintro⟨n,h⟩;have hx : ∃ r,∃ n,exec E (callL E) n c st=some r:=⟨r,n,h⟩
  rw[dif_pos hx];obtain⟨m,hm⟩:=hx.choose_spec;rw[exec_uniq hm h]
theorem opt_ext{α:Type}{x y:Option α}(h : ∀ r,x=some r↔y=some r):x=y:=by
 cases x with
 | none=>
  cases y with
  | none=>rfl
  | some b=>have:=(h b).2 rfl;simp at this
 | some a=>exact((h a).1 rfl).symm
section
variable {E:Env}
theorem execL_of{c:C}{st:St}{x:Option (Ex×St)}(h : ∀ n,exec E (callL E) n c st=x):execL E c st=x:=
 opt_ext fun r=>execL_iff.trans ⟨fun⟨n,hn⟩=>(h n).symm.trans hn,fun hx=>⟨0,(h 0).trans hx⟩⟩
theorem execL_skip(st:St):execL E .skip st=some (.nrm,st):=execL_of fun _=>rfl
theorem execL_exit(id:Nat)(st:St):execL E (.exit id) st=some (.ext id,st):=execL_of fun _=>rfl
theorem execL_ret(st:St):execL E .ret st=some (.ret,st):=execL_of fun _=>rfl
theorem execL_reg(ops:List OpC)(keep:List Nat)(st:St):execL E (.reg ops keep) st=match runOps E (callL E) ops st with
  | some (.ok st')=>some (.nrm,{ st' with tm:=kept keep st'.tm })
  | some (.pan d st')=>some (.pan d,st')
  | none=>none:=execL_of fun _=>rfl
theorem execL_drw(a0 a1 b1 b:List OpC)(keep:List Nat)(st:St):execL E (.drw a0 a1 b1 b keep) st=match runDrw E (callL E) a0 a1 b1 b st with
  | some (.ok st')=>some (.nrm,{ st' with tm:=kept keep st'.tm })
  | some (.pan d st')=>some (.pan d,st')
  | none=>none:=execL_of fun _=>rfl
theorem exec_up{n m:Nat}(h:n<=m){c:C}{st:St}{r:Ex×St}(k:exec E (callL E) n c st=some r):exec E (callL E) m c st=some r:=exec_mono (fun _ _ _ _ h=>h) h k
theorem execL_seq(a b:C)(st:St):execL E (.seq a b) st=match execL E a st with
  | some (.nrm,s)=>execL E b s
  | r=>r:=by
 refine opt_ext fun r=>⟨fun h => ?_,fun h => ?_⟩
 ·obtain⟨n,hn⟩:=execL_iff.1 h;simp only[exec]at hn;split at hn
  ·next s he=>rw[execL_iff.2 ⟨n,he⟩];exact execL_iff.2 ⟨n,hn⟩
  ·next hne=>
   rw[execL_iff.2 ⟨n,hn⟩];obtain⟨e,s⟩:=r;cases e with
   | nrm=>exact(hne s hn).elim
   | _=>rfl
 ·split at h
  ·next s he=>
   obtain⟨n,hn⟩:=execL_iff.1 he;obtain⟨m,hm⟩:=execL_iff.1 h;refine execL_iff.2 ⟨max n m,?_⟩;simp only[exec];rw[exec_up (Nat.le_max_left n m) hn];exact exec_up (Nat.le_max_right n m) hm
  ·next hne=>
   obtain⟨n,hn⟩:=execL_iff.1 h;refine execL_iff.2 ⟨n,?_⟩;simp only[exec];rw[hn];obtain⟨e,s⟩:=r;cases e with
   | nrm=>exact(hne s h).elim
   | _=>rfl
theorem execL_cond(c:X)(a b:C)(st:St):execL E (.cond c a b) st=match ev E st.tm c with
  | some (.bool true)=>execL E a st
  | some (.bool false)=>execL E b st
  | _=>none:=by
 refine opt_ext fun r=>⟨fun h => ?_,fun h => ?_⟩
 ·obtain⟨n,hn⟩:=execL_iff.1 h;simp only[exec]at hn;split at hn
  ·next hb=>rw[hb];exact execL_iff.2 ⟨n,hn⟩
  ·next hb=>rw[hb];exact execL_iff.2 ⟨n,hn⟩
  ·simp at hn
 ·split at h
  ·next hb=>
   obtain⟨n,hn⟩:=execL_iff.1 h;exact execL_iff.2 ⟨n,by simp only[exec];rw[hb];exact hn⟩
  ·next hb=>
   obtain⟨n,hn⟩:=execL_iff.1 h;exact execL_iff.2 ⟨n,by simp only[exec];rw[hb];exact hn⟩
  ·simp at h
def blkE(id:Nat):Option (Ex×St)->Option (Ex×St)
 | some (.ext i,st')=>if i=id then some (.nrm,st')else some (.ext i,st')
 | r=>r
theorem execL_blk(id:Nat)(c:C)(st:St):execL E (.blk id c) st=blkE id (execL E c st):=by
 have key : ∀ n,exec E (callL E) n (.blk id c) st=blkE id (exec E (callL E) n c st):=by intro n;simp only[exec,blkE];split<;>simp_all
 refine opt_ext fun r=>⟨fun h => ?_,fun h => ?_⟩
 ·obtain⟨n,hn⟩:=execL_iff.1 h;rw[key]at hn;cases hc:exec E (callL E) n c st with
  | none=>rw[hc]at hn;simp[blkE]at hn
  | some q=>rw[execL_iff.2 ⟨n,hc⟩,<- hc];exact hn
 ·cases hc:execL E c st with
  | none=>rw[hc]at h;simp[blkE]at h
  | some q=>obtain⟨n,hn⟩:=execL_iff.1 hc;exact execL_iff.2 ⟨n,by rw[key,hn,<- hc];exact h⟩
theorem execL_loop(c:C)(st:St):execL E (.loop c) st=match execL E c st with
  | some (.nrm,s)=>execL E (.loop c) s
  | r=>r:=by
 refine opt_ext fun r=>⟨fun h => ?_,fun h => ?_⟩
 ·obtain⟨n,hn⟩:=execL_iff.1 h;simp only[exec]at hn;cases n with
  | zero=>simp[loopN]at hn
  | succ n=>
   simp only[loopN]at hn;split at hn
   ·next s he=>
    rw[execL_iff.2 ⟨n+1,he⟩];refine execL_iff.2 ⟨n+1,?_⟩;simp only[exec];exact loopN_mono (fun _ _ h=>h) (Nat.le_succ n) hn
   ·next hne=>
    rw[execL_iff.2 ⟨n+1,hn⟩];obtain⟨e,s⟩:=r;cases e with
    | nrm=>exact(hne s hn).elim
    | _=>rfl
 ·split at h
  ·next s he=>
   obtain⟨n,hn⟩:=execL_iff.1 he;obtain⟨m,hm⟩:=execL_iff.1 h;refine execL_iff.2 ⟨max n m+1,?_⟩;simp only[exec,loopN];rw[exec_up (by omega:n<=max n m+1) hn];simp only[exec]at hm;exact loopN_mono (fun st r h=>exec_up (by omega:m<=max n m+1) h) (by omega) hm
  ·next hne=>
   obtain⟨n,hn⟩:=execL_iff.1 h;refine execL_iff.2 ⟨n+1,?_⟩;simp only[exec,loopN];rw[exec_up (by omega:n<=n+1) hn];obtain⟨e,s⟩:=r;cases e with
   | nrm=>exact(hne s h).elim
   | _=>rfl
theorem opX_fin{st:St}{o:O}{r:Rv}(h:opX E (callL E) st o=some r) : ∃ n,opX E (call E n) st o=some r:=by
 cases o;case call f xs=>simp only[opX,zA,zB]at h ⊢;obtain⟨l,hl,q,hq,h⟩:=h;obtain⟨n,hn⟩:=callL_iff.1 hq;exact⟨n,l,hl,q,hn,h⟩
 case callv g xs=>
  simp only[opX]at h ⊢;split at h
  ·split at h<;>try contradiction
   next hlt=>simp only[zb hlt];simp only[zA,zB]at h ⊢;obtain⟨l,hl,q,hq,h⟩:=h;obtain⟨n,hn⟩:=callL_iff.1 hq;exact⟨n,l,hl,q,hn,h⟩
  ·simp at h
 all_goals exact⟨0,h⟩
theorem opC_fin{st:St}{o:OpC}{r:Rs}(h:opC E (callL E) o st=some r) : ∃ n,opC E (call E n) o st=some r:=by
 unfold opC at h ⊢;split at h
 ·simp only[opR,zB]at h ⊢;obtain⟨q,hq,h⟩:=h;obtain⟨n,hn⟩:=opX_fin hq;exact⟨n,q,hn,h⟩
 ·exact⟨0,h⟩
 ·exact⟨0,h⟩
theorem runOps_fin{l:List OpC}{st:St}{r:Rs}(h:runOps E (callL E) l st=some r) : ∃ n,runOps E (call E n) l st=some r:=by
 induction l generalizing st with
 | nil=>exact⟨0,h⟩
 | cons o l ih=>
  simp only[runOps]at h;split at h
  ·next s he=>
   obtain⟨n,hn⟩:=opC_fin he;obtain⟨m,hm⟩:=ih h;refine⟨max n m,?_⟩;simp only[runOps];rw[opC_mono (call_mono E (Nat.le_max_left n m)) hn];exact runOps_mono (call_mono E (Nat.le_max_right n m)) hm
  ·next hne=>
   obtain⟨n,hn⟩:=opC_fin h;refine⟨n,?_⟩;simp only[runOps];rw[hn];cases r with
   | ok s=>exact(hne s h).elim
   | pan d s=>rfl
theorem runStill_fin{l:List OpC}{st s:St}(h:runStill E (callL E) l st=some s) : ∃ n,runStill E (call E n) l st=some s:=by
 induction l generalizing st with
 | nil=>exact⟨0,h⟩
 | cons o l ih=>
  simp only[runStill]at h;split at h
  ·next s' he=>
   split at h
   ·next hm'=>
    obtain⟨n,hn⟩:=opC_fin he;obtain⟨m,hm⟩:=ih h;refine⟨max n m,?_⟩;simp only[runStill];rw[opC_mono (call_mono E (Nat.le_max_left n m)) hn];simp only[hm',zc];exact runStill_mono (call_mono E (Nat.le_max_right n m)) hm
   ·simp at h
  ·simp at h
theorem panLast_fin{l:List OpC}{st:St}{q:D×St}(h:panLast E (callL E) l st=some q) : ∃ n,panLast E (call E n) l st=some q:=by
 induction l generalizing st with
 | nil=>exact⟨0,h⟩
 | cons o l ih=>
  simp only[panLast]at h;split at h
  ·next s' he=>
   split at h
   ·next hm'=>
    obtain⟨n,hn⟩:=opC_fin he;obtain⟨m,hm⟩:=ih h;refine⟨max n m,?_⟩;simp only[panLast];rw[opC_mono (call_mono E (Nat.le_max_left n m)) hn];simp only[hm',zc];exact panLast_mono (call_mono E (Nat.le_max_right n m)) hm
   ·simp at h
  ·next d s' he=>
   obtain⟨n,hn⟩:=opC_fin he;exact⟨n,by simp only[panLast];rw[hn];exact h⟩
  ·simp at h
theorem runFl_fin{Y Z l:List OpC}{st:St}{r:Rs}(h:runFl E (callL E) Y Z l st=some r) : ∃ n,runFl E (call E n) Y Z l st=some r:=by
 induction l generalizing st with
 | nil=>exact⟨0,h⟩
 | cons o l ih=>
  simp only[runFl]at h;split at h
  ·next s' he=>
   split at h
   ·next hm'=>
    obtain⟨n,hn⟩:=opC_fin he;obtain⟨m,hm⟩:=ih h;refine⟨max n m,?_⟩;simp only[runFl];rw[opC_mono (call_mono E (Nat.le_max_left n m)) hn];simp only;rw[zb hm'];exact runFl_mono (call_mono E (Nat.le_max_right n m)) hm
   ·simp at h
  ·next d s' he=>
   obtain⟨n,hn⟩:=opC_fin he;exact⟨n,by simp only[runFl];rw[hn];exact h⟩
  ·simp at h
theorem runDrw_fin{a0 a1 b1 b:List OpC}{st:St}{r:Rs}(h:runDrw E (callL E) a0 a1 b1 b st=some r) : ∃ n,runDrw E (call E n) a0 a1 b1 b st=some r:=by
 unfold runDrw at h;split at h
 ·next s1 h1=>
  obtain⟨n1,e1⟩:=runOps_fin h1;split at h
  ·next s2 h2=>
   obtain⟨n2,e2⟩:=runStill_fin h2;unfold runB at h;split at h
   ·next s3 h3=>
    obtain⟨n3,e3⟩:=runFl_fin h3;obtain⟨n4,e4⟩:=runOps_fin h;refine⟨max (max n1 n2) (max n3 n4),?_⟩;unfold runDrw;rw[runOps_mono (call_mono E (by omega)) e1];simp only;rw[runStill_mono (call_mono E (by omega)) e2];simp only[runB];rw[runFl_mono (call_mono E (by omega)) e3];exact runOps_mono (call_mono E (by omega)) e4
   ·next hne=>
    obtain⟨n3,e3⟩:=runFl_fin h;refine⟨max (max n1 n2) n3,?_⟩;unfold runDrw;rw[runOps_mono (call_mono E (by omega)) e1];simp only;rw[runStill_mono (call_mono E (by omega)) e2];simp only[runB];rw[runFl_mono (call_mono E (by omega)) e3];cases r with
    | ok s3=>exact(hne s3 h).elim
    | pan d s=>rfl
  ·simp only[zB]at h;obtain⟨q,hq,rfl⟩:=h;obtain⟨n2,e2⟩:=panLast_fin hq;refine⟨max n1 n2,?_⟩;unfold runDrw;rw[runOps_mono (call_mono E (by omega)) e1];have:=panLast_mono (call_mono E (show n2<=max n1 n2 by omega)) e2;simp only;rw[panLast_still this,this];rfl
 ·simp at h
theorem exec_fin{k:Nat}{c:C}{st:St}{r:Ex×St}(h:exec E (callL E) k c st=some r) : ∃ n,exec E (call E n) n c st=some r:=by
 have up : ∀ {n m:Nat} {c:C} {st:St} {r:Ex×St},n<=m->exec E (call E n) n c st=some r->exec E (call E m) m c st=some r:=
  fun h k=>exec_mono (call_mono E h) h k
 induction c generalizing st r with
 | skip=>exact⟨0,h⟩
 | reg ops keep=>
  simp only[exec]at h ⊢;split at h
  ·next s he=>obtain⟨n,hn⟩:=runOps_fin he;exact⟨n,by rw[hn];exact h⟩
  ·next d s he=>obtain⟨n,hn⟩:=runOps_fin he;exact⟨n,by rw[hn];exact h⟩
  ·simp at h
 | drw a0 a1 b1 b keep=>
  simp only[exec]at h ⊢;split at h
  ·next s he=>obtain⟨n,hn⟩:=runDrw_fin he;exact⟨n,by rw[hn];exact h⟩
  ·next d s he=>obtain⟨n,hn⟩:=runDrw_fin he;exact⟨n,by rw[hn];exact h⟩
  ·simp at h
 | seq a b iha ihb=>
  simp only[exec]at h;split at h
  ·next s he=>
   obtain⟨n,hn⟩:=iha he;obtain⟨m,hm⟩:=ihb h;refine⟨max n m,?_⟩;simp only[exec];rw[up (Nat.le_max_left n m) hn];exact up (Nat.le_max_right n m) hm
  ·next hne=>
   obtain⟨n,hn⟩:=iha h;refine⟨n,?_⟩;simp only[exec];rw[hn];obtain⟨e,s⟩:=r;cases e with
   | nrm=>exact(hne s h).elim
   | _=>rfl
 | cond c a b iha ihb=>
  simp only[exec]at h ⊢;split at h
  ·next hb=>obtain⟨n,hn⟩:=iha h;exact⟨n,hn⟩
  ·next hb=>obtain⟨n,hn⟩:=ihb h;exact⟨n,hn⟩
  ·simp at h
 | blk id c ih=>
  simp only[exec]at h;split at h
  ·next i s he=>
   obtain⟨n,hn⟩:=ih he;exact⟨n,by simp only[exec];rw[hn];exact h⟩
  ·next hne=>
   obtain⟨n,hn⟩:=ih h;refine⟨n,?_⟩;simp only[exec];rw[hn];obtain⟨e,s⟩:=r;cases e with
   | ext i=>exact(hne i s h).elim
   | _=>rfl
 | loop c ih=>
  simp only[exec]at h;have key : ∀ j {st r},loopN (exec E (callL E) k c) j st=some r -> ∃ n,exec E (call E n) n (.loop c) st=some r:=by
   intro j;induction j with
   | zero=>intro st r h;simp[loopN]at h
   | succ j ihj=>
    intro st r h;simp only[loopN]at h;split at h
    ·next s he=>
     obtain⟨n,hn⟩:=ih he;obtain⟨m,hm⟩:=ihj h;refine⟨max n m+1,?_⟩;simp only[exec,loopN];rw[up (by omega:n<=max n m+1) hn];simp only[exec]at hm;exact loopN_mono (fun st r h=>up (by omega:m<=max n m+1) h) (by omega) hm
    ·next hne=>
     obtain⟨n,hn⟩:=ih h;refine⟨n+1,?_⟩;simp only[exec,loopN];rw[up (by omega:n<=n+1) hn];obtain⟨e,s⟩:=r;cases e with
     | nrm=>exact(hne s h).elim
     | _=>rfl
  exact key k h
 | exit id=>exact⟨0,h⟩
 | ret=>exact⟨0,h⟩
theorem callL_fn{f:Nat}(hx:E.ext f=none)(hd:E.dfr f=none){fn:Fn}(hf:E.fn f=some fn)(ds:List D)(st:St):callL E f ds st=match execL E fn.body (enter fn ds st)with
  | some (.nrm,s) | some (.ret,s)=>resC f fn ds st s
  | some (.pan d,s)=>some (.pan (leave fn (home fn ds st) s d).1,(leave fn (home fn ds st) s d).2)
  | some (.ext i,s)=>if i=panN/\panN<=f then(get s.tm panN).map fun d=>((.ret (leave fn (home fn ds st) s (.tup [.bool false,d])).1,(leave fn (home fn ds st) s (.tup [.bool false,d])).2):Out×St)else none
  | none=>none:=by
 have key : ∀ n r,exec E (call E n) n fn.body (enter fn ds st)=some r->execL E fn.body (enter fn ds st)=some r:=
  fun n r h=>execL_iff.2 ⟨n,exec_mono (callL_le E n) (zR n) h⟩
 have fin : ∀ cf n w,endC E cf n f fn ds st w=match w with
   | some (.nrm,s) | some (.ret,s)=>resC f fn ds st s
   | some (.pan d,s)=>some (.pan (leave fn (home fn ds st) s d).1,(leave fn (home fn ds st) s d).2)
   | some (.ext i,s)=>if i=panN/\panN<=f then(get s.tm panN).map fun d=>((.ret (leave fn (home fn ds st) s (.tup [.bool false,d])).1,(leave fn (home fn ds st) s (.tup [.bool false,d])).2):Out×St)else none
   | none=>none:=by
  intro cf n w
  match w with
  | none=>rfl
  | some (.ext i,s)=>rfl
  | some (.nrm,s)=>simp only[endC,hd]
  | some (.ret,s)=>simp only[endC,hd]
  | some (.pan d,s)=>simp only[endC,hd]
 refine opt_ext fun r=>⟨fun h => ?_,fun h => ?_⟩
 ·obtain⟨n,hn⟩:=callL_iff.1 h;cases n with
  | zero=>simp[call]at hn
  | succ n=>
   simp only[call,hx,hf,zD]at hn;cases he:exec E (call E n) n fn.body (enter fn ds st)with
   | none=>rw[he]at hn;simp[endC]at hn
   | some q=>rw[key n q he];rw[he,fin]at hn;exact hn
 ·cases he:execL E fn.body (enter fn ds st)with
  | none=>rw[he]at h;simp at h
  | some q=>obtain⟨k,hk⟩:=execL_iff.1 he;obtain⟨n,hn⟩:=exec_fin hk;refine callL_iff.2 ⟨n+1,?_⟩;simp only[call,hx,hf,zD];rw[hn,fin];rw[he]at h;exact h
theorem callL_eff{f:Nat}{e:Eff}(hx:E.ext f=some (.eff e))(ds:List D)(st:St):callL E f ds st=(effD e ds st).map fun q=>(.ret q.1,q.2):=by
 refine opt_ext fun r=>⟨fun h => ?_,fun h => ?_⟩
 ·obtain⟨n,hn⟩:=callL_iff.1 h;cases n with
  | zero=>simp[call]at hn
  | succ n=>simp only[call,hx]at hn;exact hn
 ·exact callL_iff.2 ⟨1,by simp only[call,hx];exact h⟩
theorem callL_ext{f:Nat}{g:List D->List D->Option D}(hx:E.ext f=some (.fn g))(ds:List D)(st:St):callL E f ds st=(g ds (clL st.mem ds)).map fun d=>(.ret (told (frz st (refsL ds)) d).1,(told (frz st (refsL ds)) d).2):=by
 refine opt_ext fun r=>⟨fun h => ?_,fun h => ?_⟩
 ·obtain⟨n,hn⟩:=callL_iff.1 h;cases n with
  | zero=>simp[call]at hn
  | succ n=>simp only[call,hx]at hn;exact hn
 ·exact callL_iff.2 ⟨1,by simp only[call,hx];exact h⟩
end
theorem callL_sound{P:Program}{E:Env}{ti:Ti}(hti:TiOk P ti)(hmix:P.follows .mixedOrders=true)(hE:EnvOk P ti E):CfOk P E (callL E):=by intro f ds st o st' h;obtain⟨n,hn⟩:=callL_iff.1 h;exact call_sound hti hmix hE n f ds st o st' hn
end
section
def G0(W:World):G:={ w:=W,φ:=fun b=>match W.heap[b]? with | some (.cells c _ _)=>c.size | _=>0,μ:=fun _=>none,hd:=fun _ _=>none,ρ:=fun _=>0,nx:=0 }
def St0:St:={ tm:=[],mem:=fun _=>none,tip:=fun _=>none,nx:=0,lo:=0,lw:=0 }
theorem inv0(W:World):Inv (G0 W) St0 where
 nx:=rfl
 ob k o h:=by simp[St0]at h
 tip g n h:=by simp[St0]at h
 out b hb:=by have hb:W.heap.size<=b:=hb;refine⟨?_,rfl⟩;show(match W.heap[b]? with | some (.cells c _ _)=>c.size | _=>0)=0;rw[Array.getElem?_eq_none hb]
 dis k o h:=rfl
 own b:=zR _
theorem below0{W:World}{S':G}(h:Ext (G0 W) S'):RowKit.Below W.heap.size W S'.w where
 os:=h.os
 tape:=h.tape
 output:=h.output
 size:=h.size
 block b hb:=(h.free b hb rfl).1
theorem phi0{W:World}{b off n:Nat}(h : ∀ j,j<n -> ∃ u,W.cell? ⟨b,off+j,none⟩=some u):n=0\/off+n<=(G0 W).φ b:=by
 cases n with
 | zero=>exact .inl rfl
 | succ n=>
  refine .inr ?_;obtain⟨u,hu⟩:=h n (yd n);show _<=(match W.heap[b]? with | some (.cells c _ _)=>c.size | _=>0);simp only[World.cell?]at hu;cases hb:W.heap[b]? with
  | none=>rw[hb]at hu;simp at hu
  | some o=>
   rw[hb]at hu;cases o<;>first
    | (simp at hu;done)
    | (next c e fr=>have:(c[off+n]?)=some u:=hu;have:=(Array.getElem?_eq_some_iff.1 this).1;show off+(n+1)<=c.size;omega)
theorem Does.calls{P:Program}{f:Nat}{args:Array Value}{w:World}{R:Ending->World->Prop}{g:Func}{c:Code}(hP:P.funcs[f]?=some g) (hn:(g.name == "runtime.NumGoroutine")=false) (hb:g.body=some c) (h:Does P f args w R):Calls P f args w R:=by
 rcases h with⟨_,h⟩ | ⟨v,w',h,_⟩
 ·exact h
 ·have hn:g.name ≠ "runtime.NumGoroutine" := by simpa using hn
  simp[callFunc,hP,hn,hb]at h
theorem law_walk{P:Program}{E:Env}{ti:Ti}(hti:TiOk P ti)(hmix:P.follows .mixedOrders=true)(hE:EnvOk P ti E){f:Nat}{fn:Fn}(hx:E.ext f=none)(hf:E.fn f=some fn){W:World}{ds:List D}{vs:List Value}(hr:RepL (G0 W) ds vs)(hg:GlOk (G0 W) E)
  {st':St} (h:callL E f ds St0=some (.ret (.bool true),st')):Calls P f vs.toArray W fun e w'=>e = .returned (.bool true)/\RowKit.Below W.heap.size W w':=by
 obtain⟨g,c,hP,hn,hb⟩ : ∃ g c,P.funcs[f]?=some g/\(g.name == "runtime.NumGoroutine")=false/\g.body=some c:=by
  have hpl:=(hE.fns f fn hf).2;split at hpl
  ·obtain⟨g,c,kp,dp,hP,hn,hb,_,_⟩:=hpl;exact⟨g,c,hP,hn,hb⟩
  ·obtain⟨gf,_,_,_,_,_,_,_,_,_,_,_,_,_,_,_,_,_,_,_,_,hP,hn,hb,_⟩:=hpl;exact⟨gf,_,hP,hn,hb⟩
 have:=(callL_sound hti hmix hE f ds St0 _ st' h (G0 W) vs (inv0 W) hr hg).calls hP hn hb;refine Calls.mono this ?_;rintro e w' ⟨S',rfl,he,hi,ho⟩;refine⟨?_,below0 he⟩;cases e with
 | returned v=>obtain⟨d,hd,hv⟩:=ho;injection hd with hd;subst hd;rw[hv.bool_inv rfl]
 | panicked ch=>obtain⟨d,v,hd,_⟩:=ho;cases hd
 | outgrown=>exact ho.elim
end
section
def look:List (Nat×Fn)->Nat->Option Fn
 | [],_=>none
 | p::r,f=>if f=p.1 then some p.2 else look r f
def lookQ:List (Nat×List X×Fn)->Nat->Option (List X×Fn)
 | [],_=>none
 | p::r,f=>if f=p.1 then some p.2 else lookQ r f
def Goods(P:Program)(ti:Ti)(dl:List (Nat×List X×Fn))(l:List (Nat×Fn)):Prop := ∀ p∈l,p.1<dfrN/\match lookQ dl p.1 with | none=>Plain P ti p.1 p.2 | some q=>Dfr P ti p.1 p.2 q
theorem Goods.nil(P:Program)(ti:Ti)(dl:List (Nat×List X×Fn)):Goods P ti dl []:=fun p hp=>by simp at hp
def lone(dl:List (Nat×List X×Fn))(f:Nat):Bool:=Nat.blt f dfrN&&(match lookQ dl f with | none=>true | some _=>false)
theorem Goods.cons{P:Program}{ti:Ti}{dl:List (Nat×List X×Fn)}{f:Nat}{fn:Fn}{l:List (Nat×Fn)}(h:Plain P ti f fn)(hl:Goods P ti dl l)(ho:Ev.lone dl f=true:=by rfl):Goods P ti dl ((f,fn)::l):=by
 intro p hp;rcases List.mem_cons.1 hp with rfl | hp
 ·simp only[Ev.lone,zG,Nat.blt_eq]at ho;refine⟨ho.1,?_⟩;split
  ·exact h
  ·next hq=>rw[hq]at ho;exact absurd ho.2 (by simp)
 ·exact hl p hp
theorem Goods.dfr{P:Program}{ti:Ti}{dl:List (Nat×List X×Fn)}{f:Nat}{fn:Fn}{q:List X×Fn}{l:List (Nat×Fn)}(h:Dfr P ti f fn q)(hl:Goods P ti dl l)(ho:lookQ dl f=some q:=by rfl)(hf:Nat.blt f dfrN=true:=by rfl):Goods P ti dl ((f,fn)::l):=by
 intro p hp;rcases List.mem_cons.1 hp with rfl | hp
 ·refine⟨by simpa using hf,?_⟩;simp only[ho];exact h
 ·exact hl p hp
theorem look_mem{l:List (Nat×Fn)}{f:Nat}{fn:Fn}(h:look l f=some fn):(f,fn)∈l:=by
 induction l with
 | nil=>simp[look]at h
 | cons p r ih=>
  simp only[look]at h;split at h
  ·next e=>injection h with h;subst e h;simp
  ·exact zP _ (ih h)
theorem envOk_of{P:Program}{ti:Ti}{E:Env}{l:List (Nat×Fn)}{dl:List (Nat×List X×Fn)}(hl:Goods P ti dl l)(hE:E.fn=look l)(hd:E.dfr=lookQ dl)
  (hf : ∀ f e,E.ext f=some (.eff e) -> ∀ ds st d st' (S:G) (vs:List Value),effD e ds st=some (d,st')->Inv S st->RepL S ds vs ->
   Does P f vs.toArray S.w fun e w' => ∃ S',S'.w=w'/\Ext S S'/\Inv S' st' /\ ∃ v,e = .returned v/\Rep S' d v)
  (hx : ∀ f h,E.ext f=some (.fn h) -> ∀ ds0 ds d,h ds0 ds=some d -> ∀ (S:G) (st:St) (vs:List Value),Inv S st->RepL S ds0 vs->RepL S ds vs->GlOk S E ->
   Does P f vs.toArray S.w fun e w' => ∃ S',S'.w=w'/\Ext S S'/\Inv S' (told st d).2 /\ ∃ v,e = .returned v/\Rep S' (told st d).1 v):EnvOk P ti E where
 fns f fn h:=by rw[hE]at h;rw[hd];exact hl _ (look_mem h)
 eff:=hf
 ext:=hx
end
section
section
variable {E:Env} {st:St} {Q:Ex->St->Prop}
end
end
section
inductive V where
 | bool (b:Bool)
 | int (k:IntKind) (n:Int)
 | float (k:FloatKind) (b:Nat)
 | str (s:List UInt8)
 | nilp | nilf | nili
 | sl (xs:List V)
 | agg (xs:List V)
 | tup (xs:List V)
 | fn (f:Nat) (cap:List V)
 | iface (t:Nat) (x:V)
mutual
def V.toD:V->D
 | .bool b => .bool b
 | .int k n => .int k n
 | .float k b => .float k b
 | .str s => .str s
 | .nilp => .nilp
 | .nilf => .nilf
 | .nili => .nili
 | .sl xs => .sl .no xs.length (flatD xs)
 | .agg xs => .agg (toDL xs)
 | .tup xs => .tup (toDL xs)
 | .fn f c => .fn f (toDL c)
 | .iface t x => .iface t x.toD
def toDL:List V->List D
 | []=>[]
 | x::r=>x.toD::toDL r
def flatD:List V->List D
 | []=>[]
 | x::r=>x.toD.cells++flatD r
end
def V.parts:V->List V
 | .agg xs=>xs
 | x=>[x]
def V.one:V->Bool
 | .agg _ | .tup _=>false
 | _=>true
def allOneV:List V->Bool
 | []=>true
 | x::r=>x.one&&allOneV r
def okN(n:Nat)(x:V):Bool:=Nat.beq x.parts.length n&&allOneV x.parts
def szOk(sz:Nat):List V->Bool
 | []=>true
 | x::r=>okN sz x&&szOk sz r
def tst{ρ:Type}(b:Bool)(k:Option ρ):Option ρ:=match b with | true=>k | false=>none
def asBool:V->Option Bool
 | .bool b=>some b
 | _=>none
def asStr:V->Option (List UInt8)
 | .str s=>some s
 | _=>none
def asSl(sz:Nat):V->Option (List V)
 | .sl xs=>match szOk sz xs with | true=>some xs | false=>none
 | _=>none
def asFn:V->Option (Nat×List V)
 | .fn f c=>some (f,c)
 | _=>none
def fldV(x:V)(i:Nat):Option V:=x.parts[i]?
def fldA(x:V)(i:Nat):Option V:=match x with | .agg xs=>xs[i]? | _=>none
def subV(x:V)(off sz:Nat):V := .agg ((x.parts.drop off).take sz)
def subA(x:V)(off sz:Nat):Option V:=match x with | .agg xs=>if off+sz<=xs.length then some (.agg ((xs.drop off).take sz))else none | _=>none
def intV:BinOp->IntKind->Int->Int->Option V
 | .add,k,a,b=>some (.int k (k.wrap (a+b)))
 | .sub,k,a,b=>some (.int k (k.wrap (a-b)))
 | .mul,k,a,b=>some (.int k (k.wrap (a*b)))
 | .quo,k,a,b=>if b=0 then none else some (.int k (k.wrap (a.tdiv b)))
 | .rem,k,a,b=>if b=0 then none else some (.int k (a.tmod b))
 | .and,k,a,b=>some (.int k (bits .and k a b))
 | .or,k,a,b=>some (.int k (bits .or k a b))
 | .xor,k,a,b=>some (.int k (bits .xor k a b))
 | .andNot,k,a,b=>some (.int k (bits .andNot k a b))
 | .eql,_,a,b=>some (.bool (a==b))
 | .neq,_,a,b=>some (.bool (a != b))
 | .lss,_,a,b=>some (.bool (decide (a<b)))
 | .leq,_,a,b=>some (.bool (decide (a<=b)))
 | .gtr,_,a,b=>some (.bool (decide (a>b)))
 | .geq,_,a,b=>some (.bool (decide (a≥b)))
 | .shl,k,a,b=>if b<0 then none else some (.int k (k.wrap (a*2^Nat.min b.toNat k.bits)))
 | .shr,k,a,b=>if b<0 then none else some (.int k (a.fdiv (2^Nat.min b.toNat k.bits)))
def strV:BinOp->List UInt8->List UInt8->Option V
 | .add,a,b=>if a.length+b.length<=9223372036854775807 then some (.str (a++b))else none
 | .eql,a,b=>some (.bool (a==b))
 | .neq,a,b=>some (.bool (!(a==b)))
 | .lss,a,b=>some (.bool (Op.bytesLess a b))
 | .leq,a,b=>some (.bool (Op.bytesLess a b||a==b))
 | .gtr,a,b=>some (.bool !(Op.bytesLess a b||a==b))
 | .geq,a,b=>some (.bool !(Op.bytesLess a b))
 | _,_,_=>none
def binV(op:BinOp):V->V->Option V
 | .int k a,.int k' b=>if isShift op||decide (k=k')then intV op k a b else none
 | .str a,.str b=>strV op a b
 | .float k a,.float k' b=>if k=k' then(cmpF k op a b).map .bool else none
 | _,_=>none
def unV:UnOp->V->Option V
 | .neg,.int k n=>some (.int k (k.wrap (0-n)))
 | .xor,.int k n=>some (.int k (bits .xor k (if k.signed then -1 else k.max) n))
 | .not,.bool b=>some (.bool !b)
 | _,_=>none
def inilV(neg:Bool):V->Option V
 | .nili=>some (.bool (!neg))
 | .iface _ _=>some (.bool neg)
 | _=>none
def tasV(t:Nat)(ok:Bool):V->Option V
 | .iface u x=>if u=t then some (if ok then .tup [x,.bool true]else x)else none
 | _=>none
def cviV(k:IntKind):V->Option V
 | .int _ n=>some (.int k (k.wrap n))
 | _=>none
def cmsV:V->Option V
 | .str s=>some (.str s)
 | _=>none
def asBytesV:List V->Option (List UInt8)
 | []=>some []
 | .int .u8 n::r=>(asBytesV r).bind fun l=>some (UInt8.ofNat n.toNat::l)
 | _=>none
def ofBytesV(l:List UInt8):List V:=l.map fun b => .int .u8 b.toNat
def bndV(d:Option V)(dflt:Nat):Option Nat:=
 match d with
 | none=>some dflt
 | some (.int _ i)=>if 0<=i then some i.toNat else none
 | some _=>none
def bnd2(l h:Option V)(n:Nat):Option (Nat×Nat):=
 (bndV l 0).bind fun l'=>(bndV h n).bind fun h'=>if l'<=h'/\h'<=n then some (l',h')else none
def bnd3(l h m:Option V)(n:Nat):Option (Nat×Nat):=
 (bndV l 0).bind fun l'=>(bndV h n).bind fun h'=>(bndV m n).bind fun m'=>if h.isSome=true/\l'<=h'/\h'=m'/\m'<=n then some (l',h')else none
def bndR(l h m:Option V)(n c:Nat):Option (Nat×Nat×Nat):=
 (bndV l 0).bind fun l'=>(bndV h n).bind fun h'=>(bndV m c).bind fun m'=>if(m.isNone=true\/h.isSome=true)/\l'<=h'/\h'<=m'/\m'<=c then some (l',h',m')else none
def slsV(x:V)(l h:Option V):Option V:=
 match x with
 | .str s=>(bnd2 l h s.length).bind fun q=>some (.str ((s.drop q.1).take (q.2-q.1)))
 | _=>none
def idxV(i:V)(n:Nat):Option Nat:=
 match i with
 | .int _ i=>if 0<=i/\i<n then some i.toNat else none
 | _=>none
def ixaV(ag:Bool)(n sz:Nat)(x i:V):Option V:=
 match x with
 | .agg xs=>(idxV i n).bind fun i=>if ag then(if(i+1)*sz<=xs.length then some (.agg ((xs.drop (i*sz)).take sz))else none)else xs[i*sz]?
 | _=>none
def ixsV(x i:V):Option V:=
 match x with
 | .str s=>(idxV i s.length).bind fun i=>(s[i]?).bind fun b=>some (.int .u8 b.toNat)
 | _=>none
def extV(x:V)(i:Nat):Option V:=match x with | .tup xs=>xs[i]? | _=>none
def lenV:V->Option Nat
 | .sl xs=>some xs.length
 | _=>none
def lnsV:V->Option Nat
 | .str s=>some s.length
 | _=>none
def minV:V->List V->Option V
 | .int k x,[]=>some (.int k x)
 | .int k x,.int k' y::r=>if k=k' then minV (.int k (if y<x then y else x)) r else none
 | _,_=>none
def maxV:V->List V->Option V
 | .int k x,[]=>some (.int k x)
 | .int k x,.int k' y::r=>if k=k' then maxV (.int k (if x<y then y else x)) r else none
 | _,_=>none
def mksV(bytes:Nat)(n c:V):Option (Nat×Nat):=
 match n,c with
 | .int .i64 n,.int .i64 c=>if 0<=n/\n<=c/\c*bytes<=140737488355328/\c<=140737488355328 then some (n.toNat,c.toNat)else none
 | _,_=>none
def appOk(bytes n m:Nat):Bool:=decide ((n+m)*bytes<=140737488355328)&&decide (n+m<=140737488355328)
def apzV(bytes:Nat):V->Option Nat
 | .int .i64 m=>if 0<=m/\m<=140737488355328/\m.toNat*bytes<=140737488355328 then some m.toNat else none
 | _=>none
def mkEl:List V->V
 | [x]=>x
 | xs => .agg xs
inductive CP where
 | v (x:V) | p (k off:Nat)
inductive PS where
 | v (x:V)
 | own (id sz:Nat) (xs:List V)
 | full (xs:List V)
 | ptr (k off:Nat)
 | ptrA (k sz i off:Nat)
 | ref (k sz off n c:Nat) (z:Bool)
 | el (cs:List V)
 | elx (sz:Nat) (x:V) (off:Nat)
 | fn (f:Nat) (cap:List CP)
 | uref (k sz n:Nat)
inductive PD where
 | s (p:PS) | agg (ps:List PS)
inductive Fz where
 | no | may | yes
inductive RowC where
 | box (n:Nat) (x:V)
 | cells (ps:List PS)
 | arr (fz:Fz) (sz:Nat) (xs:List V)
 | iter (s:List UInt8) (pos:Nat)
 | bld (t e:Nat) (s:List UInt8)
 | dead
structure Row where
 ro:Bool
 c:RowC
abbrev PTm:=List (Nat×Bool×PD)
structure PSt where
 tm:PTm
 rows:List Row
 ni:Nat
 lim:Nat
inductive PA where
 | v (x:V) | p (j off:Nat) | fn (f:Nat) (cap:List CP) | o (sz:Nat) (xs:List V) | g | u
abbrev PcT:=Nat->List PA->List (Bool×Nat×V)->Option (V×List V)
inductive Md where
 | pl | gv (sz:Nat) | raw (sz:Nat) | ful | gvf (sz:Nat) | eff (e:Eff)
structure Gl where
 g:Nat->Option (List V)
 md:Nat->Md
 tx:Nat->Option (List V->Option V)
def getP:PTm->Nat->Option PD
 | [],_=>none
 | (i,_,d)::r,t=>match Nat.beq i t with | true=>some d | false=>getP r t
def putP:PTm->Nat->PD->Option PTm
 | [],t,d=>some [(t,false,d)]
 | (i,f,e)::r,t,d=>match Nat.beq i t with
  | true=>match f with | true=>none | false=>some ((t,false,d)::r)
  | false=>match putP r t d with | some r'=>some ((i,f,e)::r') | none=>none
def delP:PTm->Nat->Option PTm
 | [],_=>some []
 | (i,f,e)::r,t=>match Nat.beq i t with
  | true=>match f with | true=>none | false=>delP r t
  | false=>match delP r t with | some r'=>some ((i,f,e)::r') | none=>none
def hasB:List Nat->Nat->Bool
 | [],_=>false
 | i::r,t=>match Nat.beq i t with | true=>true | false=>hasB r t
def keptP(l:List Nat):PTm->PTm
 | []=>[]
 | (i,e)::r=>match hasB l i with | true=>(i,e)::keptP l r | false=>keptP l r
def setR(rows:List Row)(k:Nat)(r:Row):List Row:=rows.set k r
def rowW(p:PSt)(k:Nat):Option RowC:=match p.rows[k]? with | some ⟨false,c⟩=>some c | _=>none
def rowR(p:PSt)(k:Nat):Option RowC:=match p.rows[k]? with | some ⟨_,c⟩=>some c | none=>none
def PSt.setR(p:PSt)(k:Nat)(c:RowC):PSt:={ p with rows:=p.rows.set k ⟨false,c⟩ }
def PSt.newR(p:PSt)(c:RowC):PSt:={ p with rows:=p.rows++[⟨false,c⟩] }
def PS.strip(id:Nat):PS->PS
 | .own i sz xs=>match Nat.beq i id with | true => .v (.sl xs) | false => .own i sz xs
 | q=>q
def stripL(id:Nat):List PS->List PS
 | []=>[]
 | q::r=>q.strip id::stripL id r
def PD.strip(id:Nat):PD->PD
 | .s q => .s (q.strip id)
 | .agg ps => .agg (stripL id ps)
def RowC.strip(id:Nat):RowC->RowC
 | .cells ps => .cells (stripL id ps)
 | c=>c
def stripT(id:Nat):PTm->PTm
 | []=>[]
 | (i,f,d)::r=>(i,f,d.strip id)::stripT id r
def stripR(id:Nat):List Row->List Row
 | []=>[]
 | ⟨f,c⟩::r=>⟨f,c.strip id⟩::stripR id r
def PSt.strip(p:PSt)(id:Nat):PSt:={ p with tm:=stripT id p.tm,rows:=stripR id p.rows }
def PS.pure:PS->Option V
 | .v x=>some x
 | .own _ _ xs=>some (.sl xs)
 | .full xs=>some (.sl xs)
 | .fn f cap=>match cap with | []=>some (.fn f []) | _=>none
 | _=>none
def pureL':List PS->Option (List V)
 | []=>some []
 | q::r=>match q.pure with | some x=>(match pureL' r with | some l=>some (x::l) | none=>none) | none=>none
def PD.pureV:PD->Option V
 | .s q=>q.pure
 | .agg ps=>match pureL' ps with | some l=>some (.agg l) | none=>none
def PS.outV(p:PSt):PS->Option V
 | .ref k _ off n _ _=>match rowR p k with | some (.arr _ _ xs)=>some (.sl ((xs.drop off).take n)) | _=>none
 | .uref k _ n=>match rowR p k with | some (.arr _ _ xs)=>some (.sl (xs.take n)) | _=>none
 | q=>q.pure
def outL(p:PSt):List PS->Option (List V)
 | []=>some []
 | q::r=>match q.outV p with | some x=>(match outL p r with | some l=>some (x::l) | none=>none) | none=>none
def PD.outV(p:PSt):PD->Option V
 | .s q=>q.outV p
 | .agg ps=>match outL p ps with | some l=>some (.agg l) | none=>none
def PS.refs:PS->List (Nat×Bool)
 | .ref k _ _ _ _ z=>[(k,z)]
 | .uref k _ _=>[(k,false)]
 | _=>[]
def refsS:List PS->List (Nat×Bool)
 | []=>[]
 | q::r=>q.refs++refsS r
def PD.refs:PD->List (Nat×Bool)
 | .s q=>q.refs
 | .agg ps=>refsS ps
def allV:List PS->Option (List V)
 | []=>some []
 | .v x::r=>match allV r with | some l=>some (x::l) | none=>none
 | _=>none
def PS.oneP:PS->Bool
 | .v x=>x.one
 | _=>true
def allP:List PS->Bool
 | []=>true
 | q::r=>q.oneP&&allP r
def mkAgg(ps:List PS):PD:=match allV ps with | some l => .s (.v (.agg l)) | none => .agg ps
mutual
def ofD:D->Option V
 | .bool b=>some (.bool b)
 | .int k n=>some (.int k n)
 | .float k b=>some (.float k b)
 | .str s=>some (.str s)
 | .nilp=>some .nilp
 | .nilf=>some .nilf
 | .nili=>some .nili
 | .agg ds=>match ofDL ds with | some l=>some (.agg l) | none=>none
 | .fn f c=>match c with | []=>some (.fn f []) | _=>none
 | .iface t d=>match ofD d with | some x=>some (.iface t x) | none=>none
 | _=>none
def ofDL:List D->Option (List V)
 | []=>some []
 | d::r=>match ofD d with | some x=>(match ofDL r with | some l=>some (x::l) | none=>none) | none=>none
end
def constS:D->Option PS
 | .sl .full 0 []=>some (.full [])
 | .fn f []=>some (.fn f [])
 | d=>match ofD d with | some x=>some (.v x) | none=>none
def constL:List D->Option (List PS)
 | []=>some []
 | d::r=>match constS d with | some x=>(match constL r with | some l=>some (x::l) | none=>none) | none=>none
def constP:D->Option PD
 | .agg ds=>match constL ds with | some l=>(match allP l with | true=>some (mkAgg l) | false=>none) | none=>none
 | d=>match constS d with | some q=>some (.s q) | none=>none
def zeroL(z:List D):Option (List V):=
 match constL z with
 | some l=>match allP l with
  | true=>match pureL' l with
   | some l=>match Nat.blt 0 l.length with | true=>some l | false=>none
   | none=>none
  | false=>none
 | none=>none
def allU8:List D->Bool
 | []=>true
 | d::r=>match d with | .int .u8 (.ofNat 0)=>allU8 r | _=>false
def bytesZ(z:List D):Option Nat:=match allU8 z with
 | true=>match Nat.blt 2 z.length with | true=>some z.length | false=>none
 | false=>none
def evH(gl:Gl)(p:PSt):X->Option PD
 | .s t=>getP p.tm t
 | .k d=>constP d
 | .g n=>match gl.g n with | some cs=>some (.s (.el cs)) | none=>none
def evV(gl:Gl)(p:PSt)(x:X):Option V:=match evH gl p x with | some (.s (.v x))=>some x | _=>none
def evVL(gl:Gl)(p:PSt):List X->Option (List V)
 | []=>some []
 | x::r=>match evV gl p x with | some d=>(match evVL gl p r with | some l=>some (d::l) | none=>none) | none=>none
def evVO(gl:Gl)(p:PSt):Option X->Option (Option V)
 | none=>some none
 | some x=>match evV gl p x with | some d=>some (some d) | none=>none
def evHL(gl:Gl)(p:PSt):List X->Option (List PD)
 | []=>some []
 | x::r=>match evH gl p x with | some d=>(match evHL gl p r with | some l=>some (d::l) | none=>none) | none=>none
section
variable {ρ:Type}
def cellsFrom(x:V)(i:Nat):Nat->(List PS->Option ρ)->Option ρ
 | 0,K=>K []
 | n+1,K=>(fldV x i).bind fun c=>cellsFrom x (i+1) n fun l=>K (.v c::l)
def cellsK(n:Nat)(d:PD)(K:List PS->Option ρ):Option ρ:=
 match d with
 | .s (.v x)=>tst (okN n x) (cellsFrom x 0 n K)
 | .s (.el _) | .s (.elx _ _ _)=>none
 | .s q=>match Nat.beq n 1 with | true=>K [q] | false=>none
 | .agg ps=>match Nat.beq ps.length n with | true=>K ps | false=>none
def setL{α:Type}(xs:List α)(o:Nat)(ys:List α):List α:=xs.take o++ys++xs.drop (o+ys.length)
def buildK(gl:Gl)(p:PSt)(cells:List PS):List (Nat×Nat×X)->(List PS->Option ρ)->Option ρ
 | [],K=>K cells
 | (o,n,x)::r,K=>match evH gl p x with
  | some d=>match Nat.ble (o+n) cells.length with
   | true=>cellsK n d fun cs=>buildK gl p (setL cells o cs) r K
   | false=>none
  | none=>none
def elK(sz:Nat)(els:List V)(o n:Nat)(x:V)(K:List V->Option ρ):Option ρ:=
 match Nat.beq n sz&&Nat.beq (o%sz) 0 with
 | true=>match Nat.beq sz 1 with
  | true=>tst (okN 1 x) ((fldV x 0).bind fun c=>K (els.set (o/sz) c))
  | false=>tst (okN sz x) (K (els.set (o/sz) x))
 | false=>match Nat.beq sz 1 with
  | true=>none
  | false=>match els[o/sz]? with
   | some (.agg xs)=>match Nat.ble (o%sz+n) xs.length&&Nat.blt 0 n with
    | true=>tst (okN n x) (K (els.set (o/sz) (.agg (setL xs (o%sz) x.parts))))
    | false=>none
   | _=>none
def litK(gl:Gl)(p:PSt)(sz:Nat)(els:List V):List (Nat×Nat×X)->(List V->Option ρ)->Option ρ
 | [],K=>K els
 | (o,n,x)::r,K=>match evH gl p x with
  | some d=>match d.pureV with
   | some x=>match Nat.blt (o/sz) els.length with
    | true=>elK sz els o n x fun els=>litK gl p sz els r K
    | false=>none
   | none=>none
  | none=>none
def slK(sz:Nat)(p:PSt)(d:PD)(K:List V->Option ρ):Option ρ:=
 match d with
 | .s (.v x)=>(asSl sz x).bind K
 | .s (.own _ _ xs)=>tst (szOk sz xs) (K xs)
 | .s (.full xs)=>tst (szOk sz xs) (K xs)
 | .s (.ref k sz' off n _ _)=>match rowR p k with
  | some (.arr _ _ xs)=>match Nat.beq sz' sz with | true=>K ((xs.drop off).take n) | false=>none
  | _=>none
 | .s (.uref k sz' n)=>match rowR p k with
  | some (.arr _ _ xs)=>match Nat.beq sz' sz with | true=>K (xs.take n) | false=>none
  | _=>none
 | _=>none
def asEl(sz:Nat):V->Option (List V)
 | .sl xs=>match szOk sz xs with | true=>some xs | false=>none
 | .str s=>match Nat.beq sz 1 with | true=>some (ofBytesV s) | false=>none
 | _=>none
def srcK(sz:Nat)(p:PSt)(d:PD)(K:List V->Option ρ):Option ρ:=
 match d with
 | .s (.v x)=>(asEl sz x).bind K
 | d=>slK sz p d K
def loadK(p:PSt)(ag:Bool)(sz:Nat)(d:PD)(K:PD->Option ρ):Option ρ:=
 match d with
 | .s (.ptr k off)=>match rowR p k with
  | some (.box n x)=>match ag with
   | true=>tst (Nat.ble (off+sz) n) (match Nat.beq sz n&&Nat.blt 1 n with | true=>K (.s (.v x)) | false=>K (.s (.v (subV x off sz))))
   | false=>(fldV x off).bind fun c=>K (.s (.v c))
  | some (.cells ps)=>match ag with
   | true=>match Nat.ble (off+sz) ps.length with | true=>K (mkAgg ((ps.drop off).take sz)) | false=>none
   | false=>match ps[off]? with | some q=>K (.s q) | none=>none
  | _=>none
 | .s (.ptrA k sz' i off)=>match rowR p k with
  | some (.arr _ _ xs)=>match ag with
   | true=>match Nat.ble (off+sz) sz' with
    | true=>(xs[i]?).bind fun x=>match Nat.beq sz sz'&&Nat.blt 1 sz' with | true=>K (.s (.v x)) | false=>K (.s (.v (subV x off sz)))
    | false=>none
   | false=>(xs[i]?).bind fun x=>(fldV x off).bind fun c=>K (.s (.v c))
  | _=>none
 | .s (.elx sz' x off)=>match ag with
  | true=>match Nat.ble (off+sz) sz' with
   | true=>match Nat.beq sz sz'&&Nat.blt 1 sz' with | true=>K (.s (.v x)) | false=>K (.s (.v (subV x off sz)))
   | false=>none
  | false=>(fldV x off).bind fun c=>K (.s (.v c))
 | .s (.el cs)=>match ag with
  | true=>tst (Nat.ble sz cs.length) (K (.s (.v (.agg (cs.take sz)))))
  | false=>(cs[0]?).bind fun c=>K (.s (.v c))
 | _=>none
def storeK(p:PSt)(sz:Nat)(a v:PD)(K:PSt->Option ρ):Option ρ:=
 match a with
 | .s (.ptr k off)=>match rowW p k with
  | some (.box n x)=>match Nat.beq off 0&&Nat.beq sz n&&Nat.blt 1 n with
   | true=>match v with
    | .s (.v y)=>tst (okN n y) (K (p.setR k (.box n y)))
    | v=>cellsK n v fun cs=>K (p.setR k (.cells cs))
   | false=>match Nat.ble (off+sz) n with
    | true=>cellsFrom x 0 n fun xs=>cellsK sz v fun cs=>K (p.setR k (.cells (setL xs off cs)))
    | false=>none
  | some (.cells ps)=>match Nat.beq off 0&&Nat.beq sz ps.length&&Nat.blt 1 sz with
   | true=>match v with
    | .s (.v y)=>tst (okN sz y) (K (p.setR k (.box sz y)))
    | v=>cellsK sz v fun cs=>K (p.setR k (.cells cs))
   | false=>match Nat.ble (off+sz) ps.length with
    | true=>cellsK sz v fun cs=>K (p.setR k (.cells (setL ps off cs)))
    | false=>none
  | _=>none
 | .s (.ptrA k sz' i off)=>match rowW p k with
  | some (.arr .no _ xs)=>match v.pureV with
   | some y=>match Nat.beq off 0&&Nat.beq sz sz' with
    | true=>match Nat.beq sz 1 with
     | true=>tst (okN 1 y) ((fldV y 0).bind fun c=>K (p.setR k (.arr .no sz' (xs.set i c))))
     | false=>tst (okN sz y) (K (p.setR k (.arr .no sz' (xs.set i y))))
    | false=>match Nat.ble (off+sz) sz'&&Nat.blt 0 sz with
     | true=>(xs[i]?).bind fun e=>tst (okN sz y) (K (p.setR k (.arr .no sz' (xs.set i (.agg (setL e.parts off y.parts))))))
     | false=>none
   | none=>none
  | _=>none
 | _=>none
def appK(p:PSt)(sz bytes:Nat)(s:PD)(ys:List V)(K:PD->PSt->Option ρ):Option ρ:=
 match s with
 | .s (.full xs)=>match Nat.blt 0 sz with
  | true=>tst (szOk sz xs) (tst (appOk bytes xs.length ys.length) (K (.s (.own p.ni sz (xs++ys))) { p with ni:=p.ni+1 }))
  | false=>none
 | .s (.own id sz' xs)=>match Nat.beq sz sz'&&Nat.blt 0 sz&&Nat.ble p.lim id with
  | true=>tst (appOk bytes xs.length ys.length) (K (.s (.own id sz (xs++ys))) (p.strip id))
  | false=>none
 | .s (.ref k sz' off n c z)=>match Nat.beq sz sz'&&Nat.blt 0 sz with
  | true=>match rowR p k with
   | some (.arr fz _ xs)=>tst (appOk bytes n ys.length) (if n+ys.length<=c/\(z=false\/0<c)then
     (match rowW p k with
     | some (.arr .no _ _)=>K (.s (.ref k sz off (n+ys.length) c z)) (p.setR k (.arr fz sz (setL xs (off+n) ys)))
     | _=>none)
    else K (.s (.own p.ni sz ((xs.drop off).take n++ys))) { p with ni:=p.ni+1 })
   | _=>none
  | false=>none
 | _=>none
def slaK(p:PSt)(n sz:Nat)(l h m:Option V)(d:PD)(K:PD->Option ρ):Option ρ:=
 match d with
 | .s q=>match q with
  | .ptr k o=>match rowR p k with
   | some (.arr _ sz' xs)=>match Nat.beq o 0&&Nat.beq sz sz'&&Nat.blt n rcap with
    | true=>tst (Nat.ble n xs.length) ((bndR l h m n n).bind fun q=>K (.s (.ref k sz q.1 (q.2.1-q.1) (q.2.2-q.1) true)))
    | false=>none
   | _=>none
  | _=>none
 | .agg _=>none
def place(k:Nat)(l:List Nat):Nat×List Nat:=match l.findIdx? (fun j=>Nat.beq j k)with | some j=>(j,l) | none=>(l.length,l++[k])
def capA(ks:List Nat):List CP->List CP×List Nat
 | []=>([],ks)
 | .v x::r=>(.v x::(capA ks r).1,(capA ks r).2)
 | .p k off::r=>(.p (place k ks).1 off::(capA (place k ks).2 r).1,(capA (place k ks).2 r).2)
def freeze(p:PSt)(kz:Nat×Bool):Option PSt:=match p.rows[kz.1]? with
 | some ⟨_,.arr .yes _ _⟩=>some p
 | some ⟨false,.arr .may sz xs⟩=>match kz.2 with | true=>some p | false=>some { p with rows:=p.rows.set kz.1 ⟨false,.arr .yes sz xs⟩ }
 | some ⟨false,.arr .no sz xs⟩=>match kz.2 with | true=>some { p with rows:=p.rows.set kz.1 ⟨false,.arr .may sz xs⟩ } | false=>some { p with rows:=p.rows.set kz.1 ⟨false,.arr .yes sz xs⟩ }
 | _=>none
def freezeL(p:PSt):List (Nat×Bool)->Option PSt
 | []=>some p
 | k::r=>match freeze p k with | some p'=>freezeL p' r | none=>none
def argA(p:PSt)(ks:List Nat)(d:PD):Option (PA×List Nat×PSt):=
 match d with
 | .s (.ptr k off)=>some (.p (place k ks).1 off,(place k ks).2,p)
 | .s (.fn f cap)=>some (.fn f (capA ks cap).1,(capA ks cap).2,p)
 | d=>match d.outV p with
  | some x=>match freezeL p d.refs with | some p'=>some (.v x,ks,p') | none=>none
  | none=>none
def argsA(p:PSt)(ks:List Nat):List PD->Option (List PA×List Nat×PSt)
 | []=>some ([],ks,p)
 | d::r=>match argA p ks d with
  | some (a,ks',p')=>match argsA p' ks' r with | some (l,ks'',p'')=>some (a::l,ks'',p'') | none=>none
  | none=>none
def rowV:RowC->Option (Nat×V)
 | .box n x=>match Nat.beq n 1 with | true=>none | false=>some (n,x)
 | .cells ps=>match pureL' ps with | some l=>some (ps.length,mkEl l) | none=>none
 | _=>none
def parsA(p:PSt):List Nat->Option (List (Bool×Nat×V))
 | []=>some []
 | k::r=>match p.rows[k]? with
  | some ⟨ro,c⟩=>match rowV c with
   | some (n,x)=>match parsA p r with | some l=>some ((ro,n,x)::l) | none=>none
   | none=>none
  | none=>none
def parC(n:Nat)(x:V):RowC:=match Nat.beq n 1 with | true => .cells [.v x] | false => .box n x
def backK(p:PSt)(ys:List V)(j:Nat):List Nat->(PSt->Option ρ)->Option ρ
 | [],K=>K p
 | k::r,K=>match p.rows[k]? with
  | some ⟨true,_⟩=>backK p ys (j+1) r K
  | some ⟨false,c⟩=>match rowV c with
   | some (n,_)=>(ys[j]?).bind fun y=>backK (p.setR k (parC n y)) ys (j+1) r K
   | none=>none
  | none=>none
def callN(pc:PcT)(f:Nat)(ds:List PD)(p:PSt)(K:PD->PSt->Option ρ):Option ρ:=
 match argsA p [] ds with
 | some (as,ks,p')=>match parsA p' ks with
  | some pars=>(pc f as pars).bind fun r=>backK p' r.2 0 ks fun p''=>K (.s (.v r.1)) p''
  | none=>none
 | none=>none
def valsP:List PD->Option (List V)
 | []=>some []
 | d::r=>match d.pureV with | some x=>(match valsP r with | some l=>some (x::l) | none=>none) | none=>none
def slV:V->Option (List V)
 | .sl xs=>some xs
 | _=>none
def callG(pc:PcT)(sz f:Nat)(ds:List PD)(p:PSt)(K:PD->PSt->Option ρ):Option ρ:=
 match argsA p [] ds with
 | some (as,[],p')=>(pc f (.g::as) []).bind fun r=>(slV r.1).bind fun xs=>K (.s (.own p'.ni sz xs)) { p' with ni:=p'.ni+1 }
 | _=>none
def callW(pc:PcT)(sz f:Nat)(ds:List PD)(p:PSt)(K:PD->PSt->Option ρ):Option ρ:=
 match ds with
 | .s (.own id sz' ys)::r=>match Nat.beq sz sz' with
  | true=>match valsP r with
   | some xs=>(pc f (.o sz ys::xs.map PA.v) []).bind fun q=>K (.s (.v q.1)) (p.strip id)
   | none=>none
  | false=>none
 | .s (.full ys)::r=>match valsP r with
  | some xs=>tst (szOk sz ys) ((pc f (.o sz ys::xs.map PA.v) []).bind fun q=>K (.s (.v q.1)) (p.strip p.ni))
  | none=>none
 | _=>none
def fulP(d:PD)(k:Option ρ):Option ρ:=
 match d with
 | .s (.full _)=>k
 | .s (.ref _ _ _ n c _)=>tst (Nat.beq n c) k
 | _=>none
def callF(pc:PcT)(f:Nat)(ds:List PD)(p:PSt)(K:PD->PSt->Option ρ):Option ρ:=
 match ds with
 | d::r=>fulP d (match argsA p [] (d::r)with
  | some (as,[],p')=>(pc f (.u::as) []).bind fun q=>K (.s (.v q.1)) p'
  | _=>none)
 | []=>none
def asByte:V->Option UInt8
 | .int .u8 n=>if 0<=n/\n<256 then some (UInt8.ofNat n.toNat)else none
 | _=>none
def effK(e:Eff)(ds:List PD)(p:PSt)(K:PD->PSt->Option ρ):Option ρ:=
 match e with
 | .ws t e=>match ds with
  | [.s (.ptr k 0),.s (.v x)]=>match rowW p k with
   | some (.bld t' e' r)=>match Nat.beq t' t&&Nat.beq e' e with
    | true=>(asStr x).bind fun s=>tst (decide (r.length+s.length<=140737488355328)) (K (.s (.v (.tup [.int .i64 (s.length:Nat),.nili]))) (p.setR k (.bld t e (r++s))))
    | false=>none
   | _=>none
  | _=>none
 | .wb t e=>match ds with
  | [.s (.ptr k 0),.s (.v x)]=>match rowW p k with
   | some (.bld t' e' r)=>match Nat.beq t' t&&Nat.beq e' e with
    | true=>(asByte x).bind fun c=>tst (decide (r.length+1<=140737488355328)) (K (.s (.v .nili)) (p.setR k (.bld t e (r++[c]))))
    | false=>none
   | _=>none
  | _=>none
 | .bs t e=>match ds with
  | [.s (.ptr k 0)]=>match rowW p k with
   | some (.bld t' e' r)=>match Nat.beq t' t&&Nat.beq e' e with
    | true=>K (.s (.v (.str r))) (p.setR k .dead)
    | false=>none
   | _=>none
  | _=>none
def callK(md:Nat->Md)(pc:PcT)(f:Nat)(ds:List PD)(p:PSt)(K:PD->PSt->Option ρ):Option ρ:=
 match md f with
 | .pl=>callN pc f ds p K
 | .gv sz=>callG pc sz f ds p K
 | .raw sz=>callW pc sz f ds p K
 | .ful=>callF pc f ds p K
 | .gvf sz=>match ds with
  | d::r=>fulP d (callG pc sz f (d::r) p K)
  | []=>none
 | .eff e=>effK e ds p K
def capD:CP->PD
 | .v x => .s (.v x)
 | .p k off => .s (.ptr k off)
def mkCap:List PD->Option (List CP)
 | []=>some []
 | .s (.v x)::r=>match mkCap r with | some l=>some (.v x::l) | none=>none
 | .s (.ptr k off)::r=>match mkCap r with | some l=>some (.p k off::l) | none=>none
 | _=>none
def popK(gl:Gl)(pc:PcT)(p:PSt)(o:O)(K:Option PD->PSt->Option ρ):Option ρ:=
 match o with
 | .mv x=>match evH gl p x with | some d=>K (some d) p | none=>none
 | .pick c a b=>match evV gl p c with
  | some c=>match evV gl p a with
   | some x=>match evV gl p b with
    | some y=>(asBool c).bind fun c=>K (some (.s (.v (if c then x else y)))) p
    | none=>none
   | none=>none
  | none=>none
 | .alloc z=>match bytesZ z with
  | some n=>K (some (.s (.ptr p.rows.length 0))) (p.newR (.arr .no 1 (List.replicate n (.int .u8 0))))
  | none=>match constL z with
   | some l=>match allP l with
    | true=>K (some (.s (.ptr p.rows.length 0))) (p.newR (.cells l))
    | false=>none
   | none=>none
 | .build z ps=>match constL z with
  | some l=>match allP l with
   | true=>buildK gl p l ps fun cs=>K (some (mkAgg cs)) p
   | false=>none
  | none=>none
 | .lit n z ps=>match zeroL z with
  | some l=>litK gl p l.length (List.replicate n (mkEl l)) ps fun els=>K (some (.s (.full els))) p
  | none=>none
 | .load ag sz a=>match evH gl p a with | some d=>loadK p ag sz d fun v=>K (some v) p | none=>none
 | .store sz a v=>match evH gl p a with
  | some d=>match evH gl p v with | some v=>storeK p sz d v fun p'=>K none p' | none=>none
  | none=>none
 | .chk x=>match evH gl p x with
  | some (.s (.ptr k off))=>K (some (.s (.ptr k off))) p
  | some (.s (.ptrA k sz i off))=>K (some (.s (.ptrA k sz i off))) p
  | some (.s (.el cs))=>K (some (.s (.el cs))) p
  | some (.s (.elx sz x off))=>K (some (.s (.elx sz x off))) p
  | some (.s (.fn f c))=>K (some (.s (.fn f c))) p
  | _=>none
 | .bin op x y=>match evV gl p x with
  | some x=>match evV gl p y with | some y=>(binV op x y).bind fun d=>K (some (.s (.v d))) p | none=>none
  | none=>none
 | .beq neg x y=>match evV gl p x with
  | some x=>match evV gl p y with
   | some y=>(asBool x).bind fun a=>(asBool y).bind fun b=>K (some (.s (.v (.bool (match neg with | true => !(a==b) | false=>a==b))))) p
   | none=>none
  | none=>none
 | .inil neg x=>match evV gl p x with | some x=>(inilV neg x).bind fun d=>K (some (.s (.v d))) p | none=>none
 | .tas t ok x=>match evV gl p x with | some x=>(tasV t ok x).bind fun d=>K (some (.s (.v d))) p | none=>none
 | .un op x=>match evV gl p x with | some x=>(unV op x).bind fun d=>K (some (.s (.v d))) p | none=>none
 | .cvi k x=>match evV gl p x with | some x=>(cviV k x).bind fun d=>K (some (.s (.v d))) p | none=>none
 | .cms x=>match evV gl p x with | some x=>(cmsV x).bind fun d=>K (some (.s (.v d))) p | none=>none
 | .cbs x=>match evH gl p x with
  | some d=>slK 1 p d fun xs=>(asBytesV xs).bind fun s=>K (some (.s (.v (.str s)))) p
  | none=>none
 | .csb x=>match evV gl p x with | some x=>(asStr x).bind fun s=>K (some (.s (.v (.sl (ofBytesV s))))) p | none=>none
 | .ifc t x=>match evH gl p x with
  | some d=>match d.pureV with | some x=>K (some (.s (.v (.iface t x)))) p | none=>none
  | none=>none
 | .mkf f cap=>match evHL gl p cap with
  | some l=>match mkCap l with
   | some l=>K (some (.s (.fn f l))) p
   | none=>none
  | none=>none
 | .mks z bytes n c=>match zeroL z with
  | some l=>match evV gl p n with
   | some n=>match evV gl p c with
    | some c=>(mksV bytes n c).bind fun q=>K (some (.s (.ref p.rows.length l.length 0 q.1 q.2 false))) (p.newR (.arr .no l.length (List.replicate q.2 (mkEl l))))
    | none=>none
   | none=>none
  | none=>none
 | .slc sz x l h m=>match evH gl p x with
  | some d=>match evVO gl p l with
   | some l=>match evVO gl p h with
    | some h=>match evVO gl p m with
     | some m=>match d with
      | .s (.ref k sz' off n c _)=>match Nat.beq sz' sz with
       | true=>(bndR l h m n c).bind fun q=>K (some (.s (.ref k sz (off+q.1) (q.2.1-q.1) (q.2.2-q.1) true))) p
       | false=>none
      | .s (.uref _ _ _)=>none
      | d=>slK sz p d fun xs=>match m with
       | none=>(bnd2 l h xs.length).bind fun q=>K (some (.s (.v (.sl ((xs.drop q.1).take (q.2-q.1)))))) p
       | some m=>(bnd3 l h (some m) xs.length).bind fun q=>K (some (.s (.full ((xs.drop q.1).take (q.2-q.1))))) p
     | none=>none
    | none=>none
   | none=>none
  | none=>none
 | .sla n sz x l h m=>match evH gl p x with
  | some d=>match evVO gl p l with
   | some l=>match evVO gl p h with
    | some h=>match evVO gl p m with
     | some m=>slaK p n sz l h m d fun d=>K (some d) p
     | none=>none
    | none=>none
   | none=>none
  | none=>none
 | .sls x l h=>match evV gl p x with
  | some x=>match evVO gl p l with
   | some l=>match evVO gl p h with
    | some h=>(slsV x l h).bind fun d=>K (some (.s (.v d))) p
    | none=>none
   | none=>none
  | none=>none
 | .fad off x=>match evH gl p x with
  | some (.s (.ptr k o))=>K (some (.s (.ptr k (o+off)))) p
  | some (.s (.ptrA k sz i o))=>K (some (.s (.ptrA k sz i (o+off)))) p
  | some (.s (.el cs))=>K (some (.s (.el (cs.drop off)))) p
  | some (.s (.elx sz x o))=>K (some (.s (.elx sz x (o+off)))) p
  | _=>none
 | .fld ag off sz x=>match evH gl p x with
  | some (.s (.v x))=>match ag with
   | true=>(subA x off sz).bind fun d=>K (some (.s (.v d))) p
   | false=>(fldA x off).bind fun d=>K (some (.s (.v d))) p
  | some (.agg ps)=>match ag with
   | true=>match Nat.ble (off+sz) ps.length with | true=>K (some (mkAgg ((ps.drop off).take sz))) p | false=>none
   | false=>match ps[off]? with | some q=>K (some (.s q)) p | none=>none
  | _=>none
 | .iad sz x i=>match evH gl p x with
  | some d=>match evV gl p i with
   | some i=>match d with
    | .s (.ref k sz' off n _ _)=>match Nat.beq sz' sz&&Nat.blt 0 sz with
     | true=>(idxV i n).bind fun i=>K (some (.s (.ptrA k sz (off+i) 0))) p
     | false=>none
    | .s (.uref k sz' n)=>match Nat.beq sz' sz&&Nat.blt 0 sz with
     | true=>(idxV i n).bind fun i=>K (some (.s (.ptrA k sz i 0))) p
     | false=>none
    | d=>slK sz p d fun xs=>(idxV i xs.length).bind fun i=>(xs[i]?).bind fun e=>K (some (.s (.elx sz e 0))) p
   | none=>none
  | none=>none
 | .iaa n sz x i=>match evH gl p x with
  | some d=>match evV gl p i with
   | some i=>(idxV i n).bind fun i=>match d with
    | .s (.ptr k o)=>match rowR p k with
     | some (.arr _ sz' xs)=>match Nat.beq o 0&&Nat.beq sz sz' with
      | true=>tst (Nat.blt i xs.length) (K (some (.s (.ptrA k sz i 0))) p)
      | false=>none
     | _=>K (some (.s (.ptr k (o+i*sz)))) p
    | .s (.el cs)=>K (some (.s (.el (cs.drop (i*sz))))) p
    | _=>none
   | none=>none
  | none=>none
 | .ixa ag n sz x i=>match evH gl p x with
  | some d=>match d.pureV with
   | some x=>match evV gl p i with | some i=>(ixaV ag n sz x i).bind fun d=>K (some (.s (.v d))) p | none=>none
   | none=>none
  | none=>none
 | .ixs x i=>match evV gl p x with
  | some x=>match evV gl p i with | some i=>(ixsV x i).bind fun d=>K (some (.s (.v d))) p | none=>none
  | none=>none
 | .ext x i=>match evV gl p x with | some x=>(extV x i).bind fun d=>K (some (.s (.v d))) p | none=>none
 | .len x=>match evH gl p x with
  | some (.s (.v x))=>(lenV x).bind fun n=>K (some (.s (.v (.int .i64 n)))) p
  | some (.s (.own _ _ xs))=>K (some (.s (.v (.int .i64 xs.length)))) p
  | some (.s (.full xs))=>K (some (.s (.v (.int .i64 xs.length)))) p
  | some (.s (.ref _ _ _ n _ _))=>K (some (.s (.v (.int .i64 n)))) p
  | some (.s (.uref _ _ n))=>K (some (.s (.v (.int .i64 n)))) p
  | _=>none
 | .lns x=>match evV gl p x with | some x=>(lnsV x).bind fun n=>K (some (.s (.v (.int .i64 n)))) p | none=>none
 | .cap x=>match evH gl p x with
  | some (.s (.full xs))=>K (some (.s (.v (.int .i64 xs.length)))) p
  | some (.s (.ref _ _ _ _ c _))=>K (some (.s (.v (.int .i64 c)))) p
  | _=>none
 | .app sz bytes s x=>match evH gl p s with
  | some s=>match evH gl p x with
   | some d=>srcK sz p d fun ys=>appK p sz bytes s ys fun d p'=>K (some d) p'
   | none=>none
  | none=>none
 | .apz z bytes s x=>match zeroL z with
  | some l=>match evH gl p s with
   | some s=>match evV gl p x with
    | some x=>(apzV bytes x).bind fun m=>appK p l.length bytes s (List.replicate m (mkEl l)) fun d p'=>K (some d) p'
    | none=>none
   | none=>none
  | none=>none
 | .cpy sz d s=>match evH gl p d with
  | some d=>match evH gl p s with
   | some s=>srcK sz p s fun ys=>match d with
    | .s (.ref k sz' off n _ _)=>match rowW p k with
     | some (.arr .no _ xs)=>match Nat.beq sz' sz with
      | true=>K (some (.s (.v (.int .i64 (Nat.min ys.length n:Nat))))) (p.setR k (.arr .no sz (setL xs off (ys.take (Nat.min ys.length n)))))
      | false=>none
     | _=>none
    | .s (.full [])=>K (some (.s (.v (.int .i64 0)))) p
    | _=>none
   | none=>none
  | none=>none
 | .min xs=>match evVL gl p xs with
  | some (x::r)=>(minV x r).bind fun d=>K (some (.s (.v d))) p
  | _=>none
 | .max xs=>match evVL gl p xs with
  | some (x::r)=>(maxV x r).bind fun d=>K (some (.s (.v d))) p
  | _=>none
 | .call f xs=>match evHL gl p xs with | some ds=>callK gl.md pc f ds p fun d p'=>K (some d) p' | none=>none
 | .callv g xs=>match evH gl p g with
  | some (.s (.fn f cap))=>match Nat.blt f dfrN with
   | true=>match evHL gl p xs with | some ds=>callN pc f (ds++cap.map capD) p fun d p'=>K (some d) p' | none=>none
   | false=>none
  | some (.s (.v x))=>match evHL gl p xs with
   | some ds=>(asFn x).bind fun q=>match q.2 with
    | []=>match Nat.blt q.1 dfrN with | true=>callN pc q.1 ds p fun d p'=>K (some d) p' | false=>none
    | _=>none
   | none=>none
  | _=>none
 | .apr sz bytes x=>match evH gl p x with
  | some d=>slK sz p d fun ys=>tst (Nat.blt 0 ys.length&&Nat.blt 0 sz&&appOk bytes 0 ys.length) (K (some (.s (.uref p.rows.length sz ys.length))) (p.newR (.arr .no sz ys)))
  | none=>none
 | .nbl t e=>K (some (.s (.ptr p.rows.length 0))) (p.newR (.bld t e []))
 | .rng x=>match evV gl p x with | some x=>(asStr x).bind fun s=>K (some (.s (.ptr p.rows.length 0))) (p.newR (.iter s 0)) | none=>none
 | .nxt x=>match evH gl p x with
  | some (.s (.ptr k 0))=>match rowW p k with
   | some (.iter s pos)=>if pos<s.length then
     K (some (.s (.v (.tup [.bool true,.int .i64 pos,.int .i32 (Utf8.decode ⟨s.toArray⟩ pos).1])))) (p.setR k (.iter s (pos+(Utf8.decode ⟨s.toArray⟩ pos).2)))
    else K (some (.s (.v (.tup [.bool false])))) p
   | _=>none
  | _=>none
 | _=>none
end
end
section
inductive PO where
 | nil
 | one (o:OpC) (r:PO)
 | box (n dst:Nat) (x:X) (r:PO)
 | grp (c:Nat) (w:Bool) (ops:PO) (dst:Nat) (a b:X) (r:PO)
inductive PEx where
 | nrm | ext (id:Nat) | ret
inductive Kd where
 | v | own (sz:Nat) | ptr (k off:Nat) | ref (k sz:Nat) (z:Bool) | same
inductive RK where
 | same | dead | box (n:Nat) | cells (l:List Kd) | arr (fz:Fz) (sz:Nat) | iter | bld (t e:Nat)
structure Sh where
 slots:List (Nat×Kd)
 rows:List RK
inductive PC where
 | skip
 | reg (ops:PO) (keep:List Nat)
 | drw (a0 a1 b:PO) (keep:List Nat)
 | drq (a0 a1 b:PO) (keep:List Nat)
 | drf (a0:PO) (t:Nat) (ag:Bool) (sz a k:Nat) (b1 b:PO) (keep:List Nat)
 | seq (a b:PC)
 | cond (c:X) (a b:PC)
 | blk (id:Nat) (c:PC)
 | loop (h:Sh) (xs:List (PEx×Sh)) (c:PC)
 | cut (h:Sh) (xs:List (PEx×Sh)) (c:PC)
 | exit (id:Nat)
 | ret
structure PFn where
 res:List R
 body:PC
 pn:Bool
def pickO(c:Nat)(w:Bool)(a b:X):O:=match w with | true => .pick (.s c) a b | false => .pick (.s c) b a
def regd(g:Option (Nat×Bool))(o:OpC):OpC:=match o.gd with | none=>⟨o.dst,o.op,g⟩ | some _=>o
def eraseG(g:Option (Nat×Bool)):PO->List OpC
 | .nil=>[]
 | .one o r=>regd g o::eraseG g r
 | .box _ dst x r=>⟨some dst,.box x,g⟩::eraseG g r
 | .grp c w ops dst a b r=>eraseG (some (c,w)) ops++⟨some dst,pickO c w a b,g⟩::eraseG g r
def eraseO(l:PO):List OpC:=eraseG none l
def erase:PC->C
 | .skip => .skip
 | .reg ops keep => .reg (eraseO ops) keep
 | .drw a0 a1 b keep => .drw (eraseO a0) (eraseO a1) [] (eraseO b) keep
 | .drq a0 a1 b keep => .drw (eraseO a0) (eraseO a1) [] (eraseO b) keep
 | .drf a0 t ag sz a _ b1 b keep => .drw (eraseO a0) [⟨some t,.load ag sz (.s a),none⟩] (eraseO b1) (eraseO b) keep
 | .seq a b => .seq (erase a) (erase b)
 | .cond c a b => .cond c (erase a) (erase b)
 | .blk id c => .blk id (erase c)
 | .loop _ _ c => .loop (erase c)
 | .cut _ _ c=>erase c
 | .exit id => .exit id
 | .ret => .ret
def eqFz:Fz->Fz->Bool
 | .no,.no=>true
 | .may,.may=>true
 | .yes,.yes=>true
 | _,_=>false
def getF:PTm->Nat->Option (Bool×PD)
 | [],_=>none
 | (i,f,d)::r,t=>match Nat.beq i t with | true=>some (f,d) | false=>getF r t
def V.elems:V->List V
 | .sl xs=>xs
 | _=>[]
def natV:V->Nat
 | .int _ n=>n.toNat
 | _=>0
def txtV:V->List UInt8
 | .str s=>s
 | _=>[]
def vec(l:List V)(i:Nat):V:=l.getD i .nilp
def hasOwnL:List PS->Bool
 | []=>false
 | .own _ _ _::_=>true
 | _::r=>hasOwnL r
def PD.hasOwn:PD->Bool
 | .s q=>hasOwnL [q]
 | .agg ps=>hasOwnL ps
def RowC.hasOwn:RowC->Bool
 | .cells ps=>hasOwnL ps
 | _=>false
section
variable {ρ:Type}
def encS(m:Nat)(kd:Kd)(q:PS)(ids:List Nat)(K:List V->List Nat->Option ρ):Option ρ:=
 match kd with
 | .v=>match q.pure with | some x=>K [x] ids | none=>none
 | .own sz=>match q with
  | .own id sz' xs=>match Nat.beq sz sz' && !hasB ids id with | true=>K [.sl xs] (id::ids) | false=>none
  | .full xs=>tst (szOk sz xs) (K [.sl xs] ids)
  | _=>none
 | .ptr k off=>match q with
  | .ptr k' off'=>match Nat.beq k k'&&Nat.beq off off'&&Nat.blt k m with | true=>K [] ids | false=>none
  | _=>none
 | .ref k sz z=>match q with
  | .ref k' sz' off n c z'=>match Nat.beq k k'&&Nat.beq sz sz'&&Nat.blt k m&&(z==z')with | true=>K [.int .i64 off,.int .i64 n,.int .i64 c] ids | false=>none
  | _=>none
 | .same=>none
def encL(m:Nat):List Kd->List PS->List Nat->(List V->List Nat->Option ρ)->Option ρ
 | [],[],ids,K=>K [] ids
 | kd::r,q::s,ids,K=>encS m kd q ids fun l ids=>encL m r s ids fun l' ids=>K (l++l') ids
 | _,_,_,_=>none
def encT(strict:Bool)(m:Nat)(p:PSt):List (Nat×Kd)->List Nat->(List V->List Nat->Option ρ)->Option ρ
 | [],ids,K=>K [] ids
 | (t,kd)::r,ids,K=>match getF p.tm t with
  | some (f,d)=>match kd with
   | .same=>match(!strict||f) && !d.hasOwn with
    | true=>encT strict m p r ids K
    | false=>none
   | kd=>match f with
    | true=>none
    | false=>match d with
     | .s q=>encS m kd q ids fun l ids=>encT strict m p r ids fun l' ids=>K (l++l') ids
     | .agg ps=>match kd with
      | .v=>match pureL' ps with | some x=>encT strict m p r ids fun l' ids=>K (.agg x::l') ids | none=>none
      | _=>none
  | none=>none
def encR(strict:Bool)(m:Nat):List RK->List Row->List Nat->(List V->List Nat->Option ρ)->Option ρ
 | [],[],ids,K=>K [] ids
 | [],_::_,ids,K=>match strict with | true=>K [] ids | false=>none
 | rk::r,⟨f,c⟩::s,ids,K=>match rk with
  | .same=>match(!strict||f) && !c.hasOwn with
   | true=>encR strict m r s ids K
   | false=>none
  | .dead=>match f with | true=>none | false=>encR strict m r s ids K
  | .box n=>match f with
   | true=>none
   | false=>match c with
    | .box n' x=>match Nat.beq n n' with | true=>encR strict m r s ids fun l ids=>K (x::l) ids | false=>none
    | .cells ps=>match Nat.beq n ps.length&&Nat.blt 1 n with
     | true=>match pureL' ps with | some l=>encR strict m r s ids fun l' ids=>K (.agg l::l') ids | none=>none
     | false=>none
    | _=>none
  | .cells kds=>match f with
   | true=>none
   | false=>match c with
    | .cells ps=>encL m kds ps ids fun l ids=>encR strict m r s ids fun l' ids=>K (l++l') ids
    | .box n x=>cellsFrom x 0 n fun ps=>encL m kds ps ids fun l ids=>encR strict m r s ids fun l' ids=>K (l++l') ids
    | _=>none
  | .arr fz sz=>match f with
   | true=>none
   | false=>match c with
    | .arr fz' sz' xs=>match Nat.beq sz sz'&&eqFz fz fz' with | true=>encR strict m r s ids fun l ids=>K (.sl xs::l) ids | false=>none
    | _=>none
  | .iter=>match f with
   | true=>none
   | false=>match c with
    | .iter x n=>encR strict m r s ids fun l ids=>K (.str x :: .int .i64 (n:Int)::l) ids
    | _=>none
  | .bld t e=>match f with
   | true=>none
   | false=>match c with
    | .bld t' e' x=>match Nat.beq t t'&&Nat.beq e e' with | true=>encR strict m r s ids fun l ids=>K (.str x::l) ids | false=>none
    | _=>none
 | _::_,[],_,_=>none
def encK(strict:Bool)(sh:Sh)(p:PSt)(K:(Nat->V)->Option ρ):Option ρ:=
 encT strict sh.rows.length p sh.slots [] fun l ids=>encR strict sh.rows.length sh.rows p.rows ids fun l' _=>K (vec (l++l'))
end
def decS(kd:Kd)(v:Nat->V)(i ni:Nat):PS×Nat×Nat:=
 match kd with
 | .v=>(.v (v i),i+1,ni)
 | .own sz=>(.own ni sz (v i).elems,i+1,ni+1)
 | .ptr k off=>(.ptr k off,i,ni)
 | .ref k sz z=>(.ref k sz (natV (v i)) (natV (v (i+1))) (natV (v (i+2))) z,i+3,ni)
 | .same=>(.v .nilp,i,ni)
def decL(v:Nat->V)(i ni:Nat):List Kd->List PS×Nat×Nat
 | []=>([],i,ni)
 | kd::r=>((decS kd v i ni).1::(decL v (decS kd v i ni).2.1 (decS kd v i ni).2.2 r).1,(decL v (decS kd v i ni).2.1 (decS kd v i ni).2.2 r).2)
def decT(head:Bool)(p:PSt)(v:Nat->V)(i ni:Nat):List (Nat×Kd)->Option (PTm×Nat×Nat)
 | []=>some ([],i,ni)
 | (t,.same)::r=>match getF p.tm t with
  | some (f,d)=>match decT head p v i ni r with | some (l,q)=>some ((t,head||f,d)::l,q) | none=>none
  | none=>none
 | (t,kd)::r=>match decT head p v (decS kd v i ni).2.1 (decS kd v i ni).2.2 r with | some (l,q)=>some ((t,false,.s (decS kd v i ni).1)::l,q) | none=>none
def decR(head:Bool)(v:Nat->V)(i ni:Nat):List RK->List Row->Option (List Row×Nat×Nat)
 | [],[]=>some ([],i,ni)
 | rk::r,⟨f,c⟩::s=>match rk with
  | .same=>match decR head v i ni r s with | some (l,q)=>some (⟨head||f,c⟩::l,q) | none=>none
  | .dead=>match decR head v i ni r s with | some (l,q)=>some (⟨false,.dead⟩::l,q) | none=>none
  | .box n=>match decR head v (i+1) ni r s with | some (l,q)=>some (⟨false,.box n (v i)⟩::l,q) | none=>none
  | .cells kds=>match decR head v (decL v i ni kds).2.1 (decL v i ni kds).2.2 r s with | some (l,q)=>some (⟨false,.cells (decL v i ni kds).1⟩::l,q) | none=>none
  | .arr fz sz=>match decR head v (i+1) ni r s with | some (l,q)=>some (⟨false,.arr fz sz (v i).elems⟩::l,q) | none=>none
  | .iter=>match decR head v (i+2) ni r s with | some (l,q)=>some (⟨false,.iter (txtV (v i)) (natV (v (i+1)))⟩::l,q) | none=>none
  | .bld t e=>match decR head v (i+1) ni r s with | some (l,q)=>some (⟨false,.bld t e (txtV (v i))⟩::l,q) | none=>none
 | _,_=>none
def dec(head:Bool)(sh:Sh)(p:PSt)(v:Nat->V):Option PSt:=
 match decT head p v 0 0 sh.slots with
 | some (tm,i,ni)=>match decR head v i ni sh.rows p.rows with
  | some (rows,_,ni)=>some ⟨tm,rows,ni,p.lim⟩
  | none=>none
 | none=>none
def loopM{α β:Type}(f:α->Option (α ⊕ β)):Nat->α->Option β
 | 0,_=>none
 | n+1,a=>match f a with
  | some (.inl a')=>loopM f n a'
  | some (.inr b)=>some b
  | none=>none
def loopL{α β:Type}(f:α->Option (α ⊕ β))(a:α):Option β:=open Classical in
 if h : ∃ n b,loopM f n a=some b then some h.choose_spec.choose else none
def PS.sealOf:PS->PS
 | .own _ _ xs => .v (.sl xs)
 | q=>q
def sealL:List PS->List PS
 | []=>[]
 | q::r=>q.sealOf::sealL r
def PD.sealOf:PD->PD
 | .s q => .s q.sealOf
 | .agg ps => .agg (sealL ps)
def sealT:PTm->PTm
 | []=>[]
 | (i,f,d)::r=>(i,f,d.sealOf)::sealT r
def sealR:List Row->List Row
 | []=>[]
 | ⟨_,.cells ps⟩::r=>⟨true,.cells (sealL ps)⟩::sealR r
 | ⟨_,c⟩::r=>⟨true,c⟩::sealR r
def RowC.sealC:RowC->RowC
 | .cells ps => .cells (sealL ps)
 | c=>c
def hold(p:PSt)(k:Nat):Option PSt:=match p.rows[k]? with | some ⟨false,c⟩=>some { p with rows:=p.rows.set k ⟨true,c.sealC⟩ } | _=>none
def unhold(p:PSt)(k:Nat):PSt:=match p.rows[k]? with | some ⟨_,c⟩=>{ p with rows:=p.rows.set k ⟨false,c⟩ } | none=>p
def flatO:PO->Bool
 | .nil=>true
 | .one o r=>(match o.gd with | none=>true | some _=>false)&&flatO r
 | _=>false
def PSt.sealOf(p:PSt):PSt:=⟨sealT p.tm,sealR p.rows,p.ni,p.lim⟩
def dstsP:PO->List Nat
 | .nil=>[]
 | .one o r=>(match o.dst with | some t=>[t] | none=>[])++dstsP r
 | .box _ dst _ r=>dst::dstsP r
 | .grp _ _ ops dst _ _ r=>dstsP ops++dst::dstsP r
def freshD(tm:PTm):List Nat->Bool
 | []=>true
 | t::r=>(match getF tm t with | some _=>false | none=>true)&&freshD tm r
def nestO(W:List Nat):PO->Bool
 | .nil=>true
 | .one o r=>(match o.gd with | none=>true | some _=>false)&&nestO ((match o.dst with | some t=>[t] | none=>[])++W) r
 | .box _ dst _ r=>nestO (dst::W) r
 | .grp c _ ops dst _ _ r=>hasB W c&&nestO [] ops&&nestO (dst::W) r
def setP(p:PSt)(dst:Option Nat)(r:Option PD):Option PSt:=
 match dst with
 | none=>some p
 | some t=>match r with
  | some d=>match putP p.tm t d with | some tm=>some { p with tm:=tm } | none=>none
  | none=>match delP p.tm t with | some tm=>some { p with tm:=tm } | none=>none
def still(md:Nat->Md):O->Bool
 | .call f _=>match md f with | .raw _=>false | _=>true
 | .alloc _ | .box _ | .store _ _ _ | .mks _ _ _ _ | .cpy _ _ _ | .nbl _ _ | .apr _ _ _ | .rng _ | .nxt _ | .pan _=>false
 | _=>true
def stillL(md:Nat->Md):PO->Bool
 | .nil=>true
 | .one o r=>still md o.op&&stillL md r
 | .box _ _ _ _=>false
 | .grp _ _ ops _ _ _ r=>stillL md ops&&stillL md r
def quiet:O->Bool
 | .alloc _ | .box _ | .store _ _ _ | .mks _ _ _ _ | .app _ _ _ _ | .apz _ _ _ _ | .cpy _ _ _ | .nbl _ _ | .apr _ _ _ | .rng _ | .nxt _ | .pan _ | .call _ _ | .callv _ _=>false
 | _=>true
def plainS:PS->Bool
 | .v _ | .own _ _ _ | .full _=>true
 | _=>false
def plainPS:List PS->Bool
 | []=>true
 | q::r=>plainS q&&plainPS r
def plainL:List PD->Bool
 | []=>true
 | .s q::r=>plainS q&&plainL r
 | .agg ps::r=>plainPS ps&&plainL r
def qOk(gl:Gl)(p:PSt):O->Bool
 | .app _ _ s _=>match evH gl p s with | some (.s q)=>(match q with | .own _ _ _=>true | .full _=>true | _=>false) | _=>false
 | .apz _ _ s _=>match evH gl p s with | some (.s q)=>(match q with | .own _ _ _=>true | .full _=>true | _=>false) | _=>false
 | .call f xs=>match gl.md f with | .pl=>(match evHL gl p xs with | some ds=>plainL ds | none=>false) | _=>false
 | o=>quiet o
def cellsK1{ρ:Type}(n:Nat)(d:PD)(K:RowC->Option ρ):Option ρ:=
 match Nat.blt 1 n with
 | true=>match d with
  | .s (.v x)=>tst (okN n x) (K (.box n x))
  | d=>cellsK n d fun cs=>K (.cells cs)
 | false=>cellsK n d fun cs=>K (.cells cs)
section
variable {ρ:Type} (gl:Gl) (pc:PcT)
def pone(o:OpC)(p:PSt)(K:PSt->Option ρ):Option ρ:=
 match o.gd with
 | none=>popK gl pc p o.op fun r p'=>match setP p' o.dst r with | some p''=>K p'' | none=>none
 | some (t,b)=>match evV gl p (.s t)with
  | some c=>(asBool c).bind fun c=>if c=b then(popK gl pc p o.op fun r p'=>match setP p' o.dst r with | some p''=>K p'' | none=>none)
   else(match setP p o.dst none with | some p''=>K p'' | none=>none)
  | none=>none
def prunK:{ρ:Type}->PO->PSt->(PSt->Option ρ)->Option ρ
 | _,.nil,p,K=>K p
 | _,.one o r,p,K=>pone gl pc o p fun p'=>prunK r p' K
 | _,.box n dst x r,p,K=>match evH gl p x with
  | some d=>cellsK1 n d (fun c=>match setP (p.newR c) (some dst) (some (.s (.ptr p.rows.length 0)))with | some p'=>prunK r p' K | none=>none)
  | none=>none
 | _,.grp c w ops dst a b r,p,K=>match evV gl p (.s c)with
  | some c=>match evH gl p b with
   | some b=>match b.pureV with
    | some b=>match freshD p.tm (dstsP ops)&&nestO [] ops with
     | true=>(asBool c).bind fun c=>
      ((if c=w then prunK ops p.sealOf fun p'=>match evH gl p' a with | some d=>d.pureV | none=>none else some b):Option V).bind fun x=>
      match setP p (some dst) (some (.s (.v x)))with | some p'=>prunK r p' K | none=>none
     | false=>none
    | none=>none
   | none=>none
  | none=>none
def prunA:{ρ:Type}->PO->PSt->(PSt->Option ρ)->Option ρ
 | _,.nil,p,K=>K p
 | _,.one o r,p,K=>match o.gd with
  | none=>match qOk gl p o.op with
   | true=>pone gl pc o p fun p'=>prunA r p' K
   | false=>none
  | some _=>none
 | _,_,_,_=>none
def findX:List (PEx×Sh)->PEx->Nat->Option (Nat×Sh)
 | [],_,_=>none
 | (.nrm,sh)::r,x,j=>match x with | .nrm=>some (j,sh) | x=>findX r x (j+1)
 | (.ret,sh)::r,x,j=>match x with | .ret=>some (j,sh) | x=>findX r x (j+1)
 | (.ext i,sh)::r,x,j=>match x with
  | .ext i'=>match Nat.beq i i' with | true=>some (j,sh) | false=>findX r (.ext i') (j+1)
  | x=>findX r x (j+1)
def dspK(p:PSt)(v:Nat->V)(K:PEx->PSt->Option ρ):List (PEx×Sh)->Nat->Option ρ
 | [],_=>none
 | [(x,sh)],_=>match dec false sh p v with | some p'=>K x p' | none=>none
 | (x,sh)::r,j=>if j=0 then(match dec false sh p v with | some p'=>K x p' | none=>none)else dspK p v K r (j-1)
def pexecK:{ρ:Type}->PC->PSt->(PEx->PSt->Option ρ)->Option ρ
 | _,.skip,p,K=>K .nrm p
 | _,.reg ops keep,p,K=>prunK gl pc ops p fun p'=>K .nrm { p' with tm:=keptP keep p'.tm }
 | _,.drw a0 a1 b keep,p,K=>prunK gl pc a0 p fun p0=>match stillL gl.md a1 with
  | true=>prunK gl pc a1 { p0 with rows:=sealR p0.rows,lim:=p0.ni } fun p1=>prunK gl pc b { p1 with rows:=p0.rows,lim:=p0.lim } fun p'=>K .nrm { p' with tm:=keptP keep p'.tm }
  | false=>none
 | _,.drq a0 a1 b keep,p,K=>prunK gl pc a0 p fun p0=>prunA gl pc a1 p0 fun p1=>prunK gl pc b p1 fun p'=>K .nrm { p' with tm:=keptP keep p'.tm }
 | _,.drf a0 t ag sz a k b1 b keep,p,K=>prunK gl pc a0 p fun p0=>pone gl pc ⟨some t,.load ag sz (.s a),none⟩ p0 fun p1=>match getP p1.tm a with
  | some (.s (.ptr k' _))=>match Nat.beq k k' && !Nat.beq t a && !hasB (dstsP b1) t && !hasB (dstsP b1) a&&flatO b1 with
   | true=>match hold p1 k with
    | some p2=>prunK gl pc b1 p2 fun p3=>prunK gl pc b (unhold p3 k) fun p'=>K .nrm { p' with tm:=keptP keep p'.tm }
    | none=>none
   | false=>none
  | _=>none
 | _,.seq a b,p,K=>pexecK a p fun x p'=>match x with | .nrm=>pexecK b p' K | .ext i=>K (.ext i) p' | .ret=>K .ret p'
 | _,.cond c a b,p,K=>match evV gl p c with
  | some c=>(asBool c).bind fun c=>if c=true then pexecK a p K else pexecK b p K
  | none=>none
 | _,.blk id c,p,K=>pexecK c p fun x p'=>match x with
  | .nrm=>K .nrm p'
  | .ext i=>match Nat.beq i id with | true=>K .nrm p' | false=>K (.ext i) p'
  | .ret=>K .ret p'
 | _,.loop h xs c,p,K=>encK false h p fun v0=>
  (loopL (fun v:Nat->V=>match dec true h p v with
   | some pv=>pexecK c pv fun x p'=>match x with
    | .nrm=>encK true h p' fun v'=>some (.inl v')
    | .ext i=>match findX xs (.ext i) 0 with | some (j,sh)=>encK true sh p' fun v'=>some (.inr (j,v')) | none=>none
    | .ret=>match findX xs .ret 0 with | some (j,sh)=>encK true sh p' fun v'=>some (.inr (j,v')) | none=>none
   | none=>none) v0).bind fun o:Nat×(Nat->V)=>dspK p o.2 K xs o.1
 | _,.cut h xs c,p,K=>encK false h p fun v0=>match dec true h p v0 with
  | some pv=>(pexecK c pv fun x p'=>match findX xs x 0 with | some (j,sh)=>encK true sh p' fun v'=>some (j,v') | none=>none).bind fun o:Nat×(Nat->V)=>dspK p o.2 K xs o.1
  | none=>none
 | _,.exit id,p,K=>K (.ext id) p
 | _,.ret,p,K=>K .ret p
end
def argD:PA->PD
 | .v x => .s (.v x)
 | .p j off => .s (.ptr j off)
 | .fn f cap => .s (.fn f cap)
 | .o sz xs => .s (.own 0 sz xs)
 | .g => .s (.v .nilp)
 | .u => .s (.v .nilp)
def argsT(i:Nat):List PA->PTm
 | []=>[]
 | a::r=>(i,false,argD a)::argsT (i+1) r
def parsR:List (Bool×Nat×V)->List Row
 | []=>[]
 | (ro,n,x)::r=>⟨ro,parC n x⟩::parsR r
def enterP(as:List PA)(pars:List (Bool×Nat×V)):PSt:=⟨argsT 0 as,parsR pars,1,0⟩
def resK{ρ:Type}(p:PSt):List R->(List V->Option ρ)->Option ρ
 | [],K=>K []
 | .tmp t::r,K=>match getP p.tm t with
  | some d=>match d.outV p with | some x=>resK p r fun l=>K (x::l) | none=>none
  | none=>none
 | .cell t ag sz::r,K=>match getP p.tm t with
  | some a=>loadK p ag sz a fun d=>match d.outV p with | some x=>resK p r fun l=>K (x::l) | none=>none
  | none=>none
def oneV:List V->V
 | [x]=>x
 | l => .tup l
def parsOut(p:PSt):Nat->List (Bool×Nat×V)->Option (List V)
 | _,[]=>some []
 | j,(_,n,_)::r=>match rowR p j with
  | some c=>match rowV c with
   | some (n',x)=>match Nat.beq n' n with
    | true=>match parsOut p (j+1) r with | some l=>some (x::l) | none=>none
    | false=>none
   | none=>none
  | none=>none
def finK(res:List R)(pars:List (Bool×Nat×V))(x:PEx)(p:PSt):Option (V×List V):=
 match x with
 | .ext _=>none
 | _=>match parsOut p 0 pars with
  | some ys=>resK p res fun l=>some (oneV l,ys)
  | none=>none
def finP(pn:Bool)(res:List R)(pars:List (Bool×Nat×V))(x:PEx)(p:PSt):Option (V×List V):=
 match pn with
 | false=>finK res pars x p
 | true=>match x with
  | .ext i=>match Nat.beq i panN with
   | true=>match parsOut p 0 pars with
    | some ys=>resK p [.tmp panN] fun l=>some (.tup [.bool false,oneV l],ys)
    | none=>none
   | false=>none
  | _=>match parsOut p 0 pars with
   | some ys=>resK p res fun l=>some (.tup [.bool true,oneV l],ys)
   | none=>none
def finG(sz:Nat)(res:List R)(x:PEx)(p:PSt):Option (V×List V):=
 match x with
 | .ext _=>none
 | _=>match res with
  | [.tmp t]=>match getP p.tm t with
   | some (.s (.own _ sz' xs))=>match Nat.beq sz sz' with | true=>some (.sl xs,[]) | false=>none
   | some (.s (.full xs))=>tst (szOk sz xs) (some (.sl xs,[]))
   | _=>none
  | _=>none
def finW(res:List R)(x:PEx)(p:PSt):Option (V×List V):=
 match x with
 | .ext _=>none
 | _=>match res with
  | [.tmp t]=>match getP p.tm t with
   | some d=>match d.pureV with | some y=>some (y,[]) | none=>none
   | none=>none
  | _=>none
def bodyK(gl:Gl)(pc:PcT)(fn:PFn)(md:Md)(as:List PA)(pars:List (Bool×Nat×V)):Option (V×List V):=
 match md with
 | .pl=>pexecK gl pc fn.body (enterP as pars) (finP fn.pn fn.res pars)
 | .gv sz=>match as with
  | .g::as=>match pars with | []=>pexecK gl pc fn.body (enterP as []) (finG sz fn.res) | _=>none
  | _=>none
 | .raw sz=>match as with
  | .o sz' xs::as=>match pars with
   | []=>match Nat.beq sz sz' with | true=>pexecK gl pc fn.body (enterP (.o sz' xs::as) []) (finW fn.res) | false=>none
   | _=>none
  | _=>none
 | .ful=>none
 | .gvf _=>none
 | .eff _=>none
def valsA:List PA->Option (List V)
 | []=>some []
 | .v x::r=>match valsA r with | some l=>some (x::l) | none=>none
 | _=>none
def extK(g:List V->Option V)(as:List PA)(pars:List (Bool×Nat×V)):Option (V×List V):=
 match pars with
 | []=>match valsA as with | some xs=>(g xs).bind fun y=>some (y,[]) | none=>none
 | _=>none
def tellK(g:List V->Option V)(md:Md)(as:List PA)(pars:List (Bool×Nat×V)):Option (V×List V):=
 match md with
 | .pl=>extK g as pars
 | .gv _=>none
 | .gvf _=>match as with
  | .g::as=>(extK g as pars).bind fun q=>match q.1 with | .sl []=>some q | _=>none
  | _=>none
 | .ful=>match as with
  | .u::as=>extK g as pars
  | _=>none
 | .raw _=>none
 | .eff _=>none
def pcN(gl:Gl)(tab:Nat->Nat->Option PFn):Nat->PcT
 | 0=>fun _ _ _=>none
 | n+1=>fun f as pars=>match tab f pars.length with
  | some fn=>bodyK gl (pcN gl tab n) fn (gl.md f) as pars
  | none=>match gl.tx f with
   | some g=>tellK g (gl.md f) as pars
   | none=>none
def pcL(gl:Gl)(tab:Nat->Nat->Option PFn):PcT:=fun f as pars=>open Classical in
 if h : ∃ n r,pcN gl tab n f as pars=some r then some h.choose_spec.choose else none
inductive Hi where
 | n | l (a:Hi) | b (a c:Hi) | s (k:Nat) (a:Hi) | c (h:Sh) (xs:List (PEx×Sh)) (a:Hi) | o (h:Sh) (xs:List (PEx×Sh)) (a:Hi) | q | f (k:Nat)
def Hi.lf:Hi->Hi
 | .l x=>x
 | .b x _=>x
 | _ => .n
def Hi.rt:Hi->Hi
 | .b _ x=>x
 | .s k x=>(match k with | 0=>x | k+1 => .s k x)
 | _ => .n
def Hi.tl:Hi->Hi
 | .c _ _ x=>x
 | h=>h
def Hi.cut(h:Hi)(p:PC):PC:=match h with | .c sh xs _ => .cut sh xs p | _=>p
def gEq:Option (Nat×Bool)->Option (Nat×Bool)->Bool
 | none,none=>true
 | some (i,a),some (j,b)=>Nat.beq i j&&(a==b)
 | _,_=>false
def bxn:List (Nat×Nat)->Nat->Nat
 | [],_=>0
 | (i,n)::r,t=>match Nat.beq i t with | true=>n | false=>bxn r t
def po1(bx:List (Nat×Nat))(o:OpC)(r:PO):PO:=match o.gd with
 | some _ => .one o r
 | none=>match o.dst with
  | some d=>(match o.op with | .box x => .box (bxn bx d) d x r | _ => .one o r)
  | none => .one o r
def picks(c:Nat)(o:O):Option (X×X):=match o with
 | .pick (.s t) a b=>match Nat.beq t c with | true=>some (a,b) | false=>none
 | _=>none
def lev(bx:List (Nat×Nat)):Nat->Option (Nat×Bool)->List OpC->Option (PO×List OpC)
 | 0,_,_=>none
 | _+1,g,[]=>match g with | none=>some (.nil,[]) | some _=>none
 | n+1,g,o::r=>match gEq o.gd g with
  | true=>(lev bx n g r).map fun q=>(po1 bx ⟨o.dst,o.op,none⟩ q.1,q.2)
  | false=>match(match g with | some c=>(picks c.1 o.op).isSome | none=>false)with
   | true=>some (.nil,o::r)
   | false=>match o.gd with
    | none=>none
    | some c=>(lev bx n (some c) (o::r)).bind fun q=>match q.2 with
     | p::r2=>match gEq p.gd g with
      | true=>match picks c.1 p.op with
       | some ab=>match p.dst with
        | some d=>(lev bx n g r2).map fun q2=>(match c.2 with | true => .grp c.1 true q.1 d ab.1 ab.2 q2.1 | false => .grp c.1 false q.1 d ab.2 ab.1 q2.1,q2.2)
        | none=>none
       | none=>none
      | false=>none
     | []=>none
def ones(bx:List (Nat×Nat)):List OpC->PO
 | [] => .nil
 | o::r=>po1 bx o (ones bx r)
def grpO(bx:List (Nat×Nat))(l:List OpC):PO:=match lev bx (3*l.length+3) none l with | some q=>q.1 | none=>ones bx l
def ann(bx:List (Nat×Nat)):C->Hi->PC
 | .skip,h=>h.cut .skip
 | .reg ops kp,h=>h.cut (.reg (grpO bx ops) kp)
 | .drw a0 a1 b1 b kp,h=>h.cut (match h.tl with
  | .q => .drq (grpO bx a0) (grpO bx a1) (grpO bx b) kp
  | .f k=>match a1 with
   | [⟨some t,.load ag sz (.s a),none⟩] => .drf (grpO bx a0) t ag sz a k (ones bx b1) (grpO bx b) kp
   | _ => .skip
  | _ => .drw (grpO bx a0) (grpO bx a1) (grpO bx b) kp)
 | .seq a b,h=>h.cut (.seq (ann bx a h.tl.lf) (ann bx b h.tl.rt))
 | .cond c a b,h=>h.cut (.cond c (ann bx a h.tl.lf) (ann bx b h.tl.rt))
 | .blk id c,h=>h.cut (.blk id (ann bx c h.tl.lf))
 | .loop c,h=>h.cut (match h.tl with | .o s xs a => .loop s xs (ann bx c a) | _ => .loop ⟨[],[]⟩ [] (ann bx c .n))
 | .exit id,h=>h.cut (.exit id)
 | .ret,h=>h.cut .ret
def kl(l:List (List Nat))(i:Nat):List Nat:=(l[i]?).getD []
def kd:List (Nat×List Nat×List Nat×List Nat×List Nat)->Nat->List Nat×List Nat×List Nat×List Nat
 | [],_=>([],[],[],[])
 | (j,x)::r,i=>match Nat.beq i j with | true=>x | false=>kd r i
def cd(P:Program)(g:Func)(kp:Nat->List Nat)(dp:Nat->List Nat×List Nat×List Nat×List Nat):C:=(g.body.bind (trC (tiOf P) g.ntmps kp dp)).getD .skip
def nf(np:Nat)(p:PFn):Fn:=⟨np,p.res,false,false,erase p.body⟩
theorem pl1{P:Program}{ti:Ti}{f:Nat}{fn:Fn}{g:Func}(kp:Nat->List Nat)(dp:Nat->List Nat×List Nat×List Nat×List Nat)(h:P.funcs[f]?=some g)
  (h2:(g.name == "runtime.NumGoroutine",g.body.bind (trC ti g.ntmps kp dp),trRes ti g.results.toList)=(false,some fn.body,some fn.res)):Plain P ti f fn:=by
 obtain⟨h3,h4⟩:=Prod.mk.inj h2;obtain⟨h4,h5⟩:=Prod.mk.inj h4;obtain⟨c,hc,h6⟩:=Option.bind_eq_some_iff.1 h4;exact⟨g,c,kp,dp,h,h3,hc,h6,h5⟩
end
section
theorem cells_cl0(d:D):cl0L d.cells=d.cl0.cells:=by cases d<;>simp[D.cells,D.cl0,cl0L]
theorem toD_cells(x:V):x.toD.cells=toDL x.parts:=by cases x<;>simp[V.toD,D.cells,V.parts,toDL]
theorem oneCell_cl0{d:D}(h:d.cl0.oneCell=true):d.oneCell=true:=by cases d<;>simp_all [D.cl0,D.oneCell]
theorem one_toD{x:V}(h:x.one=true):x.toD.oneCell=true:=by cases x<;>simp_all [V.one,V.toD,D.oneCell]
theorem allOne_of{ds:List D}{xs:List V}(h:cl0L ds=toDL xs)(hx:allOneV xs=true):allOne ds=true:=by
 induction ds generalizing xs with
 | nil=>rfl
 | cons d r ih=>
  cases xs with
  | nil=>simp[cl0L,toDL]at h
  | cons x s=>simp only[cl0L,toDL,List.cons.injEq]at h;simp only[allOneV,zG]at hx;simp only[allOne,zG];exact⟨oneCell_cl0 (by rw[h.1];exact one_toD hx.1),ih h.2 hx.2⟩
theorem toDL_len(xs:List V):(toDL xs).length=xs.length:=by induction xs<;>simp_all [toDL]
theorem toDL_get(xs:List V)(i:Nat):(toDL xs)[i]?=(xs[i]?).map V.toD:=by
 induction xs generalizing i with
 | nil=>simp[toDL]
 | cons x r ih=>cases i<;>simp_all [toDL]
theorem toDL_append(xs ys:List V):toDL (xs++ys)=toDL xs++toDL ys:=by induction xs<;>simp_all [toDL]
theorem toDL_take(xs:List V)(i:Nat):(toDL xs).take i=toDL (xs.take i):=by
 induction xs generalizing i with
 | nil=>simp[toDL]
 | cons x r ih=>cases i<;>simp_all [toDL]
theorem toDL_drop(xs:List V)(i:Nat):(toDL xs).drop i=toDL (xs.drop i):=by
 induction xs generalizing i with
 | nil=>simp[toDL]
 | cons x r ih=>cases i<;>simp_all [toDL]
theorem cl0L_append(xs ys:List D):cl0L (xs++ys)=cl0L xs++cl0L ys:=by induction xs<;>simp_all [cl0L]
theorem cl0L_take(xs:List D)(i:Nat):cl0L (xs.take i)=(cl0L xs).take i:=by
 induction xs generalizing i with
 | nil=>simp[cl0L]
 | cons x r ih=>cases i<;>simp_all [cl0L]
theorem cl0L_drop(xs:List D)(i:Nat):cl0L (xs.drop i)=(cl0L xs).drop i:=by
 induction xs generalizing i with
 | nil=>simp[cl0L]
 | cons x r ih=>cases i<;>simp_all [cl0L]
theorem flatD_append(xs ys:List V):flatD (xs++ys)=flatD xs++flatD ys:=by induction xs<;>simp_all [flatD]
theorem szOk_append(sz:Nat)(xs ys:List V):szOk sz (xs++ys)=(szOk sz xs&&szOk sz ys):=by
 induction xs with
 | nil=>simp[szOk]
 | cons x r ih=>simp[szOk,ih,Bool.and_assoc]
theorem szOk_cons{sz:Nat}{x:V}{r:List V}:szOk sz (x::r)=true↔okN sz x=true/\szOk sz r=true:=by simp[szOk]
theorem szOk_take{sz:Nat}{xs:List V}(h:szOk sz xs=true)(i:Nat):szOk sz (xs.take i)=true:=by
 induction xs generalizing i with
 | nil=>simp[szOk]
 | cons x r ih=>cases i with
  | zero=>simp[szOk]
  | succ i=>rw[List.take_succ_cons];exact szOk_cons.2 ⟨(szOk_cons.1 h).1,ih (szOk_cons.1 h).2 i⟩
theorem szOk_drop{sz:Nat}{xs:List V}(h:szOk sz xs=true)(i:Nat):szOk sz (xs.drop i)=true:=by
 induction xs generalizing i with
 | nil=>simp[szOk]
 | cons x r ih=>cases i with
  | zero=>exact h
  | succ i=>rw[List.drop_succ_cons];exact ih (szOk_cons.1 h).2 i
theorem szOk_get{sz:Nat}{xs:List V}(h:szOk sz xs=true){i:Nat}{x:V}(hi:xs[i]?=some x):okN sz x=true:=by
 induction xs generalizing i with
 | nil=>simp at hi
 | cons y r ih=>cases i with
  | zero=>simp at hi;subst hi;exact(szOk_cons.1 h).1
  | succ i=>exact ih (szOk_cons.1 h).2 (by simpa using hi)
theorem szOk_set{sz:Nat}{xs:List V}(h:szOk sz xs=true){i:Nat}{x:V}(hx:okN sz x=true):szOk sz (xs.set i x)=true:=by
 induction xs generalizing i with
 | nil=>simp[szOk]
 | cons y r ih=>cases i with
  | zero=>exact szOk_cons.2 ⟨hx,(szOk_cons.1 h).2⟩
  | succ i=>exact szOk_cons.2 ⟨(szOk_cons.1 h).1,ih (szOk_cons.1 h).2⟩
theorem szOk_rep{sz n:Nat}{x:V}(hx:okN sz x=true):szOk sz (List.replicate n x)=true:=by
 induction n with
 | zero=>simp[szOk]
 | succ n ih=>rw[List.replicate_succ];exact szOk_cons.2 ⟨hx,ih⟩
theorem okN_len{n:Nat}{x:V}(h:okN n x=true):x.parts.length=n:=by simp only[okN,zG]at h;exact zJ h.1
theorem okN_one{n:Nat}{x:V}(h:okN n x=true):allOneV x.parts=true:=by simp only[okN,zG]at h;exact h.2
theorem okN_mk{n:Nat}{x:V}(h:x.parts.length=n)(k:allOneV x.parts=true):okN n x=true:=by simp only[okN,zG];exact⟨by rw[h];exact Nat.beq_refl n,k⟩
theorem flatD_len{sz:Nat}{xs:List V}(h:szOk sz xs=true):(flatD xs).length=xs.length*sz:=by
 induction xs with
 | nil=>simp[flatD]
 | cons x r ih=>simp only[flatD,zZ,zm];rw[ih (szOk_cons.1 h).2,toD_cells,toDL_len,okN_len (szOk_cons.1 h).1,zy,Nat.one_mul,Nat.add_comm]
theorem flatD_drop{sz:Nat}{xs:List V}(h:szOk sz xs=true)(i:Nat):(flatD xs).drop (i*sz)=flatD (xs.drop i):=by
 induction xs generalizing i with
 | nil=>simp[flatD]
 | cons x r ih=>cases i with
  | zero=>simp
  | succ i=>
   simp only[flatD,List.drop_succ_cons];have hl:(x.toD.cells).length=sz:=by rw[toD_cells,toDL_len,okN_len (szOk_cons.1 h).1]
   rw[show(i+1)*sz=sz+i*sz by rw[zy,Nat.one_mul,Nat.add_comm],<- List.drop_drop];rw[<- ih (szOk_cons.1 h).2,List.drop_left' hl]
theorem flatD_take{sz:Nat}{xs:List V}(h:szOk sz xs=true)(i:Nat):(flatD xs).take (i*sz)=flatD (xs.take i):=by
 induction xs generalizing i with
 | nil=>simp[flatD]
 | cons x r ih=>cases i with
  | zero=>simp[flatD]
  | succ i=>
   simp only[flatD,List.take_succ_cons];have hl:(x.toD.cells).length=sz:=by rw[toD_cells,toDL_len,okN_len (szOk_cons.1 h).1]
   rw[<- ih (szOk_cons.1 h).2,show(i+1)*sz=sz+i*sz by rw[zy,Nat.one_mul,Nat.add_comm]];rw[List.take_append,hl,zV (by omega)];congr 2;omega
theorem flatD_at{xs:List V}{i:Nat}{x:V}(h:xs[i]?=some x):flatD (xs.drop i)=toDL x.parts++flatD (xs.drop (i+1)):=by
 have hi:i<xs.length:=by
  rcases zj i xs.length with h' | h'
  ·exact h'
  ·rw[zu h']at h;simp at h
 rw[zO hi];have:xs[i]=x:=by rw[zL hi]at h;injection h
 rw[this];simp[flatD,toD_cells]
theorem flatD_rep(n:Nat)(x:V):flatD (List.replicate n x)=rep n (toDL x.parts):=by
 induction n with
 | zero=>simp[flatD,rep]
 | succ n ih=>simp[List.replicate_succ,flatD,ih,rep,toD_cells]
theorem flatD_bytes(l:List UInt8):flatD (ofBytesV l)=ofBytes l:=by
 induction l with
 | nil=>rfl
 | cons b r ih=>simp_all [ofBytesV,ofBytes,flatD,V.toD,D.cells]
theorem szOk_bytes(l:List UInt8):szOk 1 (ofBytesV l)=true:=by
 induction l with
 | nil=>rfl
 | cons b r ih=>exact szOk_cons.2 ⟨rfl,ih⟩
mutual
def D.noU:D->Bool
 | .und=>false
 | .sl _ _ xs=>noUL xs
 | .agg xs=>noUL xs
 | .tup xs=>noUL xs
 | .iface _ d=>d.noU
 | _=>true
def noUL:List D->Bool
 | []=>true
 | d::r=>d.noU&&noUL r
end
mutual
theorem cl_of_noU(m:Mem) : ∀ d:D,d.cl0.noU=true->d.cl m=d.cl0/\d.refs=[]
 | .und,h=>by simp[D.cl0,D.noU]at h
 | .off,_=>⟨rfl,rfl⟩
 | .bool _,_=>⟨rfl,rfl⟩
 | .int _ _,_=>⟨rfl,rfl⟩
 | .float _ _,_=>⟨rfl,rfl⟩
 | .str _,_=>⟨rfl,rfl⟩
 | .nilp,_=>⟨rfl,rfl⟩
 | .nilf,_=>⟨rfl,rfl⟩
 | .nili,_=>⟨rfl,rfl⟩
 | .sl g n xs,h=>by have:=clL_of_noU m xs (by simpa[D.cl0,D.noU]using h);simp[D.cl,D.cl0,D.refs,this.1,this.2]
 | .ref _ _ _ _ _,h=>by simp[D.cl0,D.noU]at h
 | .ptr _ _,_=>⟨rfl,rfl⟩
 | .el _,_=>⟨rfl,rfl⟩
 | .agg xs,h=>by have:=clL_of_noU m xs (by simpa[D.cl0,D.noU]using h);simp[D.cl,D.cl0,D.refs,this.1,this.2]
 | .tup xs,h=>by have:=clL_of_noU m xs (by simpa[D.cl0,D.noU]using h);simp[D.cl,D.cl0,D.refs,this.1,this.2]
 | .fn _ _,_=>⟨rfl,rfl⟩
 | .iface t d,h=>by have:=cl_of_noU m d (by simpa[D.cl0,D.noU]using h);simp[D.cl,D.cl0,D.refs,this.1,this.2]
theorem clL_of_noU(m:Mem) : ∀ l:List D,noUL (cl0L l)=true->clL m l=cl0L l/\refsL l=[]
 | [],_=>⟨rfl,rfl⟩
 | d::r,h=>by simp only[cl0L,noUL,zG]at h;have h1:=cl_of_noU m d h.1;have h2:=clL_of_noU m r h.2;simp[clL,cl0L,refsL,h1.1,h1.2,h2.1,h2.2]
end
theorem noUL_append(a b:List D):noUL (a++b)=(noUL a&&noUL b):=by
 induction a with
 | nil=>simp[noUL]
 | cons x r ih=>simp[noUL,ih,Bool.and_assoc]
theorem noU_cells{d:D}(h:d.noU=true):noUL d.cells=true:=by cases d<;>simp_all [D.cells,D.noU,noUL]
mutual
theorem toD_noU : ∀ x:V,x.toD.noU=true
 | .bool _=>rfl
 | .int _ _=>rfl
 | .float _ _=>rfl
 | .str _=>rfl
 | .nilp=>rfl
 | .nilf=>rfl
 | .nili=>rfl
 | .sl xs=>by simp only[V.toD,D.noU];exact flatD_noU xs
 | .agg xs=>by simp only[V.toD,D.noU];exact toDL_noU xs
 | .tup xs=>by simp only[V.toD,D.noU];exact toDL_noU xs
 | .fn _ _=>rfl
 | .iface _ x=>by simp only[V.toD,D.noU];exact toD_noU x
theorem toDL_noU : ∀ l:List V,noUL (toDL l)=true
 | []=>rfl
 | x::r=>by simp only[toDL,noUL,toD_noU x,toDL_noU r,Bool.and_self]
theorem flatD_noU : ∀ l:List V,noUL (flatD l)=true
 | []=>rfl
 | x::r=>by simp only[flatD,noUL_append,noU_cells (toD_noU x),flatD_noU r,Bool.and_self]
end
theorem cl_of{x:V}{d:D}(h:d.cl0=x.toD)(m:Mem):d.cl m=x.toD/\d.refs=[]:=by have:=cl_of_noU m d (by rw[h];exact toD_noU x);exact⟨this.1.trans h,this.2⟩
theorem clL_flat{xs:List V}{ds:List D}(h:cl0L ds=flatD xs)(m:Mem):clL m ds=flatD xs/\refsL ds=[]:=by have:=clL_of_noU m ds (by rw[h];exact flatD_noU xs);exact⟨this.1.trans h,this.2⟩
theorem clL_toDL{xs:List V}{ds:List D}(h:cl0L ds=toDL xs)(m:Mem):clL m ds=toDL xs/\refsL ds=[]:=by have:=clL_of_noU m ds (by rw[h];exact toDL_noU xs);exact⟨this.1.trans h,this.2⟩
mutual
theorem toD_cl0 : ∀ x:V,x.toD.cl0=x.toD
 | .bool _=>rfl
 | .int _ _=>rfl
 | .float _ _=>rfl
 | .str _=>rfl
 | .nilp=>rfl
 | .nilf=>rfl
 | .nili=>rfl
 | .sl xs=>by simp only[V.toD,D.cl0,flatD_cl0]
 | .agg xs=>by simp only[V.toD,D.cl0,toDL_cl0]
 | .tup xs=>by simp only[V.toD,D.cl0,toDL_cl0]
 | .fn _ _=>rfl
 | .iface _ x=>by simp only[V.toD,D.cl0,toD_cl0]
theorem toDL_cl0 : ∀ l:List V,cl0L (toDL l)=toDL l
 | []=>rfl
 | x::r=>by simp only[toDL,cl0L,toD_cl0 x,toDL_cl0 r]
theorem flatD_cl0 : ∀ l:List V,cl0L (flatD l)=flatD l
 | []=>rfl
 | x::r=>by simp only[flatD,cl0L_append,cells_cl0,toD_cl0 x,flatD_cl0 r]
end
def RC(ρ:Nat->Nat)(m:Nat):CP->D->Prop
 | .v x,d=>d.cl0=x.toD
 | .p k off,d=>k<m/\d = .ptr (ρ k) off
def RCL(ρ:Nat->Nat)(m:Nat):List CP->List D->Prop
 | [],[]=>True
 | q::r,d::s=>RC ρ m q d/\RCL ρ m r s
 | _,_=>False
def rkOf(rows:List Row)(k:Nat):Option (Nat×Nat):=match rows[k]? with | some ⟨_,.arr _ sz xs⟩=>some (sz,xs.length) | _=>none
structure Cx where
 ρ:Nat->Nat
 τ:Nat->Option Nat
 m:Nat
 rk:Nat->Option (Nat×Nat)
 tip:Nat->Option Nat
 ni:Nat
def RS(c:Cx):PS->D->Prop
 | .v x,d=>d.cl0=x.toD
 | .own id sz xs,d => ∃ g ds,d = .sl g xs.length ds/\cl0L ds=flatD xs/\szOk sz xs=true/\id<c.ni/\(g = .full \/ ∃ l,g = .ln l sz/\c.τ id=some l/\c.tip l=some xs.length)
 | .full xs,d => ∃ ds,d = .sl .full xs.length ds/\cl0L ds=flatD xs
 | .ptr k off,d=>k<c.m/\d = .ptr (c.ρ k) off
 | .ptrA k sz i off,d=>k<c.m/\d = .ptr (c.ρ k) (i*sz+off) /\ ∀ s n,c.rk k=some (s,n)->s=sz/\i<n
 | .ref k sz off n cp z,d=>k<c.m/\(n<=cp/\cp<rcap)/\(d = .ref (c.ρ k) (off*sz) n cp sz/\(z=false\/0<cp)\/cp=0/\d = .sl .full 0 []/\z=true) /\ ∀ s l,c.rk k=some (s,l)->s=sz/\off+cp<=l
 | .uref k sz n,d=>k<c.m/\(∃ cp,(rcap<=cp/\n<=cp)/\d = .ref (c.ρ k) 0 n cp sz) /\ ∀ s l,c.rk k=some (s,l)->s=sz/\n<=l
 | .el cs,d => ∃ ds,d = .el ds/\toDL cs <+: cl0L ds
 | .elx sz x off,d=>okN sz x=true /\ ∃ ds,d = .el ds/\(toDL x.parts).drop off <+: cl0L ds
 | .fn f cap,d => ∃ ds,d = .fn f ds/\RCL c.ρ c.m cap ds
def RSL(c:Cx):List PS->List D->Prop
 | [],[]=>True
 | q::r,d::s=>RS c q d/\RSL c r s
 | _,_=>False
def RP(c:Cx):PD->D->Prop
 | .s q,d=>RS c q d
 | .agg ps,d => ∃ ds,d = .agg ds/\RSL c ps ds/\allOne ds=true
def RO(c:Cx):Option PD->Option D->Prop
 | none,none=>True
 | some d,some e=>RP c d e
 | _,_=>False
def Fz.ok:Fz->Bool->Prop
 | .no,b=>b=false
 | .may,_=>True
 | .yes,b=>b=true
def RW(c:Cx):RowC->Ob->Prop
 | .box n x,o => ∃ ds,o = .row ds false/\cl0L ds=toDL x.parts/\okN n x=true
 | .cells ps,o => ∃ ds,o = .row ds false/\RSL c ps ds/\allOne ds=true
 | .arr fz sz xs,o => ∃ ds b,o = .row ds b/\fz.ok b/\cl0L ds=flatD xs/\szOk sz xs=true
 | .iter s pos,o=>o = .iter s pos
 | .bld t e s,o=>o = .bld t e s
 | .dead,_=>True
def cxOf(ρ:Nat->Nat)(τ:Nat->Option Nat)(p:PSt)(st:St):Cx:=⟨ρ,τ,p.rows.length,rkOf p.rows,st.tip,p.ni⟩
structure Sim(ρ:Nat->Nat)(τ:Nat->Option Nat)(p:PSt)(st:St):Prop where
 tm : ∀ t f d,getF p.tm t=some (f,d) -> ∃ e,get st.tm t=some e/\RP (cxOf ρ τ p st) d e
 nx : ∀ k,k<p.rows.length->ρ k<st.nx
 rows : ∀ k r,p.rows[k]?=some r -> ∃ o,(r.c = .dead\/st.mem (ρ k)=some o)/\RW (cxOf ρ τ p st) r.c o
 inj : ∀ j k,j<p.rows.length->k<p.rows.length->ρ j=ρ k->j=k
 lin : ∀ i l,τ i=some l->i<p.ni/\l<st.nx
 linj : ∀ i j l,τ i=some l->τ j=some l->i=j
theorem RSL_len{c:Cx}{ps:List PS}{ds:List D}(h:RSL c ps ds):ps.length=ds.length:=by
 induction ps generalizing ds with
 | nil=>cases ds with | nil=>rfl | cons d s=>exact h.elim
 | cons q r ih=>cases ds with | nil=>exact h.elim | cons d s=>simp[ih h.2]
theorem RSL_get{c:Cx}{ps:List PS}{ds:List D}(h:RSL c ps ds){i:Nat}{q:PS}(hi:ps[i]?=some q) : ∃ d,ds[i]?=some d/\RS c q d:=by
 induction ps generalizing ds i with
 | nil=>simp at hi
 | cons p r ih=>cases ds with
  | nil=>exact h.elim
  | cons d s=>cases i with
   | zero=>simp at hi;subst hi;exact⟨d,by simp,h.1⟩
   | succ i=>simpa using ih h.2 (by simpa using hi)
theorem RSL_take{c:Cx}{ps:List PS}{ds:List D}(h:RSL c ps ds)(n:Nat):RSL c (ps.take n) (ds.take n):=by
 induction ps generalizing ds n with
 | nil=>cases ds with | nil=>simpa using h | cons d s=>exact h.elim
 | cons p r ih=>cases ds with
  | nil=>exact h.elim
  | cons d s=>cases n with
   | zero=>simp[RSL]
   | succ n=>exact⟨h.1,ih h.2 n⟩
theorem RSL_drop{c:Cx}{ps:List PS}{ds:List D}(h:RSL c ps ds)(n:Nat):RSL c (ps.drop n) (ds.drop n):=by
 induction ps generalizing ds n with
 | nil=>cases ds with | nil=>simpa using h | cons d s=>exact h.elim
 | cons p r ih=>cases ds with
  | nil=>exact h.elim
  | cons d s=>cases n with
   | zero=>exact h
   | succ n=>exact ih h.2 n
theorem RSL_append{c:Cx}{ps qs:List PS}{ds es:List D}(h:RSL c ps ds)(k:RSL c qs es):RSL c (ps++qs) (ds++es):=by
 induction ps generalizing ds with
 | nil=>cases ds with | nil=>simpa using k | cons d s=>exact h.elim
 | cons p r ih=>cases ds with
  | nil=>exact h.elim
  | cons d s=>exact⟨h.1,ih h.2⟩
theorem RSL_set{c:Cx}{ps qs:List PS}{ds es:List D}(h:RSL c ps ds)(k:RSL c qs es)(o:Nat):RSL c (setL ps o qs) (setAt ds o es):=by unfold setL setAt;rw[RSL_len k];exact RSL_append (RSL_append (RSL_take h o) k) (RSL_drop h _)
theorem RSL_v{c:Cx}{xs:List V}{ds:List D}(h:cl0L ds=toDL xs):RSL c (xs.map PS.v) ds:=by
 induction xs generalizing ds with
 | nil=>cases ds with | nil=>trivial | cons d s=>simp[cl0L,toDL]at h
 | cons x r ih=>cases ds with
  | nil=>simp[cl0L,toDL]at h
  | cons d s=>simp only[cl0L,toDL,List.cons.injEq]at h;exact⟨h.1,ih h.2⟩
theorem allV_ok{c:Cx}{ps:List PS}{ds:List D}(h:RSL c ps ds){l:List V}(k:allV ps=some l):cl0L ds=toDL l:=by
 induction ps generalizing ds l with
 | nil=>cases ds with
  | nil=>simp[allV]at k;subst k;rfl
  | cons d s=>exact h.elim
 | cons p r ih=>cases ds with
  | nil=>exact h.elim
  | cons d s=>
   cases p<;>simp only[allV]at k<;>try contradiction
   split at k<;>simp at k;rename_i l' hl;subst k;simp only[cl0L,toDL,ih h.2 hl];rw[show d.cl0=_ from h.1]
theorem mkAgg_ok{c:Cx}{ps:List PS}{ds:List D}(h:RSL c ps ds)(h1:allOne ds=true):RP c (mkAgg ps) (.agg ds):=by
 unfold mkAgg;split
 ·next l hl=>show(D.agg ds).cl0=_;simp only[D.cl0,V.toD,allV_ok h hl]
 ·exact⟨ds,rfl,h,h1⟩
theorem PS.pure_ok{c:Cx}{q:PS}{d:D}(h:RS c q d){x:V}(k:q.pure=some x):d.cl0=x.toD:=by
 cases q;case fn f cap=>
  simp only[PS.pure]at k;split at k<;>try contradiction
  injection k with k;subst k;obtain⟨ds,rfl,hd⟩:=h;cases ds with
  | nil=>rfl
  | cons _ _=>exact hd.elim
 all_goals simp[PS.pure]at k
 all_goals subst k
 ·exact h
 ·obtain⟨g,ds,rfl,hd,_,_⟩:=h;simp[D.cl0,V.toD,hd]
 ·obtain⟨ds,rfl,hd⟩:=h;simp[D.cl0,V.toD,hd]
theorem pureL_ok{c:Cx}{ps:List PS}{ds:List D}(h:RSL c ps ds){l:List V}(k:pureL' ps=some l):cl0L ds=toDL l:=by
 induction ps generalizing ds l with
 | nil=>cases ds with
  | nil=>simp[pureL']at k;subst k;rfl
  | cons d s=>exact h.elim
 | cons p r ih=>cases ds with
  | nil=>exact h.elim
  | cons d s=>
   simp only[pureL']at k;split at k<;>try contradiction
   split at k<;>try contradiction
   next x hx _ l' hl=>injection k with k;subst k;simp only[cl0L,toDL,ih h.2 hl,PS.pure_ok h.1 hx]
theorem PD.pure_ok{c:Cx}{q:PD}{d:D}(h:RP c q d){x:V}(k:q.pureV=some x):d.cl0=x.toD:=by
 cases q with
 | s q=>exact PS.pure_ok h k
 | agg ps=>
  obtain⟨ds,rfl,hd,_⟩:=h;simp only[PD.pureV]at k;split at k<;>try contradiction
  next l hl=>injection k with k;subst k;simp only[D.cl0,V.toD,pureL_ok hd hl]
mutual
theorem ofD_ok : ∀ (d:D) (x:V),ofD d=some x->d.cl0=x.toD
 | .und,x,h=>by simp[ofD]at h
 | .off,x,h=>by simp[ofD]at h
 | .bool _,x,h=>by simp[ofD]at h;subst h;rfl
 | .int _ _,x,h=>by simp[ofD]at h;subst h;rfl
 | .float _ _,x,h=>by simp[ofD]at h;subst h;rfl
 | .str _,x,h=>by simp[ofD]at h;subst h;rfl
 | .nilp,x,h=>by simp[ofD]at h;subst h;rfl
 | .nilf,x,h=>by simp[ofD]at h;subst h;rfl
 | .nili,x,h=>by simp[ofD]at h;subst h;rfl
 | .sl _ _ _,x,h=>by simp[ofD]at h
 | .ref _ _ _ _ _,x,h=>by simp[ofD]at h
 | .ptr _ _,x,h=>by simp[ofD]at h
 | .el _,x,h=>by simp[ofD]at h
 | .agg ds,x,h=>by
  simp only[ofD]at h;split at h<;>try contradiction
  next l hl=>injection h with h;subst h;simp only[D.cl0,V.toD,ofDL_ok ds l hl]
 | .tup _,x,h=>by simp[ofD]at h
 | .fn f c,x,h=>by
  simp only[ofD]at h;split at h<;>try contradiction
  injection h with h;subst h;rfl
 | .iface t d,x,h=>by
  simp only[ofD]at h;split at h<;>try contradiction
  next y hy=>injection h with h;subst h;simp only[D.cl0,V.toD,ofD_ok d y hy]
theorem ofDL_ok : ∀ (l:List D) (xs:List V),ofDL l=some xs->cl0L l=toDL xs
 | [],xs,h=>by simp[ofDL]at h;subst h;rfl
 | d::r,xs,h=>by
  simp only[ofDL]at h;split at h<;>try contradiction
  split at h<;>try contradiction
  next x hx _ l hl=>injection h with h;subst h;simp only[cl0L,toDL,ofD_ok d x hx,ofDL_ok r l hl]
end
theorem constS_ok{c:Cx}{d:D}{q:PS}(h:constS d=some q):RS c q d:=by
 unfold constS at h;split at h
 ·injection h with h;subst h;exact⟨[],rfl,rfl⟩
 ·injection h with h;subst h;exact⟨[],rfl,trivial⟩
 ·split at h<;>try contradiction
  next x hx=>injection h with h;subst h;exact ofD_ok _ _ hx
theorem constL_ok{c:Cx}{ds:List D}{l:List PS}(h:constL ds=some l):RSL c l ds:=by
 induction ds generalizing l with
 | nil=>simp[constL]at h;subst h;trivial
 | cons d r ih=>
  simp only[constL]at h;split at h<;>try contradiction
  split at h<;>try contradiction
  next x hx _ l' hl=>injection h with h;subst h;exact⟨constS_ok hx,ih hl⟩
theorem constS_one{d:D}{q:PS}(h:constS d=some q)(k:q.oneP=true):d.oneCell=true:=by
 unfold constS at h;split at h
 ·rfl
 ·rfl
 ·split at h<;>try contradiction
  next x hx=>injection h with h;subst h;exact oneCell_cl0 (by rw[ofD_ok _ _ hx];exact one_toD k)
theorem constL_one{ds:List D}{l:List PS}(h:constL ds=some l)(k:allP l=true):allOne ds=true:=by
 induction ds generalizing l with
 | nil=>rfl
 | cons d r ih=>
  simp only[constL]at h;split at h<;>try contradiction
  split at h<;>try contradiction
  next x hx _ l' hl=>injection h with h;subst h;simp only[allP,zG]at k;simp only[allOne,zG];exact⟨constS_one hx k.1,ih hl k.2⟩
theorem constP_ok{c:Cx}{d:D}{q:PD}(h:constP d=some q):RP c q d:=by
 unfold constP at h;split at h
 ·split at h<;>try contradiction
  split at h<;>try contradiction
  next l hl _ h1=>injection h with h;subst h;exact mkAgg_ok (constL_ok hl) (constL_one hl h1)
 ·split at h<;>try contradiction
  next q hq=>injection h with h;subst h;exact constS_ok hq
def GlR(E:Env)(gl:Gl):Prop := ∀ n cs,gl.g n=some cs -> ∃ ds,E.gl n=some ds/\toDL cs <+: cl0L ds
theorem getF_getP(tm:PTm)(t:Nat):getP tm t=(getF tm t).map (·.2):=by
 induction tm with
 | nil=>rfl
 | cons e r ih=>
  obtain⟨i,f,d⟩:=e;simp only[getP,getF];cases i.beq t
  ·exact ih
  ·rfl
theorem evH_ok{E:Env}{gl:Gl}(hg:GlR E gl){ρ τ p st}(hS:Sim ρ τ p st){x:X}{d:PD}(h:evH gl p x=some d) : ∃ e,ev E st.tm x=some e/\RP (cxOf ρ τ p st) d e:=by
 cases x with
 | s t=>simp only[evH,getF_getP,zB]at h;obtain⟨⟨f,d'⟩,h1,rfl⟩:=h;obtain⟨e,he,hr⟩:=hS.tm t f d' h1;exact⟨e,he,hr⟩
 | k c=>exact⟨c,rfl,constP_ok h⟩
 | g n=>
  simp only[evH]at h;split at h<;>try contradiction
  next cs hc=>injection h with h;subst h;obtain⟨ds,h1,h2⟩:=hg n cs hc;exact⟨.el ds,by simp[ev,h1],ds,rfl,h2⟩
theorem evV_ok{E:Env}{gl:Gl}(hg:GlR E gl){ρ τ p st}(hS:Sim ρ τ p st){x:X}{v:V}(h:evV gl p x=some v) : ∃ e,ev E st.tm x=some e/\e.cl0=v.toD:=by
 unfold evV at h;split at h<;>try contradiction
 next y hy=>injection h with h;subst h;exact evH_ok hg hS hy
theorem evVL_ok{E:Env}{gl:Gl}(hg:GlR E gl){ρ τ p st}(hS:Sim ρ τ p st){xs:List X}{l:List V}(h:evVL gl p xs=some l) : ∃ es,evL E st.tm xs=some es/\cl0L es=toDL l:=by
 induction xs generalizing l with
 | nil=>simp[evVL]at h;subst h;exact⟨[],rfl,rfl⟩
 | cons x r ih=>
  simp only[evVL]at h;split at h<;>try contradiction
  split at h<;>try contradiction
  next v hv _ l' hl=>injection h with h;subst h;obtain⟨e,h1,h2⟩:=evV_ok hg hS hv;obtain⟨es,h3,h4⟩:=ih hl;exact⟨e::es,by simp[evL,h1,h3],by simp[cl0L,toDL,h2,h4]⟩
theorem evVO_ok{E:Env}{gl:Gl}(hg:GlR E gl){ρ τ p st}(hS:Sim ρ τ p st){x:Option X}{v:Option V}(h:evVO gl p x=some v) : ∃ e,evO E st.tm x=some e/\e.map D.cl0=v.map V.toD:=by
 cases x with
 | none=>simp[evVO]at h;subst h;exact⟨none,rfl,rfl⟩
 | some x=>
  simp only[evVO]at h;split at h<;>try contradiction
  next d hd=>injection h with h;subst h;obtain⟨e,h1,h2⟩:=evV_ok hg hS hd;exact⟨some e,by simp[evO,h1],by simp[h2]⟩
def RPL(c:Cx):List PD->List D->Prop
 | [],[]=>True
 | q::r,d::s=>RP c q d/\RPL c r s
 | _,_=>False
theorem evHL_ok{E:Env}{gl:Gl}(hg:GlR E gl){ρ τ p st}(hS:Sim ρ τ p st){xs:List X}{l:List PD}(h:evHL gl p xs=some l) : ∃ es,evL E st.tm xs=some es/\RPL (cxOf ρ τ p st) l es:=by
 induction xs generalizing l with
 | nil=>simp[evHL]at h;subst h;exact⟨[],rfl,trivial⟩
 | cons x r ih=>
  simp only[evHL]at h;split at h<;>try contradiction
  split at h<;>try contradiction
  next v hv _ l' hl=>injection h with h;subst h;obtain⟨e,h1,h2⟩:=evH_ok hg hS hv;obtain⟨es,h3,h4⟩:=ih hl;exact⟨e::es,by simp[evL,h1,h3],h2,h4⟩
end
section
theorem cl0_bool{d:D}{b:Bool}(h:d.cl0 = .bool b):d = .bool b:=by cases d<;>simp_all [D.cl0]
theorem cl0_int{d:D}{k:IntKind}{n:Int}(h:d.cl0 = .int k n):d = .int k n:=by cases d<;>simp_all [D.cl0]
theorem cl0_float{d:D}{k:FloatKind}{b:Nat}(h:d.cl0 = .float k b):d = .float k b:=by cases d<;>simp_all [D.cl0]
theorem cl0_str{d:D}{s:List UInt8}(h:d.cl0 = .str s):d = .str s:=by cases d<;>simp_all [D.cl0]
theorem cl0_fn{d:D}{f:Nat}{l:List D}(h:d.cl0 = .fn f l):d = .fn f l:=by cases d<;>simp_all [D.cl0]
theorem cl0_sl{d:D}{g:Tg}{n:Nat}{l:List D}(h:d.cl0 = .sl g n l) : ∃ g' l',d = .sl g' n l'/\cl0L l'=l:=by
 cases d;case sl g' n' l'=>simp only[D.cl0,D.sl.injEq]at h;exact⟨g',l',by rw[h.2.1],h.2.2⟩
 all_goals simp[D.cl0]at h
theorem cl0_agg{d:D}{l:List D}(h:d.cl0 = .agg l) : ∃ l',d = .agg l'/\cl0L l'=l:=by cases d<;>simp_all [D.cl0]
theorem cl0_tup{d:D}{l:List D}(h:d.cl0 = .tup l) : ∃ l',d = .tup l'/\cl0L l'=l:=by cases d<;>simp_all [D.cl0]
theorem cl0_get{ds:List D}{xs:List V}(h:cl0L ds=toDL xs){i:Nat}{x:V}(hi:xs[i]?=some x) : ∃ d,ds[i]?=some d/\d.cl0=x.toD:=by
 have h1:=congrArg (fun l:List D=>l[i]?) h;simp only[cl0L_get,toDL_get,hi,zC]at h1;cases hd:ds[i]? with
 | none=>rw[hd]at h1;simp at h1
 | some d=>rw[hd]at h1;exact⟨d,rfl,by simpa using h1⟩
theorem pre_get{ds:List D}{xs:List V}(h:toDL xs <+: cl0L ds){i:Nat}{x:V}(hi:xs[i]?=some x) : ∃ d,ds[i]?=some d/\d.cl0=x.toD:=by
 obtain⟨t,ht⟩:=h;have hl:i<xs.length:=by
  rcases zj i xs.length with h' | h'
  ·exact h'
  ·rw[zu h']at hi;simp at hi
 have h1:(cl0L ds)[i]?=some x.toD:=by rw[<- ht,zt (by rw[toDL_len];exact hl),toDL_get,hi];rfl
 rw[cl0L_get]at h1;cases hd:ds[i]? with
 | none=>rw[hd]at h1;simp at h1
 | some d=>rw[hd]at h1;exact⟨d,rfl,by simpa using h1⟩
theorem pre_take{ds:List D}{xs:List V}(h:toDL xs <+: cl0L ds){n:Nat}(hn:n<=xs.length):n<=ds.length/\cl0L (ds.take n)=toDL (xs.take n):=by
 obtain⟨t,ht⟩:=h;have hl:xs.length<=ds.length:=by have:=congrArg List.length ht;simp[toDL_len,cl0L_len]at this;omega
 refine⟨by omega,?_⟩;rw[cl0L_take,<- ht,List.take_append_of_le_length (by rw[toDL_len];exact hn),toDL_take]
theorem pre_drop{ds:List D}{ys:List D}(h:ys <+: cl0L ds)(n:Nat):ys.drop n <+: cl0L (ds.drop n):=by obtain⟨t,ht⟩:=h;rw[cl0L_drop,<- ht,List.drop_append];exact List.prefix_append _ _
theorem intV_toD(op:BinOp)(k:IntKind)(a b:Int):intD op k a b=(intV op k a b).map V.toD:=by cases op<;>simp only[intV,intD,zC,V.toD]<;>split<;>rfl
theorem strV_toD(op:BinOp)(a b:List UInt8):strD op a b=(strV op a b).map V.toD:=by cases op<;>simp only[strV,strD,zC,Option.map_none,V.toD];split<;>rfl
theorem binV_ok{op:BinOp}{x y z:V}{a b:D}(ha:a.cl0=x.toD)(hb:b.cl0=y.toD)(h:binV op x y=some z):binD op a b=some z.toD:=by
 unfold binV at h;split at h
 ·rw[cl0_int ha,cl0_int hb];simp only[binD];split at h
  ·next h1=>rw[zb h1,intV_toD,h];rfl
  ·contradiction
 ·rw[cl0_str ha,cl0_str hb];simp only[binD];rw[strV_toD,h];rfl
 ·rw[cl0_float ha,cl0_float hb];simp only[binD];split at h
  ·next h1=>
   rw[zb h1];rw[zB]at h;obtain⟨c,hc,rfl⟩:=h;rw[hc];rfl
  ·contradiction
 ·contradiction
theorem unV_ok{op:UnOp}{x z:V}{a:D}(ha:a.cl0=x.toD)(h:unV op x=some z):unD op a=some z.toD:=by
 unfold unV at h;split at h<;>try contradiction
 all_goals injection h with h;subst h
 ·rw[cl0_int ha];rfl
 ·rw[cl0_int ha];rfl
 ·rw[cl0_bool ha];rfl
theorem asBool_ok{x:V}{b:Bool}{d:D}(h:asBool x=some b)(hd:d.cl0=x.toD):d = .bool b:=by
 unfold asBool at h;split at h<;>try contradiction
 injection h with h;subst h;exact cl0_bool hd
theorem asStr_ok{x:V}{s:List UInt8}{d:D}(h:asStr x=some s)(hd:d.cl0=x.toD):d = .str s:=by
 unfold asStr at h;split at h<;>try contradiction
 injection h with h;subst h;exact cl0_str hd
theorem asSl_ok{sz:Nat}{x:V}{xs:List V}{d:D}(h:asSl sz x=some xs)(hd:d.cl0=x.toD):(∃ g ds,d = .sl g xs.length ds/\cl0L ds=flatD xs)/\szOk sz xs=true:=by
 unfold asSl at h;split at h<;>try contradiction
 split at h<;>try contradiction
 next hs=>injection h with h;subst h;obtain⟨g,l,rfl,hl⟩:=cl0_sl hd;exact⟨⟨g,l,rfl,hl⟩,hs⟩
theorem asFn_ok{x:V}{q:Nat×List V}{d:D}(h:asFn x=some q)(hd:d.cl0=x.toD):d = .fn q.1 (toDL q.2):=by
 unfold asFn at h;split at h<;>try contradiction
 injection h with h;subst h;exact cl0_fn hd
theorem fld_parts{x c:V}{i:Nat}(h:fldV x i=some c):x.parts[i]?=some c:=h
theorem asBytesV_ok{xs:List V}{s:List UInt8}{ds:List D}(h:asBytesV xs=some s)(hd:cl0L ds=flatD xs):asBytes ds=some s:=by
 induction xs generalizing s ds with
 | nil=>
  cases ds with
  | nil=>simpa[asBytesV,asBytes]using h
  | cons d r=>simp[flatD,cl0L]at hd
 | cons x r ih=>
  unfold asBytesV at h;split at h<;>try contradiction
  next n r' he=>
   injection he with he1 he2;subst he1;subst he2;rw[zA]at h;obtain⟨l,hl,h⟩:=h;injection h with h;subst h;cases ds with
   | nil=>simp[flatD,cl0L,V.toD,D.cells]at hd
   | cons d s=>simp only[flatD,cl0L,V.toD,D.cells,List.cons_append,List.nil_append,List.cons.injEq]at hd;rw[cl0_int hd.1];simp only[asBytes,ih hl hd.2,zD]
theorem bndV_ok{d:Option D}{x:Option V}(h:d.map D.cl0=x.map V.toD){n m:Nat}(k:bndV x n=some m):bnd d n=some m:=by
 cases x with
 | none=>cases d with
  | none=>exact k
  | some d=>simp at h
 | some x=>cases d with
  | none=>simp at h
  | some d=>
   have h:d.cl0=x.toD:=by simpa using h
   unfold bndV at k;split at k
   ·next e=>simp at e
   ·next e=>injection e with e;subst e;rw[cl0_int h];exact k
   ·contradiction
theorem idxV_ok{d:D}{x:V}(h:d.cl0=x.toD){n i:Nat}(k:idxV x n=some i):idx d n=some i:=by
 unfold idxV at k;split at k<;>try contradiction
 rw[cl0_int h];exact k
theorem idx_lt{d:D}{n i:Nat}(h:idx d n=some i):i<n:=by
 unfold idx at h;split at h<;>try contradiction
 split at h<;>try contradiction
 injection h with h;omega
theorem getElem?_lt{α:Type}{xs:List α}{i:Nat}{x:α}(h:xs[i]?=some x):i<xs.length:=by
 rcases zj i xs.length with h' | h'
 ·exact h'
 ·rw[zu h']at h;simp at h
theorem tst_some{ρ:Type}{b:Bool}{k:Option ρ}{r:ρ}(h:tst b k=some r):b=true/\k=some r:=by cases b<;>simp_all [tst]
theorem rowR_some{p:PSt}{k:Nat}{c:RowC}(h:rowR p k=some c) : ∃ r,p.rows[k]?=some r/\r.c=c:=by
 unfold rowR at h;split at h<;>try contradiction
 next f c' hr=>injection h with h;subst h;exact⟨_,hr,rfl⟩
theorem rowW_some{p:PSt}{k:Nat}{c:RowC}(h:rowW p k=some c):p.rows[k]?=some ⟨false,c⟩:=by
 unfold rowW at h;split at h<;>try contradiction
 next c' hr=>injection h with h;subst h;exact hr
theorem rk_arr{p:PSt}{k:Nat}{r:Row}{fz:Fz}{sz:Nat}{xs:List V}(h:p.rows[k]?=some r)(hc:r.c = .arr fz sz xs):rkOf p.rows k=some (sz,xs.length):=by obtain⟨f,c⟩:=r;simp only at hc;subst hc;simp[rkOf,h]
section
variable {ρ:Nat->Nat} {τ:Nat->Option Nat} {p:PSt} {st:St} {ρ':Type} {r:ρ'}
theorem Sim.row(hS:Sim ρ τ p st){k:Nat}{c:RowC}(h:rowR p k=some c)(hd:c ≠ .dead) : ∃ o,st.mem (ρ k)=some o/\RW (cxOf ρ τ p st) c o:=by
 obtain⟨rr,hr,rfl⟩:=rowR_some h;obtain⟨o,h1,h2⟩:=hS.rows k rr hr;rcases h1 with h1 | h1
 ·exact(hd h1).elim
 ·exact⟨o,h1,h2⟩
theorem cellsFrom_ok{x:V}{i n:Nat}{K:List PS->Option ρ'}(h:cellsFrom x i n K=some r):i+n<=x.parts.length/\K (((x.parts.drop i).take n).map .v)=some r\/n=0/\K []=some r:=by
 induction n generalizing i K with
 | zero=>exact .inr ⟨rfl,h⟩
 | succ n ih=>
  left;simp only[cellsFrom]at h;rw[zA]at h;obtain⟨c,hc,h⟩:=h;have hlt:=getElem?_lt (fld_parts hc);have he:(x.parts.drop i).take (n+1)=c::((x.parts.drop (i+1)).take n):=by
   rw[zO hlt,List.take_succ_cons];have:x.parts[i]=c:=by have:=fld_parts hc;rw[zL hlt]at this;injection this
   rw[this]
  rcases ih h with⟨h1,h2⟩ | ⟨rfl,h2⟩
  ·refine⟨by omega,?_⟩;rw[he];exact h2
  ·refine⟨by omega,?_⟩;rw[he];simpa using h2
theorem cellsFrom_all{x:V}{n:Nat}(hx:okN n x=true){K:List PS->Option ρ'}(h:cellsFrom x 0 n K=some r):K (x.parts.map .v)=some r:=by
 have hl:=okN_len hx;rcases cellsFrom_ok h with⟨_,h2⟩ | ⟨rfl,h2⟩
 ·rw[zU,zV (by omega)]at h2;exact h2
 ·rw[List.length_eq_zero_iff.1 hl];exact h2
theorem cells_ok{x:V}{d:D}(h:d.cl0=x.toD):cl0L d.cells=toDL x.parts:=by rw[cells_cl0,h,toD_cells]
theorem cellsK_ok{c:Cx}{n:Nat}{d:PD}{e:D}(hd:RP c d e){K:List PS->Option ρ'}(h:cellsK n d K=some r) : ∃ cs,K cs=some r/\cs.length=n/\RSL c cs e.cells/\allOne e.cells=true/\e.cells.length=n:=by
 cases d with
 | agg ps=>
  obtain⟨ds,rfl,h1,h2⟩:=hd;simp only[cellsK]at h;split at h<;>try contradiction
  next hn=>have hn:=zJ hn;exact⟨ps,h,hn,h1,h2,by simp only[D.cells];rw[<- RSL_len h1,hn]⟩
 | s q=>
  cases q;case v x=>simp only[cellsK]at h;obtain⟨h1,h2⟩:=tst_some h;have hd:e.cl0=x.toD:=hd;have hc:=cells_ok hd;refine⟨_,cellsFrom_all h1 h2,by simp[okN_len h1],RSL_v hc,allOne_of hc (okN_one h1),?_⟩;have:=congrArg List.length hc;rw[cl0L_len,toDL_len,okN_len h1]at this;exact this
  case el cs=>simp[cellsK]at h
  case elx sz x off=>simp[cellsK]at h
  case own id sz xs=>
   simp only[cellsK]at h;split at h<;>try contradiction
   next hn=>have hn:=zJ hn;subst hn;obtain⟨g,ds,rfl,h1⟩:=hd;exact⟨_,h,rfl,⟨⟨g,ds,rfl,h1⟩,trivial⟩,rfl,rfl⟩
  case full xs=>
   simp only[cellsK]at h;split at h<;>try contradiction
   next hn=>have hn:=zJ hn;subst hn;obtain⟨ds,rfl,h1⟩:=hd;exact⟨_,h,rfl,⟨⟨ds,rfl,h1⟩,trivial⟩,rfl,rfl⟩
  case uref k sz n'=>
   simp only[cellsK]at h;split at h<;>try contradiction
   next hn=>have hn:=zJ hn;subst hn;obtain⟨h1,⟨cp,h2,rfl⟩,h3⟩:=hd;exact⟨_,h,rfl,⟨⟨h1,⟨cp,h2,rfl⟩,h3⟩,trivial⟩,rfl,rfl⟩
  case ptr k off=>
   simp only[cellsK]at h;split at h<;>try contradiction
   next hn=>have hn:=zJ hn;subst hn;obtain⟨h1,rfl⟩:=hd;exact⟨_,h,rfl,⟨⟨h1,rfl⟩,trivial⟩,rfl,rfl⟩
  case ptrA k sz i off=>
   simp only[cellsK]at h;split at h<;>try contradiction
   next hn=>have hn:=zJ hn;subst hn;obtain⟨h1,rfl,h2⟩:=hd;exact⟨_,h,rfl,⟨⟨h1,rfl,h2⟩,trivial⟩,rfl,rfl⟩
  case ref k sz off n' cp z=>
   simp only[cellsK]at h;split at h<;>try contradiction
   next hn=>
    have hn:=zJ hn;subst hn;obtain⟨h0,h1,⟨h2,h3⟩ | ⟨h2,h3,h3'⟩,h4⟩:=hd
    ·subst h2;exact⟨_,h,rfl,⟨⟨h0,h1,.inl ⟨rfl,h3⟩,h4⟩,trivial⟩,rfl,rfl⟩
    ·subst h3;exact⟨_,h,rfl,⟨⟨h0,h1,.inr ⟨h2,rfl,h3'⟩,h4⟩,trivial⟩,rfl,rfl⟩
  case fn f cap=>
   simp only[cellsK]at h;split at h<;>try contradiction
   next hn=>have hn:=zJ hn;subst hn;obtain⟨ds,rfl,h1⟩:=hd;exact⟨_,h,rfl,⟨⟨ds,rfl,h1⟩,trivial⟩,rfl,rfl⟩
theorem allOne_append(a b:List D):allOne (a++b)=(allOne a&&allOne b):=by
 induction a with
 | nil=>simp[allOne]
 | cons x r ih=>simp[allOne,ih,Bool.and_assoc]
theorem allOne_take{ds:List D}(h:allOne ds=true)(n:Nat):allOne (ds.take n)=true:=by
 induction ds generalizing n with
 | nil=>simp[allOne]
 | cons d r ih=>cases n with
  | zero=>rfl
  | succ n=>simp only[allOne,zG,List.take_succ_cons]at h ⊢;exact⟨h.1,ih h.2 n⟩
theorem allOne_drop{ds:List D}(h:allOne ds=true)(n:Nat):allOne (ds.drop n)=true:=by
 induction ds generalizing n with
 | nil=>simp[allOne]
 | cons d r ih=>cases n with
  | zero=>exact h
  | succ n=>simp only[allOne,zG,List.drop_succ_cons]at h ⊢;exact ih h.2 n
theorem allOne_setAt{ds es:List D}(h:allOne ds=true)(k:allOne es=true)(o:Nat):allOne (setAt ds o es)=true:=by simp only[setAt,allOne_append,allOne_take h,k,allOne_drop h,Bool.and_self]
theorem allOne_rep{z:List D}(h:allOne z=true)(n:Nat):allOne (rep n z)=true:=by
 induction n with
 | zero=>rfl
 | succ n ih=>simp only[rep,List.replicate_succ,List.flatten_cons,allOne_append,h,Bool.true_and];exact ih
theorem buildK_ok{E:Env}{gl:Gl}(hg:GlR E gl)(hS:Sim ρ τ p st){ps:List (Nat×Nat×X)}{cells:List PS}{ds:List D}(hc:RSL (cxOf ρ τ p st) cells ds)(h1:allOne ds=true){K:List PS->Option ρ'}(h:buildK gl p cells ps K=some r) :
  ∃ cs,K cs=some r /\ ∃ l es,Ev.evP E st.tm ps=some l/\fillD ds l=some es/\RSL (cxOf ρ τ p st) cs es/\allOne es=true:=by
 induction ps generalizing cells ds with
 | nil=>exact⟨cells,h,[],ds,rfl,rfl,hc,h1⟩
 | cons q rest ih=>
  obtain⟨o,n,x⟩:=q;simp only[buildK]at h;split at h<;>try contradiction
  split at h<;>try contradiction
  next d hd _ hle=>have hle:=zT hle;obtain⟨e,he,hr⟩:=evH_ok hg hS hd;obtain⟨cs,h2,h3,h4,h5,h6⟩:=cellsK_ok hr h;obtain⟨cs',h7,l,es,h8,h9,h10,h11⟩:=ih (RSL_set hc h4 o) (allOne_setAt h1 h5 o) h2;refine⟨cs',h7,(o,n,e)::l,es,by simp[Ev.evP,he,h8],?_,h10,h11⟩;simp only[fillD];rw[zb ⟨h6,by rw[<- RSL_len hc];exact hle,h5⟩];exact h9
theorem setAt_flat{sz:Nat}{els:List V}(hs:szOk sz els=true){ds es:List D}(hd:cl0L ds=flatD els){i f n:Nat}{e x:V}(hi:els[i]?=some e)(hes:cl0L es=toDL x.parts)(hx:x.parts.length=n)(hf:f+n<=sz) :
  cl0L (setAt ds (i*sz+f) es)=flatD (els.take i)++((toDL e.parts).take f++toDL x.parts++(toDL e.parts).drop (f+n))++flatD (els.drop (i+1)):=by
 have hlt:=getElem?_lt hi;have hel:=okN_len (szOk_get hs hi);have h1:flatD els=flatD (els.take i)++(toDL e.parts++flatD (els.drop (i+1))):=by rw[<- flatD_at hi,<- flatD_append,List.take_append_drop]
 have hl1:(flatD (els.take i)).length=i*sz:=by rw[flatD_len (szOk_take hs i),zn,Nat.min_eq_left (by omega)]
 have hesl:es.length=n:=by have:=congrArg List.length hes;rw[cl0L_len,toDL_len,hx]at this;exact this
 have hpl:(toDL e.parts).length=sz:=by rw[toDL_len,hel]
 simp only[setAt,cl0L_append,cl0L_take,cl0L_drop,hd,hes,hesl];rw[h1];rw[List.take_append,zV (by omega),hl1,Nat.add_sub_cancel_left,List.take_append,hpl,show f-sz=0 by omega,List.take_zero,List.append_nil];rw[List.drop_append,List.drop_of_length_le (by omega),List.nil_append,hl1,show i*sz+f+n-i*sz=f+n by omega,List.drop_append,hpl,show f+n-sz=0 by omega,zU];simp only[zq]
theorem flatD_set{els:List V}{i:Nat}{e x:V}(hi:els[i]?=some e):flatD (els.set i x)=flatD (els.take i)++toDL x.parts++flatD (els.drop (i+1)):=by have hlt:=getElem?_lt hi;rw[List.set_eq_take_append_cons_drop,zb hlt,flatD_append];simp[flatD,toD_cells]
theorem one_cell{y c:V}(hx:okN 1 y=true)(h:fldV y 0=some c):y.parts=[c]/\c.one=true/\c.parts=[c]:=by
 have hl:=okN_len hx;have h:=fld_parts h;have hp:y.parts=[c]:=by
  cases hxp:y.parts with
  | nil=>rw[hxp]at hl;simp at hl
  | cons a s=>
   rw[hxp]at hl h;cases s with
   | nil=>simp at h;rw[h]
   | cons b s=>simp at hl
 have hone:c.one=true:=by have:=okN_one hx;rw[hp]at this;simpa[allOneV]using this
 refine⟨hp,hone,?_⟩;cases c<;>first | rfl | simp[V.one]at hone
theorem allOneV_append(a b:List V):allOneV (a++b)=(allOneV a&&allOneV b):=by
 induction a with
 | nil=>simp[allOneV]
 | cons y r ih=>simp[allOneV,ih,Bool.and_assoc]
theorem allOneV_cut{a:List V}(h:allOneV a=true)(k:Nat):allOneV (a.take k)=true/\allOneV (a.drop k)=true:=by
 have h2:allOneV (a.take k++a.drop k)=true:=by rw[List.take_append_drop];exact h
 rw[allOneV_append,zG]at h2;exact h2
theorem elK_ok{sz:Nat}{els:List V}(hs:szOk sz els=true)(hz:0<sz){ds es:List D}(hd:cl0L ds=flatD els){o n:Nat}{x:V}(hes:cl0L es=toDL x.parts)(ho:o/sz<els.length){K:List V->Option ρ'}(h:elK sz els o n x K=some r) :
  ∃ els',K els'=some r/\els'.length=els.length/\szOk sz els'=true/\cl0L (setAt ds o es)=flatD els'/\es.length=n/\o+n<=ds.length/\allOneV x.parts=true:=by
 have hdl:ds.length=els.length*sz:=by have:=congrArg List.length hd;rw[cl0L_len,flatD_len hs]at this;exact this
 have hesl:es.length=x.parts.length:=by have:=congrArg List.length hes;rw[cl0L_len,toDL_len]at this;exact this
 obtain⟨e,he⟩ : ∃ e,els[o/sz]?=some e:=⟨_,zL ho⟩
 have hdm:o/sz*sz+o%sz=o:=by rw[Nat.mul_comm];exact Nat.div_add_mod o sz
 have hmul:(o/sz+1)*sz<=els.length*sz:=zW sz ho;have hmul':(o/sz+1)*sz=o/sz*sz+sz:=by rw[zy,Nat.one_mul]
 have hel:=okN_len (szOk_get hs he);have hpl:(toDL e.parts).length=sz:=by rw[toDL_len,hel]
 unfold elK at h;split at h
 ·next hw=>
  simp only[zG]at hw;have hn:=zJ hw.1;have h0:=zJ hw.2;subst hn;have key : ∀ y:V,y.parts=x.parts->okN n x=true->cl0L (setAt ds o es)=flatD (els.set (o/n) y):=by intro y hy hx;have:=setAt_flat hs hd (i:=o/n) (f:=o%n) (n:=n) he hes (okN_len hx) (by omega);rw[hdm]at this;rw[this,flatD_set he,h0,List.take_zero,List.nil_append,zk,List.drop_of_length_le (by omega),List.append_nil,hy]
  split at h
  ·next h1=>
   have h1:=zJ h1;obtain⟨hx,h⟩:=tst_some h;rw[zA]at h;obtain⟨c,hc,h⟩:=h;have hx':okN n x=true:=by rw[h1];exact hx
   have hp:x.parts=[c]:=by
    have hl:=okN_len hx;have hc:=fld_parts hc
    match hxp:x.parts,hl with
    | [a],_=>rw[hxp]at hc;simp at hc;rw[hc]
   have hone:c.one=true:=by have:=okN_one hx;rw[hp]at this;simpa[allOneV]using this
   have hcp:c.parts=[c]:=by cases c<;>simp_all [V.parts,V.one]
   refine⟨_,h,by simp,szOk_set hs (okN_mk ?_ ?_),key c (by rw[hcp,hp]) hx',by rw[hesl,okN_len hx'],by omega,okN_one hx⟩
   ·rw[hcp];exact h1.symm
   ·rw[hcp,<- hp];exact okN_one hx
  ·obtain⟨hx,h⟩:=tst_some h;exact⟨_,h,by simp,szOk_set hs hx,key x rfl hx,by rw[hesl,okN_len hx],by omega,okN_one hx⟩
 ·split at h<;>try contradiction
  split at h<;>try contradiction
  next xs hxs=>
   split at h<;>try contradiction
   next hle=>
    simp only[zG]at hle;have hle1:=zT hle.1;obtain⟨hx,h⟩:=tst_some h;rw[he]at hxs;injection hxs with hxs;subst hxs;have hel':xs.length=sz:=hel;have hxl:=okN_len hx;refine⟨_,h,by simp,szOk_set hs (okN_mk ?_ ?_),?_,by rw[hesl,hxl],by omega,okN_one hx⟩
    ·show(setL xs (o%sz) x.parts).length=sz;simp only[setL,zZ,zn,zo,hxl];omega
    ·have:allOneV xs=true:=okN_one (szOk_get hs he);show allOneV (setL xs (o%sz) x.parts)=true;simp only[setL,allOneV_append,(allOneV_cut this _).1,(allOneV_cut this _).2,okN_one hx,Bool.and_self]
    ·have:=setAt_flat hs hd (i:=o/sz) (f:=o%sz) (n:=n) he hes hxl (by omega);rw[hdm]at this;rw[this,flatD_set he];show _=_++toDL (setL xs (o%sz) x.parts)++_;simp only[setL,toDL_append,toDL_take,toDL_drop,hxl];rfl
theorem litK_ok{E:Env}{gl:Gl}(hg:GlR E gl)(hS:Sim ρ τ p st){sz:Nat}(hz:0<sz){ps:List (Nat×Nat×X)}{els:List V}{ds:List D}(hs:szOk sz els=true)(hd:cl0L ds=flatD els)(h1:allOne ds=true){K:List V->Option ρ'}(h:litK gl p sz els ps K=some r) :
  ∃ els',K els'=some r/\els'.length=els.length/\szOk sz els'=true /\ ∃ l es,Ev.evP E st.tm ps=some l/\fillD ds l=some es/\cl0L es=flatD els'/\allOne es=true:=by
 induction ps generalizing els ds with
 | nil=>exact⟨els,h,rfl,hs,[],ds,rfl,rfl,hd,h1⟩
 | cons q rest ih=>
  obtain⟨o,n,x⟩:=q;simp only[litK]at h;split at h<;>try contradiction
  split at h<;>try contradiction
  split at h<;>try contradiction
  next d hd' _ y hy _ hlt=>have hlt:o/sz<els.length:=zT hlt;obtain⟨e,he,hr⟩:=evH_ok hg hS hd';have hey:=PD.pure_ok hr hy;have hec:=cells_ok hey;obtain⟨els1,h2,h3,h4,h5,h6,h7,h8⟩:=elK_ok hs hz hd hec hlt h;have ho:=allOne_of hec h8;obtain⟨els',h9,h10,h11,l,es,h12,h13,h14,h15⟩:=ih h4 h5 (allOne_setAt h1 ho o) h2;refine⟨els',h9,by omega,h11,(o,n,e)::l,es,by simp[Ev.evP,he,h12],?_,h14,h15⟩;simp only[fillD];rw[zb ⟨h6,h7,ho⟩];exact h13
end
end
section
section
variable {ρ:Nat->Nat} {τ:Nat->Option Nat} {p:PSt} {st:St} {ρ':Type} {r:ρ'}
def PD.isRef:PD->Bool
 | .s (.ref _ _ _ _ _ _) | .s (.uref _ _ _)=>true
 | _=>false
theorem slK_ok(hS:Sim ρ τ p st){sz:Nat}{d:PD}{e:D}(hd:RP (cxOf ρ τ p st) d e){K:List V->Option ρ'}(h:slK sz p d K=some r) :
  ∃ xs,K xs=some r/\szOk sz xs=true/\(∃ ds,elems st sz e=some (xs.length,ds)/\cl0L ds=flatD xs)/\(d.isRef=false -> ∃ g ds,e = .sl g xs.length ds/\cl0L ds=flatD xs):=by
 have fin : ∀ {g xs ds},e = .sl g xs.length ds->cl0L ds=flatD xs->szOk sz xs=true->K xs=some r ->
   ∃ xs,K xs=some r/\szOk sz xs=true/\(∃ ds,elems st sz e=some (xs.length,ds)/\cl0L ds=flatD xs)/\(d.isRef=false -> ∃ g ds,e = .sl g xs.length ds/\cl0L ds=flatD xs):=by
  intro g xs ds he hds hs hk;subst he;have hl:ds.length=xs.length*sz:=by have:=congrArg List.length hds;rw[cl0L_len,flatD_len hs]at this;exact this
  exact⟨xs,hk,hs,⟨ds,by simp[elems,hl],hds⟩,fun _=>⟨g,ds,rfl,hds⟩⟩
 cases d with
 | agg ps=>simp[slK]at h
 | s q=>
  cases q<;>simp only[slK]at h<;>try contradiction
  case v x=>rw[zA]at h;obtain⟨xs,hx,h⟩:=h;obtain⟨⟨g,ds,he,hds⟩,hs⟩:=asSl_ok hx hd;exact fin he hds hs h
  case own id sz' xs=>obtain⟨hs,h⟩:=tst_some h;obtain⟨g,ds,he,hds,_⟩:=hd;exact fin he hds hs h
  case full xs=>obtain⟨hs,h⟩:=tst_some h;obtain⟨ds,he,hds⟩:=hd;exact fin he hds hs h
  case ref k sz' off n cp z=>
   split at h<;>try contradiction
   split at h<;>try contradiction
   next fz szr xs hr _ hsz=>
    have hsz:=zJ hsz;subst hsz;obtain⟨rr,hrr,hrc⟩:=rowR_some hr;obtain⟨hk,⟨hn,_⟩,hdd,hrk⟩:=hd;obtain⟨hs,hlen⟩:=hrk _ _ (rk_arr hrr hrc);subst hs;obtain⟨o,ho,ds,b,rfl,hfz,hds,hsz⟩:=hS.row hr (by simp);have hl:ds.length=xs.length*szr:=by have:=congrArg List.length hds;rw[cl0L_len,flatD_len hsz]at this;exact this
    have hll:((xs.drop off).take n).length=n:=by rw[zn,zo];omega
    refine⟨_,h,szOk_take (szOk_drop hsz _) _,?_,fun hh=>by simp[PD.isRef]at hh⟩;rcases hdd with⟨rfl,_⟩ | ⟨rfl,rfl,_⟩
    ·refine⟨(ds.drop (off*szr)).take (n*szr),?_,?_⟩
     ·have hm:(off+n)*szr<=xs.length*szr:=zW _ (by omega);have:off*szr+n*szr<=ds.length:=by rw[hl,<- zy];exact hm
      have ho:st.mem ((cxOf ρ τ p st).ρ k)=some (.row ds b):=ho;simp only[elems,ho,hll];rw[zb ⟨trivial,this⟩]
     ·rw[cl0L_take,cl0L_drop,hds,flatD_drop hsz,flatD_take (szOk_drop hsz _)]
    ·have hn0:n=0:=by omega
     subst hn0;exact⟨[],by simp[elems],by simp[cl0L,flatD]⟩
  case uref k sz' n=>
   split at h<;>try contradiction
   split at h<;>try contradiction
   next fz szr xs hr _ hsz=>
    have hsz:=zJ hsz;subst hsz;obtain⟨rr,hrr,hrc⟩:=rowR_some hr;obtain⟨hk,⟨cp,hcp,rfl⟩,hrk⟩:=hd;obtain⟨hs,hlen⟩:=hrk _ _ (rk_arr hrr hrc);subst hs;obtain⟨o,ho,ds,b,rfl,hfz,hds,hsz⟩:=hS.row hr (by simp);have hl:ds.length=xs.length*szr:=by have:=congrArg List.length hds;rw[cl0L_len,flatD_len hsz]at this;exact this
    have hll:(xs.take n).length=n:=by rw[zn];omega
    refine⟨_,h,szOk_take hsz _,?_,fun hh=>by simp[PD.isRef]at hh⟩;refine⟨(ds.drop 0).take (n*szr),?_,?_⟩
    ·have hm:n*szr<=xs.length*szr:=zW _ hlen;have:0+n*szr<=ds.length:=by rw[hl,zk];exact hm
     have ho:st.mem ((cxOf ρ τ p st).ρ k)=some (.row ds b):=ho;simp only[elems,ho,hll];rw[zb ⟨trivial,this⟩]
    ·rw[zU,cl0L_take,hds,flatD_take hsz]
theorem srcK_ok(hS:Sim ρ τ p st){sz:Nat}{d:PD}{e:D}(hd:RP (cxOf ρ τ p st) d e){K:List V->Option ρ'}(h:srcK sz p d K=some r) :
  ∃ xs,K xs=some r/\szOk sz xs=true /\ ∃ ds,elems st sz e=some (xs.length,ds)/\cl0L ds=flatD xs:=by
 unfold srcK at h;split at h
 ·next x=>
  rw[zA]at h;obtain⟨xs,hx,h⟩:=h;unfold asEl at hx;split at hx<;>try contradiction
  ·next ys=>
   have hy:asSl sz (.sl ys)=some xs:=hx;obtain⟨⟨g,ds,rfl,hds⟩,hs⟩:=asSl_ok hy hd;have hl:ds.length=xs.length*sz:=by have:=congrArg List.length hds;rw[cl0L_len,flatD_len hs]at this;exact this
   exact⟨xs,h,hs,ds,by simp[elems,hl],hds⟩
  ·next s=>
   split at hx<;>try contradiction
   next hsz=>injection hx with hx;subst hx;have hsz:=zJ hsz;subst hsz;have:=cl0_str hd;subst this;exact⟨_,h,szOk_bytes s,ofBytes s,by simp[elems,ofBytesV],by rw[<- flatD_bytes,flatD_cl0]⟩
 ·obtain⟨xs,h1,h2,h3,_⟩:=slK_ok hS hd h;exact⟨xs,h1,h2,h3⟩
theorem parts_agg{x:V}{n:Nat}(h:okN n x=true)(hn:1<n):x = .agg x.parts:=by have:=okN_len h;cases x<;>simp_all [V.parts]
theorem len_of{ds:List D}{xs:List V}(h:cl0L ds=toDL xs):ds.length=xs.length:=by have:=congrArg List.length h;rw[cl0L_len,toDL_len]at this;exact this
theorem sub_ok{ds:List D}{xs:List V}(h:cl0L ds=toDL xs)(off sz:Nat):(D.agg ((ds.drop off).take sz)).cl0=(V.agg ((xs.drop off).take sz)).toD:=by simp only[D.cl0,V.toD,cl0L_take,cl0L_drop,h,toDL_take,toDL_drop]
theorem loadK_ok(hS:Sim ρ τ p st){ag:Bool}{sz:Nat}{d:PD}{e:D}(hd:RP (cxOf ρ τ p st) d e){K:PD->Option ρ'}(h:loadK p ag sz d K=some r) :
  ∃ v,K v=some r /\ ∃ w,loadD st ag sz e=some w/\RP (cxOf ρ τ p st) v w:=by
 cases d with
 | agg ps=>simp[loadK]at h
 | s q=>
  cases q<;>simp only[loadK]at h<;>try contradiction
  case ptr k off=>
   obtain⟨hk,rfl⟩:=hd;split at h<;>try contradiction
   ·next n x hr=>
    obtain⟨o,ho,ds,rfl,hds,hok⟩:=hS.row hr (by simp);have ho:st.mem ((cxOf ρ τ p st).ρ k)=some (.row ds false):=ho;have hl:=len_of hds;have hn:=okN_len hok;split at h
    ·obtain⟨hle,h⟩:=tst_some h;have hle:=zT hle;have hw:loadD st true sz (.ptr ((cxOf ρ τ p st).ρ k) off)=some (.agg ((ds.drop off).take sz)):=by simp only[loadD,cellsAt,ho,zc];rw[zb (by omega)];rfl
     split at h
     ·next hc=>
      simp only[zG]at hc;have h1:=zJ hc.1;have h2:1<n:=zT hc.2;refine⟨_,h,_,hw,?_⟩;have h0:off=0:=by omega
      subst h0;show(D.agg _).cl0=_;rw[parts_agg hok h2,sub_ok hds];simp only[zU];rw[zV (by omega)]
     ·exact⟨_,h,_,hw,sub_ok hds off sz⟩
    ·rw[zA]at h;obtain⟨c,hc,h⟩:=h;obtain⟨w,hw,hcw⟩:=cl0_get hds (fld_parts hc);have hlt:=getElem?_lt hw;refine⟨_,h,w,?_,hcw⟩;simp only[loadD,cellsAt,ho,zF,zd];rw[zb (by omega),zO hlt];rw[zL hlt]at hw;injection hw with hw;simp[hw]
   ·next ps hr=>
    obtain⟨o,ho,ds,rfl,hds,h1⟩:=hS.row hr (by simp);have ho:st.mem ((cxOf ρ τ p st).ρ k)=some (.row ds false):=ho;have hl:=RSL_len hds;split at h
    ·split at h<;>try contradiction
     next hle=>have hle:=zT hle;refine⟨_,h,.agg ((ds.drop off).take sz),?_,mkAgg_ok (RSL_take (RSL_drop hds _) _) (allOne_take (allOne_drop h1 _) _)⟩;simp only[loadD,cellsAt,ho,zc];rw[zb (by omega)];rfl
    ·split at h<;>try contradiction
     next q hq=>obtain⟨w,hw,hcw⟩:=RSL_get hds hq;have hlt:=getElem?_lt hw;refine⟨_,h,w,?_,hcw⟩;simp only[loadD,cellsAt,ho,zF,zd];rw[zb (by omega),zO hlt];rw[zL hlt]at hw;injection hw with hw;simp[hw]
  case ptrA k sz' i off=>
   obtain⟨hk,rfl,hrk⟩:=hd;split at h<;>try contradiction
   next fz szr xs hr=>
    obtain⟨rr,hrr,hrc⟩:=rowR_some hr;obtain⟨hs,hi⟩:=hrk _ _ (rk_arr hrr hrc);subst hs;obtain⟨o,ho,ds,b,rfl,hfz,hds,hsz⟩:=hS.row hr (by simp);have ho:st.mem ((cxOf ρ τ p st).ρ k)=some (.row ds b):=ho;have hl:ds.length=xs.length*szr:=by have:=congrArg List.length hds;rw[cl0L_len,flatD_len hsz]at this;exact this
    have hmul:(i+1)*szr<=xs.length*szr:=zW _ hi;have hmul':(i+1)*szr=i*szr+szr:=by rw[zy,Nat.one_mul]
    have hpre : ∀ x,xs[i]?=some x->toDL x.parts <+: cl0L (ds.drop (i*szr)):=by intro x hx;rw[cl0L_drop,hds,flatD_drop hsz,flatD_at hx];exact List.prefix_append _ _
    split at h
    ·split at h<;>try contradiction
     next hle=>
      have hle:=zT hle;rw[zA]at h;obtain⟨x,hx,h⟩:=h;have hok:=szOk_get hsz hx;have hxl:=okN_len hok;have hw:loadD st true sz (.ptr ((cxOf ρ τ p st).ρ k) (i*szr+off))=some (.agg ((ds.drop (i*szr+off)).take sz)):=by simp only[loadD,cellsAt,ho,zc];rw[zb (by omega)];rfl
      have hp2:(D.agg ((ds.drop (i*szr+off)).take sz)).cl0=(subV x off sz).toD:=by have h2:=pre_drop (hpre x hx) off;rw[List.drop_drop,toDL_drop]at h2;have:=(pre_take h2 (n:=sz) (by rw[zo];omega)).2;simp only[subV,D.cl0,V.toD,this]
      split at h
      ·next hc=>
       simp only[zG]at hc;have h1:=zJ hc.1;have h2:1<szr:=zT hc.2;refine⟨_,h,_,hw,?_⟩;show(D.agg _).cl0=_;rw[hp2];have h0:off=0:=by omega
       subst h0;rw[subV,zU,zV (by omega),<- parts_agg hok h2]
      ·exact⟨_,h,_,hw,hp2⟩
    ·rw[zA]at h;obtain⟨x,hx,h⟩:=h;rw[zA]at h;obtain⟨c,hc,h⟩:=h;obtain⟨w,hw,hcw⟩:=pre_get (hpre x hx) (fld_parts hc);rw[zw]at hw;have hlt:=getElem?_lt hw;refine⟨_,h,w,?_,hcw⟩;simp only[loadD,cellsAt,ho,zF,zd];rw[zb (by omega),zO hlt];rw[zL hlt]at hw;injection hw with hw;simp[hw]
  case elx sz' x off=>
   obtain⟨hok,ds,rfl,hpre⟩:=hd;have hxl:=okN_len hok;rw[toDL_drop]at hpre;split at h
   ·split at h<;>try contradiction
    next hle=>
     have hle:=zT hle;have hp:=pre_take hpre (n:=sz) (by rw[zo];omega);have hw:loadD st true sz (.el ds)=some (.agg (ds.take sz)):=by simp only[loadD,cellsAt,zc];rw[zb hp.1];rfl
     have hp2:(D.agg (ds.take sz)).cl0=(subV x off sz).toD:=by simp only[subV,D.cl0,V.toD,hp.2]
     split at h
     ·next hc=>
      simp only[zG]at hc;have h1:=zJ hc.1;have h2:1<sz':=zT hc.2;refine⟨_,h,_,hw,?_⟩;show(D.agg _).cl0=_;rw[hp2];have h0:off=0:=by omega
      subst h0;rw[subV,zU,zV (by omega),<- parts_agg hok h2]
     ·exact⟨_,h,_,hw,hp2⟩
   ·rw[zA]at h;obtain⟨c,hc,h⟩:=h;have hc':(x.parts.drop off)[0]?=some c:=by rw[zw];exact fld_parts hc
    obtain⟨w,hw,hcw⟩:=pre_get hpre hc';refine⟨_,h,w,?_,hcw⟩;cases ds with
    | nil=>simp at hw
    | cons d s=>simp at hw;subst hw;simp[loadD,cellsAt]
  case el cs=>
   obtain⟨ds,rfl,hpre⟩:=hd;split at h
   ·obtain⟨hle,h⟩:=tst_some h;have hle:=zT hle;have hp:=pre_take hpre hle;refine⟨_,h,.agg (ds.take sz),?_,?_⟩
    ·simp only[loadD,cellsAt,zc];rw[zb hp.1];rfl
    ·show(D.agg _).cl0=_;simp only[D.cl0,V.toD,hp.2]
   ·rw[zA]at h;obtain⟨c,hc,h⟩:=h;obtain⟨w,hw,hcw⟩:=pre_get hpre hc;refine⟨_,h,w,?_,hcw⟩;cases ds with
    | nil=>simp at hw
    | cons d s=>simp at hw;subst hw;simp[loadD,cellsAt]
theorem RCL_mk{c:Cx}{l:List PD}{ds:List D}(h:RPL c l ds){cap:List CP}(k:mkCap l=some cap):RCL c.ρ c.m cap ds:=by
 induction l generalizing ds cap with
 | nil=>cases ds with
  | nil=>simp[mkCap]at k;subst k;trivial
  | cons d s=>exact h.elim
 | cons q r' ih=>cases ds with
  | nil=>exact h.elim
  | cons d s=>
   unfold mkCap at k;split at k<;>try contradiction
   ·next x r'' e=>
    injection e with e1 e2;subst e1;subst e2;split at k<;>try contradiction
    next l' hl=>injection k with k;subst k;exact⟨h.1,ih h.2 hl⟩
   ·next k' off r'' e=>
    injection e with e1 e2;subst e1;subst e2;split at k<;>try contradiction
    next l' hl=>injection k with k;subst k;exact⟨h.1,ih h.2 hl⟩
theorem minV_ok{x:V}{l:List V}{d:D}{ds:List D}(hd:d.cl0=x.toD)(hl:cl0L ds=toDL l){y:V}(h:minV x l=some y):minD d ds=some y.toD:=by
 induction l generalizing x d ds with
 | nil=>
  cases ds with
  | nil=>
    unfold minV at h;split at h<;>try contradiction
    injection h with h;subst h;rw[cl0_int hd];rfl
  | cons a b=>simp[cl0L,toDL]at hl
 | cons z r ih=>
  cases ds with
  | nil=>simp[cl0L,toDL]at hl
  | cons a b=>
   simp only[cl0L,toDL,List.cons.injEq]at hl;unfold minV at h;split at h<;>try contradiction
   ·next k x' k' y' r'' e=>
    injection e with e1 e2;subst e1;subst e2;rw[cl0_int hd,cl0_int hl.1];simp only[minD];split at h<;>try contradiction
    next hk=>rw[zb hk];exact ih rfl hl.2 h
theorem maxV_ok{x:V}{l:List V}{d:D}{ds:List D}(hd:d.cl0=x.toD)(hl:cl0L ds=toDL l){y:V}(h:maxV x l=some y):maxD d ds=some y.toD:=by
 induction l generalizing x d ds with
 | nil=>
  cases ds with
  | nil=>
    unfold maxV at h;split at h<;>try contradiction
    injection h with h;subst h;rw[cl0_int hd];rfl
  | cons a b=>simp[cl0L,toDL]at hl
 | cons z r ih=>
  cases ds with
  | nil=>simp[cl0L,toDL]at hl
  | cons a b=>
   simp only[cl0L,toDL,List.cons.injEq]at hl;unfold maxV at h;split at h<;>try contradiction
   ·next k x' k' y' r'' e=>
    injection e with e1 e2;subst e1;subst e2;rw[cl0_int hd,cl0_int hl.1];simp only[maxD];split at h<;>try contradiction
    next hk=>rw[zb hk];exact ih rfl hl.2 h
theorem allOneV_of{xs:List V}{ds:List D}(h1:cl0L ds=toDL xs)(h2:allOne ds=true):allOneV xs=true:=by
 induction ds generalizing xs with
 | nil=>cases xs with
  | nil=>rfl
  | cons x s=>simp[cl0L,toDL]at h1
 | cons d t ih=>
  cases xs with
  | nil=>simp[cl0L,toDL]at h1
  | cons x s=>
   simp only[cl0L,toDL,List.cons.injEq]at h1;simp only[allOne,zG]at h2;simp only[allOneV,zG];refine⟨?_,ih h1.2 h2.2⟩;have h3:=h1.1;have h4:=h2.1;cases x<;>first
    | rfl
    | (simp only[V.toD]at h3;obtain⟨_,rfl,_⟩:=cl0_agg h3;simp[D.oneCell]at h4)
    | (simp only[V.toD]at h3;obtain⟨_,rfl,_⟩:=cl0_tup h3;simp[D.oneCell]at h4)
theorem mkEl_parts{l:List V}(h:allOneV l=true):(mkEl l).parts=l:=by
 match l,h with
 | [],_=>rfl
 | [x],h=>simp only[mkEl];cases x<;>simp_all [V.parts,allOneV,V.one]
 | _::_::_,_=>rfl
theorem zeroL_ok{z:List D}{l:List V}(h:zeroL z=some l):cl0L z=toDL l/\allOne z=true/\allOneV l=true/\0<l.length/\(mkEl l).parts=l:=by
 unfold zeroL at h;split at h<;>try contradiction
 split at h<;>try contradiction
 split at h<;>try contradiction
 split at h<;>try contradiction
 next l0 hl _ h1 _ l' hl' _ hz=>injection h with h;subst h;have hzl:=pureL_ok (constL_ok (c:=⟨id,fun _=>none,0,fun _=>none,fun _=>none,0⟩) hl) hl';have hzo:=constL_one hl h1;have hone:=allOneV_of hzl hzo;exact⟨hzl,hzo,hone,zT hz,mkEl_parts hone⟩
theorem rep_flat{z:List D}{l:List V}(hzl:cl0L z=toDL l)(hel:(mkEl l).parts=l)(n:Nat):cl0L (rep n z)=flatD (List.replicate n (mkEl l)):=by
 rw[flatD_rep,hel];induction n with
 | zero=>rfl
 | succ n ih=>simp only[rep,List.replicate_succ,List.flatten_cons,cl0L_append,hzl]at ih ⊢;rw[ih]
theorem RV_toD{c:Cx}(x:V):RP c (.s (.v x)) x.toD:=toD_cl0 x
theorem popA{E:Env}{gl:Gl}{pc:PcT}(hg:GlR E gl)(hS:Sim ρ τ p st){o:O}(hq:quiet o=true){K:Option PD->PSt->Option ρ'}(h:popK gl pc p o K=some r) :
  ∃ d,K (some d) p=some r /\ ∃ e,opD E st o=some (some e,st)/\RP (cxOf ρ τ p st) d e:=by
 cases o<;>simp[quiet]at hq<;>simp only[popK]at h;case mv x=>
  split at h<;>try contradiction
  next d hd=>obtain⟨e,he,hr⟩:=evH_ok hg hS hd;exact⟨d,h,e,by simp[opD,he],hr⟩
 case pick c a b=>
  split at h<;>try contradiction
  split at h<;>try contradiction
  split at h<;>try contradiction
  next c hc _ x hx _ y hy=>
   rw[zA]at h;obtain⟨cb,hcb,h⟩:=h;obtain⟨e1,he1,hr1⟩:=evV_ok hg hS hc;obtain⟨e2,he2,hr2⟩:=evV_ok hg hS hx;obtain⟨e3,he3,hr3⟩:=evV_ok hg hS hy;have:=asBool_ok hcb hr1;subst this;cases cb
   ·exact⟨_,h,e3,by simp[opD,he1,he3],hr3⟩
   ·exact⟨_,h,e2,by simp[opD,he1,he2],hr2⟩
 case build z ps=>
  split at h<;>try contradiction
  split at h<;>try contradiction
  next l hl _ h1=>obtain⟨cs,h2,l',es,h3,h4,h5,h6⟩:=buildK_ok hg hS (constL_ok hl) (constL_one hl h1) h;exact⟨_,h2,.agg es,by simp[opD,h3,h4],mkAgg_ok h5 h6⟩
 case lit n z ps=>
  split at h<;>try contradiction
  next l hl=>obtain⟨hzl,hzo,hone,hz,hel⟩:=zeroL_ok hl;have hok:okN l.length (mkEl l)=true:=okN_mk (by rw[hel]) (by rw[hel];exact hone);have hflat:cl0L (rep n z)=flatD (List.replicate n (mkEl l)):=rep_flat hzl hel n;obtain⟨els,h2,h3,h4,l2,es,h5,h6,h7,h8⟩:=litK_ok hg hS hz (szOk_rep hok) hflat (allOne_rep hzo n) h;refine⟨_,h2,.sl .full n es,?_,es,by rw[h3,List.length_replicate],h7⟩;simp[opD,h5,h6,h8]
 case load ag sz a=>
  split at h<;>try contradiction
  next d hd=>obtain⟨e,he,hr⟩:=evH_ok hg hS hd;obtain⟨v,h1,w,h2,h3⟩:=loadK_ok hS hr h;exact⟨v,h1,w,by simp[opD,he,h2],h3⟩
 case chk x=>
  split at h<;>try contradiction
  next k off hd=>obtain⟨e,he,hr⟩:=evH_ok hg hS hd;obtain⟨h1,rfl⟩:=hr;exact⟨_,h,_,by simp[opD,he],h1,rfl⟩
  next k sz i off hd=>obtain⟨e,he,hr⟩:=evH_ok hg hS hd;obtain⟨h1,rfl,h2⟩:=hr;exact⟨_,h,_,by simp[opD,he],h1,rfl,h2⟩
  next cs hd=>obtain⟨e,he,hr⟩:=evH_ok hg hS hd;obtain⟨ds,rfl,h1⟩:=hr;exact⟨_,h,_,by simp[opD,he],ds,rfl,h1⟩
  next sz x off hd=>obtain⟨e,he,hr⟩:=evH_ok hg hS hd;obtain⟨h1,ds,rfl,h2⟩:=hr;exact⟨_,h,_,by simp[opD,he],h1,ds,rfl,h2⟩
  next f c hd=>obtain⟨e,he,hr⟩:=evH_ok hg hS hd;obtain⟨ds,rfl,h1⟩:=hr;exact⟨_,h,_,by simp[opD,he],ds,rfl,h1⟩
 case bin op x y=>
  split at h<;>try contradiction
  split at h<;>try contradiction
  next x hx _ y hy=>rw[zA]at h;obtain⟨d,hd,h⟩:=h;obtain⟨e1,he1,hr1⟩:=evV_ok hg hS hx;obtain⟨e2,he2,hr2⟩:=evV_ok hg hS hy;exact⟨_,h,_,by simp[opD,he1,he2,binV_ok hr1 hr2 hd],RV_toD d⟩
 case beq neg x y=>
  split at h<;>try contradiction
  split at h<;>try contradiction
  next x hx _ y hy=>rw[zA]at h;obtain⟨a,ha,h⟩:=h;rw[zA]at h;obtain⟨b,hb,h⟩:=h;obtain⟨e1,he1,hr1⟩:=evV_ok hg hS hx;obtain⟨e2,he2,hr2⟩:=evV_ok hg hS hy;have:=asBool_ok ha hr1;subst this;have:=asBool_ok hb hr2;subst this;refine⟨_,h,.bool (if neg=true then !(a==b)else a==b),by simp only[opD,he1,he2],?_⟩;cases neg<;>rfl
 case inil neg x=>
  split at h<;>try contradiction
  next x hx=>
   rw[zA]at h;obtain⟨d,hd,h⟩:=h;obtain⟨e1,he1,hr1⟩:=evV_ok hg hS hx;refine⟨_,h,d.toD,?_,RV_toD d⟩;unfold inilV at hd;split at hd<;>try contradiction
   all_goals injection hd with hd;subst hd
   ·have:e1 = .nili:=by cases e1<;>simp_all [D.cl0,V.toD]
    simp[opD,he1,this,V.toD]
   ·have : ∃ t d,e1 = .iface t d:=by cases e1<;>simp_all [D.cl0,V.toD]
    obtain⟨t,d,rfl⟩:=this;simp[opD,he1,V.toD]
 case tas t ok x=>
  split at h<;>try contradiction
  next x hx=>
   rw[zA]at h;obtain⟨d,hd,h⟩:=h;obtain⟨e1,he1,hr1⟩:=evV_ok hg hS hx;unfold tasV at hd;split at hd<;>try contradiction
   next u y=>
    split at hd<;>try contradiction
    next hu=>
     injection hd with hd;subst hd hu;have : ∃ d0,e1 = .iface u d0/\d0.cl0=y.toD:=by cases e1<;>simp_all [D.cl0,V.toD]
     obtain⟨d0,rfl,h0⟩:=this;refine⟨_,h,if ok then .tup [d0,.bool true]else d0,by simp[opD,he1],?_⟩;cases ok
     ·exact h0
     ·show(D.tup [d0,.bool true]).cl0=_;simp[D.cl0,cl0L,V.toD,toDL,h0]
 case un op x=>
  split at h<;>try contradiction
  next x hx=>rw[zA]at h;obtain⟨d,hd,h⟩:=h;obtain⟨e1,he1,hr1⟩:=evV_ok hg hS hx;exact⟨_,h,_,by simp[opD,he1,unV_ok hr1 hd],RV_toD d⟩
 case cvi k x=>
  split at h<;>try contradiction
  next x hx=>
   rw[zA]at h;obtain⟨d,hd,h⟩:=h;obtain⟨e1,he1,hr1⟩:=evV_ok hg hS hx;unfold cviV at hd;split at hd<;>try contradiction
   injection hd with hd;subst hd;exact⟨_,h,_,by simp[opD,he1,cl0_int hr1];rfl,RV_toD _⟩
 case cms x=>
  split at h<;>try contradiction
  next x hx=>
   rw[zA]at h;obtain⟨d,hd,h⟩:=h;obtain⟨e1,he1,hr1⟩:=evV_ok hg hS hx;unfold cmsV at hd;split at hd<;>try contradiction
   injection hd with hd;subst hd;exact⟨_,h,_,by simp[opD,he1,cl0_str hr1];rfl,RV_toD _⟩
 case cbs x=>
  split at h<;>try contradiction
  next d hd=>
   obtain⟨e,he,hr⟩:=evH_ok hg hS hd;obtain⟨xs,h1,h2,⟨ds,h3,h4⟩,h5⟩:=slK_ok hS hr h;rw[zA]at h1;obtain⟨s,hs,h1⟩:=h1;refine⟨_,h1,_,?_,RV_toD _⟩;have hb:=asBytesV_ok hs h4;have hk:(∃ g n ys,e = .sl g n ys) \/ ∃ k off n c s,e = .ref k off n c s:=by
    cases hi:d.isRef with
    | false=>obtain⟨g,ds,rfl,_⟩:=h5 hi;exact .inl ⟨_,_,_,rfl⟩
    | true=>
     unfold PD.isRef at hi;split at hi<;>try contradiction
     ·obtain⟨_,_,h6,_⟩:=hr;rcases h6 with⟨rfl,_⟩ | ⟨_,rfl,_⟩
      ·exact .inr ⟨_,_,_,_,_,rfl⟩
      ·exact .inl ⟨_,_,_,rfl⟩
     ·obtain⟨_,⟨_,_,rfl⟩,_⟩:=hr;exact .inr ⟨_,_,_,_,_,rfl⟩
   rcases hk with⟨g,n,ys,rfl⟩ | ⟨k,off,n,c,s',rfl⟩
   ·simp[opD,he,h3,hb,V.toD]
   ·simp[opD,he,h3,hb,V.toD]
 case csb x=>
  split at h<;>try contradiction
  next x hx=>rw[zA]at h;obtain⟨s,hs,h⟩:=h;obtain⟨e1,he1,hr1⟩:=evV_ok hg hS hx;have:=asStr_ok hs hr1;subst this;refine⟨_,h,.sl .no s.length (ofBytes s),by simp only[opD,he1],?_⟩;show(D.sl .no s.length (ofBytes s)).cl0=_;simp only[D.cl0,V.toD];rw[<- flatD_bytes,flatD_cl0];simp[ofBytesV]
 case ifc t x=>
  split at h<;>try contradiction
  split at h<;>try contradiction
  next d hd _ x hx=>obtain⟨e,he,hr⟩:=evH_ok hg hS hd;refine⟨_,h,.iface t e,by simp[opD,he],?_⟩;show(D.iface t e).cl0=_;simp only[D.cl0,V.toD,PD.pure_ok hr hx]
 case mkf f cap=>
  split at h<;>try contradiction
  next l hl=>
   obtain⟨es,h1,h2⟩:=evHL_ok hg hS hl;split at h<;>try contradiction
   next cap' hc=>exact⟨_,h,.fn f es,by simp[opD,h1],es,rfl,RCL_mk h2 hc⟩
 case slc sz x l h' m=>
  split at h<;>try contradiction
  split at h<;>try contradiction
  split at h<;>try contradiction
  split at h<;>try contradiction
  next d hd _ lv hl _ hv hh _ mv hm=>
   obtain⟨e,he,hr⟩:=evH_ok hg hS hd;obtain⟨l1,hl1,hl2⟩:=evVO_ok hg hS hl;obtain⟨h1,hh1,hh2⟩:=evVO_ok hg hS hh;obtain⟨m1,hm1,hm2⟩:=evVO_ok hg hS hm;split at h
   ·next k sz' off n c z=>
    split at h<;>try contradiction
    next hsz=>
     have hsz:=zJ hsz;subst hsz;rw[zA]at h;obtain⟨q,hq,h⟩:=h;unfold bndR at hq;rw[zA]at hq;obtain⟨l',hl',hq⟩:=hq;rw[zA]at hq;obtain⟨h'',hh',hq⟩:=hq;rw[zA]at hq;obtain⟨m',hm',hq⟩:=hq;split at hq<;>try contradiction
     next hc=>
      injection hq with hq;subst hq;have e1:=bndV_ok hl2 hl';have e2:=bndV_ok hh2 hh';have e3:=bndV_ok hm2 hm';obtain⟨hk,⟨hn,hcr⟩,hdd,hrk⟩:=hr;have hmn:m1.isNone=mv.isNone:=by cases m1<;>cases mv<;>simp_all
      have hhs:h1.isSome=hv.isSome:=by cases h1<;>cases hv<;>simp_all
      have hcl:l'<=h''/\h''<=m'/\m'<=c:=hc.2;rcases hdd with⟨rfl,_⟩ | ⟨rfl,rfl,_⟩
      ·refine⟨_,h,(if m'=l' then .sl .full 0 []else .ref (ρ k) (off*sz'+l'*sz') (h''-l') (m'-l') sz'),?_,?_⟩
       ·simp only[opD,he,zD,hl1,hh1,hm1,sliceD,e1,e2,e3];rw[zb ⟨by rw[hmn,hhs];exact hc.1,trivial,hcl.1,hcl.2.1,hcl.2.2,hcr⟩];rfl
       ·refine⟨hk,by simp only;omega,?_,fun s l hsl => ?_⟩
        ·simp only;by_cases hml:m'=l'
         ·right;exact⟨by omega,by rw[zb hml],trivial⟩
         ·left;rw[za hml,zy];exact⟨rfl,.inr (by omega)⟩
        ·obtain⟨h5,h6⟩:=hrk s l hsl;exact⟨h5,by simp only;omega⟩
      ·have hl0:l'=0:=by omega
       have hh0:h''=0:=by omega
       have hm0:m'=0:=by omega
       have hn0:n=0:=by omega
       subst hl0;subst hh0;subst hm0;subst hn0;refine⟨_,h,.sl .full 0 [],?_,?_⟩
       ·simp only[opD,he,zD,hl1,hh1,hm1,sliceD,e1,e2];cases m1 with
        | none=>simp
        | some m2=>
         have:h1.isSome=true:=by rw[hhs];rcases hc.1 with h7 | h7<;>simp_all
         simp only[e3,zD];rw[zb ⟨this,by omega,by omega,by omega⟩];simp
       ·exact⟨hk,by simp only;omega,.inr ⟨by simp,rfl,rfl⟩,fun s l hsl=>⟨(hrk s l hsl).1,by have:=(hrk s l hsl).2;simp only;omega⟩⟩
   ·contradiction
   ·next hnr hnu=>
    have hir:d.isRef=false:=by
     cases d with
     | agg ps=>rfl
     | s q=>cases q<;>first | rfl | exact(hnr _ _ _ _ _ _ rfl).elim | exact(hnu _ _ _ rfl).elim
    obtain⟨xs,h2,h3,_,h5⟩:=slK_ok hS hr h;obtain⟨g,ds,rfl,hds⟩:=h5 hir;split at h2
    ·next=>
     rw[zA]at h2;obtain⟨q,hq,h2⟩:=h2;unfold bnd2 at hq;rw[zA]at hq;obtain⟨l',hl',hq⟩:=hq;rw[zA]at hq;obtain⟨h'',hh',hq⟩:=hq;split at hq<;>try contradiction
     next hc=>
      injection hq with hq;subst hq;have e1:=bndV_ok hl2 hl';have e2:=bndV_ok hh2 hh';have hm0:m1=none:=by cases m1<;>simp_all
      subst hm0;have hll:((xs.drop l').take (h''-l')).length=h''-l':=by rw[zn,zo];omega
      refine⟨_,h2,_,by simp only[opD,he,zD,hl1,hh1,hm1,sliceD,e1,e2];rw[zb hc];rfl,?_⟩;show D.cl0 _=_;simp only[V.toD,hll];split
      ·next h0=>
       obtain⟨rfl,rfl⟩:=h0;simp only[D.cl0,hds,zU,Nat.sub_zero,List.take_length]
      ·simp only[D.cl0,cl0L_take,cl0L_drop,hds,flatD_drop h3,flatD_take (szOk_drop h3 _)]
    ·next m2=>
     rw[zA]at h2;obtain⟨q,hq,h2⟩:=h2;unfold bnd3 at hq;rw[zA]at hq;obtain⟨l',hl',hq⟩:=hq;rw[zA]at hq;obtain⟨h'',hh',hq⟩:=hq;rw[zA]at hq;obtain⟨m',hm',hq⟩:=hq;split at hq<;>try contradiction
     next hc=>
      injection hq with hq;subst hq;have e1:=bndV_ok hl2 hl';have e2:=bndV_ok hh2 hh';have e3:=bndV_ok hm2 hm';have hhs:h1.isSome=hv.isSome:=by cases h1<;>cases hv<;>simp_all
      obtain⟨m3,rfl⟩ : ∃ m3,m1=some m3:=by cases m1<;>simp_all
      have hll:((xs.drop l').take (h''-l')).length=h''-l':=by rw[zn,zo];omega
      refine⟨_,h2,.sl .full (h''-l') ((ds.drop (l'*sz)).take ((h''-l')*sz)),?_,_,by rw[hll],?_⟩
      ·simp only[opD,he,zD,hl1,hh1,hm1,sliceD,e1,e2,e3];rw[zb ⟨by rw[hhs];exact hc.1,hc.2.1,by omega,hc.2.2.2⟩,zb hc.2.2.1];rfl
      ·simp only[cl0L_take,cl0L_drop,hds,flatD_drop h3,flatD_take (szOk_drop h3 _)]
 case sls x l h'=>
  split at h<;>try contradiction
  split at h<;>try contradiction
  split at h<;>try contradiction
  next x hx _ lv hl _ hv hh=>
   rw[zA]at h;obtain⟨d,hd,h⟩:=h;obtain⟨e,he,hr⟩:=evV_ok hg hS hx;obtain⟨l1,hl1,hl2⟩:=evVO_ok hg hS hl;obtain⟨h1,hh1,hh2⟩:=evVO_ok hg hS hh;unfold slsV at hd;split at hd<;>try contradiction
   rw[zA]at hd;obtain⟨q,hq,hd⟩:=hd;injection hd with hd;subst hd;unfold bnd2 at hq;rw[zA]at hq;obtain⟨l',hl',hq⟩:=hq;rw[zA]at hq;obtain⟨h'',hh',hq⟩:=hq;split at hq<;>try contradiction
   next hc=>injection hq with hq;subst hq;refine⟨_,h,_,?_,RV_toD _⟩;simp only[opD,he,zD,hl1,hh1,cl0_str hr,sliceS,bndV_ok hl2 hl',bndV_ok hh2 hh'];rw[zb hc];rfl
 case sla n sz x l h' m=>
  split at h<;>try contradiction
  split at h<;>try contradiction
  split at h<;>try contradiction
  split at h<;>try contradiction
  next d hd _ lv hl _ hv hh _ mv hm=>
   unfold slaK at h;split at h<;>try contradiction
   next q=>
   split at h<;>try contradiction
   next k o=>
   split at h<;>try contradiction
   next fz sz' xs hrow=>
   split at h<;>try contradiction
   next hb=>
   simp only[zG]at hb;obtain⟨⟨ho,hsz⟩,hnc⟩:=hb;have ho:=zJ ho;subst ho;have hsz:=zJ hsz;subst hsz;have hnc:n<rcap:=zT hnc;obtain⟨hn,h⟩:=tst_some h;have hn:=zT hn;obtain⟨e,he,hr⟩:=evH_ok hg hS hd;obtain⟨hk,rfl⟩:=hr;obtain⟨l1,hl1,hl2⟩:=evVO_ok hg hS hl;obtain⟨h1,hh1,hh2⟩:=evVO_ok hg hS hh;obtain⟨m1,hm1,hm2⟩:=evVO_ok hg hS hm;rw[zA]at h;obtain⟨q,hq,h⟩:=h;unfold bndR at hq;rw[zA]at hq;obtain⟨l',hl',hq⟩:=hq;rw[zA]at hq;obtain⟨h'',hh',hq⟩:=hq;rw[zA]at hq;obtain⟨m',hm',hq⟩:=hq;split at hq<;>try contradiction
   next hc=>
    injection hq with hq;subst hq;have e1:=bndV_ok hl2 hl';have e2:=bndV_ok hh2 hh';have e3:=bndV_ok hm2 hm';have hmn:m1.isNone=mv.isNone:=by cases m1<;>cases mv<;>simp_all
    have hhs:h1.isSome=hv.isSome:=by cases h1<;>cases hv<;>simp_all
    have hcl:l'<=h''/\h''<=m'/\m'<=n:=hc.2;refine⟨_,h,(if m'=l' then .sl .full 0 []else .ref (ρ k) (0+l'*sz) (h''-l') (m'-l') sz),?_,?_⟩
    ·simp only[opD,he,zD,hl1,hh1,hm1,sliceA,e1,e2,e3];rw[zb ⟨by rw[hmn,hhs];exact hc.1,hc.2⟩];rfl
    ·refine⟨hk,by simp only;omega,?_,fun s l hsl => ?_⟩
     ·simp only;by_cases hml:m'=l'
      ·right;exact⟨by omega,by rw[zb hml],trivial⟩
      ·left;rw[za hml,zk];exact⟨rfl,.inr (by omega)⟩
     ·obtain⟨rr,h7,h8⟩:=rowR_some hrow;have hsl:rkOf p.rows k=some (s,l):=hsl;rw[rk_arr h7 h8]at hsl;simp only[zh,zi]at hsl;obtain⟨rfl,rfl⟩:=hsl;exact⟨rfl,by simp only;omega⟩
 case fad off x=>
  split at h<;>try contradiction
  next k o hd=>obtain⟨e,he,hr⟩:=evH_ok hg hS hd;obtain⟨h1,rfl⟩:=hr;exact⟨_,h,_,by simp[opD,he],h1,rfl⟩
  next k sz i o hd=>obtain⟨e,he,hr⟩:=evH_ok hg hS hd;obtain⟨h1,rfl,h2⟩:=hr;exact⟨_,h,.ptr (ρ k) (i*sz+o+off),by simp[opD,he];rfl,h1,by rw[Nat.add_assoc];rfl,h2⟩
  next cs hd=>obtain⟨e,he,hr⟩:=evH_ok hg hS hd;obtain⟨ds,rfl,h1⟩:=hr;exact⟨_,h,.el (ds.drop off),by simp[opD,he],_,rfl,by rw[<- toDL_drop];exact pre_drop h1 off⟩
  next sz x o hd=>obtain⟨e,he,hr⟩:=evH_ok hg hS hd;obtain⟨h1,ds,rfl,h2⟩:=hr;refine⟨_,h,.el (ds.drop off),by simp[opD,he],h1,_,rfl,?_⟩;have:=pre_drop h2 off;rw[List.drop_drop]at this;exact this
 case fld ag off sz x=>
  split at h<;>try contradiction
  next x hd=>
   obtain⟨e,he,hr⟩:=evH_ok hg hS hd;have hr:e.cl0=x.toD:=hr;split at h
   ·rw[zA]at h;obtain⟨d,hd,h⟩:=h;unfold subA at hd;split at hd<;>try contradiction
    split at hd<;>try contradiction
    next xs hle=>injection hd with hd;subst hd;obtain⟨l,rfl,hl⟩:=cl0_agg hr;have hll:=len_of hl;refine⟨_,h,.agg ((l.drop off).take sz),?_,sub_ok hl off sz⟩;simp only[opD,he,zD,zc];rw[zb (by omega)]
   ·rw[zA]at h;obtain⟨d,hd,h⟩:=h;unfold fldA at hd;split at hd<;>try contradiction
    obtain⟨l,rfl,hl⟩:=cl0_agg hr;obtain⟨w,hw,hcw⟩:=cl0_get hl hd;exact⟨_,h,w,by simp[opD,he,hw],hcw⟩
  next ps hd=>
   obtain⟨e,he,hr⟩:=evH_ok hg hS hd;obtain⟨ds,rfl,hds,h1⟩:=hr;have hl:=RSL_len hds;split at h
   ·split at h<;>try contradiction
    next hle=>have hle:=zT hle;refine⟨_,h,.agg ((ds.drop off).take sz),?_,mkAgg_ok (RSL_take (RSL_drop hds _) _) (allOne_take (allOne_drop h1 _) _)⟩;simp only[opD,he,zD,zc];rw[zb (by omega)]
   ·split at h<;>try contradiction
    next q hq=>obtain⟨w,hw,hcw⟩:=RSL_get hds hq;exact⟨_,h,w,by simp[opD,he,hw],hcw⟩
 case iad sz x i=>
  split at h<;>try contradiction
  split at h<;>try contradiction
  next d hd _ iv hi=>
   obtain⟨e,he,hr⟩:=evH_ok hg hS hd;obtain⟨e1,he1,hr1⟩:=evV_ok hg hS hi;split at h
   ·next k sz' off n c z=>
    split at h<;>try contradiction
    next hsz=>
     simp only[zG]at hsz;have h1:=zJ hsz.1;subst h1;rw[zA]at h;obtain⟨j,hj,h⟩:=h;have hj':=idxV_ok hr1 hj;have hlt:=idx_lt hj';obtain⟨hk,⟨hn,hcr⟩,hdd,hrk⟩:=hr;rcases hdd with⟨rfl,_⟩ | ⟨rfl,rfl,_⟩
     ·refine⟨_,h,.ptr (ρ k) (off*sz'+j*sz'),?_,hk,?_,fun s l hsl => ?_⟩
      ·simp only[opD,he,he1,zD,hj'];rw[zb trivial];rfl
      ·rw[zy];rfl
      ·obtain⟨h5,h6⟩:=hrk s l hsl;exact⟨h5,by omega⟩
     ·omega
   ·next k sz' n=>
    split at h<;>try contradiction
    next hsz=>
     simp only[zG]at hsz;have h1:=zJ hsz.1;subst h1;rw[zA]at h;obtain⟨j,hj,h⟩:=h;have hj':=idxV_ok hr1 hj;have hlt:=idx_lt hj';obtain⟨hk,⟨cp,hcp,rfl⟩,hrk⟩:=hr;refine⟨_,h,.ptr (ρ k) (0+j*sz'),?_,hk,?_,fun s l hsl => ?_⟩
     ·simp only[opD,he,he1,zD,hj'];rw[zb trivial];rfl
     ·rw[zk];rfl
     ·obtain⟨h5,h6⟩:=hrk s l hsl;exact⟨h5,by omega⟩
   ·next hnr hnu=>
    have hir:d.isRef=false:=by
     cases d with
     | agg ps=>rfl
     | s q=>cases q<;>first | rfl | exact(hnr _ _ _ _ _ _ rfl).elim | exact(hnu _ _ _ rfl).elim
    obtain⟨xs,h2,h3,_,h5⟩:=slK_ok hS hr h;obtain⟨g,ds,rfl,hds⟩:=h5 hir;rw[zA]at h2;obtain⟨j,hj,h2⟩:=h2;rw[zA]at h2;obtain⟨x,hx,h2⟩:=h2;have hj':=idxV_ok hr1 hj;have hlt:=idx_lt hj';have hl:ds.length=xs.length*sz:=by have:=congrArg List.length hds;rw[cl0L_len,flatD_len h3]at this;exact this
    have hmul:(j+1)*sz<=xs.length*sz:=zW _ hlt;refine⟨_,h2,.el (ds.drop (j*sz)),?_,szOk_get h3 hx,_,rfl,?_⟩
    ·simp only[opD,he,he1,zD,hj'];rw[zb (by omega)]
    ·rw[zU,cl0L_drop,hds,flatD_drop h3,flatD_at hx];exact List.prefix_append _ _
 case iaa n sz x i=>
  split at h<;>try contradiction
  next d hd=>
  split at h<;>try contradiction
  next iv hi=>
  obtain⟨e,he,hr⟩:=evH_ok hg hS hd;obtain⟨e1,he1,hr1⟩:=evV_ok hg hS hi;rw[zA]at h;obtain⟨j,hj,h⟩:=h;split at h<;>try contradiction
  next k o=>
   obtain⟨h1,rfl⟩:=hr;split at h
   ·next fz sz' xs hrow=>
    split at h<;>try contradiction
    next hb=>simp only[zG]at hb;obtain⟨ho,hsz⟩:=hb;have ho:=zJ ho;subst ho;have hsz:=zJ hsz;subst hsz;obtain⟨hlt,h⟩:=tst_some h;have hlt:j<xs.length:=zT hlt;refine⟨_,h,.ptr (ρ k) (0+j*sz),by simp[opD,he,he1,idxV_ok hr1 hj];rfl,h1,by rw[zk,zl];rfl,fun s n hsn => ?_⟩;obtain⟨rr,h7,h8⟩:=rowR_some hrow;have hsn:rkOf p.rows k=some (s,n):=hsn;rw[rk_arr h7 h8]at hsn;simp only[zh,zi]at hsn;obtain⟨rfl,rfl⟩:=hsn;exact⟨rfl,hlt⟩
   ·exact⟨_,h,.ptr (ρ k) (o+j*sz),by simp[opD,he,he1,idxV_ok hr1 hj];rfl,h1,rfl⟩
  next cs=>obtain⟨ds,rfl,h1⟩:=hr;exact⟨_,h,.el (ds.drop (j*sz)),by simp[opD,he,he1,idxV_ok hr1 hj],_,rfl,by rw[<- toDL_drop];exact pre_drop h1 _⟩
 case ixa ag n sz x i=>
  split at h<;>try contradiction
  split at h<;>try contradiction
  split at h<;>try contradiction
  next d0 hd0 _ x hx _ iv hi=>
   rw[zA]at h;obtain⟨d,hd,h⟩:=h;obtain⟨e,he,hr0⟩:=evH_ok hg hS hd0;have hr:=PD.pure_ok hr0 hx;obtain⟨e1,he1,hr1⟩:=evV_ok hg hS hi;unfold ixaV at hd;split at hd<;>try contradiction
   rw[zA]at hd;obtain⟨j,hj,hd⟩:=hd;obtain⟨l,rfl,hl⟩:=cl0_agg hr;have hll:=len_of hl;split at hd
   ·next hag=>
    split at hd<;>try contradiction
    next hle=>injection hd with hd;subst hd;refine⟨_,h,.agg ((l.drop (j*sz)).take sz),?_,sub_ok hl _ _⟩;simp only[opD,he,he1,zD,idxV_ok hr1 hj];rw[zb hag,zb (by omega)]
   ·next hag=>
    obtain⟨w,hw,hcw⟩:=cl0_get hl hd;refine⟨_,h,w,?_,hcw⟩;simp only[opD,he,he1,zD,idxV_ok hr1 hj];rw[za hag,hw];rfl
 case ixs x i=>
  split at h<;>try contradiction
  split at h<;>try contradiction
  next x hx _ iv hi=>
   rw[zA]at h;obtain⟨d,hd,h⟩:=h;obtain⟨e,he,hr⟩:=evV_ok hg hS hx;obtain⟨e1,he1,hr1⟩:=evV_ok hg hS hi;unfold ixsV at hd;split at hd<;>try contradiction
   rw[zA]at hd;obtain⟨j,hj,hd⟩:=hd;rw[zA]at hd;obtain⟨b,hb,hd⟩:=hd;injection hd with hd;subst hd;exact⟨_,h,.int .u8 b.toNat,by simp[opD,he,he1,cl0_str hr,idxV_ok hr1 hj,hb],rfl⟩
 case ext x i=>
  split at h<;>try contradiction
  next x hx=>
   rw[zA]at h;obtain⟨d,hd,h⟩:=h;obtain⟨e,he,hr⟩:=evV_ok hg hS hx;unfold extV at hd;split at hd<;>try contradiction
   obtain⟨l,rfl,hl⟩:=cl0_tup hr;obtain⟨w,hw,hcw⟩:=cl0_get hl hd;exact⟨_,h,w,by simp[opD,he,hw],hcw⟩
 case len x=>
  split at h<;>try contradiction
  next x hd=>
   obtain⟨e,he,hr⟩:=evH_ok hg hS hd;have hr:e.cl0=x.toD:=hr;rw[zA]at h;obtain⟨n,hn,h⟩:=h;unfold lenV at hn;split at hn<;>try contradiction
   injection hn with hn;subst hn;obtain⟨g,l,rfl,hl⟩:=cl0_sl hr;exact⟨_,h,.int .i64 _,by simp only[opD,he,zD],rfl⟩
  next id sz xs hd=>obtain⟨e,he,hr⟩:=evH_ok hg hS hd;obtain⟨g,ds,rfl,_⟩:=hr;exact⟨_,h,.int .i64 _,by simp only[opD,he,zD],rfl⟩
  next xs hd=>obtain⟨e,he,hr⟩:=evH_ok hg hS hd;obtain⟨ds,rfl,_⟩:=hr;exact⟨_,h,.int .i64 _,by simp only[opD,he,zD],rfl⟩
  next k sz off n c z hd=>
   obtain⟨e,he,hr⟩:=evH_ok hg hS hd;obtain⟨hk,⟨hn,_⟩,hdd,_⟩:=hr;rcases hdd with⟨rfl,_⟩ | ⟨h1,rfl,_⟩
   ·exact⟨_,h,.int .i64 _,by simp only[opD,he,zD],rfl⟩
   ·have:n=0:=by omega
    subst this;exact⟨_,h,.int .i64 _,by simp only[opD,he,zD],rfl⟩
  next k sz n hd=>obtain⟨e,he,hr⟩:=evH_ok hg hS hd;obtain⟨hk,⟨cp,_,rfl⟩,_⟩:=hr;exact⟨_,h,.int .i64 _,by simp only[opD,he,zD],rfl⟩
 case lns x=>
  split at h<;>try contradiction
  next x hx=>
   rw[zA]at h;obtain⟨d,hd,h⟩:=h;obtain⟨e,he,hr⟩:=evV_ok hg hS hx;unfold lnsV at hd;split at hd<;>try contradiction
   injection hd with hd;subst hd;exact⟨_,h,.int .i64 _,by simp only[opD,he,cl0_str hr],rfl⟩
 case cap x=>
  split at h<;>try contradiction
  next xs hd=>obtain⟨e,he,hr⟩:=evH_ok hg hS hd;obtain⟨ds,rfl,_⟩:=hr;exact⟨_,h,.int .i64 _,by simp only[opD,he,zD],rfl⟩
  next k sz off n c z hd=>
   obtain⟨e,he,hr⟩:=evH_ok hg hS hd;obtain⟨hk,⟨hn,hcr⟩,hdd,_⟩:=hr;rcases hdd with⟨rfl,_⟩ | ⟨h1,rfl,_⟩
   ·exact⟨_,h,.int .i64 _,by simp only[opD,he,zD];rw[zb hcr],rfl⟩
   ·subst h1;exact⟨_,h,.int .i64 _,by simp only[opD,he,zD],rfl⟩
 case min xs=>
  split at h<;>try contradiction
  next x l hl=>
   rw[zA]at h;obtain⟨d,hd,h⟩:=h;obtain⟨es,h1,h2⟩:=evVL_ok hg hS hl;cases es with
   | nil=>simp[cl0L,toDL]at h2
   | cons a b=>simp only[cl0L,toDL,List.cons.injEq]at h2;exact⟨_,h,_,by simp[opD,h1,minV_ok h2.1 h2.2 hd],RV_toD d⟩
 case max xs=>
  split at h<;>try contradiction
  next x l hl=>
   rw[zA]at h;obtain⟨d,hd,h⟩:=h;obtain⟨es,h1,h2⟩:=evVL_ok hg hS hl;cases es with
   | nil=>simp[cl0L,toDL]at h2
   | cons a b=>simp only[cl0L,toDL,List.cons.injEq]at h2;exact⟨_,h,_,by simp[opD,h1,maxV_ok h2.1 h2.2 hd],RV_toD d⟩
end
end
section
structure Le(c c':Cx):Prop where
 ρ : ∀ k,k<c.m->c'.ρ k=c.ρ k
 m:c.m<=c'.m
 rk : ∀ k,k<c.m->c'.rk k=c.rk k\/c'.rk k=none
 τ : ∀ i l,c.τ i=some l->c'.τ i=some l/\c'.tip l=c.tip l
 ni:c.ni<=c'.ni
structure LeS(id:Nat)(c c':Cx):Prop where
 ρ : ∀ k,k<c.m->c'.ρ k=c.ρ k
 m:c.m<=c'.m
 rk : ∀ k,k<c.m->c'.rk k=c.rk k\/c'.rk k=none
 τ : ∀ i l,i≠id->c.τ i=some l->c'.τ i=some l/\c'.tip l=c.tip l
 ni:c.ni<=c'.ni
theorem RCL.le{ρ ρ':Nat->Nat}{m m':Nat}(hρ : ∀ k,k<m->ρ' k=ρ k)(hm:m<=m'){cap:List CP}{ds:List D}(h:RCL ρ m cap ds):RCL ρ' m' cap ds:=by
 induction cap generalizing ds with
 | nil=>cases ds with | nil=>trivial | cons d s=>exact h.elim
 | cons q r ih=>cases ds with
  | nil=>exact h.elim
  | cons d s=>
   refine⟨?_,ih h.2⟩;cases q with
   | v x=>exact h.1
   | p k off=>obtain⟨h1,h2⟩:=h.1;exact⟨zK h1 hm,by rw[hρ k h1];exact h2⟩
theorem RS.leS{id:Nat}{c c':Cx}(h:LeS id c c'){q:PS}{d:D}(hr:RS c q d):RS c' (q.strip id) d:=by
 cases q with
 | v x=>exact hr
 | own i sz xs=>
  obtain⟨g,ds,h1,h2,h3,h0,h4⟩:=hr;simp only[PS.strip];split
  ·subst h1;show(D.sl _ _ _).cl0=_;simp only[D.cl0,V.toD,h2]
  ·next hi=>
   have hi:i≠id:=fun e=>by subst e;rw[Nat.beq_refl]at hi;contradiction
   refine⟨g,ds,h1,h2,h3,zK h0 h.ni,?_⟩;rcases h4 with h4 | ⟨l,h4,h5,h6⟩
   ·exact .inl h4
   ·obtain⟨h7,h8⟩:=h.τ i l hi h5;exact .inr ⟨l,h4,h7,by rw[h8];exact h6⟩
 | full xs=>exact hr
 | ptr k off=>exact⟨zK hr.1 h.m,by rw[h.ρ k hr.1];exact hr.2⟩
 | ptrA k sz i off=>
  refine⟨zK hr.1 h.m,by rw[h.ρ k hr.1];exact hr.2.1,fun s n hs => ?_⟩;rcases h.rk k hr.1 with e | e
  ·exact hr.2.2 s n (by rw[<- e];exact hs)
  ·rw[e]at hs;contradiction
 | ref k sz off n cp z=>
  refine⟨zK hr.1 h.m,hr.2.1,by rw[h.ρ k hr.1];exact hr.2.2.1,fun s n hs => ?_⟩;rcases h.rk k hr.1 with e | e
  ·exact hr.2.2.2 s n (by rw[<- e];exact hs)
  ·rw[e]at hs;contradiction
 | uref k sz n=>
  refine⟨zK hr.1 h.m,by rw[h.ρ k hr.1];exact hr.2.1,fun s n hs => ?_⟩;rcases h.rk k hr.1 with e | e
  ·exact hr.2.2 s n (by rw[<- e];exact hs)
  ·rw[e]at hs;contradiction
 | el cs=>exact hr
 | elx sz x off=>exact hr
 | fn f cap=>obtain⟨ds,h1,h2⟩:=hr;exact⟨ds,h1,RCL.le h.ρ h.m h2⟩
theorem RS.le{c c':Cx}(h:Le c c'){q:PS}{d:D}(hr:RS c q d):RS c' q d:=by
 cases q with
 | own i sz xs=>
  obtain⟨g,ds,h1,h2,h3,h0,h4⟩:=hr;refine⟨g,ds,h1,h2,h3,zK h0 h.ni,?_⟩;rcases h4 with h4 | ⟨l,h4,h5,h6⟩
  ·exact .inl h4
  ·obtain⟨h7,h8⟩:=h.τ i l h5;exact .inr ⟨l,h4,h7,by rw[h8];exact h6⟩
 | _=>exact RS.leS (id:=0) ⟨h.ρ,h.m,h.rk,fun i l _=>h.τ i l,h.ni⟩ hr
theorem RSL.leS{id:Nat}{c c':Cx}(h:LeS id c c'){ps:List PS}{ds:List D}(hr:RSL c ps ds):RSL c' (stripL id ps) ds:=by
 induction ps generalizing ds with
 | nil=>cases ds with | nil=>trivial | cons d s=>exact hr.elim
 | cons q r ih=>cases ds with
  | nil=>exact hr.elim
  | cons d s=>exact⟨RS.leS h hr.1,ih hr.2⟩
theorem RSL.le{c c':Cx}(h:Le c c'){ps:List PS}{ds:List D}(hr:RSL c ps ds):RSL c' ps ds:=by
 induction ps generalizing ds with
 | nil=>cases ds with | nil=>trivial | cons d s=>exact hr.elim
 | cons q r ih=>cases ds with
  | nil=>exact hr.elim
  | cons d s=>exact⟨RS.le h hr.1,ih hr.2⟩
theorem RP.leS{id:Nat}{c c':Cx}(h:LeS id c c'){q:PD}{d:D}(hr:RP c q d):RP c' (q.strip id) d:=by
 cases q with
 | s q=>exact RS.leS h hr
 | agg ps=>obtain⟨ds,h1,h2,h3⟩:=hr;exact⟨ds,h1,RSL.leS h h2,h3⟩
theorem RP.le{c c':Cx}(h:Le c c'){q:PD}{d:D}(hr:RP c q d):RP c' q d:=by
 cases q with
 | s q=>exact RS.le h hr
 | agg ps=>obtain⟨ds,h1,h2,h3⟩:=hr;exact⟨ds,h1,RSL.le h h2,h3⟩
theorem RPL.le{c c':Cx}(h:Le c c'){ps:List PD}{ds:List D}(hr:RPL c ps ds):RPL c' ps ds:=by
 induction ps generalizing ds with
 | nil=>cases ds with | nil=>trivial | cons d s=>exact hr.elim
 | cons q r ih=>cases ds with
  | nil=>exact hr.elim
  | cons d s=>exact⟨RP.le h hr.1,ih hr.2⟩
theorem RW.leS{id:Nat}{c c':Cx}(h:LeS id c c'){q:RowC}{o:Ob}(hr:RW c q o):RW c' (q.strip id) o:=by
 cases q with
 | cells ps=>obtain⟨ds,h1,h2,h3⟩:=hr;exact⟨ds,h1,RSL.leS h h2,h3⟩
 | _=>exact hr
theorem RW.le{c c':Cx}(h:Le c c'){q:RowC}{o:Ob}(hr:RW c q o):RW c' q o:=by
 cases q with
 | cells ps=>obtain⟨ds,h1,h2,h3⟩:=hr;exact⟨ds,h1,RSL.le h h2,h3⟩
 | _=>exact hr
def RowC.isArr:RowC->Bool
 | .arr _ _ _=>true
 | _=>false
def Wf(p:PSt):Prop:=(∀ t d,getF p.tm t=some (true,d)->d.hasOwn=false) /\ ∀ (k:Nat) (r:Row),p.rows[k]?=some r->r.ro=true->r.c.hasOwn=false
structure Goes(ρ:Nat->Nat)(τ:Nat->Option Nat)(p:PSt)(st:St)(ρ':Nat->Nat)(τ':Nat->Option Nat)(p':PSt)(st':St):Prop where
 sim:Sim ρ' τ' p' st'
 nx:st.nx<=st'.nx
 lo:st'.lo=st.lo
 len:p.rows.length<=p'.rows.length
 ρs : ∀ k,k<p.rows.length->ρ' k=ρ k
 ρn : ∀ k,p.rows.length<=k->k<p'.rows.length->st.nx<=ρ' k
 τn : ∀ i l,τ' i=some l->(∃ j,τ j=some l)\/st.nx<=l
 wf:Wf p->Wf p'
 ro:Wf p -> ∀ (k:Nat) (r:Row),p.rows[k]?=some r->r.ro=true->p'.rows[k]?=some r
 rof : ∀ (k:Nat) (r':Row),k<p.rows.length->p'.rows[k]?=some r'->r'.ro=true -> ∃ r:Row,p.rows[k]?=some r/\r.ro=true
 rk : ∀ k,k<p.rows.length->rkOf p'.rows k=rkOf p.rows k\/rkOf p'.rows k=none
 mem : ∀ b,b<st.nx->(∀ (k:Nat) (r:Row),p.rows[k]?=some r->ρ k=b->r.ro=true)->st'.mem b=st.mem b
 tip : ∀ l,l<st.nx->(∀ i,τ i≠some l)->st'.tip l=st.tip l
 lw : ∀ m,m<=st.lw->m<=st.nx->(∀ (k:Nat) (r:Row),p.rows[k]?=some r->r.ro=false\/r.c.isArr=true->m<=ρ k)->(∀ i l,τ i=some l->m<=l)->m<=st'.lw
 flg:Wf p -> ∀ t d,getF p'.tm t=some (true,d)->getF p.tm t=some (true,d)/\get st'.tm t=get st.tm t
theorem Goes.refl{ρ τ p st}(h:Sim ρ τ p st):Goes ρ τ p st ρ τ p st where
 sim:=h
 nx:=zR _
 lo:=rfl
 len:=zR _
 ρs _ _:=rfl
 ρn k h1 h2:=by omega
 τn i l h := .inl ⟨i,h⟩
 wf h:=h
 ro _ _ _ h _:=h
 rof _ r' _ h hr:=⟨r',h,hr⟩
 rk _ _ := .inl rfl
 mem _ _ _:=rfl
 tip _ _ _:=rfl
 lw _ h _ _ _:=h
 flg _ _ _ h:=⟨h,rfl⟩
theorem get_lt{α:Type}{xs:List α}{k:Nat}(h:k<xs.length) : ∃ x,xs[k]?=some x:=⟨_,zL h⟩
theorem Goes.trans{ρ τ p st ρ1 τ1 p1 st1 ρ2 τ2 p2 st2}(hw:Wf p)(h:Goes ρ τ p st ρ1 τ1 p1 st1)(k:Goes ρ1 τ1 p1 st1 ρ2 τ2 p2 st2):Goes ρ τ p st ρ2 τ2 p2 st2 where
 sim:=k.sim
 nx:=zp h.nx k.nx
 lo:=k.lo.trans h.lo
 len:=zp h.len k.len
 ρs j hj:=by rw[k.ρs j (zK hj h.len),h.ρs j hj]
 ρn j h1 h2:=by
  rcases zj j p1.rows.length with h3 | h3
  ·rw[k.ρs j h3];exact h.ρn j h1 h3
  ·exact zp h.nx (k.ρn j h3 h2)
 τn i l hi:=by
  rcases k.τn i l hi with⟨j,hj⟩ | hj
  ·exact h.τn j l hj
  ·exact .inr (zp h.nx hj)
 wf hw:=k.wf (h.wf hw)
 ro hw j r hj hr:=k.ro (h.wf hw) j r (h.ro hw j r hj hr) hr
 rof j r' hj h1 h2:=by obtain⟨r1,h3,h4⟩:=k.rof j r' (zK hj h.len) h1 h2;exact h.rof j r1 hj h3 h4
 rk j hj:=by
  rcases k.rk j (zK hj h.len)with e | e
  ·rw[e];exact h.rk j hj
  ·exact .inr e
 mem b hb hr:=by
  rw[k.mem b (zK hb h.nx) ?_,h.mem b hb hr];intro j r hj hjb;rcases zj j p.rows.length with h3 | h3
  ·obtain⟨r0,hr0⟩:=get_lt h3;rw[h.ρs j h3]at hjb;have hro:=hr j r0 hr0 hjb;have:=h.ro hw j r0 hr0 hro;rw[hj]at this;injection this with this;subst this;exact hro
  ·have:=h.ρn j h3 (getElem?_lt hj);omega
 tip l hl hn:=by
  rw[k.tip l (zK hl h.nx) ?_,h.tip l hl hn];intro i hi;rcases h.τn i l hi with⟨j,hj⟩ | hj
  ·exact hn j hj
  ·omega
 lw m h1 h2 h3 h4:=by
  refine k.lw m (h.lw m h1 h2 h3 h4) (zp h2 h.nx) ?_ ?_
  ·intro j r hj hr;rcases zj j p.rows.length with h5 | h5
   ·obtain⟨r0,hr0⟩:=get_lt h5;rw[h.ρs j h5];refine h3 j r0 hr0 ?_;cases hb:r0.ro with
    | false=>exact .inl rfl
    | true=>
     have:=h.ro hw j r0 hr0 hb;rw[hj]at this;injection this with this;subst this;rcases hr with hr | hr
     ·rw[hr]at hb;contradiction
     ·exact .inr hr
   ·exact zp h2 (h.ρn j h5 (getElem?_lt hj))
  ·intro i l hi;rcases h.τn i l hi with⟨j,hj⟩ | hj
   ·exact h4 j l hj
   ·exact zp h2 hj
 flg hw t d ht:=by obtain⟨h1,h2⟩:=k.flg (h.wf hw) t d ht;obtain⟨h3,h4⟩:=h.flg hw t d h1;exact⟨h3,h2.trans h4⟩
section
variable {ρ:Nat->Nat} {τ:Nat->Option Nat} {p:PSt} {st:St}
theorem newR_le(c:RowC):Le (cxOf ρ τ p st) ⟨fun k=>if k=p.rows.length then st.nx else ρ k,τ,p.rows.length+1,rkOf (p.newR c).rows,st.tip,p.ni⟩:=by
 refine⟨fun k hk => ?_,Nat.le_succ _,fun k hk => .inl ?_,fun i l h=>⟨h,rfl⟩,zR _⟩
 ·have hk:k<p.rows.length:=hk;show(if k=p.rows.length then st.nx else ρ k)=ρ k;rw[za (by omega)]
 ·have hk:k<p.rows.length:=hk;show rkOf (p.newR c).rows k=rkOf p.rows k;simp only[rkOf,PSt.newR,zt hk]
theorem newR_goes(hS:Sim ρ τ p st){c:RowC}{o:Ob}(hw:RW ⟨fun k=>if k=p.rows.length then st.nx else ρ k,τ,p.rows.length+1,rkOf (p.newR c).rows,st.tip,p.ni⟩ c o) :
  Goes ρ τ p st (fun k=>if k=p.rows.length then st.nx else ρ k) τ (p.newR c) (st.newOb o)/\(p.newR c).rows.length=p.rows.length+1:=by
 have hlen:(p.newR c).rows.length=p.rows.length+1:=by simp[PSt.newR]
 have hget : ∀ k,k<p.rows.length->(p.newR c).rows[k]?=p.rows[k]?:=fun k hk=>by simp[PSt.newR,zt hk]
 have hrk : ∀ k,k<p.rows.length->rkOf (p.newR c).rows k=rkOf p.rows k:=fun k hk=>by simp only[rkOf,hget k hk]
 have hle:Le (cxOf ρ τ p st) (cxOf (fun k=>if k=p.rows.length then st.nx else ρ k) τ (p.newR c) (st.newOb o)):=by refine⟨fun k hk => ?_,by simp[cxOf,hlen],fun k hk => .inl (hrk k hk),fun i l h=>⟨h,rfl⟩,zR _⟩;show(if k=p.rows.length then st.nx else ρ k)=ρ k;have hk:k<p.rows.length:=hk;rw[za (by omega)]
 have hcx:cxOf (fun k=>if k=p.rows.length then st.nx else ρ k) τ (p.newR c) (st.newOb o)=⟨fun k=>if k=p.rows.length then st.nx else ρ k,τ,p.rows.length+1,rkOf (p.newR c).rows,st.tip,p.ni⟩:=by simp only[cxOf,hlen];rfl
 refine⟨⟨?_,Nat.le_succ _,rfl,by omega,fun k hk => ?_,fun k h1 h2 => ?_,fun i l h => .inl ⟨i,h⟩,fun hw=>⟨hw.1,fun k r hk hr => ?_⟩,fun _ k r hk hr => ?_,fun k r' hk hr' hro=>⟨r',by rw[<- hget k hk];exact hr',hro⟩,fun k hk => .inl (hrk k hk),fun b hb _ => ?_,fun l hl _=>rfl,fun m h1 _ _ _=>h1,fun _ t d h=>⟨h,rfl⟩⟩,hlen⟩
 ·refine⟨fun t f d ht => ?_,fun k hk => ?_,fun k r hk => ?_,fun j k hj hk h => ?_,fun i l h => ?_,hS.linj⟩
  ·obtain⟨e,h1,h2⟩:=hS.tm t f d ht;exact⟨e,h1,RP.le hle h2⟩
  ·rw[hlen]at hk;show(if k=p.rows.length then st.nx else ρ k)<st.nx+1;split
   ·omega
   ·have:=hS.nx k (by omega);omega
  ·rcases zj k p.rows.length with h1 | h1
   ·rw[hget k h1]at hk;obtain⟨o',h2,h3⟩:=hS.rows k r hk;refine⟨o',?_,RW.le hle h3⟩;rcases h2 with h2 | h2
    ·exact .inl h2
    ·right;show upd st.mem st.nx o (if k=p.rows.length then st.nx else ρ k)=_;rw[za (by omega)];have:=hS.nx k h1;unfold upd;rw[za (by omega)];exact h2
   ·have hk':=getElem?_lt hk;rw[hlen]at hk';have:k=p.rows.length:=by omega
    subst this;have:r=⟨false,c⟩:=by simp[PSt.newR]at hk;exact hk.symm
    subst this;refine⟨o,.inr ?_,by rw[hcx];exact hw⟩;show upd st.mem st.nx o (if p.rows.length=p.rows.length then st.nx else _)=_;rw[zb rfl];unfold upd;rw[zb rfl]
  ·rw[hlen]at hj hk;have h:(if j=p.rows.length then st.nx else ρ j)=(if k=p.rows.length then st.nx else ρ k):=h;split at h<;>split at h
   ·omega
   ·have:=hS.nx k (by omega);omega
   ·have:=hS.nx j (by omega);omega
   ·exact hS.inj j k (by omega) (by omega) h
  ·obtain⟨h1,h2⟩:=hS.lin i l h;exact⟨h1,Nat.lt_succ_of_lt h2⟩
 ·show(if k=p.rows.length then st.nx else ρ k)=ρ k;rw[za (by omega)]
 ·rw[hlen]at h2;show st.nx<=(if k=p.rows.length then st.nx else ρ k);rw[zb (by omega)];exact zR _
 ·rcases zj k p.rows.length with h1 | h1
  ·rw[hget k h1]at hk;exact hw.2 k r hk hr
  ·have hk':=getElem?_lt hk;rw[hlen]at hk';have:k=p.rows.length:=by omega
   subst this;simp[PSt.newR]at hk;subst hk;contradiction
 ·rw[hget k (getElem?_lt hk)];exact hk
 ·show upd st.mem st.nx o b=_;unfold upd;rw[za (by omega)]
theorem setR_goes(hS:Sim ρ τ p st){k:Nat}{c c':RowC}{o:Ob}(hk:p.rows[k]?=some ⟨false,c⟩)(hrk:rkOf (p.setR k c').rows k=rkOf p.rows k)(hw:RW (cxOf ρ τ p st) c' o) :
  Goes ρ τ p st ρ τ (p.setR k c') (st.setOb (ρ k) o):=by
 have hkl:=getElem?_lt hk;have hlen:(p.setR k c').rows.length=p.rows.length:=by simp[PSt.setR]
 have hget : ∀ j,j≠k->(p.setR k c').rows[j]?=p.rows[j]?:=fun j hj=>by simp[PSt.setR,yc (fun e=>hj e.symm)]
 have hself:(p.setR k c').rows[k]?=some ⟨false,c'⟩:=by simp[PSt.setR,yb hkl]
 have hrk' : ∀ j,rkOf (p.setR k c').rows j=rkOf p.rows j:=fun j=>by
  by_cases e:j=k
  ·subst e;exact hrk
  ·simp only[rkOf,hget j e]
 have hrof : ∀ (j:Nat) (r':Row),j<p.rows.length->(p.setR k c').rows[j]?=some r'->r'.ro=true -> ∃ r:Row,p.rows[j]?=some r/\r.ro=true:=by
  intro j r' _ hj hr;by_cases e:j=k
  ·subst e;rw[hself]at hj;injection hj with hj;subst hj;contradiction
  ·rw[hget j e]at hj;exact⟨r',hj,hr⟩
 have hcx:cxOf ρ τ (p.setR k c') (st.setOb (ρ k) o)=cxOf ρ τ p st:=by simp only[cxOf,hlen,show rkOf (p.setR k c').rows=rkOf p.rows from funext hrk'];rfl
 refine⟨⟨fun t f d ht => ?_,fun j hj => ?_,fun j r hj => ?_,fun a b ha hb h => ?_,hS.lin,hS.linj⟩,zR _,rfl,by omega,fun _ _=>rfl,fun j h1 h2=>by omega,fun i l h => .inl ⟨i,h⟩,fun hw=>⟨hw.1,fun j r hj hr => ?_⟩,fun _ j r hj hr => ?_,hrof,fun j _ => .inl (hrk' j),fun b hb hr => ?_,fun l hl _=>rfl,fun m h1 _ h3 _ => ?_,fun _ t d h=>⟨h,rfl⟩⟩
 ·rw[hcx];exact hS.tm t f d ht
 ·rw[hlen]at hj;exact hS.nx j hj
 ·rw[hcx];by_cases e:j=k
  ·subst e;rw[hself]at hj;injection hj with hj;subst hj;refine⟨o,.inr ?_,hw⟩;show upd st.mem (ρ j) o (ρ j)=_;unfold upd;rw[zb rfl]
  ·rw[hget j e]at hj;obtain⟨o',h2,h3⟩:=hS.rows j r hj;refine⟨o',?_,h3⟩;rcases h2 with h2 | h2
   ·exact .inl h2
   ·right;show upd st.mem (ρ k) o (ρ j)=_;unfold upd;rw[za (fun h=>e (hS.inj j k (getElem?_lt hj) hkl h))];exact h2
 ·rw[hlen]at ha hb;exact hS.inj a b ha hb h
 ·by_cases e:j=k
  ·subst e;rw[hself]at hj;injection hj with hj;subst hj;contradiction
  ·rw[hget j e]at hj;exact hw.2 j r hj hr
 ·by_cases e:j=k
  ·subst e;rw[hk]at hj;injection hj with hj;subst hj;contradiction
  ·rw[hget j e];exact hj
 ·show upd st.mem (ρ k) o b=_;unfold upd;rw[za];intro e;have:=hr k _ hk e.symm;contradiction
 ·have h5:=h3 k _ hk (.inl rfl);show m<=(st.touch (ρ k)).lw;show m<=if ρ k<st.lw then ρ k else st.lw
  split<;>omega
theorem gone_goes(hS:Sim ρ τ p st){k:Nat}{c:RowC}(hk:p.rows[k]?=some ⟨false,c⟩)(hrk:rkOf (p.setR k .dead).rows k=rkOf p.rows k) :
  Goes ρ τ p st ρ τ (p.setR k .dead) (st.gone (ρ k)):=by
 have hkl:=getElem?_lt hk;have hlen:(p.setR k .dead).rows.length=p.rows.length:=by simp[PSt.setR]
 have hget : ∀ j,j≠k->(p.setR k .dead).rows[j]?=p.rows[j]?:=fun j hj=>by simp[PSt.setR,yc (fun e=>hj e.symm)]
 have hself:(p.setR k .dead).rows[k]?=some ⟨false,.dead⟩:=by simp[PSt.setR,yb hkl]
 have hrk' : ∀ j,rkOf (p.setR k .dead).rows j=rkOf p.rows j:=fun j=>by
  by_cases e:j=k
  ·subst e;exact hrk
  ·simp only[rkOf,hget j e]
 have hrof : ∀ (j:Nat) (r':Row),j<p.rows.length->(p.setR k .dead).rows[j]?=some r'->r'.ro=true -> ∃ r:Row,p.rows[j]?=some r/\r.ro=true:=by
  intro j r' _ hj hr;by_cases e:j=k
  ·subst e;rw[hself]at hj;injection hj with hj;subst hj;contradiction
  ·rw[hget j e]at hj;exact⟨r',hj,hr⟩
 have hcx:cxOf ρ τ (p.setR k .dead) (st.gone (ρ k))=cxOf ρ τ p st:=by simp only[cxOf,hlen,show rkOf (p.setR k .dead).rows=rkOf p.rows from funext hrk'];rfl
 refine⟨⟨fun t f d ht => ?_,fun j hj => ?_,fun j r hj => ?_,fun a b ha hb h => ?_,hS.lin,hS.linj⟩,zR _,rfl,by omega,fun _ _=>rfl,fun j h1 h2=>by omega,fun i l h => .inl ⟨i,h⟩,fun hw=>⟨hw.1,fun j r hj hr => ?_⟩,fun _ j r hj hr => ?_,hrof,fun j _ => .inl (hrk' j),fun b hb hr => ?_,fun l hl _=>rfl,fun m h1 _ h3 _ => ?_,fun _ t d h=>⟨h,rfl⟩⟩
 ·rw[hcx];exact hS.tm t f d ht
 ·rw[hlen]at hj;exact hS.nx j hj
 ·rw[hcx];by_cases e:j=k
  ·subst e;rw[hself]at hj;injection hj with hj;subst hj;exact⟨.iter [] 0,.inl rfl,trivial⟩
  ·rw[hget j e]at hj;obtain⟨o',h2,h3⟩:=hS.rows j r hj;refine⟨o',?_,h3⟩;rcases h2 with h2 | h2
   ·exact .inl h2
   ·right;show(if ρ j=ρ k then none else st.mem (ρ j))=_;rw[za (fun h=>e (hS.inj j k (getElem?_lt hj) hkl h))];exact h2
 ·rw[hlen]at ha hb;exact hS.inj a b ha hb h
 ·by_cases e:j=k
  ·subst e;rw[hself]at hj;injection hj with hj;subst hj;contradiction
  ·rw[hget j e]at hj;exact hw.2 j r hj hr
 ·by_cases e:j=k
  ·subst e;rw[hk]at hj;injection hj with hj;subst hj;contradiction
  ·rw[hget j e];exact hj
 ·show(if b=ρ k then none else st.mem b)=_;rw[za];intro e;have:=hr k _ hk e.symm;contradiction
 ·have h5:=h3 k _ hk (.inl rfl);show m<=(st.touch (ρ k)).lw;show m<=if ρ k<st.lw then ρ k else st.lw
  split<;>omega
theorem getF_strip(id:Nat)(tm:PTm)(t:Nat):getF (stripT id tm) t=(getF tm t).map fun q=>(q.1,q.2.strip id):=by
 induction tm with
 | nil=>rfl
 | cons e r ih=>
  obtain⟨i,f,d⟩:=e;simp only[stripT,getF];cases i.beq t
  ·exact ih
  ·rfl
theorem stripR_get(id:Nat)(rows:List Row)(k:Nat):(stripR id rows)[k]?=(rows[k]?).map fun r=>⟨r.ro,r.c.strip id⟩:=by
 induction rows generalizing k with
 | nil=>simp[stripR]
 | cons r s ih=>obtain⟨f,c⟩:=r;cases k<;>simp_all [stripR]
theorem stripR_len(id:Nat)(rows:List Row):(stripR id rows).length=rows.length:=by
 induction rows with
 | nil=>rfl
 | cons r s ih=>obtain⟨f,c⟩:=r;simp_all [stripR]
theorem strip_rk(id:Nat)(rows:List Row)(k:Nat):rkOf (stripR id rows) k=rkOf rows k:=by
 simp only[rkOf,stripR_get];cases h:rows[k]? with
 | none=>rfl
 | some r=>obtain⟨f,c⟩:=r;cases c<;>rfl
theorem strip_noOwn{id:Nat}{q:PS}(h:hasOwnL [q]=false):q.strip id=q:=by cases q<;>simp_all [hasOwnL,PS.strip]
theorem hasOwn_cons(q:PS)(r:List PS):hasOwnL (q::r)=(hasOwnL [q]||hasOwnL r):=by cases q<;>simp[hasOwnL]
theorem stripL_noOwn{id:Nat}{ps:List PS}(h:hasOwnL ps=false):stripL id ps=ps:=by
 induction ps with
 | nil=>rfl
 | cons q r ih=>rw[hasOwn_cons,Bool.or_eq_false_iff]at h;simp only[stripL,strip_noOwn h.1,ih h.2]
theorem PD.strip_noOwn{id:Nat}{d:PD}(h:d.hasOwn=false):d.strip id=d:=by
 cases d with
 | s q=>simp only[PD.strip,Ev.strip_noOwn h]
 | agg ps=>simp only[PD.strip,stripL_noOwn h]
theorem RowC.strip_noOwn{id:Nat}{c:RowC}(h:c.hasOwn=false):c.strip id=c:=by
 cases c with
 | cells ps=>simp only[RowC.strip,stripL_noOwn h]
 | _=>rfl
theorem strip_goes(hS:Sim ρ τ p st){id l:Nat}{τ':Nat->Option Nat}{st':St}(hid:id<p.ni)
  (htm:st'.tm=st.tm) (hmem:st'.mem=st.mem) (hlo:st'.lo=st.lo) (hnx:st.nx<=st'.nx) (hl:l<st'.nx)
  (htip : ∀ j,j≠l->st'.tip j=st.tip j) (hlw:st'.lw=st.lw\/st'.lw=if l<st.lw then l else st.lw)
  (hτ : ∀ i,i≠id->τ' i=τ i) (hτl:τ' id=some l) (hnew:τ id=some l/\st'.lw=(if l<st.lw then l else st.lw)\/st.nx<=l/\st'.lw=st.lw):Goes ρ τ p st ρ τ' (p.strip id) st':=by
 have hlen:(p.strip id).rows.length=p.rows.length:=stripR_len id p.rows;have hrof : ∀ (j:Nat) (r':Row),j<p.rows.length->(p.strip id).rows[j]?=some r'->r'.ro=true -> ∃ r:Row,p.rows[j]?=some r/\r.ro=true:=by intro j r' _ hj hr;simp only[PSt.strip,stripR_get,zB]at hj;obtain⟨r0,h1,rfl⟩:=hj;exact⟨r0,h1,hr⟩
 have hne : ∀ i j,i≠id->τ i=some j->j≠l:=by
  intro i j hi hj e;subst e;rcases hnew with⟨h,_⟩ | ⟨h,_⟩
  ·exact hi (hS.linj i id j hj h)
  ·have:=(hS.lin i j hj).2;omega
 have hle:LeS id (cxOf ρ τ p st) (cxOf ρ τ' (p.strip id) st'):=
  ⟨fun _ _=>rfl,by simp[cxOf,hlen],fun k _ => .inl (strip_rk id p.rows k),fun i j hi hj=>⟨by show τ' i=_;rw[hτ i hi];exact hj,htip j (hne i j hi hj)⟩,zR _⟩
 refine⟨⟨fun t f d ht => ?_,fun j hj => ?_,fun j r hj => ?_,fun a b ha hb h => ?_,fun i j h => ?_,fun i j a hi hj => ?_⟩,hnx,hlo,by omega,fun _ _=>rfl,fun j h1 h2=>by omega,fun i j h => ?_,fun hw=>⟨fun t d ht => ?_,fun j r hj hr => ?_⟩,fun hw j r hj hr => ?_,hrof,fun j _ => .inl (strip_rk id p.rows j),fun b hb hr=>by rw[hmem],fun j hj hn => ?_,fun m h1 h2 h3 h4 => ?_,fun hw t d ht => ?_⟩
 ·simp only[PSt.strip,getF_strip,zB]at ht;obtain⟨⟨f',d'⟩,h1,h2⟩:=ht;simp only[zi]at h2;obtain⟨rfl,rfl⟩:=h2;obtain⟨e,h3,h4⟩:=hS.tm t f' d' h1;exact⟨e,by rw[htm];exact h3,RP.leS hle h4⟩
 ·rw[hlen]at hj;exact zK (hS.nx j hj) hnx
 ·simp only[PSt.strip,stripR_get,zB]at hj;obtain⟨r',h1,rfl⟩:=hj;obtain⟨o,h2,h3⟩:=hS.rows j r' h1;refine⟨o,?_,RW.leS hle h3⟩;rcases h2 with h2 | h2
  ·left;simp only[h2,RowC.strip]
  ·right;rw[hmem];exact h2
 ·rw[hlen]at ha hb;exact hS.inj a b ha hb h
 ·by_cases e:i=id
  ·subst e;rw[hτl]at h;injection h with h;subst h;exact⟨hid,hl⟩
  ·rw[hτ i e]at h;obtain⟨h1,h2⟩:=hS.lin i j h;exact⟨h1,zK h2 hnx⟩
 ·by_cases e1:i=id<;>by_cases e2:j=id
  ·rw[e1,e2]
  ·subst e1;rw[hτl]at hi;injection hi with hi;subst hi;rw[hτ j e2]at hj;exact(hne j l e2 hj rfl).elim
  ·subst e2;rw[hτl]at hj;injection hj with hj;subst hj;rw[hτ i e1]at hi;exact(hne i l e1 hi rfl).elim
  ·rw[hτ i e1]at hi;rw[hτ j e2]at hj;exact hS.linj i j a hi hj
 ·by_cases e:i=id
  ·subst e;rw[hτl]at h;injection h with h;subst h;rcases hnew with⟨h,_⟩ | ⟨h,_⟩
   ·exact .inl ⟨i,h⟩
   ·exact .inr h
  ·rw[hτ i e]at h;exact .inl ⟨i,h⟩
 ·simp only[PSt.strip,getF_strip,zB]at ht;obtain⟨⟨f',d'⟩,h1,h2⟩:=ht;simp only[zi]at h2;obtain⟨rfl,rfl⟩:=h2;rw[PD.strip_noOwn (hw.1 t d' h1)];exact hw.1 t d' h1
 ·simp only[PSt.strip,stripR_get,zB]at hj;obtain⟨r',h1,rfl⟩:=hj;have:=hw.2 j r' h1 hr;simp only;rw[RowC.strip_noOwn this];exact this
 ·simp only[PSt.strip,stripR_get,hj,zC,RowC.strip_noOwn (hw.2 j r hj hr)]
 ·refine htip j ?_;intro e;subst e;rcases hnew with⟨h,_⟩ | ⟨h,_⟩
  ·exact hn id h
  ·omega
 ·rcases hnew with⟨h,h5⟩ | ⟨h,h5⟩
  ·have:=h4 id l h;rw[h5];split<;>omega
  ·rw[h5];exact h1
 ·simp only[PSt.strip,getF_strip,zB]at ht;obtain⟨⟨f',d'⟩,h1,h2⟩:=ht;simp only[zi]at h2;obtain⟨rfl,rfl⟩:=h2;rw[PD.strip_noOwn (hw.1 t d' h1)];exact⟨h1,by rw[htm]⟩
end
def AllRo(p:PSt):Prop := ∀ (k:Nat) (rw:Row),p.rows[k]?=some rw->rw.ro=true
structure Soft(x0:Nat)(τ:Nat->Option Nat)(p:PSt)(st:St)(τ':Nat->Option Nat)(p':PSt)(st':St):Prop where
 rows:p'.rows=p.rows
 lim:p'.lim=p.lim
 ni:p.ni<=p'.ni
 mem:st'.mem=st.mem
 τ : ∀ i,i<p.lim->τ' i=τ i
 hi : ∀ i l,p.lim<=i->τ' i=some l->x0<=l
 tip : ∀ l,l<x0->st'.tip l=st.tip l
structure SoftIn(x0:Nat)(τ:Nat->Option Nat)(p:PSt)(st:St):Prop where
 ro:AllRo p
 wf:Wf p
 lim:p.lim<=p.ni
 nx:x0<=st.nx
 hi : ∀ i l,p.lim<=i->τ i=some l->x0<=l
theorem Soft.refl{x0 τ p st}(h:SoftIn x0 τ p st):Soft x0 τ p st τ p st:=⟨rfl,rfl,zR _,rfl,fun _ _=>rfl,h.hi,fun _ _=>rfl⟩
theorem Soft.trans{x0 τ p st τ1 p1 st1 τ2 p2 st2}(h:Soft x0 τ p st τ1 p1 st1)(k:Soft x0 τ1 p1 st1 τ2 p2 st2):Soft x0 τ p st τ2 p2 st2:=
 ⟨k.rows.trans h.rows,k.lim.trans h.lim,zp h.ni k.ni,k.mem.trans h.mem,fun i hi=>(k.τ i (by rw[h.lim];exact hi)).trans (h.τ i hi),fun i l hi=>k.hi i l (by rw[h.lim];exact hi),fun l hl=>(k.tip l hl).trans (h.tip l hl)⟩
theorem Soft.inn{x0 ρ τ p st ρ1 τ1 p1 st1}(h:SoftIn x0 τ p st)(k:Soft x0 τ p st τ1 p1 st1)(g:Goes ρ τ p st ρ1 τ1 p1 st1):SoftIn x0 τ1 p1 st1:=
 ⟨fun j rw hj=>h.ro j rw (by rw[<- k.rows];exact hj),g.wf h.wf,by rw[k.lim];exact zp h.lim k.ni,zp h.nx g.nx,fun i l hi=>k.hi i l (by rw[<- k.lim];exact hi)⟩
theorem strip_ro{id:Nat}{rows:List Row}(h : ∀ (k:Nat) (rw:Row),rows[k]?=some rw->rw.c.hasOwn=false):stripR id rows=rows:=by
 apply List.ext_getElem?;intro k;rw[stripR_get];cases hk:rows[k]? with
 | none=>rfl
 | some rw=>simp only[zC,RowC.strip_noOwn (h k rw hk)]
end
section
section
variable {ρ:Nat->Nat} {τ:Nat->Option Nat} {p:PSt} {st:St} {ρ':Type} {r:ρ'}
theorem setAt_all{ds es:List D}(h:es.length=ds.length):setAt ds 0 es=es:=by simp[setAt,List.drop_of_length_le,h]
theorem storeK_ok(hS:Sim ρ τ p st){sz:Nat}{a v:PD}{d e:D}(ha:RP (cxOf ρ τ p st) a d)(hv:RP (cxOf ρ τ p st) v e){K:PSt->Option ρ'}(h:storeK p sz a v K=some r) :
  ∃ p',K p'=some r /\ ∃ k off st',d = .ptr k off/\e.cells.length=sz/\storeD st k off e.cells=some st'/\Goes ρ τ p st ρ τ p' st'/\p'.tm=p.tm:=by
 have fin : ∀ {k off:Nat} {ds:List D} {c c':RowC},p.rows[k]?=some ⟨false,c⟩->st.mem (ρ k)=some (.row ds false)->e.cells.length=sz->off+sz<=ds.length->allOne e.cells=true ->
   rkOf (p.setR k c').rows k=rkOf p.rows k->RW (cxOf ρ τ p st) c' (.row (setAt ds off e.cells) false)->K (p.setR k c')=some r->d = .ptr (ρ k) off ->
   ∃ p',K p'=some r /\ ∃ k off st',d = .ptr k off/\e.cells.length=sz/\storeD st k off e.cells=some st'/\Goes ρ τ p st ρ τ p' st'/\p'.tm=p.tm:=by
  intro k off ds c c' hk hm hl hle h1 hrk hw hK hd;refine⟨_,hK,_,_,_,hd,hl,?_,setR_goes hS hk hrk hw,rfl⟩;simp only[storeD,hm,hl];rw[zb ⟨hle,h1⟩]
 have rkn : ∀ {k:Nat} {c c':RowC},p.rows[k]?=some ⟨false,c⟩->(∀ f s x,c ≠ .arr f s x)->(∀ f s x,c' ≠ .arr f s x)->rkOf (p.setR k c').rows k=rkOf p.rows k:=by
  intro k c c' hk h1 h2;have hself:(p.setR k c').rows[k]?=some ⟨false,c'⟩:=by simp[PSt.setR,yb (getElem?_lt hk)]
  simp only[rkOf,hself,hk];cases c<;>cases c'<;>first | rfl | exact(h1 _ _ _ rfl).elim | exact(h2 _ _ _ rfl).elim
 cases a with
 | agg ps=>simp[storeK]at h
 | s q=>
  cases q<;>simp only[storeK]at h<;>try contradiction
  case ptr k off=>
   obtain⟨hk,hd⟩:=ha;have hd:d = .ptr (ρ k) off:=hd;split at h<;>try contradiction
   ·next n x hr=>
    have hr':=rowW_some hr;obtain⟨o,ho,ds,rfl,hds,hok⟩:=hS.rows k _ hr';rcases ho with ho | ho
    ·contradiction
    have hl:=len_of hds;have hn:=okN_len hok;split at h
    ·next hc=>
     simp only[zG]at hc;have h0:=zJ hc.1.1;subst h0;have hsz:=zJ hc.1.2;subst hsz;split at h
     ·next y=>
      obtain⟨hy,h⟩:=tst_some h;have hc:=cells_ok (show e.cl0=y.toD from hv);have hcl:e.cells.length=sz:=by rw[len_of hc,okN_len hy]
      refine fin hr' ho hcl (by omega) (allOne_of hc (okN_one hy)) (rkn hr' (by simp) (by simp)) (c' := .box sz y) ⟨_,rfl,?_,hy⟩ h hd;rw[setAt_all (by omega)];exact hc
     ·next v' _=>
      obtain⟨cs,h2,h3,h4,h5,h6⟩:=cellsK_ok hv h;refine fin hr' ho h6 (by omega) h5 (rkn hr' (by simp) (by simp)) (c' := .cells cs) ⟨_,rfl,?_,?_⟩ h2 hd
      ·rw[setAt_all (by omega)];exact h4
      ·rw[setAt_all (by omega)];exact h5
    ·split at h<;>try contradiction
     next hle=>have hle:=zT hle;have h2:=cellsFrom_all hok h;obtain⟨cs,h2,h3,h4,h5,h6⟩:=cellsK_ok hv h2;exact fin hr' ho h6 (by omega) h5 (rkn hr' (by simp) (by simp)) (c' := .cells _) ⟨_,rfl,RSL_set (RSL_v hds) h4 off,allOne_setAt (allOne_of hds (okN_one hok)) h5 off⟩ h2 hd
   ·next ps hr=>
    have hr':=rowW_some hr;obtain⟨o,ho,ds,rfl,hds,h1⟩:=hS.rows k _ hr';rcases ho with ho | ho
    ·contradiction
    have hl:=RSL_len hds;split at h
    ·next hc=>
     simp only[zG]at hc;have h0:=zJ hc.1.1;subst h0;have hsz:=zJ hc.1.2;split at h
     ·next y=>
      obtain⟨hy,h⟩:=tst_some h;have hc:=cells_ok (show e.cl0=y.toD from hv);have hcl:e.cells.length=sz:=by rw[len_of hc,okN_len hy]
      refine fin hr' ho hcl (by omega) (allOne_of hc (okN_one hy)) (rkn hr' (by simp) (by simp)) (c' := .box sz y) ⟨_,rfl,?_,hy⟩ h hd;rw[setAt_all (by omega)];exact hc
     ·next v' _=>
      obtain⟨cs,h2,h3,h4,h5,h6⟩:=cellsK_ok hv h;refine fin hr' ho h6 (by omega) h5 (rkn hr' (by simp) (by simp)) (c' := .cells cs) ⟨_,rfl,?_,?_⟩ h2 hd
      ·rw[setAt_all (by omega)];exact h4
      ·rw[setAt_all (by omega)];exact h5
    ·split at h<;>try contradiction
     next hle=>have hle:=zT hle;obtain⟨cs,h2,h3,h4,h5,h6⟩:=cellsK_ok hv h;exact fin hr' ho h6 (by omega) h5 (rkn hr' (by simp) (by simp)) (c' := .cells _) ⟨_,rfl,RSL_set hds h4 off,allOne_setAt h1 h5 off⟩ h2 hd
  case ptrA k sz' i off=>
   obtain⟨hk,hd,hrk⟩:=ha;have hd:d = .ptr (ρ k) (i*sz'+off):=hd;split at h<;>try contradiction
   split at h<;>try contradiction
   next szr xs hr _ y hy=>
    have hr':=rowW_some hr;obtain⟨o,ho,ds,b,rfl,hfz,hds,hsz⟩:=hS.rows k _ hr';have hfz:b=false:=hfz;subst hfz;rcases ho with ho | ho
    ·contradiction
    obtain⟨hs,hi⟩:=hrk _ _ (rk_arr hr' rfl);subst hs;have hey:=PD.pure_ok hv hy;have hc:=cells_ok hey;have hl:ds.length=xs.length*szr:=by have:=congrArg List.length hds;rw[cl0L_len,flatD_len hsz]at this;exact this
    have hmul:(i+1)*szr<=xs.length*szr:=zW _ hi;have hmul':(i+1)*szr=i*szr+szr:=by rw[zy,Nat.one_mul]
    have rka : ∀ x',rkOf (p.setR k (.arr .no szr (xs.set i x'))).rows k=rkOf p.rows k:=by
     intro x';have hself:(p.setR k (.arr .no szr (xs.set i x'))).rows[k]?=some ⟨false,.arr .no szr (xs.set i x')⟩:=by simp[PSt.setR,yb (getElem?_lt hr')]
     simp only[rkOf,hself,hr',List.length_set]
    obtain⟨e0,he0⟩:=get_lt hi;have hel:=okN_len (szOk_get hsz he0);have hpl:(toDL e0.parts).length=szr:=by rw[toDL_len,hel]
    split at h
    ·next hcc=>
     simp only[zG]at hcc;have h0:=zJ hcc.1;subst h0;have hsz':=zJ hcc.2;subst hsz';have key : ∀ y',y'.parts=y.parts->okN sz y=true->cl0L (setAt ds (i*sz+0) e.cells)=flatD (xs.set i y'):=by intro y' hyy hoy;have:=setAt_flat hsz hds (i:=i) (f:=0) (n:=sz) he0 hc (okN_len hoy) (by omega);rw[this,flatD_set he0,List.take_zero,List.nil_append,zk,List.drop_of_length_le (by omega),List.append_nil,hyy]
     split at h
     ·next h1=>
      have h1:=zJ h1;subst h1;obtain⟨hx,h⟩:=tst_some h;rw[zA]at h;obtain⟨c,hcc',h⟩:=h;obtain⟨hp,hone,hcp⟩:=one_cell hx hcc';refine fin hr' ho (by rw[len_of hc,okN_len hx]) (by omega) (allOne_of hc (okN_one hx)) (c' := .arr .no 1 (xs.set i c)) (rka c) ⟨_,_,rfl,rfl,key c (by rw[hcp,hp]) hx,szOk_set hsz (okN_mk (by rw[hcp];rfl) (by rw[hcp,<- hp];exact okN_one hx))⟩ h hd
     ·obtain⟨hx,h⟩:=tst_some h;exact fin hr' ho (by rw[len_of hc,okN_len hx]) (by omega) (allOne_of hc (okN_one hx)) (c' := .arr .no sz (xs.set i y)) (rka y) ⟨_,_,rfl,rfl,key y rfl hx,szOk_set hsz hx⟩ h hd
    ·split at h<;>try contradiction
     next hle=>
      simp only[zG]at hle;have hle1:=zT hle.1;have hle2:0<sz:=zT hle.2;rw[zA]at h;obtain⟨x0,hx0,h⟩:=h;rw[he0]at hx0;injection hx0 with hx0;subst hx0;obtain⟨hx,h⟩:=tst_some h;have hxl:=okN_len hx;have h1e:=okN_one (szOk_get hsz he0);refine fin hr' ho (by rw[len_of hc,okN_len hx]) (by omega) (allOne_of hc (okN_one hx)) (c' := .arr .no szr (xs.set i (.agg (setL e0.parts off y.parts)))) (rka _) ⟨_,_,rfl,rfl,?_,szOk_set hsz (okN_mk ?_ ?_)⟩ h hd
      ·have:=setAt_flat hsz hds (i:=i) (f:=off) (n:=sz) he0 hc hxl (by omega);rw[this,flatD_set he0];show _=_++toDL (setL e0.parts off y.parts)++_;simp only[setL,toDL_append,toDL_take,toDL_drop,hxl]
      ·show(setL e0.parts off y.parts).length=szr;simp only[setL,zZ,zn,zo,hxl];omega
      ·show allOneV (setL e0.parts off y.parts)=true;simp only[setL,allOneV_append,(allOneV_cut h1e _).1,(allOneV_cut h1e _).2,okN_one hx,Bool.and_self]
theorem strip_none(hS:Sim ρ τ p st){l:Nat}{st':St}(htm:st'.tm=st.tm)(hmem:st'.mem=st.mem)(hlo:st'.lo=st.lo)(hnx:st.nx<=st'.nx)(hl:l<st'.nx)(hln:st.nx<=l)
  (htip : ∀ j,j≠l->st'.tip j=st.tip j) (hlw:st'.lw=st.lw):Goes ρ τ p st ρ (fun i=>if i=p.ni then some l else τ i) { p with ni:=p.ni+1 } st':=by
 have hle:Le (cxOf ρ τ p st) (cxOf ρ (fun i=>if i=p.ni then some l else τ i) { p with ni:=p.ni+1 } st'):=by refine⟨fun _ _=>rfl,zR _,fun k _ => .inl rfl,fun i j h => ?_,Nat.le_succ _⟩;have h:τ i=some j:=h;have:=hS.lin i j h;refine⟨?_,htip j (by omega)⟩;show(if i=p.ni then some l else τ i)=some j;rw[za (by omega)];exact h
 refine⟨⟨fun t f d ht => ?_,fun j hj=>zK (hS.nx j hj) hnx,fun j r hj => ?_,hS.inj,fun i j h => ?_,fun i j a hi hj => ?_⟩,hnx,hlo,zR _,fun _ _=>rfl,fun j h1 h2=>absurd h2 (Nat.not_lt.2 h1),fun i j h => ?_,fun hw=>hw,fun _ _ _ h _=>h,fun _ r' _ h hr=>⟨r',h,hr⟩,fun _ _ => .inl rfl,fun b _ _=>by rw[hmem],fun j hj _=>htip j (by omega),fun m h1 _ _ _=>by rw[hlw];exact h1,fun _ t d h=>⟨h,by rw[htm]⟩⟩
 ·obtain⟨e,h1,h2⟩:=hS.tm t f d ht;exact⟨e,by rw[htm];exact h1,RP.le hle h2⟩
 ·obtain⟨o,h1,h2⟩:=hS.rows j r hj;exact⟨o,by rw[hmem];exact h1,RW.le hle h2⟩
 ·have h:(if i=p.ni then some l else τ i)=some j:=h;show i<p.ni+1/\j<st'.nx;split at h
  ·injection h with h;omega
  ·have:=hS.lin i j h;omega
 ·have hi:(if i=p.ni then some l else τ i)=some a:=hi;have hj:(if j=p.ni then some l else τ j)=some a:=hj;split at hi<;>split at hj
  ·omega
  ·injection hi with hi;have:=hS.lin j a hj;omega
  ·injection hj with hj;have:=hS.lin i a hi;omega
  ·exact hS.linj i j a hi hj
 ·have h:(if i=p.ni then some l else τ i)=some j:=h;split at h
  ·injection h with h;exact .inr (by omega)
  ·exact .inl ⟨i,h⟩
theorem setAt_flat2{sz:Nat}{xs ys:List V}(hs:szOk sz xs=true)(hy:szOk sz ys=true){ds es:List D}(hd:cl0L ds=flatD xs)(he:cl0L es=flatD ys)(o:Nat)(ho:o+ys.length<=xs.length) :
  cl0L (setAt ds (o*sz) es)=flatD (setL xs o ys):=by
 have hel:es.length=ys.length*sz:=by have:=congrArg List.length he;rw[cl0L_len,flatD_len hy]at this;exact this
 simp only[setAt,setL,cl0L_append,cl0L_take,cl0L_drop,hd,he,flatD_append,flatD_take hs,hel,<- zy,flatD_drop hs]
theorem szOk_setL{sz:Nat}{xs ys:List V}(hs:szOk sz xs=true)(hy:szOk sz ys=true)(o:Nat):szOk sz (setL xs o ys)=true:=by simp only[setL,szOk_append,szOk_take hs,szOk_drop hs,hy,Bool.and_self]
theorem setL_len{α:Type}{xs ys:List α}{o:Nat}(h:o+ys.length<=xs.length):(setL xs o ys).length=xs.length:=by simp only[setL,zZ,zn,zo];omega
theorem allOne_flat{sz:Nat}{xs:List V}{ds:List D}(hs:szOk sz xs=true)(h:cl0L ds=flatD xs):allOne ds=true:=by
 have : ∃ ys,flatD xs=toDL ys/\allOneV ys=true:=by
  clear h;induction xs with
  | nil=>exact⟨[],rfl,rfl⟩
  | cons x r ih=>obtain⟨ys,h1,h2⟩:=ih (szOk_cons.1 hs).2;refine⟨x.parts++ys,by simp only[flatD,toD_cells,h1,toDL_append],?_⟩;rw[allOneV_append,okN_one (szOk_cons.1 hs).1,h2];rfl
 obtain⟨ys,h1,h2⟩:=this;exact allOne_of (h.trans h1) h2
theorem appK_ok(hS:Sim ρ τ p st){sz bytes:Nat}{s:PD}{e:D}(hs:RP (cxOf ρ τ p st) s e){ys:List V}{es:List D}(hy:szOk sz ys=true)(he:cl0L es=flatD ys){K:PD->PSt->Option ρ'}(h:appK p sz bytes s ys K=some r) :
  ∃ d p',K d p'=some r /\ ∃ e' st' ρ1 τ1,appD sz bytes e ys.length es st=some (e',st')/\RP (cxOf ρ1 τ1 p' st') d e'/\Goes ρ τ p st ρ1 τ1 p' st'/\st'.tm=st.tm /\ ∀ x0,SoftIn x0 τ p st->ρ1=ρ/\Soft x0 τ p st τ1 p' st':=by
 have hb : ∀ {n m:Nat},appOk bytes n m=true->(n+m)*bytes<=140737488355328/\n+m<=140737488355328:=by intro n m h;simpa[appOk]using h
 -- a lineage that begins
 have fresh : ∀ (n:Nat),Goes ρ τ p st ρ (fun i=>if i=p.ni then some st.nx else τ i) { p with ni:=p.ni+1 } { st with tip:=upd st.tip st.nx n,nx:=st.nx+1 }:=by intro n;refine strip_none hS rfl rfl rfl (Nat.le_succ _) (yd _) (zR _) (fun j hj => ?_) rfl;show upd st.tip st.nx n j=_;unfold upd;rw[za hj]
 have soft : ∀ (n x0:Nat),SoftIn x0 τ p st->Soft x0 τ p st (fun i=>if i=p.ni then some st.nx else τ i) { p with ni:=p.ni+1 } { st with tip:=upd st.tip st.nx n,nx:=st.nx+1 }:=by
  intro n x0 hi;refine⟨rfl,rfl,Nat.le_succ _,rfl,fun i h => ?_,fun i l h1 h2 => ?_,fun l hl => ?_⟩
  ·have:=hi.lim;show(if i=p.ni then _ else _)=_;rw[za (by omega)]
  ·have h2:(if i=p.ni then some st.nx else τ i)=some l:=h2;split at h2
   ·injection h2 with h2;have:=hi.nx;omega
   ·exact hi.hi i l h1 h2
  ·have:=hi.nx;show upd st.tip st.nx n l=_;unfold upd;rw[za (by omega)]
 cases s with
 | agg ps=>simp[appK]at h
 | s q=>
  cases q<;>simp only[appK]at h<;>try contradiction
  case full xs=>
   split at h<;>try contradiction
   next hz=>
    have hz:0<sz:=zT hz;obtain⟨hx,h⟩:=tst_some h;obtain⟨hab,h⟩:=tst_some h;obtain⟨ds,rfl,hds⟩:=hs;obtain⟨hb1,hb2⟩:=hb hab;have hl:ds.length=xs.length*sz:=by have:=congrArg List.length hds;rw[cl0L_len,flatD_len hx]at this;exact this
    refine⟨_,_,h,.sl (.ln st.nx sz) (xs.length+ys.length) (ds++es),_,ρ,_,?_,?_,fresh (xs.length+ys.length),rfl,fun x0 hi=>⟨rfl,soft _ x0 hi⟩⟩
    ·simp only[appD];rw[zb ⟨hl,hb1,hb2,hz⟩]
    ·refine⟨_,_,by rw[zZ],by rw[cl0L_append,hds,he,flatD_append],by rw[szOk_append,hx,hy];rfl,?_,.inr ⟨st.nx,rfl,?_,?_⟩⟩
     ·exact yd _
     ·show(if p.ni=p.ni then some st.nx else τ p.ni)=_;rw[zb rfl]
     ·show upd st.tip st.nx _ st.nx=_;unfold upd;rw[zb rfl,zZ]
  case own id sz' xs=>
   split at h<;>try contradiction
   next hz=>
    simp only[zG]at hz;have hlim:p.lim<=id:=zT hz.2;have hz:=hz.1;have h1:=zJ hz.1;subst h1;have hz:0<sz:=zT hz.2;have hrows : ∀ x0,SoftIn x0 τ p st->(p.strip id).rows=p.rows:=fun x0 hi=>strip_ro (fun k rw hk=>hi.wf.2 k rw hk (hi.ro k rw hk))
    obtain⟨hab,h⟩:=tst_some h;obtain⟨g,ds,rfl,hds,hx,hid,hg⟩:=hs;obtain⟨hb1,hb2⟩:=hb hab;have hl:ds.length=xs.length*sz:=by have:=congrArg List.length hds;rw[cl0L_len,flatD_len hx]at this;exact this
    have hid:id<p.ni:=hid;rcases hg with rfl | ⟨l,rfl,hτ,htip⟩
    ·refine⟨_,_,h,.sl (.ln st.nx sz) (xs.length+ys.length) (ds++es),{ st with tip:=upd st.tip st.nx (xs.length+ys.length),nx:=st.nx+1 },ρ,fun i=>if i=id then some st.nx else τ i,?_,?_,?_,rfl,fun x0 hi=>⟨rfl,hrows x0 hi,rfl,zR _,rfl,fun i h => ?_,fun i l h1 h2 => ?_,fun l hl => ?_⟩⟩
     ·simp only[appD];rw[zb ⟨hl,hb1,hb2,hz⟩]
     ·refine⟨_,_,by rw[zZ],by rw[cl0L_append,hds,he,flatD_append],by rw[szOk_append,hx,hy];rfl,hid,.inr ⟨st.nx,rfl,?_,?_⟩⟩
      ·show(if id=id then some st.nx else τ id)=_;rw[zb rfl]
      ·show upd st.tip st.nx _ st.nx=_;unfold upd;rw[zb rfl,zZ]
     ·refine strip_goes (l:=st.nx) hS hid rfl rfl rfl (Nat.le_succ _) (yd _) (fun j hj => ?_) (.inl rfl) (fun i hi=>by simp only[za hi]) (by simp only[zc]) (.inr ⟨zR _,rfl⟩);show upd st.tip st.nx _ j=_;unfold upd;rw[za hj]
     ·show(if i=id then _ else _)=_;rw[za (by omega)]
     ·have h2:(if i=id then some st.nx else τ i)=some l:=h2;split at h2
      ·injection h2 with h2;have:=hi.nx;omega
      ·exact hi.hi i l h1 h2
     ·have:=hi.nx;show upd st.tip st.nx _ l=_;unfold upd;rw[za (by omega)]
    ·have hτ:τ id=some l:=hτ;have htip:st.tip l=some xs.length:=htip;have hln:=(hS.lin id l hτ).2;refine⟨_,_,h,.sl (.ln l sz) (xs.length+ys.length) (ds++es),{ st.touch l with tip:=upd st.tip l (xs.length+ys.length) },ρ,τ,?_,?_,?_,rfl,fun x0 hi=>⟨rfl,hrows x0 hi,rfl,zR _,rfl,fun i h=>rfl,hi.hi,fun l' hl => ?_⟩⟩
     ·simp only[appD];rw[zb ⟨hl,hb1,hb2,hz⟩,zb ⟨trivial,htip⟩]
     ·refine⟨_,_,by rw[zZ],by rw[cl0L_append,hds,he,flatD_append],by rw[szOk_append,hx,hy];rfl,?_,.inr ⟨l,rfl,hτ,?_⟩⟩
      ·exact hid
      ·show upd st.tip l _ l=_;unfold upd;rw[zb rfl,zZ]
     ·refine strip_goes hS hid rfl rfl rfl (zR _) hln (fun j hj => ?_) (.inr rfl) (fun _ _=>rfl) hτ (.inl ⟨hτ,rfl⟩);show upd st.tip l _ j=_;unfold upd;rw[za hj]
     ·have:=hi.hi id l hlim hτ;show upd st.tip l _ l'=_;unfold upd;rw[za (by omega)]
  case ref k sz' off n cp z=>
   split at h<;>try contradiction
   next hz=>
    simp only[zG]at hz;have h1:=zJ hz.1;subst h1;have hz:0<sz:=zT hz.2;split at h<;>try contradiction
    next fz szr xs hr=>
     obtain⟨hab,h⟩:=tst_some h;obtain⟨hb1,hb2⟩:=hb hab;obtain⟨hk,⟨hn,hcr⟩,hdd,hrk⟩:=hs;obtain⟨rr,hrr,hrc⟩:=rowR_some hr;obtain⟨hs,hlen⟩:=hrk _ _ (rk_arr hrr hrc);subst hs;obtain⟨o,ho,ds,b,rfl,hfz,hds,hsz⟩:=hS.row hr (by simp);have hl:ds.length=xs.length*szr:=by have:=congrArg List.length hds;rw[cl0L_len,flatD_len hsz]at this;exact this
     have hml:off*szr+cp*szr<=ds.length:=by rw[hl,<- zy];exact zW _ hlen
     have hesl:es.length=ys.length*szr:=by have:=congrArg List.length he;rw[cl0L_len,flatD_len hy]at this;exact this
     have hll:((xs.drop off).take n).length=n:=by rw[zn,zo];omega
     split at h
     ·next hc=>
      split at h<;>try contradiction
      next sz2 xs2 hw=>
       have hr':=rowW_some hw;rw[hr']at hrr;injection hrr with hrr;subst hrr;simp only[RowC.arr.injEq]at hrc;obtain⟨rfl,rfl,rfl⟩:=hrc;have hfz:b=false:=hfz;subst hfz;rcases hdd with⟨rfl,hzc⟩ | ⟨h0,rfl,hzt⟩
       ·have hlx:off+n+ys.length<=xs2.length:=by omega
        have hmn:(off+n)*sz2=off*sz2+n*sz2:=zy _ _ _;have hms:(off+n+ys.length)*sz2<=xs2.length*sz2:=zW _ hlx;have hms':(off+n+ys.length)*sz2=(off+n)*sz2+ys.length*sz2:=zy _ _ _;have hrk2:rkOf (p.setR k (.arr .no sz2 (setL xs2 (off+n) ys))).rows k=rkOf p.rows k:=by
         have hself:(p.setR k (.arr .no sz2 (setL xs2 (off+n) ys))).rows[k]?=some ⟨false,.arr .no sz2 (setL xs2 (off+n) ys)⟩:=by simp[PSt.setR,yb (getElem?_lt hr')]
         simp only[rkOf,hself,hr',setL_len hlx]
        have hg:=setR_goes hS (c' := .arr .no sz2 (setL xs2 (off+n) ys)) (o := .row (setAt ds ((off+n)*sz2) es) false) hr' hrk2 ⟨_,_,rfl,rfl,setAt_flat2 hsz hy hds he _ hlx,szOk_setL hsz hy _⟩;refine⟨_,_,h,.ref (ρ k) (off*sz2) (n+ys.length) cp sz2,_,ρ,τ,?_,?_,hg,rfl,fun x0 hi=>absurd (hi.ro k _ hr') (by simp)⟩
        ·have ho:st.mem ((cxOf ρ τ p st).ρ k)=some (.row ds false):=ho;simp only[appD,ho];rw[zb ⟨trivial,hml,hn,hcr,hb1,hb2,hz⟩,zb hc.1];simp only[storeD,ho,zF,zd];rw[zb ⟨by omega,allOne_flat hy he⟩,<- hmn];rfl
        ·refine⟨by show k<(p.setR k _).rows.length;simp[PSt.setR];exact hk,⟨hc.1,hcr⟩,.inl ⟨rfl,hzc⟩,fun s l hsl => ?_⟩;have hsl:rkOf (p.setR k (.arr .no sz2 (setL xs2 (off+n) ys))).rows k=some (s,l):=hsl;rw[hrk2]at hsl;exact hrk s l hsl
       ·rcases hc.2 with h5 | h5
        ·rw[hzt]at h5;contradiction
        ·omega
     ·next hc=>
      have hres:RP (cxOf ρ (fun i=>if i=p.ni then some st.nx else τ i) { p with ni:=p.ni+1 } { st with tip:=upd st.tip st.nx (n+ys.length),nx:=st.nx+1 }) (.s (.own p.ni szr ((xs.drop off).take n++ys)))
        (.sl (.ln st.nx szr) (n+ys.length) ((ds.drop (off*szr)).take (n*szr)++es)):=by
       refine⟨.ln st.nx szr,_,by rw[zZ,hll],?_,?_,yd _,.inr ⟨st.nx,rfl,?_,?_⟩⟩
       ·rw[cl0L_append,cl0L_take,cl0L_drop,hds,he,flatD_append,flatD_drop hsz,flatD_take (szOk_drop hsz _)]
       ·rw[szOk_append,szOk_take (szOk_drop hsz _),hy];rfl
       ·show(if p.ni=p.ni then some st.nx else τ p.ni)=_;rw[zb rfl]
       ·show upd st.tip st.nx _ st.nx=_;unfold upd;rw[zb rfl,zZ,hll]
      refine⟨_,_,h,_,_,ρ,_,?_,hres,fresh (n+ys.length),rfl,fun x0 hi=>⟨rfl,soft _ x0 hi⟩⟩;rcases hdd with⟨rfl,hzc⟩ | ⟨rfl,rfl,_⟩
      ·have ho:st.mem ((cxOf ρ τ p st).ρ k)=some (.row ds b):=ho;simp only[appD,ho];rw[zb ⟨trivial,hml,hn,hcr,hb1,hb2,hz⟩,za (fun hh=>hc ⟨hh,hzc⟩)]
      ·have hn0:n=0:=by omega
       subst hn0;simp only[appD];rw[zb ⟨by simp,hb1,hb2,hz⟩];simp
end
end
end Go.Ev
end
