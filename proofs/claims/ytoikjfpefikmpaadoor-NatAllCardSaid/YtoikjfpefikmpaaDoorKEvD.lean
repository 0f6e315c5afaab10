/- The machines Ev and Pv, part 4: an abstract machine over the translated code, proved sound once. -/
import Derived.Test.YtoikjfpefikmpaaDoorKEvC
import Derived.ChangeSlices
import Derived.OpenShut
import Derived.Test.YtoikjfpefikmpaaDoorKEvB
import Derived.LaidSub
set_option linter.all false
open Option renaming bind_eq_some_iff→zA,map_eq_some_iff→zB,map_some→zC,bind_some→zD,bind_assoc→zE
open Bool renaming false_eq_true→zF,and_eq_true→zG,true_eq_false→zX
open Nat renaming eq_of_beq_eq_true→zJ,lt_of_lt_of_le→zK,le_refl→zR,le_of_ble_eq_true→zT
open List renaming getElem?_eq_getElem→zL,getElem?_cons_succ→zN,mem_cons_of_mem→zP,drop_eq_nil_of_le→zQ,mem_cons→zS,length_append→zZ
section
namespace Go.Ev
section
variable {ρ:Nat→Nat} {τ:Nat→Option Nat} {p:PSt} {st:St} {ρ':Type} {r:ρ'}
theorem opX_nc{E:Env}{cf:Cf}{st:St}{o:O}(h1 : ∀ f xs,o ≠ .call f xs)(h2 : ∀ f xs,o ≠ .callv f xs)(h3 : ∀ x,o ≠ .pan x):opX E cf st o=(opD E st o).map fun p => .val p.1 p.2:=by
 cases o<;>first | rfl | exact(h1 _ _ rfl).elim | exact(h2 _ _ rfl).elim | exact(h3 _ rfl).elim
theorem RPL_append{c:Cx}{a b:List PD}{d e:List D}(h:RPL c a d)(k:RPL c b e):RPL c (a++b) (d++e):=by
 induction a generalizing d with
 | nil=>cases d with | nil=>simpa using k | cons _ _=>exact h.elim
 | cons x r ih=>cases d with
  | nil=>exact h.elim
  | cons y s=>exact⟨h.1,ih h.2⟩
theorem RPL_cap{c:Cx}{cap:List CP}{ds:List D}(h:RCL c.ρ c.m cap ds):RPL c (cap.map capD) ds:=by
 induction cap generalizing ds with
 | nil=>cases ds with | nil=>trivial | cons _ _=>exact h.elim
 | cons q r ih=>cases ds with
  | nil=>exact h.elim
  | cons d s=>cases q<;>exact⟨h.1,ih h.2⟩
theorem popX{E:Env}{gl:Gl}{pc:PcT}(hg:GlR E gl)(hpc:PcOk E gl.md pc)(hS:Sim ρ τ p st)(hw:Wf p){o:O}{K:Option PD→PSt→Option ρ'}(h:popK gl pc p o K=some r) :
  ∃ d p',K d p'=some r ∧ ∃ e st' ρ1 τ1,opX E (callL E) st o=some (.val e st')∧RO (cxOf ρ1 τ1 p' st') d e∧Goes ρ τ p st ρ1 τ1 p' st'∧st'.tm=st.tm ∧
   (still gl.md o=true → ∀ x0,SoftIn x0 τ p st→ρ1=ρ∧Soft x0 τ p st τ1 p' st'):=by
 have callN : ∀ {f:Nat} {ds:List PD} {es:List D},RPL (cxOf ρ τ p st) ds es→callN pc f ds p (fun d p'=>K (some d) p')=some r→opX E (callL E) st o=((callL E f es st).map outV) →
   ∃ d p',K d p'=some r ∧ ∃ e st' ρ1 τ1,opX E (callL E) st o=some (.val e st')∧RO (cxOf ρ1 τ1 p' st') d e∧Goes ρ τ p st ρ1 τ1 p' st'∧st'.tm=st.tm ∧
    (still gl.md o=true → ∀ x0,SoftIn x0 τ p st→ρ1=ρ∧Soft x0 τ p st τ1 p' st'):=by
  intro f ds es hr hk he
  obtain⟨d,p',h1,e,st',h2,h3,h4,h5,h6,h7,h8⟩:=callN_ok hpc.n hS hw hr hk
  exact⟨some d,p',h1,some e,st',ρ,τ,by rw[he,h2];rfl,h3,h4,h5,fun _ x0 ha=>⟨rfl,callN_soft h7 h8 ha⟩⟩
 by_cases hc1 : ∃ f xs,o = .call f xs
 ·obtain⟨f,xs,rfl⟩:=hc1
  simp only[popK]at h
  split at h<;>try contradiction
  next ds hds=>
   obtain⟨es,h1,h2⟩:=evHL_ok hg hS hds
   obtain⟨d,p',h3,e,st',τ1,h4,h5,h6,h7,h8⟩:=callK_ok hpc hS hw h2 h
   refine⟨some d,p',h3,some e,st',ρ,τ1,by simp[opX,h1,h4,outV],h5,h6,h7,fun hs x0 ha=>⟨rfl,h8 (fun sz hm => ?_) x0 ha⟩⟩
   simp[still,hm]at hs
 by_cases hc2 : ∃ f xs,o = .callv f xs
 ·obtain⟨g,xs,rfl⟩:=hc2
  simp only[popK]at h
  split at h<;>try contradiction
  ·next f cap hf=>
   split at h<;>try contradiction
   next ds hds=>
    obtain⟨e,he,hr⟩:=evH_ok hg hS hf
    obtain⟨cs,rfl,hcs⟩:=hr
    obtain⟨es,h1,h2⟩:=evHL_ok hg hS hds
    exact callN (RPL_append h2 (RPL_cap hcs)) h (by simp[opX,he,h1])
  ·next x hx=>
   split at h<;>try contradiction
   next ds hds=>
    rw[zA]at h
    obtain⟨q,hq,h⟩:=h
    obtain⟨e,he,hr⟩:=evH_ok hg hS hx
    have hfn:=asFn_ok hq hr
    subst hfn
    split at h<;>try contradiction
    next hq2=>
     obtain⟨es,h1,h2⟩:=evHL_ok hg hS hds
     exact callN h2 h (by simp[opX,he,h1,hq2,toDL])
 have hc1 : ∀ f xs,o ≠ .call f xs:=fun f xs e=>hc1 ⟨f,xs,e⟩
 have hc2 : ∀ f xs,o ≠ .callv f xs:=fun f xs e=>hc2 ⟨f,xs,e⟩
 have hc3 : ∀ x,o ≠ .pan x:=fun x e=>by subst e;simp[popK]at h
 by_cases hq:quiet o=true
 ·obtain⟨d,h1,e,h2,h3⟩:=popA hg hS hq h
  exact⟨some d,p,h1,some e,st,ρ,τ,by rw[opX_nc hc1 hc2 hc3,h2];rfl,h3,.refl hS,rfl,fun _ x0 hi=>⟨rfl,.refl hi⟩⟩
 by_cases hap:isApp o=true
 ·obtain⟨d,p',h1,e,st',ρ1,τ1,h2,h3,h4,h5,h6⟩:=popC hg hS hap h
  exact⟨d,p',h1,e,st',ρ1,τ1,by rw[opX_nc hc1 hc2 hc3,h2];rfl,h3,h4,h5,fun _=>h6⟩
 ·obtain⟨d,p',h1,e,st',ρ1,τ1,h2,h3,h4,h5⟩:=popB hg hS hc1 hc2 h
  refine⟨d,p',h1,e,st',ρ1,τ1,by rw[opX_nc hc1 hc2 hc3,h2];rfl,h3,h4,h5,fun hs => ?_⟩
  exfalso
  cases o<;>simp[quiet,still,isApp]at hq hs hap
  ·exact hc1 _ _ rfl
  ·exact hc2 _ _ rfl
theorem popS{E:Env}{gl:Gl}{pc:PcT}(hg:GlR E gl)(hpc:PcOk E gl.md pc)(hS:Sim ρ τ p st)(hw:Wf p){o:O}{dst:Option Nat}{K:PSt→Option ρ'}(h:(popK gl pc p o fun r p'=>match setP p' dst r with | some p''=>K p'' | none=>none)=some r) :
  ∃ p',K p'=some r ∧ ∃ st' ρ1 τ1,opR E (callL E) dst st o=some (.ok st')∧Goes ρ τ p st ρ1 τ1 p' st'∧(∀ t,dst≠some t→get st'.tm t=get st.tm t) ∧
   (still gl.md o=true → ∀ x0,SoftIn x0 τ p st→ρ1=ρ∧Soft x0 τ p st τ1 p' st'):=by
 obtain⟨d,p',h1,e,st',ρ1,τ1,h2,h3,h4,h5,h6⟩:=popX hg hpc hS hw h
 split at h1<;>try contradiction
 next p'' hp=>
  have h7:=setP_goes h4.sim h3 hp
  refine⟨p'',h1,st'.set dst e,ρ1,τ1,by simp[opR,h2,Rv.to],h4.trans hw h7,fun t ht => ?_,fun hs x0 ha => ?_⟩
  ·rw[← h5]
   cases e with
   | none=>cases dst with
    | none=>rfl
    | some u=>
     show get (Ev.del st'.tm u) t=_
     rw[get_del,if_neg (fun e=>ht (by rw[e]))]
   | some e=>cases dst with
    | none=>rfl
    | some u=>
     show get (Ev.put st'.tm u e) t=_
     rw[get_put,if_neg (fun e=>ht (by rw[e]))]
  ·obtain⟨rfl,h9⟩:=h6 hs x0 ha
   have hrow:p''.rows=p'.rows∧p''.ni=p'.ni∧p''.lim=p'.lim:=by
    unfold setP at hp
    split at hp
    ·injection hp with hp;subst hp;exact⟨rfl,rfl,rfl⟩
    ·split at hp<;>(split at hp<;>try contradiction)<;>(injection hp with hp;subst hp;exact⟨rfl,rfl,rfl⟩)
   have hst:(st'.set dst e).mem=st'.mem∧(st'.set dst e).tip=st'.tip∧(st'.set dst e).nx=st'.nx:=by
    cases e<;>cases dst<;>exact⟨rfl,rfl,rfl⟩
   exact⟨rfl,hrow.1.trans h9.rows,hrow.2.2.trans h9.lim,by rw[hrow.2.1];exact h9.ni,hst.1.trans h9.mem,h9.τ,h9.hi,fun l hl=>by rw[hst.2.1];exact h9.tip l hl⟩
theorem setP_off(hS:Sim ρ τ p st){dst:Option Nat}{p':PSt}(h:setP p dst none=some p'):Goes ρ τ p st ρ τ p' (st.put dst .off):=by
 unfold setP at h
 split at h
 ·injection h with h;subst h;exact .refl hS
 ·next t=>
  simp only at h
  split at h<;>try contradiction
  next tm hp=>
   injection h with h;subst h
   refine tm_goes hS (tm':=Ev.put st.tm t .off) (fun u f d' hu => ?_) (fun u d' hu => ?_)
   ·rw[(getF_del hp u).1]at hu
    rw[get_put]
    split at hu
    ·contradiction
    ·next h=>rw[if_neg h];exact hS.tm u f d' hu
   ·rw[(getF_del hp u).1]at hu
    split at hu
    ·contradiction
    ·next h=>exact⟨hu,by rw[get_put,if_neg h]⟩
theorem pone_ok{E:Env}{gl:Gl}{pc:PcT}(hg:GlR E gl)(hpc:PcOk E gl.md pc)(hS:Sim ρ τ p st)(hw:Wf p){o:OpC}{K:PSt→Option ρ'}(h:pone gl pc o p K=some r) :
  ∃ p',K p'=some r ∧ ∃ st' ρ1 τ1,opC E (callL E) o st=some (.ok st')∧Goes ρ τ p st ρ1 τ1 p' st'∧(still gl.md o.op=true → ∀ x0,SoftIn x0 τ p st→ρ1=ρ∧Soft x0 τ p st τ1 p' st'):=by
 unfold pone at h
 split at h
 ·next hgd=>
  obtain⟨p',h1,st',ρ1,τ1,h2,h3,_,h4⟩:=popS hg hpc hS hw h
  exact⟨p',h1,st',ρ1,τ1,by simp[opC,wants,hgd,h2],h3,h4⟩
 ·next t b hgd=>
  split at h<;>try contradiction
  next c hc=>
   rw[zA]at h
   obtain⟨cb,hcb,h⟩:=h
   obtain⟨e,he,hr⟩:=evV_ok (E:=E) hg hS hc
   have:=asBool_ok hcb hr;subst this
   have he:get st.tm t=some (.bool cb):=he
   split at h
   ·next hcb2=>
    obtain⟨p',h1,st',ρ1,τ1,h2,h3,_,h4⟩:=popS hg hpc hS hw h
    refine⟨p',h1,st',ρ1,τ1,?_,h3,h4⟩
    subst hcb2
    simp[opC,wants,hgd,he,h2]
   ·next hcb2=>
    split at h<;>try contradiction
    next p'' hp=>
     have h7:=setP_off hS hp
     refine⟨p'',h,st.put o.dst .off,ρ,τ,?_,h7,fun _ x0 hi=>⟨rfl,?_⟩⟩
     ·have:(cb == b)=false:=by cases cb<;>cases b<;>simp_all
      simp only[opC,wants,hgd,he,this]
     ·have hrow:p''.rows=p.rows∧p''.ni=p.ni∧p''.lim=p.lim:=by
       unfold setP at hp
       split at hp
       ·injection hp with hp;subst hp;exact⟨rfl,rfl,rfl⟩
       ·split at hp<;>(split at hp<;>try contradiction)<;>(injection hp with hp;subst hp;exact⟨rfl,rfl,rfl⟩)
      refine⟨hrow.1,hrow.2.2,by rw[hrow.2.1];exact zR _,?_,fun _ _=>rfl,hi.hi,fun l _ => ?_⟩<;>cases o.dst<;>rfl
theorem freshD_ok{tm:PTm}{l:List Nat}(h:freshD tm l=true){t:Nat}{f:Bool}{d:PD}(ht:getF tm t=some (f,d)):t ∉ l:=by
 induction l with
 | nil=>simp
 | cons u r ih=>
  simp only[freshD,zG]at h
  intro hm
  rcases List.mem_cons.1 hm with rfl | hm
  ·rw[ht]at h;exact absurd h.1 (by simp)
  ·exact ih h.2 hm
theorem callL_fr(E:Env):CfFr (callL E):=by
 intro f ds st o st' h
 obtain⟨m,hm⟩:=callL_iff.1 h
 exact Fq.call f ds st o st' hm
/-- slots that some operations do not write -/
theorem run_other{E:Env}{l:List OpC}{st st':St}(h:runOps E (callL E) l st=some (.ok st')){t:Nat}(ht : ∀ o∈l,o.dst≠some t):get st'.tm t=get st.tm t:=by
 induction l generalizing st with
 | nil=>simp only[runOps,Option.some.injEq,Rs.ok.injEq]at h;rw[h]
 | cons o r ih=>
  simp only[runOps]at h
  cases ho:opC E (callL E) o st with
  | none=>rw[ho]at h;simp at h
  | some q=>cases q with
   | pan d s=>rw[ho]at h;simp at h
   | ok s=>
    rw[ho]at h
    rw[ih h (fun o' ho'=>ht o' (zP _ ho')),opC_other (callL_fr E) ho (ht o List.mem_cons_self)]
theorem regd_dst(g:Option (Nat×Bool))(o:OpC):(regd g o).dst=o.dst:=by unfold regd;split<;>rfl
theorem erase_dst{g:Option (Nat×Bool)}{l:PO}{t:Nat}(ht:t ∉ dstsP l) : ∀ o∈eraseG g l,o.dst≠some t:=by
 induction l generalizing g with
 | nil=>intro o ho;simp[eraseG]at ho
 | one o r ih=>
  simp only[dstsP,List.mem_append,not_or]at ht
  intro o' ho'
  simp only[eraseG,zS]at ho'
  rcases ho' with rfl | ho'
  ·rw[regd_dst]
   intro e
   rw[e]at ht
   simp at ht
  ·exact ih ht.2 o' ho'
 | box n dst x r ih=>
  simp only[dstsP,zS,not_or]at ht
  intro o' ho'
  simp only[eraseG,zS]at ho'
  rcases ho' with rfl | ho'
  ·intro e;injection e with e;exact ht.1 e.symm
  ·exact ih ht.2 o' ho'
 | grp c w ops dst a b r ih1 ih2=>
  simp only[dstsP,List.mem_append,zS,not_or]at ht
  intro o' ho'
  simp only[eraseG,List.mem_append,zS]at ho'
  rcases ho' with ho' | rfl | ho'
  ·exact ih1 ht.1 o' ho'
  ·intro e;injection e with e;exact ht.2.1 e.symm
  ·exact ih2 ht.2.2 o' ho'
/-- a guard that holds -/
theorem guard_yes{E:Env}{c:Nat}{w:Bool}{l:PO}(hc:c ∉ dstsP l){st:St}(hg:get st.tm c=some (.bool w)):runOps E (callL E) (eraseG (some (c,w)) l) st=runOps E (callL E) (eraseG none l) st:=by
 have one : ∀ (d:Option Nat) (op:O) (st:St),get st.tm c=some (.bool w)→opC E (callL E) ⟨d,op,some (c,w)⟩ st=opC E (callL E) ⟨d,op,none⟩ st:=by
  intro d op st hg
  simp only[opC,wants,hg,BEq.rfl]
 induction l generalizing st with
 | nil=>rfl
 | one o r ih=>
  simp only[dstsP,List.mem_append,not_or]at hc
  simp only[eraseG,runOps]
  have ho:opC E (callL E) (regd (some (c,w)) o) st=opC E (callL E) (regd none o) st:=by
   unfold regd
   cases o.gd with
   | none=>exact one _ _ st hg
   | some _=>rfl
  rw[ho]
  cases h:opC E (callL E) (regd none o) st with
  | none=>rfl
  | some q=>cases q with
   | pan d s=>rfl
   | ok s=>
    refine ih hc.2 ?_
    rw[opC_other (callL_fr E) h ?_];exact hg
    rw[regd_dst]
    intro e;rw[e]at hc;simp at hc
 | box n dst x r ih=>
  simp only[dstsP,zS,not_or]at hc
  simp only[eraseG,runOps]
  rw[one _ _ st hg]
  cases h:opC E (callL E) ⟨some dst,.box x,none⟩ st with
  | none=>rfl
  | some q=>cases q with
   | pan d s=>rfl
   | ok s=>
    refine ih hc.2 ?_
    rw[opC_other (callL_fr E) h (fun e=>hc.1 (by injection e with e;exact e.symm))];exact hg
 | grp c2 w2 ops dst a b r ih1 ih2=>
  simp only[dstsP,List.mem_append,zS,not_or]at hc
  simp only[eraseG]
  rw[runOps_append,runOps_append]
  cases h:runOps E (callL E) (eraseG (some (c2,w2)) ops) st with
  | none=>rfl
  | some q=>cases q with
   | pan d s=>rfl
   | ok s=>
    have hs:get s.tm c=some (.bool w):=by rw[run_other h (erase_dst hc.1)];exact hg
    simp only[runOps]
    rw[one _ _ s hs]
    cases h2:opC E (callL E) ⟨some dst,pickO c2 w2 a b,none⟩ s with
    | none=>rfl
    | some q=>cases q with
     | pan d s=>rfl
     | ok s2=>
      refine ih2 hc.2.2 ?_
      rw[opC_other (callL_fr E) h2 (fun e=>hc.2.1 (by injection e with e;exact e.symm))];exact hs
def Not(st:St)(c:Nat)(w:Bool):Prop:=(∃ b,b≠w∧get st.tm c=some (.bool b))∨get st.tm c=some .off
theorem hasB_mem{l:List Nat}{t:Nat}:hasB l t=true↔t∈l:=by
 induction l with
 | nil=>simp[hasB]
 | cons i r ih=>
  simp only[hasB,zS]
  cases hb:i.beq t with
  | true=>have:=zJ hb;subst this;simp
  | false=>
   have:t≠i:=fun e=>by subst e;rw[Nat.beq_refl]at hb;contradiction
   simp[this,ih]
theorem runStill_append{E:Env}{cf:Cf}(a b:List OpC)(st:St):runStill E cf (a++b) st=(runStill E cf a st).bind fun s=>runStill E cf b s:=by
 induction a generalizing st with
 | nil=>rfl
 | cons o r ih=>
  simp only[List.cons_append,runStill]
  cases opC E cf o st with
  | none=>rfl
  | some q=>cases q with
   | ok s=>
    simp only
    split
    ·exact ih s
    ·rfl
   | pan d s=>rfl
theorem still_other{E:Env}{l:List OpC}{st st':St}(h:runStill E (callL E) l st=some st'){t:Nat}(ht : ∀ o∈l,o.dst≠some t):get st'.tm t=get st.tm t:=by
 induction l generalizing st with
 | nil=>simp only[runStill,Option.some.injEq]at h;rw[h]
 | cons o r ih=>
  simp only[runStill]at h
  cases ho:opC E (callL E) o st with
  | none=>rw[ho]at h;simp at h
  | some q=>cases q with
   | pan d s=>rw[ho]at h;simp at h
   | ok s=>
    rw[ho]at h
    simp only at h
    split at h<;>try contradiction
    rw[ih h (fun o' ho'=>ht o' (zP _ ho')),opC_other (callL_fr E) ho (ht o List.mem_cons_self)]
theorem still_yes{E:Env}{c:Nat}{w:Bool}{l:PO}(hc:c ∉ dstsP l){st s:St}(hg:get st.tm c=some (.bool w))(h:runStill E (callL E) (eraseG none l) st=some s):runStill E (callL E) (eraseG (some (c,w)) l) st=some s:=by
 have one : ∀ (d:Option Nat) (op:O) (st:St),get st.tm c=some (.bool w)→opC E (callL E) ⟨d,op,some (c,w)⟩ st=opC E (callL E) ⟨d,op,none⟩ st:=by
  intro d op st hg
  simp only[opC,wants,hg,BEq.rfl]
 induction l generalizing st with
 | nil=>exact h
 | one o r ih=>
  simp only[dstsP,List.mem_append,not_or]at hc
  simp only[eraseG,runStill]at h ⊢
  have ho:opC E (callL E) (regd (some (c,w)) o) st=opC E (callL E) (regd none o) st:=by
   unfold regd
   cases o.gd with
   | none=>exact one _ _ st hg
   | some _=>rfl
  rw[ho]
  cases hh:opC E (callL E) (regd none o) st with
  | none=>rw[hh]at h;simp at h
  | some q=>cases q with
   | pan d s=>rw[hh]at h;simp at h
   | ok s1=>
    rw[hh]at h
    simp only at h ⊢
    split at h<;>try contradiction
    next hm=>
     rw[if_pos hm]
     refine ih hc.2 ?_ h
     rw[opC_other (callL_fr E) hh ?_];exact hg
     rw[regd_dst]
     intro e;rw[e]at hc;simp at hc
 | box n dst x r ih=>
  simp only[dstsP,zS,not_or]at hc
  simp only[eraseG,runStill]at h ⊢
  rw[one _ _ st hg]
  cases hh:opC E (callL E) ⟨some dst,.box x,none⟩ st with
  | none=>rw[hh]at h;simp at h
  | some q=>cases q with
   | pan d s=>rw[hh]at h;simp at h
   | ok s1=>
    rw[hh]at h
    simp only at h ⊢
    split at h<;>try contradiction
    next hm=>
     rw[if_pos hm]
     refine ih hc.2 ?_ h
     rw[opC_other (callL_fr E) hh (fun e=>hc.1 (by injection e with e;exact e.symm))];exact hg
 | grp c2 w2 ops dst a b r ih1 ih2=>
  simp only[dstsP,List.mem_append,zS,not_or]at hc
  simp only[eraseG]at h ⊢
  rw[runStill_append,zA]at h ⊢
  obtain⟨s1,h1,h2⟩:=h
  refine⟨s1,h1,?_⟩
  have hs:get s1.tm c=some (.bool w):=by rw[still_other h1 (erase_dst hc.1)];exact hg
  simp only[runStill]at h2 ⊢
  rw[one _ _ s1 hs]
  cases hh:opC E (callL E) ⟨some dst,pickO c2 w2 a b,none⟩ s1 with
  | none=>rw[hh]at h2;simp at h2
  | some q=>cases q with
   | pan d s=>rw[hh]at h2;simp at h2
   | ok s2=>
    rw[hh]at h2
    simp only at h2 ⊢
    split at h2<;>try contradiction
    next hm=>
     rw[if_pos hm]
     refine ih2 hc.2.2 ?_ h2
     rw[opC_other (callL_fr E) hh (fun e=>hc.2.1 (by injection e with e;exact e.symm))];exact hs
/-- a guard that does not hold -/
theorem guard_no{E:Env}{cf:Cf}{l:PO}{c:Nat}{w:Bool}{W:List Nat}(hn:nestO W l=true){st:St}(hg:Not st c w)(hW : ∀ t∈W,get st.tm t=some .off) :
  ∃ tm,(runOps E cf (eraseG (some (c,w)) l) st=some (.ok { st with tm:=tm })∧runStill E cf (eraseG (some (c,w)) l) st=some { st with tm:=tm })∧(∀ t,t ∉ dstsP l→get tm t=get st.tm t) ∧ ∀ t,t∈dstsP l→get tm t=some .off:=by
 have one : ∀ {c:Nat} {w:Bool} (d:Option Nat) (op:O) (st:St),Not st c w→opC E cf ⟨d,op,some (c,w)⟩ st=some (.ok (st.put d .off)):=by
  intro c w d op st hg
  rcases hg with⟨b,hb,hg⟩ | hg
  ·have hbw:(b == w)=false:=by cases b<;>cases w<;>simp_all
   simp only[opC,wants,hg,hbw]
  ·simp only[opC,wants,hg]
 have put1 : ∀ (d:Option Nat) (st:St) (t:Nat),get (st.put d .off).tm t=if d=some t then some .off else get st.tm t:=by
  intro d st t
  cases d with
  | none=>rfl
  | some u=>
   show get (Ev.put st.tm u .off) t=_
   rw[get_put]
   by_cases e:t=u
   ·subst e;simp
   ·rw[if_neg e,if_neg (fun h=>e (by injection h with h;exact h.symm))]
 have keep : ∀ {c:Nat} {w:Bool} (d:Option Nat) (st:St),Not st c w→Not (st.put d .off) c w:=by
  intro c w d st hg
  unfold Not
  rw[put1]
  by_cases e:d=some c
  ·rw[if_pos e];exact .inr rfl
  ·rw[if_neg e];exact hg
 have stput : ∀ (d:Option Nat) (st:St),∃ tm,st.put d .off={ st with tm:=tm }:=by
  intro d st;cases d<;>exact⟨_,rfl⟩
 have offs : ∀ (d:Option Nat) (st:St) (W:List Nat),(∀ t∈W,get st.tm t=some .off) → ∀ t∈(match d with | some t=>[t] | none=>[])++W,get (st.put d .off).tm t=some .off:=by
  intro d st W hW t ht
  rw[put1]
  split
  ·rfl
  ·next hne=>
   rcases List.mem_append.1 ht with ht | ht
   ·exfalso
    cases d with
    | none=>simp at ht
    | some u=>simp at ht;exact hne (by rw[ht])
   ·exact hW t ht
 induction l generalizing st W c w with
 | nil=>exact⟨st.tm,⟨rfl,rfl⟩,fun _ _=>rfl,fun t ht=>by simp[dstsP]at ht⟩
 | one o r ih=>
  simp only[nestO,zG]at hn
  cases hgd:o.gd with
  | some _=>rw[hgd]at hn;simp at hn
  | none=>
   obtain⟨tm,h1,h2,h3⟩:=ih hn.2 (keep o.dst st hg) (offs o.dst st W hW)
   obtain⟨tm',hst⟩:=stput o.dst st
   refine⟨tm,?_,fun t ht => ?_,fun t ht => ?_⟩
   ·rw[hst]at h1
    refine⟨?_,?_⟩
    ·simp only[eraseG,runOps,regd,hgd,one _ _ st hg]
     rw[hst];exact h1.1
    ·simp only[eraseG,runStill,regd,hgd,one _ _ st hg]
     rw[hst,if_pos rfl];exact h1.2
   ·simp only[dstsP,List.mem_append,not_or]at ht
    rw[h2 t ht.2,put1,if_neg]
    intro e;rw[e]at ht;simp at ht
   ·by_cases hm:t∈dstsP r
    ·exact h3 t hm
    ·rw[h2 t hm]
     simp only[dstsP,List.mem_append]at ht
     rcases ht with ht | ht
     ·rw[put1,if_pos]
      cases hd:o.dst with
      | none=>rw[hd]at ht;simp at ht
      | some u=>rw[hd]at ht;simp at ht;rw[ht]
     ·exact(hm ht).elim
 | box n dst x r ih=>
  simp only[nestO]at hn
  obtain⟨tm,h1,h2,h3⟩:=ih hn (keep (some dst) st hg) (offs (some dst) st W hW)
  refine⟨tm,?_,fun t ht => ?_,fun t ht => ?_⟩
  ·refine⟨?_,?_⟩
   ·simp only[eraseG,runOps,one _ _ st hg]
    exact h1.1
   ·simp only[eraseG,runStill,one _ _ st hg]
    rw[if_pos (show(st.put (some dst) .off).mem=st.mem from rfl)];exact h1.2
  ·simp only[dstsP,zS,not_or]at ht
   rw[h2 t ht.2,put1,if_neg]
   intro e;injection e with e;exact ht.1 e.symm
  ·by_cases hm:t∈dstsP r
   ·exact h3 t hm
   ·rw[h2 t hm]
    simp only[dstsP,zS]at ht
    rcases ht with rfl | ht
    ·rw[put1,if_pos rfl]
    ·exact(hm ht).elim
 | grp c2 w2 ops dst a b r ih1 ih2=>
  simp only[nestO,zG]at hn
  have hc2:=hW c2 (hasB_mem.1 hn.1.1)
  obtain⟨tm1,h1,h2,h3⟩:=ih1 (c:=c2) (w:=w2) hn.1.2 (.inr hc2) (fun t ht=>by simp at ht)
  have hg1:Not { st with tm:=tm1 } c w:=by
   unfold Not
   by_cases hm:c∈dstsP ops
   ·exact .inr (h3 c hm)
   ·show(∃ b,b≠w∧get tm1 c=some (.bool b))∨get tm1 c=some .off
    rw[h2 c hm];exact hg
  have hW1 : ∀ t∈W,get ({ st with tm:=tm1 }:St).tm t=some .off:=by
   intro t ht
   show get tm1 t=_
   by_cases hm:t∈dstsP ops
   ·exact h3 t hm
   ·rw[h2 t hm];exact hW t ht
  obtain⟨tm,h4,h5,h6⟩:=ih2 hn.2 (keep (some dst) _ hg1) (offs (some dst) _ W hW1)
  refine⟨tm,?_,fun t ht => ?_,fun t ht => ?_⟩
  ·refine⟨?_,?_⟩
   ·simp only[eraseG]
    rw[runOps_append,h1.1]
    simp only[runOps,one _ _ _ hg1]
    exact h4.1
   ·simp only[eraseG]
    rw[runStill_append,h1.2]
    simp only[zD,runStill,one _ _ _ hg1]
    rw[if_pos (show(({ st with tm:=tm1 }:St).put (some dst) .off).mem=st.mem from rfl)];exact h4.2
  ·simp only[dstsP,List.mem_append,zS,not_or]at ht
   rw[h5 t ht.2.2,put1,if_neg]
   ·exact h2 t ht.1
   ·intro e;injection e with e;exact ht.2.1 e.symm
  ·by_cases hm:t∈dstsP r
   ·exact h6 t hm
   ·rw[h5 t hm,put1]
    split
    ·rfl
    ·next hne=>
     simp only[dstsP,List.mem_append,zS]at ht
     rcases ht with ht | rfl | ht
     ·exact h3 t ht
     ·exact(hne rfl).elim
     ·exact(hm ht).elim
theorem RS.sealOf{c c':Cx}(h1:c'.ρ=c.ρ)(h2:c'.m=c.m)(h3 : ∀ k,c'.rk k=c.rk k){q:PS}{d:D}(hr:RS c q d):RS c' q.sealOf d:=by
 cases q with
 | own i sz xs=>obtain⟨g,ds,rfl,h4,_⟩:=hr;show(D.sl _ _ _).cl0=_;simp only[D.cl0,V.toD,h4]
 | v x=>exact hr
 | full xs=>exact hr
 | ptr k off=>exact⟨by rw[h2];exact hr.1,by rw[h1];exact hr.2⟩
 | ptrA k sz i off=>exact⟨by rw[h2];exact hr.1,by rw[h1];exact hr.2.1,fun s n hs=>hr.2.2 s n (by rw[← h3];exact hs)⟩
 | ref k sz off n cp z=>exact⟨by rw[h2];exact hr.1,hr.2.1,by rw[h1];exact hr.2.2.1,fun s n hs=>hr.2.2.2 s n (by rw[← h3];exact hs)⟩
 | el cs=>exact hr
 | elx sz x off=>exact hr
 | fn f cap=>obtain⟨ds,h4,h5⟩:=hr;exact⟨ds,h4,by rw[h1,h2];exact h5⟩
theorem RSL.sealOf{c c':Cx}(h1:c'.ρ=c.ρ)(h2:c'.m=c.m)(h3 : ∀ k,c'.rk k=c.rk k){ps:List PS}{ds:List D}(hr:RSL c ps ds):RSL c' (sealL ps) ds:=by
 induction ps generalizing ds with
 | nil=>cases ds with | nil=>trivial | cons _ _=>exact hr.elim
 | cons q r ih=>cases ds with
  | nil=>exact hr.elim
  | cons d s=>exact⟨RS.sealOf h1 h2 h3 hr.1,ih hr.2⟩
theorem seal_own1(q:PS):hasOwnL [q.sealOf]=false:=by cases q<;>rfl
theorem seal_own(ps:List PS):hasOwnL (sealL ps)=false:=by
 induction ps with
 | nil=>rfl
 | cons q r ih=>rw[sealL,hasOwn_cons,seal_own1,ih];rfl
theorem getF_seal(tm:PTm)(t:Nat):getF (sealT tm) t=(getF tm t).map fun q=>(q.1,q.2.sealOf):=by
 induction tm with
 | nil=>rfl
 | cons e r ih=>
  obtain⟨i,f,d⟩:=e
  simp only[sealT,getF]
  cases i.beq t
  ·exact ih
  ·rfl
def RowC.sealC:RowC→RowC
 | .cells ps => .cells (sealL ps)
 | c=>c
theorem sealR_get(rows:List Row)(k:Nat):(sealR rows)[k]?=(rows[k]?).map fun r=>⟨true,r.c.sealC⟩:=by
 induction rows generalizing k with
 | nil=>simp[sealR]
 | cons r s ih=>
  obtain⟨f,c⟩:=r
  cases c<;>cases k<;>simp_all [sealR,RowC.sealC]
theorem sealR_len(rows:List Row):(sealR rows).length=rows.length:=by
 induction rows with
 | nil=>rfl
 | cons r s ih=>obtain⟨f,c⟩:=r;cases c<;>simp_all [sealR]
theorem seal_rk(rows:List Row)(k:Nat):rkOf (sealR rows) k=rkOf rows k:=by
 simp only[rkOf,sealR_get]
 cases h:rows[k]? with
 | none=>rfl
 | some r=>obtain⟨f,c⟩:=r;cases c<;>rfl
theorem seal_sim(hS:Sim ρ τ p st):Sim ρ (fun _=>none) p.sealOf st where
 tm t f d h:=by
  simp only[PSt.sealOf,getF_seal,zB]at h
  obtain⟨⟨f',d'⟩,h1,h2⟩:=h
  simp only[Prod.mk.injEq]at h2
  obtain⟨rfl,rfl⟩:=h2
  obtain⟨e,h3,h4⟩:=hS.tm t f' d' h1
  refine⟨e,h3,?_⟩
  cases d' with
  | s q=>exact RS.sealOf (c:=cxOf ρ τ p st) (c':=cxOf ρ (fun _=>none) p.sealOf st) rfl (sealR_len p.rows) (seal_rk p.rows) h4
  | agg ps=>
   obtain⟨ds,h5,h6,h7⟩:=h4
   exact⟨ds,h5,RSL.sealOf (c:=cxOf ρ τ p st) (c':=cxOf ρ (fun _=>none) p.sealOf st) rfl (sealR_len p.rows) (seal_rk p.rows) h6,h7⟩
 nx k hk:=hS.nx k (by rwa [PSt.sealOf,sealR_len]at hk)
 rows k r hk:=by
  simp only[PSt.sealOf,sealR_get,zB]at hk
  obtain⟨r',h1,rfl⟩:=hk
  obtain⟨o,h2,h3⟩:=hS.rows k r' h1
  obtain⟨f,c⟩:=r'
  refine⟨o,?_,?_⟩
  ·rcases h2 with h2 | h2
   ·left;simp only at h2;subst h2;rfl
   ·exact .inr h2
  ·cases c with
   | cells ps=>
    obtain⟨ds,h5,h6,h7⟩:=h3
    exact⟨ds,h5,RSL.sealOf (c:=cxOf ρ τ p st) (c':=cxOf ρ (fun _=>none) p.sealOf st) rfl (sealR_len p.rows) (seal_rk p.rows) h6,h7⟩
   | _=>exact h3
 inj j k hj hk:=hS.inj j k (by rwa [PSt.sealOf,sealR_len]at hj) (by rwa [PSt.sealOf,sealR_len]at hk)
 lin i l h:=by contradiction
 linj i j l h:=by contradiction
theorem PD.seal_own(d:PD):d.sealOf.hasOwn=false:=by
 cases d with
 | s q=>exact seal_own1 q
 | agg ps=>exact Ev.seal_own ps
theorem seal_wf(p:PSt):Wf p.sealOf:=by
 refine⟨fun t d h => ?_,fun k r hk _ => ?_⟩
 ·simp only[PSt.sealOf,getF_seal,zB]at h
  obtain⟨⟨f',d'⟩,h1,h2⟩:=h
  simp only[Prod.mk.injEq]at h2
  obtain⟨_,rfl⟩:=h2
  exact PD.seal_own d'
 ·simp only[PSt.sealOf,sealR_get,zB]at hk
  obtain⟨r',h1,rfl⟩:=hk
  obtain⟨f,c⟩:=r'
  cases c with
  | cells ps=>exact seal_own ps
  | _=>rfl
/-- what was sealed is as it was -/
theorem unseal_goes(hS:Sim ρ τ p st){ρ1:Nat→Nat}{τ1:Nat→Option Nat}{p1:PSt}{st1:St}(h:Goes ρ (fun _=>none) p.sealOf st ρ1 τ1 p1 st1)(ht : ∀ t f d,getF p.tm t=some (f,d)→get st1.tm t=get st.tm t):Goes ρ τ p st ρ τ p st1:=by
 have hmem : ∀ b,b<st.nx→st1.mem b=st.mem b:=by
  intro b hb
  refine h.mem b hb (fun k r hk _ => ?_)
  simp only[PSt.sealOf,sealR_get,zB]at hk
  obtain⟨r',_,rfl⟩:=hk
  rfl
 have htip : ∀ l,l<st.nx→st1.tip l=st.tip l:=fun l hl=>h.tip l hl (fun i=>by simp)
 have hle:Le (cxOf ρ τ p st) (cxOf ρ τ p st1):=⟨fun _ _=>rfl,zR _,fun _ _ => .inl rfl,fun i l hi=>⟨hi,htip l (hS.lin i l hi).2⟩,zR _⟩
 refine⟨⟨fun t f d hd => ?_,fun k hk=>zK (hS.nx k hk) h.nx,fun k r hk => ?_,hS.inj,fun i l hi=>⟨(hS.lin i l hi).1,zK (hS.lin i l hi).2 h.nx⟩,hS.linj⟩,h.nx,h.lo,zR _,fun _ _=>rfl,fun k h1 h2=>absurd h2 (Nat.not_lt.2 h1),fun i l h => .inl ⟨i,h⟩,fun h=>h,fun _ _ _ h _=>h,fun _ r' _ h hr=>⟨r',h,hr⟩,fun _ _ => .inl rfl,fun b hb _=>hmem b hb,fun l hl _=>htip l hl,fun m h1 h2 h3 h4 => ?_,fun _ t d hd=>⟨hd,ht t true d hd⟩⟩
 ·obtain⟨e,h1,h2⟩:=hS.tm t f d hd
  exact⟨e,by rw[ht t f d hd];exact h1,RP.le hle h2⟩
 ·obtain⟨o,h1,h2⟩:=hS.rows k r hk
  refine⟨o,?_,RW.le hle h2⟩
  rcases h1 with h1 | h1
  ·exact .inl h1
  ·right;rw[hmem _ (hS.nx k (getElem?_lt hk))];exact h1
 ·refine h.lw m h1 h2 (fun k r hk hr => ?_) (fun i l hi=>by contradiction)
  simp only[PSt.sealOf,sealR_get,zB]at hk
  obtain⟨r',hk',rfl⟩:=hk
  refine h3 k r' hk' (.inr ?_)
  rcases hr with hr | hr
  ·contradiction
  ·obtain⟨f,c⟩:=r'
   cases c<;>simp_all [RowC.sealC,RowC.isArr]
theorem evH_same{E:Env}{gl:Gl}{tm:Tm}{x:X}{d:PD}(h:evH gl p x=some d)(ht : ∀ t f d,getF p.tm t=some (f,d)→get tm t=get st.tm t):ev E tm x=ev E st.tm x:=by
 cases x with
 | s t=>
  simp only[evH,getF_getP,zB]at h
  obtain⟨⟨f,d'⟩,h1,_⟩:=h
  exact ht t f d' h1
 | k c=>rfl
 | g n=>rfl
theorem prunK_ok{E:Env}{gl:Gl}{pc:PcT}(hg:GlR E gl)(hpc:PcOk E gl.md pc)(l:PO) : ∀ {ρ':Type} {r:ρ'} {ρ:Nat→Nat} {τ:Nat→Option Nat} {p:PSt} {st:St} {K:PSt→Option ρ'},Sim ρ τ p st→Wf p→prunK gl pc l p K=some r →
  ∃ p',K p'=some r ∧ ∃ st' ρ1 τ1,runOps E (callL E) (eraseO l) st=some (.ok st')∧Goes ρ τ p st ρ1 τ1 p' st':=by
 induction l with
 | nil=>intro _ r ρ τ p st K hS hw h;exact⟨p,h,st,ρ,τ,rfl,.refl hS⟩
 | one o s ih=>
  intro _ r ρ τ p st K hS hw h
  simp only[prunK]at h
  obtain⟨p1,h1,st1,ρ1,τ1,h2,h3,_⟩:=pone_ok hg hpc hS hw h
  obtain⟨p',h4,st',ρ2,τ2,h5,h6⟩:=ih h3.sim (h3.wf hw) h1
  refine⟨p',h4,st',ρ2,τ2,?_,h3.trans hw h6⟩
  have ho:regd none o=o:=by
   obtain⟨d,op,gd⟩:=o
   cases gd<;>rfl
  simp only[eraseO,eraseG,runOps,ho,h2]
  exact h5
 | box n dst x s ih=>
  intro _ r ρ τ p st K hS hw h
  simp only[prunK]at h
  split at h<;>try contradiction
  next d hd=>
    obtain⟨e,he,hr⟩:=evH_ok (E:=E) hg hS hd
    have key : ∃ c,(match setP (p.newR c) (some dst) (some (.s (.ptr p.rows.length 0)))with | some p'=>prunK gl pc s p' K | none=>none)=some r∧allOne e.cells=true∧RW ⟨fun k=>if k=p.rows.length then st.nx else ρ k,τ,p.rows.length+1,rkOf (p.newR c).rows,st.tip,p.ni⟩ c (.row e.cells false):=by
     unfold cellsK1 at h
     split at h
     ·split at h
      ·next x=>
       obtain⟨h1,h2⟩:=tst_some h
       have hc:=cells_ok (show e.cl0=x.toD from hr)
       exact⟨_,h2,allOne_of hc (okN_one h1),_,rfl,hc,h1⟩
      ·obtain⟨cs,h1,h2,h3,h4,h5⟩:=cellsK_ok hr h
       exact⟨_,h1,h4,_,rfl,RSL.le (newR_le _) h3,h4⟩
     ·obtain⟨cs,h1,h2,h3,h4,h5⟩:=cellsK_ok hr h
      exact⟨_,h1,h4,_,rfl,RSL.le (newR_le _) h3,h4⟩
    obtain⟨c,h1,h2,h4⟩:=key
    split at h1<;>try contradiction
    next p1 hp1=>
     obtain⟨hgo,hlen⟩:=newR_goes hS h4
     have hro:RO (cxOf (fun k=>if k=p.rows.length then st.nx else ρ k) τ (p.newR c) (st.newOb (.row e.cells false))) (some (.s (.ptr p.rows.length 0))) (some (.ptr st.nx 0)):=by
      refine⟨by show p.rows.length<(p.newR _).rows.length;rw[hlen];omega,?_⟩
      show D.ptr st.nx 0 = .ptr (if p.rows.length=p.rows.length then st.nx else _) 0
      rw[if_pos rfl]
     have h5:=setP_goes hgo.sim hro hp1
     obtain⟨p',h6,st',ρ2,τ2,h7,h8⟩:=ih h5.sim (h5.wf (hgo.wf hw)) h1
     refine⟨p',h6,st',ρ2,τ2,?_,hgo.trans hw (h5.trans (hgo.wf hw) h8)⟩
     have hop:opC E (callL E) ⟨some dst,.box x,none⟩ st=some (.ok ((st.newOb (.row e.cells false)).set (some dst) (some (.ptr st.nx 0)))):=by
      simp[opC,wants,opR,opX,opD,he,h2,Rv.to]
     simp only[eraseO,eraseG,runOps,hop]
     exact h7
 | grp c w ops dst a b s ih1 ih2=>
  intro _ r ρ τ p st K hS hw h
  simp only[prunK]at h
  split at h<;>try contradiction
  split at h<;>try contradiction
  split at h<;>try contradiction
  split at h<;>try contradiction
  next cv hc _ bd hb _ bv hbv _ hfr=>
   simp only[zG]at hfr
   obtain⟨hfr,hnest⟩:=hfr
   rw[zA]at h
   obtain⟨cb,hcb,h⟩:=h
   rw[zA]at h
   obtain⟨x,hx,h⟩:=h
   split at h<;>try contradiction
   next p1 hp1=>
    obtain⟨ec,hec,hrc⟩:=evV_ok (E:=E) hg hS hc
    have:=asBool_ok hcb hrc;subst this
    have hec:get st.tm c=some (.bool cb):=hec
    have hcF : ∃ f d,getF p.tm c=some (f,d):=by
     unfold evV at hc
     split at hc<;>try contradiction
     next y hy=>
      simp only[evH,getF_getP,zB]at hy
      obtain⟨⟨f,d'⟩,h1,_⟩:=hy
      exact⟨f,d',h1⟩
    obtain⟨fc,dc,hcF⟩:=hcF
    have hcd:=freshD_ok hfr hcF
    have hsame : ∀ {tm:Tm},(∀ t,t ∉ dstsP ops→get tm t=get st.tm t) → ∀ t f d,getF p.tm t=some (f,d)→get tm t=get st.tm t:=
     fun h t f d ht=>h t (freshD_ok hfr ht)
    -- the state behind the group, and what the choice yields there
    have key : ∃ st1 e,runOps E (callL E) (eraseG (some (c,w)) ops) st=some (.ok st1)∧Goes ρ τ p st ρ τ p st1∧get st1.tm c=some (.bool cb)∧ev E st1.tm (if cb=w then a else b)=some e∧e.cl0=x.toD:=by
     split at hx
     ·next hcw=>
      subst hcw
      obtain⟨p',h1,st1,ρ1,τ1,h2,h3⟩:=ih1 (seal_sim hS) (seal_wf p) hx
      have h4 : ∀ t,t ∉ dstsP ops→get st1.tm t=get st.tm t:=fun t ht=>run_other h2 (erase_dst ht)
      split at h1<;>try contradiction
      next da hda=>
       obtain⟨e,he,hr⟩:=evH_ok (E:=E) hg h3.sim hda
       exact⟨st1,e,by rw[guard_yes hcd hec];exact h2,unseal_goes hS h3 (hsame h4),by rw[h4 c hcd];exact hec,by rw[if_pos rfl];exact he,PD.pure_ok hr h1⟩
     ·next hcw=>
      injection hx with hx;subst hx
      obtain⟨tm,h1,h2,_⟩:=guard_no (E:=E) (cf:=callL E) (w:=w) hnest (.inl ⟨cb,hcw,hec⟩) (fun t ht=>by simp at ht)
      obtain⟨e,he,hr⟩:=evH_ok (E:=E) hg hS hb
      have ht:=hsame h2
      refine⟨_,e,h1.1,?_,by show get tm c=_;rw[h2 c hcd];exact hec,by rw[if_neg hcw];show ev E tm b=_;rw[evH_same (st:=st) hb ht];exact he,PD.pure_ok hr hbv⟩
      have:=tm_goes hS (tm:=p.tm) (tm':=tm) (fun t f d hd=>by rw[ht t f d hd];exact hS.tm t f d hd) (fun t d hd=>⟨hd,ht t true d hd⟩)
      exact this
    obtain⟨st1,e,h1,h2,h3,h4,h5⟩:=key
    have h6:=setP_goes (e:=some e) h2.sim (show RO _ (some (.s (.v x))) (some e)from h5) hp1
    obtain⟨p',h7,st',ρ2,τ2,h8,h9⟩:=ih2 h6.sim (h6.wf (h2.wf hw)) h
    refine⟨p',h7,st',ρ2,τ2,?_,h2.trans hw (h6.trans (h2.wf hw) h9)⟩
    simp only[eraseO,eraseG]
    rw[runOps_append,h1]
    have hp:opC E (callL E) ⟨some dst,pickO c w a b,none⟩ st1=some (.ok (st1.set (some dst) (some e))):=by
     have h3':ev E st1.tm (.s c)=some (.bool cb):=h3
     cases w<;>cases cb<;>simp only[if_pos,if_neg,zF,zX,not_false_eq_true]at h4<;>simp[opC,wants,opR,opX,opD,h3',h4,Rv.to,pickO]
    simp only[runOps,hp]
    exact h8
end
end Go.Ev
end
section
namespace Go.Ev
def Vals(v:Nat→V)(i:Nat)(l:List V):Prop := ∀ (j:Nat) (x:V),l[j]?=some x→v (i+j)=x
theorem Vals.app{v:Nat→V}{i:Nat}{a b:List V}(h:Vals v i (a++b)):Vals v i a∧Vals v (i+a.length) b:=by
 refine⟨fun j x hj=>h j x (by rw[List.getElem?_append_left (getElem?_lt hj)];exact hj),fun j x hj => ?_⟩
 rw[Nat.add_assoc]
 exact h _ x (by rw[List.getElem?_append_right (Nat.le_add_right _ _),Nat.add_sub_cancel_left];exact hj)
theorem Vals.vec(l:List V):Vals (vec l) 0 l:=fun j x hj=>by
 show(l.getD (0+j) .nilp)=x
 rw[Nat.zero_add,List.getD_eq_getElem?_getD,hj];rfl
def pushIds:List (Option Nat)→List Nat→List Nat
 | [],s=>s
 | none::r,s=>pushIds r s
 | some i::r,s=>pushIds r (i::s)
def Fresh:List (Option Nat)→List Nat→Prop
 | [],_=>True
 | none::r,s=>Fresh r s
 | some i::r,s=>i ∉ s∧Fresh r (i::s)
theorem pushIds_app(a b:List (Option Nat))(s:List Nat):pushIds (a++b) s=pushIds b (pushIds a s):=by
 induction a generalizing s with
 | nil=>rfl
 | cons x r ih=>cases x<;>exact ih _
theorem Fresh.app{a b:List (Option Nat)}{s:List Nat}(h:Fresh a s)(k:Fresh b (pushIds a s)):Fresh (a++b) s:=by
 induction a generalizing s with
 | nil=>exact k
 | cons x r ih=>cases x with
  | none=>exact ih (s:=s) h k
  | some i=>exact⟨h.1,ih h.2 k⟩
theorem Fresh.notin{a:List (Option Nat)}{s:List Nat}(h:Fresh a s){j i:Nat}(hj:a[j]?=some (some i)):i ∉ s:=by
 induction a generalizing s j with
 | nil=>simp at hj
 | cons x r ih=>cases x with
  | none=>cases j with
   | zero=>simp at hj
   | succ j=>exact ih (s:=s) h (by simpa using hj)
  | some a=>cases j with
   | zero=>simp at hj;subst hj;exact h.1
   | succ j=>exact fun hm=>ih h.2 (by simpa using hj) (zP _ hm)
theorem Fresh.inj{a:List (Option Nat)}{s:List Nat}(h:Fresh a s){j k i:Nat}(hj:a[j]?=some (some i))(hk:a[k]?=some (some i)):j=k:=by
 induction a generalizing s j k with
 | nil=>simp at hj
 | cons x r ih=>
  cases j with
  | zero=>cases k with
   | zero=>rfl
   | succ k=>
    simp at hj;subst hj
    exact(Fresh.notin h.2 (by simpa using hk) List.mem_cons_self).elim
  | succ j=>cases k with
   | zero=>
    simp at hk;subst hk
    exact(Fresh.notin h.2 (by simpa using hj) List.mem_cons_self).elim
   | succ k=>
    have hr : ∃ s',Fresh r s':=by cases x with
     | none=>exact⟨s,h⟩
     | some i=>exact⟨_,h.2⟩
    obtain⟨s',hr⟩:=hr
    exact congrArg Nat.succ (ih hr (by simpa using hj) (by simpa using hk))
/-- names as they were, up to the rows that are kept -/
structure CxOk(c c':Cx):Prop where
 ρ : ∀ k,k<c'.m→c'.ρ k=c.ρ k
 m:c'.m≤c.m
 rk : ∀ k,k<c'.m→c'.rk k=c.rk k∨c'.rk k=none
 tip:c'.tip=c.tip
def IdsOk(c c':Cx)(ni:Nat)(idl:List (Option Nat)):Prop := ∀ (j:Nat) (o:Option Nat),idl[j]?=some o→c'.τ (ni+j)=o.bind c.τ∧ni+j<c'.ni
theorem IdsOk.app{c c':Cx}{ni:Nat}{a b:List (Option Nat)}(h:IdsOk c c' ni (a++b)):IdsOk c c' ni a∧IdsOk c c' (ni+a.length) b:=by
 refine⟨fun j x hj=>h j x (by rw[List.getElem?_append_left (getElem?_lt hj)];exact hj),fun j x hj => ?_⟩
 rw[Nat.add_assoc]
 exact h _ x (by rw[List.getElem?_append_right (Nat.le_add_right _ _),Nat.add_sub_cancel_left];exact hj)
section
variable {ρ':Type} {r:ρ'}
theorem encS_ok{m:Nat}{kd:Kd}{q:PS}{ids:List Nat}{K:List V→List Nat→Option ρ'}(h:encS m kd q ids K=some r) :
  ∃ l idl,K l (pushIds idl ids)=some r∧Fresh idl ids ∧ ∀ v i ni,Vals v i l→(decS kd v i ni).2=(i+l.length,ni+idl.length) ∧
   ∀ (c c':Cx) (e:D),c'.m=m→RS c q e→CxOk c c'→IdsOk c c' ni idl→RS c' (decS kd v i ni).1 e:=by
 cases kd with
 | v=>
  simp only[encS]at h
  split at h<;>try contradiction
  next x hx=>
   refine⟨[x],[],h,trivial,fun v i ni hv=>⟨rfl,fun c c' e _ hr _ _ => ?_⟩⟩
   have:=hv 0 x rfl
   show e.cl0=(v i).toD
   rw[show v i=x from this]
   exact PS.pure_ok hr hx
 | own sz=>
  simp only[encS]at h
  split at h<;>try contradiction
  ·next id sz' xs=>
   split at h<;>try contradiction
   next hc=>
    simp only[zG,Bool.not_eq_true']at hc
    have hsz:=zJ hc.1;subst hsz
    have hid:id ∉ ids:=fun hm=>by rw[hasB_mem.2 hm]at hc;simp at hc
    refine⟨[.sl xs],[some id],h,⟨hid,trivial⟩,fun v i ni hv=>⟨rfl,fun c c' e _ hr hcx hio => ?_⟩⟩
    have hv0:=hv 0 _ rfl
    have hv0:v i = .sl xs:=hv0
    obtain⟨g,ds,h1,h2,h3,h4,h5⟩:=hr
    obtain⟨h6,h7⟩:=hio 0 (some id) rfl
    show RS c' (.own ni sz (v i).elems) e
    rw[hv0]
    refine⟨g,ds,h1,h2,h3,h7,?_⟩
    rcases h5 with h5 | ⟨l,h8,h9,h10⟩
    ·exact .inl h5
    ·exact .inr ⟨l,h8,by rw[show ni=ni+0 from rfl,h6];exact h9,by rw[hcx.tip];exact h10⟩
  ·next xs=>
   obtain⟨hs,h⟩:=tst_some h
   refine⟨[.sl xs],[none],h,trivial,fun v i ni hv=>⟨rfl,fun c c' e _ hr hcx hio => ?_⟩⟩
   have hv0:v i = .sl xs:=hv 0 _ rfl
   obtain⟨ds,h1,h2⟩:=hr
   obtain⟨h6,h7⟩:=hio 0 none rfl
   show RS c' (.own ni sz (v i).elems) e
   rw[hv0]
   exact⟨.full,ds,h1,h2,hs,h7,.inl rfl⟩
 | ptr k off=>
  simp only[encS]at h
  split at h<;>try contradiction
  next k' off'=>
   split at h<;>try contradiction
   next hc=>
    simp only[zG]at hc
    have h1:=zJ hc.1.1;subst h1
    have h2:=zJ hc.1.2;subst h2
    have h3:k<m:=zT hc.2
    refine⟨[],[],h,trivial,fun v i ni hv=>⟨rfl,fun c c' e hm hr hcx hio => ?_⟩⟩
    exact⟨by rw[hm];exact h3,by rw[hcx.ρ k (by rw[hm];exact h3)];exact hr.2⟩
 | ref k sz z=>
  simp only[encS]at h
  split at h<;>try contradiction
  next k' sz' off n cp z'=>
   split at h<;>try contradiction
   next hc=>
    simp only[zG]at hc
    have h1:=zJ hc.1.1.1;subst h1
    have h2:=zJ hc.1.1.2;subst h2
    have h3:k<m:=zT hc.1.2
    have h4:z=z':=by simpa using hc.2
    subst h4
    refine⟨[.int .i64 off,.int .i64 n,.int .i64 cp],[],h,trivial,fun v i ni hv=>⟨rfl,fun c c' e hm hr hcx hio => ?_⟩⟩
    have hv0:v i = .int .i64 off:=hv 0 _ rfl
    have hv1:v (i+1) = .int .i64 n:=hv 1 _ rfl
    have hv2:v (i+2) = .int .i64 cp:=hv 2 _ rfl
    show RS c' (.ref k sz (natV (v i)) (natV (v (i+1))) (natV (v (i+2))) z) e
    rw[hv0,hv1,hv2]
    have hk:k<c'.m:=by rw[hm];exact h3
    refine⟨hk,hr.2.1,by rw[hcx.ρ k hk];exact hr.2.2.1,fun s n' hs => ?_⟩
    rcases hcx.rk k hk with e | e
    ·exact hr.2.2.2 s n' (by rw[← e];exact hs)
    ·rw[e]at hs;contradiction
 | same=>simp[encS]at h
theorem encL_ok{m:Nat}{kds:List Kd}{qs:List PS}{ids:List Nat}{K:List V→List Nat→Option ρ'}(h:encL m kds qs ids K=some r) :
  ∃ l idl,K l (pushIds idl ids)=some r∧Fresh idl ids ∧ ∀ v i ni,Vals v i l→(decL v i ni kds).2=(i+l.length,ni+idl.length) ∧
   ∀ (c c':Cx) (es:List D),c'.m=m→RSL c qs es→CxOk c c'→IdsOk c c' ni idl→RSL c' (decL v i ni kds).1 es:=by
 induction kds generalizing qs ids K with
 | nil=>
  cases qs with
  | cons _ _=>simp[encL]at h
  | nil=>exact⟨[],[],h,trivial,fun v i ni hv=>⟨rfl,fun c c' es _ hr _ _=>by cases es with | nil=>trivial | cons _ _=>exact hr.elim⟩⟩
 | cons kd rest ih=>
  cases qs with
  | nil=>simp[encL]at h
  | cons q s=>
   simp only[encL]at h
   obtain⟨l1,idl1,h1,h2,h3⟩:=encS_ok h
   obtain⟨l2,idl2,h4,h5,h6⟩:=ih h1
   refine⟨l1++l2,idl1++idl2,by rw[pushIds_app];exact h4,h2.app h5,fun v i ni hv => ?_⟩
   obtain⟨hv1,hv2⟩:=hv.app
   obtain⟨h7,h8⟩:=h3 v i ni hv1
   obtain⟨h9,h10⟩:=h6 v (i+l1.length) (ni+idl1.length) hv2
   simp only[decL,h7]
   refine⟨by rw[h9];simp[Nat.add_assoc],fun c c' es hm hr hcx hio => ?_⟩
   cases es with
   | nil=>exact hr.elim
   | cons e es=>
    obtain⟨hi1,hi2⟩:=hio.app
    exact⟨h8 c c' e hm hr.1 hcx hi1,h10 c c' es hm hr.2 hcx hi2⟩
/-- a slot of the state that is made again -/
def SlotOk(strict head:Bool)(m:Nat)(p p':PSt)(ni:Nat)(idl:List (Option Nat))(t:Nat)(f:Bool)(d:PD):Prop:=
 (∃ f0 f' d',getF p.tm t=some (f0,d)∧f=(head || f0)∧getF p'.tm t=some (f',d')∧(strict=true→f'=true)∧d'.hasOwn=false) ∨
 (f=false ∧ ∃ dp,getF p'.tm t=some (false,dp) ∧ ∀ (c c':Cx) (e:D),c'.m=m→RP c dp e→CxOk c c'→IdsOk c c' ni idl→RP c' d e)
theorem encT_ok{strict:Bool}{m:Nat}{p':PSt}{sl:List (Nat×Kd)}{ids:List Nat}{K:List V→List Nat→Option ρ'}(h:encT strict m p' sl ids K=some r) :
  ∃ l idl,K l (pushIds idl ids)=some r∧Fresh idl ids ∧ ∀ head p v i ni,Vals v i l → ∀ tm i' ni',decT head p v i ni sl=some (tm,i',ni') →
   i'=i+l.length∧ni'=ni+idl.length ∧ ∀ t f d,getF tm t=some (f,d)→SlotOk strict head m p p' ni idl t f d:=by
 have later : ∀ {strict head:Bool} {m:Nat} {p p':PSt} {ni:Nat} {a b:List (Option Nat)} {t:Nat} {f:Bool} {d:PD},SlotOk strict head m p p' (ni+a.length) b t f d→SlotOk strict head m p p' ni (a++b) t f d:=by
  intro strict head m p p' ni a b t f d hh
  rcases hh with hh | ⟨h1,dp,h2,h3⟩
  ·exact .inl hh
  ·exact .inr ⟨h1,dp,h2,fun c c' e hm hr hcx hio=>h3 c c' e hm hr hcx hio.app.2⟩
 induction sl generalizing ids K with
 | nil=>
  refine⟨[],[],h,trivial,fun head p v i ni hv tm i' ni' hd => ?_⟩
  simp only[decT,Option.some.injEq,Prod.mk.injEq]at hd
  obtain⟨rfl,rfl,rfl⟩:=hd
  exact⟨rfl,rfl,fun t f d ht=>by simp[getF]at ht⟩
 | cons a rest ih=>
  obtain⟨t0,kd⟩:=a
  simp only[encT]at h
  split at h<;>try contradiction
  next f' d' hF=>
   -- a kind that is encoded
   have other : ∀ {l1:List V} {idl1:List (Option Nat)} {q1:(Nat→V)→Nat→Nat→PS},f'=false→kd ≠ .same →
     encT strict m p' rest (pushIds idl1 ids) (fun l' ids=>K (l1++l') ids)=some r→Fresh idl1 ids →
     (∀ v i ni,Vals v i l1→(decS kd v i ni).2=(i+l1.length,ni+idl1.length) ∧ ∀ (c c':Cx) (e:D),c'.m=m→RP c d' e→CxOk c c'→IdsOk c c' ni idl1→RP c' (.s (decS kd v i ni).1) e) →
     ∃ l idl,K l (pushIds idl ids)=some r∧Fresh idl ids ∧ ∀ head p v i ni,Vals v i l → ∀ tm i' ni',decT head p v i ni ((t0,kd)::rest)=some (tm,i',ni') →
      i'=i+l.length∧ni'=ni+idl.length ∧ ∀ t f d,getF tm t=some (f,d)→SlotOk strict head m p p' ni idl t f d:=by
    intro l1 idl1 _ hf hne h1 h2 h3
    obtain⟨l2,idl2,h4,h5,h6⟩:=ih h1
    refine⟨l1++l2,idl1++idl2,by rw[pushIds_app];exact h4,h2.app h5,fun head p v i ni hv tm i' ni' hd => ?_⟩
    obtain⟨hv1,hv2⟩:=hv.app
    obtain⟨h7,h8⟩:=h3 v i ni hv1
    have hd:(match decT head p v (decS kd v i ni).2.1 (decS kd v i ni).2.2 rest with | some (l,q)=>some ((t0,false,PD.s (decS kd v i ni).1)::l,q) | none=>none)=some (tm,i',ni'):=by
     cases kd<;>first | exact hd | exact(hne rfl).elim
    rw[h7]at hd
    split at hd<;>try contradiction
    next tm2 q hq=>
     obtain⟨i2,ni2⟩:=q
     obtain⟨h9,h10,h11⟩:=h6 head p v _ _ hv2 tm2 i2 ni2 hq
     simp only[Option.some.injEq,Prod.mk.injEq]at hd
     obtain⟨rfl,rfl,rfl⟩:=hd
     refine⟨by rw[h9];simp[Nat.add_assoc],by rw[h10];simp[Nat.add_assoc],fun t f d ht => ?_⟩
     simp only[getF]at ht
     split at ht
     ·next hb=>
      have hb:=zJ hb;subst hb
      simp only[Option.some.injEq,Prod.mk.injEq]at ht
      obtain⟨rfl,rfl⟩:=ht
      exact .inr ⟨rfl,d',by rw[hF,hf],fun c c' e hm hr hcx hio=>h8 c c' e hm hr hcx hio.app.1⟩
     ·exact later (h11 t f d ht)
   split at h
   ·split at h<;>try contradiction
    next hc=>
     simp only[zG,Bool.or_eq_true,Bool.not_eq_true']at hc
     obtain⟨l2,idl2,h4,h5,h6⟩:=ih h
     refine⟨l2,idl2,h4,h5,fun head p v i ni hv tm i' ni' hd => ?_⟩
     simp only[decT]at hd
     split at hd<;>try contradiction
     next f0 d0 hF0=>
      split at hd<;>try contradiction
      next tm2 q hq=>
       obtain⟨i2,ni2⟩:=q
       obtain⟨h9,h10,h11⟩:=h6 head p v _ _ hv tm2 i2 ni2 hq
       simp only[Option.some.injEq,Prod.mk.injEq]at hd
       obtain⟨rfl,rfl,rfl⟩:=hd
       refine⟨h9,h10,fun t f d ht => ?_⟩
       simp only[getF]at ht
       split at ht
       ·next hb=>
        have hb:=zJ hb;subst hb
        simp only[Option.some.injEq,Prod.mk.injEq]at ht
        obtain⟨rfl,rfl⟩:=ht
        refine .inl ⟨f0,f',d',hF0,rfl,hF,fun hs => ?_,hc.2⟩
        rcases hc.1 with h12 | h12
        ·rw[hs]at h12;contradiction
        ·exact h12
       ·exact h11 t f d ht
   ·next hne=>
    split at h<;>try contradiction
    next _=>
     split at h
     ·next q=>
      obtain⟨l1,idl1,h1,h2,h3⟩:=encS_ok h
      exact other (q1:=fun v i ni=>(decS kd v i ni).1) rfl (fun e=>hne e) h1 h2 (fun v i ni hv=>⟨(h3 v i ni hv).1,fun c c' e hm hr hcx hio=>(h3 v i ni hv).2 c c' e hm hr hcx hio⟩)
     ·next ps=>
      split at h<;>try contradiction
      split at h<;>try contradiction
      next x hx=>
       refine other (l1:=[.agg x]) (idl1:=[]) (q1:=fun v i ni=>(decS .v v i ni).1) rfl (by simp) h trivial (fun v i ni hv=>⟨rfl,fun c c' e hm hr hcx hio => ?_⟩)
       have hv0:v i = .agg x:=hv 0 _ rfl
       show e.cl0=(v i).toD
       rw[hv0]
       obtain⟨ds,rfl,h1,_⟩:=hr
       simp only[D.cl0,V.toD,pureL_ok h1 hx]
/-- a row of the state that is made again -/
def RowOk(strict head:Bool)(m:Nat)(ni:Nat)(idl:List (Option Nat))(r0 r' q:Row):Prop:=
 (q=⟨head || r0.ro,r0.c⟩∧(strict=true→r'.ro=true)∧r'.c.hasOwn=false) ∨
 (q.ro=false∧r'.ro=false∧(∀ f s x,q.c = .arr f s x → ∃ f' x',r'.c = .arr f' s x'∧x'.length=x.length)∧(q.c = .dead∨r'.c ≠ .dead) ∧ ∀ (c c':Cx) (o:Ob),c'.m=m→RW c r'.c o→CxOk c c'→IdsOk c c' ni idl→RW c' q.c o)
theorem eqFz_ok{a b:Fz}(h:eqFz a b=true):a=b:=by cases a<;>cases b<;>simp_all [eqFz]
theorem encR_ok{strict:Bool}{m:Nat}{rks:List RK}{rows:List Row}{ids:List Nat}{K:List V→List Nat→Option ρ'}(h:encR strict m rks rows ids K=some r) :
  ∃ l idl,K l (pushIds idl ids)=some r∧Fresh idl ids ∧ ∀ head (rows0:List Row) v i ni,Vals v i l → ∀ qs i' ni',decR head v i ni rks rows0=some (qs,i',ni') →
   ni'=ni+idl.length∧qs.length=rows0.length∧qs.length≤rows.length ∧ ∀ (k:Nat) (q:Row),qs[k]?=some q → ∃ r0 r',rows0[k]?=some r0∧rows[k]?=some r'∧RowOk strict head m ni idl r0 r' q:=by
 have later : ∀ {strict head:Bool} {m:Nat} {ni:Nat} {a b:List (Option Nat)} {r0 r' q:Row},RowOk strict head m (ni+a.length) b r0 r' q→RowOk strict head m ni (a++b) r0 r' q:=by
  intro strict head m ni a b r0 r' q hh
  rcases hh with hh | ⟨h1,h2,h3,h4,h5⟩
  ·exact .inl hh
  ·exact .inr ⟨h1,h2,h3,h4,fun c c' o hm hr hcx hio=>h5 c c' o hm hr hcx hio.app.2⟩
 induction rks generalizing rows ids K with
 | nil=>
  have h:K [] ids=some r:=by
   cases rows with
   | nil=>exact h
   | cons _ _=>simp only[encR]at h;split at h<;>first | exact h | contradiction
  refine⟨[],[],h,trivial,fun head rows0 v i ni hv qs i' ni' hd => ?_⟩
  cases rows0 with
  | cons _ _=>simp[decR]at hd
  | nil=>
   simp only[decR,Option.some.injEq,Prod.mk.injEq]at hd
   obtain⟨rfl,rfl,rfl⟩:=hd
   exact⟨rfl,rfl,Nat.zero_le _,fun k q hk=>by simp at hk⟩
 | cons rk rest ih=>
  cases rows with
  | nil=>simp[encR]at h
  | cons rw s=>
   obtain⟨f,c⟩:=rw
   simp only[encR]at h
   -- a kind that is encoded
   have other : ∀ {l1:List V} {idl1:List (Option Nat)},f=false →
     encR strict m rest s (pushIds idl1 ids) (fun l' ids=>K (l1++l') ids)=some r→Fresh idl1 ids →
     (∀ v i ni,Vals v i l1 → ∃ cq:RowC,(∀ head (f0:Bool) (c0:RowC) rows0,decR head v i ni (rk::rest) (⟨f0,c0⟩::rows0)=match decR head v (i+l1.length) (ni+idl1.length) rest rows0 with | some (l,q)=>some (⟨false,cq⟩::l,q) | none=>none) ∧
      (∀ f s x,cq = .arr f s x → ∃ f' x',c = .arr f' s x'∧x'.length=x.length)∧(cq = .dead∨c ≠ .dead) ∧ ∀ (cx c':Cx) (o:Ob),c'.m=m→RW cx c o→CxOk cx c'→IdsOk cx c' ni idl1→RW c' cq o) →
     ∃ l idl,K l (pushIds idl ids)=some r∧Fresh idl ids ∧ ∀ head (rows0:List Row) v i ni,Vals v i l → ∀ qs i' ni',decR head v i ni (rk::rest) rows0=some (qs,i',ni') →
      ni'=ni+idl.length∧qs.length=rows0.length∧qs.length≤(⟨f,c⟩::s).length ∧ ∀ (k:Nat) (q:Row),qs[k]?=some q → ∃ r0 r',rows0[k]?=some r0∧((⟨f,c⟩:Row)::s)[k]?=some r'∧RowOk strict head m ni idl r0 r' q:=by
    intro l1 idl1 hf h1 h2 h3
    obtain⟨l2,idl2,h4,h5,h6⟩:=ih h1
    refine⟨l1++l2,idl1++idl2,by rw[pushIds_app];exact h4,h2.app h5,fun head rows0 v i ni hv qs i' ni' hd => ?_⟩
    obtain⟨hv1,hv2⟩:=hv.app
    obtain⟨cq,h7,h8,h8',h9⟩:=h3 v i ni hv1
    cases rows0 with
    | nil=>simp[decR]at hd
    | cons r0 rows0=>
     obtain⟨f0,c0⟩:=r0
     rw[h7]at hd
     split at hd<;>try contradiction
     next qs2 q2 hq=>
      obtain⟨i2,ni2⟩:=q2
      obtain⟨h10,h11,h12,h13⟩:=h6 head rows0 v _ _ hv2 qs2 i2 ni2 hq
      simp only[Option.some.injEq,Prod.mk.injEq]at hd
      obtain⟨rfl,rfl,rfl⟩:=hd
      refine⟨by rw[h10];simp[Nat.add_assoc],by simp[h11],by simp;exact h12,fun k q hk => ?_⟩
      cases k with
      | zero=>
       simp at hk;subst hk
       exact⟨⟨f0,c0⟩,⟨f,c⟩,by simp,by simp,.inr ⟨rfl,hf,h8,h8',fun cx c' o hm hr hcx hio=>h9 cx c' o hm hr hcx hio.app.1⟩⟩
      | succ k=>
       obtain⟨r0,r',h14,h15,h16⟩:=h13 k q (by simpa using hk)
       exact⟨r0,r',by simpa using h14,by simpa using h15,later h16⟩
   split at h
   ·-- untouched
    split at h<;>try contradiction
    next hc=>
     simp only[zG,Bool.or_eq_true,Bool.not_eq_true']at hc
     obtain⟨l2,idl2,h4,h5,h6⟩:=ih h
     refine⟨l2,idl2,h4,h5,fun head rows0 v i ni hv qs i' ni' hd => ?_⟩
     cases rows0 with
     | nil=>simp[decR]at hd
     | cons r0 rows0=>
      obtain⟨f0,c0⟩:=r0
      simp only[decR]at hd
      split at hd<;>try contradiction
      next qs2 q2 hq=>
       obtain⟨i2,ni2⟩:=q2
       obtain⟨h10,h11,h12,h13⟩:=h6 head rows0 v _ _ hv qs2 i2 ni2 hq
       simp only[Option.some.injEq,Prod.mk.injEq]at hd
       obtain⟨rfl,rfl,rfl⟩:=hd
       refine⟨h10,by simp[h11],by simp;exact h12,fun k q hk => ?_⟩
       cases k with
       | zero=>
        simp at hk;subst hk
        refine⟨⟨f0,c0⟩,⟨f,c⟩,by simp,by simp,.inl ⟨rfl,fun hs => ?_,hc.2⟩⟩
        rcases hc.1 with h14 | h14
        ·rw[hs]at h14;contradiction
        ·exact h14
       | succ k=>
        obtain⟨r0,r',h14,h15,h16⟩:=h13 k q (by simpa using hk)
        exact⟨r0,r',by simpa using h14,by simpa using h15,h16⟩
   ·-- dead
    split at h<;>try contradiction
    next _=>
     refine other (l1:=[]) (idl1:=[]) rfl h trivial (fun v i ni hv=>⟨.dead,fun head f0 c0 rows0=>rfl,fun f s x e=>by contradiction,.inl rfl,fun _ _ _ _ _ _ _=>trivial⟩)
   ·-- a box
    next n=>
    split at h<;>try contradiction
    next _=>
     split at h<;>try contradiction
     ·next n' x=>
      split at h<;>try contradiction
      next hn=>
       have hn:=zJ hn;subst hn
       refine other (l1:=[x]) (idl1:=[]) rfl h trivial (fun v i ni hv=>⟨.box n (v i),fun head f0 c0 rows0=>rfl,fun f s x e=>by contradiction,.inr (by simp),fun cx c' o _ hr _ _ => ?_⟩)
       have hv0:v i=x:=hv 0 _ rfl
       rw[hv0];exact hr
     ·next ps=>
      split at h<;>try contradiction
      next hn=>
       simp only[zG]at hn
       have hn1:=zJ hn.1
       split at h<;>try contradiction
       next l hl=>
        refine other (l1:=[.agg l]) (idl1:=[]) rfl h trivial (fun v i ni hv=>⟨.box n (v i),fun head f0 c0 rows0=>rfl,fun f s x e=>by contradiction,.inr (by simp),fun cx c' o _ hr _ _ => ?_⟩)
        have hv0:v i = .agg l:=hv 0 _ rfl
        rw[hv0]
        obtain⟨ds,rfl,h1,h2⟩:=hr
        have h3:=pureL_ok h1 hl
        exact⟨ds,rfl,h3,okN_mk (by show l.length=n;rw[hn1,RSL_len h1,len_of h3]) (allOneV_of h3 h2)⟩
   ·-- cells
    next kds=>
    split at h<;>try contradiction
    next _=>
     split at h<;>try contradiction
     ·next ps=>
      obtain⟨l1,idl1,h1,h2,h3⟩:=encL_ok h
      refine other rfl h1 h2 (fun v i ni hv=>⟨.cells (decL v i ni kds).1,fun head f0 c0 rows0 => ?_,fun f s x e=>by contradiction,.inr (by simp),fun cx c' o hm hr hcx hio => ?_⟩)
      ·have h7:=(h3 v i ni hv).1
       simp only[decR]
       rw[h7]
       cases decR head v (i+l1.length) (ni+idl1.length) rest rows0<;>rfl
      ·obtain⟨ds,rfl,h4,h5⟩:=hr
       exact⟨ds,rfl,(h3 v i ni hv).2 cx c' ds hm h4 hcx hio,h5⟩
     ·next n x=>
      have hh : ∃ ps,(okN n x=true→ps=x.parts.map .v)∧encL m kds ps ids (fun l ids=>encR strict m rest s ids fun l' ids=>K (l++l') ids)=some r:=by
       by_cases hx:okN n x=true
       ·exact⟨_,fun _=>rfl,cellsFrom_all hx h⟩
       ·rcases cellsFrom_ok h with⟨_,h2⟩ | ⟨_,h2⟩
        ·exact⟨_,fun h=>(hx h).elim,h2⟩
        ·exact⟨_,fun h=>(hx h).elim,h2⟩
      obtain⟨ps,hps,h⟩:=hh
      obtain⟨l1,idl1,h1,h2,h3⟩:=encL_ok h
      refine other rfl h1 h2 (fun v i ni hv=>⟨.cells (decL v i ni kds).1,fun head f0 c0 rows0 => ?_,fun f s x e=>by contradiction,.inr (by simp),fun cx c' o hm hr hcx hio => ?_⟩)
      ·have h7:=(h3 v i ni hv).1
       simp only[decR]
       rw[h7]
       cases decR head v (i+l1.length) (ni+idl1.length) rest rows0<;>rfl
      ·obtain⟨ds,rfl,h4,h5⟩:=hr
       have h6:=RSL_v (c:=cx) h4
       rw[← hps h5]at h6
       exact⟨ds,rfl,(h3 v i ni hv).2 cx c' ds hm h6 hcx hio,allOne_of h4 (okN_one h5)⟩
   ·-- elements
    next fz sz=>
    split at h<;>try contradiction
    next _=>
     split at h<;>try contradiction
     next fz' sz' xs=>
      split at h<;>try contradiction
      next hc=>
       simp only[zG]at hc
       have h1:=zJ hc.1;subst h1
       have h2:=eqFz_ok hc.2;subst h2
       refine other (l1:=[.sl xs]) (idl1:=[]) rfl h trivial (fun v i ni hv => ?_)
       have hv0:v i = .sl xs:=hv 0 _ rfl
       refine⟨.arr fz sz (v i).elems,fun head f0 c0 rows0=>rfl,fun f s x e => ?_,.inr (by simp),fun cx c' o _ hr _ _ => ?_⟩
       ·simp only[RowC.arr.injEq]at e
        obtain⟨rfl,rfl,rfl⟩:=e
        exact⟨fz,xs,rfl,by rw[hv0];rfl⟩
       ·rw[hv0];exact hr
   ·-- a text that is gone through
    split at h<;>try contradiction
    next _=>
     split at h<;>try contradiction
     next x n=>
      refine other (l1:=[.str x,.int .i64 (n:Int)]) (idl1:=[]) rfl h trivial (fun v i ni hv => ?_)
      have hv0:v i = .str x:=hv 0 _ rfl
      have hv1:v (i+1) = .int .i64 (n:Int):=hv 1 _ rfl
      refine⟨.iter (txtV (v i)) (natV (v (i+1))),fun head f0 c0 rows0=>rfl,fun f s x e=>by contradiction,.inr (by simp),fun cx c' o _ hr _ _ => ?_⟩
      rw[hv0,hv1,show natV (.int .i64 (n:Int))=n by simp[natV]];exact hr
   ·-- a builder
    split at h<;>try contradiction
    next _=>
     split at h<;>try contradiction
     next t' e' x=>
      split at h<;>try contradiction
      next hc=>
       simp only[zG]at hc
       have h1:=zJ hc.1;subst h1
       have h2:=zJ hc.2;subst h2
       refine other (l1:=[.str x]) (idl1:=[]) rfl h trivial (fun v i ni hv => ?_)
       have hv0:v i = .str x:=hv 0 _ rfl
       refine⟨.bld _ _ (txtV (v i)),fun head f0 c0 rows0=>rfl,fun f s x e=>by contradiction,.inr (by simp),fun cx c' o _ hr _ _ => ?_⟩
       rw[hv0];exact hr
end
end Go.Ev
end
section
namespace Go.Ev
def CP.low(m:Nat):CP→Prop
 | .v _=>True
 | .p k _=>k<m
def PS.low(m:Nat):PS→Prop
 | .ptr k _=>k<m
 | .ptrA k _ _ _=>k<m
 | .ref k _ _ _ _ _=>k<m
 | .fn _ cap => ∀ q∈cap,q.low m
 | _=>True
def PD.low(m:Nat):PD→Prop
 | .s q=>q.low m
 | .agg ps => ∀ q∈ps,q.low m
theorem RCL.low{ρ:Nat→Nat}{m:Nat}{cap:List CP}{ds:List D}(h:RCL ρ m cap ds) : ∀ q∈cap,q.low m:=by
 induction cap generalizing ds with
 | nil=>intro q hq;simp at hq
 | cons a r ih=>cases ds with
  | nil=>exact h.elim
  | cons d s=>
   intro q hq
   rcases List.mem_cons.1 hq with rfl | hq
   ·cases q with
    | v x=>trivial
    | p k off=>exact h.1.1
   ·exact ih h.2 q hq
theorem RS.low{c:Cx}{q:PS}{d:D}(h:RS c q d):q.low c.m:=by
 cases q with
 | ptr k off=>exact h.1
 | ptrA k sz i off=>exact h.1
 | ref k sz off n cp z=>exact h.1
 | fn f cap=>obtain⟨ds,_,h⟩:=h;exact h.low
 | _=>trivial
theorem RSL.low{c:Cx}{ps:List PS}{ds:List D}(h:RSL c ps ds) : ∀ q∈ps,q.low c.m:=by
 induction ps generalizing ds with
 | nil=>intro q hq;simp at hq
 | cons a r ih=>cases ds with
  | nil=>exact h.elim
  | cons d s=>
   intro q hq
   rcases List.mem_cons.1 hq with rfl | hq
   ·exact h.1.low
   ·exact ih h.2 q hq
theorem RP.low{c:Cx}{q:PD}{d:D}(h:RP c q d):q.low c.m:=by
 cases q with
 | s q=>exact RS.low h
 | agg ps=>obtain⟨ds,_,h,_⟩:=h;exact h.low
theorem RCL.at{ρ ρ':Nat→Nat}{m m':Nat}{cap:List CP}{ds:List D}(h:RCL ρ m cap ds)(hl : ∀ q∈cap,q.low m')(hρ : ∀ k,k<m'→ρ' k=ρ k):RCL ρ' m' cap ds:=by
 induction cap generalizing ds with
 | nil=>cases ds with | nil=>trivial | cons _ _=>exact h.elim
 | cons a r ih=>cases ds with
  | nil=>exact h.elim
  | cons d s=>
   refine⟨?_,ih h.2 (fun q hq=>hl q (zP _ hq))⟩
   have:=hl a List.mem_cons_self
   cases a with
   | v x=>exact h.1
   | p k off=>exact⟨this,by rw[hρ k this];exact h.1.2⟩
theorem RS.at{c c':Cx}{q:PS}{d:D}(h:RS c q d)(hl:q.low c'.m)(ho:hasOwnL [q]=false)(hc:CxOk c c'):RS c' q d:=by
 cases q with
 | v x=>exact h
 | own id sz xs=>simp[hasOwnL]at ho
 | full xs=>exact h
 | ptr k off=>exact⟨hl,by rw[hc.ρ k hl];exact h.2⟩
 | ptrA k sz i off=>
  refine⟨hl,by rw[hc.ρ k hl];exact h.2.1,fun s n hs => ?_⟩
  rcases hc.rk k hl with e | e
  ·exact h.2.2 s n (by rw[← e];exact hs)
  ·rw[e]at hs;contradiction
 | ref k sz off n cp z=>
  refine⟨hl,h.2.1,by rw[hc.ρ k hl];exact h.2.2.1,fun s n hs => ?_⟩
  rcases hc.rk k hl with e | e
  ·exact h.2.2.2 s n (by rw[← e];exact hs)
  ·rw[e]at hs;contradiction
 | el cs=>exact h
 | elx sz x off=>exact h
 | fn f cap=>obtain⟨ds,h1,h2⟩:=h;exact⟨ds,h1,RCL.at h2 hl hc.ρ⟩
theorem RSL.at{c c':Cx}{ps:List PS}{ds:List D}(h:RSL c ps ds)(hl : ∀ q∈ps,q.low c'.m)(ho:hasOwnL ps=false)(hc:CxOk c c'):RSL c' ps ds:=by
 induction ps generalizing ds with
 | nil=>cases ds with | nil=>trivial | cons _ _=>exact h.elim
 | cons a r ih=>cases ds with
  | nil=>exact h.elim
  | cons d s=>
   rw[hasOwn_cons,Bool.or_eq_false_iff]at ho
   exact⟨RS.at h.1 (hl a List.mem_cons_self) ho.1 hc,ih h.2 (fun q hq=>hl q (zP _ hq)) ho.2⟩
theorem RP.at{c c':Cx}{q:PD}{d:D}(h:RP c q d)(hl:q.low c'.m)(ho:q.hasOwn=false)(hc:CxOk c c'):RP c' q d:=by
 cases q with
 | s q=>exact RS.at h hl ho hc
 | agg ps=>obtain⟨ds,h1,h2,h3⟩:=h;exact⟨ds,h1,RSL.at h2 hl ho hc,h3⟩
theorem decR_len{head:Bool}{v:Nat→V}{rks:List RK}{rows:List Row}{i ni:Nat}{z:List Row×Nat×Nat}(h:decR head v i ni rks rows=some z):rks.length=rows.length:=by
 induction rks generalizing rows i ni z with
 | nil=>cases rows with | nil=>rfl | cons _ _=>simp[decR]at h
 | cons rk r ih=>cases rows with
  | nil=>simp[decR]at h
  | cons a s=>
   obtain⟨f,c⟩:=a
   cases rk<;>simp only[decR]at h<;>split at h<;>first | contradiction | (next hq=>simp[ih hq])
structure Again(strict head:Bool)(p p' q:PSt)(τ' τ'':Nat→Option Nat):Prop where
 len:q.rows.length=p.rows.length
 le:q.rows.length≤p'.rows.length
 τn : ∀ i l,τ'' i=some l → ∃ j,τ' j=some l
 slot : ∀ t d,getF q.tm t=some (true,d) → ∃ f0 f',getF p.tm t=some (f0,d)∧(head || f0)=true∧getF p'.tm t=some (f',d)∧(strict=true→f'=true)∧d.hasOwn=false
 row : ∀ (k:Nat) (rq:Row),q.rows[k]?=some rq → ∃ r0 r':Row,p.rows[k]?=some r0∧p'.rows[k]?=some r' ∧
  ((rq=⟨head || r0.ro,r0.c⟩∧r0.c=r'.c∧(strict=true→r'.ro=true)∧r0.c.hasOwn=false)∨(rq.ro=false∧r'.ro=false))
 rk : ∀ k,k<q.rows.length→rkOf q.rows k=rkOf p'.rows k∨rkOf q.rows k=none
theorem encK_ok{ρ':Type}{r:ρ'}{strict:Bool}{sh:Sh}{p':PSt}{K:(Nat→V)→Option ρ'}(h:encK strict sh p' K=some r) :
  ∃ v,K v=some r ∧ ∀ (head:Bool) (p q:PSt),dec head sh p v=some q → ∀ (ρ0 ρ1:Nat→Nat) (τ0 τ1:Nat→Option Nat) (st0 st1:St),Sim ρ0 τ0 p st0→Sim ρ1 τ1 p' st1 →
   (∀ t f' d',getF p'.tm t=some (f',d')→(strict=true→f'=true) → ∀ f0 d,getF p.tm t=some (f0,d)→d=d') →
   (∀ (k:Nat) (r0 r':Row),p.rows[k]?=some r0→p'.rows[k]?=some r'→(strict=true→r'.ro=true)→r0.c=r'.c) →
   ∃ τ2,Sim ρ1 τ2 q st1∧Again strict head p p' q τ1 τ2:=by
 unfold encK at h
 obtain⟨l1,idl1,h1,h2,h3⟩:=encT_ok h
 obtain⟨l2,idl2,h4,h5,h6⟩:=encR_ok h1
 refine⟨_,h4,fun head p q hq ρ0 ρ1 τ0 τ1 st0 st1 hS0 hS1 H1 H2 => ?_⟩
 have hF:Fresh (idl1++idl2) []:=h2.app h5
 unfold dec at hq
 split at hq<;>try contradiction
 next tm i1 ni1 ht=>
  split at hq<;>try contradiction
  next rows i2 ni2 hr=>
   injection hq with hq
   obtain⟨hv1,hv2⟩:=(Vals.vec (l1++l2)).app
   rw[Nat.zero_add]at hv2
   obtain⟨h7,h8,h9⟩:=h3 head p _ 0 0 hv1 tm i1 ni1 ht
   rw[Nat.zero_add]at h7 h8
   subst h7;subst h8
   obtain⟨h10,h11,h12,h13⟩:=h6 head p.rows _ _ _ hv2 rows i2 ni2 hr
   have hm:=decR_len hr
   have hqr:q.rows=rows:=by rw[← hq]
   have hqt:q.tm=tm:=by rw[← hq]
   have hqn:q.ni=(idl1++idl2).length:=by rw[← hq];simp[h10]
   -- the lineages
   let τ2:Nat→Option Nat:=fun i=>match(idl1++idl2)[i]? with | some (some id)=>τ1 id | _=>none
   have hτ2 : ∀ i l,τ2 i=some l → ∃ id,(idl1++idl2)[i]?=some (some id)∧τ1 id=some l:=by
    intro i l hi
    simp only[τ2]at hi
    split at hi
    ·next id hid=>exact⟨id,hid,hi⟩
    ·contradiction
   have hlen:q.rows.length=p.rows.length:=by rw[hqr,h11]
   have hle:q.rows.length≤p'.rows.length:=by rw[hqr];exact h12
   have hrow : ∀ (k:Nat) (rq:Row),q.rows[k]?=some rq → ∃ r0 r':Row,p.rows[k]?=some r0∧p'.rows[k]?=some r'∧RowOk strict head sh.rows.length idl1.length idl2 r0 r' rq:=by
    intro k rq hk;rw[hqr]at hk;exact h13 k rq hk
   have hrk : ∀ k,k<q.rows.length→rkOf q.rows k=rkOf p'.rows k∨rkOf q.rows k=none:=by
    intro k hk
    obtain⟨rq,hrq⟩:=get_lt hk
    obtain⟨r0,r',h14,h15,h16⟩:=hrow k rq hrq
    rcases h16 with⟨h17,h18,h19⟩ | ⟨h17,h18,h19,_,h20⟩
    ·left
     have:=H2 k r0 r' h14 h15 h18
     subst h17
     obtain⟨f0,c0⟩:=r0
     obtain⟨f',c'⟩:=r'
     simp only at this;subst this
     cases c0<;>simp only[rkOf,hrq,h15]
    ·obtain⟨fq,cq⟩:=rq
     cases hcq:cq with
     | arr f s x=>
      left
      obtain⟨f',x',h21,h22⟩:=h19 f s x hcq
      obtain⟨f'',c'⟩:=r'
      simp only at h21;subst h21;subst hcq
      simp only[rkOf,hrq,h15,h22]
     | _=>right;subst hcq;simp only[rkOf,hrq]
   have hcx:CxOk (cxOf ρ1 τ1 p' st1) (cxOf ρ1 τ2 q st1):=⟨fun _ _=>rfl,hle,hrk,rfl⟩
   have hcm:(cxOf ρ1 τ2 q st1).m=sh.rows.length:=by show q.rows.length=_;rw[hlen,hm]
   have hio:IdsOk (cxOf ρ1 τ1 p' st1) (cxOf ρ1 τ2 q st1) 0 (idl1++idl2):=by
    intro j o hj
    rw[Nat.zero_add]
    refine⟨?_,by show j<q.ni;rw[hqn];exact getElem?_lt hj⟩
    show τ2 j=o.bind τ1
    simp only[τ2,hj]
    cases o<;>rfl
   have hio1:=hio.app.1
   have hio2:=hio.app.2
   rw[Nat.zero_add]at hio2
   refine⟨τ2,⟨fun t f d hd => ?_,fun k hk=>hS1.nx k (zK hk hle),fun k rq hk => ?_,fun j k hj hk=>hS1.inj j k (zK hj hle) (zK hk hle),fun i l hi => ?_,fun i j l hi hj => ?_⟩,
    hlen,hle,fun i l hi => ?_,fun t d hd => ?_,fun k rq hk => ?_,hrk⟩
   ·rw[hqt]at hd
    rcases h9 t f d hd with⟨f0,f',d',h14,h15,h16,h17,h18⟩ | ⟨h14,dp,h15,h16⟩
    ·have:=H1 t f' d' h16 h17 f0 d h14
     subst this
     obtain⟨e,he,hre⟩:=hS1.tm t f' d h16
     obtain⟨e0,_,hre0⟩:=hS0.tm t f0 d h14
     refine⟨e,he,RP.at hre ?_ h18 hcx⟩
     have:=hre0.low
     show d.low q.rows.length
     rw[hlen];exact this
    ·obtain⟨e,he,hre⟩:=hS1.tm t false dp h15
     exact⟨e,he,h16 _ _ e hcm hre hcx hio1⟩
   ·obtain⟨r0,r',h14,h15,h16⟩:=hrow k rq hk
    rcases h16 with⟨h17,h18,h19⟩ | ⟨h17,h18,h19,h19',h20⟩
    ·have hc:=H2 k r0 r' h14 h15 h18
     obtain⟨o,ho1,ho2⟩:=hS1.rows k r' h15
     rw[← hc]at ho1 ho2 h19
     subst h17
     refine⟨o,ho1,?_⟩
     obtain⟨f0,c0⟩:=r0
     simp only at ho2 h19 ⊢
     cases c0 with
     | cells ps=>
      obtain⟨ds,h21,h22,h23⟩:=ho2
      refine⟨ds,h21,RSL.at h22 ?_ h19 hcx,h23⟩
      obtain⟨o0,_,ds0,_,hr0,_⟩:=hS0.rows k _ h14
      have:=hr0.low
      show ∀ q'∈ps,q'.low q.rows.length
      rw[hlen];exact this
     | _=>exact ho2
    ·obtain⟨o,ho1,ho2⟩:=hS1.rows k r' h15
     refine⟨o,?_,h20 _ _ o hcm ho2 hcx hio2⟩
     rcases ho1 with ho1 | ho1
     ·rcases h19' with h21 | h21
      ·exact .inl h21
      ·exact(h21 ho1).elim
     ·exact .inr ho1
   ·obtain⟨id,h14,h15⟩:=hτ2 i l hi
    exact⟨by rw[hqn];exact getElem?_lt h14,(hS1.lin id l h15).2⟩
   ·obtain⟨id,h14,h15⟩:=hτ2 i l hi
    obtain⟨id',h16,h17⟩:=hτ2 j l hj
    have:=hS1.linj id id' l h15 h17
    subst this
    exact hF.inj h14 h16
   ·obtain⟨id,_,h15⟩:=hτ2 i l hi;exact⟨id,h15⟩
   ·rw[hqt]at hd
    rcases h9 t true d hd with⟨f0,f',d',h14,h15,h16,h17,h18⟩ | ⟨h14,_⟩
    ·have:=H1 t f' d' h16 h17 f0 d h14
     subst this
     exact⟨f0,f',h14,h15.symm,h16,h17,h18⟩
    ·contradiction
   ·obtain⟨r0,r',h14,h15,h16⟩:=hrow k rq hk
    refine⟨r0,r',h14,h15,?_⟩
    rcases h16 with⟨h17,h18,h19⟩ | ⟨h17,h18,_⟩
    ·have hc:=H2 k r0 r' h14 h15 h18
     exact .inl ⟨h17,hc,h18,by rw[hc];exact h19⟩
    ·exact .inr ⟨h17,h18⟩
/-- a state within a piece of code, seen from where it was entered -/
structure In(ρ:Nat→Nat)(τ:Nat→Option Nat)(p:PSt)(st:St)(ρ1:Nat→Nat)(τ1:Nat→Option Nat)(pv:PSt)(st1:St):Prop where
 sim:Sim ρ1 τ1 pv st1
 wf:Wf pv
 nx:st.nx≤st1.nx
 lo:st1.lo=st.lo
 len:pv.rows.length=p.rows.length
 ρs : ∀ k,k<p.rows.length→ρ1 k=ρ k
 τn : ∀ i l,τ1 i=some l→(∃ j,τ j=some l)∨st.nx≤l
 slots : ∀ t d,getF pv.tm t=some (true,d)→(∃ f,getF p.tm t=some (f,d))∧get st1.tm t=get st.tm t
 rows : ∀ (k:Nat) (r:Row),pv.rows[k]?=some r→r.ro=true → ∃ f,p.rows[k]?=some ⟨f,r.c⟩
 rowf : ∀ (k:Nat) (r0 r:Row),p.rows[k]?=some r0→pv.rows[k]?=some r→r0.ro=true→r.ro=true
 rk : ∀ k,k<p.rows.length→rkOf pv.rows k=rkOf p.rows k∨rkOf pv.rows k=none
 mem : ∀ b,b<st.nx→(∀ (k:Nat) (r:Row),p.rows[k]?=some r→ρ k=b→r.ro=true)→st1.mem b=st.mem b
 tip : ∀ l,l<st.nx→(∀ i,τ i≠some l)→st1.tip l=st.tip l
 lw : ∀ m,m≤st.lw→m≤st.nx→(∀ (k:Nat) (r:Row),p.rows[k]?=some r→r.ro=false∨r.c.isArr=true→m≤ρ k)→(∀ i l,τ i=some l→m≤l)→m≤st1.lw
section
variable {ρ:Nat→Nat} {τ:Nat→Option Nat} {p:PSt} {st:St}
/-- a piece of code is entered -/
theorem in_enter{ρ':Type}{r:ρ'}(hS:Sim ρ τ p st){h:Sh}{K:(Nat→V)→Option ρ'}(he:encK false h p K=some r) : ∃ v,K v=some r ∧ ∀ pv,dec true h p v=some pv → ∃ τ1,In ρ τ p st ρ τ1 pv st:=by
 obtain⟨v,h1,h2⟩:=encK_ok he
 refine⟨v,h1,fun pv hd => ?_⟩
 obtain⟨τ1,h3,h4⟩:=h2 true p pv hd ρ ρ τ τ st st hS hS (fun t f' d' h1 _ f0 d h2=>by rw[h1]at h2;simp only[Option.some.injEq,Prod.mk.injEq]at h2;exact h2.2.symm) (fun k r0 r' h1 h2 _=>by rw[h1]at h2;injection h2 with h2;rw[h2])
 refine⟨τ1,h3,⟨fun t d ht => ?_,fun k r hk hr => ?_⟩,zR _,rfl,h4.len,fun _ _=>rfl,fun i l hi => .inl (h4.τn i l hi),fun t d ht => ?_,fun k r hk hr => ?_,fun k r0 r hk0 hk hr => ?_,fun k hk=>h4.rk k (by rw[h4.len];exact hk),fun _ _ _=>rfl,fun _ _ _=>rfl,fun m h _ _ _=>h⟩
 ·obtain⟨_,_,_,_,_,_,h5⟩:=h4.slot t d ht;exact h5
 ·obtain⟨r0,r',h5,h6,⟨h7,h8,h9,h10⟩ | ⟨h7,_⟩⟩:=h4.row k r hk
  ·rw[h7];exact h10
  ·rw[hr]at h7;contradiction
 ·obtain⟨f0,_,h5,_⟩:=h4.slot t d ht;exact⟨⟨f0,h5⟩,rfl⟩
 ·obtain⟨r0,r',h5,h6,⟨h7,h8,h9,h10⟩ | ⟨h7,_⟩⟩:=h4.row k r hk
  ·exact⟨r0.ro,by rw[h7];exact h5⟩
  ·rw[hr]at h7;contradiction
 ·obtain⟨r0',r',h5,h6,⟨h7,h8,h9,h10⟩ | ⟨h7,h8⟩⟩:=h4.row k r hk
  ·rw[h7];rfl
  ·rw[hk0]at h6;injection h6 with h6;subst h6;rw[hr]at h8;contradiction
/-- what is known behind a part of it -/
theorem in_step{ρ1:Nat→Nat}{τ1:Nat→Option Nat}{pv:PSt}{st1:St}(hS:Sim ρ τ p st)(h:In ρ τ p st ρ1 τ1 pv st1){ρ2:Nat→Nat}{τ2:Nat→Option Nat}{p':PSt}{st2:St}(g:Goes ρ1 τ1 pv st1 ρ2 τ2 p' st2){ρ':Type}{r:ρ'}
  {sh:Sh} {K:(Nat→V)→Option ρ'} (he:encK true sh p' K=some r) : ∃ v,K v=some r∧(∀ pw,dec true sh p v=some pw → ∃ τ3,In ρ τ p st ρ2 τ3 pw st2) ∧ ∀ q,dec false sh p v=some q → ∃ τ3,Goes ρ τ p st ρ2 τ3 q st2:=by
 have nx:=Nat.le_trans h.nx g.nx
 have lo:=g.lo.trans h.lo
 have ρs : ∀ k,k<p.rows.length→ρ2 k=ρ k:=fun k hk=>by rw[g.ρs k (by rw[h.len];exact hk),h.ρs k hk]
 have τn : ∀ i l,τ2 i=some l→(∃ j,τ j=some l)∨st.nx≤l:=fun i l hi=>by
  rcases g.τn i l hi with⟨j,hj⟩ | hj
  ·exact h.τn j l hj
  ·exact .inr (Nat.le_trans h.nx hj)
 have mem : ∀ b,b<st.nx→(∀ (k:Nat) (r:Row),p.rows[k]?=some r→ρ k=b→r.ro=true)→st2.mem b=st.mem b:=by
  intro b hb hr
  rw[g.mem b (zK hb h.nx) ?_,h.mem b hb hr]
  intro k rv hk hkb
  have hkl:k<p.rows.length:=by rw[← h.len];exact getElem?_lt hk
  obtain⟨r0,hr0⟩:=get_lt hkl
  rw[h.ρs k hkl]at hkb
  exact h.rowf k r0 rv hr0 hk (hr k r0 hr0 hkb)
 have tip : ∀ l,l<st.nx→(∀ i,τ i≠some l)→st2.tip l=st.tip l:=by
  intro l hl hn
  rw[g.tip l (zK hl h.nx) ?_,h.tip l hl hn]
  intro i hi
  rcases h.τn i l hi with⟨j,hj⟩ | hj
  ·exact hn j hj
  ·omega
 have lw : ∀ m,m≤st.lw→m≤st.nx→(∀ (k:Nat) (r:Row),p.rows[k]?=some r→r.ro=false∨r.c.isArr=true→m≤ρ k)→(∀ i l,τ i=some l→m≤l)→m≤st2.lw:=by
  intro m h1 h2 h3 h4
  refine g.lw m (h.lw m h1 h2 h3 h4) (Nat.le_trans h2 h.nx) (fun k rv hk hr => ?_) (fun i l hi => ?_)
  ·have hkl:k<p.rows.length:=by rw[← h.len];exact getElem?_lt hk
   obtain⟨r0,hr0⟩:=get_lt hkl
   rw[h.ρs k hkl]
   refine h3 k r0 hr0 ?_
   cases hro:rv.ro with
   | false=>
    left
    cases hb:r0.ro with
    | false=>rfl
    | true=>have:=h.rowf k r0 rv hr0 hk hb;rw[hro]at this;contradiction
   | true=>
    obtain⟨f,hf⟩:=h.rows k rv hk hro
    rw[hr0]at hf;injection hf with hf;subst hf
    rcases hr with hr | hr
    ·rw[hro]at hr;contradiction
    ·exact .inr hr
  ·rcases h.τn i l hi with⟨j,hj⟩ | hj
   ·exact h4 j l hj
   ·exact Nat.le_trans h2 hj
 obtain⟨v,h1,h2⟩:=encK_ok he
 have H1 : ∀ t f' d',getF p'.tm t=some (f',d')→(true=true→f'=true) → ∀ f0 d,getF p.tm t=some (f0,d)→d=d':=by
  intro t f' d' ht hf f0 d hd
  have hf:=hf rfl
  subst hf
  obtain⟨h3,_⟩:=g.flg h.wf t d' ht
  obtain⟨⟨f,h5⟩,_⟩:=h.slots t d' h3
  rw[hd]at h5
  simp only[Option.some.injEq,Prod.mk.injEq]at h5
  exact h5.2
 have H2 : ∀ (k:Nat) (r0 r':Row),p.rows[k]?=some r0→p'.rows[k]?=some r'→(true=true→r'.ro=true)→r0.c=r'.c:=by
  intro k r0 r' hk hk' hr
  have hr:=hr rfl
  have hkl:k<pv.rows.length:=by rw[h.len];exact getElem?_lt hk
  obtain⟨rv,hrv,hro⟩:=g.rof k r' hkl hk' hr
  have h3:=g.ro h.wf k rv hrv hro
  rw[hk']at h3;injection h3 with h3;subst h3
  obtain⟨f,hf⟩:=h.rows k r' hrv hro
  rw[hk]at hf;injection hf with hf;subst hf;rfl
 have slot : ∀ {head q τ3},Again true head p p' q τ2 τ3 → ∀ t d,getF q.tm t=some (true,d) → ∃ f0,getF p.tm t=some (f0,d)∧(head || f0)=true∧get st2.tm t=get st.tm t∧d.hasOwn=false:=by
  intro head q τ3 hA t d ht
  obtain⟨f0,f',h3,h4,h5,h6,h7⟩:=hA.slot t d ht
  have hf:=h6 rfl
  subst hf
  obtain⟨h8,h9⟩:=g.flg h.wf t d h5
  obtain⟨_,h10⟩:=h.slots t d h8
  exact⟨f0,h3,h4,h9.trans h10,h7⟩
 have rkq : ∀ {head q τ3},Again true head p p' q τ2 τ3 → ∀ k,k<p.rows.length→rkOf q.rows k=rkOf p.rows k∨rkOf q.rows k=none:=by
  intro head q τ3 hA k hk
  rcases hA.rk k (by rw[hA.len];exact hk)with e | e
  ·rcases g.rk k (by rw[h.len];exact hk)with e2 | e2
   ·rcases h.rk k hk with e3 | e3
    ·left;rw[e,e2,e3]
    ·right;rw[e,e2,e3]
   ·right;rw[e,e2]
  ·exact .inr e
 have τq : ∀ {head q τ3},Again true head p p' q τ2 τ3 → ∀ i l,τ3 i=some l→(∃ j,τ j=some l)∨st.nx≤l:=by
  intro head q τ3 hA i l hi
  obtain⟨j,hj⟩:=hA.τn i l hi
  exact τn j l hj
 -- what is held from without is held at the end
 have rof : ∀ {head q τ3},Again true head p p' q τ2 τ3 → ∀ (k:Nat) (r0 rq:Row),p.rows[k]?=some r0→q.rows[k]?=some rq→r0.ro=true→rq=⟨true,r0.c⟩:=by
  intro head q τ3 hA k r0 rq hk hq hr
  obtain⟨r0',r',h5,h6,⟨h7,h8,h9,h10⟩ | ⟨h7,h8⟩⟩:=hA.row k rq hq
  ·rw[hk]at h5;injection h5 with h5;subst h5
   rw[h7,hr,Bool.or_true]
  ·exfalso
   have hkl:k<pv.rows.length:=by rw[h.len];exact getElem?_lt hk
   obtain⟨rv,hrv⟩:=get_lt hkl
   have hro:=h.rowf k r0 rv hk hrv hr
   have:=g.ro h.wf k rv hrv hro
   rw[h6]at this;injection this with this;subst this
   rw[hro]at h8;contradiction
 refine⟨v,h1,fun pw hd => ?_,fun q hd => ?_⟩
 ·obtain⟨τ3,h3,h4⟩:=h2 true p pw hd ρ ρ2 τ τ2 st st2 hS g.sim H1 H2
  refine⟨τ3,h3,⟨fun t d ht => ?_,fun k r hk hr => ?_⟩,nx,lo,h4.len,ρs,τq h4,fun t d ht => ?_,fun k r hk hr => ?_,fun k r0 r hk0 hk hr => ?_,rkq h4,mem,tip,lw⟩
  ·obtain⟨_,_,_,_,h5⟩:=slot h4 t d ht;exact h5
  ·obtain⟨r0,r',h5,h6,⟨h7,h8,h9,h10⟩ | ⟨h7,_⟩⟩:=h4.row k r hk
   ·rw[h7];exact h10
   ·rw[hr]at h7;contradiction
  ·obtain⟨f0,h5,_,h6,_⟩:=slot h4 t d ht;exact⟨⟨f0,h5⟩,h6⟩
  ·obtain⟨r0,r',h5,h6,⟨h7,h8,h9,h10⟩ | ⟨h7,_⟩⟩:=h4.row k r hk
   ·exact⟨r0.ro,by rw[h7];exact h5⟩
   ·rw[hr]at h7;contradiction
  ·rw[rof h4 k r0 r hk0 hk hr]
 ·obtain⟨τ3,h3,h4⟩:=h2 false p q hd ρ ρ2 τ τ2 st st2 hS g.sim H1 H2
  refine⟨τ3,h3,nx,lo,by rw[h4.len];exact zR _,ρs,fun k h5 h6=>by rw[h4.len]at h6;omega,τq h4,fun _=>⟨fun t d ht => ?_,fun k r hk hr => ?_⟩,fun _ k r hk hr => ?_,fun k r' hkl hk hr => ?_,rkq h4,mem,tip,lw,fun _ t d ht => ?_⟩
  ·obtain⟨_,_,_,_,h5⟩:=slot h4 t d ht;exact h5
  ·obtain⟨r0,r',h5,h6,⟨h7,h8,h9,h10⟩ | ⟨h7,_⟩⟩:=h4.row k r hk
   ·rw[h7];exact h10
   ·rw[hr]at h7;contradiction
  ·have hkl:k<q.rows.length:=by rw[h4.len];exact getElem?_lt hk
   obtain⟨rq,hrq⟩:=get_lt hkl
   rw[hrq,rof h4 k r rq hk hrq hr]
   obtain⟨f,c⟩:=r
   simp only at hr;rw[hr]
  ·obtain⟨r0,r'',h5,h6,⟨h7,h8,h9,h10⟩ | ⟨h7,_⟩⟩:=h4.row k r' hk
   ·refine⟨r0,h5,?_⟩
    rw[h7]at hr;simpa using hr
   ·rw[hr]at h7;contradiction
  ·obtain⟨f0,h5,h6,h7,_⟩:=slot h4 t d ht
   simp only[Bool.false_or]at h6
   subst h6
   exact⟨h5,h7⟩
end
end Go.Ev
end
section
namespace Go.Ev
theorem loopM_up{α β:Type}{f:α→Option (α ⊕ β)}{n:Nat}{a:α}{b:β}(h:loopM f n a=some b)(m:Nat):loopM f (n+m) a=some b:=by
 induction n generalizing a with
 | zero=>simp[loopM]at h
 | succ n ih=>
  rw[Nat.add_right_comm]
  simp only[loopM]at h ⊢
  split at h
  ·next a' he=>exact ih h
  ·exact h
  ·contradiction
theorem loopM_uniq{α β:Type}{f:α→Option (α ⊕ β)}{n m:Nat}{a:α}{b c:β}(h:loopM f n a=some b)(k:loopM f m a=some c):b=c:=by
 have h1:=loopM_up h m
 have h2:=loopM_up k n
 rw[Nat.add_comm,h1]at h2;injection h2
theorem loopL_iff{α β:Type}{f:α→Option (α ⊕ β)}{a:α}{b:β}:loopL f a=some b ↔ ∃ n,loopM f n a=some b:=by
 unfold loopL
 constructor
 ·intro h
  split at h
  ·next hx=>
   injection h with h
   exact⟨_,by rw[← h];exact hx.choose_spec.choose_spec⟩
  ·contradiction
 ·rintro⟨n,hn⟩
  have hx : ∃ n b,loopM f n a=some b:=⟨n,b,hn⟩
  rw[dif_pos hx]
  rw[loopM_uniq hx.choose_spec.choose_spec hn]
theorem loopL_eq{α β:Type}(f:α→Option (α ⊕ β))(a:α):loopL f a=match f a with | some (.inl a')=>loopL f a' | some (.inr b)=>some b | none=>none:=by
 apply opt_ext
 intro b
 rw[loopL_iff]
 cases he:f a with
 | none=>
  simp only[reduceCtorEq,iff_false]
  rintro⟨n,hn⟩
  cases n with
  | zero=>simp[loopM]at hn
  | succ n=>simp[loopM,he]at hn
 | some q=>cases q with
  | inl a'=>
   rw[loopL_iff]
   constructor
   ·rintro⟨n,hn⟩
    cases n with
    | zero=>simp[loopM]at hn
    | succ n=>simp only[loopM,he]at hn;exact⟨n,hn⟩
   ·rintro⟨n,hn⟩
    exact⟨n+1,by simp only[loopM,he];exact hn⟩
  | inr c=>
   constructor
   ·rintro⟨n,hn⟩
    cases n with
    | zero=>simp[loopM]at hn
    | succ n=>simp only[loopM,he]at hn;exact hn
   ·intro h
    exact⟨1,by simp only[loopM,he];exact h⟩
def exOf:PEx→Ex
 | .nrm => .nrm
 | .ext i => .ext i
 | .ret => .ret
theorem findX_ok{ρ:Type}{r:ρ}{p:PSt}{v:Nat→V}{K:PEx→PSt→Option ρ}{xs:List (PEx×Sh)}{x:PEx}{j0 j:Nat}{sh:Sh}(h:findX xs x j0=some (j,sh)) :
  j0≤j∧(dspK p v K xs (j - j0)=some r → ∃ q,dec false sh p v=some q∧K x q=some r):=by
 induction xs generalizing j0 with
 | nil=>simp[findX]at h
 | cons a rest ih=>
  obtain⟨y,sh'⟩:=a
  have last:(j0,sh')=(j,sh)→x=y→j0≤j∧(dspK p v K ((y,sh')::rest) (j - j0)=some r → ∃ q,dec false sh p v=some q∧K x q=some r):=by
   intro e e2
   simp only[Prod.mk.injEq]at e
   obtain⟨rfl,rfl⟩:=e
   subst e2
   refine⟨zR _,fun hd => ?_⟩
   rw[Nat.sub_self]at hd
   cases rest with
   | nil=>
    simp only[dspK]at hd
    split at hd<;>try contradiction
    next q hq=>exact⟨q,hq,hd⟩
   | cons a b=>
    simp only[dspK,if_pos]at hd
    split at hd<;>try contradiction
    next q hq=>exact⟨q,hq,hd⟩
  have next1:findX rest x (j0+1)=some (j,sh)→j0≤j∧(dspK p v K ((y,sh')::rest) (j - j0)=some r → ∃ q,dec false sh p v=some q∧K x q=some r):=by
   intro h
   obtain⟨h1,h2⟩:=ih h
   refine⟨by omega,fun hd => ?_⟩
   cases rest with
   | nil=>simp[findX]at h
   | cons a b=>
    simp only[dspK]at hd
    rw[if_neg (by omega)]at hd
    refine h2 ?_
    rw[show j - (j0+1)=j - j0 - 1 by omega]
    exact hd
  cases y with
  | nrm=>
   simp only[findX]at h
   split at h
   ·injection h with h;exact last h rfl
   ·exact next1 h
  | ret=>
   simp only[findX]at h
   split at h
   ·injection h with h;exact last h rfl
   ·exact next1 h
  | ext i=>
   simp only[findX]at h
   split at h
   ·split at h
    ·next hb=>injection h with h;exact last h (by rw[zJ hb])
    ·exact next1 h
   ·exact next1 h
section
variable {E:Env} {gl:Gl} {pc:PcT}
theorem still_ok(hg:GlR E gl)(hpc:PcOk E gl.md pc)(l:PO) : ∀ {ρ':Type} {r:ρ'} {ρ:Nat→Nat} {τ:Nat→Option Nat} {p:PSt} {st:St} {K:PSt→Option ρ'},Sim ρ τ p st → ∀ x0,SoftIn x0 τ p st→stillL gl.md l=true→prunK gl pc l p K=some r →
  ∃ p',K p'=some r ∧ ∃ st',runStill E (callL E) (eraseO l) st=some st' ∧ ∃ τ1,Goes ρ τ p st ρ τ1 p' st'∧Soft x0 τ p st τ1 p' st':=by
 induction l with
 | nil=>intro _ r ρ τ p st K hS x0 hi hl h;exact⟨p,h,st,rfl,τ,.refl hS,.refl hi⟩
 | one o s ih=>
  intro _ r ρ τ p st K hS x0 hi hl h
  simp only[stillL,zG]at hl
  simp only[prunK]at h
  obtain⟨p1,h1,st1,ρ1,τ1,h2,h3,h4⟩:=pone_ok hg hpc hS hi.wf h
  obtain⟨rfl,h5⟩:=h4 hl.1 x0 hi
  obtain⟨p',h6,st',h7,τ2,h8,h9⟩:=ih h3.sim x0 (h5.inn hi h3) hl.2 h1
  refine⟨p',h6,st',?_,τ2,h3.trans hi.wf h8,h5.trans h9⟩
  have ho:regd none o=o:=by
   obtain⟨d,op,gd⟩:=o
   cases gd<;>rfl
  simp only[eraseO,eraseG,runStill,ho,h2]
  rw[if_pos h5.mem];exact h7
 | box n dst x r=>intro _ r ρ τ p st K hS x0 hi hl h;simp[stillL]at hl
 | grp c w ops dst a b s ih1 ih2=>
  intro _ r ρ τ p st K hS x0 hi hl h
  simp only[stillL,zG]at hl
  simp only[prunK]at h
  split at h<;>try contradiction
  split at h<;>try contradiction
  split at h<;>try contradiction
  split at h<;>try contradiction
  next cv hc _ bd hb _ bv hbv _ hfr=>
   simp only[zG]at hfr
   obtain⟨hfr,hnest⟩:=hfr
   rw[zA]at h
   obtain⟨cb,hcb,h⟩:=h
   rw[zA]at h
   obtain⟨x,hx,h⟩:=h
   split at h<;>try contradiction
   next p1 hp1=>
    obtain⟨ec,hec,hrc⟩:=evV_ok (E:=E) hg hS hc
    have:=asBool_ok hcb hrc;subst this
    have hec:get st.tm c=some (.bool cb):=hec
    have hcF : ∃ f d,getF p.tm c=some (f,d):=by
     unfold evV at hc
     split at hc<;>try contradiction
     next y hy=>
      simp only[evH,getF_getP,zB]at hy
      obtain⟨⟨f,d'⟩,h1,_⟩:=hy
      exact⟨f,d',h1⟩
    obtain⟨fc,dc,hcF⟩:=hcF
    have hcd:=freshD_ok hfr hcF
    have hsame : ∀ {tm:Tm},(∀ t,t ∉ dstsP ops→get tm t=get st.tm t) → ∀ t f d,getF p.tm t=some (f,d)→get tm t=get st.tm t:=
     fun h t f d ht=>h t (freshD_ok hfr ht)
    have key : ∃ st1 e,runStill E (callL E) (eraseG (some (c,w)) ops) st=some st1∧Goes ρ τ p st ρ τ p st1∧(st1.mem=st.mem ∧ ∀ l,l<st.nx→st1.tip l=st.tip l)∧get st1.tm c=some (.bool cb)∧ev E st1.tm (if cb=w then a else b)=some e∧e.cl0=x.toD:=by
     split at hx
     ·next hcw=>
      subst hcw
      have har:AllRo p.sealOf:=by
       intro k rw hk
       simp only[PSt.sealOf,sealR_get,zB]at hk
       obtain⟨r',_,rfl⟩:=hk
       rfl
      obtain⟨p',h1,st1,h2,τ1,h3,h3'⟩:=ih1 (seal_sim hS) st.nx ⟨har,seal_wf p,hi.lim,zR _,fun i l _ h=>by contradiction⟩ hl.1 hx
      have h4 : ∀ t,t ∉ dstsP ops→get st1.tm t=get st.tm t:=fun t ht=>still_other h2 (erase_dst ht)
      split at h1<;>try contradiction
      next da hda=>
       obtain⟨e,he,hr⟩:=evH_ok (E:=E) hg h3.sim hda
       exact⟨st1,e,still_yes hcd hec h2,unseal_goes hS h3 (hsame h4),⟨h3'.mem,h3'.tip⟩,by rw[h4 c hcd];exact hec,by rw[if_pos rfl];exact he,PD.pure_ok hr h1⟩
     ·next hcw=>
      injection hx with hx;subst hx
      obtain⟨tm,h1,h2,_⟩:=guard_no (E:=E) (cf:=callL E) (w:=w) hnest (.inl ⟨cb,hcw,hec⟩) (fun t ht=>by simp at ht)
      obtain⟨e,he,hr⟩:=evH_ok (E:=E) hg hS hb
      have ht:=hsame h2
      refine⟨_,e,h1.2,?_,⟨rfl,fun _ _=>rfl⟩,by show get tm c=_;rw[h2 c hcd];exact hec,by rw[if_neg hcw];show ev E tm b=_;rw[evH_same (st:=st) hb ht];exact he,PD.pure_ok hr hbv⟩
      have:=tm_goes hS (tm:=p.tm) (tm':=tm) (fun t f d hd=>by rw[ht t f d hd];exact hS.tm t f d hd) (fun t d hd=>⟨hd,ht t true d hd⟩)
      exact this
    obtain⟨st1,e,h1,h2,⟨hm1,hm2⟩,h3,h4,h5⟩:=key
    have h6:=setP_goes (e:=some e) h2.sim (show RO _ (some (.s (.v x))) (some e)from h5) hp1
    have hp1r:p1.rows=p.rows∧p1.ni=p.ni∧p1.lim=p.lim:=by
     simp only[setP]at hp1
     split at hp1<;>try contradiction
     injection hp1 with hp1;subst hp1;exact⟨rfl,rfl,rfl⟩
    have hgo:=h2.trans hi.wf h6
    have hso:Soft x0 τ p st τ p1 (st1.set (some dst) (some e)):=⟨hp1r.1,hp1r.2.2,by rw[hp1r.2.1];exact zR _,hm1,fun _ _=>rfl,hi.hi,fun l hl=>hm2 l (zK hl hi.nx)⟩
    obtain⟨p',h7,st',h8,τ2,h9,h10⟩:=ih2 h6.sim x0 (hso.inn hi hgo) hl.2 h
    refine⟨p',h7,st',?_,τ2,hgo.trans hi.wf h9,hso.trans h10⟩
    simp only[eraseO,eraseG]
    rw[runStill_append,h1]
    have hp:opC E (callL E) ⟨some dst,pickO c w a b,none⟩ st1=some (.ok (st1.set (some dst) (some e))):=by
     have h3':ev E st1.tm (.s c)=some (.bool cb):=h3
     cases w<;>cases cb<;>simp only[if_pos,if_neg,zF,zX,not_false_eq_true]at h4<;>simp[opC,wants,opR,opX,opD,h3',h4,Rv.to,pickO]
    simp only[zD,runStill,hp]
    rw[if_pos (show(st1.set (some dst) (some e)).mem=st1.mem from rfl)]
    exact h8
theorem sealR_ro(p:PSt):AllRo { p with rows:=sealR p.rows,lim:=p.ni }:=by
 intro k rw hk
 simp only[sealR_get,zB]at hk
 obtain⟨r',_,rfl⟩:=hk
 rfl
/-- rows sealed, slots as they are -/
theorem sealRows_sim{ρ:Nat→Nat}{τ:Nat→Option Nat}{p:PSt}{st:St}(hS:Sim ρ τ p st):Sim ρ τ { p with rows:=sealR p.rows,lim:=p.ni } st:=by
 have hle:Le (cxOf ρ τ p st) (cxOf ρ τ { p with rows:=sealR p.rows,lim:=p.ni } st):=
  ⟨fun _ _=>rfl,by simp[cxOf,sealR_len],fun k _ => .inl (seal_rk p.rows k),fun i l h=>⟨h,rfl⟩,zR _⟩
 refine⟨fun t f d h => ?_,fun k hk=>hS.nx k (by simpa[sealR_len]using hk),fun k r hk => ?_,fun j k hj hk=>hS.inj j k (by simpa[sealR_len]using hj) (by simpa[sealR_len]using hk),hS.lin,hS.linj⟩
 ·obtain⟨e,h1,h2⟩:=hS.tm t f d h
  exact⟨e,h1,RP.le hle h2⟩
 ·simp only[sealR_get,zB]at hk
  obtain⟨r',h1,rfl⟩:=hk
  obtain⟨o,h2,h3⟩:=hS.rows k r' h1
  obtain⟨f,c⟩:=r'
  refine⟨o,?_,?_⟩
  ·rcases h2 with h2 | h2
   ·left;simp only at h2;subst h2;rfl
   ·exact .inr h2
  ·cases c with
   | cells ps=>
    obtain⟨ds,h5,h6,h7⟩:=h3
    exact⟨ds,h5,RSL.sealOf (c:=cxOf ρ τ p st) (c':=cxOf ρ τ { p with rows:=sealR p.rows,lim:=p.ni } st) rfl (sealR_len p.rows) (seal_rk p.rows) h6,h7⟩
   | _=>exact h3
theorem sealRows_wf{p:PSt}(hw:Wf p):Wf { p with rows:=sealR p.rows,lim:=p.ni }:=⟨hw.1,(seal_wf p).2⟩
theorem unsealRows{ρ:Nat→Nat}{τ τ1:Nat→Option Nat}{p:PSt}{st:St}(hS:Sim ρ τ p st){p1:PSt}{st1:St}(h:Goes ρ τ { p with rows:=sealR p.rows,lim:=p.ni } st ρ τ1 p1 st1)(hs:Soft st.nx τ { p with rows:=sealR p.rows,lim:=p.ni } st τ1 p1 st1):Goes ρ τ p st ρ τ1 { p1 with rows:=p.rows,lim:=p.lim } st1:=by
 have hr:p1.rows=sealR p.rows:=hs.rows
 have hn:p.ni≤p1.ni:=hs.ni
 have hle:Le (cxOf ρ τ1 p1 st1) (cxOf ρ τ1 { p1 with rows:=p.rows,lim:=p.lim } st1):=
  ⟨fun _ _=>rfl,by simp[cxOf,hr,sealR_len],fun k _ => .inl (by show rkOf p.rows k=rkOf p1.rows k;rw[hr,seal_rk]),fun i l h=>⟨h,rfl⟩,zR _⟩
 have hle0:Le (cxOf ρ τ p st) (cxOf ρ τ1 { p1 with rows:=p.rows,lim:=p.lim } st1):=
  ⟨fun _ _=>rfl,zR _,fun k _ => .inl rfl,fun i l h=>⟨(hs.τ i (hS.lin i l h).1).trans h,hs.tip l (hS.lin i l h).2⟩,hn⟩
 refine⟨⟨fun t f d ht => ?_,fun k hk=>zK (hS.nx k hk) h.nx,fun k r hk => ?_,hS.inj,h.sim.lin,h.sim.linj⟩,h.nx,h.lo,zR _,fun _ _=>rfl,fun k h1 h2=>absurd h2 (Nat.not_lt.2 h1),h.τn,fun hw=>⟨(h.wf ⟨hw.1,(seal_wf p).2⟩).1,hw.2⟩,fun _ _ _ h _=>h,fun _ r' _ h hr=>⟨r',h,hr⟩,fun _ _ => .inl rfl,fun b _ _=>by rw[hs.mem],fun l hl _=>hs.tip l hl,fun m h1 h2 h3 h4 => ?_,fun hw t d ht=>h.flg ⟨hw.1,(seal_wf p).2⟩ t d ht⟩
 ·obtain⟨e,h1,h2⟩:=h.sim.tm t f d ht
  exact⟨e,h1,RP.le hle h2⟩
 ·obtain⟨o,h1,h2⟩:=hS.rows k r hk
  exact⟨o,by rw[hs.mem];exact h1,RW.le hle0 h2⟩
 ·refine h.lw m h1 h2 (fun k r hk hro => ?_) h4
  simp only[sealR_get,zB]at hk
  obtain⟨r',hk',rfl⟩:=hk
  refine h3 k r' hk' (.inr ?_)
  rcases hro with hro | hro
  ·contradiction
  ·obtain⟨f,c⟩:=r'
   cases c<;>simp_all [RowC.sealC,RowC.isArr]
theorem appD_mem{sz bytes:Nat}{g:Tg}{n m:Nat}{xs ys:List D}{st st':St}{d:D}(h:appD sz bytes (.sl g n xs) m ys st=some (d,st')):st'.mem=st.mem:=by
 simp only[appD]at h
 split at h<;>try contradiction
 split at h<;>try contradiction
 ·injection h with h;injection h with _ h;subst h;rfl
 ·split at h<;>try contradiction
  injection h with h;injection h with _ h;subst h;rfl
theorem plainS_ok{c:Cx}{q:PS}{e:D}(hr:RS c q e)(h:plainS q=true) : ∃ x,q.pure=some x∧e.cl0=x.toD:=by
 cases q<;>simp[plainS]at h
 ·exact⟨_,rfl,PS.pure_ok hr rfl⟩
 ·exact⟨_,rfl,PS.pure_ok hr rfl⟩
 ·exact⟨_,rfl,PS.pure_ok hr rfl⟩
theorem plainPS_ok{ps:List PS}(h:plainPS ps=true) : ∃ l,pureL' ps=some l:=by
 induction ps with
 | nil=>exact⟨[],rfl⟩
 | cons q r ih=>
  simp only[plainPS,zG]at h
  obtain⟨l,hl⟩:=ih h.2
  cases q<;>simp[plainS]at h
  all_goals exact⟨_,by simp only[pureL',PS.pure,hl];rfl⟩
theorem outL_plain{p:PSt}{ps:List PS}(h:plainPS ps=true):outL p ps=pureL' ps:=by
 induction ps with
 | nil=>rfl
 | cons q r ih=>
  simp only[plainPS,zG]at h
  cases q<;>simp[plainS]at h<;>simp only[outL,pureL',PS.outV,ih h]
theorem refsS_plain{ps:List PS}(h:plainPS ps=true):refsS ps=[]:=by
 induction ps with
 | nil=>rfl
 | cons q r ih=>
  simp only[plainPS,zG]at h
  cases q<;>simp[plainS]at h<;>simp[refsS,PS.refs,ih h]
theorem argsA_plain{p:PSt}{ds:List PD}(h:plainL ds=true) : ∃ as,argsA p [] ds=some (as,[],p):=by
 induction ds with
 | nil=>exact⟨[],rfl⟩
 | cons d r ih=>
  cases d with
  | s q=>
   simp only[plainL,zG]at h
   obtain⟨as,ha⟩:=ih h.2
   cases q<;>simp[plainS]at h
   all_goals exact⟨_,by simp only[argsA,argA,PD.outV,PS.outV,PS.pure,PD.refs,PS.refs,freezeL,ha];rfl⟩
  | agg ps=>
   simp only[plainL,zG]at h
   obtain⟨as,ha⟩:=ih h.2
   obtain⟨l,hl⟩:=plainPS_ok h.1
   exact⟨_,by simp only[argsA,argA,PD.outV,outL_plain h.1,hl,PD.refs,refsS_plain h.1,freezeL,ha];rfl⟩
theorem refsL_plain{c:Cx}{ds:List PD}{es:List D}(hr:RPL c ds es)(h:plainL ds=true):refsL es=[]:=by
 induction ds generalizing es with
 | nil=>cases es with
  | nil=>rfl
  | cons _ _=>exact hr.elim
 | cons d r ih=>cases es with
  | nil=>exact hr.elim
  | cons e s=>
   have key:e.refs=[]:=by
    cases d with
    | s q=>
     simp only[plainL,zG]at h
     obtain⟨x,_,h2⟩:=plainS_ok hr.1 h.1
     exact(cl_of h2 (fun _=>none)).2
    | agg ps=>
     simp only[plainL,zG]at h
     obtain⟨l,hl⟩:=plainPS_ok h.1
     have:(PD.agg ps).pureV=some (.agg l):=by simp only[PD.pureV,hl]
     exact(cl_of (PD.pure_ok hr.1 this) (fun _=>none)).2
   have h2:plainL r=true:=by cases d<;>simp only[plainL,zG]at h<;>exact h.2
   simp only[refsL,key,ih hr.2 h2,List.append_nil]
theorem set_mem(st:St)(dst:Option Nat)(e:Option D):(st.set dst e).mem=st.mem:=by cases e<;>cases dst<;>rfl
theorem q_mem{ρ':Type}{r:ρ'}{ρ:Nat→Nat}{τ:Nat→Option Nat}{p:PSt}{st:St}(hg:GlR E gl)(hpc:PcOk E gl.md pc)(hS:Sim ρ τ p st)(hw:Wf p){o:OpC}(hgd:o.gd=none)(hq:qOk gl p o.op=true){K:PSt→Option ρ'}(h:pone gl pc o p K=some r)
  {st':St} (he:opC E (callL E) o st=some (.ok st')):st'.mem=st.mem:=by
 have he2:opR E (callL E) o.dst st o.op=some (.ok st'):=by simpa only[opC,wants,hgd]using he
 have h2:(popK gl pc p o.op fun r p'=>match setP p' o.dst r with | some p''=>K p'' | none=>none)=some r:=by
  unfold pone at h
  rw[hgd]at h
  exact h
 unfold opR at he2
 rw[zB]at he2
 obtain⟨rv,hx,hrv⟩:=he2
 have fin : ∀ {e st1},rv = .val e st1→st1.mem=st.mem→st'.mem=st.mem:=by
  intro e st1 h1 h2
  subst h1
  simp only[Rv.to,Rs.ok.injEq]at hrv
  subst hrv
  rw[set_mem,h2]
 have viaD : ∀ {e st1},opD E st o.op=some (e,st1)→(∀ f xs,o.op ≠ .call f xs)→(∀ f xs,o.op ≠ .callv f xs)→(∀ x,o.op ≠ .pan x)→st1.mem=st.mem→st'.mem=st.mem:=by
  intro e st1 h1 h2 h3 h4 h5
  rw[opX_nc h2 h3 h4,h1]at hx
  simp only[zC,Option.some.injEq]at hx
  exact fin hx.symm h5
 cases hop:o.op
 case call f xs=>
  rw[hop]at hq h2 hx
  simp only[qOk]at hq
  split at hq<;>try contradiction
  next hmd=>
   split at hq<;>try contradiction
   next ds hds=>
    simp only[popK,hds,callK,hmd]at h2
    obtain⟨es,h3,h4⟩:=evHL_ok (E:=E) hg hS hds
    obtain⟨as,ha⟩:=argsA_plain (p:=p) hq
    have hrf:=refsL_plain h4 hq
    obtain⟨h5,h6,h7⟩:=argsA_ok hS hw h4 ha
    have h8:=h7 []
    simp only[callN,ha,parsA]at h2
    rw[zA]at h2
    obtain⟨q,hq2,_⟩:=h2
    obtain⟨st1,h9,h10⟩:=hpc.n f as [] q hq2 (at0 ρ ([]++[])) st es h8 (fun j e hj=>by simp at hj) (fun i j hi=>by simp at hi)
    have h11:=h10.still (fun j e hj=>by simp at hj)
    rw[hrf]at h11
    simp only[opX,h3,zD,h9,zC,Option.some.injEq]at hx
    exact fin hx.symm (by rw[h11];rfl)
 case app sz bytes s x=>
  rw[hop]at hq h2
  simp only[qOk]at hq
  split at hq<;>try contradiction
  next q hs=>
   obtain⟨e1,he1,hr1⟩:=evH_ok (E:=E) hg hS hs
   have hsl : ∃ g n xs,e1 = .sl g n xs:=by
    cases q<;>simp at hq
    ·obtain⟨g,ds,rfl,_⟩:=hr1;exact⟨_,_,_,rfl⟩
    ·obtain⟨ds,rfl,_⟩:=hr1;exact⟨_,_,_,rfl⟩
   obtain⟨g,n,xs,rfl⟩:=hsl
   rw[hop]at hx
   simp only[opX,opD,he1,zD]at hx
   rw[zB]at hx
   obtain⟨⟨e,st1⟩,h3,h4⟩:=hx
   rw[zA]at h3
   obtain⟨y,_,h3⟩:=h3
   rw[zA]at h3
   obtain⟨pp,_,h3⟩:=h3
   split at h3<;>try contradiction
   rw[zB]at h3
   obtain⟨⟨d,st2⟩,h5,h6⟩:=h3
   injection h6 with h6 h7
   subst h7
   exact fin h4.symm (appD_mem h5)
 case apz z bytes s x=>
  rw[hop]at hq h2
  simp only[qOk]at hq
  split at hq<;>try contradiction
  next q hs=>
   obtain⟨e1,he1,hr1⟩:=evH_ok (E:=E) hg hS hs
   have hsl : ∃ g n xs,e1 = .sl g n xs:=by
    cases q<;>simp at hq
    ·obtain⟨g,ds,rfl,_⟩:=hr1;exact⟨_,_,_,rfl⟩
    ·obtain⟨ds,rfl,_⟩:=hr1;exact⟨_,_,_,rfl⟩
   obtain⟨g,n,xs,rfl⟩:=hsl
   rw[hop]at hx
   simp only[opX,opD,he1,zD]at hx
   rw[zB]at hx
   obtain⟨⟨e,st1⟩,h3,h4⟩:=hx
   split at h3<;>try contradiction
   split at h3<;>try contradiction
   rw[zB]at h3
   obtain⟨⟨d,st2⟩,h5,h6⟩:=h3
   injection h6 with h6 h7
   subst h7
   exact fin h4.symm (appD_mem h5)
 all_goals
  rw[hop]at hq h2
  first
   | (exfalso;revert hq;simp[qOk,quiet];done)
   | (
     obtain⟨d,_,e,h3,_⟩:=popA (E:=E) hg hS (by rfl) h2
     exact viaD (by rw[hop];exact h3) (fun f xs h=>by rw[hop]at h;cases h) (fun f xs h=>by rw[hop]at h;cases h) (fun x h=>by rw[hop]at h;cases h) rfl)
theorem prunA_ok(hg:GlR E gl)(hpc:PcOk E gl.md pc)(l:PO) : ∀ {ρ':Type} {r:ρ'} {ρ:Nat→Nat} {τ:Nat→Option Nat} {p:PSt} {st:St} {K:PSt→Option ρ'},Sim ρ τ p st→Wf p→prunA gl pc l p K=some r →
  ∃ p',K p'=some r ∧ ∃ st' ρ1 τ1,runStill E (callL E) (eraseO l) st=some st'∧Goes ρ τ p st ρ1 τ1 p' st':=by
 induction l with
 | nil=>intro _ r ρ τ p st K hS hw h;exact⟨p,h,st,ρ,τ,rfl,.refl hS⟩
 | one o s ih=>
  intro _ r ρ τ p st K hS hw h
  simp only[prunA]at h
  split at h<;>try contradiction
  next hgd=>
   split at h<;>try contradiction
   next hq=>
    obtain⟨p1,h1,st1,ρ1,τ1,h2,h3,_⟩:=pone_ok hg hpc hS hw h
    obtain⟨p',h4,st',ρ2,τ2,h5,h6⟩:=ih h3.sim (h3.wf hw) h1
    refine⟨p',h4,st',ρ2,τ2,?_,h3.trans hw h6⟩
    have ho:regd none o=o:=by
     obtain⟨d,op,gd⟩:=o
     cases gd<;>rfl
    simp only[eraseO,eraseG,runStill,ho,h2]
    rw[if_pos (q_mem hg hpc hS hw hgd hq h h2)]
    exact h5
 | box n dst x r=>intro _ r ρ τ p st K hS hw h;simp[prunA]at h
 | grp c w ops dst a b s ih1 ih2=>intro _ r ρ τ p st K hS hw h;simp[prunA]at h
theorem pexec_ok(hg:GlR E gl)(hpc:PcOk E gl.md pc)(c:PC) : ∀ {ρ':Type} {r:ρ'} {ρ:Nat→Nat} {τ:Nat→Option Nat} {p:PSt} {st:St} {K:PEx→PSt→Option ρ'},Sim ρ τ p st→Wf p→pexecK gl pc c p K=some r →
  ∃ x p',K x p'=some r ∧ ∃ st' ρ1 τ1,execL E (erase c) st=some (exOf x,st')∧Goes ρ τ p st ρ1 τ1 p' st':=by
 induction c with
 | skip=>intro _ r ρ τ p st K hS hw h;exact⟨.nrm,p,h,st,ρ,τ,execL_skip st,.refl hS⟩
 | exit id=>intro _ r ρ τ p st K hS hw h;exact⟨.ext id,p,h,st,ρ,τ,execL_exit id st,.refl hS⟩
 | ret=>intro _ r ρ τ p st K hS hw h;exact⟨.ret,p,h,st,ρ,τ,execL_ret st,.refl hS⟩
 | reg ops keep=>
  intro _ r ρ τ p st K hS hw h
  simp only[pexecK]at h
  obtain⟨p1,h1,st1,ρ1,τ1,h2,h3⟩:=prunK_ok hg hpc _ hS hw h
  exact⟨.nrm,_,h1,_,ρ1,τ1,by simp only[erase,execL_reg,h2];rfl,h3.trans hw (kept_goes h3.sim keep)⟩
 | drw a0 a1 b keep=>
  intro _ r ρ τ p st K hS hw h
  simp only[pexecK]at h
  obtain⟨p1,h1,st1,ρ1,τ1,h2,h3⟩:=prunK_ok hg hpc _ hS hw h
  split at h1<;>try contradiction
  next hst=>
   have hw1:=h3.wf hw
   obtain⟨p2,h4,st2,h5,τ2,h6,h7⟩:=still_ok hg hpc _ (sealRows_sim h3.sim) st1.nx ⟨sealR_ro p1,sealRows_wf hw1,zR _,zR _,fun i l hi hτ=>absurd (h3.sim.lin i l hτ).1 (Nat.not_lt.2 hi)⟩ hst h1
   have h8:=unsealRows h3.sim h6 h7
   obtain⟨p3,h9,st3,ρ3,τ3,h10,h11⟩:=prunK_ok hg hpc _ h8.sim (h8.wf hw1) h4
   exact⟨.nrm,_,h9,_,ρ3,τ3,by simp only[erase,execL_drw,h2,h5,h10];rfl,h3.trans hw (h8.trans hw1 (h11.trans (h8.wf hw1) (kept_goes h11.sim keep)))⟩
 | drq a0 a1 b keep=>
  intro _ r ρ τ p st K hS hw h
  simp only[pexecK]at h
  obtain⟨p1,h1,st1,ρ1,τ1,h2,h3⟩:=prunK_ok hg hpc _ hS hw h
  have hw1:=h3.wf hw
  obtain⟨p2,h4,st2,ρ2,τ2,h5,h6⟩:=prunA_ok hg hpc _ h3.sim hw1 h1
  have hw2:=h6.wf hw1
  obtain⟨p3,h9,st3,ρ3,τ3,h10,h11⟩:=prunK_ok hg hpc _ h6.sim hw2 h4
  exact⟨.nrm,_,h9,_,ρ3,τ3,by simp only[erase,execL_drw,h2,h5,h10];rfl,h3.trans hw (h6.trans hw1 (h11.trans hw2 (kept_goes h11.sim keep)))⟩
 | seq a b iha ihb=>
  intro _ r ρ τ p st K hS hw h
  simp only[pexecK]at h
  obtain⟨x,p1,h1,st1,ρ1,τ1,h2,h3⟩:=iha hS hw h
  cases x with
  | nrm=>
   obtain⟨x,p2,h4,st2,ρ2,τ2,h5,h6⟩:=ihb h3.sim (h3.wf hw) h1
   exact⟨x,p2,h4,st2,ρ2,τ2,by simp only[erase,execL_seq,h2,exOf];exact h5,h3.trans hw h6⟩
  | ext i=>exact⟨.ext i,p1,h1,st1,ρ1,τ1,by simp only[erase,execL_seq,h2,exOf],h3⟩
  | ret=>exact⟨.ret,p1,h1,st1,ρ1,τ1,by simp only[erase,execL_seq,h2,exOf],h3⟩
 | cond c a b iha ihb=>
  intro _ r ρ τ p st K hS hw h
  simp only[pexecK]at h
  split at h<;>try contradiction
  next cv hc=>
   rw[zA]at h
   obtain⟨cb,hcb,h⟩:=h
   obtain⟨e,he,hr⟩:=evV_ok (E:=E) hg hS hc
   have:=asBool_ok hcb hr;subst this
   split at h
   ·next hb=>
    subst hb
    obtain⟨x,p1,h1,st1,ρ1,τ1,h2,h3⟩:=iha hS hw h
    exact⟨x,p1,h1,st1,ρ1,τ1,by simp only[erase,execL_cond,he];exact h2,h3⟩
   ·next hb=>
    have hb:cb=false:=by simpa using hb
    subst hb
    obtain⟨x,p1,h1,st1,ρ1,τ1,h2,h3⟩:=ihb hS hw h
    exact⟨x,p1,h1,st1,ρ1,τ1,by simp only[erase,execL_cond,he];exact h2,h3⟩
 | blk id c ih=>
  intro _ r ρ τ p st K hS hw h
  simp only[pexecK]at h
  obtain⟨x,p1,h1,st1,ρ1,τ1,h2,h3⟩:=ih hS hw h
  cases x with
  | nrm=>exact⟨.nrm,p1,h1,st1,ρ1,τ1,by simp only[erase,execL_blk,h2,exOf,blkE],h3⟩
  | ret=>exact⟨.ret,p1,h1,st1,ρ1,τ1,by simp only[erase,execL_blk,h2,exOf,blkE],h3⟩
  | ext i=>
   simp only at h1
   split at h1
   ·next hb=>
    have hb:=zJ hb
    exact⟨.nrm,p1,h1,st1,ρ1,τ1,by simp only[erase,execL_blk,h2,exOf,blkE,hb,if_pos],h3⟩
   ·next hb=>
    have hne:i≠id:=fun e=>by subst e;rw[Nat.beq_refl]at hb;contradiction
    exact⟨.ext i,p1,h1,st1,ρ1,τ1,by simp only[erase,execL_blk,h2,exOf,blkE,if_neg hne],h3⟩
 | cut hd xs c ih=>
  intro _ r ρ τ p st K hS hw h
  simp only[pexecK]at h
  obtain⟨v0,h1,h2⟩:=in_enter hS h
  split at h1<;>try contradiction
  next pv hpv=>
   obtain⟨τ1,hin⟩:=h2 pv hpv
   rw[zA]at h1
   obtain⟨o,ho,h1⟩:=h1
   obtain⟨x,p1,h3,st1,ρ1,τ2,h4,h5⟩:=ih hin.sim hin.wf ho
   split at h3<;>try contradiction
   next j sh hx=>
    obtain⟨v,h6,_,h7⟩:=in_step hS hin h5 h3
    injection h6 with h6;subst h6
    obtain⟨_,h8⟩:=findX_ok (r:=r) (p:=p) (v:=v) (K:=K) hx
    obtain⟨q,hq,h9⟩:=h8 h1
    obtain⟨τ3,h10⟩:=h7 q hq
    exact⟨x,q,h9,st1,ρ1,τ3,h4,h10⟩
 | loop hd xs c ih=>
  intro ρ' r ρ τ p st K hS hw h
  simp only[pexecK]at h
  obtain⟨v0,h1,h2⟩:=in_enter hS h
  rw[zA]at h1
  obtain⟨o,ho,h1⟩:=h1
  obtain⟨n,hn⟩:=loopL_iff.1 ho
  clear ho h
  have key : ∀ (n:Nat) (v:Nat→V) (ρ1:Nat→Nat) (st1:St),(∀ pv,dec true hd p v=some pv → ∃ τ1,In ρ τ p st ρ1 τ1 pv st1)→loopM (fun v:Nat→V=>match dec true hd p v with
    | some pv=>pexecK gl pc c pv fun x p'=>match x with
     | .nrm=>encK true hd p' fun v'=>some (.inl v')
     | .ext i=>match findX xs (.ext i) 0 with | some (j,sh)=>encK true sh p' fun v'=>some (.inr (j,v')) | none=>none
     | .ret=>match findX xs .ret 0 with | some (j,sh)=>encK true sh p' fun v'=>some (.inr (j,v')) | none=>none
    | none=>none) n v=some o → ∃ x q,K x q=some r ∧ ∃ st' ρ2 τ2,execL E (.loop (erase c)) st1=some (exOf x,st')∧Goes ρ τ p st ρ2 τ2 q st':=by
   intro n
   induction n with
   | zero=>intro v ρ1 st1 _ h;simp[loopM]at h
   | succ n ihn=>
    intro v ρ1 st1 hin h
    simp only[loopM]at h
    cases hdv:dec true hd p v with
    | none=>rw[hdv]at h;contradiction
    | some pv=>
     obtain⟨τ1,hin⟩:=hin pv hdv
     rw[hdv]at h
     simp only at h
     have leave : ∀ {x:PEx} {p1:PSt} {st2:St} {ρ2:Nat→Nat} {τ2:Nat→Option Nat} {j:Nat} {sh:Sh} {b:Nat×(Nat→V)},x ≠ .nrm→execL E (erase c) st1=some (exOf x,st2)→Goes ρ1 τ1 pv st1 ρ2 τ2 p1 st2→findX xs x 0=some (j,sh) →
       (encK true sh p1 fun v'=>some (Sum.inr (α:=Nat→V) (j,v')))=some (.inr b)→b=o → ∃ x q,K x q=some r ∧ ∃ st' ρ2 τ2,execL E (.loop (erase c)) st1=some (exOf x,st')∧Goes ρ τ p st ρ2 τ2 q st':=by
      intro x p1 st2 ρ2 τ2 j sh b hx h4 h5 hf h6 hb
      subst hb
      obtain⟨v,h7,_,h8⟩:=in_step hS hin h5 h6
      injection h7 with h7;injection h7 with h7;subst h7
      obtain⟨_,h9⟩:=findX_ok (r:=r) (p:=p) (v:=v) (K:=K) hf
      obtain⟨q,hq,h10⟩:=h9 h1
      obtain⟨τ3,h11⟩:=h8 q hq
      refine⟨x,q,h10,st2,ρ2,τ3,?_,h11⟩
      rw[execL_loop,h4]
      cases x with
      | nrm=>exact(hx rfl).elim
      | ext i=>rfl
      | ret=>rfl
     split at h
     ·next a' he=>
      obtain⟨x,p1,h3,st2,ρ2,τ2,h4,h5⟩:=ih hin.sim hin.wf he
      cases x with
      | nrm=>
       simp only at h3
       obtain⟨v',h6,h7,_⟩:=in_step hS hin h5 h3
       injection h6 with h6;injection h6 with h6;subst h6
       obtain⟨x,q,h8,st',ρ3,τ3,h9,h10⟩:=ihn v' ρ2 st2 h7 h
       refine⟨x,q,h8,st',ρ3,τ3,?_,h10⟩
       rw[execL_loop,h4];exact h9
      | ext i=>
       simp only at h3
       split at h3<;>try contradiction
       obtain⟨v',h6,_⟩:=encK_ok h3
       simp at h6
      | ret=>
       simp only at h3
       split at h3<;>try contradiction
       obtain⟨v',h6,_⟩:=encK_ok h3
       simp at h6
     ·next b he=>
      obtain⟨x,p1,h3,st2,ρ2,τ2,h4,h5⟩:=ih hin.sim hin.wf he
      injection h with h
      cases x with
      | nrm=>
       simp only at h3
       obtain⟨v',h6,_⟩:=encK_ok h3
       simp at h6
      | ext i=>
       simp only at h3
       split at h3<;>try contradiction
       next j sh hf=>exact leave (by simp) h4 h5 hf h3 h
      | ret=>
       simp only at h3
       split at h3<;>try contradiction
       next j sh hf=>exact leave (by simp) h4 h5 hf h3 h
     ·contradiction
  exact key n v0 ρ st h2 hn
end
end Go.Ev
end
section
namespace Go.Ev
section
variable {ρ:Type}
theorem tst_nat{α:Type}(b:Bool)(k:Option α)(f:α→Option ρ):(tst b k).bind f=tst b (k.bind f):=by cases b<;>rfl
def cellsFromD(x:V)(i n:Nat):Option (List PS):=cellsFrom x i n some
theorem cellsFrom_nat'(x:V)(n:Nat) : ∀ (i:Nat) {ρ:Type} (K:List PS→Option ρ),cellsFrom x i n K=(cellsFromD x i n).bind K:=by
 unfold cellsFromD
 induction n with
 | zero=>intro i _ K;rfl
 | succ n ih=>
  intro i _ K
  simp only[cellsFrom]
  rw[zE]
  congr 1;funext c
  rw[ih (i+1) (fun l=>K (.v c::l)),ih (i+1) (fun l=>some (PS.v c::l)),zE]
  rfl
theorem cellsFrom_nat(x:V)(i n:Nat)(K:List PS→Option ρ):cellsFrom x i n K=(cellsFromD x i n).bind K:=cellsFrom_nat' x n i K
def cellsD(n:Nat)(d:PD):Option (List PS):=cellsK n d some
theorem cellsK_nat(n:Nat)(d:PD)(K:List PS→Option ρ):cellsK n d K=(cellsD n d).bind K:=by
 unfold cellsD
 cases d with
 | agg ps=>simp only[cellsK];split<;>rfl
 | s q=>cases q<;>simp only[cellsK,cellsFrom_nat,tst_nat,zE,zD]<;>first | rfl | (split<;>rfl)
def buildD(gl:Gl)(p:PSt)(cells:List PS)(ps:List (Nat×Nat×X)):Option (List PS):=buildK gl p cells ps some
theorem buildK_nat(gl:Gl)(p:PSt)(cells:List PS)(ps:List (Nat×Nat×X))(K:List PS→Option ρ):buildK gl p cells ps K=(buildD gl p cells ps).bind K:=by
 unfold buildD
 induction ps generalizing cells K with
 | nil=>rfl
 | cons q r ih=>
  obtain⟨o,n,x⟩:=q
  simp only[buildK]
  split
  ·split
   ·simp only[cellsK_nat,zE]
    congr 1;funext c
    exact ih _ _
   ·rfl
  ·rfl
def elD(sz:Nat)(els:List V)(o n:Nat)(x:V):Option (List V):=elK sz els o n x some
theorem elK_nat(sz:Nat)(els:List V)(o n:Nat)(x:V)(K:List V→Option ρ):elK sz els o n x K=(elD sz els o n x).bind K:=by
 unfold elD elK
 split
 ·split
  ·rw[tst_nat,zE];rfl
  ·rw[tst_nat];rfl
 ·split
  ·rfl
  ·split
   ·split
    ·rw[tst_nat];rfl
    ·rfl
   ·rfl
def litD(gl:Gl)(p:PSt)(sz:Nat)(els:List V)(ps:List (Nat×Nat×X)):Option (List V):=litK gl p sz els ps some
theorem litK_nat(gl:Gl)(p:PSt)(sz:Nat)(els:List V)(ps:List (Nat×Nat×X))(K:List V→Option ρ):litK gl p sz els ps K=(litD gl p sz els ps).bind K:=by
 unfold litD
 induction ps generalizing els K with
 | nil=>rfl
 | cons q r ih=>
  obtain⟨o,n,x⟩:=q
  simp only[litK]
  split
  ·split
   ·split
    ·simp only[elK_nat,zE]
     congr 1;funext c
     exact ih _ _
    ·rfl
   ·rfl
  ·rfl
def slD(sz:Nat)(p:PSt)(d:PD):Option (List V):=slK sz p d some
theorem slK_nat(sz:Nat)(p:PSt)(d:PD)(K:List V→Option ρ):slK sz p d K=(slD sz p d).bind K:=by
 unfold slD
 cases d with
 | agg ps=>rfl
 | s q=>cases q<;>simp only[slK,tst_nat,zD]<;>first | rfl | (rw[zE];rfl) | (split<;>first | rfl | (split<;>rfl)) | simp
def srcD(sz:Nat)(p:PSt)(d:PD):Option (List V):=srcK sz p d some
theorem srcK_nat(sz:Nat)(p:PSt)(d:PD)(K:List V→Option ρ):srcK sz p d K=(srcD sz p d).bind K:=by
 unfold srcD srcK
 split
 ·rw[zE];rfl
 ·exact slK_nat sz p _ K
def loadD'(p:PSt)(ag:Bool)(sz:Nat)(d:PD):Option PD:=loadK p ag sz d some
theorem loadK_nat(p:PSt)(ag:Bool)(sz:Nat)(d:PD)(K:PD→Option ρ):loadK p ag sz d K=(loadD' p ag sz d).bind K:=by
 unfold loadD'
 cases d with
 | agg ps=>rfl
 | s q=>
  cases q<;>simp only[loadK]<;>try rfl
  all_goals (repeat' split)<;>first | rfl | (simp only[tst_nat,zE,zD]) | (simp only[tst_nat,zE,zD];congr 1;funext x;split<;>rfl)
def storeD'(p:PSt)(sz:Nat)(a v:PD):Option PSt:=storeK p sz a v some
theorem storeK_nat(p:PSt)(sz:Nat)(a v:PD)(K:PSt→Option ρ):storeK p sz a v K=(storeD' p sz a v).bind K:=by
 unfold storeD'
 cases a with
 | agg ps=>rfl
 | s q=>
  cases q<;>simp only[storeK]<;>try rfl
  all_goals (repeat' split)<;>first | rfl | (simp only[cellsFrom_nat,cellsK_nat,tst_nat,zE,zD])
def appD'(p:PSt)(sz bytes:Nat)(s:PD)(ys:List V):Option (PD×PSt):=appK p sz bytes s ys fun a b=>some (a,b)
theorem appK_nat(p:PSt)(sz bytes:Nat)(s:PD)(ys:List V)(K:PD→PSt→Option ρ):appK p sz bytes s ys K=(appD' p sz bytes s ys).bind fun q=>K q.1 q.2:=by
 unfold appD'
 cases s with
 | agg ps=>rfl
 | s q=>
  cases q<;>simp only[appK]<;>try rfl
  all_goals (repeat' split)<;>first | rfl | (simp only[tst_nat,zD];done) | (simp only[tst_nat];done) | (simp only[tst_nat];rfl) | (simp only[tst_nat];congr 1;split<;>first | rfl | (split<;>rfl))
def backD(p:PSt)(ys:List V)(j:Nat)(ks:List Nat):Option PSt:=backK p ys j ks some
theorem backK_nat(p:PSt)(ys:List V)(j:Nat)(ks:List Nat)(K:PSt→Option ρ):backK p ys j ks K=(backD p ys j ks).bind K:=by
 unfold backD
 induction ks generalizing p j K with
 | nil=>rfl
 | cons k r ih=>
  simp only[backK]
  split
  ·exact ih _ _ _
  ·split
   ·rw[zE];congr 1;funext y;exact ih _ _ _
   ·rfl
  ·rfl
def callND(pc:PcT)(f:Nat)(ds:List PD)(p:PSt):Option (PD×PSt):=callN pc f ds p fun a b=>some (a,b)
theorem callN_nat(pc:PcT)(f:Nat)(ds:List PD)(p:PSt)(K:PD→PSt→Option ρ):callN pc f ds p K=(callND pc f ds p).bind fun q=>K q.1 q.2:=by
 unfold callND callN
 split
 ·split
  ·rw[zE];congr 1;funext r
   rw[backK_nat,backK_nat (K:=fun p''=>some (PD.s (.v r.1),p'')),zE];rfl
  ·rfl
 ·rfl
def callD(md:Nat→Md)(pc:PcT)(f:Nat)(ds:List PD)(p:PSt):Option (PD×PSt):=callK md pc f ds p fun a b=>some (a,b)
theorem effK_nat(e:Eff)(ds:List PD)(p:PSt)(K:PD→PSt→Option ρ):effK e ds p K=(effK e ds p fun a b=>some (a,b)).bind fun q=>K q.1 q.2:=by
 unfold effK tst
 (repeat' split)<;>first | rfl | (rw[zE];congr 1;done) | (rw[zE];congr 1;funext s;split<;>rfl)
theorem callK_nat(md:Nat→Md)(pc:PcT)(f:Nat)(ds:List PD)(p:PSt)(K:PD→PSt→Option ρ):callK md pc f ds p K=(callD md pc f ds p).bind fun q=>K q.1 q.2:=by
 unfold callD callK
 split
 ·exact callN_nat _ _ _ _ _
 ·unfold callG
  split
  ·rw[zE];congr 1;funext r
   rw[zE];rfl
  ·rfl
 ·unfold callW
  split
  ·split
   ·split
    ·rw[zE];rfl
    ·rfl
   ·rfl
  ·split
   ·unfold tst
    split
    ·rw[zE];rfl
    ·rfl
   ·rfl
  ·rfl
 ·unfold callF fulP
  split
  ·split
   ·split
    ·rw[zE];rfl
    ·rfl
   ·unfold tst
    split
    ·split
     ·rw[zE];rfl
     ·rfl
    ·rfl
   ·rfl
  ·rfl
 ·split
  ·unfold callG fulP
   split
   ·split
    ·rw[zE];congr 1;funext r
     rw[zE];rfl
    ·rfl
   ·unfold tst
    split
    ·split
     ·rw[zE];congr 1;funext r
      rw[zE];rfl
     ·rfl
    ·rfl
   ·rfl
  ·rfl
 ·exact effK_nat _ _ _ _
theorem slaK_nat(p:PSt)(n sz:Nat)(l h m:Option V)(d:PD)(K:PD→Option ρ):slaK p n sz l h m d K=(slaK p n sz l h m d some).bind K:=by
 unfold slaK tst
 (repeat' split)<;>first | rfl | (rw[zE];rfl)
def popD(gl:Gl)(pc:PcT)(p:PSt)(o:O):Option (Option PD×PSt):=popK gl pc p o fun a b=>some (a,b)
theorem popK_nat(gl:Gl)(pc:PcT)(p:PSt)(o:O)(K:Option PD→PSt→Option ρ):popK gl pc p o K=(popD gl pc p o).bind fun q=>K q.1 q.2:=by
 unfold popD
 cases o<;>simp only[popK,slaK_nat (K:=fun d=>K (some d) p),slaK_nat (K:=fun d=>some (some d,p)),buildK_nat,litK_nat,slK_nat,srcK_nat,loadK_nat,storeK_nat,appK_nat,callK_nat,callN_nat]<;>first
  | rfl
  | ((repeat' split)<;>first | rfl | (simp only[zE,zD];done) | (simp only[zE];rfl) | (simp only[zE];congr 1;done) | (simp only[zE];congr 1;funext x;unfold tst;split<;>rfl) | (simp only[zE];congr 1;funext x;split<;>first | rfl | (simp only[zE,zD];done) | (split<;>first | rfl | (simp only[zE,zD];done) | (split<;>first | rfl | (unfold tst;split<;>rfl))) ))
end
end Go.Ev
end
section
namespace Go.Ev
def poneD(gl:Gl)(pc:PcT)(o:OpC)(p:PSt):Option PSt:=pone gl pc o p some
theorem pone_nat(gl:Gl)(pc:PcT)(o:OpC)(p:PSt){ρ:Type}(K:PSt→Option ρ):pone gl pc o p K=(poneD gl pc o p).bind K:=by
 unfold poneD pone
 simp only[popK_nat]
 split
 ·rw[zE];congr 1;funext q;split<;>rfl
 ·split
  ·rw[zE];congr 1;funext c
   split
   ·rw[zE];congr 1;funext q;split<;>rfl
   ·split<;>rfl
  ·rfl
def cellsK1D(n:Nat)(d:PD):Option RowC:=cellsK1 n d some
theorem cellsK1_nat(n:Nat)(d:PD){ρ:Type}(K:RowC→Option ρ):cellsK1 n d K=(cellsK1D n d).bind K:=by
 unfold cellsK1D cellsK1
 simp only[cellsK_nat]
 split
 ·split
  ·rw[tst_nat];rfl
  ·rw[zE];rfl
 ·rw[zE];rfl
def prunD(gl:Gl)(pc:PcT)(l:PO)(p:PSt):Option PSt:=prunK gl pc l p some
theorem prunK_nat(gl:Gl)(pc:PcT)(l:PO) : ∀ (p:PSt) {ρ:Type} (K:PSt→Option ρ),prunK gl pc l p K=(prunD gl pc l p).bind K:=by
 unfold prunD
 induction l with
 | nil=>intro p _ K;rfl
 | one o s ih=>
  intro p _ K
  simp only[prunK,pone_nat,zE]
  congr 1;funext q;exact ih q K
 | box n dst x s ih=>
  intro p _ K
  simp only[prunK,cellsK1_nat]
  split
  ·rw[zE];congr 1;funext c
   split
   ·exact ih _ K
   ·rfl
  ·rfl
 | grp c w ops dst a b s ih1 ih2=>
  intro p _ K
  simp only[prunK]
  split
  ·split
   ·split
    ·split
     ·rw[zE];congr 1;funext c
      rw[zE];congr 1;funext x
      split
      ·exact ih2 _ K
      ·rfl
     ·rfl
    ·rfl
   ·rfl
  ·rfl
def prunAD(gl:Gl)(pc:PcT)(l:PO)(p:PSt):Option PSt:=prunA gl pc l p some
theorem prunA_nat(gl:Gl)(pc:PcT)(l:PO) : ∀ (p:PSt) {ρ:Type} (K:PSt→Option ρ),prunA gl pc l p K=(prunAD gl pc l p).bind K:=by
 unfold prunAD
 induction l with
 | nil=>intro p _ K;rfl
 | one o s ih=>
  intro p _ K
  simp only[prunA,pone_nat]
  split
  ·split
   ·rw[zE];congr 1;funext q;exact ih q K
   ·rfl
  ·rfl
 | box n dst x s ih=>intro p _ K;rfl
 | grp c w ops dst a b s ih1 ih2=>intro p _ K;rfl
def encSD(m:Nat)(kd:Kd)(q:PS)(ids:List Nat):Option (List V×List Nat):=encS m kd q ids fun a b=>some (a,b)
theorem encS_nat(m:Nat)(kd:Kd)(q:PS)(ids:List Nat){ρ:Type}(K:List V→List Nat→Option ρ):encS m kd q ids K=(encSD m kd q ids).bind fun q=>K q.1 q.2:=by
 unfold encSD
 cases kd<;>simp only[encS]<;>(repeat' split)<;>first | rfl | (rw[tst_nat];rfl)
def encLD(m:Nat)(kds:List Kd)(qs:List PS)(ids:List Nat):Option (List V×List Nat):=encL m kds qs ids fun a b=>some (a,b)
theorem encL_nat(m:Nat)(kds:List Kd) : ∀ (qs:List PS) (ids:List Nat) {ρ:Type} (K:List V→List Nat→Option ρ),encL m kds qs ids K=(encLD m kds qs ids).bind fun q=>K q.1 q.2:=by
 unfold encLD
 induction kds with
 | nil=>intro qs ids _ K;cases qs<;>rfl
 | cons kd r ih=>
  intro qs ids _ K
  cases qs with
  | nil=>rfl
  | cons q s=>
   simp only[encL,encS_nat,zE]
   congr 1;funext a
   rw[ih s a.2 (fun l' ids=>K (a.1++l') ids),ih s a.2 (fun l' ids=>some (a.1++l',ids)),zE]
   rfl
def encTD(strict:Bool)(m:Nat)(p:PSt)(sl:List (Nat×Kd))(ids:List Nat):Option (List V×List Nat):=encT strict m p sl ids fun a b=>some (a,b)
theorem encT_nat(strict:Bool)(m:Nat)(p:PSt)(sl:List (Nat×Kd)) : ∀ (ids:List Nat) {ρ:Type} (K:List V→List Nat→Option ρ),encT strict m p sl ids K=(encTD strict m p sl ids).bind fun q=>K q.1 q.2:=by
 unfold encTD
 induction sl with
 | nil=>intro ids _ K;rfl
 | cons a r ih=>
  obtain⟨t,kd⟩:=a
  intro ids _ K
  simp only[encT]
  split
  ·split
   ·split
    ·exact ih ids K
    ·rfl
   ·split
    ·rfl
    ·split
     ·simp only[encS_nat,zE]
      congr 1;funext a
      rw[ih a.2 (fun l' ids=>K (a.1++l') ids),ih a.2 (fun l' ids=>some (a.1++l',ids)),zE]
      rfl
     ·split
      ·split
       ·next x _ =>
        rw[ih ids (fun l' ids=>K (.agg x::l') ids),ih ids (fun l' ids=>some (.agg x::l',ids)),zE]
        rfl
       ·rfl
      ·rfl
  ·rfl
def encRD(strict:Bool)(m:Nat)(rks:List RK)(rows:List Row)(ids:List Nat):Option (List V×List Nat):=encR strict m rks rows ids fun a b=>some (a,b)
theorem encR_nat(strict:Bool)(m:Nat)(rks:List RK) : ∀ (rows:List Row) (ids:List Nat) {ρ:Type} (K:List V→List Nat→Option ρ),encR strict m rks rows ids K=(encRD strict m rks rows ids).bind fun q=>K q.1 q.2:=by
 unfold encRD
 induction rks with
 | nil=>
  intro rows ids _ K
  cases rows with
  | nil=>rfl
  | cons _ _=>simp only[encR];split<;>rfl
 | cons rk r ih=>
  intro rows ids _ K
  cases rows with
  | nil=>rfl
  | cons a s=>
   obtain⟨f,c⟩:=a
   have pre : ∀ (l:List V) (ids:List Nat),encR strict m r s ids (fun l' ids=>K (l++l') ids)=(encR strict m r s ids fun l' ids=>some (l++l',ids)).bind fun q=>K q.1 q.2:=by
    intro l ids
    rw[ih s ids (fun l' ids=>K (l++l') ids),ih s ids (fun l' ids=>some (l++l',ids)),zE]
    rfl
   have pre1 : ∀ (x:V) (ids:List Nat),encR strict m r s ids (fun l' ids=>K (x::l') ids)=(encR strict m r s ids fun l' ids=>some (x::l',ids)).bind fun q=>K q.1 q.2:=fun x ids=>pre [x] ids
   simp only[encR]
   split
   ·split
    ·exact ih s ids K
    ·rfl
   ·split
    ·rfl
    ·exact ih s ids K
   ·split
    ·rfl
    ·split
     ·split
      ·exact pre1 _ ids
      ·rfl
     ·split
      ·split
       ·exact pre1 _ ids
       ·rfl
      ·rfl
     ·rfl
   ·split
    ·rfl
    ·split
     ·simp only[encL_nat,zE]
      congr 1;funext a;exact pre a.1 a.2
     ·simp only[cellsFrom_nat,encL_nat,zE]
      congr 1;funext ps
      congr 1;funext a;exact pre a.1 a.2
     ·rfl
   ·split
    ·rfl
    ·split
     ·split
      ·exact pre1 _ ids
      ·rfl
     ·rfl
   ·split
    ·rfl
    ·split
     ·next x n=>exact pre [.str x,.int .i64 (n:Int)] ids
     ·rfl
   ·split
    ·rfl
    ·split
     ·split
      ·exact pre1 _ ids
      ·rfl
     ·rfl
def encD(strict:Bool)(sh:Sh)(p:PSt):Option (Nat→V):=encK strict sh p some
theorem encK_nat(strict:Bool)(sh:Sh)(p:PSt){ρ:Type}(K:(Nat→V)→Option ρ):encK strict sh p K=(encD strict sh p).bind K:=by
 unfold encD encK
 simp only[encT_nat,encR_nat,zE]
 rfl
theorem dspK_nat(p:PSt)(v:Nat→V)(xs:List (PEx×Sh))(j:Nat){ρ:Type}(K:PEx→PSt→Option ρ):dspK p v K xs j=(dspK p v (fun a b=>some (a,b)) xs j).bind fun q=>K q.1 q.2:=by
 induction xs generalizing j with
 | nil=>rfl
 | cons a r ih=>
  obtain⟨x,sh⟩:=a
  cases r with
  | nil=>simp only[dspK];split<;>rfl
  | cons b c=>
   simp only[dspK]
   split
   ·split<;>rfl
   ·exact ih _
noncomputable def pexecD(gl:Gl)(pc:PcT)(c:PC)(p:PSt):Option (PEx×PSt):=pexecK gl pc c p fun a b=>some (a,b)
theorem pexecK_nat(gl:Gl)(pc:PcT)(c:PC) : ∀ (p:PSt) {ρ:Type} (K:PEx→PSt→Option ρ),pexecK gl pc c p K=(pexecD gl pc c p).bind fun q=>K q.1 q.2:=by
 unfold pexecD
 induction c with
 | skip=>intro p _ K;rfl
 | exit id=>intro p _ K;rfl
 | ret=>intro p _ K;rfl
 | reg ops keep=>intro p _ K;simp only[pexecK,prunK_nat,zE];rfl
 | drw a0 a1 b keep=>
  intro p _ K
  simp only[pexecK,prunK_nat,zE]
  congr 1;funext p0
  split
  ·simp only[zE];rfl
  ·rfl
 | drq a0 a1 b keep=>intro p _ K;simp only[pexecK,prunK_nat,prunA_nat,zE];rfl
 | seq a b iha ihb=>
  intro p _ K
  simp only[pexecK]
  refine(iha p _).trans ?_
  refine Eq.trans ?_ (congrArg (fun z=>Option.bind z fun q:PEx×PSt=>K q.1 q.2) (iha p _).symm)
  simp only[zE]
  congr 1;funext q
  obtain⟨x,p'⟩:=q
  cases x with
  | nrm=>exact ihb p' K
  | ext i=>rfl
  | ret=>rfl
 | cond c a b iha ihb=>
  intro p _ K
  simp only[pexecK]
  split
  ·rw[zE];congr 1;funext c
   split
   ·exact iha p K
   ·exact ihb p K
  ·rfl
 | blk id c ih=>
  intro p _ K
  simp only[pexecK]
  refine(ih p _).trans ?_
  refine Eq.trans ?_ (congrArg (fun z=>Option.bind z fun q:PEx×PSt=>K q.1 q.2) (ih p _).symm)
  simp only[zE]
  congr 1;funext q
  obtain⟨x,p'⟩:=q
  cases x with
  | nrm=>rfl
  | ext i=>simp only;split<;>rfl
  | ret=>rfl
 | cut h xs c ih=>
  intro p _ K
  simp only[pexecK]
  simp only[encK_nat,zE]
  congr 1;funext v0
  split
  ·rw[zE];congr 1;funext o;exact dspK_nat _ _ _ _ K
  ·rfl
 | loop h xs c ih=>
  intro p _ K
  simp only[pexecK]
  simp only[encK_nat,zE]
  congr 1;funext v0
  congr 1;funext o;exact dspK_nat _ _ _ _ K
/- a chain of callees -/
def Evt(P:Nat→Prop):Prop := ∃ n,∀ m,n≤m→P m
theorem Evt.and{P Q:Nat→Prop}(h:Evt P)(k:Evt Q):Evt fun m=>P m∧Q m:=by
 obtain⟨a,ha⟩:=h
 obtain⟨b,hb⟩:=k
 exact⟨Nat.max a b,fun m hm=>⟨ha m (Nat.le_trans (Nat.le_max_left a b) hm),hb m (Nat.le_trans (Nat.le_max_right a b) hm)⟩⟩
theorem Evt.mono{P Q:Nat→Prop}(h:Evt P)(k : ∀ m,P m→Q m):Evt Q:=by
 obtain⟨a,ha⟩:=h
 exact⟨a,fun m hm=>k m (ha m hm)⟩
theorem Evt.all{P:Nat→Prop}(h : ∀ m,P m):Evt P:=⟨0,fun m _=>h m⟩
def Lim(pcs:Nat→PcT)(pc:PcT):Prop := ∀ f as pars r,pc f as pars=some r→Evt fun m=>pcs m f as pars=some r
section
variable {gl:Gl} {pcs:Nat→PcT} {pc:PcT}
theorem callND_lim(h:Lim pcs pc){f:Nat}{ds:List PD}{p:PSt}{z:PD×PSt}(hz:callND pc f ds p=some z):Evt fun m=>callND (pcs m) f ds p=some z:=by
 unfold callND callN at hz
 split at hz<;>try contradiction
 next as ks p' h1=>
  split at hz<;>try contradiction
  next pars h2=>
   rw[zA]at hz
   obtain⟨q,hq,hz⟩:=hz
   refine(h f as pars q hq).mono fun m hm => ?_
   unfold callND callN
   simp only[h1,h2,hm,zD]
   exact hz
theorem callD_lim(h:Lim pcs pc){md:Nat→Md}{f:Nat}{ds:List PD}{p:PSt}{z:PD×PSt}(hz:callD md pc f ds p=some z):Evt fun m=>callD md (pcs m) f ds p=some z:=by
 unfold callD callK at hz
 split at hz
 ·next hf=>
  refine(callND_lim h hz).mono fun m hm => ?_
  unfold callD callK
  simp only[hf]
  exact hm
 ·next sz hf=>
  unfold callG at hz
  split at hz<;>try contradiction
  next as p' h1=>
   rw[zA]at hz
   obtain⟨q,hq,hz⟩:=hz
   refine(h f _ _ q hq).mono fun m hm => ?_
   unfold callD callK
   simp only[hf,callG,h1,hm,zD]
   exact hz
 ·next sz hf=>
  unfold callW at hz
  split at hz<;>try contradiction
  ·next id sz' ys rest=>
   split at hz<;>try contradiction
   next hsz=>
    split at hz<;>try contradiction
    next xs hxs=>
     rw[zA]at hz
     obtain⟨q,hq,hz⟩:=hz
     refine(h f _ _ q hq).mono fun m hm => ?_
     unfold callD callK
     simp only[hf,callW,hsz,hxs,hm,zD]
     exact hz
  ·next ys rest=>
   split at hz<;>try contradiction
   next xs hxs=>
    obtain⟨hs,hz⟩:=tst_some hz
    rw[zA]at hz
    obtain⟨q,hq,hz⟩:=hz
    refine(h f _ _ q hq).mono fun m hm => ?_
    unfold callD callK
    simp only[hf,callW,hxs,hm,hs,tst,zD]
    exact hz
 ·next hf=>
  unfold callF fulP at hz
  split at hz<;>try contradiction
  next d ds=>
   split at hz<;>try contradiction
   ·next ys=>
    split at hz<;>try contradiction
    next as p' h1=>
     rw[zA]at hz
     obtain⟨q,hq,hz⟩:=hz
     refine(h f _ _ q hq).mono fun m hm => ?_
     unfold callD callK
     simp only[hf,callF,fulP,h1,hm,zD]
     exact hz
   ·next k sz off n c z=>
    obtain⟨hs,hz⟩:=tst_some hz
    split at hz<;>try contradiction
    next as p' h1=>
     rw[zA]at hz
     obtain⟨q,hq,hz⟩:=hz
     refine(h f _ _ q hq).mono fun m hm => ?_
     unfold callD callK
     simp only[hf,callF,fulP,h1,hm,hs,tst,zD]
     exact hz
 ·next sz hf=>
  split at hz<;>try contradiction
  next d ds=>
   unfold callG fulP at hz
   split at hz<;>try contradiction
   ·next ys=>
    split at hz<;>try contradiction
    next as p' h1=>
     rw[zA]at hz
     obtain⟨q,hq,hz⟩:=hz
     refine(h f _ _ q hq).mono fun m hm => ?_
     unfold callD callK
     simp only[hf,callG,fulP,h1,hm,zD]
     exact hz
   ·next k sz off n c z=>
    obtain⟨hs,hz⟩:=tst_some hz
    split at hz<;>try contradiction
    next as p' h1=>
     rw[zA]at hz
     obtain⟨q,hq,hz⟩:=hz
     refine(h f _ _ q hq).mono fun m hm => ?_
     unfold callD callK
     simp only[hf,callG,fulP,h1,hm,hs,tst,zD]
     exact hz
 ·next e hf=>
  refine .all fun m => ?_
  unfold callD callK
  simp only[hf]
  exact hz
theorem popD_lim(h:Lim pcs pc){p:PSt}{o:O}{z:Option PD×PSt}(hz:popD gl pc p o=some z):Evt fun m=>popD gl (pcs m) p o=some z:=by
 unfold popD at hz ⊢
 cases o<;>try exact .all fun m=>hz
 case call f xs=>
  simp only[popK,callK_nat]at hz ⊢
  split at hz<;>try contradiction
  next ds hds=>
   rw[zA]at hz
   obtain⟨q,hq,hz⟩:=hz
   exact(callD_lim h hq).mono fun m hm=>by rw[hm];exact hz
 case callv g xs=>
  simp only[popK,callN_nat]at hz ⊢
  split at hz<;>try contradiction
  ·split at hz<;>try contradiction
   next ds hds=>
    rw[zA]at hz
    obtain⟨q,hq,hz⟩:=hz
    exact(callND_lim h hq).mono fun m hm=>by rw[hm];exact hz
  ·split at hz<;>try contradiction
   next ds hds=>
    rw[zA]at hz
    obtain⟨q,hq,hz⟩:=hz
    split at hz<;>try contradiction
    next hq2=>
     rw[zA]at hz
     obtain⟨q',hq',hz⟩:=hz
     refine(callND_lim h hq').mono fun m hm => ?_
     rw[hq,zD,hq2]
     simp only[hm]
     exact hz
theorem poneD_lim(h:Lim pcs pc){o:OpC}{p z:PSt}(hz:poneD gl pc o p=some z):Evt fun m=>poneD gl (pcs m) o p=some z:=by
 unfold poneD pone at hz ⊢
 simp only[popK_nat]at hz ⊢
 cases hgd:o.gd with
 | none=>
  simp only[hgd]at hz ⊢
  rw[zA]at hz
  obtain⟨q,hq,hz⟩:=hz
  exact(popD_lim h hq).mono fun m hm=>by rw[hm];exact hz
 | some tb=>
  obtain⟨t,b⟩:=tb
  simp only[hgd]at hz ⊢
  split at hz<;>try contradiction
  next c hc=>
   rw[zA]at hz
   obtain⟨cb,hcb,hz⟩:=hz
   simp only[hcb,zD]
   split at hz
   ·next hb=>
    rw[zA]at hz
    obtain⟨q,hq,hz⟩:=hz
    exact(popD_lim h hq).mono fun m hm=>by rw[if_pos hb,hm];exact hz
   ·next hb=>exact .all fun m=>by rw[if_neg hb];exact hz
theorem prunD_lim(h:Lim pcs pc)(l:PO) : ∀ {p z:PSt},prunD gl pc l p=some z→Evt fun m=>prunD gl (pcs m) l p=some z:=by
 unfold prunD
 induction l with
 | nil=>intro p z hz;exact .all fun m=>hz
 | one o s ih=>
  intro p z hz
  simp only[prunK,pone_nat]at hz ⊢
  rw[zA]at hz
  obtain⟨q,hq,hz⟩:=hz
  exact((poneD_lim h hq).and (ih hz)).mono fun m hm=>by rw[hm.1];exact hm.2
 | box n dst x s ih=>
  intro p z hz
  simp only[prunK,cellsK1_nat]at hz ⊢
  split at hz<;>try contradiction
  next d hd=>
   rw[zA]at hz
   obtain⟨c,hc,hz⟩:=hz
   split at hz<;>try contradiction
   next p1 hp1=>exact(ih hz).mono fun m hm=>by simp only[hc,zD,hp1];exact hm
 | grp c w ops dst a b s ih1 ih2=>
  intro p z hz
  simp only[prunK]at hz ⊢
  simp only[prunK_nat gl _ ops]at hz ⊢
  split at hz<;>try contradiction
  split at hz<;>try contradiction
  split at hz<;>try contradiction
  split at hz<;>try contradiction
  next cv hc _ bd hb _ bv hbv _ hfr=>
   rw[zA]at hz
   obtain⟨cb,hcb,hz⟩:=hz
   rw[zA]at hz
   obtain⟨x,hx,hz⟩:=hz
   split at hz<;>try contradiction
   next p1 hp1=>
    have hx':Evt fun m=>((if cb=w then(prunD gl (pcs m) ops p.sealOf).bind fun p'=>match evH gl p' a with | some d=>d.pureV | none=>none else some bv):Option V)=some x:=by
     split at hx
     ·next hcw=>
      rw[zA]at hx
      obtain⟨q,hq,hx⟩:=hx
      exact(ih1 hq).mono fun m hm=>by unfold prunD;rw[if_pos hcw,hm];exact hx
     ·next hcw=>exact .all fun m=>by rw[if_neg hcw];exact hx
    refine(hx'.and (ih2 hz)).mono fun m hm => ?_
    simp only[hcb,zD]
    rw[zA]
    exact⟨x,hm.1,by rw[hp1];exact hm.2⟩
theorem prunAD_lim(h:Lim pcs pc)(l:PO) : ∀ {p z:PSt},prunAD gl pc l p=some z→Evt fun m=>prunAD gl (pcs m) l p=some z:=by
 unfold prunAD
 induction l with
 | nil=>intro p z hz;exact .all fun m=>hz
 | one o s ih=>
  intro p z hz
  simp only[prunA,pone_nat]at hz ⊢
  split at hz<;>try contradiction
  split at hz<;>try contradiction
  rw[zA]at hz
  obtain⟨q,hq,hz⟩:=hz
  exact((poneD_lim h hq).and (ih hz)).mono fun m hm=>by rw[hm.1];exact hm.2
 | box n dst x s ih=>intro p z hz;simp[prunA]at hz
 | grp c w ops dst a b s ih1 ih2=>intro p z hz;simp[prunA]at hz
theorem loopM_lim{α β:Type}{f:α→Option (α ⊕ β)}{fs:Nat→α→Option (α ⊕ β)}(h : ∀ a b,f a=some b→Evt fun m=>fs m a=some b){n:Nat}{a:α}{b:β}(hb:loopM f n a=some b):Evt fun m=>loopM (fs m) n a=some b:=by
 induction n generalizing a with
 | zero=>simp[loopM]at hb
 | succ n ih=>
  simp only[loopM]at hb ⊢
  split at hb
  ·next a' he=>exact((h a _ he).and (ih hb)).mono fun m hm=>by rw[hm.1];exact hm.2
  ·next c he=>exact(h a _ he).mono fun m hm=>by rw[hm];exact hb
  ·contradiction
theorem pexecD_lim(h:Lim pcs pc)(c:PC) : ∀ {p:PSt} {z:PEx×PSt},pexecD gl pc c p=some z→Evt fun m=>pexecD gl (pcs m) c p=some z:=by
 unfold pexecD
 induction c with
 | skip=>intro p z hz;exact .all fun m=>hz
 | exit id=>intro p z hz;exact .all fun m=>hz
 | ret=>intro p z hz;exact .all fun m=>hz
 | reg ops keep=>
  intro p z hz
  simp only[pexecK,prunK_nat]at hz ⊢
  rw[zA]at hz
  obtain⟨q,hq,hz⟩:=hz
  exact(prunD_lim h _ hq).mono fun m hm=>by rw[hm];exact hz
 | drw a0 a1 b keep=>
  intro p z hz
  simp only[pexecK,prunK_nat]at hz ⊢
  rw[zA]at hz
  obtain⟨q,hq,hz⟩:=hz
  split at hz<;>try contradiction
  next hst=>
   rw[zA]at hz
   obtain⟨q1,hq1,hz⟩:=hz
   rw[zA]at hz
   obtain⟨q2,hq2,hz⟩:=hz
   refine((prunD_lim h _ hq).and ((prunD_lim h _ hq1).and (prunD_lim h _ hq2))).mono fun m hm => ?_
   rw[hm.1]
   simp only[zD,hm.2.1,hm.2.2]
   exact hz
 | drq a0 a1 b keep=>
  intro p z hz
  simp only[pexecK,prunK_nat,prunA_nat]at hz ⊢
  rw[zA]at hz
  obtain⟨q,hq,hz⟩:=hz
  rw[zA]at hz
  obtain⟨q1,hq1,hz⟩:=hz
  rw[zA]at hz
  obtain⟨q2,hq2,hz⟩:=hz
  refine((prunD_lim h _ hq).and ((prunAD_lim h _ hq1).and (prunD_lim h _ hq2))).mono fun m hm => ?_
  rw[hm.1]
  simp only[zD,hm.2.1,hm.2.2]
  exact hz
 | seq a b iha ihb=>
  intro p z hz
  simp only[pexecK]at hz ⊢
  simp only[pexecK_nat gl _ a]at hz ⊢
  rw[zA]at hz
  obtain⟨q,hq,hz⟩:=hz
  obtain⟨x,p'⟩:=q
  cases x with
  | nrm=>exact((iha hq).and (ihb hz)).mono fun m hm=>by unfold pexecD;rw[hm.1];exact hm.2
  | ext i=>exact(iha hq).mono fun m hm=>by unfold pexecD;rw[hm];exact hz
  | ret=>exact(iha hq).mono fun m hm=>by unfold pexecD;rw[hm];exact hz
 | cond c a b iha ihb=>
  intro p z hz
  simp only[pexecK]at hz ⊢
  split at hz<;>try contradiction
  next c hc=>
   rw[zA]at hz
   obtain⟨cb,hcb,hz⟩:=hz
   simp only[hcb,zD]
   split at hz
   ·next hb=>exact(iha hz).mono fun m hm=>by rw[if_pos hb];exact hm
   ·next hb=>exact(ihb hz).mono fun m hm=>by rw[if_neg hb];exact hm
 | blk id c ih=>
  intro p z hz
  simp only[pexecK]at hz ⊢
  simp only[pexecK_nat gl _ c]at hz ⊢
  rw[zA]at hz
  obtain⟨q,hq,hz⟩:=hz
  exact(ih hq).mono fun m hm=>by unfold pexecD;rw[hm];exact hz
 | cut hd xs c ih=>
  intro p z hz
  simp only[pexecK]at hz ⊢
  simp only[encK_nat,pexecK_nat gl _ c]at hz ⊢
  rw[zA]at hz
  obtain⟨v0,hv0,hz⟩:=hz
  simp only[hv0,zD]
  split at hz<;>try contradiction
  next pv hpv=>
   rw[zA]at hz
   obtain⟨o,ho,hz⟩:=hz
   rw[zA]at ho
   obtain⟨q,hq,ho⟩:=ho
   refine(ih hq).mono fun m hm => ?_
   unfold pexecD
   rw[hm,zD]
   rw[zA]
   exact⟨o,ho,hz⟩
 | loop hd xs c ih=>
  intro p z hz
  simp only[pexecK]at hz ⊢
  simp only[encK_nat,pexecK_nat gl _ c]at hz ⊢
  rw[zA]at hz
  obtain⟨v0,hv0,hz⟩:=hz
  simp only[hv0,zD]
  rw[zA]at hz
  obtain⟨o,ho,hz⟩:=hz
  obtain⟨n,hn⟩:=loopL_iff.1 ho
  refine(loopM_lim (fs:=fun m v=>match dec true hd p v with
    | some pv=>(pexecD gl (pcs m) c pv).bind fun q=>match q.1 with
     | .nrm=>(encD true hd q.2).bind fun v'=>some (.inl v')
     | .ext i=>match findX xs (.ext i) 0 with | some (j,sh)=>(encD true sh q.2).bind fun v'=>some (.inr (j,v')) | none=>none
     | .ret=>match findX xs .ret 0 with | some (j,sh)=>(encD true sh q.2).bind fun v'=>some (.inr (j,v')) | none=>none
    | none=>none) (fun v b hb => ?_) hn).mono fun m hm => ?_
  ·split at hb<;>try contradiction
   next pv hpv=>
    rw[zA]at hb
    obtain⟨q,hq,hb⟩:=hb
    refine(ih hq).mono fun m hm => ?_
    simp only[pexecD,hpv,hm,zD]
    exact hb
  ·rw[zA]
   exact⟨o,loopL_iff.2 ⟨n,hm⟩,hz⟩
end
end Go.Ev
end
section
namespace Go.Ev
mutual
theorem toD_pure : ∀ x:V,x.toD.pure=true
 | .bool _=>rfl
 | .int _ _=>rfl
 | .float _ _=>rfl
 | .str _=>rfl
 | .nilp=>rfl
 | .nilf=>rfl
 | .nili=>rfl
 | .sl xs=>by simp only[V.toD,D.pure,Bool.true_and];exact flatD_pure xs
 | .agg xs=>by simp only[V.toD,D.pure];exact toDL_pure xs
 | .tup xs=>by simp only[V.toD,D.pure];exact toDL_pure xs
 | .fn _ c=>by simp only[V.toD,D.pure];exact toDL_pure c
 | .iface _ x=>by simp only[V.toD,D.pure];exact toD_pure x
theorem toDL_pure : ∀ l:List V,pureL (toDL l)=true
 | []=>rfl
 | x::r=>by simp only[toDL,pureL,toD_pure x,toDL_pure r,Bool.and_self]
theorem flatD_pure : ∀ l:List V,pureL (flatD l)=true
 | []=>rfl
 | x::r=>by
  have h:pureL x.toD.cells=true:=by
   have:=toD_pure x
   cases hx:x.toD<;>rw[hx]at this<;>simp_all [D.cells,pureL,D.pure]
  simp only[flatD,pureL_app,h,flatD_pure r,Bool.and_self]
end
theorem tip_frz(s:St)(l:List Nat):(frz s l).tip=s.tip:=by
 induction l generalizing s with
 | nil=>rfl
 | cons k r ih=>simp only[frz];split<;>rw[ih];rfl
theorem frz_lw{s:St}{l:List Nat}{m:Nat}(hl : ∀ k∈l,m≤k)(h:m≤s.lw):m≤(frz s l).lw:=by
 induction l generalizing s with
 | nil=>exact h
 | cons k r ih=>
  simp only[frz]
  have hk:=hl k List.mem_cons_self
  split
  ·refine ih (fun j hj=>hl j (zP _ hj)) ?_
   show m≤if k<s.lw then k else s.lw
   split<;>omega
  ·exact ih (fun j hj=>hl j (zP _ hj)) h
section
variable {ρ:Nat→Nat} {τ:Nat→Option Nat} {p:PSt} {st:St} {ρ':Type} {r:ρ'}
theorem refs_row{c:Cx}{q:PS}{e:D}(hr:RS c q e){x:V}(ho:q.outV p=some x)(hc:c.rk=rkOf p.rows) : ∀ b∈e.refs,∃ k,k<c.m∧rkOf p.rows k≠none∧b=c.ρ k:=by
 cases q
 case ref k sz off n cp z=>
  obtain⟨hk,_,hdd,_⟩:=hr
  intro b hb
  rcases hdd with⟨rfl,_⟩ | ⟨_,rfl,_⟩
  ·simp only[D.refs,zS,List.not_mem_nil,or_false]at hb
   refine⟨k,hk,?_,hb⟩
   simp only[PS.outV]at ho
   split at ho<;>try contradiction
   next fz szr xs hrr=>
    obtain⟨rr,h1,h2⟩:=rowR_some hrr
    rw[rk_arr h1 h2];simp
  ·simp[D.refs,refsL]at hb
 all_goals
  have:=PS.pure_ok hr ho
  rw[(cl_of this (fun _=>none)).2]
  intro b hb;simp at hb
theorem refsL_row{c:Cx}{ps:List PS}{es:List D}(hr:RSL c ps es){l:List V}(ho:outL p ps=some l)(hc:c.rk=rkOf p.rows) : ∀ b∈refsL es,∃ k,k<c.m∧rkOf p.rows k≠none∧b=c.ρ k:=by
 induction ps generalizing es l with
 | nil=>cases es with
  | nil=>intro b hb;simp[refsL]at hb
  | cons _ _=>exact hr.elim
 | cons q r ih=>cases es with
  | nil=>exact hr.elim
  | cons d s=>
   simp only[outL]at ho
   split at ho<;>try contradiction
   split at ho<;>try contradiction
   next x hx _ l' hl=>
    intro b hb
    simp only[refsL,List.mem_append]at hb
    rcases hb with hb | hb
    ·exact refs_row hr.1 hx hc b hb
    ·exact ih hr.2 hl b hb
theorem refsP_row{c:Cx}{q:PD}{e:D}(hr:RP c q e){x:V}(ho:q.outV p=some x)(hc:c.rk=rkOf p.rows) : ∀ b∈e.refs,∃ k,k<c.m∧rkOf p.rows k≠none∧b=c.ρ k:=by
 cases q with
 | s q=>exact refs_row hr ho hc
 | agg ps=>
  obtain⟨es,rfl,h1,_⟩:=hr
  simp only[PD.outV]at ho
  split at ho<;>try contradiction
  next l hl=>exact refsL_row h1 hl hc
theorem resK_ok(hS:Sim ρ τ p st){res:List R}{K:List V→Option ρ'}(h:resK p res K=some r) :
  ∃ l,K l=some r ∧ ∃ es,resOf st res=some es∧clL st.mem es=toDL l ∧ ∀ b∈refsL es,∃ k,k<p.rows.length∧rkOf p.rows k≠none∧b=ρ k:=by
 induction res generalizing K with
 | nil=>exact⟨[],h,[],rfl,rfl,fun b hb=>by simp[refsL]at hb⟩
 | cons a s ih=>
  have fin : ∀ {d:PD} {e:D} {x:V},RP (cxOf ρ τ p st) d e→d.outV p=some x→resK p s (fun l=>K (x::l))=some r →
    ∃ l,K l=some r ∧ ∃ es,resOf st s=some es∧clL st.mem (e::es)=toDL l ∧ ∀ b∈refsL (e::es),∃ k,k<p.rows.length∧rkOf p.rows k≠none∧b=ρ k:=by
   intro d e x hr hx hh
   obtain⟨l,h1,es,h2,h3,h4⟩:=ih hh
   refine⟨x::l,h1,es,h2,by simp only[clL,toDL,outV_ok hS hr hx,h3],fun b hb => ?_⟩
   simp only[refsL,List.mem_append]at hb
   rcases hb with hb | hb
   ·exact refsP_row hr hx rfl b hb
   ·exact h4 b hb
  cases a with
  | tmp t=>
   simp only[resK]at h
   split at h<;>try contradiction
   split at h<;>try contradiction
   next d hd _ x hx=>
    rw[getF_getP,zB]at hd
    obtain⟨⟨f,d'⟩,h1,rfl⟩:=hd
    obtain⟨e,he,hr⟩:=hS.tm t f d' h1
    obtain⟨l,h2,es,h3,h4,h5⟩:=fin hr hx h
    exact⟨l,h2,e::es,by simp[resOf,he,h3],h4,h5⟩
  | cell t ag sz=>
   simp only[resK]at h
   split at h<;>try contradiction
   next d hd=>
    rw[getF_getP,zB]at hd
    obtain⟨⟨f,d'⟩,h1,rfl⟩:=hd
    obtain⟨e,he,hr⟩:=hS.tm t f d' h1
    obtain⟨v,h2,w,h3,h4⟩:=loadK_ok hS hr h
    split at h2<;>try contradiction
    next x hx=>
     obtain⟨l,h5,es,h6,h7,h8⟩:=fin h4 hx h2
     exact⟨l,h5,w::es,by simp[resOf,he,h3,h6],h7,h8⟩
theorem argsT_get(as:List PA)(i t:Nat):getF (argsT i as) t=if i≤t then(as[t - i]?).map fun a=>(false,argD a)else none:=by
 induction as generalizing i with
 | nil=>simp[argsT,getF]
 | cons a r ih=>
  simp only[argsT,getF]
  cases hb:i.beq t with
  | true=>
   have:=zJ hb
   subst this
   simp
  | false=>
   have hne:i≠t:=fun e=>by subst e;rw[Nat.beq_refl]at hb;contradiction
   simp only
   rw[ih]
   by_cases h:i≤t
   ·rw[if_pos h,if_pos (by omega),show t - i=(t - (i+1))+1 by omega,zN]
   ·rw[if_neg h,if_neg (by omega)]
theorem RAL_get{ρ:Nat→Nat}{n:Nat}{as:List PA}{ds:List D}(h:RAL ρ n as ds){i:Nat}{a:PA}(hi:as[i]?=some a) : ∃ d,ds[i]?=some d∧RA ρ n a d:=by
 induction as generalizing ds i with
 | nil=>simp at hi
 | cons b r ih=>cases ds with
  | nil=>exact h.elim
  | cons d s=>cases i with
   | zero=>simp at hi;subst hi;exact⟨d,by simp,h.1⟩
   | succ i=>simpa using ih h.2 (by simpa using hi)
theorem parsR_get(pars:List (Bool×Nat×V))(k:Nat):(parsR pars)[k]?=(pars[k]?).map fun e=>⟨e.1,parC e.2.1 e.2.2⟩:=by
 induction pars generalizing k with
 | nil=>simp[parsR]
 | cons e r ih=>obtain⟨a,b,c⟩:=e;cases k<;>simp_all [parsR]
theorem parsR_len(pars:List (Bool×Nat×V)):(parsR pars).length=pars.length:=by
 induction pars with
 | nil=>rfl
 | cons e r ih=>obtain⟨a,b,c⟩:=e;simp_all [parsR]
theorem parsR_arr(pars:List (Bool×Nat×V))(k:Nat):rkOf (parsR pars) k=none:=by
 cases h:(parsR pars)[k]? with
 | none=>simp only[rkOf,h]
 | some rw'=>
  have h':=h
  rw[parsR_get,zB]at h'
  obtain⟨e,_,rfl⟩:=h'
  exact rkOf_none h (parC_arr _ _).1
theorem parsOut_ok{j0:Nat}{pars:List (Bool×Nat×V)}{ys:List V}(h:parsOut p j0 pars=some ys) : ∀ (j:Nat) (e:Bool×Nat×V),pars[j]?=some e → ∃ y c,ys[j]?=some y∧rowR p (j0+j)=some c∧rowV c=some (e.2.1,y):=by
 induction pars generalizing j0 ys with
 | nil=>intro j e hj;simp at hj
 | cons a r ih=>
  obtain⟨f,n,x0⟩:=a
  simp only[parsOut]at h
  split at h<;>try contradiction
  split at h<;>try contradiction
  split at h<;>try contradiction
  split at h<;>try contradiction
  next c hc _ n' x hx _ hn _ l hl=>
   injection h with h;subst h
   have hn:=zJ hn;subst hn
   intro j e hj
   cases j with
   | zero=>simp at hj;subst hj;exact⟨x,c,by simp,hc,hx⟩
   | succ j=>
    obtain⟨y,c',h1,h2,h3⟩:=ih hl j e (by simpa using hj)
    exact⟨y,c',by simpa using h1,by rw[← Nat.add_assoc,Nat.add_right_comm];exact h2,h3⟩
def Md.isRaw:Md→Bool
 | .raw _=>true
 | _=>false
def Md.isGv:Md→Bool
 | .gv _=>true
 | _=>false
def TabOk(E:Env)(md:Nat→Md)(tab:Nat→Option PFn):Prop := ∀ f fn,tab f=some fn→E.ext f=none ∧ ∃ np,E.fn f=some ⟨np,fn.res,(md f).isRaw,(md f).isGv,erase fn.body⟩
/-- what is told of a function, by how it is called -/
def Tells(h:List D→List D→Option D)(g:List V→Option V):Md→Prop
 | .pl => ∀ ds xs y,g xs=some y→h ds (toDL xs)=some y.toD
 | .gv _=>True
 | .gvf sz => ∀ d ds xs,roomless d=true→g xs=some (.sl [])→h (d::ds) (toDL xs)=some (.sl (.ln 0 sz) 0 [])
 | .ful => ∀ d ds xs y,roomless d=true→g xs=some y→h (d::ds) (toDL xs)=some y.toD
 | .raw _=>True
 | .eff _=>True
def TxOk(E:Env)(gl:Gl)(tab:Nat→Option PFn):Prop:=(∀ f g,tab f=none→gl.tx f=some g → ∃ h,E.ext f=some (.fn h)∧Tells h g (gl.md f)) ∧ ∀ f e,gl.md f = .eff e→E.ext f=some (.eff e)
theorem told_toD(st:St)(y:V):told st y.toD=(y.toD,st):=by cases y<;>rfl
theorem valsA_ok{ρ:Nat→Nat}{n:Nat}{as:List PA}{ds:List D}(h:RAL ρ n as ds){xs:List V}(hx:valsA as=some xs):ds=toDL xs:=by
 induction as generalizing ds xs with
 | nil=>cases ds with
  | nil=>simp[valsA]at hx;subst hx;rfl
  | cons _ _=>exact h.elim
 | cons a r ih=>cases ds with
  | nil=>exact h.elim
  | cons d s=>
   cases a<;>simp only[valsA]at hx<;>try contradiction
   split at hx<;>try contradiction
   next l hl=>
    injection hx with hx;subst hx
    have h1:d=_:=h.1
    rw[toDL,h1,ih h.2 hl]
theorem extK_some{g:List V→Option V}{as:List PA}{pars:List (Bool×Nat×V)}{q:V×List V}(hk:extK g as pars=some q):pars=[] ∧ ∃ xs y,valsA as=some xs∧g xs=some y∧q=(y,[]):=by
 unfold extK at hk
 split at hk<;>try contradiction
 split at hk<;>try contradiction
 next xs hxs=>
  rw[zA]at hk
  obtain⟨y,hy,hk⟩:=hk
  injection hk with hk
  exact⟨rfl,xs,y,hxs,hy,hk.symm⟩
theorem ext_ok{E:Env}{f:Nat}{g:List V→Option V}{h:List D→List D→Option D}(hx:E.ext f=some (.fn h))(hg : ∀ ds xs y,g xs=some y→h ds (toDL xs)=some y.toD){as:List PA}{pars:List (Bool×Nat×V)}{q:V×List V}(hk:extK g as pars=some q)
  (ρ:Nat→Nat) (st:St) (ds:List D) (ha:RAL ρ pars.length as (clL st.mem ds)) : ∃ st',callL E f ds st=some (.ret q.1.toD,st')∧CallGoes ρ pars q.2 st (frz st (refsL ds)) st':=by
 unfold extK at hk
 split at hk<;>try contradiction
 split at hk<;>try contradiction
 next xs hxs=>
  rw[zA]at hk
  obtain⟨y,hy,hk⟩:=hk
  injection hk with hk;subst hk
  refine⟨frz st (refsL ds),?_,tm_frz _ _,(Fr.frz _ _).lo,by rw[nx_frz];exact zR _,fun _ _ _=>rfl,fun l _=>by rw[tip_frz],fun m h _ _=>h,fun j e hj=>by simp at hj,fun _=>rfl⟩
  rw[callL_ext hx,valsA_ok ha hxs,hg _ xs y hy]
  simp only[zC,told_toD]
theorem Fr.execL{E:Env}{c:C}{st st':St}{e:Ex}(h:execL E c st=some (e,st')):Fr st st':=by
 obtain⟨n,hn⟩:=execL_iff.1 h
 refine Fr.exec (fun f ds st o st' h => ?_) hn
 obtain⟨m,hm⟩:=callL_iff.1 h
 exact Fq.call f ds st o st' hm
theorem one_cl{m:Mem}{es:List D}{l:List V}(h:clL m es=toDL l):(one es).cl m=(oneV l).toD:=by
 match es,l,h with
 | [],[],_=>rfl
 | [d],[x],h=>simpa[clL,toDL,one,oneV]using h
 | d::d'::es,x::x'::l,h=>
  simp only[one,oneV,D.cl,V.toD,h]
 | [],_::_,h=>simp[clL,toDL]at h
 | _::_,[],h=>simp[clL,toDL]at h
 | [_],_::_::_,h=>simp[clL,toDL]at h
 | _::_::_,[_],h=>simp[clL,toDL]at h
theorem one_refs(es:List D):(one es).refs=refsL es:=by
 match es with
 | []=>rfl
 | [d]=>simp[one,refsL]
 | d::d'::es=>simp[one,D.refs]
theorem body_ok{E:Env}{gl:Gl}{pc:PcT}(hg:GlR E gl)(hpc:PcOk E gl.md pc){f:Nat}{fn:PFn}{np:Nat}(hx:E.ext f=none)(hf:E.fn f=some ⟨np,fn.res,false,false,erase fn.body⟩){as:List PA}{pars:List (Bool×Nat×V)}{q:V×List V}
  (h:pexecK gl pc fn.body (enterP as pars) (finK fn.res pars)=some q) (ρ:Nat→Nat) (st:St) (ds:List D) (ha:RAL ρ pars.length as (clL st.mem ds))
  (hp : ∀ (j:Nat) (e:Bool×Nat×V),pars[j]?=some e→ρ j<st.nx ∧ ∃ o,(frz st (refsL ds)).mem (ρ j)=some o∧RPar e.2.1 e.2.2 o)
  (hi : ∀ i j,i<pars.length→j<pars.length→ρ i=ρ j→i=j) :
  ∃ st',callL E f ds st=some (.ret q.1.toD,st')∧CallGoes ρ pars q.2 st (frz st (refsL ds)) st':=by
 have hlen:(enterP as pars).rows.length=pars.length:=parsR_len pars
 have hnx:(frz st (refsL ds)).nx=st.nx:=nx_frz _ _
 have hS0:Sim ρ (fun _=>none) (enterP as pars) (enter ⟨np,fn.res,false,false,erase fn.body⟩ ds st):=by
  refine⟨fun t fl d ht => ?_,fun k hk => ?_,fun k rw' hk => ?_,fun j k hj hk h => ?_,fun i l h=>by contradiction,fun i j l h=>by contradiction⟩
  ·have ht:getF (argsT 0 as) t=some (fl,d):=ht
   rw[argsT_get,if_pos (Nat.zero_le _),Nat.sub_zero,zB]at ht
   obtain⟨a,h1,h2⟩:=ht
   simp only[Prod.mk.injEq]at h2
   obtain⟨rfl,rfl⟩:=h2
   obtain⟨e,h3,h4⟩:=RAL_get ha h1
   refine⟨e,?_,?_⟩
   ·show get (params 0 (clL st.mem ds)) t=some e
    rw[get_params,if_pos (Nat.zero_le _),Nat.sub_zero];exact h3
   ·cases a with
    | v x=>
     have h4:e=x.toD:=h4
     subst h4
     exact toD_cl0 x
    | p j off=>exact⟨by show j<(enterP as pars).rows.length;rw[hlen];exact h4.1,h4.2⟩
    | fn f' cap=>
     obtain⟨es,rfl,h5⟩:=h4
     exact⟨es,rfl,by show RCL ρ (enterP as pars).rows.length _ _;rw[hlen];exact h5⟩
    | o _ _=>exact h4.elim
    | g=>exact h4.elim
    | u=>exact h4.elim
  ·rw[hlen]at hk
   obtain⟨e,he⟩:=get_lt hk
   show ρ k<(frz st (refsL ds)).nx
   rw[hnx];exact(hp k e he).1
  ·have hk:(parsR pars)[k]?=some rw':=hk
   rw[parsR_get,zB]at hk
   obtain⟨e,h1,rfl⟩:=hk
   obtain⟨_,o,h2,h3⟩:=hp k e h1
   exact⟨o,.inr h2,parC_ok h3⟩
  ·rw[hlen]at hj hk;exact hi j k hj hk h
 have hw0:Wf (enterP as pars):=by
  refine⟨fun t d ht => ?_,fun k rw' hk _ => ?_⟩
  ·have ht:getF (argsT 0 as) t=some (true,d):=ht
   rw[argsT_get,if_pos (Nat.zero_le _),zB]at ht
   obtain⟨a,_,h2⟩:=ht
   simp at h2
  ·have hk:(parsR pars)[k]?=some rw':=hk
   rw[parsR_get,zB]at hk
   obtain⟨e,_,rfl⟩:=hk
   exact(parC_arr _ _).2
 obtain⟨x,p',h1,s,ρ1,τ1,h2,h3⟩:=pexec_ok hg hpc fn.body hS0 hw0 h
 have hfin:(x = .nrm∨x = .ret) ∧ ∃ ys,parsOut p' 0 pars=some ys∧(resK p' fn.res fun l=>some (oneV l,ys))=some q:=by
  cases x with
  | ext i=>simp[finK]at h1
  | nrm=>
   refine⟨.inl rfl,?_⟩
   simp only[finK]at h1
   split at h1<;>try contradiction
   next ys hys=>exact⟨ys,hys,h1⟩
  | ret=>
   refine⟨.inr rfl,?_⟩
   simp only[finK]at h1
   split at h1<;>try contradiction
   next ys hys=>exact⟨ys,hys,h1⟩
 obtain⟨hxx,ys,hys,hres⟩:=hfin
 obtain⟨l,h4,es,h5,h6,h7⟩:=resK_ok h3.sim hres
 injection h4 with h4;subst h4
 have hcl:=one_cl h6
 have hrefs : ∀ b∈(one es).refs,st.nx≤b:=by
  intro b hb
  rw[one_refs]at hb
  obtain⟨k,hk1,hk2,rfl⟩:=h7 b hb
  rcases Nat.lt_or_ge k (enterP as pars).rows.length with hk | hk
  ·exfalso
   rcases h3.rk k hk with e | e
   ·rw[e]at hk2;exact hk2 (parsR_arr pars k)
   ·exact hk2 e
  ·have:=h3.ρn k hk hk1
   have hn0:(enter ⟨np,fn.res,false,false,erase fn.body⟩ ds st).nx=st.nx:=hnx
   rw[hn0]at this;exact this
 have hcall:callL E f ds st=some (.ret (leave ⟨np,fn.res,false,false,erase fn.body⟩ (frz st (refsL ds)) s (one es)).1,(leave ⟨np,fn.res,false,false,erase fn.body⟩ (frz st (refsL ds)) s (one es)).2):=by
  rw[callL_fn hx hf]
  simp only[h2]
  rcases hxx with rfl | rfl<;>simp only[exOf,h5,zC]<;>rfl
 have hfr:=Fr.execL h2
 have hslo:s.lo=st.nx:=h3.lo
 have hρ : ∀ j,j<pars.length→ρ1 j=ρ j:=fun j hj=>h3.ρs j (by rw[hlen];exact hj)
 have hmem : ∀ b,b<st.nx→(∀ (j:Nat) (e:Bool×Nat×V),pars[j]?=some e→ρ j=b→e.1=true)→s.mem b=(frz st (refsL ds)).mem b:=by
  intro b hb hr
  refine h3.mem b (by show b<(frz st (refsL ds)).nx;rw[hnx];exact hb) (fun k rw' hk hkb => ?_)
  have hk:(parsR pars)[k]?=some rw':=hk
  rw[parsR_get,zB]at hk
  obtain⟨e,h8,rfl⟩:=hk
  exact hr k e h8 hkb
 have htip : ∀ l,l<st.nx→s.tip l=st.tip l:=by
  intro l hl
  rw[h3.tip l (by show l<(frz st (refsL ds)).nx;rw[hnx];exact hl) (fun i=>by simp)]
  show(frz st (refsL ds)).tip l=_
  rw[tip_frz]
 have hlw : ∀ m,m≤st.nx→(∀ (j:Nat) (e:Bool×Nat×V),pars[j]?=some e→e.1=false→m≤ρ j)→m≤s.lw:=by
  intro m hm hr
  refine h3.lw m hm (by show m≤(frz st (refsL ds)).nx;rw[hnx];exact hm) (fun k rw' hk hro => ?_) (fun i l h=>by contradiction)
  have hk':(parsR pars)[k]?=some rw':=hk
  rw[parsR_get,zB]at hk'
  obtain⟨e,h8,rfl⟩:=hk'
  rcases hro with hro | hro
  ·exact hr k e h8 hro
  ·rw[(parC_arr _ _).1]at hro;contradiction
 have hpar : ∀ (j:Nat) (e:Bool×Nat×V),pars[j]?=some e → ∃ y o,ys[j]?=some y∧s.mem (ρ j)=some o∧RPar e.2.1 y o:=by
  intro j e hj
  obtain⟨y,c,h8,h9,h10⟩:=parsOut_ok hys j e hj
  rw[Nat.zero_add]at h9
  obtain⟨o,ho,hrw⟩:=h3.sim.row h9 (rowV_arr h10).2
  rw[hρ j (getElem?_lt hj)]at ho
  exact⟨y,o,h8,ho,rowV_ok hrw h10⟩
 have hfmem : ∀ b,b<st.nx→(frz s (one es).refs).mem b=s.mem b:=by
  intro b hb
  exact frz_other _ _ _ (fun hm=>by have:=hrefs b hm;omega)
 have hflw : ∀ m,m≤st.nx→m≤s.lw→m≤(frz s (one es).refs).lw:=fun m hm h=>frz_lw (fun k hk=>Nat.le_trans hm (hrefs k hk)) h
 have hpure:((one es).cl s.mem).pure=true:=by rw[hcl];exact toD_pure _
 by_cases hlo:(frz s (one es).refs).lw<s.lo
 ·-- rows of the caller were touched
  refine⟨{ frz s (one es).refs with tm:=(frz st (refsL ds)).tm,lo:=(frz st (refsL ds)).lo,lw:=if(frz s (one es).refs).lw<(frz st (refsL ds)).lw then(frz s (one es).refs).lw else(frz st (refsL ds)).lw },?_,tm_frz _ _,(Fr.frz _ _).lo,?_,fun b hb hr => ?_,fun l hl => ?_,fun m h8 h9 h10 => ?_,fun j e hj => ?_,fun hall => ?_⟩
  ·rw[hcall]
   simp only[leave,zF,if_false,hpure,Bool.true_and,decide_eq_true_eq]
   rw[if_neg (fun h=>h hlo),hcl]
  ·show st.nx≤(frz s (one es).refs).nx
   rw[nx_frz]
   have:=h3.nx
   have hn0:(enter ⟨np,fn.res,false,false,erase fn.body⟩ ds st).nx=st.nx:=hnx
   rw[hn0]at this;exact this
  ·show(frz s (one es).refs).mem b=_
   rw[hfmem b hb];exact hmem b hb hr
  ·show(frz s (one es).refs).tip l=_
   rw[tip_frz];exact htip l hl
  ·show m≤if(frz s (one es).refs).lw<(frz st (refsL ds)).lw then(frz s (one es).refs).lw else(frz st (refsL ds)).lw
   have:=hflw m h9 (hlw m h9 h10)
   split<;>omega
  ·obtain⟨y,o,h8,h9,h10⟩:=hpar j e hj
   exact⟨y,o,h8,by show(frz s (one es).refs).mem (ρ j)=_;rw[hfmem _ (hp j e hj).1];exact h9,h10⟩
  ·exfalso
   have:=hflw st.nx (zR _) (hlw st.nx (zR _) (fun j e hj he=>by rw[hall j e hj]at he;contradiction))
   omega
 ·refine⟨frz st (refsL ds),?_,tm_frz _ _,(Fr.frz _ _).lo,by rw[hnx];exact zR _,fun _ _ _=>rfl,fun l _=>by rw[tip_frz],fun m h _ _=>h,fun j e hj => ?_,fun _=>rfl⟩
  ·rw[hcall]
   simp only[leave,zF,if_false,hpure,Bool.true_and,decide_eq_true_eq]
   rw[if_pos hlo,hcl]
  ·obtain⟨y,o,h8,h9,h10⟩:=hpar j e hj
   refine⟨y,o,h8,?_,h10⟩
   have hlt:=(hp j e hj).1
   have hl1:(frz s (one es).refs).lw≤s.lw:=(Fr.frz s _).lw
   have:s.mem (ρ j)=(enter ⟨np,fn.res,false,false,erase fn.body⟩ ds st).mem (ρ j):=hfr.mem (ρ j) (by show ρ j<(frz st (refsL ds)).nx;rw[hnx];exact hlt) (by omega)
   rw[← h9,this];rfl
theorem finG_ok{sz:Nat}{res:List R}{x:PEx}{q:V×List V}(h:finG sz res x p=some q):(x = .nrm∨x = .ret) ∧ ∃ t d xs,res=[.tmp t]∧getP p.tm t=some (.s d)∧((∃ id,d = .own id sz xs)∨d = .full xs∧szOk sz xs=true)∧q=(.sl xs,[]):=by
 have hx:x = .nrm∨x = .ret:=by
  cases x with
  | ext i=>simp[finG]at h
  | nrm=>exact .inl rfl
  | ret=>exact .inr rfl
 have h':finG sz res .nrm p=some q:=by rcases hx with rfl | rfl<;>exact h
 refine⟨hx,?_⟩
 clear h
 simp only[finG]at h'
 split at h'<;>try contradiction
 next t=>
  split at h'<;>try contradiction
  next id sz' xs hp=>
   split at h'<;>try contradiction
   next hz=>
    injection h' with h'
    have hz:=zJ hz;subst hz
    exact⟨t,_,xs,rfl,hp,.inl ⟨id,rfl⟩,h'.symm⟩
  next xs hp=>
   obtain⟨hz,h'⟩:=tst_some h'
   injection h' with h'
   exact⟨t,_,xs,rfl,hp,.inr ⟨rfl,hz⟩,h'.symm⟩
theorem finW_ok{res:List R}{x:PEx}{q:V×List V}(h:finW res x p=some q):(x = .nrm∨x = .ret) ∧ ∃ t d y,res=[.tmp t]∧getP p.tm t=some d∧d.pureV=some y∧q=(y,[]):=by
 have hx:x = .nrm∨x = .ret:=by
  cases x with
  | ext i=>simp[finW]at h
  | nrm=>exact .inl rfl
  | ret=>exact .inr rfl
 have h':finW res .nrm p=some q:=by rcases hx with rfl | rfl<;>exact h
 refine⟨hx,?_⟩
 clear h
 simp only[finW]at h'
 split at h'<;>try contradiction
 next t=>
  split at h'<;>try contradiction
  next d hp=>
   split at h'<;>try contradiction
   next y hy=>
    injection h' with h'
    exact⟨t,d,y,rfl,hp,hy,h'.symm⟩
theorem body_g{E:Env}{gl:Gl}{pc:PcT}(hg:GlR E gl)(hpc:PcOk E gl.md pc){f:Nat}{fn:PFn}{np:Nat}(hx:E.ext f=none)(hf:E.fn f=some ⟨np,fn.res,false,true,erase fn.body⟩){sz:Nat}{as:List PA}{q:V×List V}
  (h:pexecK gl pc fn.body (enterP as []) (finG sz fn.res)=some q) (ρ:Nat→Nat) (st:St) (ds:List D) (ha:RAL ρ 0 as (clL st.mem ds)) :
  ∃ ys cs,q.1 = .sl ys∧cl0L cs=flatD ys∧szOk sz ys=true ∧ ∃ g st',callL E f ds st=some (.ret (.sl g ys.length cs),st') ∧
  (g = .full∧st'=frz st (refsL ds)∨g = .ln (frz st (refsL ds)).nx sz∧st'={ frz st (refsL ds)with tip:=upd (frz st (refsL ds)).tip (frz st (refsL ds)).nx ys.length,nx:=(frz st (refsL ds)).nx+1 }):=by
 have hnx:(frz st (refsL ds)).nx=st.nx:=nx_frz _ _
 have hS0:Sim ρ (fun _=>none) (enterP as []) (enter ⟨np,fn.res,false,true,erase fn.body⟩ ds st):=by
  refine⟨fun t fl d ht => ?_,fun k hk => ?_,fun k rw' hk => ?_,fun j k hj hk h => ?_,fun i l h=>by contradiction,fun i j l h=>by contradiction⟩
  ·have ht:getF (argsT 0 as) t=some (fl,d):=ht
   rw[argsT_get,if_pos (Nat.zero_le _),Nat.sub_zero,zB]at ht
   obtain⟨a,h1,h2⟩:=ht
   simp only[Prod.mk.injEq]at h2
   obtain⟨rfl,rfl⟩:=h2
   obtain⟨e,h3,h4⟩:=RAL_get ha h1
   refine⟨e,?_,?_⟩
   ·show get (params 0 (clL st.mem ds)) t=some e
    rw[get_params,if_pos (Nat.zero_le _),Nat.sub_zero];exact h3
   ·cases a with
    | v x=>
     have h4:e=x.toD:=h4
     subst h4
     exact toD_cl0 x
    | p j off=>exact absurd h4.1 (Nat.not_lt_zero _)
    | fn f' cap=>
     obtain⟨es,rfl,h5⟩:=h4
     exact⟨es,rfl,h5⟩
    | o _ _=>exact h4.elim
    | g=>exact h4.elim
    | u=>exact h4.elim
  ·exact absurd hk (Nat.not_lt_zero _)
  ·simp[enterP,parsR]at hk
  ·exact absurd hj (Nat.not_lt_zero _)
 have hw0:Wf (enterP as []):=by
  refine⟨fun t d ht => ?_,fun k rw' hk _ => ?_⟩
  ·have ht:getF (argsT 0 as) t=some (true,d):=ht
   rw[argsT_get,if_pos (Nat.zero_le _),zB]at ht
   obtain⟨a,_,h2⟩:=ht
   simp at h2
  ·simp[enterP,parsR]at hk
 obtain⟨x,p',h1,s,ρ1,τ1,h2,h3⟩:=pexec_ok hg hpc fn.body hS0 hw0 h
 obtain⟨hxx,t,d0,xs,hres,hp,hdd,rfl⟩:=finG_ok h1
 rw[getF_getP,zB]at hp
 obtain⟨⟨fl,d⟩,hp,hd⟩:=hp
 have hd:d = .s d0:=hd
 subst hd
 obtain⟨e,he,hre⟩:=h3.sim.tm t fl _ hp
 obtain⟨g,cs,rfl,hcs,hsz,hg2⟩ : ∃ g cs,e = .sl g xs.length cs∧cl0L cs=flatD xs∧szOk sz xs=true∧(g = .full ∨ ∃ id l,g = .ln l sz∧τ1 id=some l∧s.tip l=some xs.length):=by
  rcases hdd with⟨id,rfl⟩ | ⟨rfl,hz⟩
  ·obtain⟨g,cs,rfl,hcs,hsz,hid,hg2⟩:=hre
   exact⟨g,cs,rfl,hcs,hsz,hg2.imp (fun h=>h) (fun⟨l,h1,h2,h3⟩=>⟨_,l,h1,h2,h3⟩)⟩
  ·obtain⟨cs,rfl,hcs⟩:=hre
   exact⟨.full,cs,rfl,hcs,hz,.inl rfl⟩
 obtain⟨hcl,hrf⟩:=clL_flat hcs s.mem
 have hslo:s.lo=st.nx:=h3.lo
 have hlw : ¬ s.lw<s.lo:=by
  have:=h3.lw st.nx (zR _) (by show st.nx≤(frz st (refsL ds)).nx;rw[hnx];exact zR _) (fun k rw' hk _=>by simp[enterP,parsR]at hk) (fun i l h=>by contradiction)
  omega
 have hpure:pureL (clL s.mem cs)=true:=by rw[hcl];exact flatD_pure xs
 have hr:resOf s fn.res=some [.sl g xs.length cs]:=by rw[hres];simp only[resOf,he,zD]
 have hcall:callL E f ds st=some (.ret (leave ⟨np,fn.res,false,true,erase fn.body⟩ (frz st (refsL ds)) s (.sl g xs.length cs)).1,(leave ⟨np,fn.res,false,true,erase fn.body⟩ (frz st (refsL ds)) s (.sl g xs.length cs)).2):=by
  rw[callL_fn hx hf]
  simp only[h2]
  rcases hxx with rfl | rfl<;>simp only[exOf,hr,zC]<;>rfl
 refine⟨xs,flatD xs,rfl,flatD_cl0 xs,hsz,?_⟩
 rcases hg2 with rfl | ⟨id,l,rfl,hτ,htip⟩
 ·refine⟨.full,frz st (refsL ds),?_,.inl ⟨rfl,rfl⟩⟩
  rw[hcall]
  simp only[leave,if_true,hrf,frz]
  rw[if_pos ⟨hpure,hlw⟩,hcl]
 ·have hl:s.lo≤l:=by
   rcases h3.τn id l hτ with⟨j,hj⟩ | hj
   ·contradiction
   ·have hj:(frz st (refsL ds)).nx≤l:=hj
    omega
  have htip:s.tip l=some xs.length:=htip
  refine⟨_,_,?_,.inr ⟨rfl,rfl⟩⟩
  rw[hcall]
  simp only[leave,if_true,hrf,frz]
  rw[if_pos ⟨htip,hpure,hlw,hl⟩,hcl]
def lnOf:Tg→Option Nat
 | .ln l _=>some l
 | _=>none
theorem body_w{E:Env}{gl:Gl}{pc:PcT}(hg:GlR E gl)(hpc:PcOk E gl.md pc){f:Nat}{fn:PFn}{np:Nat}(hx:E.ext f=none)(hf:E.fn f=some ⟨np,fn.res,true,false,erase fn.body⟩){sz:Nat}{ys xs:List V}{q:V×List V}
  (h:pexecK gl pc fn.body (enterP (.o sz ys::xs.map PA.v) []) (finW fn.res)=some q) (st:St) (g:Tg) (cs es:List D) (hcs:cl0L cs=flatD ys) (hsz:szOk sz ys=true) (ht:TipOf sz ys.length st g) (hes:cl0L es=toDL xs) :
  ∃ d st',callL E f (.sl g ys.length cs::es) st=some (.ret d,st')∧d.cl0=q.1.toD∧RawGoes sz g st st':=by
 obtain⟨τ0,hτd⟩ : ∃ τ0:Nat→Option Nat,∀ i,τ0 i=if i=0 then lnOf g else none:=⟨_,fun _=>rfl⟩
 have hτ0 : ∀ i l,τ0 i=some l→i=0∧g = .ln l sz∧l<st.nx:=by
  intro i l h
  rw[hτd]at h
  split at h<;>try contradiction
  next hi=>
   rcases ht with rfl | ⟨l',rfl,h1,h2⟩
   ·simp[lnOf]at h
   ·simp only[lnOf,Option.some.injEq]at h;subst h;exact⟨hi,rfl,h1⟩
 have hS0:Sim (fun k=>k) τ0 (enterP (.o sz ys::xs.map PA.v) []) (enter ⟨np,fn.res,true,false,erase fn.body⟩ (.sl g ys.length cs::es) st):=by
  refine⟨fun t fl d htt => ?_,fun k hk => ?_,fun k rw' hk => ?_,fun j k hj hk h => ?_,fun i l h => ?_,fun i j l h k => ?_⟩
  ·have htt:getF (argsT 0 (.o sz ys::xs.map PA.v)) t=some (fl,d):=htt
   rw[argsT_get,if_pos (Nat.zero_le _),Nat.sub_zero,zB]at htt
   obtain⟨a,h1,h2⟩:=htt
   simp only[Prod.mk.injEq]at h2
   obtain⟨rfl,rfl⟩:=h2
   have hget:get (params 0 (.sl g ys.length cs::es)) t=(.sl g ys.length cs::es)[t]?:=by rw[get_params,if_pos (Nat.zero_le _),Nat.sub_zero]
   cases t with
   | zero=>
    simp at h1;subst h1
    refine⟨.sl g ys.length cs,hget,g,cs,rfl,hcs,hsz,Nat.lt_succ_self _,?_⟩
    rcases ht with h | ⟨l,h,h1,h2⟩
    ·exact .inl h
    ·exact .inr ⟨l,h,by show τ0 0=_;rw[hτd,if_pos rfl,h];rfl,h2⟩
   | succ t=>
    simp only[zN,List.getElem?_map,zB]at h1
    obtain⟨x,h1,rfl⟩:=h1
    have h3:(cl0L es)[t]?=some x.toD:=by rw[hes,toDL_get,h1];rfl
    rw[cl0L_get,zB]at h3
    obtain⟨e,h4,h5⟩:=h3
    exact⟨e,hget.trans (by simpa using h4),h5⟩
  ·exact absurd hk (Nat.not_lt_zero _)
  ·simp[enterP,parsR]at hk
  ·exact absurd hj (Nat.not_lt_zero _)
  ·obtain⟨h1,_,h2⟩:=hτ0 i l h
   exact⟨by subst h1;exact Nat.lt_succ_self _,h2⟩
  ·exact(hτ0 i l h).1.trans (hτ0 j l k).1.symm
 have hw0:Wf (enterP (.o sz ys::xs.map PA.v) []):=by
  refine⟨fun t d htt => ?_,fun k rw' hk _ => ?_⟩
  ·have htt:getF (argsT 0 (.o sz ys::xs.map PA.v)) t=some (true,d):=htt
   rw[argsT_get,if_pos (Nat.zero_le _),zB]at htt
   obtain⟨a,_,h2⟩:=htt
   simp at h2
  ·simp[enterP,parsR]at hk
 obtain⟨x,p',h1,s,ρ1,τ1,h2,h3⟩:=pexec_ok hg hpc fn.body hS0 hw0 h
 obtain⟨hxx,t,d,y,hres,hp,hy,rfl⟩:=finW_ok h1
 rw[getF_getP,zB]at hp
 obtain⟨⟨fl,d'⟩,hp,hd⟩:=hp
 have hd:d'=d:=hd
 subst hd
 obtain⟨e,he,hr⟩:=h3.sim.tm t fl _ hp
 have hr2:resOf s fn.res=some [e]:=by rw[hres];simp only[resOf,he,zD]
 refine⟨e,{ s with tm:=st.tm,lo:=st.lo,lw:=if s.lw<st.lw then s.lw else st.lw },?_,PD.pure_ok hr hy,rfl,rfl,h3.nx,fun b hb => ?_,fun l hl hne => ?_,fun m hm1 hm2 hm3 => ?_⟩
 ·rw[callL_fn hx hf]
  simp only[h2]
  rcases hxx with rfl | rfl<;>simp only[exOf,hr2,zC]<;>rfl
 ·exact h3.mem b hb (fun k rw' hk _=>by simp[enterP,parsR]at hk)
 ·exact h3.tip l hl (fun i h=>hne (hτ0 i l h).2.1)
 ·have:=h3.lw m hm2 hm2 (fun k rw' hk _=>by simp[enterP,parsR]at hk) (fun i l h=>hm3 l (hτ0 i l h).2.1)
  show m≤if s.lw<st.lw then s.lw else st.lw
  split<;>omega
theorem pcN_ok{E:Env}{gl:Gl}{tab:Nat→Option PFn}(hg:GlR E gl)(ht:TabOk E gl.md tab)(hx0:TxOk E gl tab)(n:Nat):PcOk E gl.md (pcN gl tab n):=by
 induction n with
 | zero=>exact⟨fun f as pars r h=>by simp[pcN]at h,fun f sz ds _ as q h=>by simp[pcN]at h,fun f sz ys xs q _ h=>by simp[pcN]at h,fun f as q _ h=>by simp[pcN]at h,fun f sz d ds _ _ as q h=>by simp[pcN]at h,hx0.2⟩
 | succ n ih=>
  have noG : ∀ {ρ:Nat→Nat} {n:Nat} {as:List PA} {st:St} {ds:List D},RAL ρ n (.g::as) (clL st.mem ds)→False:=by
   intro ρ n as st ds ha
   cases hd:clL st.mem ds with
   | nil=>rw[hd]at ha;exact ha.elim
   | cons _ _=>rw[hd]at ha;exact ha.1.elim
  have noU : ∀ {ρ:Nat→Nat} {n:Nat} {as:List PA} {st:St} {ds:List D},RAL ρ n (.u::as) (clL st.mem ds)→False:=by
   intro ρ n as st ds ha
   cases hd:clL st.mem ds with
   | nil=>rw[hd]at ha;exact ha.elim
   | cons _ _=>rw[hd]at ha;exact ha.1.elim
  have noO : ∀ {ρ:Nat→Nat} {n sz:Nat} {xs:List V} {as:List PA} {st:St} {ds:List D},RAL ρ n (.o sz xs::as) (clL st.mem ds)→False:=by
   intro ρ n sz xs as st ds ha
   cases hd:clL st.mem ds with
   | nil=>rw[hd]at ha;exact ha.elim
   | cons _ _=>rw[hd]at ha;exact ha.1.elim
  refine⟨fun f as pars r h ρ st ds ha hp hi => ?_,fun f sz ds hm as q h ρ st ha => ?_,fun f sz ys xs q hm h st g cs es hcs hsz htt hes => ?_,fun f as q hm h ρ st d ds hd ha => ?_,fun f sz d ds hm hd as q h ρ st ha => ?_,hx0.2⟩
  ·simp only[pcN]at h
   split at h
   case h_2 hfn=>
    split at h<;>try contradiction
    next g hgx=>
     obtain⟨k,hk,hgk⟩:=hx0.1 f g hfn hgx
     unfold tellK at h
     split at h
     ·next hm=>rw[hm]at hgk;exact ext_ok hk hgk h ρ st ds ha
     ·contradiction
     ·split at h<;>try contradiction
      exact(noG ha).elim
     ·split at h<;>try contradiction
      exact(noU ha).elim
     ·contradiction
     ·contradiction
   next fn hfn=>
    obtain⟨hx,np,hf⟩:=ht f fn hfn
    unfold bodyK at h
    split at h
    ·next hm=>
     rw[hm]at hf
     exact body_ok hg ih hx hf h ρ st ds ha hp hi
    ·split at h<;>try contradiction
     exact(noG ha).elim
    ·split at h<;>try contradiction
     exact(noO ha).elim
    ·contradiction
    ·contradiction
    ·contradiction
  ·simp only[pcN]at h
   split at h
   case h_2 hfn=>
    split at h<;>try contradiction
    simp only[hm,tellK]at h
    contradiction
   next fn hfn=>
    obtain⟨hx,np,hf⟩:=ht f fn hfn
    rw[hm]at hf
    simp only[hm,bodyK]at h
    exact body_g hg ih hx hf h ρ st ds ha
  ·simp only[pcN]at h
   split at h
   case h_2 hfn=>
    split at h<;>try contradiction
    simp only[hm,tellK]at h
    contradiction
   next fn hfn=>
    obtain⟨hx,np,hf⟩:=ht f fn hfn
    rw[hm]at hf
    simp only[hm,bodyK]at h
    split at h<;>try contradiction
    exact body_w hg ih hx hf h st g cs es hcs hsz htt hes
  ·simp only[pcN]at h
   split at h
   case h_2 hfn=>
    split at h<;>try contradiction
    next g hgx=>
     obtain⟨k,hk,hgk⟩:=hx0.1 f g hfn hgx
     simp only[hm,tellK]at h
     rw[hm]at hgk
     obtain⟨_,xs,y,h1,h2,rfl⟩:=extK_some h
     rw[callL_ext hk,valsA_ok ha h1,hgk d ds xs y hd h2]
     simp only[zC,told_toD]
   next fn hfn=>
    simp only[hm,bodyK]at h
    contradiction
  ·simp only[pcN]at h
   split at h
   case h_2 hfn=>
    split at h<;>try contradiction
    next g hgx=>
     obtain⟨k,hk,hgk⟩:=hx0.1 f g hfn hgx
     simp only[hm,tellK]at h
     rw[hm]at hgk
     rw[zA]at h
     obtain⟨q',hq',h⟩:=h
     obtain⟨_,xs,y,h1,h2,rfl⟩:=extK_some hq'
     split at h<;>try contradiction
     next hy=>
      have hy:y = .sl []:=hy
      subst hy
      injection h with h;subst h
      refine⟨[],[],rfl,rfl,rfl,.ln (frz st (refsL (d::ds))).nx sz,{ frz st (refsL (d::ds))with tip:=upd (frz st (refsL (d::ds))).tip (frz st (refsL (d::ds))).nx 0,nx:=(frz st (refsL (d::ds))).nx+1 },?_,.inr ⟨rfl,rfl⟩⟩
      rw[callL_ext hk,valsA_ok ha h1,hgk d ds xs hd h2];rfl
   next fn hfn=>
    simp only[hm,bodyK]at h
    contradiction
theorem pexecK_mono{gl:Gl}{pc pc':PcT}(h : ∀ f as pars r,pc f as pars=some r→pc' f as pars=some r){c:PC}{p:PSt}{K:PEx→PSt→Option ρ'}{r:ρ'}(hr:pexecK gl pc c p K=some r):pexecK gl pc' c p K=some r:=by
 rw[pexecK_nat,zA]at hr ⊢
 obtain⟨q,hq,hr⟩:=hr
 have hl:Lim (fun _=>pc') pc:=fun f as pars r hh => .all fun _=>h f as pars r hh
 obtain⟨n,hn⟩:=pexecD_lim hl c hq
 exact⟨q,hn n (zR n),hr⟩
theorem bodyK_mono{gl:Gl}{pc pc':PcT}(h : ∀ f as pars r,pc f as pars=some r→pc' f as pars=some r){fn:PFn}{md:Md}{as:List PA}{pars:List (Bool×Nat×V)}{r:V×List V}(hr:bodyK gl pc fn md as pars=some r):bodyK gl pc' fn md as pars=some r:=by
 unfold bodyK at hr ⊢
 split at hr
 ·exact pexecK_mono h hr
 ·split at hr<;>try contradiction
  split at hr<;>try contradiction
  exact pexecK_mono h hr
 ·split at hr<;>try contradiction
  split at hr<;>try contradiction
  split at hr<;>try contradiction
  next hz=>exact pexecK_mono h hr
 ·contradiction
 ·contradiction
 ·contradiction
theorem pcN_up{gl:Gl}{tab:Nat→Option PFn}(n:Nat) : ∀ f as pars r,pcN gl tab n f as pars=some r→pcN gl tab (n+1) f as pars=some r:=by
 induction n with
 | zero=>intro f as pars r h;simp[pcN]at h
 | succ n ih=>
  intro f as pars r h
  simp only[pcN]at h ⊢
  split at h
  ·exact bodyK_mono ih h
  ·exact h
theorem pcN_le{gl:Gl}{tab:Nat→Option PFn}{n m:Nat}(hnm:n≤m) : ∀ f as pars r,pcN gl tab n f as pars=some r→pcN gl tab m f as pars=some r:=by
 induction hnm with
 | refl=>intro f as pars r h;exact h
 | step _ ih=>intro f as pars r h;exact pcN_up _ f as pars r (ih f as pars r h)
theorem pcL_iff{gl:Gl}{tab:Nat→Option PFn}{f:Nat}{as:List PA}{pars:List (Bool×Nat×V)}{r:V×List V}:pcL gl tab f as pars=some r ↔ ∃ n,pcN gl tab n f as pars=some r:=by
 unfold pcL
 constructor
 ·intro h
  split at h
  ·next hx=>
   injection h with h
   exact⟨_,by rw[← h];exact hx.choose_spec.choose_spec⟩
  ·contradiction
 ·rintro⟨n,hn⟩
  have hx : ∃ n r,pcN gl tab n f as pars=some r:=⟨n,r,hn⟩
  rw[dif_pos hx]
  have h1:=pcN_le (Nat.le_max_left n hx.choose) f as pars _ hn
  have h2:=pcN_le (Nat.le_max_right n hx.choose) f as pars _ hx.choose_spec.choose_spec
  rw[h1]at h2;injection h2 with h2;rw[← h2]
theorem pcL_lim(gl:Gl)(tab:Nat→Option PFn):Lim (pcN gl tab) (pcL gl tab):=by
 intro f as pars r h
 obtain⟨n,hn⟩:=pcL_iff.1 h
 exact⟨n,fun m hm=>pcN_le hm f as pars r hn⟩
theorem bodyK_lim{gl:Gl}{pcs:Nat→PcT}{pc:PcT}(hl:Lim pcs pc){fn:PFn}{md:Md}{as:List PA}{pars:List (Bool×Nat×V)}{r:V×List V}(hr:bodyK gl pc fn md as pars=some r) : ∃ n,bodyK gl (pcs n) fn md as pars=some r:=by
 have key : ∀ {p:PSt} {K:PEx→PSt→Option (V×List V)},pexecK gl pc fn.body p K=some r → ∃ n,pexecK gl (pcs n) fn.body p K=some r:=by
  intro p K h
  rw[pexecK_nat,zA]at h
  obtain⟨q,hq,h⟩:=h
  obtain⟨n,hn⟩:=pexecD_lim hl fn.body hq
  exact⟨n,by rw[pexecK_nat,hn n (zR n)];exact h⟩
 unfold bodyK at hr
 split at hr
 ·obtain⟨n,hn⟩:=key hr;exact⟨n,hn⟩
 ·split at hr<;>try contradiction
  split at hr<;>try contradiction
  obtain⟨n,hn⟩:=key hr;exact⟨n,hn⟩
 ·split at hr<;>try contradiction
  split at hr<;>try contradiction
  split at hr<;>try contradiction
  next hz=>obtain⟨n,hn⟩:=key hr;exact⟨n,by simp only[bodyK,hz];exact hn⟩
 ·contradiction
 ·contradiction
 ·contradiction
/-- a call's equation -/
theorem pcL_eq{gl:Gl}{tab:Nat→Option PFn}{f:Nat}{fn:PFn}(hf:tab f=some fn)(as:List PA)(pars:List (Bool×Nat×V)):pcL gl tab f as pars=bodyK gl (pcL gl tab) fn (gl.md f) as pars:=by
 apply opt_ext
 intro r
 constructor
 ·intro h
  obtain⟨n,hn⟩:=pcL_iff.1 h
  cases n with
  | zero=>simp[pcN]at hn
  | succ n=>
   simp only[pcN,hf]at hn
   exact bodyK_mono (fun f as pars r h=>pcL_iff.2 ⟨n,h⟩) hn
 ·intro h
  obtain⟨n,hn⟩:=bodyK_lim (pcL_lim gl tab) h
  exact pcL_iff.2 ⟨n+1,by simp only[pcN,hf];exact hn⟩
theorem pcL_ok{E:Env}{gl:Gl}{tab:Nat→Option PFn}(hg:GlR E gl)(ht:TabOk E gl.md tab)(hx:TxOk E gl tab):PcOk E gl.md (pcL gl tab):=by
 refine⟨fun f as pars r h => ?_,fun f sz ds hm as q h => ?_,fun f sz ys xs q hm h => ?_,fun f as q hm h => ?_,fun f sz d ds hm hd as q h => ?_,hx.2⟩
 ·obtain⟨n,hn⟩:=pcL_iff.1 h
  exact(pcN_ok hg ht hx n).n f as pars r hn
 ·obtain⟨n,hn⟩:=pcL_iff.1 h
  exact(pcN_ok hg ht hx n).g f sz ds hm as q hn
 ·obtain⟨n,hn⟩:=pcL_iff.1 h
  exact(pcN_ok hg ht hx n).w f sz ys xs q hm hn
 ·obtain⟨n,hn⟩:=pcL_iff.1 h
  exact(pcN_ok hg ht hx n).f f as q hm hn
 ·obtain⟨n,hn⟩:=pcL_iff.1 h
  exact(pcN_ok hg ht hx n).h f sz d ds hm hd as q hn
end
end Go.Ev
end
section
namespace Go.Ev
def isAggT(P:Program)(t:TypeId):Bool:=match P.underlying t with
 | some (.struct _) | some (.array _ _)=>true
 | _=>false
def mkV(P:Program)(t:TypeId)(cs:List V):V:=match isAggT P t with
 | true => .agg cs
 | false=>cs.headD .nilp
def TyL(f:TypeId→List V→Prop):List TypeId→List V→Prop
 | [],cs=>cs=[]
 | t::r,cs => ∃ x y,f t x∧TyL f r y∧cs=x++y
/-- the cells of a value of a type -/
def Ty(P:Program):Nat→TypeId→List V→Prop
 | 0,_,_=>False
 | n+1,t,cs=>match P.underlying t with
  | some .bool => ∃ b,cs=[.bool b]
  | some (.int k) => ∃ z,(Lit.int k z).wf=true∧cs=[.int k z]
  | some (.float k) => ∃ b,(Lit.float k b).wf=true∧cs=[.float k b]
  | some .string => ∃ s:List UInt8,s.length≤maxLen∧cs=[.str s]
  | some (.slice e) => ∃ xs:List (List V),xs.length≤maxLen∧(∀ x∈xs,Ty P n e x)∧cs=[.sl (xs.map (mkV P e))]
  | some (.struct fs)=>TyL (Ty P n) (fs.toList.map (·.type)) cs
  | some (.array m e)=>TyL (Ty P n) (List.replicate m e) cs
  | _=>False
def contig(P:Program)(tot:Nat):Nat→List Field→Bool
 | o,[]=>Nat.beq o tot
 | o,f::r=>Nat.beq f.offset o && contig P tot (o+P.cellsOf f.type) r
def closedT(P:Program)(ts:List TypeId):Bool:=ts.all fun t=>match P.underlying t with
 | some .bool | some (.int _) | some (.float _) | some .string=>Nat.beq (P.cellsOf t) 1
 | some (.slice e)=>Nat.beq (P.cellsOf t) 1 && ts.contains e && (isAggT P e || Nat.beq (P.cellsOf e) 1)
 | some (.struct fs)=>contig P (P.cellsOf t) 0 fs.toList && fs.toList.all fun f=>ts.contains f.type
 | some (.array m e)=>Nat.beq (P.cellsOf t) (m * P.cellsOf e) && ts.contains e
 | _=>false
theorem RepL.one{S:G}{d:D}{v:Value}(h:Rep S d v):RepL S [d] [v]:=by
 refine⟨rfl,fun j d' v' hd hv => ?_⟩
 cases j with
 | zero=>simp at hd hv;subst hd hv;exact h
 | succ j=>simp at hd
theorem allOneV_app{x y:List V}:allOneV (x++y)=(allOneV x && allOneV y):=by
 induction x with
 | nil=>rfl
 | cons a r ih=>simp[allOneV,ih,Bool.and_assoc]
theorem one_cells{x:V}(h:x.one=true):x.toD.cells=[x.toD]:=by
 cases x<;>first | rfl | (simp[V.one]at h)
theorem mkV_cells{P:Program}{e:TypeId}{xs:List V}(h1:allOneV xs=true)(h:isAggT P e=true∨xs.length=1):(mkV P e xs).toD.cells=toDL xs:=by
 unfold mkV
 cases ha:isAggT P e with
 | true=>simp[V.toD,D.cells]
 | false=>
  rw[ha]at h
  have h:=h.resolve_left (by simp)
  match xs,h with
  | [x],_=>
   simp[allOneV]at h1
   simp[toDL,one_cells h1]
theorem cells_spec{w:World}{a:Addr}{n:Nat}{cs:List Value}(h:w.cells? 0 a n=some cs):cs.length=n ∧ ∀ r,r<n→w.cell? (a.add r)=cs[r]?:=by
 unfold World.cells? at h
 rw[if_pos (Nat.zero_le _)]at h
 have hlen : ∀ (l:List Nat) (ys:List Value),l.mapM (fun i=>w.cell? (a.add i))=some ys→ys.length=l.length:=by
  intro l
  induction l with
  | nil=>intro ys hm;simp at hm;subst hm;rfl
  | cons x l ih=>
   intro ys hm
   simp only[List.mapM_cons,Option.bind_eq_bind,zA,Option.pure_def,Option.some.injEq]at hm
   obtain⟨y,hy,zs,hz,rfl⟩:=hm
   simp[ih zs hz]
 have hl:=hlen _ _ h
 simp at hl
 refine⟨hl,fun r hr => ?_⟩
 have key : ∀ (l:List Nat) (ys:List Value),l.mapM (fun i=>w.cell? (a.add i))=some ys → ∀ (j i:Nat),l[j]?=some i→w.cell? (a.add i)=ys[j]?:=by
  intro l
  induction l with
  | nil=>intro ys _ j i hj;simp at hj
  | cons x l ih=>
   intro ys hm j i hj
   simp only[List.mapM_cons,Option.bind_eq_bind,zA,Option.pure_def,Option.some.injEq]at hm
   obtain⟨y,hy,zs,hz,rfl⟩:=hm
   cases j with
   | zero=>simp at hj;subst hj;simpa using hy
   | succ j=>simp at hj;simpa using ih zs hz j i hj
 exact key _ _ h r r (by simp[hr])
theorem add_none(b off i:Nat):(⟨b,off,none⟩:Addr).add i=⟨b,off+i,none⟩:=by
 unfold Addr.add
 split
 ·next h=>subst h;rfl
 ·rfl
theorem flatD_app(x y:List V):flatD (x++y)=flatD x++flatD y:=by
 induction x with
 | nil=>rfl
 | cons a r ih=>simp[flatD,ih]
section
variable {H:Type} {enc:TypeId×Value→H} {P:Program} {W:World} {held:Bool} {spare:Nat→Bool} {ts:List TypeId}
def Opens(P:Program)(W:World)(n:Nat)(t:TypeId)(cs:List Value)(xs:List V):Prop:=
 Ty P n t xs∧RepL (G0 W) (toDL xs) cs∧cs.length=P.cellsOf t∧allOneV xs=true
theorem opens_fields{n:Nat}(ih : ∀ t cs (x:DataW H×List MemPlace),t∈ts→DataW.trod enc P W 0 spare held n t cs=some x → ∃ xs,Opens P W n t cs xs)(tot:Nat)(cs:List Value)(hcs:cs.length=tot) :
  ∀ (fs:List Field) (o:Nat),contig P tot o fs=true→(∀ f∈fs,f.type∈ts)→(∀ f∈fs,∃ x,DataW.trod enc P W 0 spare held n f.type ((cs.drop f.offset).take (P.cellsOf f.type))=some x) →
   ∃ xs,TyL (Ty P n) (fs.map (·.type)) xs∧RepL (G0 W) (toDL xs) (cs.drop o)∧allOneV xs=true:=by
 intro fs
 induction fs with
 | nil=>
  intro o hc _ _
  simp only[contig]at hc
  have hc:=zJ hc
  refine⟨[],rfl,?_,rfl⟩
  rw[List.drop_of_length_le (by omega)]
  exact RepL.nil _
 | cons f r ihf=>
  intro o hc ht hx
  simp only[contig,zG]at hc
  have ho:=zJ hc.1
  obtain⟨x,hx1⟩:=hx f (by simp)
  obtain⟨xs,h1,h2,h3,h4⟩:=ih _ _ _ (ht f (by simp)) hx1
  obtain⟨ys,k1,k2,k3⟩:=ihf _ hc.2 (fun g hg=>ht g (by simp[hg])) (fun g hg=>hx g (by simp[hg]))
  refine⟨xs++ys,⟨xs,ys,h1,k1,rfl⟩,?_,by rw[allOneV_app,h4,k3];rfl⟩
  rw[toDL_append]
  have e:cs.drop o=(cs.drop f.offset).take (P.cellsOf f.type)++cs.drop (o+P.cellsOf f.type):=by
   rw[ho,← List.drop_drop,List.take_append_drop]
  rw[e]
  exact h2.app k2
theorem opens_array{n:Nat}{e:TypeId}(he:e∈ts)(ih : ∀ t cs (x:DataW H×List MemPlace),t∈ts→DataW.trod enc P W 0 spare held n t cs=some x → ∃ xs,Opens P W n t cs xs)(cs:List Value) :
  ∀ (k o:Nat),cs.length=(o+k) * P.cellsOf e→(∀ i,o≤i→i<o+k → ∃ x,DataW.trod enc P W 0 spare held n e ((cs.drop (i * P.cellsOf e)).take (P.cellsOf e))=some x) →
   ∃ xs,TyL (Ty P n) (List.replicate k e) xs∧RepL (G0 W) (toDL xs) (cs.drop (o * P.cellsOf e))∧allOneV xs=true:=by
 intro k
 induction k with
 | zero=>
  intro o hc _
  refine⟨[],rfl,?_,rfl⟩
  rw[List.drop_of_length_le (by rw[hc];exact zR _)]
  exact RepL.nil _
 | succ k ihk=>
  intro o hc hx
  obtain⟨x,hx1⟩:=hx o (zR _) (by omega)
  obtain⟨xs,h1,h2,h3,h4⟩:=ih _ _ _ he hx1
  obtain⟨ys,k1,k2,k3⟩:=ihk (o+1) (by rw[hc];congr 1;omega) (fun i h1 h2=>hx i (by omega) (by omega))
  refine⟨xs++ys,⟨xs,ys,h1,k1,rfl⟩,?_,by rw[allOneV_app,h4,k3];rfl⟩
  rw[toDL_append]
  have e2:cs.drop (o * P.cellsOf e)=(cs.drop (o * P.cellsOf e)).take (P.cellsOf e)++cs.drop ((o+1) * P.cellsOf e):=by
   rw[Nat.succ_mul,← List.drop_drop,List.take_append_drop]
  rw[e2]
  exact h2.app k2
theorem trod_float{k:FloatKind}{n:Nat}{t:TypeId}{cs:List Value}{x:DataW H×List MemPlace}(ht:P.underlying t=some (.float k))(h:DataW.trod enc P W 0 spare held n t cs=some x) : ∃ b,cs=[.float k b]∧(Lit.float k b).wf=true:=by
 cases n with
 | zero=>simp[DataW.trod]at h
 | succ n=>
  unfold DataW.trod at h
  rw[ht]at h
  split at h<;>simp_all
theorem opens(hT:closedT P ts=true) : ∀ (n:Nat) (t:TypeId) (cs:List Value) (x:DataW H×List MemPlace),t∈ts→DataW.trod enc P W 0 spare held n t cs=some x → ∃ xs,Opens P W n t cs xs:=by
 intro n
 induction n with
 | zero=>intro t cs x _ h;simp[DataW.trod]at h
 | succ n ih=>
  intro t cs x ht h
  have hc:=List.all_eq_true.1 hT t ht
  unfold Opens Ty
  cases hu:P.underlying t with
  | none=>simp[hu]at hc
  | some u=>
   cases u<;>simp only[hu]at hc ⊢ <;> first | (exfalso;simp at hc;done) | skip
   case bool=>
    obtain⟨b,rfl,_⟩:=DataW.trod_bool hu h
    exact⟨[.bool b],⟨b,rfl⟩,RepL.one (.bool b),(zJ hc).symm,rfl⟩
   case int k=>
    obtain⟨z,rfl,_,hw⟩:=DataW.trod_int hu h
    exact⟨[.int k z],⟨z,hw,rfl⟩,RepL.one (.int k z),(zJ hc).symm,rfl⟩
   case float k=>
    obtain⟨z,rfl,hw⟩:=trod_float hu h
    exact⟨[.float k z],⟨z,hw,rfl⟩,RepL.one (.float k z),(zJ hc).symm,rfl⟩
   case string=>
    obtain⟨z,rfl,_,hw⟩:=DataW.trod_string hu h
    refine⟨[.str z.data.toList],⟨_,?_,rfl⟩,RepL.one ?_,(zJ hc).symm,rfl⟩
    ·simpa using hw
    ·exact Rep.str _
   case struct fs=>
    obtain⟨ys,m,hm,_,hcs,hl,hf⟩:=DataW.trod_struct hu h
    injection hm with hm;subst hm
    simp only[zG,List.all_eq_true]at hc
    obtain⟨xs,h1,h2,h3⟩:=opens_fields ih _ cs hcs fs.toList 0 hc.1 (fun f hf=>by simpa using hc.2 f hf) (fun f hf'=>by
     obtain⟨i,hi⟩:=List.mem_iff_getElem?.1 hf'
     have hi2:fs[i]?=some f:=by simpa using hi
     have hlt:i<fs.size:=(Array.getElem?_eq_some_iff.1 hi2).1
     rw[hf i f hi2,zL (by omega)]
     exact⟨_,rfl⟩)
    exact⟨xs,h1,by simpa using h2,hcs,h3⟩
   case array m e=>
    obtain⟨ys,m',hm,_,hcs,hl,hf⟩:=DataW.trod_array hu h
    injection hm with hm;subst hm
    simp only[zG]at hc
    have hsz:=zJ hc.1
    obtain⟨xs,h1,h2,h3⟩:=opens_array (e:=e) (by simpa using hc.2) ih cs m 0 (by rw[hcs,hsz,Nat.zero_add]) (fun i _ hi=>by
     rw[hf i (by omega),zL (by omega)]
     exact⟨_,rfl⟩)
    exact⟨xs,h1,by simpa using h2,hcs,h3⟩
   case slice e=>
    simp only[zG,Bool.or_eq_true]at hc
    have hsz:=zJ hc.1.1
    rcases DataW.trod_slice hu h with⟨rfl,_⟩ | ⟨a,len,cap,elems,rest,m,hm,rfl,_,_,hlc,hcap,hel,hE,_,_⟩
    ·exact⟨[.sl []],⟨[],by simp,by simp,rfl⟩,RepL.one (.sl .no 0 [] none 0 0 0 (fun _=>undef) (zR _) (.inl rfl) (fun j hj=>by simp at hj) (fun j d hj=>by simp at hj) (.inl rfl) trivial),hsz.symm,rfl⟩
    ·injection hm with hm;subst hm
     have each : ∀ i,∃ p:List Value×List V,i<len→W.cells? 0 (a.add (i * P.cellsOf e)) (P.cellsOf e)=some p.1∧Opens P W n e p.1 p.2:=by
      intro i
      by_cases hi:i<len
      ·have h1:=hE i hi
       rw[zL (by omega),zA]at h1
       obtain⟨cs,h2,h3⟩:=h1
       obtain⟨xs,h4⟩:=ih e cs _ (by simpa using hc.1.2) h3
       exact⟨(cs,xs),fun _=>⟨h2,h4⟩⟩
      ·exact⟨([],[]),fun h=>(hi h).elim⟩
     obtain⟨f,hf⟩:=Classical.axiomOfChoice each
     have hcell : ∀ i,i<len→((f i).2.length=1∨isAggT P e=true):=by
      intro i hi
      rcases hc.2 with h | h
      ·exact .inr h
      ·have h5:=(hf i hi).2.2.1.1
       have h6:=(hf i hi).2.2.2.1
       rw[toDL_len]at h5
       have:=zJ h
       exact .inl (by omega)
     have hall : ∀ m,m≤len→RepL (G0 W) (flatD ((List.range m).map fun i=>mkV P e (f i).2)) ((List.range m).flatMap fun i=>(f i).1)∧((List.range m).flatMap fun i=>(f i).1).length=m * P.cellsOf e:=by
      intro m
      induction m with
      | zero=>intro _;exact⟨RepL.nil _,by simp⟩
      | succ m ihm=>
       intro hm
       obtain⟨k1,k2⟩:=ihm (by omega)
       obtain⟨_,k3,k4,k5,k6⟩:=hf m (by omega)
       rw[List.range_succ,List.map_append,flatD_app,List.flatMap_append]
       refine⟨k1.app ?_,by rw[zZ,k2,Nat.succ_mul];simp[k5]⟩
       have:flatD ([m].map fun i=>mkV P e (f i).2)=toDL (f m).2:=by
        simp[flatD,mkV_cells k6 (hcell m (by omega)).symm]
       rw[this]
       simpa using k4
     obtain⟨hr,hlen⟩:=hall len (zR _)
     have hcl : ∀ m,m≤len → ∀ j,j<m * P.cellsOf e→W.cell? (a.add j)=((List.range m).flatMap fun i=>(f i).1)[j]?:=by
      intro m
      induction m with
      | zero=>intro _ j hj;simp at hj
      | succ m ihm=>
       intro hm j hj
       have k2:=(hall m (by omega)).2
       rw[List.range_succ,List.flatMap_append,List.getElem?_append,k2]
       rw[Nat.succ_mul]at hj
       split
       ·next h=>exact ihm (by omega) j h
       ·next h=>
        have k3:=(cells_spec (hf m (by omega)).1).2 (j - m * P.cellsOf e) (by omega)
        have e1:(a.add (m * P.cellsOf e)).add (j - m * P.cellsOf e)=a.add j:=by
         unfold Addr.add
         by_cases h0:m * P.cellsOf e=0
         ·rw[if_pos h0,h0,Nat.sub_zero]
         ·rw[if_neg h0]
          by_cases h1:j - m * P.cellsOf e=0
          ·rw[if_pos h1,if_neg (by omega)]
           have:j=m * P.cellsOf e:=by omega
           rw[this]
          ·rw[if_neg h1,if_neg (by omega)]
           simp only[Addr.mk.injEq,and_true,true_and]
           omega
        rw[e1]at k3
        rw[k3];simp
     have hspot:len * P.cellsOf e=0∨a=⟨a.block,a.off,none⟩:=by
      by_cases h0:len * P.cellsOf e=0
      ·exact .inl h0
      ·have k3:=hcl len (zR _) 0 (by omega)
       rw[zL (by omega)]at k3
       refine .inr ?_
       have k4:W.cell? a=some _:=k3
       unfold World.cell? at k4
       obtain⟨bl,of,sp⟩:=a
       split at k4
       ·split at k4
        ·simp at k4
        ·next h=>cases sp with
         | none=>rfl
         | some _=>simp at h
       ·simp at k4
     have hfl:(flatD ((List.range len).map fun i=>mkV P e (f i).2)).length=len * P.cellsOf e:=by rw[← hr.1,hlen]
     have hus : ∀ j,j<len * P.cellsOf e→W.cell? ⟨a.block,a.off+j,none⟩=some (((List.range len).flatMap fun i=>(f i).1).getD j undef):=by
      intro j hj
      have h1:=hspot.resolve_left (by omega)
      have h2:=hcl len (zR _) j hj
      rw[h1,add_none]at h2
      rw[h2,List.getD_eq_getElem?_getD,zL (by omega)]
      rfl
     refine⟨[.sl ((List.range len).map fun i=>mkV P e (f i).2)],⟨(List.range len).map fun i=>(f i).2,by simp;omega,?_,by simp[List.map_map,Function.comp_def]⟩,RepL.one ?_,hsz.symm,rfl⟩
     ·intro y hy
      obtain⟨i,hi,rfl⟩:=List.mem_map.1 hy
      exact(hf i (by simpa using hi)).2.1
     ·have e1:(V.sl ((List.range len).map fun i=>mkV P e (f i).2)).toD = .sl .no len (flatD ((List.range len).map fun i=>mkV P e (f i).2)):=by simp[V.toD]
      rw[e1]
      refine .sl .no len _ (some a) cap a.block a.off (fun j=>((List.range len).flatMap fun i=>(f i).1).getD j undef) hlc ?_ (fun j hj=>hus j (by omega)) (fun j d hd => ?_) ?_ trivial
      ·rcases hspot with h | h
       ·exact .inl (List.eq_nil_of_length_eq_zero (by omega))
       ·exact .inr (by rw[← h])
      ·have hj:j<len * P.cellsOf e:=by rw[← hfl];exact(List.getElem?_eq_some_iff.1 hd).1
       refine hr.2 j d _ hd ?_
       rw[List.getD_eq_getElem?_getD,zL (by omega)]
       rfl
      ·rw[hfl]
       rcases phi0 (W:=W) (b:=a.block) (off:=a.off) (n:=len * P.cellsOf e) (fun j hj=>⟨_,hus j hj⟩)with h | h
       ·exact .inl (List.eq_nil_of_length_eq_zero (by omega))
       ·exact .inr h
end
end Go.Ev
end
section
namespace Go.Ev
theorem RAL_v{ρ:Nat→Nat}{np:Nat}(xs:List V):RAL ρ np (xs.map .v) (toDL xs):=by
 induction xs with
 | nil=>trivial
 | cons x r ih=>exact⟨rfl,ih⟩
theorem law_pv{E:Env}{gl:Gl}{tab:Nat→Option PFn}(hg:GlR E gl)(ht:TabOk E gl.md tab)(hx:TxOk E gl tab){f:Nat}{xs:List V}{r:V}(h:pcL gl tab f (xs.map .v) []=some (r,[])) : ∃ st',callL E f (toDL xs) St0=some (.ret r.toD,st'):=by
 obtain⟨st',h1,_⟩:=(pcL_ok hg ht hx).n f _ _ _ h (fun _=>0) St0 (toDL xs) (by rw[(clL_toDL (toDL_cl0 xs) St0.mem).1];exact RAL_v xs) (fun j e he=>by simp at he) (fun i j hi=>by simp at hi)
 exact⟨st',h1⟩
/-- an argument -/
theorem Opens.arg{P:Program}{W:World}{n:Nat}{t:TypeId}{v:Value}{xs:List V}(h:Opens P W n t v.cells.toList xs)(hv:isAggT P t=true → ∃ a,v = .agg a)(hc:isAggT P t=true∨(P.cellsOf t=1 ∧ ∀ a,v ≠ .agg a)):Rep (G0 W) (mkV P t xs).toD v:=by
 obtain⟨_,hr,hl,h1⟩:=h
 unfold mkV
 cases ha:isAggT P t with
 | true=>
  obtain⟨a,rfl⟩:=hv ha
  simp only[V.toD]
  exact .agg _ _ (by simpa[Value.cells]using hr.1) (fun j d w hd hw=>hr.2 j d w hd (by simpa[Value.cells]using hw))
 | false=>
  rw[ha]at hc
  obtain⟨hc1,hna⟩:=hc.resolve_left (by simp)
  have hcs:v.cells.toList=[v]:=by cases v<;>first | rfl | exact(hna _ rfl).elim
  rw[hcs]at hr
  have hxl:=hr.1
  rw[toDL_len]at hxl
  match xs,hxl with
  | [x],_=>exact hr.2 0 _ _ rfl rfl
end Go.Ev
end
section
namespace Go.Ev
def litsL(P:Program)(f:TypeId→DataW Unit→Option (List Value)):List TypeId→List (DataW Unit)→Option (List Value)
 | [],[]=>some []
 | t::r,d::ds=>match f t d with
  | some x=>match litsL P f r ds with | some y=>some (x++y) | none=>none
  | none=>none
 | _,_=>none
def lits(P:Program):Nat→TypeId→DataW Unit→Option (List Value)
 | 0,_,_=>none
 | n+1,t,d=>match P.underlying t,d with
  | some .bool,.lit (.bool b)=>some [.bool b]
  | some (.int k),.lit (.int k' z)=>if k'=k then some [.int k z]else none
  | some (.struct fs),.agg ds=>if contig P (P.cellsOf t) 0 fs.toList=true then litsL P (lits P n) (fs.toList.map (·.type)) ds else none
  | some (.array m e),.agg ds=>if P.cellsOf t=m * P.cellsOf e then litsL P (lits P n) (List.replicate m e) ds else none
  | _,_=>none
theorem mapM_cons_some{α β:Type}{f:α→Option β}{a:α}{l:List α}{ys:List β}(h:(a::l).mapM f=some ys) : ∃ y r,f a=some y∧l.mapM f=some r∧ys=y::r:=by
 simp only[List.mapM_cons,Option.bind_eq_bind,zA,Option.pure_def,Option.some.injEq]at h
 obtain⟨y,hy,zs,hz,rfl⟩:=h
 exact⟨y,zs,hy,hz,rfl⟩
section
variable {P:Program} {w:World} {sp:Nat→Bool} {held:Bool}
theorem lits_fields{f:TypeId→DataW Unit→Option (List Value)}{tr:TypeId→List Value→Option (DataW Unit×List MemPlace)}(ih : ∀ t d vs,f t d=some vs → ∀ cs p,tr t cs=some (d,p)→cs=vs)(tot:Nat)(cs:List Value)(hcs:cs.length=tot) :
  ∀ (fs:List Field) (o:Nat) (xs:List (DataW Unit×List MemPlace)) (vs:List Value),contig P tot o fs=true→fs.mapM (fun f=>tr f.type ((cs.drop f.offset).take (P.cellsOf f.type)))=some xs→litsL P f (fs.map (·.type)) (xs.map (·.1))=some vs→cs.drop o=vs:=by
 intro fs
 induction fs with
 | nil=>
  intro o xs vs hc hm hl
  have hc:=zJ hc
  simp only[List.mapM_nil,Option.pure_def,Option.some.injEq]at hm
  subst hm
  simp only[List.map_nil,litsL,Option.some.injEq]at hl
  rw[← hl,zQ (by omega)]
 | cons g r ihr=>
  intro o xs vs hc hm hl
  simp only[contig,zG]at hc
  have ho:=zJ hc.1
  obtain⟨y,ys,hy,hys,rfl⟩:=mapM_cons_some hm
  simp only[List.map_cons,litsL]at hl
  cases h1:f g.type y.1 with
  | none=>rw[h1]at hl;contradiction
  | some v1=>
   rw[h1]at hl
   cases h2:litsL P f (r.map (·.type)) (ys.map (·.1))with
   | none=>rw[h2]at hl;contradiction
   | some v2=>
    rw[h2]at hl
    obtain rfl:=Option.some.inj hl
    have e1:=ih _ _ _ h1 _ _ hy
    have e2:=ihr _ _ _ hc.2 hys h2
    rw[ho]at e1
    rw[← e1,← e2,← List.drop_drop,List.take_append_drop]
theorem lits_array{f:TypeId→DataW Unit→Option (List Value)}{tr:TypeId→List Value→Option (DataW Unit×List MemPlace)}(ih : ∀ t d vs,f t d=some vs → ∀ cs p,tr t cs=some (d,p)→cs=vs)(e:TypeId)(c:Nat)(cs:List Value) :
  ∀ (m i:Nat) (xs:List (DataW Unit×List MemPlace)) (vs:List Value),cs.length=(i+m) * c→(List.range' i m).mapM (fun i=>tr e ((cs.drop (i * c)).take c))=some xs→litsL P f (List.replicate m e) (xs.map (·.1))=some vs→cs.drop (i * c)=vs:=by
 intro m
 induction m with
 | zero=>
  intro i xs vs hc hm hl
  simp only[List.range'_zero,List.mapM_nil,Option.pure_def,Option.some.injEq]at hm
  subst hm
  simp only[List.replicate_zero,List.map_nil,litsL,Option.some.injEq]at hl
  rw[← hl,zQ (by rw[hc];simp)]
 | succ m ihm=>
  intro i xs vs hc hm hl
  rw[List.range'_succ]at hm
  obtain⟨y,ys,hy,hys,rfl⟩:=mapM_cons_some hm
  rw[List.replicate_succ,List.map_cons]at hl
  simp only[litsL]at hl
  cases h1:f e y.1 with
  | none=>rw[h1]at hl;contradiction
  | some v1=>
   rw[h1]at hl
   cases h2:litsL P f (List.replicate m e) (ys.map (·.1))with
   | none=>rw[h2]at hl;contradiction
   | some v2=>
    rw[h2]at hl
    obtain rfl:=Option.some.inj hl
    have e1:=ih _ _ _ h1 _ _ hy
    have e2:=ihm (i+1) _ _ (by rw[hc];congr 1;omega) hys h2
    rw[← e1,← e2,Nat.add_mul,Nat.one_mul,← List.drop_drop,List.take_append_drop]
theorem trod_lits : ∀ (n:Nat) (t:TypeId) (d:DataW Unit) (vs:List Value),lits P n t d=some vs → ∀ (fuel:Nat) (cs:List Value) (p:List MemPlace),DataW.trod (fun _=>()) P w 0 sp held fuel t cs=some (d,p)→cs=vs:=by
 intro n
 induction n with
 | zero=>intro t d vs h;simp[lits]at h
 | succ n ih=>
  intro t d vs h fuel cs p ht
  cases fuel with
  | zero=>simp[DataW.trod]at ht
  | succ fuel=>
   have ih' : ∀ t d vs,lits P n t d=some vs → ∀ cs p,DataW.trod (fun _=>()) P w 0 sp held fuel t cs=some (d,p)→cs=vs:=fun t d vs h cs p hp=>ih t d vs h fuel cs p hp
   unfold lits at h
   unfold DataW.trod at ht
   cases hu:P.underlying t with
   | none=>rw[hu]at h;simp at h
   | some u=>
    rw[hu]at h ht
    cases u with
    | bool=>
     match d,h with
     | .lit (.bool b),h=>
      obtain rfl:=Option.some.inj h
      match cs,ht with
      | [.bool b'],ht=>simp at ht;rw[ht.1]
    | int k=>
     match d,h with
     | .lit (.int k' z),h=>
      simp only at h
      split at h
      ·next hk=>
       obtain rfl:=Option.some.inj h
       match cs,ht with
       | [.int k2 z2],ht=>
        simp only at ht
        split at ht
        ·next h2=>simp at ht;rw[h2.1,ht.1.2]
        ·contradiction
      ·contradiction
    | struct fs=>
     match d,h with
     | .agg ds,h=>
      simp only at h ht
      split at h
      ·next hc=>
       split at ht
       ·next hl=>
        rw[zB]at ht
        obtain⟨xs,hm,hx⟩:=ht
        simp only[Prod.mk.injEq,DataW.agg.injEq]at hx
        obtain⟨rfl,_⟩:=hx
        exact lits_fields ih' _ cs hl _ 0 xs vs hc hm h
       ·contradiction
      ·contradiction
    | array m e=>
     match d,h with
     | .agg ds,h=>
      simp only at h ht
      split at h
      ·next hc=>
       split at ht
       ·next hl=>
        rw[zB]at ht
        obtain⟨xs,hm,hx⟩:=ht
        simp only[Prod.mk.injEq,DataW.agg.injEq]at hx
        obtain⟨rfl,_⟩:=hx
        rw[List.range_eq_range']at hm
        have:=lits_array ih' e (P.cellsOf e) cs m 0 xs vs (by rw[hl,hc];simp) hm h
        simpa using this
       ·contradiction
      ·contradiction
    | _=>simp at h
end
def vOf:Value→V
 | .int k n => .int k n
 | .bool b => .bool b
 | _ => .nilp
def plainLit:Value→Bool
 | .int _ _=>true
 | .bool _=>true
 | _=>false
theorem rep_vOf(S:G){v:Value}(h:plainLit v=true):Rep S (vOf v).toD v:=by
 cases v<;>first | exact .int _ _ | exact .bool _ | contradiction
theorem vars_at{P:Program}{w:World} : ∀ {l:List (String×DataW Unit)} {ps:List MemPlace},DataW.LaidVars P w l ps → ∀ {name:String} {d:DataW Unit},(name,d)∈l → ∃ g t cs fuel p,P.globalNamed name=some g∧(P.globals[g]?).map (·.type)=some t∧w.var? P name=some cs∧DataW.trod (fun _=>()) P w 0 (fun _=>true) false fuel t cs.toList=some (d,p)
 | [],_,_,_,_,hm=>by simp at hm
 | (n,d)::r,ps,h,name,d',hm=>by
  obtain⟨g,t,cs,fuel,p,q,h1,h2,h3,h4,h5,_⟩:=h
  rcases List.mem_cons.1 hm with e | hm
  ·obtain⟨rfl,rfl⟩:=Prod.mk.inj e
   exact⟨g,t,cs,fuel,p,h1,h2,h3,h4⟩
  ·exact vars_at h5 hm
/-- a laid variable's cells, as the machine has them -/
theorem gl_laid{P:Program}{W:World}{laid:List (String×DataW Unit)}(h:laidMet P laid W){name:String}{d:DataW Unit}(hm:(name,d)∈laid){g:Nat}{t:TypeId}(hg:P.globalNamed name=some g)(ht:(P.globals[g]?).map (·.type)=some t){n:Nat}{vs:List Value}(hl:lits P n t d=some vs)(hp:vs.all plainLit=true){xs:List V}(hx:xs=vs.map vOf):Rep (G0 W) (.el (toDL xs)) (.pointer (some ⟨g,0,none⟩)):=by
 obtain⟨ps,hps,_⟩:=h
 obtain⟨g',t',cs,fuel,p,h1,h2,h3,h4⟩:=vars_at hps hm
 obtain rfl:g=g':=Option.some.inj (hg.symm.trans h1)
 obtain rfl:t=t':=Option.some.inj (ht.symm.trans h2)
 have hcs:=trod_lits n t d vs hl fuel cs.toList p h4
 have hblk : ∃ e f,W.heap[g]?=some (.cells cs e f):=by
  unfold World.var? at h3
  rw[hg]at h3
  simp only[zD]at h3
  split at h3
  ·next c e f hh=>obtain rfl:=Option.some.inj h3;exact⟨e,f,hh⟩
  ·contradiction
 obtain⟨e,f,hh⟩:=hblk
 have hsz:cs.size=vs.length:=by rw[← hcs];simp
 have hxl:(toDL xs).length=vs.length:=by rw[toDL_len,hx,List.length_map]
 refine .el (toDL xs) g 0 (fun j=>vs[j]?.getD (.bool false)) (fun j hj => ?_) (fun j d hd => ?_) (.inr ?_)
 ·rw[hxl]at hj
  have hv:vs[j]?=some vs[j]:=zL hj
  have hc:cs[0+j]?=some vs[j]:=by
   rw[Nat.zero_add,← Array.getElem?_toList,hcs,hv]
  show W.cell? ⟨g,0+j,none⟩=_
  simp only[World.cell?,hh,hv,Option.getD_some,hc]
  rfl
 ·rw[toDL_get,hx,List.getElem?_map]at hd
  cases hv:vs[j]? with
  | none=>rw[hv]at hd;contradiction
  | some v=>
   rw[hv]at hd
   obtain rfl:=Option.some.inj hd
   show Rep (G0 W) (vOf v).toD ((some v).getD (.bool false))
   exact rep_vOf _ (List.all_eq_true.1 hp v (List.mem_of_getElem? hv))
 ·show 0+(toDL xs).length≤(match W.heap[g]? with | some (.cells c _ _)=>c.size | _=>0)
  rw[hh,hxl];simp[hsz]
end Go.Ev
end
