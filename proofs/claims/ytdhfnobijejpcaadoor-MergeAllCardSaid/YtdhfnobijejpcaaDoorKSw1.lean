/- A law's arguments: texts and trees. -/
import Derived.Test.YtdhfnobijejpcaaDoorKSv9
import Derived.Test.YtdhfnobijejpcaaDoorKSp
set_option linter.all false
open List renaming mem_cons_of_mem→zP
namespace Go.Ev
attribute [local irreducible] P0
theorem maxLen_le:maxLen≤9223372036854775807:=by decide
theorem ty_str{P:Program}{n:Nat}{t:TypeId}{xs:List V}(hu:P.underlying t=some .string)(h:Ty P n t xs) : ∃ s:Str,xs=[.str s]∧mkV P t xs = .str s∧s.length≤9223372036854775807:=by
 cases n with
 | zero=>exact h.elim
 | succ n=>
  unfold Ty at h
  rw[hu]at h
  obtain⟨s,hs,rfl⟩:=h
  refine⟨s,rfl,?_,Nat.le_trans hs maxLen_le⟩
  unfold mkV isAggT
  rw[hu];rfl
theorem ty_limbs'{P:Program}{n:Nat}{e:TypeId}(hu:P.underlying e=some (.int .u32))(xs:List (List V))(h : ∀ x∈xs,Ty P n e x) : ∃ l:List Nat,U32 l∧xs.map (mkV P e)=limbs l∧l.length=xs.length:=by
 induction xs with
 | nil=>exact⟨[],fun x hx=>by simp at hx,rfl,rfl⟩
 | cons x r ih=>
  obtain⟨l,h1,h2,h3⟩:=ih (fun y hy=>h y (by simp[hy]))
  obtain⟨z,hz,ez⟩:=ty_int hu (h x (by simp))
  have hz:0≤z∧z≤4294967295:=by simpa[Lit.wf,IntKind.min,IntKind.max,IntKind.signed,IntKind.bits]using hz
  refine⟨z.toNat::l,?_,?_,by simp[h3]⟩
  ·intro y hy
   rcases List.mem_cons.1 hy with rfl | hy
   ·unfold B32;omega
   ·exact h1 y hy
  ·rw[List.map_cons,ez,h2]
   show _::limbs l=V.int .u32 ((z.toNat:Nat):Int)::limbs l
   rw[show((z.toNat:Nat):Int)=z by omega]
theorem ty_strs{P:Program}{n:Nat}{e:TypeId}(hu:P.underlying e=some .string)(xs:List (List V))(h : ∀ x∈xs,Ty P n e x) : ∃ l:List Str,xs.map (mkV P e)=strs l∧l.length=xs.length:=by
 induction xs with
 | nil=>exact⟨[],rfl,rfl⟩
 | cons x r ih=>
  obtain⟨l,h2,h3⟩:=ih (fun y hy=>h y (by simp[hy]))
  obtain⟨s,_,es,_⟩:=ty_str hu (h x (by simp))
  exact⟨s::l,by rw[List.map_cons,es,h2];rfl,by simp[h3]⟩
section
variable {P:Program} {tt ti tb tn ts tk tv tl te:TypeId} {fs fn:Array Field}
theorem ty_tree(hu:P.underlying tt=some (.struct fs))(hf:fs.toList.map (·.type)=[ti,tb,tn,ts,tk,tv])(hi:P.underlying ti=some (.int .i64))(hb:P.underlying tb=some .bool)(hn:P.underlying tn=some (.struct fn))(hnf:fn.toList.map (·.type)=[tb,tl,ti])(hl:P.underlying tl=some (.slice te))(he:P.underlying te=some (.int .u32))(hs:P.underlying ts=some .string)(hk:P.underlying tk=some (.slice ts))(hv:P.underlying tv=some (.slice tt)) :
  ∀ (n:Nat) (xs:List V),Ty P n tt xs → ∃ t:Tree,mkV P tt xs=t.val∧TameT t:=by
 intro n
 induction n using Nat.strongRecOn with
 | _ n ih=>
 intro xs h
 cases n with
 | zero=>exact h.elim
 | succ n=>
  unfold Ty at h
  rw[hu]at h
  simp only[hf,TyL]at h
  obtain⟨x1,y1,h1,⟨x2,y2,h2,⟨x3,y3,h3,⟨x4,y4,h4,⟨x5,y5,h5,⟨x6,y6,h6,rfl,rfl⟩,rfl⟩,rfl⟩,rfl⟩,rfl⟩,rfl⟩:=h
  have hm : ∀ cs,mkV P tt cs = .agg cs:=fun cs=>by unfold mkV isAggT;rw[hu]
  rw[hm]
  cases n with
  | zero=>exact h1.elim
  | succ n=>
   unfold Ty at h1 h2 h3 h4 h5 h6
   rw[hi]at h1;rw[hb]at h2;rw[hn]at h3;rw[hs]at h4;rw[hk]at h5;rw[hv]at h6
   obtain⟨z,_,rfl⟩:=h1
   obtain⟨b,rfl⟩:=h2
   simp only[hnf,TyL]at h3
   obtain⟨w1,v1,g1,⟨w2,v2,g2,⟨w3,v3,g3,rfl,rfl⟩,rfl⟩,rfl⟩:=h3
   obtain⟨s,_,rfl⟩:=h4
   obtain⟨ks,hkl,hks,rfl⟩:=h5
   obtain⟨vs,_,hvs,rfl⟩:=h6
   obtain⟨kl,k1,k2⟩:=ty_strs hs ks hks
   have hch : ∀ ys:List (List V),(∀ x∈ys,Ty P n tt x) → ∃ l:List Tree,ys.map (mkV P tt)=trs l ∧ ∀ t,t∈l→TameT t:=by
    intro ys
    induction ys with
    | nil=>intro _;exact⟨[],rfl,fun t ht=>by simp at ht⟩
    | cons y r ihr=>
     intro hy
     obtain⟨l,e1,e2⟩:=ihr (fun x hx=>hy x (zP _ hx))
     obtain⟨t,f1,f2⟩:=ih n (by omega) y (hy y List.mem_cons_self)
     refine⟨t::l,by rw[List.map_cons,f1,e1];rfl,fun q hq => ?_⟩
     rcases List.mem_cons.1 hq with rfl | hq
     ·exact f2
     ·exact e2 q hq
   obtain⟨tl',t1,t2⟩:=hch vs hvs
   cases n with
   | zero=>exact g1.elim
   | succ n=>
    unfold Ty at g1 g2 g3
    rw[hb]at g1;rw[hl]at g2;rw[hi]at g3
    obtain⟨ng,rfl⟩:=g1
    obtain⟨ms,hml,hms,rfl⟩:=g2
    obtain⟨ex,_,rfl⟩:=g3
    obtain⟨ml,m1,m2,m3⟩:=ty_limbs' he ms hms
    refine⟨.mk z b ⟨ng,ml,ex⟩ s kl tl',?_,.mk _ ⟨m1,by show ml.length≤_;rw[m3];exact Nat.le_trans hml maxLen_le,by show kl.length≤_;rw[k2];exact Nat.le_trans hkl maxLen_le⟩ t2⟩
    rw[Tree.val_eq,k1,t1,m2];rfl
end
end Go.Ev
