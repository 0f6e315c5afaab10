/- Naturals: the document's example; arguments; sizes. -/
import Derived.Test.YtoikjfpefikmpaaDoorKSn2
import Derived.Test.YtoikjfpefikmpaaDoorKSq9
import Derived.Test.YtoikjfpefikmpaaDoorKSp
set_option linter.all false
open List renaming getElem?_cons_zero→zM,getElem?_cons_succ→zN,mem_cons_of_mem→zP
namespace Go.Ev
attribute [local irreducible] P0
theorem awake01:P0 f_law01_awake [] []=some (.bool true,[]):=by
 rw[eq_law01_awake];unfold F_law01_awake
 have h1:=ntrim_ok [1200] (by intro x hx;simp at hx;subst hx;unfold B32;omega) (by simp)
 have e1:(trim (nval [1200])).1=12∧(trim (nval [1200])).2=2:=by
  have:trim (nval [1200])=(12,2):=trim_unique (by simp[nval]) (by decide)
  rw[this];exact⟨rfl,rfl⟩
 rw[e1.1,e1.2,toL_step 12 (by decide),show 12 % B32=12 from rfl,show 12 / B32=0 from rfl,toL_zero]at h1
 have h1:P0 f_nat_Trim [.v (.sl [.int .u32 1200])] []=some (.tup [.sl [.int .u32 12],.int .i64 2],[]):=h1
 have h2:=ndigits_ok [0,1] (by intro x hx;simp at hx;unfold B32;omega) (by simp)
 have e2:digitsF (2 * ([0,1]:List Nat).length) (nval [0,1])=[52,50,57,52,57,54,55,50,57,54]:=by decide
 rw[e2]at h2
 have h2:P0 f_nat_Digits [.v (.sl [.int .u32 0,.int .u32 1])] []=some (.str [52,50,57,52,57,54,55,50,57,54],[]):=h2
 have e3:lenV (.sl [V.int .u32 12])=some 1:=rfl
 have e4:asSl 1 (.sl [V.int .u32 12])=some [V.int .u32 12]:=rfl
 have e5:idxV (.int .i64 0) [V.int .u32 12].length=some 0:=rfl
 have e6:((((1:Nat):Int)) == 1)=true:=rfl
 simp only[tick_eq,h1,some_bind,ext_tup,zM,zN,e3,e4,e5,e6,if_true,fld_int,h2,eql_s,beq_self_eq_true,eql_i,decide_true,asBool_b]
theorem ty_u32s{P:Program}{n:Nat}{t e:TypeId}{xs:List V}(hu:P.underlying t=some (.slice e))(he:P.underlying e=some (.int .u32))(h:Ty P n t xs) : ∃ l:List Nat,mkV P t xs = .sl (limbs l)∧U32 l:=by
 cases n with
 | zero=>exact h.elim
 | succ n=>
  unfold Ty at h
  rw[hu]at h
  obtain⟨ys,_,hy,rfl⟩:=h
  have : ∀ ys:List (List V),(∀ x∈ys,Ty P n e x) → ∃ l:List Nat,ys.map (mkV P e)=limbs l∧U32 l:=by
   intro ys
   induction ys with
   | nil=>intro _;exact⟨[],rfl,fun x hx=>by simp at hx⟩
   | cons y r ih=>
    intro hy
    obtain⟨l,hl,hu⟩:=ih (fun x hx=>hy x (zP _ hx))
    obtain⟨z,hz,ez⟩:=ty_int he (hy y List.mem_cons_self)
    have hz:0≤z∧z≤4294967295:=by simpa[Lit.wf,IntKind.min,IntKind.max,IntKind.signed,IntKind.bits]using hz
    refine⟨z.toNat::l,?_,?_⟩
    ·rw[List.map_cons,ez,hl]
     show _::limbs l=V.int .u32 ((z.toNat:Nat):Int)::limbs l
     rw[show((z.toNat:Nat):Int)=z by omega]
    ·intro x hx
     rcases List.mem_cons.1 hx with rfl | hx
     ·unfold B32;omega
     ·exact hu x hx
  obtain⟨l,hl,hul⟩:=this ys hy
  refine⟨l,?_,hul⟩
  rw[hl];unfold mkV isAggT
  rw[hu];rfl
theorem ty_u32{P:Program}{n:Nat}{t:TypeId}{xs:List V}(hu:P.underlying t=some (.int .u32))(h:Ty P n t xs) : ∃ b:Nat,mkV P t xs = .int .u32 (b:Int)∧b<B32:=by
 obtain⟨z,hz,e⟩:=ty_int hu h
 have hz:0≤z∧z≤4294967295:=by simpa[Lit.wf,IntKind.min,IntKind.max,IntKind.signed,IntKind.bits]using hz
 exact⟨z.toNat,by rw[e];congr 1;omega,by unfold B32;omega⟩
theorem B32_pos:1≤B32:=by unfold B32;omega
theorem len_of'{n k m:Nat}(h:n<B32 ^ k)(hk:k≤m):(toL n).length≤m:=Nat.le_trans (toL_len h) hk
theorem add_lt{a b j k:Nat}(ha:a<B32 ^ j)(hb:b<B32 ^ k):a+b<B32 ^ (j+k+1):=by
 have h1:B32 ^ j≤B32 ^ (j+k):=Nat.pow_le_pow_right B32_pos (by omega)
 have h2:B32 ^ k≤B32 ^ (j+k):=Nat.pow_le_pow_right B32_pos (by omega)
 have h3:B32 ^ (j+k) * 2≤B32 ^ (j+k) * B32:=Nat.mul_le_mul_left _ two_B32
 rw[Nat.pow_succ]
 omega
theorem mul_lt{a b j k:Nat}(ha:a<B32 ^ j)(hb:b<B32 ^ k):a * b<B32 ^ (j+k):=by
 rw[Nat.pow_add]
 exact Nat.mul_lt_mul'' ha hb
theorem pow_lt{b:Nat}(hb:b<B32)(n:Nat):b ^ n<B32 ^ (n+1):=by
 refine Nat.lt_of_le_of_lt (Nat.pow_le_pow_left (Nat.le_of_lt hb) n) ?_
 exact Nat.pow_lt_pow_right (by unfold B32;omega) (by omega)
theorem cmpN_lt{x y:Nat}(h:x<y):cmpN x y = -1:=if_pos h
theorem u32_one{b:Nat}(h:b<B32):U32 [b]:=by intro x hx;simp at hx;subst hx;exact h
theorem nval_one(b:Nat):nval [b]=b:=by simp[nval]
theorem u32_of(n:Nat):U32 (toL n):=toL_u32 n
end Go.Ev
