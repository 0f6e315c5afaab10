/- Floats: the signs' law. -/
import Derived.Test.YtoikjfpefikmpaaDoorKSq8
import Derived.Test.YtoikjfpefikmpaaDoorKSr1
set_option linter.all false
namespace Go.Ev
attribute [local irreducible] P0
theorem goplace_ok(v n:Int)(hn:0<n∧n≤4611686018427387904)(_hv : -9223372036854775808≤v∧v≤9223372036854775807):P0 f_law00_Place [.v (.int .i64 v),.v (.int .i64 n)] []=some (.int .i64 (v % n),[]):=by
 rw[eq_law00_Place];unfold F_law00_Place
 have hn0:n≠0:=by omega
 have h1:=Int.emod_nonneg v hn0
 have h2:=Int.emod_lt_of_pos v hn.1
 by_cases h:v.tmod n<0
 ·have e:v % n=v.tmod n+n:=by
   rw[Int.emod_eq_tmod]
   rw[if_neg]
   ·omega
   ·rintro(h' | h')
    ·have:=Int.tmod_nonneg n h';omega
    ·have:=Int.tmod_eq_zero_of_dvd h';omega
  have w:=w64 (a:=v.tmod n+n) (by omega)
  apply yes;simp[rem_i _ _ _ hn0,h,w,e]
 ·have e:v % n=v.tmod n:=by
   rw[Int.emod_eq_tmod]
   split
   ·omega
   ·next h'=>
    exfalso
    have h3:v<0 ∧ ¬ n ∣ v:=by
     constructor
     ·rcases Int.lt_or_le v 0 with h4 | h4
      ·exact h4
      ·exact(h' (.inl h4)).elim
     ·exact fun h4=>h' (.inr h4)
    have h5:v.tmod n≤0:=by
     have:=Int.tmod_nonneg n (show 0 ≤ -v by omega)
     rw[Int.neg_tmod]at this;omega
    have h6:v.tmod n=0:=by omega
    exact h3.2 (Int.dvd_of_tmod_eq_zero h6)
  apply yes;simp[rem_i _ _ _ hn0,h,e]
end Go.Ev
