/- Texts: a byte at a place. -/
import Derived.Test.YtoikjfpefikmpaaDoorKPv
import Derived.Test.YtoikjfpefikmpaaDoorKSp
set_option linter.all false
namespace Go.Ev
theorem lns_s(s:Str):lnsV (.str s)=some s.length:=rfl
theorem ixs_nat(s:Str)(k:IntKind)(i:Nat)(b:UInt8)(h:s[i]?=some b):ixsV (.str s) (.int k (i:Int))=some (.int .u8 (b.toNat:Int)):=by
 have hi:i<s.length:=by
  rcases Nat.lt_or_ge i s.length with h' | h'
  ·exact h'
  ·rw[List.getElem?_eq_none h']at h;cases h
 unfold ixsV;simp[idx_nat k i s.length hi,h]
end Go.Ev
