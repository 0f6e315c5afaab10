/- The functions' table stands for the loaded program's. -/
import Derived.Test.YtoikjfpefikmpaaDoorKTx
import Derived.Test.YtoikjfpefikmpaaDoorProg
import Derived.KernelRfl
set_option linter.all false
namespace Go.Ev
def kl(l:List (List Nat))(i:Nat):List Nat:=(l[i]?).getD []
def kd:List (Nat×List Nat×List Nat×List Nat)→Nat→List Nat×List Nat×List Nat
 | [],_=>([],[],[])
 | (j,x)::r,i=>if i=j then x else kd r i
theorem good_law01_NatAll:Good Go.Proofs.Tryd.prog (tiOf Go.Proofs.Tryd.prog) f_law01_NatAll n_law01_NatAll:=
 ⟨Go.Proofs.Tryd.f8,_,kl [[0,1,2,3,4],[0,1,2,3,4,42],[10],[0,1,2,3,4,11],[0,1,2,3,4,11,12,13],[0,1,2,3,4,11,12,13,14,15],[0,1,2,3,4,11,12,13,14,15,16,17],[0,1,2,3,4,11,12,13,14,15,16,17,18,19],[0,1,2,3,4,11,12,13,14,15,16,17,18,19,20,21],[0,1,2,3,4,11,12,13,14,15,16,17,18,19,20,21,22,23],[0,1,2,3,11,12,13,14,15,16,17,18,19,20,21,22,23,24,25],[0,1,2,3,11,12,13,131],[10],[0,1,11,12,13,144],[10],[10]],kd [],Go.Proofs.Tryd.func8,by kernel_rfl,rfl,by kernel_rfl,by kernel_rfl⟩
theorem good_law01_few:Good Go.Proofs.Tryd.prog (tiOf Go.Proofs.Tryd.prog) f_law01_few n_law01_few:=
 ⟨Go.Proofs.Tryd.f9,_,kl [[0,1],[4]],kd [],Go.Proofs.Tryd.func9,by kernel_rfl,rfl,by kernel_rfl,by kernel_rfl⟩
theorem good_law01_awake:Good Go.Proofs.Tryd.prog (tiOf Go.Proofs.Tryd.prog) f_law01_awake n_law01_awake:=
 ⟨Go.Proofs.Tryd.f10,_,kl [[],[1,2],[0]],kd [],Go.Proofs.Tryd.func10,by kernel_rfl,rfl,by kernel_rfl,by kernel_rfl⟩
theorem good_nat_Cmp:Good Go.Proofs.Tryd.prog (tiOf Go.Proofs.Tryd.prog) f_nat_Cmp n_nat_Cmp:=
 ⟨Go.Proofs.Tryd.f11,_,kl [[0,1],[0,1,5],[0,1,5,14],[0,1,5],[0,1,5,6],[0,1,5,6,25],[4],[4]],kd [],Go.Proofs.Tryd.func11,by kernel_rfl,rfl,by kernel_rfl,by kernel_rfl⟩
theorem good_law00_Limbs:Good Go.Proofs.Tryd.prog (tiOf Go.Proofs.Tryd.prog) f_law00_Limbs n_law00_Limbs:=
 ⟨Go.Proofs.Tryd.f12,_,kl [[0],[2]],kd [],Go.Proofs.Tryd.func12,by kernel_rfl,rfl,by kernel_rfl,by kernel_rfl⟩
theorem good_nat_Add:Good Go.Proofs.Tryd.prog (tiOf Go.Proofs.Tryd.prog) f_nat_Add n_nat_Add:=
 ⟨Go.Proofs.Tryd.f14,_,kl [[0,1],[0,1,5],[0,1,5,6],[0,1,5,6,13,14],[0,1,5,6,13,14,15],[0,1,5,6,7,13,14],[0,1,5,6,13,14],[0,1,5,6,13,14],[0,1,5,6,13,14],[0,1,5,6,13,14],[4]],kd [],Go.Proofs.Tryd.func14,by kernel_rfl,rfl,by kernel_rfl,by kernel_rfl⟩
theorem good_law00_SameLimbs:Good Go.Proofs.Tryd.prog (tiOf Go.Proofs.Tryd.prog) f_law00_SameLimbs n_law00_SameLimbs:=
 ⟨Go.Proofs.Tryd.f15,_,kl [[0,1],[0,1,10],[4],[0,1,5],[0,1,5,14],[0,1,5],[0,1,5,25],[4],[4]],kd [(6,([],[],[0,1,2,3,4,5,6,7]))],Go.Proofs.Tryd.func15,by kernel_rfl,rfl,by kernel_rfl,by kernel_rfl⟩
theorem good_nat_Norm:Good Go.Proofs.Tryd.prog (tiOf Go.Proofs.Tryd.prog) f_nat_Norm n_nat_Norm:=
 ⟨Go.Proofs.Tryd.f16,_,kl [[0],[0,3],[0,3,16],[0,3],[0,3,20],[2],[0,4],[4],[2]],kd [],Go.Proofs.Tryd.func16,by kernel_rfl,rfl,by kernel_rfl,by kernel_rfl⟩
theorem good_nat_Bits:Good Go.Proofs.Tryd.prog (tiOf Go.Proofs.Tryd.prog) f_nat_Bits n_nat_Bits:=
 ⟨Go.Proofs.Tryd.f17,_,kl [[0],[0,3],[0,3,15],[0,3],[0,3,19],[2],[2]],kd [],Go.Proofs.Tryd.func17,by kernel_rfl,rfl,by kernel_rfl,by kernel_rfl⟩
theorem good_nat_Digits:Good Go.Proofs.Tryd.prog (tiOf Go.Proofs.Tryd.prog) f_nat_Digits n_nat_Digits:=
 ⟨Go.Proofs.Tryd.f18,_,kl [[0],[0,3],[0,3],[0,3,15],[3,4,5],[0,3,5],[0,3,5,6],[0,3,5,6,22],[0,3,5,6,22,23],[0,3,5,6,7,22],[0,3,5,6,22],[0,3,5,6,22],[0,3,5,6,22],[0,3],[3,8],[3,8,41,42],[3,8,41,42,43],[3,8,9,41,42],[3,8,41,42],[3,8,41,42],[10],[10,58],[2],[2]],kd [],Go.Proofs.Tryd.func18,by kernel_rfl,rfl,by kernel_rfl,by kernel_rfl⟩
theorem good_nat_Sub:Good Go.Proofs.Tryd.prog (tiOf Go.Proofs.Tryd.prog) f_nat_Sub n_nat_Sub:=
 ⟨Go.Proofs.Tryd.f19,_,kl [[0,1],[0,1,12],[4],[0,1,5],[0,1,5,6],[0,1,5,6,17,18],[0,1,5,6,17,18,19],[0,1,5,6,7,17,18],[0,1,5,8,17,18],[0,1,5,8,17,18],[0,1,5,6,17,18],[0,1,5,6,17,18],[4]],kd [],Go.Proofs.Tryd.func19,by kernel_rfl,rfl,by kernel_rfl,by kernel_rfl⟩
theorem good_nat_Mul:Good Go.Proofs.Tryd.prog (tiOf Go.Proofs.Tryd.prog) f_nat_Mul n_nat_Mul:=
 ⟨Go.Proofs.Tryd.f20,_,kl [[0,1],[0,1,5],[1,5,17,18,19],[1,5,17,18,19,20],[1,5,6,7,17,18,19],[1,5,6,7,17,18,19,25],[1,5,6,7,8,17,18,19],[1,5,6,7,8,17,18,19,26,27,28],[1,5,6,7,8,17,18,19,26,27,28,29],[1,5,6,7,8,9,10,17,18,19,26,27,28],[1,5,6,7,8,9,17,18,19,26,27,28],[1,5,6,7,8,17,18,19,26,27,28],[1,5,6,7,8,17,18,19,26,27,28],[1,5,6,7,8,17,18,19,26,27,28],[1,5,17,18,19],[1,5,17,18,19],[4]],kd [],Go.Proofs.Tryd.func20,by kernel_rfl,rfl,by kernel_rfl,by kernel_rfl⟩
theorem good_nat_Pow:Good Go.Proofs.Tryd.prog (tiOf Go.Proofs.Tryd.prog) f_nat_Pow n_nat_Pow:=
 ⟨Go.Proofs.Tryd.f21,_,kl [[0,1],[0,1,5],[1,5,6],[1,5,6],[1,5,6,15],[1,5,6],[1,5,6,20],[1,5,6],[1,5,6],[4]],kd [],Go.Proofs.Tryd.func21,by kernel_rfl,rfl,by kernel_rfl,by kernel_rfl⟩
theorem good_nat_Parse:Good Go.Proofs.Tryd.prog (tiOf Go.Proofs.Tryd.prog) f_nat_Parse n_nat_Parse:=
 ⟨Go.Proofs.Tryd.f22,_,kl [[0],[0,12],[2,3],[0,4],[0,4,14,15],[0,4,14,15,16],[0,4,5,14,15],[0,4,5,14,15,27],[2,3],[0,4,14,15],[0,4,14,15],[2,3]],kd [(9,([],[],[0,1,2,3,4,5,6,7,8]))],Go.Proofs.Tryd.func22,by kernel_rfl,rfl,by kernel_rfl,by kernel_rfl⟩
theorem good_nat_Trim:Good Go.Proofs.Tryd.prog (tiOf Go.Proofs.Tryd.prog) f_nat_Trim n_nat_Trim:=
 ⟨Go.Proofs.Tryd.f23,_,kl [[0],[0],[0,4],[0,4,11],[0,4,5,6],[0,4,5,18],[0,4],[0,4],[2,3]],kd [],Go.Proofs.Tryd.func23,by kernel_rfl,rfl,by kernel_rfl,by kernel_rfl⟩
theorem good_nat_Div:Good Go.Proofs.Tryd.prog (tiOf Go.Proofs.Tryd.prog) f_nat_Div n_nat_Div:=
 ⟨Go.Proofs.Tryd.f24,_,kl [[0,1,5],[0,1,5],[0,1,5,13],[0,1,5,13,14],[4,5],[0,1,5,16],[6,7],[4,5],[0,1,5,8],[0,1,5,8,9],[0,1,5,8,9,37],[0,1,5,8,9],[0,1,5,8,9],[0,1,5,8,9,54],[0,1,5,8,9],[0,1,5,8,9],[4,5]],kd [(15,([],[],[0,1,2,3,4,5,6,7]))],Go.Proofs.Tryd.func24,by kernel_rfl,rfl,by kernel_rfl,by kernel_rfl⟩
theorem good_ref01_Div:Good Go.Proofs.Tryd.prog (tiOf Go.Proofs.Tryd.prog) f_ref01_Div n_ref01_Div:=
 ⟨Go.Proofs.Tryd.f25,_,kl [[0,1],[0,1,12],[4,5],[0,1,6],[0,1,6,7],[0,1,6,7,8],[0,1,6,7,8,20],[0,1,6,7,8],[0,1,6,7,8],[0,1,6,7,8,35],[0,1,6,7,8],[0,1,6,7,8,42],[0,1,6,7,8],[0,1,6,7,8],[4,5]],kd [],Go.Proofs.Tryd.func25,by kernel_rfl,rfl,by kernel_rfl,by kernel_rfl⟩
theorem good_ref01_Trim:Good Go.Proofs.Tryd.prog (tiOf Go.Proofs.Tryd.prog) f_ref01_Trim n_ref01_Trim:=
 ⟨Go.Proofs.Tryd.f26,_,kl [[0],[4],[4,5],[4,5,12],[4,5,6,7],[4,5,6,19],[4,5],[4,5],[2,3]],kd [],Go.Proofs.Tryd.func26,by kernel_rfl,rfl,by kernel_rfl,by kernel_rfl⟩
theorem good_ref01_Parse:Good Go.Proofs.Tryd.prog (tiOf Go.Proofs.Tryd.prog) f_ref01_Parse n_ref01_Parse:=
 ⟨Go.Proofs.Tryd.f27,_,kl [[0],[0,13],[2,3],[0,4],[0,4,5],[0,4,5,17],[0,4,5],[0,4,5,29],[2,3],[0,4,5],[2,3]],kd [(9,([],[],[0,1,2,3,4,5,6,7,8]))],Go.Proofs.Tryd.func27,by kernel_rfl,rfl,by kernel_rfl,by kernel_rfl⟩
theorem good_ref01_Cmp:Good Go.Proofs.Tryd.prog (tiOf Go.Proofs.Tryd.prog) f_ref01_Cmp n_ref01_Cmp:=
 ⟨Go.Proofs.Tryd.f28,_,kl [[0,1],[0,1,5],[0,1,5,13],[0,1,5],[0,1,5,22],[4],[0,1,5,29],[4],[4]],kd [],Go.Proofs.Tryd.func28,by kernel_rfl,rfl,by kernel_rfl,by kernel_rfl⟩
theorem good_ref01_Bits:Good Go.Proofs.Tryd.prog (tiOf Go.Proofs.Tryd.prog) f_ref01_Bits n_ref01_Bits:=
 ⟨Go.Proofs.Tryd.f29,_,kl [[0],[3],[3,4],[3,4,26],[3,4],[2]],kd [],Go.Proofs.Tryd.func29,by kernel_rfl,rfl,by kernel_rfl,by kernel_rfl⟩
theorem good_ref01_Pow:Good Go.Proofs.Tryd.prog (tiOf Go.Proofs.Tryd.prog) f_ref01_Pow n_ref01_Pow:=
 ⟨Go.Proofs.Tryd.f30,_,kl [[0,1],[0,1,5],[0,1,5,6],[0,1,5,6,11],[0,1,5,6],[0,1,5,6],[4]],kd [],Go.Proofs.Tryd.func30,by kernel_rfl,rfl,by kernel_rfl,by kernel_rfl⟩
theorem good_ref01_Norm:Good Go.Proofs.Tryd.prog (tiOf Go.Proofs.Tryd.prog) f_ref01_Norm n_ref01_Norm:=
 ⟨Go.Proofs.Tryd.f31,_,kl [[0],[0,3],[0,3,15],[0,3],[2]],kd [],Go.Proofs.Tryd.func31,by kernel_rfl,rfl,by kernel_rfl,by kernel_rfl⟩
theorem good_ref01_Add:Good Go.Proofs.Tryd.prog (tiOf Go.Proofs.Tryd.prog) f_ref01_Add n_ref01_Add:=
 ⟨Go.Proofs.Tryd.f32,_,kl [[0,1],[0,1,5],[0,1,5,6],[0,1,5,6,7],[0,1,5,6,7,14],[0,1,5,6,7],[0,1,5,6,7],[0,1,5,6,7],[0,1,5,6,7],[4]],kd [],Go.Proofs.Tryd.func32,by kernel_rfl,rfl,by kernel_rfl,by kernel_rfl⟩
theorem good_ref01_Sub:Good Go.Proofs.Tryd.prog (tiOf Go.Proofs.Tryd.prog) f_ref01_Sub n_ref01_Sub:=
 ⟨Go.Proofs.Tryd.f33,_,kl [[0,1],[0,1,12],[4],[0,1,5],[0,1,5,6],[0,1,5,6,7],[0,1,5,6,7,16],[0,1,5,6,7],[0,1,5,7,8],[0,1,5,7,8],[0,1,5,6,7],[4]],kd [],Go.Proofs.Tryd.func33,by kernel_rfl,rfl,by kernel_rfl,by kernel_rfl⟩
theorem good_ref01_Mul:Good Go.Proofs.Tryd.prog (tiOf Go.Proofs.Tryd.prog) f_ref01_Mul n_ref01_Mul:=
 ⟨Go.Proofs.Tryd.f34,_,kl [[0,1],[0,1,5],[0,1,5,6],[0,1,5,6,19],[0,1,5,6],[0,1,5,6,7],[0,1,5,6,7,8],[0,1,5,6,7,8,25],[0,1,5,6,7,8],[0,1,5,6,7,8],[0,1,5,6,7,8],[0,1,5,6,7,8],[4]],kd [(9,([],[],[0,1,2,3,4,5,6,7,8,9,10,11,12,13,14,15]))],Go.Proofs.Tryd.func34,by kernel_rfl,rfl,by kernel_rfl,by kernel_rfl⟩
theorem good_ref01_Digits:Good Go.Proofs.Tryd.prog (tiOf Go.Proofs.Tryd.prog) f_ref01_Digits n_ref01_Digits:=
 ⟨Go.Proofs.Tryd.f35,_,kl [[0],[0,3],[3,4],[3,4,11],[3,5,6],[3,5],[3,4],[3,25],[2],[2]],kd [],Go.Proofs.Tryd.func35,by kernel_rfl,rfl,by kernel_rfl,by kernel_rfl⟩
theorem good_cmp_Compare_uint64:Good Go.Proofs.Tryd.prog (tiOf Go.Proofs.Tryd.prog) f_cmp_Compare_uint64 n_cmp_Compare_uint64:=
 ⟨Go.Proofs.Tryd.f36,_,kl [[0,1],[0,1,5],[0,1,5,6],[0,1,6,11],[12],[4],[4],[0,1,13],[4],[0,1,16],[4],[19],[4],[4]],kd [],Go.Proofs.Tryd.func36,by kernel_rfl,rfl,by kernel_rfl,by kernel_rfl⟩
theorem good_nat_at:Good Go.Proofs.Tryd.prog (tiOf Go.Proofs.Tryd.prog) f_nat_at n_nat_at:=
 ⟨Go.Proofs.Tryd.f37,_,kl [[0,1],[0,1,8],[4],[4]],kd [],Go.Proofs.Tryd.func37,by kernel_rfl,rfl,by kernel_rfl,by kernel_rfl⟩
theorem good_math_bits_Len32:Good Go.Proofs.Tryd.prog (tiOf Go.Proofs.Tryd.prog) f_math_bits_Len32 n_math_bits_Len32:=
 ⟨Go.Proofs.Tryd.f38,_,kl [[0,2],[0,2,4],[0],[0,2],[0,2,8],[0,2],[0,2],[2]],kd [],Go.Proofs.Tryd.func38,by kernel_rfl,rfl,by kernel_rfl,by kernel_rfl⟩
theorem good_nat_small:Good Go.Proofs.Tryd.prog (tiOf Go.Proofs.Tryd.prog) f_nat_small n_nat_small:=
 ⟨Go.Proofs.Tryd.f39,_,kl [[0,1],[0,1,6],[0,1,6,7],[0,1,6,7,8],[0,1,6,7,8,16],[0,1,6,7,8],[0,1,6,7,8],[0,1,6,7,8],[0,1,6,7,8],[4,5]],kd [],Go.Proofs.Tryd.func39,by kernel_rfl,rfl,by kernel_rfl,by kernel_rfl⟩
theorem good_strings_TrimLeft:Good Go.Proofs.Tryd.prog (tiOf Go.Proofs.Tryd.prog) f_strings_TrimLeft n_strings_TrimLeft:=
 ⟨Go.Proofs.Tryd.f41,_,kl [[0,1],[0,1,12],[4],[0,1,21],[4],[0,1,5,6],[0,1,5,31],[4],[4]],kd [],Go.Proofs.Tryd.func41,by kernel_rfl,rfl,by kernel_rfl,by kernel_rfl⟩
theorem good_nat_up:Good Go.Proofs.Tryd.prog (tiOf Go.Proofs.Tryd.prog) f_nat_up n_nat_up:=
 ⟨Go.Proofs.Tryd.f43,_,kl [[0,1],[0,1,5],[1,5,14,15,16],[1,5,14,15,16,17],[1,5,6,7,14,15,16],[5,7,14,15,16],[1,5,14,15,16],[1,5,14,15,16],[4]],kd [],Go.Proofs.Tryd.func43,by kernel_rfl,rfl,by kernel_rfl,by kernel_rfl⟩
theorem good_ref01_Shift:Good Go.Proofs.Tryd.prog (tiOf Go.Proofs.Tryd.prog) f_ref01_Shift n_ref01_Shift:=
 ⟨Go.Proofs.Tryd.f44,_,kl [[0,1],[0,1,5],[0,1,5,6],[0,1,5,6,18],[0,1,5,6],[0,1,5,6,7],[0,1,5,6,7],[0,1,5,6],[4]],kd [],Go.Proofs.Tryd.func44,by kernel_rfl,rfl,by kernel_rfl,by kernel_rfl⟩
theorem good_ref01_Small:Good Go.Proofs.Tryd.prog (tiOf Go.Proofs.Tryd.prog) f_ref01_Small n_ref01_Small:=
 ⟨Go.Proofs.Tryd.f45,_,kl [[0,1],[0,1,6],[0,1,6,7],[0,1,6,7,8],[0,1,6,7,8,16],[0,1,6,7,8],[0,1,6,7,8],[0,1,6,7,8],[0,1,6,7,8],[4,5]],kd [],Go.Proofs.Tryd.func45,by kernel_rfl,rfl,by kernel_rfl,by kernel_rfl⟩
theorem good_ref01_limb:Good Go.Proofs.Tryd.prog (tiOf Go.Proofs.Tryd.prog) f_ref01_limb n_ref01_limb:=
 ⟨Go.Proofs.Tryd.f46,_,kl [[0,1],[0,1,8],[4],[4]],kd [],Go.Proofs.Tryd.func46,by kernel_rfl,rfl,by kernel_rfl,by kernel_rfl⟩
theorem good_cmp_isNaN_uint64:Good Go.Proofs.Tryd.prog (tiOf Go.Proofs.Tryd.prog) f_cmp_isNaN_uint64 n_cmp_isNaN_uint64:=
 ⟨Go.Proofs.Tryd.f47,_,kl [[0],[2]],kd [],Go.Proofs.Tryd.func47,by kernel_rfl,rfl,by kernel_rfl,by kernel_rfl⟩
theorem good_strings_trimLeftByte:Good Go.Proofs.Tryd.prog (tiOf Go.Proofs.Tryd.prog) f_strings_trimLeftByte n_strings_trimLeftByte:=
 ⟨Go.Proofs.Tryd.f49,_,kl [[0,1],[0,1,13],[0,1],[4]],kd [],Go.Proofs.Tryd.func49,by kernel_rfl,rfl,by kernel_rfl,by kernel_rfl⟩
theorem good_strings_makeASCIISet:Good Go.Proofs.Tryd.prog (tiOf Go.Proofs.Tryd.prog) f_strings_makeASCIISet n_strings_makeASCIISet:=
 ⟨Go.Proofs.Tryd.f50,_,kl [[0,2],[0,2,4],[0,2,4,9],[0,2,4],[0,2,4,5],[0,2,4,5,16],[2,3],[0,2,4],[2,3]],kd [],Go.Proofs.Tryd.func50,by kernel_rfl,rfl,by kernel_rfl,by kernel_rfl⟩
theorem good_strings_trimLeftASCII:Good Go.Proofs.Tryd.prog (tiOf Go.Proofs.Tryd.prog) f_strings_trimLeftASCII n_strings_trimLeftASCII:=
 ⟨Go.Proofs.Tryd.f51,_,kl [[0,1],[0,1,7],[0,1,12],[0,1],[4]],kd [],Go.Proofs.Tryd.func51,by kernel_rfl,rfl,by kernel_rfl,by kernel_rfl⟩
theorem good_strings_trimLeftUnicode:Good Go.Proofs.Tryd.prog (tiOf Go.Proofs.Tryd.prog) f_strings_trimLeftUnicode n_strings_trimLeftUnicode:=
 ⟨Go.Proofs.Tryd.f52,_,kl [[0,1],[0,1,9],[0,1,5,6],[0,1,6,18],[0,1],[4]],kd [],Go.Proofs.Tryd.func52,by kernel_rfl,rfl,by kernel_rfl,by kernel_rfl⟩
theorem good_strings_asciiSet_contains:Good Go.Proofs.Tryd.prog (tiOf Go.Proofs.Tryd.prog) f_strings_asciiSet_contains n_strings_asciiSet_contains:=
 ⟨Go.Proofs.Tryd.f54,_,kl [[0,1],[4]],kd [],Go.Proofs.Tryd.func54,by kernel_rfl,rfl,by kernel_rfl,by kernel_rfl⟩
theorem good_u8_DecodeRuneInString:Good Go.Proofs.Tryd.prog (tiOf Go.Proofs.Tryd.prog) f_u8_DecodeRuneInString n_u8_DecodeRuneInString:=
 ⟨Go.Proofs.Tryd.f55,_,kl [[0],[0,10],[2,3],[2,3]],kd [],Go.Proofs.Tryd.func55,by kernel_rfl,rfl,by kernel_rfl,by kernel_rfl⟩
theorem good_strings_ContainsRune:Good Go.Proofs.Tryd.prog (tiOf Go.Proofs.Tryd.prog) f_strings_ContainsRune n_strings_ContainsRune:=
 ⟨Go.Proofs.Tryd.f56,_,kl [[0,1],[4]],kd [],Go.Proofs.Tryd.func56,by kernel_rfl,rfl,by kernel_rfl,by kernel_rfl⟩
theorem good_u8_decodeRuneInStringSlow:Good Go.Proofs.Tryd.prog (tiOf Go.Proofs.Tryd.prog) f_u8_decodeRuneInStringSlow n_u8_decodeRuneInStringSlow:=
 ⟨Go.Proofs.Tryd.f57,_,kl [[0],[0,4],[0,4,16],[2,3],[0,4,5],[0,4,5,6],[0,4,5,6,23],[0,7],[2,3],[0,4,5,6,8],[0,4,5,8,9],[0,5,8,9,45],[2,3],[0,5,8,9,10],[0,5,8,10,57],[2,3],[0,5,8,10,59],[2,3],[0,5,8,10,11],[0,5,8,10,11,75],[2,3],[0,5,10,11,77],[2,3],[5,10,11,12],[5,10,11,12,98],[2,3],[2,3]],kd [],Go.Proofs.Tryd.func57,by kernel_rfl,rfl,by kernel_rfl,by kernel_rfl⟩
theorem envOk:EnvOk Go.Proofs.Tryd.prog (tiOf Go.Proofs.Tryd.prog) E0:=
 envOk_of (l:=fnTab) (.cons good_law01_NatAll <| .cons good_law01_few <| .cons good_law01_awake <| .cons good_nat_Cmp <| .cons good_law00_Limbs <| .cons good_nat_Add <| .cons good_law00_SameLimbs <| .cons good_nat_Norm <| .cons good_nat_Bits <| .cons good_nat_Digits <| .cons good_nat_Sub <| .cons good_nat_Mul <| .cons good_nat_Pow <| .cons good_nat_Parse <| .cons good_nat_Trim <| .cons good_nat_Div <| .cons good_ref01_Div <| .cons good_ref01_Trim <| .cons good_ref01_Parse <| .cons good_ref01_Cmp <| .cons good_ref01_Bits <| .cons good_ref01_Pow <| .cons good_ref01_Norm <| .cons good_ref01_Add <| .cons good_ref01_Sub <| .cons good_ref01_Mul <| .cons good_ref01_Digits <| .cons good_cmp_Compare_uint64 <| .cons good_nat_at <| .cons good_math_bits_Len32 <| .cons good_nat_small <| .cons good_strings_TrimLeft <| .cons good_nat_up <| .cons good_ref01_Shift <| .cons good_ref01_Small <| .cons good_ref01_limb <| .cons good_cmp_isNaN_uint64 <| .cons good_strings_trimLeftByte <| .cons good_strings_makeASCIISet <| .cons good_strings_trimLeftASCII <| .cons good_strings_trimLeftUnicode <| .cons good_strings_asciiSet_contains <| .cons good_u8_DecodeRuneInString <| .cons good_strings_ContainsRune <| .cons good_u8_decodeRuneInStringSlow <| .nil _ _) rfl effOk extOk
theorem txOk:TxOk E0 gl0 tab0:=by
 refine⟨fun f g h hg => ?_,fun f e h => ?_⟩
 ·cases hg
 ·have h:md0 f = .eff e:=h
  unfold md0 at h
  split at h<;>first | contradiction | skip
  ·injection h with h;subst h;rfl
  ·injection h with h;subst h;rfl
end Go.Ev
