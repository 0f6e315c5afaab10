/- Which number each function has in this seat. -/
set_option linter.all false
namespace Go.Ev
def f_law03_IeeeEdges : Nat := 5
def f_law03_awake : Nat := 10
def f_ieee_Exact : Nat := 11
def f_ieee_To : Nat := 13
def f_ieee_Shortest : Nat := 16
def f_ieee_Kind : Nat := 19
def f_ref02_Make : Nat := 22
def f_law00_Limbs : Nat := 23
def f_ieee_of : Nat := 35
def f_ieee_form_cut : Nat := 36
def f_ieee_form_least : Nat := 37
def f_num_Make : Nat := 38
def f_nat_Mul : Nat := 39
def f_ieee_limbs : Nat := 40
def f_nat_Pow : Nat := 41
def f_num_Check : Nat := 47
def f_nat_Div : Nat := 48
def f_ieee_odd : Nat := 49
def f_nat_Bits : Nat := 50
def f_ieee_form_bias : Nat := 51
def f_ref01_Trim : Nat := 54
def f_nat_Trim : Nat := 59
def f_nat_Norm : Nat := 60
def f_ref01_Norm : Nat := 61
def f_nat_small : Nat := 63
def f_nat_up : Nat := 64
def f_nat_Cmp : Nat := 65
def f_nat_Sub : Nat := 66
def f_math_bits_Len32 : Nat := 67
def f_ref01_Small : Nat := 69
def f_cmp_Compare_uint64 : Nat := 72
def f_nat_at : Nat := 73
def f_cmp_isNaN_uint64 : Nat := 74
end Go.Ev
