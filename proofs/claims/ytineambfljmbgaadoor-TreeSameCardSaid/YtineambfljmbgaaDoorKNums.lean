/- Which number each function has in this seat. -/
set_option linter.all false
namespace Go.Ev
def f_law05_TreeSame : Nat := 5
def f_law00_Place : Nat := 8
def f_tree_Check : Nat := 9
def f_tree_Depth : Nat := 10
def f_tree_Weight : Nat := 11
def f_law05_awake : Nat := 12
def f_law00_Made : Nat := 13
def f_law00_Tree : Nat := 14
def f_tree_Same : Nat := 15
def f_tree_Nodes : Nat := 16
def f_tree_check : Nat := 31
def f_law00_made : Nat := 32
def f_law00_Num : Nat := 33
def f_law00_Strings : Nat := 34
def f_num_Same : Nat := 35
def f_slices_Equal_string : Nat := 36
def f_slices_EqualFunc_erratum_api_Tree : Nat := 37
def f_ref05_Member : Nat := 56
def f_ref05_Set : Nat := 57
def f_tree_own : Nat := 58
def f_law00_number : Nat := 59
def f_law00_Names : Nat := 60
def f_law00_Limbs : Nat := 61
def f_num_of : Nat := 62
def f_slices_Equal_uint32 : Nat := 63
def f_num_Check : Nat := 80
def f_tree_text : Nat := 81
def f_tree_names : Nat := 82
def f_ref02_Of : Nat := 83
def f_ref02_Make : Nat := 84
def f_nat_Trim : Nat := 93
def f_utf_Valid : Nat := 94
def f_ref01_Trim : Nat := 95
def f_ref01_Small : Nat := 98
def f_nat_Norm : Nat := 100
def f_nat_small : Nat := 101
def f_unicode_utf8_DecodeRuneInString : Nat := 102
def f_ref01_Norm : Nat := 103
def f_unicode_utf8_decodeRuneInStringSlow : Nat := 105
end Go.Ev
