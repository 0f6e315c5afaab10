/- Which number each function has in this seat. -/
set_option linter.all false
namespace Go.Ev
def f_law05_TreeSets : Nat := 6
def f_tree_Check : Nat := 9
def f_tree_Depth : Nat := 10
def f_tree_Weight : Nat := 11
def f_law05_awake : Nat := 12
def f_tree_Same : Nat := 15
def f_tree_Nodes : Nat := 16
def f_law00_Light : Nat := 17
def f_tree_Set : Nat := 18
def f_tree_Member : Nat := 19
def f_tree_Unset : Nat := 20
def f_tree_check : Nat := 31
def f_num_Same : Nat := 35
def f_slices_Equal_string : Nat := 36
def f_slices_EqualFunc_erratum_api_Tree : Nat := 37
def f_law00_light : Nat := 38
def f_tree_cut : Nat := 39
def f_slices_Index_string : Nat := 40
def f_slices_IndexFunc_string : Nat := 41
def f_tree_Set_1 : Nat := 42
def f_slices_Insert_string : Nat := 43
def f_slices_Insert_erratum_api_Tree : Nat := 44
def f_slices_Concat_string : Nat := 45
def f_slices_Concat_erratum_api_Tree : Nat := 46
def f_tree_own : Nat := 58
def f_num_of : Nat := 62
def f_slices_Equal_uint32 : Nat := 63
def f_slices_Grow_string : Nat := 68
def f_slices_Grow_erratum_api_Tree : Nat := 69
def f_num_Check : Nat := 80
def f_tree_text : Nat := 81
def f_tree_names : Nat := 82
def f_nat_Trim : Nat := 93
def f_utf_Valid : Nat := 94
def f_nat_Norm : Nat := 100
def f_nat_small : Nat := 101
def f_unicode_utf8_DecodeRuneInString : Nat := 102
def f_unicode_utf8_decodeRuneInStringSlow : Nat := 105
end Go.Ev
