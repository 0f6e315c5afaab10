/- Which number each function has in this seat. -/
set_option linter.all false
namespace Go.Ev
def f_law16_MergeMembers : Nat := 4
def f_law16_awake : Nat := 6
def f_law00_Made : Nat := 7
def f_merge_Merge : Nat := 8
def f_ref05_Same : Nat := 9
def f_merge_Clean : Nat := 11
def f_law00_Names : Nat := 12
def f_law00_Place : Nat := 13
def f_ref05_Member : Nat := 14
def f_law00_made : Nat := 17
def f_tree_Unset : Nat := 18
def f_tree_Member : Nat := 19
def f_tree_Set : Nat := 20
def f_ref02_Same : Nat := 21
def f_slices_ContainsFunc_erratum_api_Tree : Nat := 23
def f_merge_Clean_1 : Nat := 24
def f_law00_number : Nat := 26
def f_ref05_Set : Nat := 27
def f_tree_cut : Nat := 28
def f_slices_Index_string : Nat := 29
def f_slices_Concat_string : Nat := 30
def f_slices_Concat_erratum_api_Tree : Nat := 31
def f_slices_IndexFunc_string : Nat := 32
def f_tree_Set_1 : Nat := 33
def f_slices_Insert_string : Nat := 34
def f_slices_Insert_erratum_api_Tree : Nat := 35
def f_ref02_Is : Nat := 36
def f_ref01_Cmp : Nat := 37
def f_slices_IndexFunc_erratum_api_Tree : Nat := 39
def f_ref02_Of : Nat := 42
def f_ref02_Make : Nat := 43
def f_slices_Grow_string : Nat := 44
def f_slices_Grow_erratum_api_Tree : Nat := 45
def f_ref02_Check : Nat := 50
def f_ref01_limb : Nat := 51
def f_ref01_Trim : Nat := 56
def f_ref01_Small : Nat := 59
def f_ref01_Norm : Nat := 61
end Go.Ev
