/- Which number each function has in this seat. -/
set_option linter.all false
namespace Go.Ev
def f_law11_MheadBack : Nat := 4
def f_law11_awake : Nat := 6
def f_mhead_Put : Nat := 7
def f_mhead_Get : Nat := 9
def f_law00_Place : Nat := 11
def f_mhead_sized : Nat := 12
def f_mhead_number : Nat := 13
def f_mhead_bytes : Nat := 14
def f_mhead_of : Nat := 18
end Go.Ev
