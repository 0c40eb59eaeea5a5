/-
  Values seen as data: small laws for stores that a call is handed.
-/
import Derived.Test.YtbmpmmbcfabeeaaPvQt
namespace Go.Pv
open Go
set_option linter.unusedVariables false
@[simp] theorem range_lit1 : List.range 1 = [0] := rfl
@[simp] theorem range_lit2 : List.range 2 = [0, 1] := rfl
@[simp] theorem range_lit3 : List.range 3 = [0, 1, 2] := rfl
@[simp] theorem range_lit4 : List.range 4 = [0, 1, 2, 3] := rfl
@[simp] theorem range_lit5 : List.range 5 = [0, 1, 2, 3, 4] := rfl
@[simp] theorem range_lit6 : List.range 6 = [0, 1, 2, 3, 4, 5] := rfl
@[simp] theorem range_lit7 : List.range 7 = [0, 1, 2, 3, 4, 5, 6] := rfl
@[simp] theorem range_lit8 : List.range 8 = [0, 1, 2, 3, 4, 5, 6, 7] := rfl
@[simp] theorem range_lit9 : List.range 9 = [0, 1, 2, 3, 4, 5, 6, 7, 8] := rfl
@[simp] theorem range_lit10 : List.range 10 = [0, 1, 2, 3, 4, 5, 6, 7, 8, 9] := rfl
@[simp] theorem range_lit11 : List.range 11 = [0, 1, 2, 3, 4, 5, 6, 7, 8, 9, 10] := rfl
@[simp] theorem range_lit12 : List.range 12 = [0, 1, 2, 3, 4, 5, 6, 7, 8, 9, 10, 11] := rfl
end Go.Pv
