/-
  Orders that are handed in, seen as plain data.
-/
import Derived.Test.YthnobaacfjihcaaTy
import Derived.Test.YthnobaacfjihcaaPvRow
import Derived.Test.YthnobaacfjihcaaQAt
namespace Go.Proofs.Ythnobaacfjihcaa
open Go Go.Pv
set_option linter.unusedVariables false
set_option linter.unusedSimpArgs false

theorem int_of {row : List PV} (h : HasTy Try.prog 3 row) : ∃ n, row = [.int .i64 n] ∧ -9223372036854775808 ≤ n ∧ n ≤ 9223372036854775807 := by
  obtain ⟨n, rfl, hw⟩ := h.int' (und_int ty3 rfl)
  exact ⟨n, rfl, bounds_i64 hw⟩
theorem ord_of {row : List PV} (h : HasTy Try.prog 24 row) : ∃ o : Ord, row = ord o ∧ o.ps.length * 16 ≤ 140737488351232 := by
  obtain ⟨parts, rfl, h1, h2⟩ := h.struct' ty24 rfl
  obtain ⟨r0, r1, rfl⟩ := two_of _ h1
  obtain ⟨n, rfl, _⟩ := int_of (h2 0 _ r0 rfl rfl)
  obtain ⟨rows, rfl, hr, hb⟩ := (h2 1 _ r1 rfl rfl).sliceB (und_slice ty22 rfl)
  rw [show Try.prog.bytesOf 29 = 16 by kernel_rfl] at hb
  obtain ⟨rel, rfl⟩ := list_of relRow rows fun row hrow => by
    obtain ⟨ps, rfl, g1, g2⟩ := (hr row hrow).array' (und_array ty29 rfl)
    obtain ⟨x, y, rfl⟩ := two_of _ g1
    obtain ⟨a, rfl, _⟩ := int_of (g2 x (by simp))
    obtain ⟨b, rfl, _⟩ := int_of (g2 y (by simp))
    exact ⟨(a, b), rfl⟩
  exact ⟨⟨n, rel⟩, rfl, by simpa [reachBytes] using hb⟩
end Go.Proofs.Ythnobaacfjihcaa
