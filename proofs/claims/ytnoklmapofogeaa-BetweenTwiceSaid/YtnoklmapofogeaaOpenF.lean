/-
  Formulas and texts that are handed in, seen as plain data.
-/
import Derived.Test.YtnoklmapofogeaaTy
import Derived.Test.YtnoklmapofogeaaPvRow
namespace Go.Proofs.Ytnoklmapofogeaa
open Go Go.Pv
set_option linter.unusedVariables false
set_option linter.unusedSimpArgs false

theorem int_of {row : List PV} (h : HasTy Try.prog 3 row) : ∃ n, row = [.int .i64 n] ∧ -9223372036854775808 ≤ n ∧ n ≤ 9223372036854775807 := by
  obtain ⟨n, rfl, hw⟩ := h.int' (und_int ty3 rfl)
  exact ⟨n, rfl, bounds_i64 hw⟩
theorem str_of {row : List PV} (h : HasTy Try.prog 9 row) : ∃ s, row = [.str s] := by
  obtain ⟨s, rfl, _⟩ := h.str' (und_string ty9 rfl)
  exact ⟨s, rfl⟩

theorem fm_aux {t : TypeId} {row : List PV} (h : HasTy Try.prog t row) : (t = 24 → ∃ f, row = frm f) ∧ (t = 22 → ∃ l : List Fm, row = [.list (l.map frm)]) := by
  have hs := fields_of ty24 rfl
  have hl := und_slice ty22 rfl
  obtain ⟨fs, hs, hf⟩ := hs
  induction h with
  | bool g => refine ⟨?_, ?_⟩ <;> rintro rfl <;> first | (rw [g] at hs; cases hs; done) | (rw [g] at hl; cases hl; done)
  | int g => refine ⟨?_, ?_⟩ <;> rintro rfl <;> first | (rw [g] at hs; cases hs; done) | (rw [g] at hl; cases hl; done)
  | str g => refine ⟨?_, ?_⟩ <;> rintro rfl <;> first | (rw [g] at hs; cases hs; done) | (rw [g] at hl; cases hl; done)
  | array g => refine ⟨?_, ?_⟩ <;> rintro rfl <;> first | (rw [g] at hs; cases hs; done) | (rw [g] at hl; cases hl; done)
  | slice g hr hb ih =>
    refine ⟨?_, ?_⟩
    · rintro rfl; rw [g] at hs; cases hs
    · rintro rfl; rw [g] at hl; cases hl
      obtain ⟨l, rfl⟩ := list_of frm _ fun row hrow => (ih row hrow).1 rfl
      exact ⟨l, rfl⟩
  | struct g hlen hp ih =>
    refine ⟨?_, ?_⟩
    · rintro rfl; rw [g] at hs; cases hs
      have h3 : fs.toList.length = 3 := by simpa using congrArg List.length hf
      obtain ⟨a, b, c, hfs⟩ := three_of _ h3
      rw [hfs] at hf
      simp only [List.map_cons, List.map_nil, List.cons.injEq, and_true] at hf
      obtain ⟨ha, hb, hc⟩ := hf
      have hg : ∀ i, fs[i]? = [a, b, c][i]? := fun i => by rw [← hfs, Array.getElem?_toList]
      obtain ⟨r0, r1, r2, rfl⟩ := three_of _ (hlen.trans (by simpa using h3))
      obtain ⟨n, rfl, _⟩ := int_of (by have := hp 0 a r0 (by rw [hg]; rfl) rfl; rw [ha] at this; exact this)
      obtain ⟨s, rfl⟩ := str_of (by have := hp 1 b r1 (by rw [hg]; rfl) rfl; rw [hb] at this; exact this)
      obtain ⟨l, rfl⟩ := (ih 2 c r2 (by rw [hg]; rfl) rfl).2 hc
      exact ⟨.mk n s l, by rw [frm_eq]; rfl⟩
    · rintro rfl; rw [g] at hl; cases hl
theorem fm_of {row : List PV} (h : HasTy Try.prog 24 row) : ∃ f, row = frm f := (fm_aux h).1 rfl

theorem bool_of {row : List PV} (h : HasTy Try.prog 4 row) : ∃ b, row = [.bool b] := by
  obtain ⟨b, rfl⟩ := h.bool' (und_bool ty4 rfl)
  exact ⟨b, rfl⟩
theorem strsB_of {row : List PV} (h : HasTy Try.prog 35 row) : ∃ l : List ByteArray, row = [.list (l.map strRow)] ∧ l.length * 16 ≤ 140737488351232 := by
  obtain ⟨rs, rfl, g2, hb⟩ := h.sliceB (und_slice ty35 rfl)
  rw [show Try.prog.bytesOf 9 = 16 by kernel_rfl] at hb
  obtain ⟨l, rfl⟩ := list_of strRow rs fun r hr => str_of (g2 r hr)
  exact ⟨l, rfl, by simpa [reachBytes] using hb⟩
end Go.Proofs.Ytnoklmapofogeaa
