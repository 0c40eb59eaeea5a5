/-
  Plain laws: what is valid is true however names are; what is put for a name.
-/
import Derived.Test.YtbmpmmbcfabeeaaTrE
namespace Go.Proofs.Ytbmpmmbcfabeeaa
open Go Go.Pv
set_option linter.unusedVariables false
set_option linter.unusedSimpArgs false
set_option maxRecDepth 100000

theorem bits_have : ∀ (n : Nat) (P : Nat → Bool), ∃ k, k < 2 ^ n ∧ ∀ w, w < n → k.testBit w = P w := by
  intro n
  induction n with
  | zero => intro P; exact ⟨0, by simp, fun w h => by omega⟩
  | succ n ih =>
    intro P
    obtain ⟨k, hk, h⟩ := ih fun w => P (w + 1)
    have hb : (P 0).toNat ≤ 1 := by cases P 0 <;> simp
    refine ⟨2 * k + (P 0).toNat, ?_, fun w hw => ?_⟩
    · rw [Nat.pow_succ]; omega
    · cases w with
      | zero => rw [Nat.testBit_zero]; cases P 0 <;> simp <;> omega
      | succ w =>
        rw [Nat.testBit_succ, show (2 * k + (P 0).toNat) / 2 = k by omega]
        exact h w (by omega)
theorem tv_congr {h h' : ByteArray → Bool} (f : Fm) (hf : Pl f) (hh : ∀ x ∈ pre f, x.kind = 1 → h x.name = h' x.name) : tv h f = tv h' f := by
  induction f using Fm.ind with
  | h f ih =>
    have ih := fun g hg => ih g hg (hf.kid hg) fun x hx hk => hh x (by rw [pre_eq]; exact List.mem_cons_of_mem _ (pres_mem hx _ hg)) hk
    rcases hf.seven with ⟨nm, hn, rfl⟩ | rfl | rfl | ⟨a, ha, rfl⟩ | ⟨a, b, ha, hb, rfl⟩ | ⟨a, b, ha, hb, rfl⟩ | ⟨a, b, ha, hb, rfl⟩
    · rw [tv_1, tv_1]; exact hh _ (by rw [pre_eq]; exact List.mem_cons_self) rfl
    · rw [tv_2, tv_2]
    · rw [tv_3, tv_3]
    · rw [tv_4, tv_4, ih a (by simp)]
    · rw [tv_5, tv_5, ih a (by simp), ih b (by simp)]
    · rw [tv_6, tv_6, ih a (by simp), ih b (by simp)]
    · rw [tv_7, tv_7, ih a (by simp), ih b (by simp)]
theorem tv_with (nm : ByteArray) (g : Fm) (h : ByteArray → Bool) (f : Fm) (hf : Pl f) : tv h (withF nm g f) = tv (fun x => if x = nm then tv h g else h x) f := by
  induction f using Fm.ind with
  | h f ih =>
    have ih := fun g hg => ih g hg (hf.kid hg)
    rcases hf.seven with ⟨n, hn, rfl⟩ | rfl | rfl | ⟨a, ha, rfl⟩ | ⟨a, b, ha, hb, rfl⟩ | ⟨a, b, ha, hb, rfl⟩ | ⟨a, b, ha, hb, rfl⟩
    · rw [tv_1, withF_eq]
      by_cases e : n = nm
      · simp only [fm_kind, fm_name]; rw [if_pos ⟨trivial, e⟩, if_pos e]
      · simp only [fm_kind, fm_name]; rw [if_neg (fun h => e h.2), if_neg e]; exact tv_1
    · rw [withF_eq, if_neg (by simp)]; simp only [fm_kind, fm_name, fm_kids, List.map_nil]; rw [tv_2, tv_2]
    · rw [withF_eq, if_neg (by simp)]; simp only [fm_kind, fm_name, fm_kids, List.map_nil]; rw [tv_3, tv_3]
    · rw [withF_eq, if_neg (by simp)]; simp only [fm_kind, fm_name, fm_kids, List.map_cons, List.map_nil]; rw [tv_4, tv_4, ih a (by simp)]
    · rw [withF_eq, if_neg (by simp)]; simp only [fm_kind, fm_name, fm_kids, List.map_cons, List.map_nil]; rw [tv_5, tv_5, ih a (by simp), ih b (by simp)]
    · rw [withF_eq, if_neg (by simp)]; simp only [fm_kind, fm_name, fm_kids, List.map_cons, List.map_nil]; rw [tv_6, tv_6, ih a (by simp), ih b (by simp)]
    · rw [withF_eq, if_neg (by simp)]; simp only [fm_kind, fm_name, fm_kids, List.map_cons, List.map_nil]; rw [tv_7, tv_7, ih a (by simp), ih b (by simp)]
/-- each way for the names is a row -/
theorem tv_row {f : Fm} (h1 : (plainF f).1 = 0) (h : ByteArray → Bool) : ∃ k, k < 2 ^ (namesF f).length ∧ tv h f = tv (fun x => memB x (rowL (namesF f) k)) f := by
  obtain ⟨hpl, hlen⟩ := (plainF_iff f).1 h1
  obtain ⟨k, hk, hb⟩ := bits_have (namesF f).length fun w => h (((namesF f)[w]?).getD ⟨#[]⟩)
  refine ⟨k, hk, tv_congr f hpl fun x hx hkd => ?_⟩
  have hm := namesF_mem ((formulaCheck_iff f).2 ⟨hpl.1, hlen⟩) hx hkd
  obtain ⟨i, hi⟩ := List.getElem?_of_mem hm
  have hil := (List.getElem?_eq_some_iff.1 hi).1
  rw [Bool.eq_iff_iff, memB_iff, rowL_mem _ (namesF_nodup f) i k _ hi, hb i hil, hi]
  rfl
theorem valid_iff {f : Fm} (h : (fewV f).2.1 = 0) : (validV f).1 = true ↔ ∀ h, tv h f = true := by
  obtain ⟨_, h1, _⟩ := fewV_zero h
  unfold validV
  rw [if_neg (by simpa using h)]
  cases hf : fstF (rowsB (namesF f) f) with
  | none =>
    simp only [true_iff]
    intro g
    obtain ⟨k, hk, e⟩ := tv_row h1 g
    unfold fstF at hf
    rw [List.findIdx?_eq_none_iff] at hf
    have := hf (tv (fun x => memB x (rowL (namesF f) k)) f) (by unfold rowsB; exact List.mem_map.2 ⟨k, List.mem_range.2 hk, rfl⟩)
    rw [e]; simpa using this
  | some k =>
    simp only [Bool.false_eq_true, false_iff]
    intro g
    unfold fstF at hf
    obtain ⟨hk, h2, _⟩ := List.findIdx?_eq_some_iff_getElem.1 hf
    have e : (rowsB (namesF f) f)[k] = tv (fun x => memB x (rowL (namesF f) k)) f := by simp [rowsB]
    rw [e, g] at h2
    cases h2
end Go.Proofs.Ytbmpmmbcfabeeaa
