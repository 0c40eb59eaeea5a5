/-
  Plain law: Decide as a whole; the laws of what is valid.
-/
import Derived.Test.YtliockncjdeloaaQPe
namespace Go.Proofs.Ytliockncjdeloaa
open Go Go.Pv
set_option linter.unusedVariables false
set_option linter.unusedSimpArgs false
set_option linter.unusedSectionVars false
set_option maxRecDepth 100000

theorem decided_valid {lg : Nat} {f : Fm} (hf : Td f) : decided lg f = true ↔ ValidF lg f := ⟨decided_sound hf, decided_complete hf⟩
theorem td_check {f : Fm} (h : (formulaCheck f).1 = 0) : Td f := ((formulaCheck_iff f).1 h).1
noncomputable def decE (lg : Int) (f : Fm) : Int × Int := if (formulaCheck f).1 ≠ 0 then formulaCheck f else if lg < 1 ∨ 8 < lg then (4, 0) else if 10 < (partsS [] (pre f)).length then (2, 0) else (0, 0)
noncomputable def decB (lg : Int) (f : Fm) : Bool := decide ((decE lg f).1 = 0) && decided lg.toNat f
noncomputable def decM (lg : Int) (f : Fm) : Mdl := if (decE lg f).1 = 0 then (match (lastW lg.toNat f).findIdx? noZero with | none => mdl0 | some i => (lastC lg.toNat f).mdl ((lastC lg.toNat f).reach ((lastW lg.toNat f).length + 1) 0 [((lastW lg.toNat f)[i]?).getD 0])) else mdl0
theorem Decide_modlog (lg : Int) (f : Fm) : CallOK Try.prog 10 [.int .i64 lg, .agg (frm f)] [] (decT (decB lg f) (decM lg f) (decE lg f)) [] := by
  unfold decB decM decE
  by_cases h : (formulaCheck f).1 = 0
  · have hf := td_check h
    rw [if_neg (by simp [h])]
    by_cases hl : lg < 1 ∨ 8 < lg
    · rw [if_pos hl]
      exact Decide_kind lg f h hl
    · rw [if_neg hl]
      obtain ⟨n, rfl⟩ : ∃ n : Nat, lg = n := ⟨lg.toNat, by omega⟩
      by_cases hm : 10 < (partsS [] (pre f)).length
      · rw [if_pos hm]
        exact Decide_many n f h (by omega) (by omega) hm
      · rw [if_neg hm]
        have P := parts_all hf
        have F := oneT_frame n
        have hd := Decide_ok n f h (by omega) (by omega) (by omega) P.kid (fun ws => ∀ v, v < 1 → typ (partsS [] (pre f)) 1 (oneT n) (fun _ _ => false) v ∈ ws)
          (fun v hv => typ_first P F hv) (fun ws hI => typ_stays P F hI) (fun ws hI => List.length_pos_of_mem (hI 0 (by decide)))
        rw [show ((n : Int)).toNat = n from rfl]
        have e : decided n f = ((lastW n f).findIdx? noZero).isNone := rfl
        rw [e]
        cases hfi : (lastW n f).findIdx? noZero with
        | none => rw [hfi] at hd; exact hd
        | some i => rw [hfi] at hd; exact hd
  · rw [if_pos h, if_neg h]
    have := Decide_fault lg f h
    simpa [h] using this
theorem decE_zero {lg : Int} {f : Fm} (h : (decE lg f).1 = 0) : Td f ∧ 1 ≤ lg ∧ lg ≤ 8 := by
  unfold decE at h
  split at h
  · rename_i g; exact absurd h g
  · rename_i g
    split at h
    · cases h
    · exact ⟨td_check (by simpa using g), by omega, by omega⟩
theorem decB_valid {lg : Int} {f : Fm} (h : (decE lg f).1 = 0) : decB lg f = true ↔ ValidF lg.toNat f := by
  unfold decB
  simp only [h, decide_true, Bool.true_and]
  exact decided_valid (decE_zero h).1
theorem partsS_len : ∀ (l : List Fm) (had : List ByteArray), (partsS had l).length ≤ l.length
  | [], had => Nat.le_refl _
  | x :: r, had => by
    rw [partsS]; split
    · have := partsS_len r had; simp; omega
    · have := partsS_len r (had ++ [said x 1]); simp; omega

def fP : Fm := .mk 1 ⟨#[112]⟩ []
def fLoeb : Fm := of2 7 (of1 8 (of2 7 (of1 8 fP) fP)) (of1 8 fP)
theorem loeb_ok : (formulaCheck fLoeb).1 = 0 ∧ (pre fLoeb).length ≤ 10 := by
  have hp : okN fP := by unfold okN fP; decide
  have h : (∀ x ∈ pre fLoeb, okN x) ∧ (pre fLoeb).length = 8 := by
    unfold fLoeb
    simp only [pre_of2, pre_of1]
    have e : pre fP = [fP] := by rw [pre_eq]; rfl
    rw [e]
    refine ⟨?_, rfl⟩
    simp only [List.forall_mem_cons, List.forall_mem_append, List.forall_mem_nil]
    simp [ok_of1, ok_of2, hp]
  exact ⟨(formulaCheck_iff _).2 ⟨h.1, by omega⟩, by omega⟩
theorem loeb_decE {lg : Int} (h : 1 ≤ lg) (h2 : lg ≤ 8) : decE lg fLoeb = (0, 0) := by
  unfold decE
  have := partsS_len (pre fLoeb) []
  have := loeb_ok.2
  rw [if_neg (by simp [loeb_ok.1]), if_neg (by omega), if_neg (by omega)]
theorem loeb_valid : ValidF 8 fLoeb := by
  intro n t hold F w hw
  show ev n t hold (.mk 7 _ [_, _]) w = true
  rw [ev_7]
  cases h1 : ev n t hold (of1 8 (of2 7 (of1 8 fP) fP)) w
  · rfl
  · simp only [Bool.not_true, Bool.false_or]
    refine ev_8.2 fun v hv hwv => ?_
    have h1 := ev_8.1 h1
    cases hp : ev n t hold fP v
    · obtain ⟨u, hu, g1, g2, g3⟩ := last_of (F.trans (by omega)) (F.irr rfl) (fun u => ev n t hold fP u = false) hw hv hwv hp
      have h2 := h1 u hu g1
      unfold of2 at h2
      rw [ev_7, g2] at h2
      have h3 : ev n t hold (of1 8 fP) u = true := ev_8.2 fun x hx hux => by simpa using g3 x hx hux
      rw [h3] at h2; cases h2
    · rfl
theorem loeb_not : ¬ ValidF 5 fLoeb := by
  intro h
  have h1 := h 1 (oneT 5) (fun _ _ => false) (oneT_frame 5) 0 (by decide)
  have hp : ev 1 (oneT 5) (fun _ _ => false) fP 0 = false := by unfold fP; rw [ev_1]
  have hb : ev 1 (oneT 5) (fun _ _ => false) (of1 8 fP) 0 = false := ev_8f.2 ⟨0, by decide, rfl, hp⟩
  have hbb : ev 1 (oneT 5) (fun _ _ => false) (of1 8 (of2 7 (of1 8 fP) fP)) 0 = true := ev_8.2 fun v hv _ => by
    obtain rfl : v = 0 := by omega
    unfold of2; rw [ev_7, hb]; rfl
  unfold fLoeb of2 at h1
  rw [ev_7] at h1
  unfold of2 at hbb
  rw [hbb, hb] at h1
  cases h1
theorem loeb8 : decB 8 fLoeb = true := (decB_valid (by rw [loeb_decE (by decide) (by decide)])).2 loeb_valid
theorem loeb5 : decB 5 fLoeb = false := by
  rw [← Bool.not_eq_true, decB_valid (by rw [loeb_decE (by decide) (by decide)])]
  exact loeb_not
end Go.Proofs.Ytliockncjdeloaa
