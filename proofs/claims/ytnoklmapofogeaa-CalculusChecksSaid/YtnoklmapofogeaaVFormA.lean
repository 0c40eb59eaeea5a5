/-
  The functions of package formula that look at a formula, told without memory.
-/
import Derived.Test.YtnoklmapofogeaaVTy
import Derived.Laws.RangeString
namespace Go.Proofs.Ytnoklmapofogeaa
open Go Go.Pv
set_option linter.unusedVariables false
set_option linter.unusedSimpArgs false
set_option maxRecDepth 100000
set_option maxHeartbeats 4000000

theorem fault_formula (c a : Int) (s : Store) : CallOK Try.prog 138 [.int .i64 c, .int .i64 a] s (.agg [.int .i64 c, .int .i64 a]) s := by
  refine CallOK.frame ?_ ?_
  · refine callOK_of Try.func138 rfl rfl Try.ntmps138 (by simp) ?_
    rw [Try.results138]
    dsimp only [light, regL, dsts, lopsL, lop, nth]
    (have F_ := True.intro); repeat' (first | (with_reducible refine stp ?_) | (with_reducible refine hq _ _ ?_; clear hq q) | (with_reducible refine hk _ _ ?_; clear hk k) | (with_reducible refine EvL.regA (fun k hk => ?_)) | ((with_reducible apply WOps.call); (· fail)) | (with_reducible refine WOps.auto F_ (fun q hq => ?_)) | ((with_reducible refine EvL.condA ?_ ?_); all_goals (intro h <;> (try simp only [hna, hnb, hnc, ne_eq, reduceCtorEq, Int.reduceEq, gt_iff_lt, ge_iff_le] at h) <;> (try (exfalso; omega; done)))) | (with_reducible refine EvL.drawnA (fun k hk => ?_)) | (with_reducible refine EvL.mixA (fun k hk => ?_)) | (with_reducible refine EvL.mix2A (fun k hk => ?_)) | (with_reducible refine WMix.bothA F_ ?_ ?_) | (with_reducible refine WOps.takeA ?_) | (with_reducible refine WOps.passA ?_) | ((with_reducible refine WOps.splitA ?_ ?_); all_goals (intro h <;> simp only [h] <;> (try simp only [hna, hnb, hnc, ne_eq, reduceCtorEq, Int.reduceEq, gt_iff_lt, ge_iff_le] at h) <;> (try (exfalso; omega; done)))) | (with_reducible refine WMix.takeA ?_) | (with_reducible refine WMix.passA ?_) | (with_reducible refine WMix.consA F_ ?_) | (with_reducible refine WMix.makeA F_ ?_) | ((with_reducible refine And.intro ?_ ?_); (· omega)) | ((with_reducible refine And.intro (fun h => ?_) (fun h => ?_)) <;> (try simp only [Decidable.not_not] at h) <;> (try simp only [h])) | (with_reducible intro hl))
    (refine finA ?_; try exact trivial)
  · simp [flat_int, Flat.closed]

def kidsN (n : Int) : Int := if n = 1 ∨ n = 2 ∨ n = 3 then 0 else if n = 4 ∨ n = 8 ∨ n = 9 then 1 else if n = 5 ∨ n = 6 ∨ n = 7 then 2 else -1

theorem kids_formula (n : Int) (s : Store) : CallOK Try.prog 137 [.int .i64 n] s (.int .i64 (kidsN n)) s := by
  refine CallOK.frame ?_ ?_
  · refine callOK_of Try.func137 rfl rfl Try.ntmps137 (by simp) ?_
    rw [Try.results137]
    dsimp only [light, regL, dsts, lopsL, lop, nth]
    (have F_ := True.intro); repeat' (first | (with_reducible refine stp ?_) | (with_reducible refine hq _ _ ?_; clear hq q) | (with_reducible refine hk _ _ ?_; clear hk k) | (with_reducible refine EvL.regA (fun k hk => ?_)) | ((with_reducible apply WOps.call); (· fail)) | (with_reducible refine WOps.auto F_ (fun q hq => ?_)) | ((with_reducible refine EvL.condA ?_ ?_); all_goals (intro h <;> (try simp only [hna, hnb, hnc, ne_eq, reduceCtorEq, Int.reduceEq, gt_iff_lt, ge_iff_le] at h) <;> (try (exfalso; omega; done)))) | (with_reducible refine EvL.drawnA (fun k hk => ?_)) | (with_reducible refine EvL.mixA (fun k hk => ?_)) | (with_reducible refine EvL.mix2A (fun k hk => ?_)) | (with_reducible refine WMix.bothA F_ ?_ ?_) | (with_reducible refine WOps.takeA ?_) | (with_reducible refine WOps.passA ?_) | ((with_reducible refine WOps.splitA ?_ ?_); all_goals (intro h <;> simp only [h] <;> (try simp only [hna, hnb, hnc, ne_eq, reduceCtorEq, Int.reduceEq, gt_iff_lt, ge_iff_le] at h) <;> (try (exfalso; omega; done)))) | (with_reducible refine WMix.takeA ?_) | (with_reducible refine WMix.passA ?_) | (with_reducible refine WMix.consA F_ ?_) | (with_reducible refine WMix.makeA F_ ?_) | ((with_reducible refine And.intro ?_ ?_); (· omega)) | ((with_reducible refine And.intro (fun h => ?_) (fun h => ?_)) <;> (try simp only [Decidable.not_not] at h) <;> (try simp only [h])) | (with_reducible intro hl))
    all_goals
      refine ⟨trivial, ?_⟩
      simp only [WRes, Env.upd, reduceIte, Nat.reduceEqDiff]
      refine RetView.done 6 ?_
      simp only [deref, retV, PV.int.injEq, true_and]
      unfold kidsN
      omega
  · simp [flat_int, Flat.closed]

/-- a name: one to eight small letters -/
def letterB (b : UInt8) : Bool := decide (97 ≤ b.toNat ∧ b.toNat ≤ 122)
def isNameB (s : ByteArray) : Bool := decide (1 ≤ s.size ∧ s.size ≤ 8) && s.data.toList.all letterB

theorem decode_high (s : ByteArray) (i : Nat) (h : i < s.size) (hb : 128 ≤ s[i].toNat) : 128 ≤ (Utf8.decode s i).1 := by
  have hg : (s.get! (i + 0)).toNat = s[i].toNat := by
    rw [Nat.add_zero]
    show (s.data[i]!).toNat = _
    rw [getElem!_pos s.data i h]; rfl
  unfold Utf8.decode
  simp only [hg, Utf8.runeError]
  rw [if_neg (by omega)]
  split
  · split
    · assumption
    · decide
  · split
    · split
      · rename_i h1; simp only [Bool.and_eq_true, decide_eq_true_eq] at h1; omega
      · decide
    · split
      · split
        · rename_i h1; simp only [Bool.and_eq_true, decide_eq_true_eq] at h1; omega
        · decide
      · decide

theorem decode_letter (s : ByteArray) (i : Nat) (h : i < s.size) : (letterB s[i] = true → Utf8.decode s i = (s[i].toNat, 1)) ∧ (letterB s[i] = false → (Utf8.decode s i).1 < 97 ∨ 122 < (Utf8.decode s i).1) := by
  refine ⟨fun hl => ?_, fun hl => ?_⟩
  · simp only [letterB, decide_eq_true_eq] at hl
    exact decode_ascii s i h (by omega)
  · simp only [letterB, decide_eq_false_iff_not] at hl
    by_cases hb : s[i].toNat < 128
    · rw [decode_ascii s i h hb]; simp only; omega
    · have := decode_high s i h (by omega); omega

theorem all_letter (s : ByteArray) : s.data.toList.all letterB = true ↔ ∀ i (h : i < s.size), letterB s[i] = true := by
  rw [List.all_eq_true]
  constructor
  · intro h i hi; exact h _ (by simp [ByteArray.getElem_eq_getElem_data])
  · intro h b hb
    obtain ⟨i, hi, rfl⟩ := List.mem_iff_getElem.1 hb
    exact h i (by simpa using hi)

theorem letter_of_decode (t : ByteArray) (i : Nat) (hi : i < t.size) (h1 : 97 ≤ ((Utf8.decode t i).1 : Int)) (h2 : ((Utf8.decode t i).1 : Int) ≤ 122) : letterB t[i] = true := by
  cases hb : letterB t[i] with
  | true => rfl
  | false => have := (decode_letter t i hi).2 hb; omega
theorem no_name (t : ByteArray) (i : Nat) (hi : i < t.size) (h : ((Utf8.decode t i).1 : Int) < 97 ∨ 122 < ((Utf8.decode t i).1 : Int)) : isNameB t = false := by
  have h1 : letterB t[i] = false := by
    cases hb : letterB t[i] with
    | false => rfl
    | true =>
      have := (decode_letter t i hi).1 hb
      simp only [letterB, decide_eq_true_eq] at hb
      rw [this] at h; simp only at h; omega
  have h2 : ¬ t.data.toList.all letterB = true := by
    rw [all_letter]; intro h3; rw [h3 i hi] at h1; cases h1
  simp [isNameB, h2]

theorem isName_formula (t : ByteArray) (s : Store) : CallOK Try.prog 80 [.str t] s (.bool (isNameB t)) s := by
  refine CallOK.frame ?_ ?_
  · refine callOK_of Try.func80 rfl rfl Try.ntmps80 (by simp) ?_
    rw [Try.results80]
    dsimp only [light, regL, dsts, lopsL, lop, nth]
    (have F_ := True.intro); repeat' (first | (with_reducible refine stp ?_) | (with_reducible refine hq _ _ ?_; clear hq q) | (with_reducible refine hk _ _ ?_; clear hk k) | (with_reducible refine EvL.regA (fun k hk => ?_)) | ((with_reducible apply WOps.call); (· fail)) | (with_reducible refine WOps.auto F_ (fun q hq => ?_)) | ((with_reducible refine EvL.condA ?_ ?_); all_goals (intro h <;> (try simp only [hna, hnb, hnc, ne_eq, reduceCtorEq, Int.reduceEq, gt_iff_lt, ge_iff_le] at h) <;> (try (exfalso; omega; done)))) | (with_reducible refine EvL.drawnA (fun k hk => ?_)) | (with_reducible refine EvL.mixA (fun k hk => ?_)) | (with_reducible refine EvL.mix2A (fun k hk => ?_)) | (with_reducible refine WMix.bothA F_ ?_ ?_) | (with_reducible refine WOps.takeA ?_) | (with_reducible refine WOps.passA ?_) | ((with_reducible refine WOps.splitA ?_ ?_); all_goals (intro h <;> simp only [h] <;> (try simp only [hna, hnb, hnc, ne_eq, reduceCtorEq, Int.reduceEq, gt_iff_lt, ge_iff_le] at h) <;> (try (exfalso; omega; done)))) | (with_reducible refine WMix.takeA ?_) | (with_reducible refine WMix.passA ?_) | (with_reducible refine WMix.consA F_ ?_) | (with_reducible refine WMix.makeA F_ ?_) | ((with_reducible refine And.intro ?_ ?_); (· omega)) | ((with_reducible refine And.intro (fun h => ?_) (fun h => ?_)) <;> (try simp only [Decidable.not_not] at h) <;> (try simp only [h])) | (with_reducible intro hl))
    all_goals first | ((refine finA ?_; try exact trivial); simp [isNameB]; omega; done) | skip
    · refine EvL.loop (X := Nat) (fun i => [(0, .str t), (14, .ptr 0 0 0)]) (fun i => [.iter t i]) (fun i => i ≤ t.size ∧ ∀ j (h : j < t.size), j < i → letterB t[j] = true) (fun i => t.size - i) 0 ⟨by omega, fun j _ h => by omega⟩
        (View.of [0] _ (by simp) (by decide) (by (refine vw ?_; try exact trivial)) (by (refine vw ?_; try exact trivial))) (fun i hi => ?_)
      (have F_ := True.intro); repeat' (first | (with_reducible refine stp ?_) | (with_reducible refine hq _ _ ?_; clear hq q) | (with_reducible refine hk _ _ ?_; clear hk k) | (with_reducible refine EvL.regA (fun k hk => ?_)) | ((with_reducible apply WOps.call); (· fail)) | (with_reducible refine WOps.auto F_ (fun q hq => ?_)) | ((with_reducible refine EvL.condA ?_ ?_); all_goals (intro h <;> (try simp only [hna, hnb, hnc, ne_eq, reduceCtorEq, Int.reduceEq, gt_iff_lt, ge_iff_le] at h) <;> (try (exfalso; omega; done)))) | (with_reducible refine EvL.drawnA (fun k hk => ?_)) | (with_reducible refine EvL.mixA (fun k hk => ?_)) | (with_reducible refine EvL.mix2A (fun k hk => ?_)) | (with_reducible refine WMix.bothA F_ ?_ ?_) | (with_reducible refine WOps.takeA ?_) | (with_reducible refine WOps.passA ?_) | ((with_reducible refine WOps.splitA ?_ ?_); all_goals (intro h <;> simp only [h] <;> (try simp only [hna, hnb, hnc, ne_eq, reduceCtorEq, Int.reduceEq, gt_iff_lt, ge_iff_le] at h) <;> (try (exfalso; omega; done)))) | (with_reducible refine WMix.takeA ?_) | (with_reducible refine WMix.passA ?_) | (with_reducible refine WMix.consA F_ ?_) | (with_reducible refine WMix.makeA F_ ?_) | ((with_reducible refine And.intro ?_ ?_); (· omega)) | ((with_reducible refine And.intro (fun h => ?_) (fun h => ?_)) <;> (try simp only [Decidable.not_not] at h) <;> (try simp only [h])) | (with_reducible intro hl))
      all_goals first | ((refine finA ?_; try exact trivial); rw [no_name t i ‹_› (by omega)]; done) | skip
      · have h1 : letterB t[i] = true := letter_of_decode t i ‹_› (by omega) (by omega)
        have h2 := (decode_letter t i ‹_›).1 h1
        rw [h2]
        refine ⟨i + 1, ⟨by omega, fun j hj hji => ?_⟩, by omega, View.of [0] _ (by simp) (by decide) (by (refine vw ?_; try exact trivial)) (by (refine vw ?_; try exact trivial))⟩
        by_cases e : j = i
        · subst e; exact h1
        · exact hi.2 j hj (by omega)
      · (refine finA ?_; try exact trivial)
        have h2 : t.data.toList.all letterB = true := by
          rw [all_letter]; intro j hj; exact hi.2 j hj (by omega)
        simp [isNameB, h2]; omega
  · simp [flat_str, Flat.closed]

end Go.Proofs.Ytnoklmapofogeaa
