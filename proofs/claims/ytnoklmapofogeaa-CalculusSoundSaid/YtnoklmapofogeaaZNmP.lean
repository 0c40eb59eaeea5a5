/-
  Lists of names, rising and each once: by sorting and compaction, and by insertion.
-/
import Derived.Test.YtnoklmapofogeaaZPvSort
import Derived.Sort.Walk0
namespace Go.Pv
open Go Go.Lib
set_option linter.unusedVariables false

/-! compaction of a sorted list -/
/-! by insertion -/
def insAt (l : List ByteArray) (x : ByteArray) : Nat := (l.takeWhile fun y => decide (toL y < toL x)).length
def inB (x : ByteArray) (l : List ByteArray) : Bool := l.any fun y => decide (x = y)
theorem inB_iff {x : ByteArray} {l : List ByteArray} : inB x l = true ↔ x ∈ l := by simp [inB]
def insR (l : List ByteArray) (x : ByteArray) : List ByteArray := if inB x l = true then l else l.take (insAt l x) ++ x :: l.drop (insAt l x)
theorem insAt_le (l : List ByteArray) (x : ByteArray) : insAt l x ≤ l.length := (List.takeWhile_sublist _).length_le
theorem insAt_lt : ∀ (l : List ByteArray) (x : ByteArray) (i : Nat), i < insAt l x → ∃ h : i < l.length, toL l[i] < toL x
  | [], x, i, h => by simp [insAt] at h
  | a :: r, x, i, h => by
    unfold insAt at h
    rw [List.takeWhile_cons] at h
    split at h
    · rename_i ha
      cases i with
      | zero => exact ⟨by simp, by simpa using ha⟩
      | succ i =>
        rw [List.length_cons] at h
        obtain ⟨h1, h2⟩ := insAt_lt r x i (by unfold insAt; omega)
        exact ⟨by simpa using h1, by simpa using h2⟩
    · simp at h
theorem insAt_at : ∀ (l : List ByteArray) (x : ByteArray) (h : insAt l x < l.length), ¬ toL l[insAt l x] < toL x
  | [], x, h => by simp at h
  | a :: r, x, h => by
    by_cases ha : toL a < toL x
    · have e : insAt (a :: r) x = insAt r x + 1 := by unfold insAt; rw [List.takeWhile_cons, if_pos (by simpa using ha)]; rfl
      simp only [e, List.getElem_cons_succ]
      exact insAt_at r x (by rw [e] at h; simpa using h)
    · have e : insAt (a :: r) x = 0 := by unfold insAt; rw [List.takeWhile_cons, if_neg (by simpa using ha)]; rfl
      simp only [e, List.getElem_cons_zero]
      exact ha
theorem insR_len (l : List ByteArray) (x : ByteArray) : (insR l x).length ≤ l.length + 1 := by
  unfold insR; split
  · omega
  · simp; omega
theorem ins_len : ∀ (ns l : List ByteArray), (ns.foldl insR l).length ≤ l.length + ns.length
  | [], l => by simp
  | n :: ns, l => by
    have h1 := ins_len ns (insR l n)
    have h2 := insR_len l n
    rw [List.foldl_cons, List.length_cons]; omega
end Go.Pv
