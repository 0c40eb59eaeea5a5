/-
  Plain laws: the rows of a list of names, as maps.
-/
import Derived.Test.YtbmpmmbcfabeeaaTrB
import Derived.Test.YtbmpmmbcfabeeaaQTb
import Derived.Test.YtbmpmmbcfabeeaaPvQv
namespace Go.Proofs.Ytbmpmmbcfabeeaa
open Go Go.Pv
set_option linter.unusedVariables false
set_option linter.unusedSimpArgs false
set_option maxRecDepth 100000

/-- a row of names: which are true -/
def bitsL : List ByteArray → Nat → List (ByteArray × Bool)
  | [], _ => []
  | x :: r, k => (x, decide (k % 2 = 1)) :: bitsL r (k / 2)
@[simp] theorem bitsL_length : ∀ (ns : List ByteArray) (k : Nat), (bitsL ns k).length = ns.length
  | [], _ => rfl
  | x :: r, k => by rw [bitsL, List.length_cons, bitsL_length, List.length_cons]
theorem bitsL_get : ∀ (ns : List ByteArray) (k i : Nat) (h : i < ns.length), (bitsL ns k)[i]'(by simpa using h) = (ns[i], k.testBit i)
  | x :: r, k, 0, h => by simp [bitsL, Nat.testBit_zero]
  | x :: r, k, i + 1, h => by
    have := bitsL_get r (k / 2) i (by simpa using h)
    simp only [bitsL, List.getElem_cons_succ]
    rw [this, Nat.testBit_succ]
theorem entsB_append (a b : List (ByteArray × Bool)) : entsB (a ++ b) = entsB a ++ entsB b := by simp [entsB]
@[simp] theorem entsB_snoc (a : List (ByteArray × Bool)) (x : ByteArray) (b : Bool) : entsB a ++ [(.str x, .bool b)] = entsB (a ++ [(x, b)]) := by simp [entsB]
theorem bits_step {ns : List ByteArray} (k i : Nat) (h : i < ns.length) : (bitsL ns k).take (i + 1) = (bitsL ns k).take i ++ [(ns[i], k.testBit i)] := by
  rw [take_snoc (by simpa using h), bitsL_get ns k i h]
theorem bits_new {ns : List ByteArray} (hn : ns.Nodup) (k i : Nat) (h : i < ns.length) : findP (.str ns[i]) (entsB ((bitsL ns k).take i)) 0 = some none := by
  rcases find_ents ns[i] ((bitsL ns k).take i) 0 with ⟨h1, _⟩ | ⟨j, b, h1, h2, h3⟩
  · exact h1
  · exfalso
    have hj := (List.getElem?_eq_some_iff.1 h3).1
    have hj2 : j < ns.length ∧ j < i := by simp at hj; omega
    rw [List.getElem?_take_of_lt hj2.2, List.getElem?_eq_getElem (by simpa using hj2.1), bitsL_get ns k j hj2.1] at h3
    exact List.pairwise_iff_getElem.1 hn j i hj2.1 h hj2.2 (congrArg Prod.fst (Option.some.inj h3))
theorem rowL_sub : ∀ (l : List ByteArray) (k : Nat) (y : ByteArray), y ∈ rowL l k → y ∈ l := by
  intro l
  induction l with
  | nil => intro k y h; exact h
  | cons b r ih =>
    intro k y h
    rw [rowL] at h
    split at h
    · rcases List.mem_cons.1 h with rfl | h
      · exact List.mem_cons_self
      · exact List.mem_cons_of_mem _ (ih _ _ h)
    · exact List.mem_cons_of_mem _ (ih _ _ h)
theorem lk_bits : ∀ (ns : List ByteArray), ns.Nodup → ∀ k, lkB (bitsL ns k) = fun x => memB x (rowL ns k)
  | [], _, k => by funext x; rfl
  | a :: r, hd, k => by
    rw [List.nodup_cons] at hd
    have ih := congrFun (lk_bits r hd.2 (k / 2))
    funext x
    have e : lkB (bitsL (a :: r) k) x = if x = a then decide (k % 2 = 1) else lkB (bitsL r (k / 2)) x := by
      unfold lkB; rw [bitsL, List.find?_cons]
      by_cases h : x = a <;> simp [h]
    rw [e, rowL]
    by_cases h : x = a
    · subst h
      rw [if_pos rfl]
      by_cases h2 : k % 2 = 1
      · rw [if_pos h2, decide_eq_true h2]; simp [memB]
      · rw [if_neg h2, decide_eq_false h2]
        symm
        rw [Bool.eq_false_iff, ne_eq, memB_iff]
        exact fun g => hd.1 (rowL_sub _ _ _ g)
    · rw [if_neg h, ih x]
      split
      · simp [memB, h]
      · rfl
/-- a formula's values in all rows of names -/
def rowsB (ns : List ByteArray) (f : Fm) : List Bool := (List.range (2 ^ ns.length)).map fun k => tv (fun x => memB x (rowL ns k)) f
end Go.Proofs.Ytbmpmmbcfabeeaa
