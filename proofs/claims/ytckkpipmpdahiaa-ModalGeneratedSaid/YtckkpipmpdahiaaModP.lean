/-
  Plain laws on formulas: their nodes, what Check and Walk tell of them.
-/
import Derived.Test.YtckkpipmpdahiaaModD
import Derived.Test.YtckkpipmpdahiaaModE
namespace Go.Proofs.Ytckkpipmpdahiaa
open Go Go.Pv
set_option linter.unusedVariables false
set_option linter.unusedSimpArgs false

mutual
/-- all nodes, each ahead of its parts -/
def pre : Fm → List Fm
  | .mk k nm l => .mk k nm l :: pres l
def pres : List Fm → List Fm
  | [] => []
  | f :: r => pre f ++ pres r
end
theorem pre_eq (f : Fm) : pre f = f :: pres f.kids := by cases f with | mk k nm l => rw [pre]; rfl
theorem pres_nil : pres [] = [] := by rw [pres]
theorem pres_cons (f : Fm) (r : List Fm) : pres (f :: r) = pre f ++ pres r := by rw [pres]
theorem pres_append (a b : List Fm) : pres (a ++ b) = pres a ++ pres b := by
  induction a with
  | nil => simp [pres_nil]
  | cons f r ih => simp [pres_cons, ih]
theorem pres_head (x : Fm) (r : List Fm) : pres (x :: r) = x :: pres (x.kids ++ r) := by rw [pres_cons, pre_eq, pres_append]; rfl

theorem nodesGo_succ (M n : Nat) (x : Fm) (r : List Fm) : nodesGo M (n + 1) (x :: r) = x :: nodesGo M n (x.kids.take M ++ r) := rfl
theorem nodesGo_nil (M n : Nat) : nodesGo M n [] = [] := by cases n <;> rfl
theorem nodesGo_short (M : Nat) : ∀ (n : Nat) (st : List Fm), (nodesGo M n st).length < n → (∀ x ∈ nodesGo M n st, x.kids.length ≤ M) → nodesGo M n st = pres st := by
  intro n
  induction n with
  | zero => intro st h; omega
  | succ n ih =>
    intro st h g
    cases st with
    | nil => rw [nodesGo_nil, pres_nil]
    | cons x r =>
      rw [nodesGo_succ] at h g ⊢
      have hx := g x (by simp)
      rw [List.take_of_length_le hx] at h g ⊢
      rw [pres_head, ih _ (by simpa using h) fun y hy => g y (by simp [hy])]
theorem nodesGo_long (M : Nat) : ∀ (n : Nat) (st : List Fm), (pres st).length ≤ n → (∀ x ∈ pres st, x.kids.length ≤ M) → nodesGo M n st = pres st := by
  intro n
  induction n with
  | zero =>
    intro st h g
    cases st with
    | nil => rw [nodesGo_nil, pres_nil]
    | cons x r => rw [pres_head] at h; simp at h
  | succ n ih =>
    intro st h g
    cases st with
    | nil => rw [nodesGo_nil, pres_nil]
    | cons x r =>
      rw [pres_head] at h g ⊢
      have hx := g x (by simp)
      rw [nodesGo_succ, List.take_of_length_le hx, ih _ (by simpa using h) fun y hy => g y (by simp [hy])]

/-- a node that is as it should be -/
def okN (x : Fm) : Prop := 0 ≤ kidsN x.kind ∧ (x.kids.length : Int) = kidsN x.kind ∧ ¬ ((x.kind = 1 ∧ isNameB x.name = false) ∨ (x.kind ≠ 1 ∧ x.name ≠ ⟨#[]⟩))
theorem okN_kids {x : Fm} (h : okN x) : x.kids.length ≤ 201 := by
  have := h.2.1
  unfold kidsN at this
  (repeat' split at this) <;> omega
theorem checkNodes_iff : ∀ (l : List Fm) (i : Int), i ≤ 200 → (checkNodes l i = none ↔ (∀ x ∈ l, okN x) ∧ i + l.length ≤ 200) := by
  intro l
  induction l with
  | nil => intro i hi; simp [checkNodes]; exact hi
  | cons x r ih =>
    intro i hi
    rw [checkNodes]
    by_cases h1 : i = 200
    · rw [if_pos h1]; simp; omega
    · rw [if_neg h1]
      by_cases h2 : kidsN x.kind < 0
      · rw [if_pos h2]; simp only [reduceCtorEq, false_iff]; intro ⟨h, _⟩; have := (h x (by simp)).1; omega
      · rw [if_neg h2]
        by_cases h3 : (x.kids.length : Int) ≠ kidsN x.kind
        · rw [if_pos h3]; simp only [reduceCtorEq, false_iff]; intro ⟨h, _⟩; exact h3 (h x (by simp)).2.1
        · rw [if_neg h3]
          by_cases h4 : (x.kind = 1 ∧ isNameB x.name = false) ∨ (x.kind ≠ 1 ∧ x.name ≠ ⟨#[]⟩)
          · rw [if_pos h4]; simp only [reduceCtorEq, false_iff]; intro ⟨h, _⟩; exact (h x (by simp)).2.2 h4
          · rw [if_neg h4, ih (i + 1) (by omega)]
            have hx : okN x := ⟨by omega, Decidable.not_not.1 h3, h4⟩
            simp only [List.mem_cons, forall_eq_or_imp, hx, true_and, List.length_cons]
            constructor
            · rintro ⟨a, b⟩; exact ⟨a, by omega⟩
            · rintro ⟨a, b⟩; exact ⟨a, by omega⟩
theorem formulaCheck_zero {f : Fm} (h : (formulaCheck f).1 = 0) : formulaCheck f = (0, 0) := by
  unfold formulaCheck at h ⊢
  cases hc : checkNodes (nodesGo 201 201 [f]) 0 with
  | none => rfl
  | some x => rw [hc] at h; exact absurd h (checkNodes_some _ _ _ hc)
theorem formulaCheck_iff (f : Fm) : (formulaCheck f).1 = 0 ↔ (∀ x ∈ pre f, okN x) ∧ (pre f).length ≤ 200 := by
  have hp : pres [f] = pre f := by rw [pres_cons, pres_nil, List.append_nil]
  constructor
  · intro h
    unfold formulaCheck at h
    cases hc : checkNodes (nodesGo 201 201 [f]) 0 with
    | some x => rw [hc] at h; exact absurd h (checkNodes_some _ _ _ hc)
    | none =>
      rw [checkNodes_iff _ 0 (by omega)] at hc
      have hn := nodesGo_short 201 201 [f] (by omega) fun x hx => okN_kids (hc.1 x hx)
      rw [hn, hp] at hc
      exact ⟨hc.1, by omega⟩
  · rintro ⟨h1, h2⟩
    have hn := nodesGo_long 201 201 [f] (by rw [hp]; omega) (by rw [hp]; exact fun x hx => okN_kids (h1 x hx))
    have hc : checkNodes (nodesGo 201 201 [f]) 0 = none := by
      rw [checkNodes_iff _ 0 (by omega), hn, hp]; exact ⟨h1, by omega⟩
    unfold formulaCheck; rw [hc]; rfl

theorem walkK_small (l : List Fm) (ih : ∀ f ∈ l, ∀ most : Int, 0 ≤ most → ((walkL f most).length : Int) ≤ most → walkL f most = pre f) : ∀ (out : List Fm) (most : Int), ((walkK l out most).length : Int) ≤ most → walkK l out most = out ++ pres l := by
  induction l with
  | nil => intro out most h; rw [walkK, pres_nil, List.append_nil]
  | cons f r ih2 =>
    intro out most h
    rw [walkK] at h ⊢
    split at h
    · rename_i h1
      rw [if_pos h1]
      have h2 := ih2 (fun g hg => ih g (by simp [hg])) _ most h
      rw [h2] at h ⊢
      simp only [List.length_append] at h
      rw [ih f (by simp) (most - out.length) (by omega) (by omega), pres_cons, List.append_assoc]
    · omega
theorem walk_small (f : Fm) : ∀ most : Int, 0 ≤ most → ((walkL f most).length : Int) ≤ most → walkL f most = pre f := by
  induction f using Fm.ind with
  | h f ih =>
    intro most h0 h
    rw [walkL_eq] at h ⊢
    rw [walkK_small _ ih _ _ h, pre_eq]; rfl

def of1 (k : Int) (f : Fm) : Fm := .mk k ⟨#[]⟩ [f]
def of2 (k : Int) (f g : Fm) : Fm := .mk k ⟨#[]⟩ [f, g]
theorem pre_of1 (k : Int) (f : Fm) : pre (of1 k f) = of1 k f :: pre f := by rw [pre_eq]; simp [of1, Fm.kids, pres_cons, pres_nil]
theorem pre_of2 (k : Int) (f g : Fm) : pre (of2 k f g) = of2 k f g :: (pre f ++ pre g) := by rw [pre_eq]; simp [of2, Fm.kids, pres_cons, pres_nil]
theorem ok_of1 {k : Int} {f : Fm} (h : k = 4 ∨ k = 8 ∨ k = 9) : okN (of1 k f) := by
  rcases h with rfl | rfl | rfl <;> simp [okN, of1, Fm.kind, Fm.kids, Fm.name, kidsN]
theorem ok_of2 {k : Int} {f g : Fm} (h : k = 5 ∨ k = 6 ∨ k = 7) : okN (of2 k f g) := by
  rcases h with rfl | rfl | rfl <;> simp [okN, of2, Fm.kind, Fm.kids, Fm.name, kidsN]
theorem check_of1 {k : Int} {f : Fm} (h : k = 4 ∨ k = 8 ∨ k = 9) : (formulaCheck (of1 k f)).1 = 0 ↔ (∀ x ∈ pre f, okN x) ∧ (pre f).length + 1 ≤ 200 := by
  rw [formulaCheck_iff, pre_of1]; simp [ok_of1 h]
theorem check_of2 {k : Int} {f g : Fm} (h : k = 5 ∨ k = 6 ∨ k = 7) : (formulaCheck (of2 k f g)).1 = 0 ↔ (∀ x, x ∈ pre f ∨ x ∈ pre g → okN x) ∧ (pre f).length + (pre g).length + 1 ≤ 200 := by
  rw [formulaCheck_iff, pre_of2]; simp [ok_of2 h]

theorem relFault_pos {n : Int} : ∀ (l : List (Int × Int)) (i : Int) (x : Int × Int), relFault n l i = some x → x.1 ≠ 0 := fun l i x h => by rw [relFault_some l i x h]; decide
theorem trFault_pos : ∀ (l : List (List ByteArray)) (i : Int) (x : Int × Int), trFault l i = some x → x.1 ≠ 0 := by
  intro l
  induction l with
  | nil => intro i x h; simp [trFault] at h
  | cons p r ih =>
    intro i x h
    rw [trFault] at h
    (repeat' split at h) <;> first | (cases h; simp; done) | exact ih _ _ h
theorem kripkeCheck_zero {m : Mdl} (h : (kripkeCheck m).1 = 0) : kripkeCheck m = (0, 0) := by
  unfold kripkeCheck at h ⊢
  split
  · rename_i h1; rw [if_pos h1] at h; simp at h
  · rename_i h1
    rw [if_neg h1] at h
    split
    · rename_i h2; rw [if_pos h2] at h; simp at h
    · rename_i h2
      rw [if_neg h2] at h
      cases hr : relFault m.n m.rel 0 with
      | some x => rw [hr] at h; exact absurd h (relFault_pos _ _ _ hr)
      | none =>
        rw [hr] at h
        cases ht : trFault m.tr 0 with
        | some x => rw [ht] at h; exact absurd h (trFault_pos _ _ _ ht)
        | none => simp [Option.orElse]

theorem evalM_ok {m : Mdl} {f : Fm} (h1 : (kripkeCheck m).1 = 0) (h2 : (formulaCheck f).1 = 0) : evalM m f = (.list ((evL (frameOf m) (holdOf m) f).map boolRow), (0, 0)) := by
  unfold evalM; rw [if_neg (by omega), if_neg (by omega)]
theorem evalM_code (m : Mdl) (f : Fm) : (evalM m f).2.1 = 0 ↔ (kripkeCheck m).1 = 0 ∧ (formulaCheck f).1 = 0 := by
  unfold evalM
  by_cases h1 : (kripkeCheck m).1 = 0
  · rw [if_neg (by omega)]
    by_cases h2 : (formulaCheck f).1 = 0
    · rw [if_neg (by omega)]; simp [h1, h2]
    · rw [if_pos h2]; simp [h2]
  · rw [if_pos h1]; simp [h1]

/-- a diamond is a box between nots -/
theorem evL_dia (T : List (List Bool)) (hold : Nat → ByteArray → Bool) (f : Fm) : evL T hold (of1 9 f) = evL T hold (of1 4 (of1 8 (of1 4 f))) := by
  unfold evL
  apply List.map_congr_left
  intro w _
  simp [of1, ev, evs, List.all_eq_not_any_not]
/-- a box is true of a conjunction just where it is of both -/
theorem evL_box_and (T : List (List Bool)) (hold : Nat → ByteArray → Bool) (f g : Fm) : evL T hold (of1 8 (of2 5 f g)) = evL T hold (of2 5 (of1 8 f) (of1 8 g)) := by
  unfold evL
  apply List.map_congr_left
  intro w _
  simp only [of1, of2, ev, evs, List.getElem?_cons_zero, List.getElem?_cons_succ, Option.getD_some]
  simp only [Int.reduceEq, if_false, if_true, reduceIte]
  rw [Bool.eq_iff_iff]
  simp only [List.all_eq_true, Bool.and_eq_true, Bool.or_eq_true]
  constructor
  · intro h; exact ⟨fun v hv => (h v hv).elim .inl fun h => .inr h.1, fun v hv => (h v hv).elim .inl fun h => .inr h.2⟩
  · rintro ⟨h1, h2⟩ v hv
    rcases h1 v hv with h | h
    · exact .inl h
    · rcases h2 v hv with h' | h'
      · exact .inl h'
      · exact .inr ⟨h, h'⟩

/-- what the statement ModalDuals asks of four answers -/
theorem duals_plain (m : Mdl) (f g : Fm) (hf : ((walkL f 80).length : Int) ≤ 60) (hg : ((walkL g 80).length : Int) ≤ 60) (h1 : (evalM m (of1 9 f)).2.1 = 0) (h3 : (evalM m (of1 8 (of2 5 f g))).2.1 = 0) :
    ∃ L1 L3 : List Bool, evalM m (of1 9 f) = (.list (L1.map boolRow), (0, 0)) ∧ evalM m (of1 4 (of1 8 (of1 4 f))) = (.list (L1.map boolRow), (0, 0)) ∧
      evalM m (of1 8 (of2 5 f g)) = (.list (L3.map boolRow), (0, 0)) ∧ evalM m (of2 5 (of1 8 f) (of1 8 g)) = (.list (L3.map boolRow), (0, 0)) := by
  have ef := walk_small f 80 (by omega) (by omega)
  have eg := walk_small g 80 (by omega) (by omega)
  rw [ef] at hf
  rw [eg] at hg
  rw [evalM_code] at h1 h3
  have c1 := (check_of1 (by simp)).1 h1.2
  have c3 := (check_of1 (by simp)).1 h3.2
  have okf : ∀ x ∈ pre f, okN x := c1.1
  have okg : ∀ x ∈ pre g, okN x := fun x hx => c3.1 x (by rw [pre_of2]; simp [hx])
  have c2 : (formulaCheck (of1 4 (of1 8 (of1 4 f)))).1 = 0 := by
    rw [check_of1 (by simp), pre_of1, pre_of1]
    refine ⟨fun x hx => ?_, by simp; omega⟩
    simp only [List.mem_cons] at hx
    rcases hx with rfl | rfl | hx
    · exact ok_of1 (by simp)
    · exact ok_of1 (by simp)
    · exact okf x hx
  have c4 : (formulaCheck (of2 5 (of1 8 f) (of1 8 g))).1 = 0 := by
    rw [check_of2 (by simp), pre_of1, pre_of1]
    refine ⟨fun x hx => ?_, by simp; omega⟩
    simp only [List.mem_cons] at hx
    rcases hx with (rfl | hx) | (rfl | hx)
    · exact ok_of1 (by simp)
    · exact okf x hx
    · exact ok_of1 (by simp)
    · exact okg x hx
  refine ⟨_, _, evalM_ok h1.1 h1.2, ?_, evalM_ok h3.1 h3.2, ?_⟩
  · rw [evalM_ok h1.1 c2, evL_dia]
  · rw [evalM_ok h1.1 c4, evL_box_and]

end Go.Proofs.Ytckkpipmpdahiaa
