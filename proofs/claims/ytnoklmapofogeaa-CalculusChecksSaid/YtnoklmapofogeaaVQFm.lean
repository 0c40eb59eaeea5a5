/-
  Plain laws on formulas: their nodes, what Check tells of them, where they are true.
-/
import Derived.Test.YtnoklmapofogeaaVFormB
import Derived.Test.YtnoklmapofogeaaVModE
namespace Go.Proofs.Ytnoklmapofogeaa
open Go Go.Pv
set_option linter.unusedVariables false
set_option linter.unusedSimpArgs false

/-- each part has its kind's number of parts -/
inductive OkF (N : ByteArray → Prop) : Fm → Prop where
  | mk {k : Int} {nm : ByteArray} {kids : List Fm} (h : (kids.length : Int) = kidsN k) (hN : k = 1 → N nm) (g : ∀ f ∈ kids, OkF N f) : OkF N (.mk k nm kids)
mutual
/-- all nodes, each ahead of its parts -/
def pre : Fm → List Fm
  | .mk k nm l => .mk k nm l :: pres l
def pres : List Fm → List Fm
  | [] => []
  | f :: r => pre f ++ pres r
end
theorem pre_eq (f : Fm) : pre f = f :: pres f.kids := by cases f with | mk k nm l => rw [pre]; rfl
theorem pres_nil : pres [] = [] := by rw [pres]
theorem pres_cons (f : Fm) (r : List Fm) : pres (f :: r) = pre f ++ pres r := by rw [pres]
theorem pres_append (a b : List Fm) : pres (a ++ b) = pres a ++ pres b := by
  induction a with
  | nil => simp [pres_nil]
  | cons f r ih => simp [pres_cons, ih]
theorem pres_head (x : Fm) (r : List Fm) : pres (x :: r) = x :: pres (x.kids ++ r) := by rw [pres_cons, pre_eq, pres_append]; rfl

theorem nodesGo_succ (M n : Nat) (x : Fm) (r : List Fm) : nodesGo M (n + 1) (x :: r) = x :: nodesGo M n (x.kids.take M ++ r) := rfl
theorem nodesGo_nil (M n : Nat) : nodesGo M n [] = [] := by cases n <;> rfl
theorem nodesGo_short (M : Nat) : ∀ (n : Nat) (st : List Fm), (nodesGo M n st).length < n → (∀ x ∈ nodesGo M n st, x.kids.length ≤ M) → nodesGo M n st = pres st := by
  intro n
  induction n with
  | zero => intro st h; omega
  | succ n ih =>
    intro st h g
    cases st with
    | nil => rw [nodesGo_nil, pres_nil]
    | cons x r =>
      rw [nodesGo_succ] at h g ⊢
      have hx := g x (by simp)
      rw [List.take_of_length_le hx] at h g ⊢
      rw [pres_head, ih _ (by simpa using h) fun y hy => g y (by simp [hy])]
theorem nodesGo_long (M : Nat) : ∀ (n : Nat) (st : List Fm), (pres st).length ≤ n → (∀ x ∈ pres st, x.kids.length ≤ M) → nodesGo M n st = pres st := by
  intro n
  induction n with
  | zero =>
    intro st h g
    cases st with
    | nil => rw [nodesGo_nil, pres_nil]
    | cons x r => rw [pres_head] at h; simp at h
  | succ n ih =>
    intro st h g
    cases st with
    | nil => rw [nodesGo_nil, pres_nil]
    | cons x r =>
      rw [pres_head] at h g ⊢
      have hx := g x (by simp)
      rw [nodesGo_succ, List.take_of_length_le hx, ih _ (by simpa using h) fun y hy => g y (by simp [hy])]

/-- a node that is as it should be -/
def okN (x : Fm) : Prop := 0 ≤ kidsN x.kind ∧ (x.kids.length : Int) = kidsN x.kind ∧ ¬ ((x.kind = 1 ∧ isNameB x.name = false) ∨ (x.kind ≠ 1 ∧ x.name ≠ ⟨#[]⟩))
theorem okN_kids {x : Fm} (h : okN x) : x.kids.length ≤ 201 := by
  have := h.2.1
  unfold kidsN at this
  (repeat' split at this) <;> omega
theorem checkNodes_some : ∀ (l : List Fm) (i : Int) (x : Int × Int), checkNodes l i = some x → x.1 ≠ 0 := by
  intro l
  induction l with
  | nil => intro i x h; simp [checkNodes] at h
  | cons p r ih =>
    intro i x h
    rw [checkNodes] at h
    (repeat' split at h) <;> first | (cases h; simp; done) | exact ih _ _ h
theorem checkNodes_iff : ∀ (l : List Fm) (i : Int), i ≤ 200 → (checkNodes l i = none ↔ (∀ x ∈ l, okN x) ∧ i + l.length ≤ 200) := by
  intro l
  induction l with
  | nil => intro i hi; simp [checkNodes]; exact hi
  | cons x r ih =>
    intro i hi
    rw [checkNodes]
    by_cases h1 : i = 200
    · rw [if_pos h1]; simp; omega
    · rw [if_neg h1]
      by_cases h2 : kidsN x.kind < 0
      · rw [if_pos h2]; simp only [reduceCtorEq, false_iff]; intro ⟨h, _⟩; have := (h x (by simp)).1; omega
      · rw [if_neg h2]
        by_cases h3 : (x.kids.length : Int) ≠ kidsN x.kind
        · rw [if_pos h3]; simp only [reduceCtorEq, false_iff]; intro ⟨h, _⟩; exact h3 (h x (by simp)).2.1
        · rw [if_neg h3]
          by_cases h4 : (x.kind = 1 ∧ isNameB x.name = false) ∨ (x.kind ≠ 1 ∧ x.name ≠ ⟨#[]⟩)
          · rw [if_pos h4]; simp only [reduceCtorEq, false_iff]; intro ⟨h, _⟩; exact (h x (by simp)).2.2 h4
          · rw [if_neg h4, ih (i + 1) (by omega)]
            have hx : okN x := ⟨by omega, Decidable.not_not.1 h3, h4⟩
            simp only [List.mem_cons, forall_eq_or_imp, hx, true_and, List.length_cons]
            constructor
            · rintro ⟨a, b⟩; exact ⟨a, by omega⟩
            · rintro ⟨a, b⟩; exact ⟨a, by omega⟩
theorem formulaCheck_iff (f : Fm) : (formulaCheck f).1 = 0 ↔ (∀ x ∈ pre f, okN x) ∧ (pre f).length ≤ 200 := by
  have hp : pres [f] = pre f := by rw [pres_cons, pres_nil, List.append_nil]
  constructor
  · intro h
    unfold formulaCheck at h
    cases hc : checkNodes (nodesGo 201 201 [f]) 0 with
    | some x => rw [hc] at h; exact absurd h (checkNodes_some _ _ _ hc)
    | none =>
      rw [checkNodes_iff _ 0 (by omega)] at hc
      have hn := nodesGo_short 201 201 [f] (by omega) fun x hx => okN_kids (hc.1 x hx)
      rw [hn, hp] at hc
      exact ⟨hc.1, by omega⟩
  · rintro ⟨h1, h2⟩
    have hn := nodesGo_long 201 201 [f] (by rw [hp]; omega) (by rw [hp]; exact fun x hx => okN_kids (h1 x hx))
    have hc : checkNodes (nodesGo 201 201 [f]) 0 = none := by
      rw [checkNodes_iff _ 0 (by omega), hn, hp]; exact ⟨h1, by omega⟩
    unfold formulaCheck; rw [hc]; rfl

/-- every node has as many parts as its kind asks for; a name is a name -/
theorem okF_of_pre : ∀ f : Fm, (∀ x ∈ pre f, okN x) → OkF (fun n => isNameB n = true) f := by
  intro f
  induction f using Fm.ind with
  | h f ih =>
    intro h
    have h0 := h f (by rw [pre_eq]; simp)
    cases f with
    | mk k nm l =>
      refine .mk h0.2.1 (fun hk => ?_) fun g hg => ih g hg fun x hx => h x ?_
      · have := h0.2.2
        simp only [Fm.kind, Fm.name, hk, true_and, not_or] at this
        simpa using this.1
      · rw [pre_eq]
        refine List.mem_cons_of_mem _ ?_
        have : ∀ l : List Fm, g ∈ l → x ∈ pres l := by
          intro l
          induction l with
          | nil => intro h; cases h
          | cons a r ihr =>
            intro h
            rw [pres_cons, List.mem_append]
            cases h with
            | head => exact .inl hx
            | tail _ h => exact .inr (ihr h)
        exact this l hg
end Go.Proofs.Ytnoklmapofogeaa
