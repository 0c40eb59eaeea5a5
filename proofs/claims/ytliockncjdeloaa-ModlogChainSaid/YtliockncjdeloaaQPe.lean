/-
  Plain law: completeness: what is left is a model of the logic.
-/
import Derived.Test.YtliockncjdeloaaQPd
namespace Go.Proofs.Ytliockncjdeloaa
open Go Go.Pv
set_option linter.unusedVariables false
set_option linter.unusedSimpArgs false
set_option linter.unusedSectionVars false
set_option maxRecDepth 100000

theorem mem_names {c : Sc} {x : Nat} {nm : ByteArray} : ∀ k, nm ∈ c.names x k ↔ ∃ j, j < k ∧ c.kind j = 1 ∧ x.testBit j = true ∧ c.nameOf j = nm
  | 0 => by simp [Sc.names]
  | k + 1 => by
    rw [Sc.names]
    split
    · rename_i h
      rw [List.mem_append, mem_names k, List.mem_singleton]
      simp only [Bool.and_eq_true, decide_eq_true_eq] at h
      constructor
      · rintro (⟨j, hj, h1⟩ | rfl)
        · exact ⟨j, by omega, h1⟩
        · exact ⟨k, by omega, h.1, h.2, rfl⟩
      · rintro ⟨j, hj, h1, h2, h3⟩
        by_cases hjk : j = k
        · subst hjk; exact .inr h3.symm
        · exact .inl ⟨j, by omega, h1, h2, h3⟩
    · rename_i h
      rw [mem_names k]
      simp only [Bool.and_eq_true, decide_eq_true_eq] at h
      constructor
      · rintro ⟨j, hj, h1⟩; exact ⟨j, by omega, h1⟩
      · rintro ⟨j, hj, h1, h2, h3⟩
        by_cases hjk : j = k
        · subst hjk; exact absurd ⟨h1, h2⟩ h
        · exact ⟨j, by omega, h1, h2, h3⟩
def atR (R : List Nat) (i : Nat) : Nat := (R[i]?).getD 0
theorem atR_mem {R : List Nat} {i : Nat} (h : i < R.length) : atR R i ∈ R := by unfold atR; rw [List.getElem?_eq_getElem h]; exact List.getElem_mem h
theorem atR_of {R : List Nat} {x : Nat} (h : x ∈ R) : ∃ i, i < R.length ∧ atR R i = x := by
  obtain ⟨i, hi, rfl⟩ := List.mem_iff_getElem.1 h
  exact ⟨i, hi, by unfold atR; rw [List.getElem?_eq_getElem hi]; rfl⟩
def Sc.tab (c : Sc) (R : List Nat) (i j : Nat) : Bool := c.sees (atR R i) (atR R j)
def Sc.hold (c : Sc) (R : List Nat) (i : Nat) (nm : ByteArray) : Bool := memB nm (c.names (atR R i) c.parts.length)
/-- sets that hold each other up -/
structure Stays (lg : Nat) (l : List Fm) (ws R : List Nat) : Prop where
  sub : ∀ x ∈ R, x ∈ ws
  clo : ∀ x ∈ R, ∀ y ∈ ws, (sceneOf lg l ws).sees x y = true → y ∈ R
  loc : ∀ x ∈ ws, (sceneOf lg l ws).locl x = true
  who : ∀ x ∈ ws, (sceneOf lg l ws).whole x = true

section
variable {lg : Nat} {l : List Fm} (P : Parts l) {ws R : List Nat} (S : Stays lg l ws R)
theorem want_at {x i : Nat} {g : Fm} (hx : (sceneOf lg l ws).locl x = true) (hg : l[i]? = some g) : x.testBit i = (sceneOf lg l ws).want x i := by
  unfold Sc.locl at hx
  rw [List.all_eq_true] at hx
  simpa using hx i (List.mem_range.2 (List.getElem?_eq_some_iff.1 hg).1)
include P
theorem refl_at {x : Nat} (hx : (sceneOf lg l ws).locl x = true) (hr : lg = 3 ∨ lg = 5 ∨ lg = 6 ∨ lg = 7) : (sceneOf lg l ws).ahead x x = true := by
  have hrf : (sceneOf lg l ws).refl = true := by unfold Sc.refl; exact decide_eq_true hr
  refine ahead_iff.2 fun i g hg => ?_
  have h := want_at hx hg
  unfold Sc.want at h
  rw [kind_at hg, hrf] at h
  refine ⟨fun hk h1 => ?_, fun hk h1 => ?_⟩
  · rw [hk] at h
    simp only [show ¬ ((8 : Int) = 2) by decide, show ¬ ((8 : Int) = 3) by decide, show ¬ ((8 : Int) = 4) by decide, show ¬ ((8 : Int) = 5) by decide, show ¬ ((8 : Int) = 6) by decide, show ¬ ((8 : Int) = 7) by decide, if_false, if_true] at h
    rw [h1] at h
    simpa using h
  · rw [hk] at h
    simp only [show ¬ ((9 : Int) = 2) by decide, show ¬ ((9 : Int) = 3) by decide, show ¬ ((9 : Int) = 4) by decide, show ¬ ((9 : Int) = 5) by decide, show ¬ ((9 : Int) = 6) by decide, show ¬ ((9 : Int) = 7) by decide, show ¬ ((9 : Int) = 8) by decide, if_false, if_true] at h
    rw [h1] at h
    simpa using h
theorem alike_refl {x : Nat} : (sceneOf lg l ws).alike x x = true := alike_iff.2 fun _ _ _ _ => rfl
theorem more_refl {x : Nat} : (sceneOf lg l ws).more x x = true := more_iff.2 fun _ _ _ => ⟨fun _ h => h, fun _ h => h⟩
theorem sees_trans {x y z : Nat} (hl : lg = 4 ∨ lg = 5 ∨ lg = 6 ∨ lg = 8) (h1 : (sceneOf lg l ws).sees x y = true) (h2 : (sceneOf lg l ws).sees y z = true) : (sceneOf lg l ws).sees x z = true := by
  obtain ⟨a1, m1, k1, _, n1⟩ := sees_iff.1 h1
  obtain ⟨a2, m2, k2, _, n2⟩ := sees_iff.1 h2
  have hm1 : (sceneOf lg l ws).more x y = true := by
    by_cases h6 : lg = 6
    · have := alike_iff.1 (k1 h6)
      exact more_iff.2 fun i g hg => ⟨fun hk h => by rw [← this i g hg (.inl hk)]; exact h, fun hk h => by rw [this i g hg (.inr hk)]; exact h⟩
    · exact m1 (by omega)
  have hm2 : (sceneOf lg l ws).more y z = true := by
    by_cases h6 : lg = 6
    · have := alike_iff.1 (k2 h6)
      exact more_iff.2 fun i g hg => ⟨fun hk h => by rw [← this i g hg (.inl hk)]; exact h, fun hk h => by rw [this i g hg (.inr hk)]; exact h⟩
    · exact m2 (by omega)
  have g1 := more_iff.1 hm1
  have g2 := more_iff.1 hm2
  have ga := ahead_iff.1 a2
  refine sees_iff.2 ⟨ahead_iff.2 fun i g hg => ⟨fun hk h => (ga i g hg).1 hk ((g1 i g hg).1 hk h), fun hk h => (g1 i g hg).2 hk ((ga i g hg).2 hk h)⟩,
    fun _ => more_iff.2 fun i g hg => ⟨fun hk h => (g2 i g hg).1 hk ((g1 i g hg).1 hk h), fun hk h => (g1 i g hg).2 hk ((g2 i g hg).2 hk h)⟩,
    fun h6 => alike_iff.2 fun i g hg hk => (alike_iff.1 (k1 h6) i g hg hk).trans (alike_iff.1 (k2 h6) i g hg hk), fun h7 => by omega, fun h8 => ?_⟩
  rw [← Bool.not_eq_true]
  intro hal
  have h3 := alike_iff.1 hal
  have h4 : (sceneOf lg l ws).alike x y = true := alike_iff.2 fun i g hg hk => by
    rw [Bool.eq_iff_iff]
    rcases hk with hk | hk
    · exact ⟨(g1 i g hg).1 hk, fun h => by rw [h3 i g hg (.inl hk)]; exact (g2 i g hg).1 hk h⟩
    · exact ⟨fun h => (g2 i g hg).2 hk (by rw [← h3 i g hg (.inr hk)]; exact h), (g1 i g hg).2 hk⟩
  rw [n1 h8] at h4; cases h4
include S
theorem tab_frame : Frame lg R.length ((sceneOf lg l ws).tab R) where
  ser := fun h u hu => by
    have h1 := S.who _ (S.sub _ (atR_mem hu))
    unfold Sc.whole Sc.some at h1
    rw [show (sceneOf lg l ws).lg = lg from rfl, h, List.take_length] at h1
    simp only [decide_true, Bool.not_true, Bool.false_or, Bool.and_eq_true, List.any_eq_true] at h1
    obtain ⟨⟨y, hy, hs⟩, _⟩ := h1
    rw [← h] at hs hy
    obtain ⟨v, hv, rfl⟩ := atR_of (S.clo _ (atR_mem hu) y hy hs)
    exact ⟨v, hv, hs⟩
  refl := fun h u hu => by
    have h1 := S.loc _ (S.sub _ (atR_mem hu))
    have ha := refl_at P h1 h
    exact sees_iff.2 ⟨ha, fun _ => more_refl P, fun _ => alike_refl P, fun _ => ha, fun h8 => by omega⟩
  trans := fun h u v w _ _ _ h1 h2 => sees_trans P h h1 h2
  symm := fun h u v hu hv h1 => by
    obtain ⟨a1, m1, k1, b1, n1⟩ := sees_iff.1 h1
    rcases h with h | h
    · have hal := alike_iff.1 (k1 h)
      have ha := ahead_iff.1 (refl_at P (S.loc _ (S.sub _ (atR_mem hu))) (by omega))
      exact sees_iff.2 ⟨ahead_iff.2 fun i g hg => ⟨fun hk h => (ha i g hg).1 hk (by rw [hal i g hg (.inl hk)]; exact h), fun hk h => by rw [← hal i g hg (.inr hk)]; exact (ha i g hg).2 hk h⟩,
        fun _ => by omega, fun _ => alike_iff.2 fun i g hg hk => (hal i g hg hk).symm, fun _ => by omega, fun _ => by omega⟩
    · exact sees_iff.2 ⟨b1 h, fun _ => by omega, fun _ => by omega, fun _ => a1, fun _ => by omega⟩
  irr := fun h u hu => by
    rw [← Bool.not_eq_true]
    intro hs
    obtain ⟨_, _, _, _, n1⟩ := sees_iff.1 hs
    rw [alike_refl P] at n1
    cases n1 h
theorem truth (g : Fm) : ∀ k, l[k]? = some g → ∀ i, i < R.length → ev R.length ((sceneOf lg l ws).tab R) ((sceneOf lg l ws).hold R) g i = (atR R i).testBit k := by
  induction g using Fm.ind with
  | h g ih =>
    intro k hg i hi
    have htd : Td g := P.td g (List.mem_of_getElem? hg)
    have hw := S.loc _ (S.sub _ (atR_mem hi))
    have hwant := want_at hw hg
    have hfine : (sceneOf lg l ws).fine (atR R i) k = true := by
      have h1 := S.who _ (S.sub _ (atR_mem hi))
      unfold Sc.whole Sc.allFine at h1
      rw [Bool.and_eq_true, List.all_eq_true] at h1
      exact h1.2 k (List.mem_range.2 (List.getElem?_eq_some_iff.1 hg).1)
    unfold Sc.want at hwant
    rw [kind_at hg] at hwant
    unfold Sc.fine Sc.needs at hfine
    rw [kind_at hg] at hfine
    have hkid : ∀ j a, g.kids[j]? = some a → ∀ v, v < R.length → ev R.length ((sceneOf lg l ws).tab R) ((sceneOf lg l ws).hold R) a v = (atR R v).testBit ((sceneOf lg l ws).kid k j) := fun j a h v hv => by
      obtain ⟨m, h1, h2⟩ := kid_at (lg := lg) (ws := ws) P hg h
      rw [h2]; exact ih a (List.mem_of_getElem? h) m h1 v hv
    rcases htd.nine with ⟨nm, hn, rfl⟩ | rfl | rfl | ⟨a, ha, rfl⟩ | ⟨a, b, ha, hb, rfl⟩ | ⟨a, b, ha, hb, rfl⟩ | ⟨a, b, ha, hb, rfl⟩ | ⟨a, ha, rfl⟩ | ⟨a, ha, rfl⟩
    · rw [ev_1, Sc.hold, Bool.eq_iff_iff, memB_iff, mem_names]
      constructor
      · rintro ⟨j, hj, h1, h2, h3⟩
        have hj : j < l.length := hj
        have hgj := List.getElem?_eq_getElem hj
        rw [kind_at hgj] at h1
        have h4 : l[j].name = nm := by
          rw [← h3]; unfold Sc.nameOf sceneOf; simp only [hgj, Option.map_some, Option.getD_some]
        have h5 : l[j] = .mk 1 nm [] := by
          have htj := P.td _ (List.getElem_mem hj)
          generalize l[j] = gj at h1 h4 htj
          rcases htj.nine with ⟨nm, hn, rfl⟩ | rfl | rfl | ⟨a, ha, rfl⟩ | ⟨a, b, ha, hb, rfl⟩ | ⟨a, b, ha, hb, rfl⟩ | ⟨a, b, ha, hb, rfl⟩ | ⟨a, ha, rfl⟩ | ⟨a, ha, rfl⟩
          all_goals first
            | (exfalso; simp [Fm.kind] at h1; done)
            | (simp only [Fm.name] at h4; rw [h4])
        obtain ⟨hk, hgk⟩ := List.getElem?_eq_some_iff.1 hg
        have : j = k := (List.getElem_inj P.nd).1 (h5.trans hgk.symm)
        rwa [this] at h2
      · intro h
        obtain ⟨hk, hgk⟩ := List.getElem?_eq_some_iff.1 hg
        exact ⟨k, hk, by rw [kind_at hg]; rfl, h, by unfold Sc.nameOf sceneOf; simp only [hg, Option.map_some, Option.getD_some]; rfl⟩
    · rw [ev_2, hwant]; rfl
    · rw [ev_3, hwant]; rfl
    · rw [ev_4, hwant, hkid 0 a rfl i hi]; rfl
    · rw [ev_5, hwant, hkid 0 a rfl i hi, hkid 1 b rfl i hi]; rfl
    · rw [ev_6, hwant, hkid 0 a rfl i hi, hkid 1 b rfl i hi]; rfl
    · rw [ev_7, hwant, hkid 0 a rfl i hi, hkid 1 b rfl i hi]; rfl
    · rw [show decide ((Fm.mk 8 ⟨#[]⟩ [a]).kind = 8) = true from rfl, show decide ((Fm.mk 8 ⟨#[]⟩ [a]).kind = 9) = false from rfl] at hfine
      cases hb : (atR R i).testBit k
      · rw [hb] at hfine
        simp only [Bool.true_or, Bool.true_and, beq_self_eq_true, Bool.not_true, Bool.false_or, List.any_eq_true] at hfine
        obtain ⟨y, hy, hs⟩ := hfine
        unfold Sc.shows at hs
        simp only [Bool.and_eq_true, beq_iff_eq] at hs
        obtain ⟨v, hv, rfl⟩ := atR_of (S.clo _ (atR_mem hi) y hy hs.1.1)
        exact ev_8f.2 ⟨v, hv, hs.1.1, by rw [hkid 0 a rfl v hv]; exact hs.1.2⟩
      · refine ev_8.2 fun v hv ht => ?_
        rw [hkid 0 a rfl v hv]
        exact (ahead_iff.1 (sees_iff.1 ht).1 k _ hg).1 rfl hb
    · rw [show decide ((Fm.mk 9 ⟨#[]⟩ [a]).kind = 8) = false from rfl, show decide ((Fm.mk 9 ⟨#[]⟩ [a]).kind = 9) = true from rfl] at hfine
      cases hb : (atR R i).testBit k
      · rw [← Bool.not_eq_true, ev_9]
        rintro ⟨v, hv, ht, he⟩
        rw [hkid 0 a rfl v hv] at he
        have := (ahead_iff.1 (sees_iff.1 ht).1 k _ hg).2 rfl he
        rw [hb] at this; cases this
      · rw [hb] at hfine
        simp only [Bool.false_or, Bool.true_and, beq_self_eq_true, Bool.not_true, List.any_eq_true] at hfine
        obtain ⟨y, hy, hs⟩ := hfine
        unfold Sc.shows at hs
        simp only [Bool.and_eq_true, beq_iff_eq] at hs
        obtain ⟨v, hv, rfl⟩ := atR_of (S.clo _ (atR_mem hi) y hy hs.1.1)
        exact ev_9.2 ⟨v, hv, hs.1.1, by rw [hkid 0 a rfl v hv]; exact hs.1.2⟩
end
theorem lastW_stays (lg : Nat) (f : Fm) (R : List Nat) (hs : ∀ x ∈ R, x ∈ lastW lg f) (hc : ∀ x ∈ R, ∀ y ∈ lastW lg f, (lastC lg f).sees x y = true → y ∈ R) : Stays lg (partsS [] (pre f)) (lastW lg f) R where
  sub := hs
  clo := hc
  loc := fun x hx => by
    have : ∀ y ∈ lastW lg f, (sceneOf lg (partsS [] (pre f)) []).locl y = true :=
      elim_inv (fun ws => ∀ y ∈ ws, (sceneOf lg (partsS [] (pre f)) []).locl y = true) (fun ws h y hy => h y (List.mem_filter.1 hy).1) _ _ (fun y hy => (List.mem_filter.1 hy).2)
    exact this x hx
  who := fun x hx => elim_fix _ _ (by have := List.length_filter_le (sceneOf lg (partsS [] (pre f)) []).locl (List.range (2 ^ (partsS [] (pre f)).length)); rwa [List.length_range] at this) x hx
theorem decided_complete {lg : Nat} {f : Fm} (hf : Td f) (h : ValidF lg f) : decided lg f = true := by
  have P := parts_all hf
  have S := lastW_stays lg f (lastW lg f) (fun x h => h) (fun x _ y hy _ => hy)
  refine decided_iff.2 fun x hx => ?_
  obtain ⟨i, hi, rfl⟩ := atR_of hx
  obtain ⟨r, hr⟩ := partsS_head f
  rw [← truth P S f 0 (by rw [hr]; rfl) i hi]
  exact h _ _ _ (tab_frame P S) i hi
end Go.Proofs.Ytliockncjdeloaa
