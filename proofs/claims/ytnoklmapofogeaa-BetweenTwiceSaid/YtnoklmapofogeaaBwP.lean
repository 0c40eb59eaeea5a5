/-
  Plain laws of between: what stands in the rows of names, what is chosen, what is projected.
-/
import Derived.Test.YtnoklmapofogeaaBwC
import Derived.Test.YtnoklmapofogeaaQTb
namespace Go.Proofs.Ytnoklmapofogeaa
open Go Go.Pv
set_option linter.unusedVariables false
set_option linter.unusedSimpArgs false
set_option maxRecDepth 100000

theorem bits_have : ∀ (n : Nat) (P : Nat → Bool), ∃ k, k < 2 ^ n ∧ ∀ w, w < n → k.testBit w = P w := by
  intro n
  induction n with
  | zero => intro P; exact ⟨0, by simp, fun w h => by omega⟩
  | succ n ih =>
    intro P
    obtain ⟨k, hk, h⟩ := ih fun w => P (w + 1)
    have hb : (P 0).toNat ≤ 1 := by cases P 0 <;> simp
    refine ⟨2 * k + (P 0).toNat, ?_, fun w hw => ?_⟩
    · rw [Nat.pow_succ]; omega
    · cases w with
      | zero => rw [Nat.testBit_zero]; cases P 0 <;> simp <;> omega
      | succ w =>
        rw [Nat.testBit_succ, show (2 * k + (P 0).toNat) / 2 = k by omega]
        exact h w (by omega)
theorem tv_congr {h h' : ByteArray → Bool} (f : Fm) (hf : Pl f) (hh : ∀ x ∈ pre f, x.kind = 1 → h x.name = h' x.name) : tv h f = tv h' f := by
  induction f using Fm.ind with
  | h f ih =>
    have ih := fun g hg => ih g hg (hf.kid hg) fun x hx hk => hh x (by rw [pre_eq]; exact List.mem_cons_of_mem _ (pres_mem hx _ hg)) hk
    rcases hf.seven with ⟨nm, hn, rfl⟩ | rfl | rfl | ⟨a, ha, rfl⟩ | ⟨a, b, ha, hb, rfl⟩ | ⟨a, b, ha, hb, rfl⟩ | ⟨a, b, ha, hb, rfl⟩
    · rw [tv_1, tv_1]; exact hh _ (by rw [pre_eq]; exact List.mem_cons_self) rfl
    · rw [tv_2, tv_2]
    · rw [tv_3, tv_3]
    · rw [tv_4, tv_4, ih a (by simp)]
    · rw [tv_5, tv_5, ih a (by simp), ih b (by simp)]
    · rw [tv_6, tv_6, ih a (by simp), ih b (by simp)]
    · rw [tv_7, tv_7, ih a (by simp), ih b (by simp)]
theorem rowL_sub : ∀ (l : List ByteArray) (k : Nat) (y : ByteArray), y ∈ rowL l k → y ∈ l := by
  intro l
  induction l with
  | nil => intro k y h; exact h
  | cons b r ih =>
    intro k y h
    rw [rowL] at h
    split at h
    · rcases List.mem_cons.1 h with rfl | h
      · exact List.mem_cons_self
      · exact List.mem_cons_of_mem _ (ih _ _ h)
    · exact List.mem_cons_of_mem _ (ih _ _ h)
/-- names in order, some of them -/
theorem rowL_filter : ∀ (ns : List ByteArray), ns.Nodup → ∀ k, rowL ns k = ns.filter fun x => memB x (rowL ns k)
  | [], _, k => rfl
  | a :: r, hd, k => by
    rw [List.nodup_cons] at hd
    have ih := rowL_filter r hd.2 (k / 2)
    have hc : ∀ (b : List ByteArray), (∀ y, y ∈ r → (y ∈ b ↔ y ∈ rowL r (k / 2))) → r.filter (fun x => memB x b) = rowL r (k / 2) := by
      intro b hb
      rw [ih]
      refine List.filter_congr fun y hy => ?_
      rw [Bool.eq_iff_iff, memB_iff, hb y hy, memB_iff]
    rw [rowL]
    by_cases h : k % 2 = 1
    · rw [if_pos h, List.filter_cons, if_pos (memB_iff.2 List.mem_cons_self), hc _ fun y hy => ?_]
      rw [List.mem_cons]
      exact ⟨fun g => g.elim (fun e => absurd (e ▸ hy) hd.1) id, .inr⟩
    · rw [if_neg h, List.filter_cons, if_neg (fun g => hd.1 (rowL_sub _ _ _ (memB_iff.1 g))), hc _ fun y hy => Iff.rfl]
theorem row_have {ns : List ByteArray} (hd : ns.Nodup) (p : ByteArray → Bool) : ∃ k, k < 2 ^ ns.length ∧ rowL ns k = ns.filter p := by
  obtain ⟨k, hk, hb⟩ := bits_have ns.length fun w => p ((ns[w]?).getD ⟨#[]⟩)
  refine ⟨k, hk, ?_⟩
  rw [rowL_filter ns hd k]
  refine List.filter_congr fun y hy => ?_
  obtain ⟨i, hi⟩ := List.getElem?_of_mem hy
  have hil := (List.getElem?_eq_some_iff.1 hi).1
  rw [Bool.eq_iff_iff, memB_iff, rowL_mem ns hd i k y hi, hb i hil, hi]
  rfl
theorem nameBad_none {l : List ByteArray} {i : Nat} (h : ∀ x ∈ l, isNameB x = true) : nameBad l i = none := by
  induction l generalizing i with
  | nil => rfl
  | cons a r ih => rw [nameBad, if_pos (h a List.mem_cons_self)]; exact ih fun x hx => h x (List.mem_cons_of_mem _ hx)
theorem value_tv {f : Fm} {hs : List ByteArray} (h : (plainF f).1 = 0) (hl : hs.length ≤ 1000) (hn : ∀ x ∈ hs, isNameB x = true) : (valueV f hs).1 = tv (fun x => memB x hs) f := by
  unfold valueV
  rw [if_neg (by simpa using h), if_neg (by omega), nameBad_none hn]
theorem value_bad {f : Fm} {hs : List ByteArray} (h : (plainF f).1 ≠ 0) : (valueV f hs).1 = false := by
  unfold valueV
  rw [if_pos h]
/-- what some tells -/
theorem some_iff {f : Fm} (h : (plainF f).1 = 0) : ∀ (ns held : List ByteArray), (∀ x ∈ ns, isNameB x = true) → (∀ x ∈ held, isNameB x = true) → ns.length + held.length ≤ 1000 → ns.Nodup →
    (someV f ns held = true ↔ ∃ p : ByteArray → Bool, tv (fun x => memB x (held ++ ns.filter p)) f = true)
  | [], held, hn, hh, hl, hd => by
    rw [someV, value_tv h (by simpa using hl) hh]
    simp
  | n :: r, held, hn, hh, hl, hd => by
    rw [List.nodup_cons] at hd
    simp only [List.length_cons] at hl
    have h1 := some_iff h r (held ++ [n]) (fun x hx => hn x (List.mem_cons_of_mem _ hx)) (fun x hx => by
      rcases List.mem_append.1 hx with hx | hx
      · exact hh x hx
      · simp at hx; subst hx; exact hn _ List.mem_cons_self) (by simp; omega) hd.2
    have h2 := some_iff h r held (fun x hx => hn x (List.mem_cons_of_mem _ hx)) hh (by omega) hd.2
    rw [someV, Bool.or_eq_true, h1, h2]
    constructor
    · rintro (⟨p, hp⟩ | ⟨p, hp⟩)
      · refine ⟨fun x => if x = n then true else p x, ?_⟩
        have e : (n :: r).filter (fun x => if x = n then true else p x) = n :: r.filter p := by
          rw [List.filter_cons, if_pos (by simp)]
          congr 1
          exact List.filter_congr fun y hy => by rw [if_neg]; rintro rfl; exact hd.1 hy
        rw [e]; simpa using hp
      · refine ⟨fun x => if x = n then false else p x, ?_⟩
        have e : (n :: r).filter (fun x => if x = n then false else p x) = r.filter p := by
          rw [List.filter_cons, if_neg (by simp)]
          exact List.filter_congr fun y hy => by rw [if_neg]; rintro rfl; exact hd.1 hy
        rw [e]; exact hp
    · rintro ⟨p, hp⟩
      rw [List.filter_cons] at hp
      split at hp
      · exact .inl ⟨p, by simpa using hp⟩
      · exact .inr ⟨p, hp⟩
/-- what is chosen is true where b is -/
theorem choose_tv (b : List ByteArray → Bool) (v : ByteArray → Bool) : ∀ (ns held : List ByteArray), tv v (chooseF b ns held) = b (held ++ ns.filter v)
  | [], held => by
    rw [chooseF, constF]
    cases h : b held
    · simp only [Bool.false_eq_true, if_false]; rw [tv_3]; simpa using h.symm
    · simp only [if_true]; rw [tv_2]; simpa using h.symm
  | n :: r, held => by
    have h1 := choose_tv b v r (held ++ [n])
    have h2 := choose_tv b v r held
    rw [chooseF]
    split
    · rename_i he
      rw [sameB_iff] at he
      rw [List.filter_cons]
      split
      · rw [h1]; simp
      · rw [he, h2]
    · rw [tv_6, tv_5, tv_5, tv_4, tv_1, h1, h2, List.filter_cons]
      cases hv : v n <;> simp
theorem pl_of {k : Int} {nm : ByteArray} {l : List Fm} (h : okN (.mk k nm l)) (hk : k ≤ 7) (hl : ∀ g ∈ l, Pl g) : Pl (.mk k nm l) := by
  refine ⟨fun x hx => ?_, fun x hx => ?_⟩ <;> (rw [pre_eq] at hx; rcases List.mem_cons.1 hx with rfl | hx)
  · exact h
  · obtain ⟨g, hg, hx⟩ := mem_pres _ hx; exact (hl g hg).1 x hx
  · exact hk
  · obtain ⟨g, hg, hx⟩ := mem_pres _ hx; exact (hl g hg).2 x hx
/-- plain, of such names, of so many nodes at most -/
def Good (ns : List ByteArray) (N : Nat) (f : Fm) : Prop := Pl f ∧ (∀ x ∈ pre f, x.kind = 1 → x.name ∈ ns) ∧ (pre f).length ≤ N
theorem Good.mono {ns ms : List ByteArray} {N M : Nat} {f : Fm} (h : Good ns N f) (hs : ∀ x ∈ ns, x ∈ ms) (hN : N ≤ M) : Good ms M f := ⟨h.1, fun x hx hk => hs _ (h.2.1 x hx hk), Nat.le_trans h.2.2 hN⟩
theorem good_mk {ns : List ByteArray} {k : Int} {nm : ByteArray} {l : List Fm} (N : Nat) (h : okN (.mk k nm l)) (hk : k ≤ 7) (h1 : k = 1 → nm ∈ ns) (hl : ∀ g ∈ l, Good ns (pre g).length g) (hN : 1 + (pres l).length ≤ N) : Good ns N (.mk k nm l) := by
  refine ⟨pl_of h hk fun g hg => (hl g hg).1, fun x hx hk => ?_, by rw [pre_eq, fm_kids, List.length_cons]; omega⟩
  rw [pre_eq] at hx
  rcases List.mem_cons.1 hx with rfl | hx
  · exact h1 hk
  · obtain ⟨g, hg, hx⟩ := mem_pres _ hx; exact (hl g hg).2.1 x hx hk
theorem okN_var {nm : ByteArray} (h : isNameB nm = true) : okN (.mk 1 nm []) := by simp [okN, kidsN, h, Fm.kind, Fm.name, Fm.kids]
theorem okN_two {k : Int} {a b : Fm} (h : k = 5 ∨ k = 6 ∨ k = 7) : okN (.mk k ⟨#[]⟩ [a, b]) := by rcases h with rfl | rfl | rfl <;> simp [okN, kidsN, Fm.kind, Fm.name, Fm.kids]
theorem okN_not {a : Fm} : okN (.mk 4 ⟨#[]⟩ [a]) := by simp [okN, kidsN, Fm.kind, Fm.name, Fm.kids]
theorem good_const {ns : List ByteArray} (b : Bool) : Good ns 1 (constF b) := by
  cases b
  · exact good_mk 1 (by simp [okN, kidsN, Fm.kind, Fm.name, Fm.kids]) (by decide) (by simp) (by simp) (by simp [pres_nil])
  · exact good_mk 1 (by simp [okN, kidsN, Fm.kind, Fm.name, Fm.kids]) (by decide) (by simp) (by simp) (by simp [pres_nil])
theorem Good.len {ns : List ByteArray} {N : Nat} {f : Fm} (h : Good ns N f) : Good ns (pre f).length f := ⟨h.1, h.2.1, Nat.le_refl _⟩
theorem choose_good (b : List ByteArray → Bool) : ∀ (ns held : List ByteArray), (∀ x ∈ ns, isNameB x = true) → Good ns (7 * 2 ^ ns.length - 6) (chooseF b ns held)
  | [], held, hn => good_const _
  | n :: r, held, hn => by
    have hr := fun x hx => hn x (List.mem_cons_of_mem _ hx)
    have h1 := (choose_good b r (held ++ [n]) hr).mono (ms := n :: r) (fun x hx => List.mem_cons_of_mem _ hx) (Nat.le_refl _)
    have h2 := (choose_good b r held hr).mono (ms := n :: r) (fun x hx => List.mem_cons_of_mem _ hx) (Nat.le_refl _)
    have hp : 1 ≤ 2 ^ r.length := Nat.one_le_two_pow
    have hpp : 2 ^ (n :: r).length = 2 * 2 ^ r.length := by rw [List.length_cons, Nat.pow_succ]; omega
    rw [chooseF]
    generalize chooseF b r (held ++ [n]) = x at *
    generalize chooseF b r held = y at *
    split
    · exact h1.mono (fun x hx => hx) (by omega)
    · have l1 := h1.2.2
      have l2 := h2.2.2
      have hv : Good (n :: r) (pre (.mk 1 n [])).length (.mk 1 n []) := (good_mk 1 (okN_var (hn n List.mem_cons_self)) (by decide) (fun _ => List.mem_cons_self) (by simp) (by simp [pres_nil])).len
      have hv1 : (pre (.mk 1 n [])).length = 1 := by rw [pre_eq, fm_kids, pres_nil]; rfl
      have hnv : Good (n :: r) (pre (.mk 4 ⟨#[]⟩ [.mk 1 n []])).length (.mk 4 ⟨#[]⟩ [.mk 1 n []]) := (good_mk 2 okN_not (by decide) (by simp) (by simpa using hv) (by rw [pres_cons, pres_nil, List.length_append, hv1]; simp)).len
      have hn1 : (pre (.mk 4 ⟨#[]⟩ [.mk 1 n []])).length = 2 := by rw [pre_eq, fm_kids, pres_cons, pres_nil, List.length_cons, List.length_append, hv1]; rfl
      have a1 : Good (n :: r) (2 + (pre x).length) (.mk 5 ⟨#[]⟩ [.mk 1 n [], x]) := good_mk _ (okN_two (.inl rfl)) (by decide) (by simp) (by simpa using ⟨hv, h1.len⟩) (by rw [pres_cons, pres_cons, pres_nil]; simp [hv1]; omega)
      have a2 : Good (n :: r) (3 + (pre y).length) (.mk 5 ⟨#[]⟩ [.mk 4 ⟨#[]⟩ [.mk 1 n []], y]) := good_mk _ (okN_two (.inl rfl)) (by decide) (by simp) (by simpa using ⟨hnv, h2.len⟩) (by rw [pres_cons, pres_cons, pres_nil]; simp [hn1]; omega)
      refine good_mk _ (okN_two (.inr (.inl rfl))) (by decide) (by simp) (by simpa using ⟨a1.len, a2.len⟩) ?_
      have := a1.2.2
      have := a2.2.2
      rw [pres_cons, pres_cons, pres_nil]
      simp only [List.length_append, List.length_nil]
      omega
/-- no formula that is good is vast -/
theorem vast_small (f : Fm) : ∀ d : Int, (∀ x ∈ pre f, okN x) → (pre f).length + d ≤ 25000 → vastB f d = false := by
  induction f using Fm.ind with
  | h f ih =>
    intro d hf hd
    have h1 := (hf f (by rw [pre_eq]; exact List.mem_cons_self)).2.1
    have hk : (f.kids.length : Int) ≤ 2 := by rw [h1]; unfold kidsN; (repeat' split) <;> omega
    rw [pre_eq, List.length_cons] at hd
    rw [vastB_eq]
    have e1 : decide (25000 < d) = false := decide_eq_false (by omega)
    have e2 : decide (25000 < (f.kids.length : Int)) = false := decide_eq_false (by omega)
    rw [e1, e2, Bool.false_or, Bool.false_or]
    have hs : ∀ l : List Fm, (∀ g ∈ l, g ∈ f.kids) → (pres l).length + (d + 1) ≤ 25000 → vastsB l (d + 1) = false := by
      intro l
      induction l with
      | nil => intro _ _; rfl
      | cons a r ihl =>
        intro hl hlen
        rw [pres_cons, List.length_append] at hlen
        rw [vastsB, ih a (hl a List.mem_cons_self) (d + 1) (fun x hx => hf x (by rw [pre_eq]; exact List.mem_cons_of_mem _ (pres_mem hx _ (hl a List.mem_cons_self)))) (by omega), Bool.false_or]
        exact ihl (fun g hg => hl g (List.mem_cons_of_mem _ hg)) (by omega)
    exact hs f.kids (fun g hg => hg) (by omega)
end Go.Proofs.Ytnoklmapofogeaa
