/-
  Plain laws: six formulas tell of six shapes.
-/
import Derived.Test.YtbmpmmbcfabeeaaQTs
namespace Go.Proofs.Ytbmpmmbcfabeeaa
open Go Go.Pv
set_option linter.unusedVariables false
set_option linter.unusedSimpArgs false
set_option maxRecDepth 100000

theorem bits_of : ∀ (n : Nat) (P : Nat → Bool), ∃ k, k < 2 ^ n ∧ ∀ w, w < n → k.testBit w = P w := by
  intro n
  induction n with
  | zero => intro P; exact ⟨0, by simp, fun w h => by omega⟩
  | succ n ih =>
    intro P
    obtain ⟨k, hk, h⟩ := ih fun w => P (w + 1)
    refine ⟨2 * k + (P 0).toNat, ?_, fun w hw => ?_⟩
    · rw [Nat.pow_succ]
      have : (P 0).toNat ≤ 1 := by cases P 0 <;> simp
      omega
    · cases w with
      | zero => rw [Nat.testBit_zero]; cases P 0 <;> simp <;> omega
      | succ w =>
        rw [Nat.testBit_succ, show (2 * k + (P 0).toNat) / 2 = k from by have : (P 0).toNat ≤ 1 := by cases P 0 <;> simp
                                                                         omega]
        exact h w (by omega)
section
variable {n : Nat} {g : Nat → Nat → Bool}
def BoxP (n : Nat) (g : Nat → Nat → Bool) (P : Nat → Prop) (w : Nat) : Prop := ∀ v, v < n → g w v = true → P v
def DiaP (n : Nat) (g : Nat → Nat → Bool) (P : Nat → Prop) (w : Nat) : Prop := ∃ v, v < n ∧ g w v = true ∧ P v
def formP (n : Nat) (g : Nat → Nat → Bool) (P : Nat → Prop) : Nat → Nat → Prop
  | 0, w => BoxP n g P w → P w
  | 1, w => BoxP n g P w → BoxP n g (BoxP n g P) w
  | 2, w => P w → BoxP n g (DiaP n g P) w
  | 3, w => DiaP n g P w → BoxP n g (DiaP n g P) w
  | 4, w => BoxP n g P w → DiaP n g P w
  | _, w => BoxP n g (fun v => BoxP n g P v → P v) w → BoxP n g P w
theorem countP_lt {p q : Nat → Bool} : ∀ l : List Nat, (∀ x, p x = true → q x = true) → (∃ x ∈ l, q x = true ∧ p x = false) → l.countP p < l.countP q := by
  intro l
  induction l with
  | nil => intro _ h; obtain ⟨x, hx, _⟩ := h; cases hx
  | cons a r ih =>
    intro h1 h2
    have hle : r.countP p ≤ r.countP q := List.countP_mono_left fun x _ => h1 x
    obtain ⟨x, hx, hq, hp⟩ := h2
    rcases List.mem_cons.1 hx with rfl | hx
    · rw [List.countP_cons_of_neg (by simp [hp]), List.countP_cons_of_pos hq]; omega
    · have := ih h1 ⟨x, hx, hq, hp⟩
      by_cases ha : p a = true
      · rw [List.countP_cons_of_pos ha, List.countP_cons_of_pos (h1 a ha)]; omega
      · rw [List.countP_cons_of_neg ha]
        by_cases hqa : q a = true
        · rw [List.countP_cons_of_pos hqa]; omega
        · rw [List.countP_cons_of_neg hqa]; exact this
theorem loeb_up (ht : ∀ u v w, u < n → v < n → w < n → g u v = true → g v w = true → g u w = true) (hi : ∀ u, u < n → g u u = false) (P : Nat → Prop) (u : Nat) (hu : u < n)
    (h : BoxP n g (fun v => BoxP n g P v → P v) u) : BoxP n g P u := by
  have main : ∀ k v, ((List.range n).countP fun x => decide (x < n) && g v x) < k → v < n → g u v = true → P v := by
    intro k
    induction k with
    | zero => intro v hk; omega
    | succ k ih =>
      intro v hk hv huv
      refine h v hv huv fun w hw hvw => ih w ?_ hw (ht u v w hu hv hw huv hvw)
      refine Nat.lt_of_lt_of_le (countP_lt (List.range n) (fun x hx => ?_) ⟨w, by simpa using hw, by simp [hw, hvw], by simp [hw, hi w hw]⟩) (Nat.le_of_lt_succ hk)
      simp only [Bool.and_eq_true, decide_eq_true_eq] at hx ⊢
      exact ⟨hx.1, ht v w x hv hw hx.1 hvw hx.2⟩
  exact fun v hv huv => main _ v (Nat.lt_succ_self _) hv huv
theorem loeb_down (h : ∀ P : Nat → Bool, ∀ w, w < n → BoxP n g (fun v => BoxP n g (fun x => P x = true) v → P v = true) w → BoxP n g (fun x => P x = true) w) :
    (∀ u v w, u < n → v < n → w < n → g u v = true → g v w = true → g u w = true) ∧ ∀ u, u < n → g u u = false := by
  constructor
  · intro u v w hu hv hw huv hvw
    have := h (fun x => g u x && (List.range n).all fun y => !g x y || g u y) u hu ?_ v hv huv
    · simp only [Bool.and_eq_true, List.all_eq_true, List.mem_range, Bool.or_eq_true, Bool.not_eq_true'] at this
      rcases this.2 w hw with h1 | h1
      · rw [h1] at hvw; cases hvw
      · exact h1
    · intro x hx hux hb
      simp only [Bool.and_eq_true, List.all_eq_true, List.mem_range, Bool.or_eq_true, Bool.not_eq_true']
      refine ⟨hux, fun y hy => ?_⟩
      by_cases hxy : g x y = true
      · have := hb y hy hxy
        simp only [Bool.and_eq_true] at this
        exact .inr this.1
      · left; simpa using hxy
  · intro u hu
    by_cases hg : g u u = true
    · exfalso
      have := h (fun x => decide (x ≠ u)) u hu ?_ u hu hg
      · simp at this
      · intro v hv huv hb
        by_cases e : v = u
        · subst e; have := hb v hv hg; simp at this
        · simpa using e
    · simpa using hg
theorem steps_iff {is : Nat → Nat → Nat → Bool} : steps n g is = true ↔ ∀ u v w, u < n → v < n → w < n → g u v = true → is u v w = true := by
  unfold steps
  simp only [List.all_eq_true, List.mem_range, Bool.or_eq_true, Bool.not_eq_true']
  constructor
  · intro h u v w hu hv hw huv
    rcases h u hu v hv with h1 | h1
    · rw [h1] at huv; cases huv
    · exact h1 w hw
  · intro h u hu v hv
    by_cases huv : g u v = true
    · exact .inr fun w hw => h u v w hu hv hw huv
    · left; simpa using huv
theorem allN_iff {p : Nat → Bool} : allN n p = true ↔ ∀ u, u < n → p u = true := by unfold allN; simp
theorem transF_iff : transF n g = true ↔ ∀ u v w, u < n → v < n → w < n → g u v = true → g v w = true → g u w = true := by
  unfold transF
  rw [steps_iff]
  constructor
  · intro h u v w hu hv hw huv hvw
    have := h u v w hu hv hw huv
    rw [hvw] at this; simpa using this
  · intro h u v w hu hv hw huv
    cases hvw : g v w with
    | false => rfl
    | true => simpa using h u v w hu hv hw huv hvw
def shapeAt (n : Nat) (g : Nat → Nat → Bool) (i : Nat) : Bool := ((shapeL n g)[i]?).getD false
theorem shape_form (i : Nat) (hi : i < 6) : shapeAt n g i = true ↔ ∀ P : Nat → Bool, ∀ w, w < n → formP n g (fun x => P x = true) i w := by
  obtain rfl | rfl | rfl | rfl | rfl | rfl : i = 0 ∨ i = 1 ∨ i = 2 ∨ i = 3 ∨ i = 4 ∨ i = 5 := by omega
  · show allN n _ = true ↔ _
    rw [allN_iff]
    constructor
    · intro h P w hw hb; exact hb w hw (h w hw)
    · intro h u hu; exact h (g u) u hu fun v hv hg => hg
  · show transF n g = true ↔ _
    rw [transF_iff]
    constructor
    · intro h P u hu hb v hv huv w hw hvw; exact hb w hw (h u v w hu hv hw huv hvw)
    · intro h u v w hu hv hw huv hvw; exact h (g u) u hu (fun v hv hg => hg) v hv huv w hw hvw
  · show steps n g _ = true ↔ _
    rw [steps_iff]
    constructor
    · intro h P u hu hp v hv huv; exact ⟨u, hu, h u v u hu hv hu huv, hp⟩
    · intro h u v w hu hv hw huv
      obtain ⟨x, hx, hvx, hp⟩ := h (fun x => decide (x = u)) u hu (by simp) v hv huv
      have : x = u := by simpa using hp
      subst this; exact hvx
  · show steps n g _ = true ↔ _
    rw [steps_iff]
    constructor
    · intro h P u hu hd v hv huv
      obtain ⟨w, hw, huw, hp⟩ := hd
      have := h u v w hu hv hw huv
      rw [huw] at this
      exact ⟨w, hw, by simpa using this, hp⟩
    · intro h u v w hu hv hw huv
      cases huw : g u w with
      | false => rfl
      | true =>
        obtain ⟨x, hx, hvx, hp⟩ := h (fun x => decide (x = w)) u hu ⟨w, hw, huw, by simp⟩ v hv huv
        have : x = w := by simpa using hp
        subst this; simpa using hvx
  · show allN n _ = true ↔ _
    rw [allN_iff]
    constructor
    · intro h P u hu hb
      have := h u hu
      simp only [List.any_eq_true, List.mem_range] at this
      obtain ⟨v, hv, huv⟩ := this
      exact ⟨v, hv, huv, hb v hv huv⟩
    · intro h u hu
      obtain ⟨v, hv, huv, _⟩ := h (fun _ => true) u hu fun v hv hg => rfl
      simp only [List.any_eq_true, List.mem_range]
      exact ⟨v, hv, huv⟩
  · show (transF n g && allN n _) = true ↔ _
    rw [Bool.and_eq_true, transF_iff, allN_iff]
    constructor
    · intro h P u hu hb
      exact loeb_up h.1 (fun u hu => by simpa using h.2 u hu) _ u hu hb
    · intro h
      obtain ⟨h1, h2⟩ := loeb_down (n := n) (g := g) h
      exact ⟨h1, fun u hu => by simp [h2 u hu]⟩
end
def nP : ByteArray := ⟨#[112]⟩
def fP : Fm := .mk 1 nP []
def shF : Nat → Fm
  | 0 => of2 7 (of1 8 fP) fP
  | 1 => of2 7 (of1 8 fP) (of1 8 (of1 8 fP))
  | 2 => of2 7 fP (of1 8 (of1 9 fP))
  | 3 => of2 7 (of1 9 fP) (of1 8 (of1 9 fP))
  | 4 => of2 7 (of1 8 fP) (of1 9 fP)
  | _ => of2 7 (of1 8 (of2 7 (of1 8 fP) fP)) (of1 8 fP)
theorem shF_check (i : Nat) (hi : i < 6) : (formulaCheck (shF i)).1 = 0 := by
  obtain rfl | rfl | rfl | rfl | rfl | rfl : i = 0 ∨ i = 1 ∨ i = 2 ∨ i = 3 ∨ i = 4 ∨ i = 5 := by omega
  all_goals decide +kernel
theorem namesF_shF (i : Nat) (hi : i < 6) : namesF (shF i) = [nP] := by
  unfold namesF
  rw [comp_ins]
  obtain rfl | rfl | rfl | rfl | rfl | rfl : i = 0 ∨ i = 1 ∨ i = 2 ∨ i = 3 ∨ i = 4 ∨ i = 5 := by omega
  all_goals decide +kernel
theorem boxP_congr {n : Nat} {g h : Nat → Nat → Bool} {P Q : Nat → Prop} (hg : ∀ u v, u < n → v < n → g u v = h u v) (hp : ∀ w, w < n → (P w ↔ Q w)) {w : Nat} (hw : w < n) : BoxP n g P w ↔ BoxP n h Q w :=
  forall_congr' fun v => forall_congr' fun hv => by rw [hg w v hw hv, hp v hv]
theorem diaP_congr {n : Nat} {g h : Nat → Nat → Bool} {P Q : Nat → Prop} (hg : ∀ u v, u < n → v < n → g u v = h u v) (hp : ∀ w, w < n → (P w ↔ Q w)) {w : Nat} (hw : w < n) : DiaP n g P w ↔ DiaP n h Q w := by
  constructor
  · rintro ⟨v, hv, a, b⟩; exact ⟨v, hv, by rw [← hg w v hw hv]; exact a, (hp v hv).1 b⟩
  · rintro ⟨v, hv, a, b⟩; exact ⟨v, hv, by rw [hg w v hw hv]; exact a, (hp v hv).2 b⟩
theorem formP_congr {n : Nat} {g : Nat → Nat → Bool} {P Q : Nat → Prop} (hp : ∀ w, w < n → (P w ↔ Q w)) (i : Nat) (hi : i < 6) (w : Nat) (hw : w < n) : formP n g P i w ↔ formP n g Q i w := by
  have hg : ∀ u v, u < n → v < n → g u v = g u v := fun _ _ _ _ => rfl
  have b : ∀ {P Q : Nat → Prop}, (∀ w, w < n → (P w ↔ Q w)) → ∀ w, w < n → (BoxP n g P w ↔ BoxP n g Q w) := fun h w hw => boxP_congr hg h hw
  have d : ∀ {P Q : Nat → Prop}, (∀ w, w < n → (P w ↔ Q w)) → ∀ w, w < n → (DiaP n g P w ↔ DiaP n g Q w) := fun h w hw => diaP_congr hg h hw
  obtain rfl | rfl | rfl | rfl | rfl | rfl : i = 0 ∨ i = 1 ∨ i = 2 ∨ i = 3 ∨ i = 4 ∨ i = 5 := by omega
  · exact imp_congr (b hp w hw) (hp w hw)
  · exact imp_congr (b hp w hw) (b (b hp) w hw)
  · exact imp_congr (hp w hw) (b (d hp) w hw)
  · exact imp_congr (d hp w hw) (b (d hp) w hw)
  · exact imp_congr (b hp w hw) (d hp w hw)
  · exact imp_congr (b (fun v hv => imp_congr (b hp v hv) (hp v hv)) w hw) (b hp w hw)
theorem ev_shF (n : Nat) (t g : Nat → Nat → Bool) (hat : ∀ u v, u < n → v < n → t u v = g u v) (H : Nat → ByteArray → Bool) (i : Nat) (hi : i < 6) (P : Nat → Bool) (hh : ∀ w, H w nP = P w) (w : Nat) (hw : w < n) :
    ev n t H (shF i) w = true ↔ formP n g (fun x => P x = true) i w := by
  have a : ∀ w, w < n → (ev n t H fP w = true ↔ P w = true) := fun w _ => by unfold fP; rw [ev_1, hh]
  have b : ∀ {f : Fm} {Q : Nat → Prop}, (∀ w, w < n → (ev n t H f w = true ↔ Q w)) → ∀ w, w < n → (ev n t H (of1 8 f) w = true ↔ BoxP n g Q w) := fun h w hw => by
    unfold of1; rw [ev_8]; exact boxP_congr (P := fun v => ev n t H _ v = true) hat h hw
  have d : ∀ {f : Fm} {Q : Nat → Prop}, (∀ w, w < n → (ev n t H f w = true ↔ Q w)) → ∀ w, w < n → (ev n t H (of1 9 f) w = true ↔ DiaP n g Q w) := fun h w hw => by
    unfold of1; rw [ev_9]; exact diaP_congr (P := fun v => ev n t H _ v = true) hat h hw
  have c : ∀ {f1 f2 : Fm} {Q1 Q2 : Nat → Prop}, (∀ w, w < n → (ev n t H f1 w = true ↔ Q1 w)) → (∀ w, w < n → (ev n t H f2 w = true ↔ Q2 w)) → ∀ w, w < n → (ev n t H (of2 7 f1 f2) w = true ↔ (Q1 w → Q2 w)) := fun h1 h2 w hw => by
    unfold of2; rw [ev_7, ← h1 w hw, ← h2 w hw]
    cases ev n t H _ w <;> cases ev n t H _ w <;> simp
  obtain rfl | rfl | rfl | rfl | rfl | rfl : i = 0 ∨ i = 1 ∨ i = 2 ∨ i = 3 ∨ i = 4 ∨ i = 5 := by omega
  · exact c (b a) a w hw
  · exact c (b a) (b (b a)) w hw
  · exact c a (b (d a)) w hw
  · exact c (d a) (b (d a)) w hw
  · exact c (b a) (d a) w hw
  · exact c (b (c (b a) a)) (b a) w hw
theorem holds_shF (m : Mdl) (i : Nat) (hi : i < 6) (hc : (kripkeCheck m).1 = 0) (hn : m.n ≤ 8) : holdsV m (shF i) = (shapeAt m.n.toNat (fun i j => sees m.rel i j) i, (0, 0)) := by
  obtain ⟨hm1, hm2, hm3, hm4⟩ := model_of_check m hc
  unfold holdsV
  rw [if_neg (by omega), if_neg (by have := shF_check i hi; omega), namesF_shF i hi, if_neg (by simp; omega)]
  have hlen : (frameOf m).length = m.n.toNat := by simp [frameOf]
  refine Prod.ext ?_ rfl
  show (List.range (2 ^ (m.n.toNat * 1))).all (allK (frameOf m) [nP] (shF i)) = _
  rw [Bool.eq_iff_iff, shape_form i hi, List.all_eq_true]
  generalize hN : m.n.toNat = n at *
  have hat : ∀ u v, u < n → v < n → tabAt (frameOf m) u v = sees m.rel u v := fun u v hu hv => by simp [tabAt, frameOf, hN, hu, hv]
  have hidx : idx [nP] nP = 0 := by decide +kernel
  have key : ∀ k, allK (frameOf m) [nP] (shF i) k = true ↔ ∀ w, w < n → formP n (fun i j => sees m.rel i j) (fun x => k.testBit x = true) i w := by
    intro k
    unfold allK evL
    rw [hlen, Bool.not_eq_true', decide_eq_false_iff_not, List.mem_map]
    have h1 : (¬∃ a, a ∈ List.range n ∧ ev n (tabAt (frameOf m)) (holdK [nP] k) (shF i) a = false) ↔ ∀ w, w < n → ev n (tabAt (frameOf m)) (holdK [nP] k) (shF i) w = true := by
      constructor
      · intro h w hw
        cases e : ev n (tabAt (frameOf m)) (holdK [nP] k) (shF i) w with
        | true => rfl
        | false => exact absurd ⟨w, by simpa using hw, e⟩ h
      · rintro h ⟨w, hw, e⟩
        rw [h w (by simpa using hw)] at e; cases e
    rw [h1]
    have hh : ∀ w, holdK [nP] k w nP = k.testBit w := fun w => by unfold holdK; rw [hidx]; simp
    generalize holdK [nP] k = H at *
    exact forall_congr' fun w => forall_congr' fun hw => ev_shF n _ _ hat H i hi (fun w => k.testBit w) hh w hw
  constructor
  · intro h P w hw
    obtain ⟨k, hk, he⟩ := bits_of n P
    have := (key k).1 (h k (by simpa using hk)) w hw
    exact (formP_congr (fun w hw => by rw [he w hw]) i hi w hw).1 this
  · intro h k _
    exact (key k).2 fun w hw => h (fun x => k.testBit x) w hw
end Go.Proofs.Ytbmpmmbcfabeeaa
