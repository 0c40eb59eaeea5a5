/-
  Two orders side by side: a lattice of a kind just where both are.
-/
import Derived.Test.YthnobaacfjihcaaAlgL
namespace Go.Proofs.Ythnobaacfjihcaa
set_option linter.unusedVariables false
set_option linter.unusedSectionVars false

/-- things of two orders, told by one number -/
def prT (m : Nat) (s t : Nat → Nat → Bool) (x y : Nat) : Bool := s (x / m) (y / m) && t (x % m) (y % m)
theorem pr_div {m a b : Nat} (hb : b < m) : (a * m + b) / m = a := by rw [Nat.mul_comm, Nat.mul_add_div (by omega), Nat.div_eq_of_lt hb, Nat.add_zero]
theorem pr_mod {m a b : Nat} (hb : b < m) : (a * m + b) % m = b := by rw [Nat.mul_comm, Nat.mul_add_mod, Nat.mod_eq_of_lt hb]
theorem pr_lt {n m a b : Nat} (ha : a < n) (hb : b < m) : a * m + b < n * m := by
  have : a * m + m ≤ n * m := by rw [← Nat.succ_mul]; exact Nat.mul_le_mul_right m ha
  omega
theorem pr_self {m x : Nat} (hm : 0 < m) : x / m * m + x % m = x := by rw [Nat.mul_comm]; exact Nat.div_add_mod x m
theorem pr_d {n m x : Nat} (h : x < n * m) : x / m < n := Nat.div_lt_of_lt_mul (by rw [Nat.mul_comm]; exact h)
section
variable {n m : Nat} {s t : Nat → Nat → Bool} (S : PO n s) (T : PO m t) (hn : 0 < n) (hm : 0 < m)
include S T hn hm
theorem pr_po : PO (n * m) (prT m s t) where
  refl := fun i hi => by simp [prT, S.refl _ (pr_d hi), T.refl _ (Nat.mod_lt i hm)]
  trans := fun i j k hi hj hk h1 h2 => by
    simp only [prT, Bool.and_eq_true] at h1 h2 ⊢
    exact ⟨S.trans _ _ _ (pr_d hi) (pr_d hj) (pr_d hk) h1.1 h2.1, T.trans _ _ _ (Nat.mod_lt i hm) (Nat.mod_lt j hm) (Nat.mod_lt k hm) h1.2 h2.2⟩
  anti := fun i j hi hj h1 h2 => by
    simp only [prT, Bool.and_eq_true] at h1 h2
    have e1 := S.anti _ _ (pr_d hi) (pr_d hj) h1.1 h2.1
    have e2 := T.anti _ _ (Nat.mod_lt i hm) (Nat.mod_lt j hm) h1.2 h2.2
    rw [← pr_self (x := i) hm, ← pr_self (x := j) hm, e1, e2]
end
section
variable {n m : Nat} {s t : Nat → Nat → Bool}
/-- half of it: joins -/
def hasJ (n : Nat) (t : Nat → Nat → Bool) : Prop := ∀ a b, a < n → b < n → ∃ c, c < n ∧ t a c = true ∧ t b c = true ∧ ∀ d, d < n → t a d = true → t b d = true → t c d = true
theorem join_ne {n : Nat} {t : Nat → Nat → Bool} {a b : Nat} : joinI n t a b ≠ -1 ↔ ∃ c, c < n ∧ t a c = true ∧ t b c = true ∧ ∀ d, d < n → t a d = true → t b d = true → t c d = true := by
  rcases best_spec n (fun c => t a c && t b c) (fun c d => t c d) with ⟨h, h1⟩ | ⟨c, hc, h, h1, h2⟩
  · constructor
    · intro g; exact absurd h g
    · rintro ⟨c, hc, g1, g2, g3⟩
      exact absurd ⟨c, hc, by simp [g1, g2], fun d hd hf => by rw [Bool.and_eq_true] at hf; exact g3 d hd hf.1 hf.2⟩ h1
  · constructor
    · intro _
      rw [Bool.and_eq_true] at h1
      exact ⟨c, hc, h1.1, h1.2, fun d hd g1 g2 => h2 d hd (by simp [g1, g2])⟩
    · intro _ g
      unfold joinI at g
      rw [g] at h
      omega
theorem isLat_has : isLat n t = true ↔ hasJ n t ∧ hasJ n (flipT t) := by
  rw [isLat_iff]
  constructor
  · intro h
    exact ⟨fun a b ha hb => join_ne.1 (h a b ha hb).1, fun a b ha hb => join_ne.1 (h a b ha hb).2⟩
  · intro h a b ha hb
    exact ⟨join_ne.2 (h.1 a b ha hb), join_ne.2 (h.2 a b ha hb)⟩
theorem prT_flip : prT m (flipT s) (flipT t) = flipT (prT m s t) := rfl
theorem prT_at {a b c d : Nat} (hb : b < m) (hd : d < m) : prT m s t (a * m + b) (c * m + d) = (s a c && t b d) := by
  unfold prT; rw [pr_div hb, pr_div hd, pr_mod hb, pr_mod hd]
theorem pr_hasJ (S : PO n s) (T : PO m t) (hn : 0 < n) (hm : 0 < m) : hasJ (n * m) (prT m s t) ↔ hasJ n s ∧ hasJ m t := by
  constructor
  · intro h
    refine ⟨fun a b ha hb => ?_, fun a b ha hb => ?_⟩
    · obtain ⟨c, hc, h1, h2, h3⟩ := h (a * m + 0) (b * m + 0) (pr_lt ha hm) (pr_lt hb hm)
      have hcm := Nat.mod_lt c hm
      unfold prT at h1 h2
      rw [pr_div hm, pr_mod hm, Bool.and_eq_true] at h1 h2
      refine ⟨c / m, pr_d hc, h1.1, h2.1, fun d hd g1 g2 => ?_⟩
      have := h3 (d * m + c % m) (pr_lt hd hcm) (by rw [prT_at hm hcm, g1, h1.2]; rfl) (by rw [prT_at hm hcm, g2, h2.2]; rfl)
      unfold prT at this
      rw [pr_div hcm, Bool.and_eq_true] at this
      exact this.1
    · obtain ⟨c, hc, h1, h2, h3⟩ := h (0 * m + a) (0 * m + b) (pr_lt hn ha) (pr_lt hn hb)
      have hcd := pr_d hc
      have hcm := Nat.mod_lt c hm
      unfold prT at h1 h2
      rw [pr_div ha, pr_mod ha, Bool.and_eq_true] at h1
      rw [pr_div hb, pr_mod hb, Bool.and_eq_true] at h2
      refine ⟨c % m, hcm, h1.2, h2.2, fun d hd g1 g2 => ?_⟩
      have := h3 (c / m * m + d) (pr_lt hcd hd) (by rw [prT_at ha hd, g1, h1.1]; rfl) (by rw [prT_at hb hd, g2, h2.1]; rfl)
      unfold prT at this
      rw [pr_mod hd, Bool.and_eq_true] at this
      exact this.2
  · rintro ⟨h1, h2⟩ x y hx hy
    obtain ⟨c, hc, a1, a2, a3⟩ := h1 (x / m) (y / m) (pr_d hx) (pr_d hy)
    obtain ⟨d, hd, b1, b2, b3⟩ := h2 (x % m) (y % m) (Nat.mod_lt x hm) (Nat.mod_lt y hm)
    refine ⟨c * m + d, pr_lt hc hd, by unfold prT; rw [pr_div hd, pr_mod hd, a1, b1]; rfl, by unfold prT; rw [pr_div hd, pr_mod hd, a2, b2]; rfl, fun z hz g1 g2 => ?_⟩
    unfold prT at g1 g2 ⊢
    rw [Bool.and_eq_true] at g1 g2
    rw [pr_div hd, pr_mod hd, a3 _ (pr_d hz) g1.1 g2.1, b3 _ (Nat.mod_lt z hm) g1.2 g2.2]; rfl
theorem pr_isLat (S : PO n s) (T : PO m t) (hn : 0 < n) (hm : 0 < m) : isLat (n * m) (prT m s t) = (isLat n s && isLat m t) := by
  rw [Bool.eq_iff_iff, Bool.and_eq_true, isLat_has, isLat_has, isLat_has, pr_hasJ S T hn hm, ← prT_flip, pr_hasJ S.flip T.flip hn hm]
  exact ⟨fun ⟨⟨a, b⟩, c, d⟩ => ⟨⟨a, c⟩, b, d⟩, fun ⟨⟨a, c⟩, b, d⟩ => ⟨⟨a, b⟩, c, d⟩⟩
/-- both are lattices -/
theorem pr_jn (hS : La n s) (hT : La m t) (hn : 0 < n) (hm : 0 < m) {x y : Nat} (hx : x < n * m) (hy : y < n * m) : jn (n * m) (prT m s t) x y = jn n s (x / m) (y / m) * m + jn m t (x % m) (y % m) := by
  have hP : La (n * m) (prT m s t) := ⟨pr_po hS.toPO hT.toPO hn hm, by rw [pr_isLat hS.toPO hT.toPO hn hm, hS.lat, hT.lat]; rfl⟩
  have xd := pr_d hx
  have yd := pr_d hy
  have xm := Nat.mod_lt x hm
  have ym := Nat.mod_lt y hm
  have l1 := hS.jlt xd yd
  have l2 := hT.jlt xm ym
  have hz := pr_lt l1 l2
  refine hP.anti _ _ (hP.jlt hx hy) hz (hP.jl hx hy hz ?_ ?_) ?_
  · unfold prT; rw [pr_div l2, pr_mod l2, hS.j1 xd yd, hT.j1 xm ym]; rfl
  · unfold prT; rw [pr_div l2, pr_mod l2, hS.j2 xd yd, hT.j2 xm ym]; rfl
  · have hw := hP.jlt hx hy
    have g1 := hP.j1 hx hy
    have g2 := hP.j2 hx hy
    generalize jn (n * m) (prT m s t) x y = w at hw g1 g2 ⊢
    unfold prT at g1 g2 ⊢
    rw [Bool.and_eq_true] at g1 g2
    rw [pr_div l2, pr_mod l2, hS.jl xd yd (pr_d hw) g1.1 g2.1, hT.jl xm ym (Nat.mod_lt w hm) g1.2 g2.2]; rfl
theorem pr_mt (hS : La n s) (hT : La m t) (hn : 0 < n) (hm : 0 < m) {x y : Nat} (hx : x < n * m) (hy : y < n * m) : mt (n * m) (prT m s t) x y = mt n s (x / m) (y / m) * m + mt m t (x % m) (y % m) :=
  pr_jn (s := flipT s) (t := flipT t) hS.flip hT.flip hn hm hx hy
theorem pr_inj {a b c d : Nat} (hb : b < m) (hd : d < m) (h : a * m + b = c * m + d) : a = c ∧ b = d := by
  have h1 := congrArg (· / m) h
  have h2 := congrArg (· % m) h
  simp only [pr_div hb, pr_div hd, pr_mod hb, pr_mod hd] at h1 h2
  exact ⟨h1, h2⟩
theorem La.jself (hS : La n s) {a : Nat} (ha : a < n) : jn n s a a = a := hS.anti _ _ (hS.jlt ha ha) ha (hS.jl ha ha ha (hS.refl a ha) (hS.refl a ha)) (hS.j1 ha ha)
theorem La.mself (hS : La n s) {a : Nat} (ha : a < n) : mt n s a a = a := hS.flip.jself ha
theorem pr_mod_law (hS : La n s) (hT : La m t) (hn : 0 < n) (hm : 0 < m) : modL (n * m) (prT m s t) = (modL n s && modL m t) := by
  rw [Bool.eq_iff_iff, Bool.and_eq_true, mod_iff, mod_iff, mod_iff]
  have key : ∀ x y z, x < n * m → y < n * m → z < n * m → (jn (n * m) (prT m s t) x (mt (n * m) (prT m s t) y z) = mt (n * m) (prT m s t) (jn (n * m) (prT m s t) x y) z ↔
      jn n s (x / m) (mt n s (y / m) (z / m)) = mt n s (jn n s (x / m) (y / m)) (z / m) ∧ jn m t (x % m) (mt m t (y % m) (z % m)) = mt m t (jn m t (x % m) (y % m)) (z % m)) := by
    intro x y z hx hy hz
    have xd := pr_d hx; have yd := pr_d hy; have zd := pr_d hz
    have xm := Nat.mod_lt x hm; have ym := Nat.mod_lt y hm; have zm := Nat.mod_lt z hm
    have l1 := hS.mlt yd zd; have l2 := hT.mlt ym zm; have l3 := hS.jlt xd yd; have l4 := hT.jlt xm ym
    rw [pr_mt hS hT hn hm hy hz, pr_jn hS hT hn hm hx hy, pr_jn hS hT hn hm hx (pr_lt l1 l2), pr_mt hS hT hn hm (pr_lt l3 l4) hz, pr_div l2, pr_mod l2, pr_div l4, pr_mod l4]
    constructor
    · intro h; exact pr_inj (hT.jlt xm l2) (hT.mlt l4 zm) h
    · rintro ⟨h1, h2⟩; rw [h1, h2]
  constructor
  · intro h
    refine ⟨fun a b c ha hb hc hac => ?_, fun a b c ha hb hc hac => ?_⟩
    · have := (key _ _ _ (pr_lt ha hm) (pr_lt hb hm) (pr_lt hc hm)).1 (h (a * m + 0) (b * m + 0) (c * m + 0) (pr_lt ha hm) (pr_lt hb hm) (pr_lt hc hm) (by rw [prT_at hm hm, hac, hT.refl 0 hm]; rfl))
      have this := this.1
      simp only [pr_div hm] at this
      exact this
    · have := (key _ _ _ (pr_lt hn ha) (pr_lt hn hb) (pr_lt hn hc)).1 (h (0 * m + a) (0 * m + b) (0 * m + c) (pr_lt hn ha) (pr_lt hn hb) (pr_lt hn hc) (by rw [prT_at ha hc, hac, hS.refl 0 hn]; rfl))
      have this := this.2
      simp only [pr_mod ha, pr_mod hb, pr_mod hc] at this
      exact this
  · rintro ⟨h1, h2⟩ x y z hx hy hz hxz
    unfold prT at hxz
    rw [Bool.and_eq_true] at hxz
    exact (key x y z hx hy hz).2 ⟨h1 _ _ _ (pr_d hx) (pr_d hy) (pr_d hz) hxz.1, h2 _ _ _ (Nat.mod_lt x hm) (Nat.mod_lt y hm) (Nat.mod_lt z hm) hxz.2⟩
theorem pr_dist (hS : La n s) (hT : La m t) (hn : 0 < n) (hm : 0 < m) : distL (n * m) (prT m s t) = (distL n s && distL m t) := by
  rw [Bool.eq_iff_iff, Bool.and_eq_true, dist_iff, dist_iff, dist_iff]
  have key : ∀ x y z, x < n * m → y < n * m → z < n * m → (mt (n * m) (prT m s t) x (jn (n * m) (prT m s t) y z) = jn (n * m) (prT m s t) (mt (n * m) (prT m s t) x y) (mt (n * m) (prT m s t) x z) ↔
      mt n s (x / m) (jn n s (y / m) (z / m)) = jn n s (mt n s (x / m) (y / m)) (mt n s (x / m) (z / m)) ∧ mt m t (x % m) (jn m t (y % m) (z % m)) = jn m t (mt m t (x % m) (y % m)) (mt m t (x % m) (z % m))) := by
    intro x y z hx hy hz
    have xd := pr_d hx; have yd := pr_d hy; have zd := pr_d hz
    have xm := Nat.mod_lt x hm; have ym := Nat.mod_lt y hm; have zm := Nat.mod_lt z hm
    have l1 := hS.jlt yd zd; have l2 := hT.jlt ym zm; have l3 := hS.mlt xd yd; have l4 := hT.mlt xm ym; have l5 := hS.mlt xd zd; have l6 := hT.mlt xm zm
    rw [pr_jn hS hT hn hm hy hz, pr_mt hS hT hn hm hx hy, pr_mt hS hT hn hm hx hz, pr_mt hS hT hn hm hx (pr_lt l1 l2), pr_jn hS hT hn hm (pr_lt l3 l4) (pr_lt l5 l6), pr_div l2, pr_mod l2, pr_div l4, pr_mod l4, pr_div l6, pr_mod l6]
    constructor
    · intro h; exact pr_inj (hT.mlt xm l2) (hT.jlt l4 l6) h
    · rintro ⟨h1, h2⟩; rw [h1, h2]
  constructor
  · intro h
    refine ⟨fun a b c ha hb hc => ?_, fun a b c ha hb hc => ?_⟩
    · have := (key _ _ _ (pr_lt ha hm) (pr_lt hb hm) (pr_lt hc hm)).1 (h (a * m + 0) (b * m + 0) (c * m + 0) (pr_lt ha hm) (pr_lt hb hm) (pr_lt hc hm))
      have this := this.1
      simp only [pr_div hm] at this
      exact this
    · have := (key _ _ _ (pr_lt hn ha) (pr_lt hn hb) (pr_lt hn hc)).1 (h (0 * m + a) (0 * m + b) (0 * m + c) (pr_lt hn ha) (pr_lt hn hb) (pr_lt hn hc))
      have this := this.2
      simp only [pr_mod ha, pr_mod hb, pr_mod hc] at this
      exact this
  · rintro ⟨h1, h2⟩ x y z hx hy hz
    exact (key x y z hx hy hz).2 ⟨h1 _ _ _ (pr_d hx) (pr_d hy) (pr_d hz), h2 _ _ _ (Nat.mod_lt x hm) (Nat.mod_lt y hm) (Nat.mod_lt z hm)⟩
/-- the greatest thing -/
theorem La.top (hS : La n s) (hn : 0 < n) : topL n s < n ∧ ∀ y, y < n → s y (topL n s) = true := by
  unfold topL
  suffices h : ∀ k, k ≤ n → (List.range k).foldl (jn n s) 0 < n ∧ ∀ y, y < k → s y ((List.range k).foldl (jn n s) 0) = true by
    exact h n (Nat.le_refl _)
  intro k
  induction k with
  | zero => intro _; exact ⟨hn, fun y h => by omega⟩
  | succ k ih =>
    intro hk
    obtain ⟨h1, h2⟩ := ih (by omega)
    rw [List.range_succ, List.foldl_append]
    simp only [List.foldl_cons, List.foldl_nil]
    have hj := hS.jlt h1 (show k < n by omega)
    refine ⟨hj, fun y hy => ?_⟩
    by_cases e : y = k
    · subst e; exact hS.j2 h1 (by omega)
    · exact hS.trans _ _ _ (by omega) h1 hj (h2 y (by omega)) (hS.j1 h1 (by omega))
theorem La.top_eq (hS : La n s) (hn : 0 < n) {z : Nat} (hz : z < n) (h : ∀ y, y < n → s y z = true) : topL n s = z :=
  hS.anti _ _ (hS.top hn).1 hz (h _ (hS.top hn).1) ((hS.top hn).2 z hz)
theorem pr_top (hS : La n s) (hT : La m t) (hn : 0 < n) (hm : 0 < m) : topL (n * m) (prT m s t) = topL n s * m + topL m t := by
  have hP : La (n * m) (prT m s t) := ⟨pr_po hS.toPO hT.toPO hn hm, by rw [pr_isLat hS.toPO hT.toPO hn hm, hS.lat, hT.lat]; rfl⟩
  obtain ⟨a1, a2⟩ := hS.top hn
  obtain ⟨b1, b2⟩ := hT.top hm
  refine hP.top_eq (Nat.mul_pos hn hm) (pr_lt a1 b1) fun y hy => ?_
  unfold prT
  rw [pr_div b1, pr_mod b1, a2 _ (pr_d hy), b2 _ (Nat.mod_lt y hm)]; rfl
theorem bot_top {n : Nat} {t : Nat → Nat → Bool} : botL n t = topL n (flipT t) := rfl
theorem pr_bot (hS : La n s) (hT : La m t) (hn : 0 < n) (hm : 0 < m) : botL (n * m) (prT m s t) = botL n s * m + botL m t := by
  rw [bot_top, bot_top, bot_top, ← prT_flip]
  exact pr_top hS.flip hT.flip hn hm
theorem comp_iff {n : Nat} {t : Nat → Nat → Bool} : compL n t = true ↔ ∀ a, a < n → ∃ b, b < n ∧ jn n t a b = topL n t ∧ mt n t a b = botL n t := by
  simp [compL]
theorem pr_comp (hS : La n s) (hT : La m t) (hn : 0 < n) (hm : 0 < m) : compL (n * m) (prT m s t) = (compL n s && compL m t) := by
  rw [Bool.eq_iff_iff, Bool.and_eq_true, comp_iff, comp_iff, comp_iff, pr_top hS hT hn hm, pr_bot hS hT hn hm]
  have tS := hS.top hn
  have tT := hT.top hm
  have bT : botL m t < m := (hT.flip.top hm).1
  have key : ∀ x y, x < n * m → y < n * m → (jn (n * m) (prT m s t) x y = topL n s * m + topL m t ∧ mt (n * m) (prT m s t) x y = botL n s * m + botL m t ↔
      (jn n s (x / m) (y / m) = topL n s ∧ mt n s (x / m) (y / m) = botL n s) ∧ (jn m t (x % m) (y % m) = topL m t ∧ mt m t (x % m) (y % m) = botL m t)) := by
    intro x y hx hy
    have xd := pr_d hx; have yd := pr_d hy
    have xm := Nat.mod_lt x hm; have ym := Nat.mod_lt y hm
    rw [pr_jn hS hT hn hm hx hy, pr_mt hS hT hn hm hx hy]
    constructor
    · rintro ⟨h1, h2⟩
      obtain ⟨a1, a2⟩ := pr_inj (hT.jlt xm ym) tT.1 h1
      obtain ⟨b1, b2⟩ := pr_inj (hT.mlt xm ym) bT h2
      exact ⟨⟨a1, b1⟩, a2, b2⟩
    · rintro ⟨⟨a1, b1⟩, a2, b2⟩
      rw [a1, a2, b1, b2]; exact ⟨rfl, rfl⟩
  constructor
  · intro h
    refine ⟨fun a ha => ?_, fun a ha => ?_⟩
    · obtain ⟨y, hy, g1, g2⟩ := h (a * m + 0) (pr_lt ha hm)
      have := ((key _ _ (pr_lt ha hm) hy).1 ⟨g1, g2⟩).1
      rw [pr_div hm] at this
      exact ⟨y / m, pr_d hy, this⟩
    · obtain ⟨y, hy, g1, g2⟩ := h (0 * m + a) (pr_lt hn ha)
      have := ((key _ _ (pr_lt hn ha) hy).1 ⟨g1, g2⟩).2
      rw [pr_mod ha] at this
      exact ⟨y % m, Nat.mod_lt y hm, this⟩
  · rintro ⟨h1, h2⟩ x hx
    obtain ⟨b, hb, g1⟩ := h1 _ (pr_d hx)
    obtain ⟨c, hc, g2⟩ := h2 _ (Nat.mod_lt x hm)
    refine ⟨b * m + c, pr_lt hb hc, (key x _ hx (pr_lt hb hc)).2 ?_⟩
    rw [pr_div hc, pr_mod hc]
    exact ⟨g1, g2⟩
/-- two orders side by side are a lattice of a kind just where both are -/
theorem kind_pr (S : PO n s) (T : PO m t) (hn : 0 < n) (hm : 0 < m) : kindL (n * m) (prT m s t) = List.zipWith (· && ·) (kindL n s) (kindL m t) := by
  unfold kindL
  rw [pr_isLat S T hn hm]
  cases hs : isLat n s with
  | false => cases isLat m t <;> simp
  | true =>
    cases ht : isLat m t with
    | false => simp
    | true =>
      have hS : La n s := ⟨S, hs⟩
      have hT : La m t := ⟨T, ht⟩
      simp only [Bool.and_self, if_true, pr_mod_law hS hT hn hm, pr_dist hS hT hn hm, pr_comp hS hT hn hm, List.zipWith_cons_cons, List.zipWith_nil_left]
      cases modL n s <;> cases modL m t <;> cases distL n s <;> cases distL m t <;> cases compL n s <;> cases compL m t <;> rfl
end
end Go.Proofs.Ythnobaacfjihcaa
