import Derived.Test.YtcllmionhlmjfaaFFpR
set_option linter.unusedVariables false
set_option linter.unusedSimpArgs false
set_option maxRecDepth 100000
namespace Go.Proofs.Ytcllmionhlmjfaa
open Go Go.Pv
def kindR (k : Int) : Int := if k = 1 then 7 else if k = 2 then 6 else 5
def upR (k : Int) : Int := if k = 1 then 1 else k + 1
def parC (t : ByteArray) : Res → Res
 | .ok (g, e) => if (tokF t e).1 = ⟨#[41]⟩ then .ok (g, (tokF t e).2.2) else .error (tokF t e).2.1
 | .error q => .error q
def headC (t : ByteArray) (c : Nat → Int → Res) (i : Nat) : Res :=
 if (tokF t i).1 = ⟨#[126]⟩ then una 4 (c (tokF t i).2.2 4) else if (tokF t i).1 = ⟨#[91, 93]⟩ then una 8 (c (tokF t i).2.2 4) else if (tokF t i).1 = ⟨#[60, 62]⟩ then una 9 (c (tokF t i).2.2 4)
 else if (tokF t i).1 = ⟨#[40]⟩ then parC t (c (tokF t i).2.2 1)
 else if (tokF t i).1 = ⟨#[49]⟩ then .ok (.mk 2 ⟨#[]⟩ [], (tokF t i).2.2) else if (tokF t i).1 = ⟨#[48]⟩ then .ok (.mk 3 ⟨#[]⟩ [], (tokF t i).2.2)
 else if isNameB (tokF t i).1 = true then .ok (.mk 1 (tokF t i).1 [], (tokF t i).2.2) else .error (tokF t i).2.1
def loopC (t : ByteArray) (c : Nat → Int → Res) (least : Int) : Nat → Fm → Nat → Res
 | 0, f, i => .error i
 | m + 1, f, i => if rankF (tokF t i).1 = 0 ∨ rankF (tokF t i).1 < least then .ok (f, i) else match c (tokF t i).2.2 (upR (rankF (tokF t i).1)) with
  | .ok (g, e) => loopC t c least m (.mk (kindR (rankF (tokF t i).1)) ⟨#[]⟩ [f, g]) e
  | .error q => .error q
def climbF (t : ByteArray) : Nat → Nat → Int → Res
 | 0, i, _ => .error i
 | n + 1, i, least => match headC t (climbF t n) i with
  | .ok (f, j) => loopC t (climbF t n) least (t.size + 1) f j
  | .error q => .error q
section
variable {t : ByteArray}
theorem sgn_pos : ∀ w ∈ signs, 0 < w.size := by decide
theorem sgn_head : ∀ w ∈ signs, ∀ w' ∈ signs, w.data.toList.head? = w'.data.toList.head? → w = w' := by decide
theorem hp_uniq {w w' : ByteArray} {k : Nat} (hw : w ∈ signs) (hw' : w' ∈ signs) (h : hp t k w = true) (h' : hp t k w' = true) : w = w' := by
 obtain ⟨r, hr⟩ := (hp_B (sgn_pos w hw)).1 h
 obtain ⟨r', hr'⟩ := (hp_B (sgn_pos w' hw')).1 h'
 have hx : ∀ (v : ByteArray) (q : Bs), 0 < v.size → (v.data.toList ++ q).head? = v.data.toList.head? := by
  intro v q hv
  cases h : v.data.toList with
  | nil =>
   have : v.data.toList.length = 0 := by rw [h]; rfl
   have h2 : v.data.toList.length = v.size := rfl
   omega
  | cons c s => rfl
 refine sgn_head w hw w' hw' ?_
 rw [← hx w r (sgn_pos w hw), ← hr, hr', hx w' r' (sgn_pos w' hw')]
theorem hp_other {w w' : ByteArray} {k : Nat} (h : hp t k w = true) (hw : w ∈ signs) (hw' : w' ∈ signs) (hne : w ≠ w') : hp t k w' = false := by
 rw [← Bool.not_eq_true]
 exact fun h' => hne (hp_uniq hw hw' h h')
theorem find_uniq {p : ByteArray → Bool} {w : ByteArray} : ∀ l : List ByteArray, (∀ v ∈ l, p v = true → v = w) → w ∈ l → p w = true → l.find? p = some w
 | x :: l, hu, hm, hw => by
  rw [List.find?_cons]
  cases hx : p x with
  | true => rw [hu x (by simp) hx]
  | false =>
   rcases List.mem_cons.1 hm with rfl | hm
   ·rw [hw] at hx; cases hx
   ·exact find_uniq l (fun v hv => hu v (by simp [hv])) hm hw
theorem tok_sign {w : ByteArray} {i : Nat} (hw : w ∈ signs) (h : hp t (bl t i) w = true) : tokF t i = (w, bl t i, bl t i + w.size) := by
 have h1 : bl t i + w.size ≤ t.size := hp_le h
 have h2 := sgn_pos w hw
 unfold tokF
 rw [if_pos (by omega)]
 unfold signF
 rw [find_uniq signs (fun v hv hh => hp_uniq hv hw hh h) hw h]
abbrev nmAt (t : ByteArray) (k : Nat) : ByteArray := t.extract k (lte t k)
theorem nmAt_end {k : Nat} (h : ¬ k < t.size) : isNameB (nmAt t k) = false := by
 unfold nmAt
 rw [lte_end h]
 have : (t.extract k k).size = 0 := by simp
 unfold isNameB
 rw [this]; rfl
theorem nmAt_sign {w : ByteArray} {k : Nat} (hw : w ∈ signs) (h : hp t k w = true) : isNameB (nmAt t k) = false := by
 obtain ⟨r, hr⟩ := (hp_B (sgn_pos w hw)).1 h
 have hl : ∀ w ∈ signs, (w.data.toList.head?.map letterB) = some false := by decide
 have := hl w hw
 cases hc : w.data.toList with
 | nil => rw [hc] at this; cases this
 | cons c s =>
  rw [hc] at this hr
  have hlc : letterB c = false := Option.some.inj this
  obtain ⟨h1, h2, _⟩ := B_cons hr
  unfold nmAt
  rw [lte_stop h1 (by rw [h2]; exact hlc)]
  have : (t.extract k k).size = 0 := by simp
  unfold isNameB
  rw [this]; rfl
theorem tok_none {i : Nat} (h : ∀ w ∈ signs, hp t (bl t i) w = false) : (isNameB (nmAt t (bl t i)) = true ∧ tokF t i = (nmAt t (bl t i), bl t i, lte t (bl t i))) ∨ (isNameB (nmAt t (bl t i)) = false ∧ (tokF t i).2.1 = bl t i ∧ ((tokF t i).1 = ⟨#[63]⟩ ∨ (tokF t i).1 = ⟨#[]⟩)) := by
 by_cases hlt : bl t i < t.size
 ·have e : tokF t i = nameF t (bl t i) := by
   unfold tokF
   rw [if_pos hlt]
   unfold signF
   rw [List.find?_eq_none.2 (fun x hx => by simp [h x hx])]
  rw [e]
  unfold nameF
  by_cases hn : isNameB (nmAt t (bl t i)) = true
  ·rw [if_pos hn]; exact .inl ⟨hn, rfl⟩
  ·rw [if_neg hn]; exact .inr ⟨by simpa using hn, rfl, .inl rfl⟩
 ·have e : tokF t i = (⟨#[]⟩, bl t i, bl t i) := by unfold tokF; rw [if_neg hlt]
  rw [e]
  exact .inr ⟨nmAt_end hlt, rfl, .inr rfl⟩
theorem name_nosign {w : ByteArray} (h : isNameB w = true) : w ∉ signs ∧ w ≠ ⟨#[63]⟩ ∧ w ≠ ⟨#[]⟩ := by
 have h1 : ∀ w ∈ signs, isNameB w = false := by decide
 refine ⟨fun hm => ?_, ?_, ?_⟩
 ·rw [h1 w hm] at h; cases h
 ·rintro rfl; revert h; decide
 ·rintro rfl; revert h; decide
theorem tok_no {i : Nat} (h : ∀ w ∈ signs, hp t (bl t i) w = false) : (tokF t i).1 ∉ signs := by
 rcases tok_none h with ⟨h1, h2⟩ | ⟨_, _, h2 | h2⟩
 ·rw [h2]; exact (name_nosign h1).1
 ·rw [h2]; simp [signs]
 ·rw [h2]; simp [signs]
theorem sgn_cases (t : ByteArray) (i : Nat) : (∃ w ∈ signs, hp t (bl t i) w = true) ∨ ∀ w ∈ signs, hp t (bl t i) w = false := by
 by_cases h : ∃ w ∈ signs, hp t (bl t i) w = true
 ·exact .inl h
 ·refine .inr fun w hw => ?_
  rw [← Bool.not_eq_true]
  exact fun hh => h ⟨w, hw, hh⟩
theorem tok_is {w : ByteArray} {i : Nat} (hw : w ∈ signs) : (tokF t i).1 = w ↔ hp t (bl t i) w = true := by
 constructor
 ·intro h
  rcases sgn_cases t i with ⟨v, hv, hh⟩ | hn
  ·rw [tok_sign hv hh] at h
   exact h ▸ hh
  ·exact absurd (h ▸ hw) (tok_no hn)
 ·intro h; rw [tok_sign hw h]
theorem sAnd : (⟨#[38]⟩ : ByteArray) ∈ signs := by simp [signs]
theorem sOr : (⟨#[124]⟩ : ByteArray) ∈ signs := by simp [signs]
theorem sThen : (⟨#[45, 62]⟩ : ByteArray) ∈ signs := by simp [signs]
theorem rank_cases (t : ByteArray) (i : Nat) :
  (hp t (bl t i) ⟨#[38]⟩ = true ∧ rankF (tokF t i).1 = 3 ∧ (tokF t i).2.2 = bl t i + 1) ∨
  (hp t (bl t i) ⟨#[38]⟩ = false ∧ hp t (bl t i) ⟨#[124]⟩ = true ∧ rankF (tokF t i).1 = 2 ∧ (tokF t i).2.2 = bl t i + 1) ∨
  (hp t (bl t i) ⟨#[38]⟩ = false ∧ hp t (bl t i) ⟨#[124]⟩ = false ∧ hp t (bl t i) ⟨#[45, 62]⟩ = true ∧ rankF (tokF t i).1 = 1 ∧ (tokF t i).2.2 = bl t i + 2) ∨
  (hp t (bl t i) ⟨#[38]⟩ = false ∧ hp t (bl t i) ⟨#[124]⟩ = false ∧ hp t (bl t i) ⟨#[45, 62]⟩ = false ∧ rankF (tokF t i).1 = 0) := by
 cases h1 : hp t (bl t i) ⟨#[38]⟩ with
 | true => rw [tok_sign sAnd h1]; exact .inl ⟨rfl, rfl, rfl⟩
 | false =>
  cases h2 : hp t (bl t i) ⟨#[124]⟩ with
  | true => rw [tok_sign sOr h2]; exact .inr (.inl ⟨rfl, rfl, rfl, rfl⟩)
  | false =>
   cases h3 : hp t (bl t i) ⟨#[45, 62]⟩ with
   | true => rw [tok_sign sThen h3]; exact .inr (.inr (.inl ⟨rfl, rfl, rfl, rfl, rfl⟩))
   | false =>
    refine .inr (.inr (.inr ⟨rfl, rfl, rfl, ?_⟩))
    unfold rankF
    rw [if_neg, if_neg, if_neg]
    ·rw [tok_is sAnd, h1]; simp
    ·rw [tok_is sOr, h2]; simp
    ·rw [tok_is sThen, h3]; simp
def REq (t : ByteArray) : Res → Res → Prop
 | .ok (f, j), .ok (g, k) => f = g ∧ bl t j = bl t k
 | .error p, .error q => p = q
 | _, _ => False
structure Agr (t : ByteArray) (c : Nat → Int → Res) (p3 p2 pt : Nat → Res) (lo : Nat) : Prop where
 h4 : ∀ k, lo < k → k ≤ t.size → REq t (c k 4) (p3 k)
 h3 : ∀ k, lo < k → k ≤ t.size → REq t (c k 3) (p2 k)
 h1 : ∀ k, lo < k → k ≤ t.size → REq t (c k 1) (pt k)
 le : ∀ k l g e, lo < k → k ≤ t.size → c k l = .ok (g, e) → k ≤ e ∧ e ≤ t.size
 le3 : ∀ k g e, lo < k → k ≤ t.size → p3 k = .ok (g, e) → k ≤ e ∧ e ≤ t.size
 le2 : ∀ k g e, lo < k → k ≤ t.size → p2 k = .ok (g, e) → k ≤ e ∧ e ≤ t.size
 st : ∀ k l g e, lo < k → k ≤ t.size → c k l = .ok (g, e) → rankF (tokF t e).1 = 0 ∨ rankF (tokF t e).1 < l
def thenT (t : ByteArray) (pt : Nat → Res) : Res → Res
 | .ok (a, j) => if hp t (bl t j) ⟨#[45, 62]⟩ = true then (match pt (bl t j + 2) with
  | .ok (g, k) => .ok (.mk 7 ⟨#[]⟩ [a, g], k)
  | .error q => .error q) else .ok (a, bl t j)
 | .error q => .error q
def orT (t : ByteArray) (p2 : Nat → Res) (m : Nat) : Res → Res
 | .ok (a, j) => opL t ⟨#[124]⟩ 6 p2 m a j
 | .error q => .error q
theorem opL_bl {w : ByteArray} {k : Int} {p : Nat → Res} {m : Nat} {a : Fm} {i j : Nat} (h : bl t i = bl t j) : opL t w k p (m + 1) a i = opL t w k p (m + 1) a j := by
 unfold opL; rw [h]
variable {c : Nat → Int → Res} {p3 p2 pt : Nat → Res} {lo : Nat}
theorem loopC_stop {least : Int} {m : Nat} {f : Fm} {j : Nat} (h : rankF (tokF t j).1 = 0 ∨ rankF (tokF t j).1 < least) (hm : 0 < m) : loopC t c least m f j = .ok (f, j) := by
 cases m with
 | zero => omega
 | succ m => rw [loopC, if_pos h]
theorem loop3 (A : Agr t c p3 p2 pt lo) : ∀ m f j j' m', lo ≤ j → j ≤ t.size → lo ≤ j' → j' ≤ t.size → bl t j = bl t j' → t.size - j < m → t.size - j' < m' → REq t (loopC t c 3 m f j) (opL t ⟨#[38]⟩ 5 p3 m' f j')
 | 0, f, j, j', m', _, _, _, _, _, hm, _ => by omega
 | m + 1, f, j, j', 0, _, _, _, _, _, _, hm => by omega
 | m + 1, f, j, j', m' + 1, h1, h2, h3, h4, he, hm, hm' => by
  have b1 := bl_ge t j
  have b2 := bl_ge t j'
  rcases rank_cases t j with ⟨r1, r2, r3⟩ | ⟨r1, r2, r3, r4⟩ | ⟨r1, r2, r3, r4, r5⟩ | ⟨r1, r2, r3, r4⟩
  ·have hl : bl t j + 1 ≤ t.size := hp_le r1
   rw [loopC, if_neg (by omega), r2, r3, show upR 3 = 4 from rfl, show kindR 3 = 5 from rfl, opL, if_pos (by rw [← he]; exact r1), ← he]
   have hr := A.h4 (bl t j + 1) (by omega) hl
   have hc := A.le (bl t j + 1) 4
   have hpp := A.le3 (bl t j + 1)
   change REq t _ (match p3 (bl t j + 1) with | .ok (g, j) => opL t ⟨#[38]⟩ 5 p3 m' (.mk 5 ⟨#[]⟩ [f, g]) j | .error q => .error q)
   revert hr hc hpp
   cases c (bl t j + 1) 4 with
   | error q =>
    cases p3 (bl t j + 1) with
    | error q' => exact fun h _ _ => h
    | ok z => exact fun h => h.elim
   | ok y =>
    obtain ⟨g, e⟩ := y
    cases p3 (bl t j + 1) with
    | error q' => exact fun h => h.elim
    | ok z =>
     obtain ⟨g', e'⟩ := z
     rintro ⟨rfl, hbe⟩ hc hpp
     have hc := hc g e (by omega) hl rfl
     have hpp := hpp g e' (by omega) hl rfl
     exact loop3 A m _ e e' m' (by omega) hc.2 (by omega) hpp.2 hbe (by omega) (by omega)
  ·rw [loopC_stop (by omega) (by omega), opL_stop (by rw [← he]; exact r1) (by omega)]
   exact ⟨rfl, by rw [bl_bl]; exact he⟩
  ·rw [loopC_stop (by omega) (by omega), opL_stop (by rw [← he]; exact r1) (by omega)]
   exact ⟨rfl, by rw [bl_bl]; exact he⟩
  ·rw [loopC_stop (by omega) (by omega), opL_stop (by rw [← he]; exact r1) (by omega)]
   exact ⟨rfl, by rw [bl_bl]; exact he⟩
theorem loop2 (A : Agr t c p3 p2 pt lo) : ∀ m f j j' m' m'', lo ≤ j → j ≤ t.size → lo ≤ j' → j' ≤ t.size → bl t j = bl t j' → t.size - j < m → t.size - j' < m' → t.size - j' < m'' → REq t (loopC t c 2 m f j) (orT t p2 m'' (opL t ⟨#[38]⟩ 5 p3 m' f j'))
 | 0, f, j, j', m', m'', _, _, _, _, _, hm, _, _ => by omega
 | m + 1, f, j, j', 0, m'', _, _, _, _, _, _, hm, _ => by omega
 | m + 1, f, j, j', m' + 1, 0, _, _, _, _, _, _, _, hm => by omega
 | m + 1, f, j, j', m' + 1, m'' + 1, h1, h2, h3, h4, he, hm, hm', hm'' => by
  have b1 := bl_ge t j
  have b2 := bl_ge t j'
  rcases rank_cases t j with ⟨r1, r2, r3⟩ | ⟨r1, r2, r3, r4⟩ | ⟨r1, r2, r3, r4, r5⟩ | ⟨r1, r2, r3, r4⟩
  ·have hl : bl t j + 1 ≤ t.size := hp_le r1
   rw [loopC, if_neg (by omega), r2, r3, show upR 3 = 4 from rfl, show kindR 3 = 5 from rfl, opL, if_pos (by rw [← he]; exact r1), ← he]
   have hr := A.h4 (bl t j + 1) (by omega) hl
   have hc := A.le (bl t j + 1) 4
   have hpp := A.le3 (bl t j + 1)
   change REq t _ (orT t p2 (m'' + 1) (match p3 (bl t j + 1) with | .ok (g, j) => opL t ⟨#[38]⟩ 5 p3 m' (.mk 5 ⟨#[]⟩ [f, g]) j | .error q => .error q))
   revert hr hc hpp
   cases c (bl t j + 1) 4 with
   | error q =>
    cases p3 (bl t j + 1) with
    | error q' => exact fun h _ _ => h
    | ok z => exact fun h => h.elim
   | ok y =>
    obtain ⟨g, e⟩ := y
    cases p3 (bl t j + 1) with
    | error q' => exact fun h => h.elim
    | ok z =>
     obtain ⟨g', e'⟩ := z
     rintro ⟨rfl, hbe⟩ hc hpp
     have hc := hc g e (by omega) hl rfl
     have hpp := hpp g e' (by omega) hl rfl
     exact loop2 A m _ e e' m' (m'' + 1) (by omega) hc.2 (by omega) hpp.2 hbe (by omega) (by omega) (by omega)
  ·have hl : bl t j + 1 ≤ t.size := hp_le r2
   rw [loopC, if_neg (by omega), r3, r4, show upR 2 = 3 from rfl, show kindR 2 = 6 from rfl, opL_stop (by rw [← he]; exact r1) (by omega), orT, opL, bl_bl, if_pos (by rw [← he]; exact r2), ← he]
   have hr := A.h3 (bl t j + 1) (by omega) hl
   have hc := A.le (bl t j + 1) 3
   have hs := A.st (bl t j + 1) 3
   have hpp := A.le2 (bl t j + 1)
   change REq t _ (match p2 (bl t j + 1) with | .ok (g, j) => opL t ⟨#[124]⟩ 6 p2 m'' (.mk 6 ⟨#[]⟩ [f, g]) j | .error q => .error q)
   revert hr hc hpp hs
   cases c (bl t j + 1) 3 with
   | error q =>
    cases p2 (bl t j + 1) with
    | error q' => exact fun h _ _ _ => h
    | ok z => exact fun h => h.elim
   | ok y =>
    obtain ⟨g, e⟩ := y
    cases p2 (bl t j + 1) with
    | error q' => exact fun h => h.elim
    | ok z =>
     obtain ⟨g', e'⟩ := z
     rintro ⟨rfl, hbe⟩ hc hs hpp
     have hc := hc g e (by omega) hl rfl
     have hpp := hpp g e' (by omega) hl rfl
     have hs := hs g e (by omega) hl rfl
     have hand : hp t (bl t e') ⟨#[38]⟩ = false := by
      rw [← hbe]
      rcases rank_cases t e with ⟨q1, q2, _⟩ | ⟨q1, _⟩ | ⟨q1, _⟩ | ⟨q1, _⟩
      ·omega
      ·exact q1
      ·exact q1
      ·exact q1
     have := loop2 A m (.mk 6 ⟨#[]⟩ [f, g]) e e' (m' + 1) m'' (by omega) hc.2 (by omega) hpp.2 hbe (by omega) (by omega) (by omega)
     rw [opL_stop hand (by omega), orT] at this
     cases m'' with
     | zero => omega
     | succ m'' => rw [opL_bl (bl_bl t e')] at this; exact this
  ·rw [loopC_stop (by omega) (by omega), opL_stop (by rw [← he]; exact r1) (by omega), orT, opL_stop (by rw [bl_bl, ← he]; exact r2) (by omega)]
   exact ⟨rfl, by rw [bl_bl, bl_bl]; exact he⟩
  ·rw [loopC_stop (by omega) (by omega), opL_stop (by rw [← he]; exact r1) (by omega), orT, opL_stop (by rw [bl_bl, ← he]; exact r2) (by omega)]
   exact ⟨rfl, by rw [bl_bl, bl_bl]; exact he⟩
theorem loop1 (A : Agr t c p3 p2 pt lo) : ∀ m f j j' m' m'', lo ≤ j → j ≤ t.size → lo ≤ j' → j' ≤ t.size → bl t j = bl t j' → t.size - j < m → t.size - j' < m' → t.size - j' < m'' → REq t (loopC t c 1 m f j) (thenT t pt (orT t p2 m'' (opL t ⟨#[38]⟩ 5 p3 m' f j')))
 | 0, f, j, j', m', m'', _, _, _, _, _, hm, _, _ => by omega
 | m + 1, f, j, j', 0, m'', _, _, _, _, _, _, hm, _ => by omega
 | m + 1, f, j, j', m' + 1, 0, _, _, _, _, _, _, _, hm => by omega
 | m + 1, f, j, j', m' + 1, m'' + 1, h1, h2, h3, h4, he, hm, hm', hm'' => by
  have b1 := bl_ge t j
  have b2 := bl_ge t j'
  rcases rank_cases t j with ⟨r1, r2, r3⟩ | ⟨r1, r2, r3, r4⟩ | ⟨r1, r2, r3, r4, r5⟩ | ⟨r1, r2, r3, r4⟩
  ·have hl : bl t j + 1 ≤ t.size := hp_le r1
   rw [loopC, if_neg (by omega), r2, r3, show upR 3 = 4 from rfl, show kindR 3 = 5 from rfl, opL, if_pos (by rw [← he]; exact r1), ← he]
   have hr := A.h4 (bl t j + 1) (by omega) hl
   have hc := A.le (bl t j + 1) 4
   have hpp := A.le3 (bl t j + 1)
   change REq t _ (thenT t pt (orT t p2 (m'' + 1) (match p3 (bl t j + 1) with | .ok (g, j) => opL t ⟨#[38]⟩ 5 p3 m' (.mk 5 ⟨#[]⟩ [f, g]) j | .error q => .error q)))
   revert hr hc hpp
   cases c (bl t j + 1) 4 with
   | error q =>
    cases p3 (bl t j + 1) with
    | error q' => exact fun h _ _ => h
    | ok z => exact fun h => h.elim
   | ok y =>
    obtain ⟨g, e⟩ := y
    cases p3 (bl t j + 1) with
    | error q' => exact fun h => h.elim
    | ok z =>
     obtain ⟨g', e'⟩ := z
     rintro ⟨rfl, hbe⟩ hc hpp
     have hc := hc g e (by omega) hl rfl
     have hpp := hpp g e' (by omega) hl rfl
     exact loop1 A m _ e e' m' (m'' + 1) (by omega) hc.2 (by omega) hpp.2 hbe (by omega) (by omega) (by omega)
  ·have hl : bl t j + 1 ≤ t.size := hp_le r2
   rw [loopC, if_neg (by omega), r3, r4, show upR 2 = 3 from rfl, show kindR 2 = 6 from rfl, opL_stop (by rw [← he]; exact r1) (by omega), orT, opL, bl_bl, if_pos (by rw [← he]; exact r2), ← he]
   have hr := A.h3 (bl t j + 1) (by omega) hl
   have hc := A.le (bl t j + 1) 3
   have hs := A.st (bl t j + 1) 3
   have hpp := A.le2 (bl t j + 1)
   change REq t _ (thenT t pt (match p2 (bl t j + 1) with | .ok (g, j) => opL t ⟨#[124]⟩ 6 p2 m'' (.mk 6 ⟨#[]⟩ [f, g]) j | .error q => .error q))
   revert hr hc hpp hs
   cases c (bl t j + 1) 3 with
   | error q =>
    cases p2 (bl t j + 1) with
    | error q' => exact fun h _ _ _ => h
    | ok z => exact fun h => h.elim
   | ok y =>
    obtain ⟨g, e⟩ := y
    cases p2 (bl t j + 1) with
    | error q' => exact fun h => h.elim
    | ok z =>
     obtain ⟨g', e'⟩ := z
     rintro ⟨rfl, hbe⟩ hc hs hpp
     have hc := hc g e (by omega) hl rfl
     have hpp := hpp g e' (by omega) hl rfl
     have hs := hs g e (by omega) hl rfl
     have hand : hp t (bl t e') ⟨#[38]⟩ = false := by
      rw [← hbe]
      rcases rank_cases t e with ⟨q1, q2, _⟩ | ⟨q1, _⟩ | ⟨q1, _⟩ | ⟨q1, _⟩
      ·omega
      ·exact q1
      ·exact q1
      ·exact q1
     have := loop1 A m (.mk 6 ⟨#[]⟩ [f, g]) e e' (m' + 1) m'' (by omega) hc.2 (by omega) hpp.2 hbe (by omega) (by omega) (by omega)
     rw [opL_stop hand (by omega), orT] at this
     cases m'' with
     | zero => omega
     | succ m'' => rw [opL_bl (bl_bl t e')] at this; exact this
  ·have hl : bl t j + 2 ≤ t.size := hp_le r3
   rw [loopC, if_neg (by omega), r4, r5, show upR 1 = 1 from rfl, show kindR 1 = 7 from rfl, opL_stop (by rw [← he]; exact r1) (by omega), orT, opL_stop (by rw [bl_bl, ← he]; exact r2) (by omega), thenT, bl_bl, bl_bl, if_pos (by rw [← he]; exact r3), ← he]
   have hr := A.h1 (bl t j + 2) (by omega) hl
   have hc := A.le (bl t j + 2) 1
   have hs := A.st (bl t j + 2) 1
   revert hr hc hs
   cases c (bl t j + 2) 1 with
   | error q =>
    cases pt (bl t j + 2) with
    | error q' => exact fun h _ _ => h
    | ok z => exact fun h => h.elim
   | ok y =>
    obtain ⟨g, e⟩ := y
    cases pt (bl t j + 2) with
    | error q' => exact fun h => h.elim
    | ok z =>
     obtain ⟨g', e'⟩ := z
     rintro ⟨rfl, hbe⟩ hc hs
     have hc := hc g e (by omega) hl rfl
     have hs := hs g e (by omega) hl rfl
     dsimp only
     rw [loopC_stop hs (by omega)]
     exact ⟨rfl, hbe⟩
  ·rw [loopC_stop (by omega) (by omega), opL_stop (by rw [← he]; exact r1) (by omega), orT, opL_stop (by rw [bl_bl, ← he]; exact r2) (by omega), thenT, if_neg (by rw [bl_bl, bl_bl, ← he, r3]; decide)]
   exact ⟨rfl, by rw [bl_bl, bl_bl, bl_bl]; exact he⟩
theorem una_eq {k : Int} {x y : Res} (h : REq t x y) : REq t (una k x) (una k y) := by
 cases x with
 | error p => cases y with
  | error q => exact h
  | ok z => exact h.elim
 | ok z => cases y with
  | error q => exact h.elim
  | ok w => exact ⟨by rw [h.1], h.2⟩
theorem tok_at (t : ByteArray) (i : Nat) : (tokF t i).2.1 = bl t i := by
 rcases sgn_cases t i with ⟨w, hw, h⟩ | h
 ·rw [tok_sign hw h]
 ·rcases tok_none h with ⟨_, h2⟩ | ⟨_, h2, _⟩
  ·rw [h2]
  ·exact h2
theorem tok_le {i : Nat} (hi : i ≤ t.size) : bl t i ≤ (tokF t i).2.2 ∧ (tokF t i).2.2 ≤ t.size := by
 have hb := bl_le hi
 unfold tokF
 split
 ·rename_i hlt
  unfold signF
  split
  ·rename_i w hw
   have := hp_le (List.find?_some hw)
   exact ⟨Nat.le_add_right _ _, this⟩
  ·have h1 := lte_ge t (bl t i)
   have h2 := lte_le hb
   unfold nameF
   split
   ·exact ⟨h1, h2⟩
   ·exact ⟨Nat.le_succ _, hlt⟩
 ·exact ⟨Nat.le_refl _, hb⟩
theorem tok_nil (t : ByteArray) (i : Nat) : (tokF t i).1 = ⟨#[]⟩ ↔ ¬ bl t i < t.size := by
 constructor
 ·intro h hlt
  have e : tokF t i = signF t (bl t i) signs := by unfold tokF; rw [if_pos hlt]
  rw [e] at h
  unfold signF at h
  split at h
  ·rename_i w hw
   have := sgn_pos w (List.mem_of_find?_eq_some hw)
   dsimp only at h
   subst h
   exact absurd this (by decide)
  ·unfold nameF at h
   split at h
   ·rename_i hn
    exact (name_nosign hn).2.2 h
   ·exact absurd (show (⟨#[63]⟩ : ByteArray) = ⟨#[]⟩ from h) (by decide)
 ·intro h
  unfold tokF; rw [if_neg h]
theorem hp_eq {w v : ByteArray} {k : Nat} (hw : w ∈ signs) (h : hp t k w = true) (hv : v ∈ signs) : hp t k v = decide (w = v) := by
 by_cases hwv : w = v
 ·subst hwv; rw [h]; simp
 ·rw [hp_other h hw hv hwv, decide_eq_false hwv]
theorem par_eq {x y : Res} (h : REq t x y) : REq t (parC t x) (parP t y) := by
 cases x with
 | error p => cases y with
  | error q => exact h
  | ok z => exact h.elim
 | ok z => cases y with
  | error q => exact h.elim
  | ok w =>
   obtain ⟨g, e⟩ := z
   obtain ⟨g', e'⟩ := w
   obtain ⟨rfl, he⟩ := h
   have m41 : (⟨#[41]⟩ : ByteArray) ∈ signs := by simp [signs]
   unfold parP parC
   dsimp only
   cases hh : hp t (bl t e') ⟨#[41]⟩ with
   | true =>
    have ht := tok_sign (i := e) m41 (by rw [he]; exact hh)
    rw [ht]
    rw [if_pos rfl, if_pos rfl, he]
    exact ⟨rfl, rfl⟩
   | false =>
    rw [if_neg (by rw [tok_is m41, he, hh]; decide), if_neg (by decide), tok_at, he]
    rfl
theorem head_eq {c : Nat → Int → Res} {pn pt : Nat → Res} {i : Nat} (h4 : ∀ k, i < k → k ≤ t.size → REq t (c k 4) (pn k)) (h1 : ∀ k, i < k → k ≤ t.size → REq t (c k 1) (pt k)) : REq t (headC t c i) (notP t pn pt i) := by
 have hb := bl_ge t i
 have m1 : (⟨#[126]⟩ : ByteArray) ∈ signs := by simp [signs]
 have m2 : (⟨#[91, 93]⟩ : ByteArray) ∈ signs := by simp [signs]
 have m3 : (⟨#[60, 62]⟩ : ByteArray) ∈ signs := by simp [signs]
 have m4 : (⟨#[40]⟩ : ByteArray) ∈ signs := by simp [signs]
 have m5 : (⟨#[49]⟩ : ByteArray) ∈ signs := by simp [signs]
 have m6 : (⟨#[48]⟩ : ByteArray) ∈ signs := by simp [signs]
 rcases sgn_cases t i with ⟨w, hw, h⟩ | h
 ·have hl := hp_le h
  have hnm := nmAt_sign hw h
  unfold headC notP
  rw [tok_sign hw h, hp_eq hw h m1, hp_eq hw h m2, hp_eq hw h m3, hp_eq hw h m4, hp_eq hw h m5, hp_eq hw h m6]
  simp only [decide_eq_true_eq]
  by_cases e1 : w = ⟨#[126]⟩
  ·rw [if_pos e1, if_pos e1]; subst e1
   exact una_eq (h4 _ (Nat.lt_of_le_of_lt hb (Nat.lt_succ_self _)) hl)
  rw [if_neg e1, if_neg e1]
  by_cases e2 : w = ⟨#[91, 93]⟩
  ·rw [if_pos e2, if_pos e2]; subst e2
   exact una_eq (h4 _ (Nat.lt_of_le_of_lt hb (Nat.lt_add_of_pos_right (Nat.succ_pos 1))) hl)
  rw [if_neg e2, if_neg e2]
  by_cases e3 : w = ⟨#[60, 62]⟩
  ·rw [if_pos e3, if_pos e3]; subst e3
   exact una_eq (h4 _ (Nat.lt_of_le_of_lt hb (Nat.lt_add_of_pos_right (Nat.succ_pos 1))) hl)
  rw [if_neg e3, if_neg e3]
  by_cases e4 : w = ⟨#[40]⟩
  ·rw [if_pos e4, if_pos e4]; subst e4
   exact par_eq (h1 _ (Nat.lt_of_le_of_lt hb (Nat.lt_succ_self _)) hl)
  rw [if_neg e4, if_neg e4]
  by_cases e5 : w = ⟨#[49]⟩
  ·rw [if_pos e5, if_pos e5]; subst e5
   exact ⟨rfl, rfl⟩
  rw [if_neg e5, if_neg e5]
  by_cases e6 : w = ⟨#[48]⟩
  ·rw [if_pos e6, if_pos e6]; subst e6
   exact ⟨rfl, rfl⟩
  rw [if_neg e6, if_neg e6, if_neg (fun hn => (name_nosign hn).1 hw), if_neg (by rw [hnm]; decide)]
  rfl
 ·have hno := tok_no h
  have ne : ∀ v ∈ signs, ¬ (tokF t i).1 = v := fun v hv he => hno (he ▸ hv)
  unfold headC notP
  rw [h _ m1, h _ m2, h _ m3, h _ m4, h _ m5, h _ m6, if_neg (ne _ m1), if_neg (ne _ m2), if_neg (ne _ m3), if_neg (ne _ m4), if_neg (ne _ m5), if_neg (ne _ m6)]
  simp only [Bool.false_eq_true, if_false]
  rcases tok_none h with ⟨h5, h6⟩ | ⟨h5, h6, h7⟩
  ·rw [h6, if_pos h5]
   exact ⟨rfl, rfl⟩
  ·rw [if_neg (by rcases h7 with e | e <;> rw [e] <;> decide), h6, if_neg (by rw [h5]; decide)]
   rfl
theorem loopC_le {c : Nat → Int → Res} {l : Int} (h : ∀ k l g e, k ≤ t.size → c k l = .ok (g, e) → k ≤ e ∧ e ≤ t.size) : ∀ m f j g e, j ≤ t.size → loopC t c l m f j = .ok (g, e) → (j ≤ e ∧ e ≤ t.size) ∧ (rankF (tokF t e).1 = 0 ∨ rankF (tokF t e).1 < l)
 | 0, f, j, g, e, _, he => by cases he
 | m + 1, f, j, g, e, hj, he => by
  have h1 := bl_ge t j
  have h2 := tok_le hj
  unfold loopC at he
  split at he
  ·rename_i hr
   cases he
   exact ⟨⟨Nat.le_refl _, hj⟩, hr⟩
  ·split at he
   ·rename_i g1 e1 hc
    have h3 := h _ _ _ _ h2.2 hc
    have h4 := loopC_le h m _ e1 g e h3.2 he
    exact ⟨⟨by omega, h4.1.2⟩, h4.2⟩
   ·cases he
theorem headC_le {c : Nat → Int → Res} (h : ∀ k l g e, k ≤ t.size → c k l = .ok (g, e) → k ≤ e ∧ e ≤ t.size) {i : Nat} (hi : i ≤ t.size) {g : Fm} {e : Nat} (he : headC t c i = .ok (g, e)) : i ≤ e ∧ e ≤ t.size := by
 have h1 := bl_ge t i
 have h2 := tok_le hi
 unfold headC at he
 split at he
 ·obtain ⟨g', hg⟩ := una_le he
  have := h _ _ _ _ h2.2 hg; omega
 split at he
 ·obtain ⟨g', hg⟩ := una_le he
  have := h _ _ _ _ h2.2 hg; omega
 split at he
 ·obtain ⟨g', hg⟩ := una_le he
  have := h _ _ _ _ h2.2 hg; omega
 split at he
 ·unfold parC at he
  split at he
  ·rename_i g1 e1 hc
   have h3 := h _ _ _ _ h2.2 hc
   have h4 := tok_le h3.2
   have h5 := bl_ge t e1
   split at he
   ·cases he; omega
   ·cases he
  ·cases he
 split at he
 ·cases he; omega
 split at he
 ·cases he; omega
 split at he
 ·cases he; omega
 ·cases he
theorem climb_le (t : ByteArray) : ∀ n k l g e, k ≤ t.size → climbF t n k l = .ok (g, e) → k ≤ e ∧ e ≤ t.size
 | 0, k, l, g, e, _, h => by cases h
 | n + 1, k, l, g, e, hk, h => by
  unfold climbF at h
  split at h
  ·rename_i f j hh
   have h1 := headC_le (climb_le t n) hk hh
   have h2 := loopC_le (climb_le t n) _ _ _ _ _ h1.2 h
   omega
  ·cases h
theorem climb_st (t : ByteArray) : ∀ n k l g e, k ≤ t.size → climbF t n k l = .ok (g, e) → rankF (tokF t e).1 = 0 ∨ rankF (tokF t e).1 < l
 | 0, k, l, g, e, _, h => by cases h
 | n + 1, k, l, g, e, hk, h => by
  unfold climbF at h
  split at h
  ·rename_i f j hh
   have h1 := headC_le (climb_le t n) hk hh
   exact (loopC_le (climb_le t n) _ _ _ _ _ h1.2 h).2
  ·cases h
theorem climb_eq (hs : t.size ≤ 1000000) : ∀ n m i, i ≤ t.size → t.size - i < n → t.size - i < m → REq t (climbF t n i 4) ((PPf t m).1 i) ∧ REq t (climbF t n i 3) (pand t m i) ∧ REq t (climbF t n i 2) (por t m i) ∧ REq t (climbF t n i 1) ((PPf t m).2 i)
 | 0, m, i, _, h, _ => by omega
 | n + 1, 0, i, _, _, h => by omega
 | n + 1, m + 1, i, hi, hn, hm => by
  have A : Agr t (climbF t n) (PPf t (m + 1)).1 (pand t (m + 1)) (PPf t m).2 i :=
   ⟨fun k h1 h2 => (climb_eq hs n (m + 1) k h2 (by omega) (by omega)).1,
    fun k h1 h2 => (climb_eq hs n (m + 1) k h2 (by omega) (by omega)).2.1,
    fun k h1 h2 => (climb_eq hs n m k h2 (by omega) (by omega)).2.2.2,
    fun k l g e h1 h2 h3 => climb_le t n k l g e h2 h3,
    fun k g e h1 h2 h3 => le_of1 hs h2 (by omega) h3,
    fun k g e h1 h2 h3 => le_of2 hs h2 (by omega) h3,
    fun k l g e h1 h2 h3 => climb_st t n k l g e h2 h3⟩
  have hh : REq t (headC t (climbF t n) i) ((PPf t (m + 1)).1 i) := head_eq (fun k h1 h2 => (climb_eq hs n m k h2 (by omega) (by omega)).1) fun k h1 h2 => (climb_eq hs n m k h2 (by omega) (by omega)).2.2.2
  have hl1 := fun g e => headC_le (c := climbF t n) (climb_le t n) hi (g := g) (e := e)
  have hl2 := fun g e => le_of1 (n := m + 1) (f := g) (e := e) hs hi (by omega)
  have e2 : (PPf t (m + 1)).2 i = thenT t (PPf t m).2 (por t (m + 1) i) := rfl
  have e1 : por t (m + 1) i = orT t (pand t (m + 1)) (t.size + 1) (pand t (m + 1) i) := rfl
  have e0 : pand t (m + 1) i = match (PPf t (m + 1)).1 i with
   | .ok (a, j) => opL t ⟨#[38]⟩ 5 (PPf t (m + 1)).1 (t.size + 1) a j
   | .error q => .error q := rfl
  rw [e2, e1, e0]
  simp only [climbF]
  revert hh hl1 hl2
  cases headC t (climbF t n) i with
  | error q =>
   cases (PPf t (m + 1)).1 i with
   | error q' => exact fun h _ _ => ⟨h, h, h, h⟩
   | ok z => exact fun h => h.elim
  | ok y =>
   obtain ⟨g, e⟩ := y
   cases (PPf t (m + 1)).1 i with
   | error q' => exact fun h => h.elim
   | ok z =>
    obtain ⟨g', e'⟩ := z
    rintro ⟨rfl, hbe⟩ hl1 hl2
    have hl1 := hl1 _ _ rfl
    have hl2 := hl2 _ _ rfl
    refine ⟨?_, loop3 A _ _ _ _ _ hl1.1 hl1.2 hl2.1 hl2.2 hbe (by omega) (by omega), loop2 A _ _ _ _ _ _ hl1.1 hl1.2 hl2.1 hl2.2 hbe (by omega) (by omega) (by omega), loop1 A _ _ _ _ _ _ hl1.1 hl1.2 hl2.1 hl2.2 hbe (by omega) (by omega) (by omega)⟩
    dsimp only
    rw [loopC_stop (by rcases rank_cases t e with ⟨_, q2, _⟩ | ⟨_, _, q2, _⟩ | ⟨_, _, _, q2, _⟩ | ⟨_, _, _, q2⟩ <;> omega) (by omega)]
    exact ⟨rfl, hbe⟩
end
def readO (t : ByteArray) : Fm × Int × Int :=
 if 20000 < t.size then (.mk 0 ⟨#[]⟩ [], 2, 0) else match climbF t (t.size + 1) 0 1 with
 | .error p => (.mk 0 ⟨#[]⟩ [], 1, (p : Int))
 | .ok (f, j) => if (tokF t j).1 ≠ ⟨#[]⟩ then (.mk 0 ⟨#[]⟩ [], 1, ((tokF t j).2.1 : Int)) else if 200 < (walkL f 201).length then (.mk 0 ⟨#[]⟩ [], 2, 0) else (f, 0, 0)
theorem read_eq (t : ByteArray) : readO t = parseO t := by
 unfold readO parseO
 by_cases hs : 20000 < t.size
 ·rw [if_pos hs, if_pos hs]
 ·rw [if_neg hs, if_neg hs]
  have h := (climb_eq (t := t) (by omega) (t.size + 1) (t.size + 1) 0 (by omega) (by omega) (by omega)).2.2.2
  unfold parseR
  revert h
  cases climbF t (t.size + 1) 0 1 with
  | error q =>
   cases (PPf t (t.size + 1)).2 0 with
   | error q' => intro h; dsimp only; rw [show q = q' from h]
   | ok z => exact fun h => h.elim
  | ok y =>
   obtain ⟨g, e⟩ := y
   cases (PPf t (t.size + 1)).2 0 with
   | error q' => exact fun h => h.elim
   | ok z =>
    obtain ⟨g', e'⟩ := z
    rintro ⟨rfl, he⟩
    dsimp only
    rw [tok_at, he]
    have h1 : (walkL g 201).length = min 202 (pre g).length := by rw [show (201 : Int) = ((201 : Nat) : Int) from rfl, walk_take, List.length_take]
    have h2 : (nodesGo 201 201 [g]).length = min 201 (pre g).length := by rw [nodesGo_take 201 201 [g] (by omega), pres_cons, pres_nil, List.append_nil, List.length_take]
    by_cases hb : bl t e' < t.size
    ·rw [if_pos (by rw [ne_eq, tok_nil, he]; omega), if_pos hb]
    ·rw [if_neg (by rw [ne_eq, tok_nil, he]; omega), if_neg hb]
     by_cases hl : 200 < (nodesGo 201 201 [g]).length
     ·rw [if_pos hl, if_pos (by omega)]
     ·rw [if_neg hl, if_neg (by omega)]
end Go.Proofs.Ytcllmionhlmjfaa
