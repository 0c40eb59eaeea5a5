import Derived.Test.YtcllmionhlmjfaaFModE
import Derived.Test.YtcllmionhlmjfaaFQMA
set_option linter.unusedVariables false
set_option linter.unusedSimpArgs false
set_option maxRecDepth 100000
namespace Go.Proofs.Ytcllmionhlmjfaa
open Go Go.Pv
abbrev Bs := List UInt8
def sd (f : Fm) (lv : Int) : Bs := (said f lv).data.toList
theorem said_core (k : Int) (nm : ByteArray) (l : List Fm) : ∃ c : ByteArray, ∀ lv, said (.mk k nm l) lv = paren c k lv := ⟨_, fun lv => by rw [said]⟩
theorem levelN_pos (k : Int) : ¬ levelN k < 1 := by unfold levelN; split <;> (try split) <;> (try split) <;> omega
theorem sd_low {k : Int} {nm : ByteArray} {l : List Fm} {lv : Int} (h : levelN k < lv) : sd (.mk k nm l) lv = 40 :: (sd (.mk k nm l) 1 ++ [41]) := by
 obtain ⟨c, hc⟩ := said_core k nm l
 unfold sd
 rw [hc, hc, paren, paren, if_pos h, if_neg (levelN_pos k)]
 simp
theorem sd_high {k : Int} {nm : ByteArray} {l : List Fm} {lv : Int} (h : lv ≤ levelN k) : sd (.mk k nm l) lv = sd (.mk k nm l) 1 := by
 obtain ⟨c, hc⟩ := said_core k nm l
 unfold sd
 rw [hc, hc, paren, paren, if_neg (by omega), if_neg (levelN_pos k)]
theorem sd1 {nm : ByteArray} : sd (.mk 1 nm []) 1 = nm.data.toList := by unfold sd; rw [said]; rfl
theorem sd2 {nm : ByteArray} : sd (.mk 2 nm []) 1 = [49] := by unfold sd; rw [said]; rfl
theorem sd3 {nm : ByteArray} : sd (.mk 3 nm []) 1 = [48] := by unfold sd; rw [said]; rfl
theorem sd4 {nm : ByteArray} {a : Fm} : sd (.mk 4 nm [a]) 1 = 126 :: sd a 4 := by unfold sd; rw [said]; simp [saids, paren, levelN]
theorem sd8 {nm : ByteArray} {a : Fm} : sd (.mk 8 nm [a]) 1 = 91 :: 93 :: sd a 4 := by unfold sd; rw [said]; simp [saids, paren, levelN]
theorem sd9 {nm : ByteArray} {a : Fm} : sd (.mk 9 nm [a]) 1 = 60 :: 62 :: sd a 4 := by unfold sd; rw [said]; simp [saids, paren, levelN]
theorem sd5 {nm : ByteArray} {a b : Fm} : sd (.mk 5 nm [a, b]) 1 = sd a 3 ++ 32 :: 38 :: 32 :: sd b 4 := by unfold sd; rw [said]; simp [saids, paren, levelN]
theorem sd6 {nm : ByteArray} {a b : Fm} : sd (.mk 6 nm [a, b]) 1 = sd a 2 ++ 32 :: 124 :: 32 :: sd b 3 := by unfold sd; rw [said]; simp [saids, paren, levelN]
theorem sd7 {nm : ByteArray} {a b : Fm} : sd (.mk 7 nm [a, b]) 1 = sd a 2 ++ 32 :: 45 :: 62 :: 32 :: sd b 1 := by unfold sd; rw [said]; simp [saids, paren, levelN]
def B (t : ByteArray) (i : Nat) : Bs := t.data.toList.drop i
theorem B_len (t : ByteArray) (i : Nat) : (B t i).length = t.size - i := by unfold B; rw [List.length_drop]; rfl
theorem B_add {t : ByteArray} {i : Nat} {s r : Bs} (h : B t i = s ++ r) : B t (i + s.length) = r := by
 unfold B at *
 rw [← List.drop_drop, h, List.drop_left]
theorem B_cons {t : ByteArray} {i : Nat} {c : UInt8} {r : Bs} (h : B t i = c :: r) : ∃ hi : i < t.size, t[i] = c ∧ B t (i + 1) = r := by
 have h1 : i < t.size := by
  have := B_len t i
  rw [h, List.length_cons] at this; omega
 refine ⟨h1, ?_, B_add (s := [c]) h⟩
 unfold B at h
 have h2 : (t.data.toList.drop i)[0]? = some c := by rw [h]; rfl
 rw [List.getElem?_drop, Nat.add_zero, Array.getElem?_toList, Array.getElem?_eq_getElem h1] at h2
 exact Option.some.inj h2
theorem B_end {t : ByteArray} {i : Nat} (h : B t i = []) : ¬ i < t.size := by
 have := B_len t i
 rw [h] at this
 simp at this; omega
theorem bl_B (t : ByteArray) : ∀ r i, t.size - i = r → B t (bl t i) = (B t i).dropWhile isBl := by
 intro r
 induction r with
 | zero =>
  intro i hi
  have : B t i = [] := by
   have := B_len t i
   rw [hi] at this; exact List.eq_nil_of_length_eq_zero this
  rw [bl_end (by omega), this]; rfl
 | succ r ih =>
  intro i hi
  have hlt : i < t.size := by omega
  cases hb : B t i with
  | nil => exact absurd hlt (B_end hb)
  | cons c s =>
   obtain ⟨_, h1, h2⟩ := B_cons hb
   cases hc : isBl c with
   | true => rw [bl_step hlt (by rw [h1]; exact hc), ih (i + 1) (by omega), h2, List.dropWhile_cons, if_pos hc]
   | false => rw [bl_stop hlt (by rw [h1]; exact hc), hb, List.dropWhile_cons, if_neg (by simp [hc])]
theorem B_bl {t : ByteArray} {i : Nat} : B t (bl t i) = (B t i).dropWhile isBl := bl_B t _ i rfl
theorem hp_B {t w : ByteArray} {i : Nat} (hw0 : 0 < w.size) : hp t i w = true ↔ ∃ r, B t i = w.data.toList ++ r := by
 unfold hp
 rw [decide_eq_true_eq]
 have key : i + w.size ≤ t.size → ((t.extract i (i + w.size)).data.toList = (B t i).take w.size) := fun h => by
  rw [ByteArray.data_extract, Array.toList_extract, List.extract_eq_take_drop]
  unfold B
  congr 1; omega
 constructor
 ·rintro ⟨h1, h2⟩
  refine ⟨(B t i).drop w.size, ?_⟩
  have := key h1
  rw [h2] at this
  rw [this, List.take_append_drop]
 ·rintro ⟨r, hr⟩
  have hl := B_len t i
  rw [hr, List.length_append] at hl
  have hw : w.data.toList.length = w.size := rfl
  have h1 : i + w.size ≤ t.size := by omega
  refine ⟨h1, ?_⟩
  apply ByteArray.ext
  apply Array.toList_inj.1
  rw [key h1, hr, List.take_left' hw]
theorem hp1 {t : ByteArray} {i : Nat} {c : UInt8} : hp t i ⟨#[c]⟩ = decide ((B t i).head? = some c) := by
 rw [Bool.eq_iff_iff, hp_B (w := ⟨#[c]⟩) Nat.zero_lt_one, decide_eq_true_eq]
 show (∃ r, B t i = [c] ++ r) ↔ _
 cases B t i with
 | nil => simp
 | cons x r => simp [eq_comm]
theorem hp2 {t : ByteArray} {i : Nat} {c d : UInt8} : hp t i ⟨#[c, d]⟩ = true ↔ ∃ r, B t i = c :: d :: r := by
 rw [hp_B (w := ⟨#[c, d]⟩) (Nat.succ_pos 1)]; rfl
theorem hp2_no {t : ByteArray} {i : Nat} {c d : UInt8} (h : (B t i).head? ≠ some c) : hp t i ⟨#[c, d]⟩ = false := by
 rw [← Bool.not_eq_true, hp2]
 rintro ⟨r, hr⟩
 rw [hr] at h; exact h rfl
def hd (r : Bs) : Option UInt8 := (r.dropWhile isBl).head?
theorem hp1_bl {t : ByteArray} {e e0 : Nat} {r : Bs} {c : UInt8} (h : bl t e = bl t e0) (hB : B t e0 = r) : hp t (bl t e) ⟨#[c]⟩ = decide (hd r = some c) := by
 rw [hp1, h, B_bl, hB]; rfl
theorem hp2_bl {t : ByteArray} {e e0 : Nat} {r : Bs} {c d : UInt8} (h : bl t e = bl t e0) (hB : B t e0 = r) (hn : hd r ≠ some c) : hp t (bl t e) ⟨#[c, d]⟩ = false := by
 refine hp2_no ?_
 rw [h, B_bl, hB]; exact hn
def Fol (r : Bs) : Prop := r = [] ∨ ∃ c r', r = c :: r' ∧ (c = 32 ∨ c = 41)
theorem opL_stop {t w : ByteArray} {k : Int} {p : Nat → Res} {m : Nat} {a : Fm} {e : Nat} (h : hp t (bl t e) w = false) (hm : 0 < m) : opL t w k p m a e = .ok (a, bl t e) := by
 cases m with
 | zero => omega
 | succ m => rw [opL, if_neg (by simp [h])]
theorem opL_step {t w : ByteArray} {k : Int} {p : Nat → Res} {m : Nat} {a g : Fm} {e j : Nat} (h : hp t (bl t e) w = true) (hp' : p (bl t e + w.size) = .ok (g, j)) : opL t w k p (m + 1) a e = opL t w k p m (.mk k ⟨#[]⟩ [a, g]) j := by
 rw [opL, if_pos h, hp']
theorem notP_bl {t : ByteArray} {pn pt : Nat → Res} {i j : Nat} (h : bl t i = bl t j) : notP t pn pt i = notP t pn pt j := by unfold notP; rw [h]
theorem PP1_bl {t : ByteArray} {n i j : Nat} (hn : 0 < n) (h : bl t i = bl t j) : (PPf t n).1 i = (PPf t n).1 j := by
 cases n with
 | zero => omega
 | succ n => exact notP_bl h
def pand (t : ByteArray) (n : Nat) : Nat → Res := opP t ⟨#[38]⟩ 5 (PPf t n).1
def por (t : ByteArray) (n : Nat) : Nat → Res := opP t ⟨#[124]⟩ 6 (pand t n)
theorem pand_bl {t : ByteArray} {n i j : Nat} (hn : 0 < n) (h : bl t i = bl t j) : pand t n i = pand t n j := by unfold pand opP; rw [PP1_bl hn h]
theorem por_bl {t : ByteArray} {n i j : Nat} (hn : 0 < n) (h : bl t i = bl t j) : por t n i = por t n j := by unfold por opP; rw [pand_bl hn h]
theorem PP2_eq (t : ByteArray) (n : Nat) : (PPf t (n + 1)).2 = thenP t (por t (n + 1)) (PPf t n).2 := rfl
theorem PP2_bl {t : ByteArray} {n i j : Nat} (hn : 0 < n) (h : bl t i = bl t j) : (PPf t n).2 i = (PPf t n).2 j := by
 cases n with
 | zero => omega
 | succ n => rw [PP2_eq]; unfold thenP; rw [por_bl (Nat.succ_pos n) h]
structure Rd (t : ByteArray) (f : Fm) : Prop where
 n4 : ∀ n i r, B t i = sd f 4 ++ r → Fol r → t.size - i < n → ∃ e, (PPf t n).1 i = .ok (f, e) ∧ bl t e = bl t (i + (sd f 4).length)
 n3 : ∀ n i r, B t i = sd f 3 ++ r → Fol r → t.size - i < n → ∃ m e, t.size - e < m ∧ pand t n i = opL t ⟨#[38]⟩ 5 (PPf t n).1 m f e ∧ bl t e = bl t (i + (sd f 3).length)
 n2 : ∀ n i r, B t i = sd f 2 ++ r → Fol r → hd r ≠ some 38 → t.size - i < n → ∃ m e, t.size - e < m ∧ por t n i = opL t ⟨#[124]⟩ 6 (pand t n) m f e ∧ bl t e = bl t (i + (sd f 2).length)
 n1 : ∀ n i r, B t i = sd f 1 ++ r → Fol r → hd r ≠ some 38 → hd r ≠ some 124 → hd r ≠ some 45 → t.size - i < n → ∃ e, (PPf t n).2 i = .ok (f, e) ∧ bl t e = bl t (i + (sd f 1).length)
section
variable {t : ByteArray} {f : Fm}
theorem lift3 (h : sd f 3 = sd f 4) (h4 : ∀ n i r, B t i = sd f 4 ++ r → Fol r → t.size - i < n → ∃ e, (PPf t n).1 i = .ok (f, e) ∧ bl t e = bl t (i + (sd f 4).length)) :
  ∀ n i r, B t i = sd f 3 ++ r → Fol r → t.size - i < n → ∃ m e, t.size - e < m ∧ pand t n i = opL t ⟨#[38]⟩ 5 (PPf t n).1 m f e ∧ bl t e = bl t (i + (sd f 3).length) := by
 intro n i r hB hF hn
 rw [h] at hB ⊢
 obtain ⟨e, h1, h2⟩ := h4 n i r hB hF hn
 refine ⟨t.size + 1, e, by omega, ?_, h2⟩
 unfold pand opP; rw [h1]
theorem lift2 (h : sd f 2 = sd f 3) (h3 : ∀ n i r, B t i = sd f 3 ++ r → Fol r → t.size - i < n → ∃ m e, t.size - e < m ∧ pand t n i = opL t ⟨#[38]⟩ 5 (PPf t n).1 m f e ∧ bl t e = bl t (i + (sd f 3).length)) :
  ∀ n i r, B t i = sd f 2 ++ r → Fol r → hd r ≠ some 38 → t.size - i < n → ∃ m e, t.size - e < m ∧ por t n i = opL t ⟨#[124]⟩ 6 (pand t n) m f e ∧ bl t e = bl t (i + (sd f 2).length) := by
 intro n i r hB hF hA hn
 rw [h] at hB ⊢
 obtain ⟨m, e, h0, h1, h2⟩ := h3 n i r hB hF hn
 have hs : hp t (bl t e) ⟨#[38]⟩ = false := by rw [hp1_bl h2 (B_add hB)]; simpa using hA
 rw [opL_stop hs (by omega)] at h1
 refine ⟨t.size + 1, bl t e, by omega, ?_, by rw [bl_bl]; exact h2⟩
 unfold por opP; rw [h1]
theorem lift1 (h : sd f 1 = sd f 2) (h3 : ∀ n i r, B t i = sd f 2 ++ r → Fol r → hd r ≠ some 38 → t.size - i < n → ∃ m e, t.size - e < m ∧ por t n i = opL t ⟨#[124]⟩ 6 (pand t n) m f e ∧ bl t e = bl t (i + (sd f 2).length)) :
  ∀ n i r, B t i = sd f 1 ++ r → Fol r → hd r ≠ some 38 → hd r ≠ some 124 → hd r ≠ some 45 → t.size - i < n → ∃ e, (PPf t n).2 i = .ok (f, e) ∧ bl t e = bl t (i + (sd f 1).length) := by
 intro n i r hB hF hA hO hT hn
 rw [h] at hB ⊢
 obtain ⟨m, e, h0, h1, h2⟩ := h3 n i r hB hF hA hn
 have hs : hp t (bl t e) ⟨#[124]⟩ = false := by rw [hp1_bl h2 (B_add hB)]; simpa using hO
 rw [opL_stop hs (by omega)] at h1
 cases n with
 | zero => omega
 | succ n =>
  refine ⟨bl t e, ?_, by rw [bl_bl]; exact h2⟩
  rw [PP2_eq]
  unfold thenP
  rw [h1]
  have h4 : hp t (bl t e) ⟨#[45, 62]⟩ = false := hp2_bl h2 (B_add hB) hT
  simp only [bl_bl, h4, Bool.false_eq_true, if_false]
end
section
variable {t : ByteArray}
theorem notP_head {pn pt : Nat → Res} {i : Nat} {c : UInt8} {r : Bs} (hB : B t (bl t i) = c :: r) (h1 : c ≠ 126) (h2 : c ≠ 91) (h3 : c ≠ 60) (h4 : c ≠ 40) : notP t pn pt i = if hp t (bl t i) ⟨#[49]⟩ = true then .ok (.mk 2 ⟨#[]⟩ [], bl t i + 1) else if hp t (bl t i) ⟨#[48]⟩ = true then .ok (.mk 3 ⟨#[]⟩ [], bl t i + 1)
 else if isNameB (t.extract (bl t i) (lte t (bl t i))) = true then .ok (.mk 1 (t.extract (bl t i) (lte t (bl t i))) [], lte t (bl t i)) else .error (bl t i) := by
 have e1 : hp t (bl t i) ⟨#[126]⟩ = false := by rw [hp1, hB]; simpa using h1
 have e2 : hp t (bl t i) ⟨#[91, 93]⟩ = false := hp2_no (by rw [hB]; simpa using h2)
 have e3 : hp t (bl t i) ⟨#[60, 62]⟩ = false := hp2_no (by rw [hB]; simpa using h3)
 have e4 : hp t (bl t i) ⟨#[40]⟩ = false := by rw [hp1, hB]; simpa using h4
 unfold notP
 simp only [e1, e2, e3, e4, Bool.false_eq_true, if_false]
theorem no_blank {i : Nat} {c : UInt8} {r : Bs} (hB : B t i = c :: r) (hc : isBl c = false) : bl t i = i := by
 obtain ⟨h1, h2, _⟩ := B_cons hB
 exact bl_stop h1 (by rw [h2]; exact hc)
theorem read_not {i : Nat} {r : Bs} {n : Nat} (hB : B t i = 126 :: r) : (PPf t (n + 1)).1 i = una 4 ((PPf t n).1 (i + 1)) := by
 have hb := no_blank hB (by decide)
 show notP t _ _ i = _
 unfold notP
 have e1 : hp t (bl t i) ⟨#[126]⟩ = true := by rw [hb, hp1, hB]; rfl
 rw [if_pos e1, hb]
theorem read_box {i : Nat} {r : Bs} {n : Nat} (hB : B t i = 91 :: 93 :: r) : (PPf t (n + 1)).1 i = una 8 ((PPf t n).1 (i + 2)) := by
 have hb := no_blank hB (by decide)
 show notP t _ _ i = _
 unfold notP
 have e1 : hp t (bl t i) ⟨#[126]⟩ = false := by rw [hb, hp1, hB]; rfl
 have e2 : hp t (bl t i) ⟨#[91, 93]⟩ = true := by rw [hb, hp2]; exact ⟨r, hB⟩
 rw [if_neg (by simp [e1]), if_pos e2, hb]
theorem read_dia {i : Nat} {r : Bs} {n : Nat} (hB : B t i = 60 :: 62 :: r) : (PPf t (n + 1)).1 i = una 9 ((PPf t n).1 (i + 2)) := by
 have hb := no_blank hB (by decide)
 show notP t _ _ i = _
 unfold notP
 have e1 : hp t (bl t i) ⟨#[126]⟩ = false := by rw [hb, hp1, hB]; rfl
 have e2 : hp t (bl t i) ⟨#[91, 93]⟩ = false := hp2_no (by rw [hb, hB]; simp)
 have e3 : hp t (bl t i) ⟨#[60, 62]⟩ = true := by rw [hb, hp2]; exact ⟨r, hB⟩
 rw [if_neg (by simp [e1]), if_neg (by simp [e2]), if_pos e3, hb]
theorem read_par {i : Nat} {r : Bs} {n : Nat} (hB : B t i = 40 :: r) : (PPf t (n + 1)).1 i = parP t ((PPf t n).2 (i + 1)) := by
 have hb := no_blank hB (by decide)
 show notP t _ _ i = _
 unfold notP
 have e1 : hp t (bl t i) ⟨#[126]⟩ = false := by rw [hb, hp1, hB]; rfl
 have e2 : hp t (bl t i) ⟨#[91, 93]⟩ = false := hp2_no (by rw [hb, hB]; simp)
 have e3 : hp t (bl t i) ⟨#[60, 62]⟩ = false := hp2_no (by rw [hb, hB]; simp)
 have e4 : hp t (bl t i) ⟨#[40]⟩ = true := by rw [hb, hp1, hB]; rfl
 rw [if_neg (by simp [e1]), if_neg (by simp [e2]), if_neg (by simp [e3]), if_pos e4, hb]
theorem hd41 {r : Bs} : hd (41 :: r) = some 41 := rfl
theorem par4 {f : Fm} (h : sd f 4 = 40 :: (sd f 1 ++ [41])) (h1 : ∀ n i r, B t i = sd f 1 ++ r → Fol r → hd r ≠ some 38 → hd r ≠ some 124 → hd r ≠ some 45 → t.size - i < n → ∃ e, (PPf t n).2 i = .ok (f, e) ∧ bl t e = bl t (i + (sd f 1).length)) :
  ∀ n i r, B t i = sd f 4 ++ r → Fol r → t.size - i < n → ∃ e, (PPf t n).1 i = .ok (f, e) ∧ bl t e = bl t (i + (sd f 4).length) := by
 intro n i r hB hF hn
 rw [h] at hB ⊢
 cases n with
 | zero => omega
 | succ n =>
  have hB1 : B t i = 40 :: (sd f 1 ++ (41 :: r)) := by rw [hB]; simp
  obtain ⟨hi, _, hB2⟩ := B_cons hB1
  obtain ⟨e, g1, g2⟩ := h1 n (i + 1) (41 :: r) hB2 (.inr ⟨41, r, rfl, .inr rfl⟩) (by rw [hd41]; decide) (by rw [hd41]; decide) (by rw [hd41]; decide) (by omega)
  have hB3 : B t (i + 1 + (sd f 1).length) = 41 :: r := B_add hB2
  have hb := no_blank hB3 (by decide)
  rw [read_par hB1, g1]
  refine ⟨bl t e + 1, ?_, ?_⟩
  ·unfold parP
   have : hp t (bl t e) ⟨#[41]⟩ = true := by rw [g2, hb, hp1, hB3]; rfl
   simp only [this, if_true]
  ·rw [g2, hb]
   congr 1
   simp; omega
theorem pre4 {k : Int} {a : Fm} {p : Bs} (hk : sd (.mk k ⟨#[]⟩ [a]) 4 = p ++ sd a 4) (hr : ∀ i r n, B t i = p ++ r → (PPf t (n + 1)).1 i = una k ((PPf t n).1 (i + p.length))) (hp0 : 0 < p.length) (ha : Rd t a) :
  ∀ n i r, B t i = sd (.mk k ⟨#[]⟩ [a]) 4 ++ r → Fol r → t.size - i < n → ∃ e, (PPf t n).1 i = .ok (.mk k ⟨#[]⟩ [a], e) ∧ bl t e = bl t (i + (sd (.mk k ⟨#[]⟩ [a]) 4).length) := by
 intro n i r hB hF hn
 rw [hk] at hB ⊢
 cases n with
 | zero => omega
 | succ n =>
  rw [List.append_assoc] at hB
  have hB2 := B_add hB
  have hl := B_len t i
  rw [hB, List.length_append] at hl
  obtain ⟨e, g1, g2⟩ := ha.n4 n (i + p.length) r hB2 hF (by omega)
  refine ⟨e, by rw [hr i _ n hB, g1]; rfl, ?_⟩
  rw [g2, List.length_append, Nat.add_assoc]
theorem le_of1 {n k : Nat} {f : Fm} {e : Nat} (hs : t.size ≤ 1000000) (hk : k ≤ t.size) (hn : t.size - k < n) (h : (PPf t n).1 k = .ok (f, e)) : k ≤ e ∧ e ≤ t.size := by
 have := (reader_told t hs n k hk hn).1
 rw [h] at this; exact this.2
theorem mid3 (hsz : t.size ≤ 1000000) {a b : Fm} (ha : Rd t a) (hb : Rd t b) (h : sd (.mk 5 ⟨#[]⟩ [a, b]) 3 = sd a 3 ++ 32 :: 38 :: 32 :: sd b 4) :
  ∀ n i r, B t i = sd (.mk 5 ⟨#[]⟩ [a, b]) 3 ++ r → Fol r → t.size - i < n → ∃ m e, t.size - e < m ∧ pand t n i = opL t ⟨#[38]⟩ 5 (PPf t n).1 m (.mk 5 ⟨#[]⟩ [a, b]) e ∧ bl t e = bl t (i + (sd (.mk 5 ⟨#[]⟩ [a, b]) 3).length) := by
 intro n i r hB hF hn
 rw [h] at hB ⊢
 have hB0 : B t i = sd a 3 ++ (32 :: 38 :: 32 :: (sd b 4 ++ r)) := by rw [hB]; simp
 obtain ⟨m, e, g0, g1, g2⟩ := ha.n3 n i _ hB0 (.inr ⟨32, _, rfl, .inl rfl⟩) hn
 have hB1 := B_add hB0
 generalize hj : i + (sd a 3).length = j at *
 obtain ⟨hjs, hj32, hB2⟩ := B_cons hB1
 obtain ⟨hj1, hj38, hB3⟩ := B_cons hB2
 obtain ⟨hj2, hj322, hB4⟩ := B_cons hB3
 have hbj : bl t j = j + 1 := by
  rw [bl_step hjs (by rw [hj32]; decide)]
  exact no_blank hB2 (by decide)
 have hbj2 : bl t (j + 1 + 1) = bl t (j + 1 + 1 + 1) := bl_step hj2 (by rw [hj322]; decide)
 obtain ⟨e2, k1, k2⟩ := hb.n4 n (j + 1 + 1 + 1) r hB4 hF (by omega)
 rw [← PP1_bl (by omega) hbj2] at k1
 have hs : hp t (bl t e) ⟨#[38]⟩ = true := by rw [g2, hbj, hp1, hB2]; rfl
 obtain ⟨m', rfl⟩ : ∃ m', m = m' + 1 := ⟨m - 1, by omega⟩
 have hst := opL_step (k := 5) (p := (PPf t n).1) (m := m') (a := a) (g := b) (j := e2) hs (by rw [g2, hbj]; exact k1)
 have hee : e ≤ bl t e := bl_ge t e
 rw [g2, hbj] at hee
 have hle := le_of1 hsz (by omega) (by omega) k1
 refine ⟨m', e2, ?_, by rw [g1, hst], ?_⟩
 ·omega
 ·rw [k2, ← hj]
  congr 1
  simp; omega
theorem le_of2 {n k : Nat} {f : Fm} {e : Nat} (hs : t.size ≤ 1000000) (hk : k ≤ t.size) (hn : t.size - k < n) (h : pand t n k = .ok (f, e)) : k ≤ e ∧ e ≤ t.size :=
 opP_le (lo := k) (fun i h1 h2 f j e => le_of1 hs h2 (by omega) e) k (Nat.le_refl _) hk f e h
theorem mid2 (hsz : t.size ≤ 1000000) {a b : Fm} (ha : Rd t a) (hb : Rd t b) (h : sd (.mk 6 ⟨#[]⟩ [a, b]) 2 = sd a 2 ++ 32 :: 124 :: 32 :: sd b 3) :
  ∀ n i r, B t i = sd (.mk 6 ⟨#[]⟩ [a, b]) 2 ++ r → Fol r → hd r ≠ some 38 → t.size - i < n → ∃ m e, t.size - e < m ∧ por t n i = opL t ⟨#[124]⟩ 6 (pand t n) m (.mk 6 ⟨#[]⟩ [a, b]) e ∧ bl t e = bl t (i + (sd (.mk 6 ⟨#[]⟩ [a, b]) 2).length) := by
 intro n i r hB hF hA hn
 rw [h] at hB ⊢
 have hB0 : B t i = sd a 2 ++ (32 :: 124 :: 32 :: (sd b 3 ++ r)) := by rw [hB]; simp
 obtain ⟨m, e, g0, g1, g2⟩ := ha.n2 n i _ hB0 (.inr ⟨32, _, rfl, .inl rfl⟩) (by show some (124 : UInt8) ≠ some 38; decide) hn
 have hB1 := B_add hB0
 generalize hj : i + (sd a 2).length = j at *
 obtain ⟨hjs, hj32, hB2⟩ := B_cons hB1
 obtain ⟨hj1, hj124, hB3⟩ := B_cons hB2
 obtain ⟨hj2, hj322, hB4⟩ := B_cons hB3
 have hbj : bl t j = j + 1 := by
  rw [bl_step hjs (by rw [hj32]; decide)]
  exact no_blank hB2 (by decide)
 have hbj2 : bl t (j + 1 + 1) = bl t (j + 1 + 1 + 1) := bl_step hj2 (by rw [hj322]; decide)
 obtain ⟨mb, eb, q0, q1, q2⟩ := hb.n3 n (j + 1 + 1 + 1) r hB4 hF (by omega)
 have hsb : hp t (bl t eb) ⟨#[38]⟩ = false := by rw [hp1_bl q2 (B_add hB4)]; simpa using hA
 rw [opL_stop hsb (by omega), ← pand_bl (by omega) hbj2] at q1
 obtain ⟨e2, he2⟩ : ∃ e2, bl t eb = e2 := ⟨_, rfl⟩
 rw [he2] at q1
 have k1 := q1
 have k2 : bl t e2 = bl t (j + 1 + 1 + 1 + (sd b 3).length) := by rw [← he2, bl_bl, q2]
 have hs : hp t (bl t e) ⟨#[124]⟩ = true := by rw [g2, hbj, hp1, hB2]; rfl
 obtain ⟨m', rfl⟩ : ∃ m', m = m' + 1 := ⟨m - 1, by omega⟩
 have hst := opL_step (k := 6) (p := pand t n) (m := m') (a := a) (g := b) (j := e2) hs (by rw [g2, hbj]; exact k1)
 have hee : e ≤ bl t e := bl_ge t e
 rw [g2, hbj] at hee
 have hle := le_of2 hsz (by omega) (by omega) k1
 refine ⟨m', e2, ?_, by rw [g1, hst], ?_⟩
 ·omega
 ·rw [k2, ← hj]
  congr 1
  simp; omega
theorem mid1 (hsz : t.size ≤ 1000000) {a b : Fm} (ha : Rd t a) (hb : Rd t b) :
  ∀ n i r, B t i = sd (.mk 7 ⟨#[]⟩ [a, b]) 1 ++ r → Fol r → hd r ≠ some 38 → hd r ≠ some 124 → hd r ≠ some 45 → t.size - i < n → ∃ e, (PPf t n).2 i = .ok (.mk 7 ⟨#[]⟩ [a, b], e) ∧ bl t e = bl t (i + (sd (.mk 7 ⟨#[]⟩ [a, b]) 1).length) := by
 intro n i r hB hF hA hO hT hn
 rw [sd7] at hB ⊢
 have hB0 : B t i = sd a 2 ++ (32 :: 45 :: 62 :: 32 :: (sd b 1 ++ r)) := by rw [hB]; simp
 obtain ⟨m, e, g0, g1, g2⟩ := ha.n2 n i _ hB0 (.inr ⟨32, _, rfl, .inl rfl⟩) (by show some (45 : UInt8) ≠ some 38; decide) hn
 have hB1 := B_add hB0
 generalize hj : i + (sd a 2).length = j at *
 obtain ⟨hjs, hj32, hB2⟩ := B_cons hB1
 obtain ⟨hj1, hj45, hB3⟩ := B_cons hB2
 obtain ⟨hj2, hj62, hB4⟩ := B_cons hB3
 obtain ⟨hj3, hj322, hB5⟩ := B_cons hB4
 have hbj : bl t j = j + 1 := by
  rw [bl_step hjs (by rw [hj32]; decide)]
  exact no_blank hB2 (by decide)
 have hbj2 : bl t (j + 1 + 1 + 1) = bl t (j + 1 + 1 + 1 + 1) := bl_step hj3 (by rw [hj322]; decide)
 have hs : hp t (bl t e) ⟨#[124]⟩ = false := by rw [g2, hbj, hp1, hB2]; rfl
 rw [opL_stop hs (by omega)] at g1
 cases n with
 | zero => omega
 | succ n =>
  obtain ⟨e2, k1, k2⟩ := hb.n1 n (j + 1 + 1 + 1 + 1) r hB5 hF hA hO hT (by omega)
  rw [← PP2_bl (by omega) hbj2] at k1
  refine ⟨e2, ?_, ?_⟩
  ·rw [PP2_eq]
   unfold thenP
   rw [g1]
   have h4 : hp t (bl t e) ⟨#[45, 62]⟩ = true := by rw [g2, hbj, hp2]; exact ⟨_, hB2⟩
   simp only [bl_bl, h4, if_true]
   rw [g2, hbj, k1]
  ·rw [k2, ← hj]
   congr 1
   simp; omega
theorem lte_B : ∀ (s : Bs) (i : Nat) (r : Bs), B t i = s ++ r → s.all letterB = true → (r = [] ∨ ∃ c r', r = c :: r' ∧ letterB c = false) → lte t i = i + s.length
 | [], i, r, hB, _, hr => by
  rcases hr with rfl | ⟨c, r', rfl, hc⟩
  ·rw [lte_end (B_end hB)]; rfl
  ·obtain ⟨h1, h2, _⟩ := B_cons (show B t i = c :: r' from hB)
   rw [lte_stop h1 (by rw [h2]; exact hc)]; rfl
 | c :: s, i, r, hB, hs, hr => by
  rw [List.all_cons, Bool.and_eq_true] at hs
  obtain ⟨h1, h2, h3⟩ := B_cons (show B t i = c :: (s ++ r) from hB)
  rw [lte_step h1 (by rw [h2]; exact hs.1), lte_B s (i + 1) r h3 hs.2 hr, List.length_cons]; omega
theorem ext_B {i : Nat} {w : ByteArray} {r : Bs} (h : B t i = w.data.toList ++ r) : t.extract i (i + w.data.toList.length) = w := by
 apply ByteArray.ext
 apply Array.toList_inj.1
 rw [ByteArray.data_extract, Array.toList_extract, List.extract_eq_take_drop]
 show (B t i).take _ = _
 rw [h, show i + w.data.toList.length - i = w.data.toList.length by omega, List.take_left]
theorem fol_letter {r : Bs} (h : Fol r) : r = [] ∨ ∃ c r', r = c :: r' ∧ letterB c = false := by
 rcases h with rfl | ⟨c, r', rfl, rfl | rfl⟩
 ·exact .inl rfl
 ·exact .inr ⟨_, _, rfl, by decide⟩
 ·exact .inr ⟨_, _, rfl, by decide⟩
theorem name4 {nm : ByteArray} (hN : isNameB nm = true) : ∀ n i r, B t i = sd (.mk 1 nm []) 4 ++ r → Fol r → t.size - i < n → ∃ e, (PPf t n).1 i = .ok (.mk 1 nm [], e) ∧ bl t e = bl t (i + (sd (.mk 1 nm []) 4).length) := by
 have hsd : sd (.mk 1 nm []) 4 = nm.data.toList := by rw [sd_high (by decide), sd1]
 rw [hsd]
 intro n i r hB hF hn
 cases n with
 | zero => omega
 | succ n =>
  have hNN := hN
  unfold isNameB at hN
  rw [Bool.and_eq_true, decide_eq_true_eq] at hN
  obtain ⟨⟨hN1, _⟩, hN2⟩ := hN
  obtain ⟨c, s, hcs⟩ : ∃ c s, nm.data.toList = c :: s := by
   cases h : nm.data.toList with
   | nil =>
    have : nm.size = 0 := by show nm.data.toList.length = 0; rw [h]; rfl
    omega
   | cons c s => exact ⟨c, s, rfl⟩
  have hc : letterB c = true := by
   rw [hcs, List.all_cons, Bool.and_eq_true] at hN2; exact hN2.1
  have hcn : 97 ≤ c.toNat ∧ c.toNat ≤ 122 := of_decide_eq_true hc
  have ne : ∀ d : UInt8, d.toNat < 97 ∨ 122 < d.toNat → c ≠ d := fun d hd h => by subst h; omega
  have hB1 : B t i = c :: (s ++ r) := by rw [hB, hcs]; rfl
  have hbl : isBl c = false := by
   unfold isBl
   rw [Bool.or_eq_false_iff, beq_eq_false_iff_ne, beq_eq_false_iff_ne]
   omega
  have hb := no_blank hB1 hbl
  have hl := lte_B _ i r hB hN2 (fol_letter hF)
  have he := ext_B hB
  refine ⟨lte t i, ?_, by rw [hl]⟩
  show notP t _ _ i = _
  rw [notP_head (by rw [hb]; exact hB1) (ne 126 (by decide)) (ne 91 (by decide)) (ne 60 (by decide)) (ne 40 (by decide)), hb]
  have e1 : hp t i ⟨#[49]⟩ = false := by rw [hp1, hB1]; simpa using ne 49 (by decide)
  have e2 : hp t i ⟨#[48]⟩ = false := by rw [hp1, hB1]; simpa using ne 48 (by decide)
  rw [if_neg (by simp [e1]), if_neg (by simp [e2]), hl, he, if_pos hNN]
theorem true4 : ∀ n i r, B t i = sd (.mk 2 ⟨#[]⟩ []) 4 ++ r → Fol r → t.size - i < n → ∃ e, (PPf t n).1 i = .ok (.mk 2 ⟨#[]⟩ [], e) ∧ bl t e = bl t (i + (sd (.mk 2 ⟨#[]⟩ []) 4).length) := by
 have hsd : sd (.mk 2 ⟨#[]⟩ []) 4 = [49] := by rw [sd_high (by decide), sd2]
 rw [hsd]
 intro n i r hB hF hn
 cases n with
 | zero => omega
 | succ n =>
  have hB1 : B t i = 49 :: r := hB
  have hb := no_blank hB1 (by decide)
  refine ⟨i + 1, ?_, rfl⟩
  show notP t _ _ i = _
  rw [notP_head (by rw [hb]; exact hB1) (by decide) (by decide) (by decide) (by decide), hb]
  have e1 : hp t i ⟨#[49]⟩ = true := by rw [hp1, hB1]; rfl
  rw [if_pos e1]
theorem false4 : ∀ n i r, B t i = sd (.mk 3 ⟨#[]⟩ []) 4 ++ r → Fol r → t.size - i < n → ∃ e, (PPf t n).1 i = .ok (.mk 3 ⟨#[]⟩ [], e) ∧ bl t e = bl t (i + (sd (.mk 3 ⟨#[]⟩ []) 4).length) := by
 have hsd : sd (.mk 3 ⟨#[]⟩ []) 4 = [48] := by rw [sd_high (by decide), sd3]
 rw [hsd]
 intro n i r hB hF hn
 cases n with
 | zero => omega
 | succ n =>
  have hB1 : B t i = 48 :: r := hB
  have hb := no_blank hB1 (by decide)
  refine ⟨i + 1, ?_, rfl⟩
  show notP t _ _ i = _
  rw [notP_head (by rw [hb]; exact hB1) (by decide) (by decide) (by decide) (by decide), hb]
  have e1 : hp t i ⟨#[49]⟩ = false := by rw [hp1, hB1]; rfl
  have e2 : hp t i ⟨#[48]⟩ = true := by rw [hp1, hB1]; rfl
  rw [if_neg (by simp [e1]), if_pos e2]
theorem rd_of4 {k : Int} {nm : ByteArray} {l : List Fm} (hk : levelN k = 4) (h4 : ∀ n i r, B t i = sd (.mk k nm l) 4 ++ r → Fol r → t.size - i < n → ∃ e, (PPf t n).1 i = .ok (.mk k nm l, e) ∧ bl t e = bl t (i + (sd (.mk k nm l) 4).length)) : Rd t (.mk k nm l) := by
 have e4 : sd (.mk k nm l) 4 = sd (.mk k nm l) 1 := sd_high (by omega)
 have e3 : sd (.mk k nm l) 3 = sd (.mk k nm l) 1 := sd_high (by omega)
 have e2 : sd (.mk k nm l) 2 = sd (.mk k nm l) 1 := sd_high (by omega)
 have h3 := lift3 (e3.trans e4.symm) h4
 have h2 := lift2 (e2.trans e3.symm) h3
 exact ⟨h4, h3, h2, lift1 e2.symm h2⟩
theorem rd_said (hsz : t.size ≤ 1000000) (f : Fm) (hf : Td f) : Rd t f := by
 induction f using Fm.ind with
 | h f ih =>
  rcases hf.nine with ⟨nm, hN, rfl⟩ | rfl | rfl | ⟨a, ha, rfl⟩ | ⟨a, b, ha, hb, rfl⟩ | ⟨a, b, ha, hb, rfl⟩ | ⟨a, b, ha, hb, rfl⟩ | ⟨a, ha, rfl⟩ | ⟨a, ha, rfl⟩
  ·exact rd_of4 rfl (name4 hN)
  ·exact rd_of4 rfl true4
  ·exact rd_of4 rfl false4
  ·have ra := ih a (by simp [Fm.kids]) ha
   exact rd_of4 rfl (pre4 (p := [126]) (by rw [sd_high (by decide), sd4]; rfl) (fun i r n h => read_not h) (by decide) ra)
  ·have ra := ih a (by simp [Fm.kids]) ha
   have rb := ih b (by simp [Fm.kids]) hb
   have e3 : sd (.mk 5 ⟨#[]⟩ [a, b]) 3 = sd (.mk 5 ⟨#[]⟩ [a, b]) 1 := sd_high (by decide)
   have e2 : sd (.mk 5 ⟨#[]⟩ [a, b]) 2 = sd (.mk 5 ⟨#[]⟩ [a, b]) 1 := sd_high (by decide)
   have h3 := mid3 hsz ra rb (e3.trans sd5)
   have h2 := lift2 (e2.trans e3.symm) h3
   have h1 := lift1 e2.symm h2
   exact ⟨par4 (sd_low (by decide)) h1, h3, h2, h1⟩
  ·have ra := ih a (by simp [Fm.kids]) ha
   have rb := ih b (by simp [Fm.kids]) hb
   have e2 : sd (.mk 6 ⟨#[]⟩ [a, b]) 2 = sd (.mk 6 ⟨#[]⟩ [a, b]) 1 := sd_high (by decide)
   have h2 := mid2 hsz ra rb (e2.trans sd6)
   have h1 := lift1 e2.symm h2
   have h4 := par4 (sd_low (by decide)) h1
   exact ⟨h4, lift3 ((sd_low (by decide)).trans (sd_low (by decide)).symm) h4, h2, h1⟩
  ·have ra := ih a (by simp [Fm.kids]) ha
   have rb := ih b (by simp [Fm.kids]) hb
   have h1 := mid1 hsz ra rb
   have h4 := par4 (sd_low (by decide)) h1
   have h3 := lift3 ((sd_low (by decide)).trans (sd_low (by decide)).symm) h4
   exact ⟨h4, h3, lift2 ((sd_low (by decide)).trans (sd_low (by decide)).symm) h3, h1⟩
  ·have ra := ih a (by simp [Fm.kids]) ha
   exact rd_of4 rfl (pre4 (p := [91, 93]) (by rw [sd_high (by decide), sd8]; rfl) (fun i r n h => read_box h) (by decide) ra)
  ·have ra := ih a (by simp [Fm.kids]) ha
   exact rd_of4 rfl (pre4 (p := [60, 62]) (by rw [sd_high (by decide), sd9]; rfl) (fun i r n h => read_dia h) (by decide) ra)
end
theorem parse_said (f : Fm) (hf : Td f) (hl : (pre f).length ≤ 200) (hs : (said f 1).size ≤ 20000) : parseO (said f 1) = (f, 0, 0) := by
 have hB : B (said f 1) 0 = sd f 1 ++ [] := by unfold B sd; simp
 obtain ⟨e, h1, h2⟩ := (rd_said (t := said f 1) (by omega) f hf).n1 ((said f 1).size + 1) 0 [] hB (.inl rfl) (by decide) (by decide) (by decide) (by omega)
 have hend : bl (said f 1) e = (said f 1).size := by
  rw [h2]
  have : 0 + (sd f 1).length = (said f 1).size := by rw [Nat.zero_add]; rfl
  rw [this, bl_end (by omega)]
 unfold parseO parseR
 rw [if_neg (by omega), h1]
 simp only [hend]
 rw [if_neg (by omega), nodesGo_take 201 201 [f] (by omega), pres_cons, pres_nil, List.append_nil, List.length_take, if_neg (by omega)]
end Go.Proofs.Ytcllmionhlmjfaa
