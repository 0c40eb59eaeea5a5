import Derived.Test.YtcllmionhlmjfaaGFaJ
set_option linter.unusedVariables false
set_option linter.unusedSimpArgs false
set_option maxRecDepth 100000
namespace Go.Proofs.Ytcllmionhlmjfaa
open Go Go.Pv
abbrev RC (α : Type) := Except Nat (α × Nat)
abbrev RK := RC Ex
theorem xopL_stop {t w : ByteArray} {k : Int} {p : Nat → RX} {m : Nat} {a : Ex} {e : Nat} (h : hp t (bl t e) w = false) (hm : 0 < m) : xopL t w k p m a e = .ok (a,bl t e) := by
 cases m with
 | zero => omega
 | succ m => rw [xopL,if_neg (by simp [h])]
def xpand (t : ByteArray) (n : Nat) : Nat → RX := xopP t ⟨#[38]⟩ 6 (XXf t n).1
def xpor (t : ByteArray) (n : Nat) : Nat → RX := xopP t ⟨#[124]⟩ 7 (xpand t n)
section
variable {t : ByteArray}
theorem xle_of1 {n k : Nat} {f : Ex} {e : Nat} (hs : t.size ≤ 1000000) (hk : k ≤ t.size) (hn : t.size - k < n) (h : (XXf t n).1 k = .ok (f,e)) : k ≤ e ∧ e ≤ t.size := by
 have := (xreader_told t hs n k hk hn).1; rw [h] at this; exact this.2
theorem xle_of2 {n k : Nat} {f : Ex} {e : Nat} (hs : t.size ≤ 1000000) (hk : k ≤ t.size) (hn : t.size - k < n) (h : xpand t n k = .ok (f,e)) : k ≤ e ∧ e ≤ t.size :=
 xopP_le (lo := k) (fun i h1 h2 f j e => xle_of1 hs h2 (by omega) e) k (Nat.le_refl _) hk f e h
end
def xkindR (k : Int) : Int := if k = 1 then 8 else if k = 2 then 7 else 6
def xupR (k : Int) : Int := if k = 1 then 1 else k + 1
def wordC (t : ByteArray) (pa : Nat → RC (List Wd)) (i : Nat) : RC Wd :=
 if isNameB (xtokF t i).1 = true then .ok (.mk (xtokF t i).1 [],(xtokF t i).2.2) else if isBigB (xtokF t i).1 = true then (match pa (xtokF t i).2.2 with
  | .ok (l,j) => .ok (.mk (xtokF t i).1 l,j)
  | .error q => .error q) else .error (xtokF t i).2.1
def argLC (t : ByteArray) (pw : Nat → RC Wd) : Nat → List Wd → Nat → RC (List Wd)
 | 0,l,i => .error i
 | n + 1,l,i => match pw i with
  | .ok (w,e) => if (xtokF t e).1 = ⟨#[41]⟩ then .ok (l ++ [w],(xtokF t e).2.2) else if (xtokF t e).1 = ⟨#[44]⟩ then argLC t pw n (l ++ [w]) (xtokF t e).2.2 else .error (xtokF t e).2.1
  | .error q => .error q
def argsC (t : ByteArray) (pw : Nat → RC Wd) (i : Nat) : RC (List Wd) :=
 if (xtokF t i).1 = ⟨#[40]⟩ then argLC t pw (t.size + 1) [] (xtokF t i).2.2 else .ok ([],i)
def WC2 (t : ByteArray) : Nat → (Nat → RC Wd) × (Nat → RC (List Wd))
 | 0 => (fun i => .error i,fun i => .error i)
 | n + 1 => (wordC t (WC2 t n).2,argsC t (WC2 t n).1)
def wdC (t : ByteArray) (i : Nat) : RC Wd := (WC2 t (2 * t.size + 2)).1 i
def xunaC : RK → RK
 | .ok (e,l) => .ok (.mk 5 ⟨#[]⟩ [] [e],l)
 | .error q => .error q
def quaC (k : Int) (nm : ByteArray) : RK → RK
 | .ok (e,l) => .ok (.mk k nm [] [e],l)
 | .error q => .error q
def xparC (t : ByteArray) : RK → RK
 | .ok (g,e) => if (xtokF t e).1 = ⟨#[41]⟩ then .ok (g,(xtokF t e).2.2) else .error (xtokF t e).2.1
 | .error q => .error q
def atomC (t : ByteArray) : RC Wd → RK
 | .ok (w,e) => if (xtokF t e).1 = ⟨#[61]⟩ then (match wdC t (xtokF t e).2.2 with
  | .ok (v,k) => .ok (.mk 2 ⟨#[]⟩ [w,v] [],k)
  | .error q => .error q) else if isNameB w.nm = true then .error (xtokF t e).2.1 else .ok (.mk 1 w.nm w.args [],e)
 | .error q => .error q
def headX (t : ByteArray) (c : Nat → Int → RK) (i : Nat) : RK :=
 if (xtokF t i).1 = ⟨#[126]⟩ then xunaC (c (xtokF t i).2.2 4) else if (xtokF t i).1 = ⟨#[33]⟩ ∨ (xtokF t i).1 = ⟨#[63]⟩ then
  (if isNameB (xtokF t (xtokF t i).2.2).1 = true then quaC (if (xtokF t i).1 = ⟨#[63]⟩ then 10 else 9) (xtokF t (xtokF t i).2.2).1 (c (xtokF t (xtokF t i).2.2).2.2 4) else .error (xtokF t (xtokF t i).2.2).2.1)
 else if (xtokF t i).1 = ⟨#[40]⟩ then xparC t (c (xtokF t i).2.2 1)
 else if (xtokF t i).1 = ⟨#[49]⟩ then .ok (.mk 3 ⟨#[]⟩ [] [],(xtokF t i).2.2) else if (xtokF t i).1 = ⟨#[48]⟩ then .ok (.mk 4 ⟨#[]⟩ [] [],(xtokF t i).2.2)
 else atomC t (wdC t (xtokF t i).2.1)
def loopX (t : ByteArray) (c : Nat → Int → RK) (least : Int) : Nat → Ex → Nat → RK
 | 0,f,i => .error i
 | m + 1,f,i => if rankF (xtokF t i).1 = 0 ∨ rankF (xtokF t i).1 < least then .ok (f,i) else match c (xtokF t i).2.2 (xupR (rankF (xtokF t i).1)) with
  | .ok (g,e) => loopX t c least m (.mk (xkindR (rankF (xtokF t i).1)) ⟨#[]⟩ [] [f,g]) e
  | .error q => .error q
def xclimbF (t : ByteArray) : Nat → Nat → Int → RK
 | 0,i,_ => .error i
 | n + 1,i,least => match headX t (xclimbF t n) i with
  | .ok (f,j) => loopX t (xclimbF t n) least (t.size + 1) f j
  | .error q => .error q
section
variable {t : ByteArray}
theorem xsgn_pos : ∀ w ∈ xsigns,0 < w.size := by decide
theorem xsgn_head : ∀ w ∈ xsigns,∀ w' ∈ xsigns,w.data.toList.head? = w'.data.toList.head? → w = w' := by decide
theorem xhp_uniq {w w' : ByteArray} {k : Nat} (hw : w ∈ xsigns) (hw' : w' ∈ xsigns) (h : hp t k w = true) (h' : hp t k w' = true) : w = w' := by
 obtain ⟨r,hr⟩ := (hp_B (xsgn_pos w hw)).1 h
 obtain ⟨r',hr'⟩ := (hp_B (xsgn_pos w' hw')).1 h'
 have hx : ∀ (v : ByteArray) (q : Bs),0 < v.size → (v.data.toList ++ q).head? = v.data.toList.head? := by
  intro v q hv
  cases h : v.data.toList with
  | nil =>
   have : v.data.toList.length = 0 := by rw [h]; rfl
   have h2 : v.data.toList.length = v.size := rfl
   omega
  | cons c s => rfl
 refine xsgn_head w hw w' hw' ?_
 rw [← hx w r (xsgn_pos w hw),← hr,hr',hx w' r' (xsgn_pos w' hw')]
theorem xhp_other {w w' : ByteArray} {k : Nat} (h : hp t k w = true) (hw : w ∈ xsigns) (hw' : w' ∈ xsigns) (hne : w ≠ w') : hp t k w' = false := by
 rw [← Bool.not_eq_true]
 exact fun h' => hne (xhp_uniq hw hw' h h')
theorem xfind_uniq {p : ByteArray → Bool} {w : ByteArray} : ∀ l : List ByteArray,(∀ v ∈ l,p v = true → v = w) → w ∈ l → p w = true → l.find? p = some w
 | x :: l,hu,hm,hw => by
  rw [List.find?_cons]
  cases hx : p x with
  | true => rw [hu x (by simp) hx]
  | false =>
   rcases List.mem_cons.1 hm with rfl | hm
   ·rw [hw] at hx; cases hx
   ·exact xfind_uniq l (fun v hv => hu v (by simp [hv])) hm hw
theorem xtok_sign {w : ByteArray} {i : Nat} (hw : w ∈ xsigns) (h : hp t (bl t i) w = true) : xtokF t i = (w,bl t i,bl t i + w.size) := by
 have h1 : bl t i + w.size ≤ t.size := hp_len h
 have h2 := xsgn_pos w hw
 unfold xtokF
 rw [if_pos (by omega)]
 unfold xsignF
 rw [xfind_uniq xsigns (fun v hv hh => xhp_uniq hv hw hh h) hw h]
theorem empty_ext (t : ByteArray) (k : Nat) : (t.extract k k).size = 0 := by simp
theorem name_size {w : ByteArray} (h : w.size = 0) : isNameB w = false ∧ isBigB w = false := by
 constructor
 ·unfold isNameB; rw [h]; rfl
 ·unfold isBigB; rw [h]; rfl
theorem xtok_none {i : Nat} (h : ∀ w ∈ xsigns,hp t (bl t i) w = false) : (bl t i < lta t (bl t i) ∧ xtokF t i = (ltr t i,bl t i,lta t (bl t i))) ∨ (¬ bl t i < lta t (bl t i) ∧ (xtokF t i).2.1 = bl t i ∧ ((xtokF t i).1 = ⟨#[46]⟩ ∨ (xtokF t i).1 = ⟨#[]⟩)) := by
 by_cases hlt : bl t i < t.size
 ·have e : xtokF t i = xnameF t (bl t i) := by
   unfold xtokF
   rw [if_pos hlt]
   unfold xsignF
   rw [List.find?_eq_none.2 (fun x hx => by simp [h x hx])]
  rw [e]
  unfold xnameF
  by_cases hn : bl t i < lta t (bl t i)
  ·rw [if_pos hn]; exact .inl ⟨hn,rfl⟩
  ·rw [if_neg hn]; exact .inr ⟨hn,rfl,.inl rfl⟩
 ·have e : xtokF t i = (⟨#[]⟩,bl t i,bl t i) := by unfold xtokF; rw [if_neg hlt]
  rw [e]
  exact .inr ⟨by rw [lta_end hlt]; omega,rfl,.inr rfl⟩
theorem sign_noletter : ∀ w ∈ xsigns,(w.data.toList.head?.map letA) = some false := by decide
theorem lta_sign {w : ByteArray} {k : Nat} (hw : w ∈ xsigns) (h : hp t k w = true) : lta t k = k := by
 obtain ⟨r,hr⟩ := (hp_B (xsgn_pos w hw)).1 h
 have := sign_noletter w hw
 cases hc : w.data.toList with
 | nil => rw [hc] at this; cases this
 | cons c s =>
  rw [hc] at this hr
  have hlc : letA c = false := Option.some.inj this
  obtain ⟨h1,h2,_⟩ := B_cons hr
  exact lta_stop h1 (by rw [h2]; exact hlc)
theorem lta_letter {k : Nat} (h : k < lta t k) : ∃ hk : k < t.size,letA t[k] = true := by
 by_cases hk : k < t.size
 ·refine ⟨hk,?_⟩
  cases hl : letA t[k] with
  | true => rfl
  | false => rw [lta_stop hk hl] at h; omega
 ·rw [lta_end hk] at h; omega
theorem ltr_notsign {i : Nat} (h : bl t i < lta t (bl t i)) : ltr t i ∉ xsigns ∧ ltr t i ≠ ⟨#[]⟩ ∧ ltr t i ≠ ⟨#[46]⟩ := by
 obtain ⟨hk,hl⟩ := lta_letter h
 have hle := lta_le (Nat.le_of_lt hk)
 have hsz : (ltr t i).size = lta t (bl t i) - bl t i := by unfold ltr; rw [ByteArray.size_extract]; omega
 have h0 : 0 < (ltr t i).size := by omega
 have hhd : (ltr t i).data.toList.head? = some t[bl t i] := by
  rw [head_at h0]
  congr 1
  have e : (ltr t i).data = t.data.extract (bl t i) (lta t (bl t i)) := by unfold ltr; rw [ByteArray.data_extract]
  show (ltr t i).data[0] = t.data[bl t i]
  simp only [e,Array.getElem_extract,Nat.add_zero]
 refine ⟨fun hm => ?_,fun e => ?_,fun e => ?_⟩
 ·have := sign_noletter _ hm
  rw [hhd] at this
  simp [hl] at this
 ·rw [e] at h0; exact absurd h0 (by decide)
 ·rw [e] at hhd
  have : t[bl t i] = 46 := by simpa using hhd.symm
  rw [this] at hl
  exact absurd hl (by decide)
theorem xtok_no {i : Nat} (h : ∀ w ∈ xsigns,hp t (bl t i) w = false) : (xtokF t i).1 ∉ xsigns := by
 rcases xtok_none h with ⟨h1,h2⟩ | ⟨_,_,h2 | h2⟩
 ·rw [h2]; exact (ltr_notsign h1).1
 ·rw [h2]; simp [xsigns]
 ·rw [h2]; simp [xsigns]
theorem xsgn_cases (t : ByteArray) (i : Nat) : (∃ w ∈ xsigns,hp t (bl t i) w = true) ∨ ∀ w ∈ xsigns,hp t (bl t i) w = false := by
 by_cases h : ∃ w ∈ xsigns,hp t (bl t i) w = true
 ·exact .inl h
 ·refine .inr fun w hw => ?_
  rw [← Bool.not_eq_true]
  exact fun hh => h ⟨w,hw,hh⟩
theorem xtok_is {w : ByteArray} {i : Nat} (hw : w ∈ xsigns) : (xtokF t i).1 = w ↔ hp t (bl t i) w = true := by
 constructor
 ·intro h
  rcases xsgn_cases t i with ⟨v,hv,hh⟩ | hn
  ·rw [xtok_sign hv hh] at h
   exact h ▸ hh
  ·exact absurd (h ▸ hw) (xtok_no hn)
 ·intro h; rw [xtok_sign hw h]
theorem xsAnd : (⟨#[38]⟩ : ByteArray) ∈ xsigns := by simp [xsigns]
theorem xsOr : (⟨#[124]⟩ : ByteArray) ∈ xsigns := by simp [xsigns]
theorem xsThen : (⟨#[45,62]⟩ : ByteArray) ∈ xsigns := by simp [xsigns]
theorem xrank_cases (t : ByteArray) (i : Nat) :
  (hp t (bl t i) ⟨#[38]⟩ = true ∧ rankF (xtokF t i).1 = 3 ∧ (xtokF t i).2.2 = bl t i + 1) ∨
  (hp t (bl t i) ⟨#[38]⟩ = false ∧ hp t (bl t i) ⟨#[124]⟩ = true ∧ rankF (xtokF t i).1 = 2 ∧ (xtokF t i).2.2 = bl t i + 1) ∨
  (hp t (bl t i) ⟨#[38]⟩ = false ∧ hp t (bl t i) ⟨#[124]⟩ = false ∧ hp t (bl t i) ⟨#[45,62]⟩ = true ∧ rankF (xtokF t i).1 = 1 ∧ (xtokF t i).2.2 = bl t i + 2) ∨
  (hp t (bl t i) ⟨#[38]⟩ = false ∧ hp t (bl t i) ⟨#[124]⟩ = false ∧ hp t (bl t i) ⟨#[45,62]⟩ = false ∧ rankF (xtokF t i).1 = 0) := by
 cases h1 : hp t (bl t i) ⟨#[38]⟩ with
 | true => rw [xtok_sign xsAnd h1]; exact .inl ⟨rfl,rfl,rfl⟩
 | false =>
  cases h2 : hp t (bl t i) ⟨#[124]⟩ with
  | true => rw [xtok_sign xsOr h2]; exact .inr (.inl ⟨rfl,rfl,rfl,rfl⟩)
  | false =>
   cases h3 : hp t (bl t i) ⟨#[45,62]⟩ with
   | true => rw [xtok_sign xsThen h3]; exact .inr (.inr (.inl ⟨rfl,rfl,rfl,rfl,rfl⟩))
   | false =>
    refine .inr (.inr (.inr ⟨rfl,rfl,rfl,?_⟩))
    unfold rankF
    rw [if_neg,if_neg,if_neg]
    ·rw [xtok_is xsAnd,h1]; simp
    ·rw [xtok_is xsOr,h2]; simp
    ·rw [xtok_is xsThen,h3]; simp
def REqX (t : ByteArray) : RK → RX → Prop
 | .ok (f,j),.ok (g,k) => f = g ∧ bl t j = bl t k
 | .error p,.error q => p = q.1
 | _,_ => False
structure AgrX (t : ByteArray) (c : Nat → Int → RK) (p3 p2 pt : Nat → RX) (lo : Nat) : Prop where
 h4 : ∀ k,lo < k → k ≤ t.size → REqX t (c k 4) (p3 k)
 h3 : ∀ k,lo < k → k ≤ t.size → REqX t (c k 3) (p2 k)
 h1 : ∀ k,lo < k → k ≤ t.size → REqX t (c k 1) (pt k)
 le : ∀ k l g e,lo < k → k ≤ t.size → c k l = .ok (g,e) → k ≤ e ∧ e ≤ t.size
 le3 : ∀ k g e,lo < k → k ≤ t.size → p3 k = .ok (g,e) → k ≤ e ∧ e ≤ t.size
 le2 : ∀ k g e,lo < k → k ≤ t.size → p2 k = .ok (g,e) → k ≤ e ∧ e ≤ t.size
 st : ∀ k l g e,lo < k → k ≤ t.size → c k l = .ok (g,e) → rankF (xtokF t e).1 = 0 ∨ rankF (xtokF t e).1 < l
def xthenT (t : ByteArray) (pt : Nat → RX) : RX → RX
 | .ok (a,j) => if hp t (bl t j) ⟨#[45,62]⟩ = true then (match pt (bl t j + 2) with
  | .ok (g,k) => .ok (.mk 8 ⟨#[]⟩ [] [a,g],k)
  | .error q => .error q) else .ok (a,bl t j)
 | .error q => .error q
def xorT (t : ByteArray) (p2 : Nat → RX) (m : Nat) : RX → RX
 | .ok (a,j) => xopL t ⟨#[124]⟩ 7 p2 m a j
 | .error q => .error q
theorem xopL_bl {w : ByteArray} {k : Int} {p : Nat → RX} {m : Nat} {a : Ex} {i j : Nat} (h : bl t i = bl t j) : xopL t w k p (m + 1) a i = xopL t w k p (m + 1) a j := by
 unfold xopL; rw [h]
variable {c : Nat → Int → RK} {p3 p2 pt : Nat → RX} {lo : Nat}
theorem loopX_stop {least : Int} {m : Nat} {f : Ex} {j : Nat} (h : rankF (xtokF t j).1 = 0 ∨ rankF (xtokF t j).1 < least) (hm : 0 < m) : loopX t c least m f j = .ok (f,j) := by
 cases m with
 | zero => omega
 | succ m => rw [loopX,if_pos h]
theorem xloop3 (A : AgrX t c p3 p2 pt lo) : ∀ m f j j' m',lo ≤ j → j ≤ t.size → lo ≤ j' → j' ≤ t.size → bl t j = bl t j' → t.size - j < m → t.size - j' < m' → REqX t (loopX t c 3 m f j) (xopL t ⟨#[38]⟩ 6 p3 m' f j')
 | 0,f,j,j',m',_,_,_,_,_,hm,_ => by omega
 | m + 1,f,j,j',0,_,_,_,_,_,_,hm => by omega
 | m + 1,f,j,j',m' + 1,h1,h2,h3,h4,he,hm,hm' => by
  have b1 := bl_ge t j
  have b2 := bl_ge t j'
  rcases xrank_cases t j with ⟨r1,r2,r3⟩ | ⟨r1,r2,r3,r4⟩ | ⟨r1,r2,r3,r4,r5⟩ | ⟨r1,r2,r3,r4⟩
  ·have hl : bl t j + 1 ≤ t.size := hp_len r1
   rw [loopX,if_neg (by omega),r2,r3,show xupR 3 = 4 from rfl,show xkindR 3 = 6 from rfl,xopL,if_pos (by rw [← he]; exact r1),← he]
   have hr := A.h4 (bl t j + 1) (by omega) hl
   have hc := A.le (bl t j + 1) 4
   have hpp := A.le3 (bl t j + 1)
   change REqX t _ (match p3 (bl t j + 1) with | .ok (g,j) => xopL t ⟨#[38]⟩ 6 p3 m' (.mk 6 ⟨#[]⟩ [] [f,g]) j | .error q => .error q)
   revert hr hc hpp
   cases c (bl t j + 1) 4 with
   | error q =>
    cases p3 (bl t j + 1) with
    | error q' => exact fun h _ _ => h
    | ok z => exact fun h => h.elim
   | ok y =>
    obtain ⟨g,e⟩ := y
    cases p3 (bl t j + 1) with
    | error q' => exact fun h => h.elim
    | ok z =>
     obtain ⟨g',e'⟩ := z
     rintro ⟨rfl,hbe⟩ hc hpp
     have hc := hc g e (by omega) hl rfl
     have hpp := hpp g e' (by omega) hl rfl
     exact xloop3 A m _ e e' m' (by omega) hc.2 (by omega) hpp.2 hbe (by omega) (by omega)
  ·rw [loopX_stop (by omega) (by omega),xopL_stop (by rw [← he]; exact r1) (by omega)]
   exact ⟨rfl,by rw [bl_bl]; exact he⟩
  ·rw [loopX_stop (by omega) (by omega),xopL_stop (by rw [← he]; exact r1) (by omega)]
   exact ⟨rfl,by rw [bl_bl]; exact he⟩
  ·rw [loopX_stop (by omega) (by omega),xopL_stop (by rw [← he]; exact r1) (by omega)]
   exact ⟨rfl,by rw [bl_bl]; exact he⟩
theorem xloop2 (A : AgrX t c p3 p2 pt lo) : ∀ m f j j' m' m'',lo ≤ j → j ≤ t.size → lo ≤ j' → j' ≤ t.size → bl t j = bl t j' → t.size - j < m → t.size - j' < m' → t.size - j' < m'' → REqX t (loopX t c 2 m f j) (xorT t p2 m'' (xopL t ⟨#[38]⟩ 6 p3 m' f j'))
 | 0,f,j,j',m',m'',_,_,_,_,_,hm,_,_ => by omega
 | m + 1,f,j,j',0,m'',_,_,_,_,_,_,hm,_ => by omega
 | m + 1,f,j,j',m' + 1,0,_,_,_,_,_,_,_,hm => by omega
 | m + 1,f,j,j',m' + 1,m'' + 1,h1,h2,h3,h4,he,hm,hm',hm'' => by
  have b1 := bl_ge t j
  have b2 := bl_ge t j'
  rcases xrank_cases t j with ⟨r1,r2,r3⟩ | ⟨r1,r2,r3,r4⟩ | ⟨r1,r2,r3,r4,r5⟩ | ⟨r1,r2,r3,r4⟩
  ·have hl : bl t j + 1 ≤ t.size := hp_len r1
   rw [loopX,if_neg (by omega),r2,r3,show xupR 3 = 4 from rfl,show xkindR 3 = 6 from rfl,xopL,if_pos (by rw [← he]; exact r1),← he]
   have hr := A.h4 (bl t j + 1) (by omega) hl
   have hc := A.le (bl t j + 1) 4
   have hpp := A.le3 (bl t j + 1)
   change REqX t _ (xorT t p2 (m'' + 1) (match p3 (bl t j + 1) with | .ok (g,j) => xopL t ⟨#[38]⟩ 6 p3 m' (.mk 6 ⟨#[]⟩ [] [f,g]) j | .error q => .error q))
   revert hr hc hpp
   cases c (bl t j + 1) 4 with
   | error q =>
    cases p3 (bl t j + 1) with
    | error q' => exact fun h _ _ => h
    | ok z => exact fun h => h.elim
   | ok y =>
    obtain ⟨g,e⟩ := y
    cases p3 (bl t j + 1) with
    | error q' => exact fun h => h.elim
    | ok z =>
     obtain ⟨g',e'⟩ := z
     rintro ⟨rfl,hbe⟩ hc hpp
     have hc := hc g e (by omega) hl rfl
     have hpp := hpp g e' (by omega) hl rfl
     exact xloop2 A m _ e e' m' (m'' + 1) (by omega) hc.2 (by omega) hpp.2 hbe (by omega) (by omega) (by omega)
  ·have hl : bl t j + 1 ≤ t.size := hp_len r2
   rw [loopX,if_neg (by omega),r3,r4,show xupR 2 = 3 from rfl,show xkindR 2 = 7 from rfl,xopL_stop (by rw [← he]; exact r1) (by omega),xorT,xopL,bl_bl,if_pos (by rw [← he]; exact r2),← he]
   have hr := A.h3 (bl t j + 1) (by omega) hl
   have hc := A.le (bl t j + 1) 3
   have hs := A.st (bl t j + 1) 3
   have hpp := A.le2 (bl t j + 1)
   change REqX t _ (match p2 (bl t j + 1) with | .ok (g,j) => xopL t ⟨#[124]⟩ 7 p2 m'' (.mk 7 ⟨#[]⟩ [] [f,g]) j | .error q => .error q)
   revert hr hc hpp hs
   cases c (bl t j + 1) 3 with
   | error q =>
    cases p2 (bl t j + 1) with
    | error q' => exact fun h _ _ _ => h
    | ok z => exact fun h => h.elim
   | ok y =>
    obtain ⟨g,e⟩ := y
    cases p2 (bl t j + 1) with
    | error q' => exact fun h => h.elim
    | ok z =>
     obtain ⟨g',e'⟩ := z
     rintro ⟨rfl,hbe⟩ hc hs hpp
     have hc := hc g e (by omega) hl rfl
     have hpp := hpp g e' (by omega) hl rfl
     have hs := hs g e (by omega) hl rfl
     have hand : hp t (bl t e') ⟨#[38]⟩ = false := by
      rw [← hbe]
      rcases xrank_cases t e with ⟨q1,q2,_⟩ | ⟨q1,_⟩ | ⟨q1,_⟩ | ⟨q1,_⟩
      ·omega
      ·exact q1
      ·exact q1
      ·exact q1
     have := xloop2 A m (.mk 7 ⟨#[]⟩ [] [f,g]) e e' (m' + 1) m'' (by omega) hc.2 (by omega) hpp.2 hbe (by omega) (by omega) (by omega)
     rw [xopL_stop hand (by omega),xorT] at this
     cases m'' with
     | zero => omega
     | succ m'' => rw [xopL_bl (bl_bl t e')] at this; exact this
  ·rw [loopX_stop (by omega) (by omega),xopL_stop (by rw [← he]; exact r1) (by omega),xorT,xopL_stop (by rw [bl_bl,← he]; exact r2) (by omega)]
   exact ⟨rfl,by rw [bl_bl,bl_bl]; exact he⟩
  ·rw [loopX_stop (by omega) (by omega),xopL_stop (by rw [← he]; exact r1) (by omega),xorT,xopL_stop (by rw [bl_bl,← he]; exact r2) (by omega)]
   exact ⟨rfl,by rw [bl_bl,bl_bl]; exact he⟩
theorem xloop1 (A : AgrX t c p3 p2 pt lo) : ∀ m f j j' m' m'',lo ≤ j → j ≤ t.size → lo ≤ j' → j' ≤ t.size → bl t j = bl t j' → t.size - j < m → t.size - j' < m' → t.size - j' < m'' → REqX t (loopX t c 1 m f j) (xthenT t pt (xorT t p2 m'' (xopL t ⟨#[38]⟩ 6 p3 m' f j')))
 | 0,f,j,j',m',m'',_,_,_,_,_,hm,_,_ => by omega
 | m + 1,f,j,j',0,m'',_,_,_,_,_,_,hm,_ => by omega
 | m + 1,f,j,j',m' + 1,0,_,_,_,_,_,_,_,hm => by omega
 | m + 1,f,j,j',m' + 1,m'' + 1,h1,h2,h3,h4,he,hm,hm',hm'' => by
  have b1 := bl_ge t j
  have b2 := bl_ge t j'
  rcases xrank_cases t j with ⟨r1,r2,r3⟩ | ⟨r1,r2,r3,r4⟩ | ⟨r1,r2,r3,r4,r5⟩ | ⟨r1,r2,r3,r4⟩
  ·have hl : bl t j + 1 ≤ t.size := hp_len r1
   rw [loopX,if_neg (by omega),r2,r3,show xupR 3 = 4 from rfl,show xkindR 3 = 6 from rfl,xopL,if_pos (by rw [← he]; exact r1),← he]
   have hr := A.h4 (bl t j + 1) (by omega) hl
   have hc := A.le (bl t j + 1) 4
   have hpp := A.le3 (bl t j + 1)
   change REqX t _ (xthenT t pt (xorT t p2 (m'' + 1) (match p3 (bl t j + 1) with | .ok (g,j) => xopL t ⟨#[38]⟩ 6 p3 m' (.mk 6 ⟨#[]⟩ [] [f,g]) j | .error q => .error q)))
   revert hr hc hpp
   cases c (bl t j + 1) 4 with
   | error q =>
    cases p3 (bl t j + 1) with
    | error q' => exact fun h _ _ => h
    | ok z => exact fun h => h.elim
   | ok y =>
    obtain ⟨g,e⟩ := y
    cases p3 (bl t j + 1) with
    | error q' => exact fun h => h.elim
    | ok z =>
     obtain ⟨g',e'⟩ := z
     rintro ⟨rfl,hbe⟩ hc hpp
     have hc := hc g e (by omega) hl rfl
     have hpp := hpp g e' (by omega) hl rfl
     exact xloop1 A m _ e e' m' (m'' + 1) (by omega) hc.2 (by omega) hpp.2 hbe (by omega) (by omega) (by omega)
  ·have hl : bl t j + 1 ≤ t.size := hp_len r2
   rw [loopX,if_neg (by omega),r3,r4,show xupR 2 = 3 from rfl,show xkindR 2 = 7 from rfl,xopL_stop (by rw [← he]; exact r1) (by omega),xorT,xopL,bl_bl,if_pos (by rw [← he]; exact r2),← he]
   have hr := A.h3 (bl t j + 1) (by omega) hl
   have hc := A.le (bl t j + 1) 3
   have hs := A.st (bl t j + 1) 3
   have hpp := A.le2 (bl t j + 1)
   change REqX t _ (xthenT t pt (match p2 (bl t j + 1) with | .ok (g,j) => xopL t ⟨#[124]⟩ 7 p2 m'' (.mk 7 ⟨#[]⟩ [] [f,g]) j | .error q => .error q))
   revert hr hc hpp hs
   cases c (bl t j + 1) 3 with
   | error q =>
    cases p2 (bl t j + 1) with
    | error q' => exact fun h _ _ _ => h
    | ok z => exact fun h => h.elim
   | ok y =>
    obtain ⟨g,e⟩ := y
    cases p2 (bl t j + 1) with
    | error q' => exact fun h => h.elim
    | ok z =>
     obtain ⟨g',e'⟩ := z
     rintro ⟨rfl,hbe⟩ hc hs hpp
     have hc := hc g e (by omega) hl rfl
     have hpp := hpp g e' (by omega) hl rfl
     have hs := hs g e (by omega) hl rfl
     have hand : hp t (bl t e') ⟨#[38]⟩ = false := by
      rw [← hbe]
      rcases xrank_cases t e with ⟨q1,q2,_⟩ | ⟨q1,_⟩ | ⟨q1,_⟩ | ⟨q1,_⟩
      ·omega
      ·exact q1
      ·exact q1
      ·exact q1
     have := xloop1 A m (.mk 7 ⟨#[]⟩ [] [f,g]) e e' (m' + 1) m'' (by omega) hc.2 (by omega) hpp.2 hbe (by omega) (by omega) (by omega)
     rw [xopL_stop hand (by omega),xorT] at this
     cases m'' with
     | zero => omega
     | succ m'' => rw [xopL_bl (bl_bl t e')] at this; exact this
  ·have hl : bl t j + 2 ≤ t.size := hp_len r3
   rw [loopX,if_neg (by omega),r4,r5,show xupR 1 = 1 from rfl,show xkindR 1 = 8 from rfl,xopL_stop (by rw [← he]; exact r1) (by omega),xorT,xopL_stop (by rw [bl_bl,← he]; exact r2) (by omega),xthenT,bl_bl,bl_bl,if_pos (by rw [← he]; exact r3),← he]
   have hr := A.h1 (bl t j + 2) (by omega) hl
   have hc := A.le (bl t j + 2) 1
   have hs := A.st (bl t j + 2) 1
   revert hr hc hs
   cases c (bl t j + 2) 1 with
   | error q =>
    cases pt (bl t j + 2) with
    | error q' => exact fun h _ _ => h
    | ok z => exact fun h => h.elim
   | ok y =>
    obtain ⟨g,e⟩ := y
    cases pt (bl t j + 2) with
    | error q' => exact fun h => h.elim
    | ok z =>
     obtain ⟨g',e'⟩ := z
     rintro ⟨rfl,hbe⟩ hc hs
     have hc := hc g e (by omega) hl rfl
     have hs := hs g e (by omega) hl rfl
     dsimp only
     rw [loopX_stop hs (by omega)]
     exact ⟨rfl,hbe⟩
  ·rw [loopX_stop (by omega) (by omega),xopL_stop (by rw [← he]; exact r1) (by omega),xorT,xopL_stop (by rw [bl_bl,← he]; exact r2) (by omega),xthenT,if_neg (by rw [bl_bl,bl_bl,← he,r3]; decide)]
   exact ⟨rfl,by rw [bl_bl,bl_bl,bl_bl]; exact he⟩
theorem xtok_at (t : ByteArray) (i : Nat) : (xtokF t i).2.1 = bl t i := by
 rcases xsgn_cases t i with ⟨w,hw,h⟩ | h
 ·rw [xtok_sign hw h]
 ·rcases xtok_none h with ⟨_,h2⟩ | ⟨_,h2,_⟩
  ·rw [h2]
  ·exact h2
theorem sign_noname : ∀ w ∈ xsigns,isNameB w = false ∧ isBigB w = false := by decide
theorem xtok_name (t : ByteArray) (i : Nat) : isNameB (xtokF t i).1 = isNameB (ltr t i) ∧ isBigB (xtokF t i).1 = isBigB (ltr t i) ∧ (isNameB (ltr t i) = true ∨ isBigB (ltr t i) = true → xtokF t i = (ltr t i,bl t i,lta t (bl t i))) := by
 have he : ¬ bl t i < lta t (bl t i) → isNameB (ltr t i) = false ∧ isBigB (ltr t i) = false := fun h => by
  have hg := lta_ge t (bl t i)
  refine name_size ?_
  unfold ltr
  rw [show lta t (bl t i) = bl t i by omega]
  exact empty_ext t _
 rcases xsgn_cases t i with ⟨w,hw,h⟩ | h
 ·have hl := lta_sign hw h
  obtain ⟨e1,e2⟩ := he (by omega)
  obtain ⟨n1,n2⟩ := sign_noname w hw
  rw [e1,e2,xtok_sign hw h]
  exact ⟨n1,n2,by simp⟩
 ·rcases xtok_none h with ⟨h1,h2⟩ | ⟨h1,h2,h3⟩
  ·rw [h2]; exact ⟨rfl,rfl,fun _ => rfl⟩
  ·obtain ⟨e1,e2⟩ := he h1
   rw [e1,e2]
   refine ⟨?_,?_,by simp⟩
   ·rcases h3 with h3 | h3 <;> rw [h3] <;> decide
   ·rcases h3 with h3 | h3 <;> rw [h3] <;> decide
theorem xtok_le {i : Nat} (hi : i ≤ t.size) : bl t i ≤ (xtokF t i).2.2 ∧ (xtokF t i).2.2 ≤ t.size := by
 have hb := bl_le hi
 unfold xtokF
 split
 ·rename_i hlt
  unfold xsignF
  split
  ·rename_i w hw
   have := hp_len (List.find?_some hw)
   exact ⟨Nat.le_add_right _ _,this⟩
  ·have h1 := lta_ge t (bl t i)
   have h2 := lta_le hb
   unfold xnameF
   split
   ·exact ⟨h1,h2⟩
   ·exact ⟨Nat.le_succ _,hlt⟩
 ·exact ⟨Nat.le_refl _,hb⟩
theorem xtok_nil (t : ByteArray) (i : Nat) : (xtokF t i).1 = ⟨#[]⟩ ↔ ¬ bl t i < t.size := by
 constructor
 ·intro h hlt
  rcases xsgn_cases t i with ⟨w,hw,hh⟩ | hh
  ·rw [xtok_sign hw hh] at h
   have := xsgn_pos w hw
   dsimp only at h
   rw [h] at this
   exact absurd this (by decide)
  ·have e : xtokF t i = xnameF t (bl t i) := by
    unfold xtokF
    rw [if_pos hlt]
    unfold xsignF
    rw [List.find?_eq_none.2 (fun x hx => by simp [hh x hx])]
   rw [e] at h
   unfold xnameF at h
   split at h
   ·rename_i hn
    exact (ltr_notsign hn).2.1 h
   ·exact absurd (show (⟨#[46]⟩ : ByteArray) = ⟨#[]⟩ from h) (by decide)
 ·intro h
  unfold xtokF; rw [if_neg h]
theorem xtok_adv {i : Nat} (h : (xtokF t i).1 ≠ ⟨#[]⟩) : bl t i < (xtokF t i).2.2 := by
 rcases xsgn_cases t i with ⟨w,hw,hh⟩ | hh
 ·rw [xtok_sign hw hh]
  exact Nat.lt_add_of_pos_right (xsgn_pos w hw)
 ·have hlt : bl t i < t.size := by
   by_cases hlt : bl t i < t.size
   ·exact hlt
   ·exact absurd ((xtok_nil t i).2 hlt) h
  have e : xtokF t i = xnameF t (bl t i) := by
   unfold xtokF
   rw [if_pos hlt]
   unfold xsignF
   rw [List.find?_eq_none.2 (fun x hx => by simp [hh x hx])]
  rw [e]
  unfold xnameF
  split
  ·rename_i hn; exact hn
  ·exact Nat.lt_succ_self _
theorem sOpen : (⟨#[40]⟩ : ByteArray) ∈ xsigns := by simp [xsigns]
theorem sClose : (⟨#[41]⟩ : ByteArray) ∈ xsigns := by simp [xsigns]
theorem sComma : (⟨#[44]⟩ : ByteArray) ∈ xsigns := by simp [xsigns]
theorem sEq : (⟨#[61]⟩ : ByteArray) ∈ xsigns := by simp [xsigns]
def REqA {α : Type} (t : ByteArray) : RC α → RA α → Prop
 | .ok (f,j),.ok (g,k) => f = g ∧ bl t j = bl t k
 | .error p,.error q => p = q.1
 | _,_ => False
theorem argL_eq {pw : Nat → RC Wd} {pw' : Nat → RA Wd} {lo : Nat} (H : ∀ k,lo < k → k ≤ t.size → REqA t (pw k) (pw' k)) (L : ∀ k w e,lo < k → k ≤ t.size → pw k = .ok (w,e) → k ≤ e ∧ e ≤ t.size) (L' : ∀ k w e,lo < k → k ≤ t.size → pw' k = .ok (w,e) → k ≤ e ∧ e ≤ t.size) :
  ∀ n m l i,lo < i → i ≤ t.size → t.size - i < n → t.size - i < m → REqA t (argLC t pw n l i) (match pw' i with
   | .ok (w,j) => argL t pw' m (l ++ [w]) j
   | .error q => .error q)
 | 0,m,l,i,_,_,h,_ => by omega
 | n + 1,0,l,i,_,_,_,h => by omega
 | n + 1,m + 1,l,i,hlo,hi,hn,hm => by
  have h := H i hlo hi
  have hL := L i
  have hL' := L' i
  rw [argLC]
  revert h hL hL'
  cases pw i with
  | error q =>
   cases pw' i with
   | error q' => exact fun h _ _ => h
   | ok z => exact fun h => h.elim
  | ok y =>
   obtain ⟨w,e⟩ := y
   cases pw' i with
   | error q' => exact fun h => h.elim
   | ok z =>
    obtain ⟨w',e'⟩ := z
    rintro ⟨rfl,hbe⟩ hL hL'
    have hL := hL w e hlo hi rfl
    have hL' := hL' w e' hlo hi rfl
    have hbg := bl_ge t e
    have hbg' := bl_ge t e'
    dsimp only
    rw [argL]
    cases h1 : hp t (bl t e') ⟨#[41]⟩ with
    | true =>
     have h2 : hp t (bl t e') ⟨#[44]⟩ = false := xhp_other h1 sClose sComma (by decide)
     have ht := xtok_sign (i := e) sClose (by rw [hbe]; exact h1)
     rw [ht,if_pos rfl,if_neg (by rw [h2]; decide),if_pos rfl,hbe]
     exact ⟨rfl,rfl⟩
    | false =>
     rw [if_neg (by rw [xtok_is sClose,hbe,h1]; decide)]
     cases h2 : hp t (bl t e') ⟨#[44]⟩ with
     | true =>
      have hl : bl t e' + 1 ≤ t.size := hp_len h2
      have ht := xtok_sign (i := e) sComma (by rw [hbe]; exact h2)
      rw [ht,if_pos rfl,if_pos rfl]
      dsimp only
      rw [show bl t e + (⟨#[44]⟩ : ByteArray).size = bl t e' + 1 by rw [hbe]; rfl]
      exact argL_eq H L L' n m (l ++ [w]) (bl t e' + 1) (by omega) hl (by omega) (by omega)
     | false =>
      rw [if_neg (by rw [xtok_is sComma,hbe,h2]; decide),if_neg (by decide),if_neg (by decide),xtok_at,hbe]
      rfl
theorem argLC_le {pw : Nat → RC Wd} {lo : Nat} (L : ∀ k w e,lo < k → k ≤ t.size → pw k = .ok (w,e) → k ≤ e ∧ e ≤ t.size) : ∀ n l i,lo < i → i ≤ t.size → ∀ f e,argLC t pw n l i = .ok (f,e) → i ≤ e ∧ e ≤ t.size
 | 0,l,i,_,_,f,e,h => by cases h
 | n + 1,l,i,hlo,hi,f,e,h => by
  rw [argLC] at h
  split at h
  ·rename_i w j hw
   have h1 := L i w j hlo hi hw
   have h2 := xtok_le h1.2
   have h3 := bl_ge t j
   split at h
   ·cases h; omega
   split at h
   ·have := argLC_le L n _ _ (by omega) h2.2 f e h; omega
   ·cases h
  ·cases h
theorem WC2_le (t : ByteArray) : ∀ n i,i ≤ t.size → (∀ w e,(WC2 t n).1 i = .ok (w,e) → i ≤ e ∧ e ≤ t.size) ∧ (∀ w e,(WC2 t n).2 i = .ok (w,e) → i ≤ e ∧ e ≤ t.size)
 | 0,i,_ => ⟨fun w e h => (by cases h),fun w e h => (by cases h)⟩
 | n + 1,i,hi => by
  have h1 := xtok_le hi
  have h2 := bl_ge t i
  refine ⟨fun w e h => ?_,fun w e h => ?_⟩
  ·replace h : wordC t (WC2 t n).2 i = .ok (w,e) := h
   unfold wordC at h
   split at h
   ·cases h; omega
   split at h
   ·split at h
    ·rename_i l j hl
     have := (WC2_le t n _ h1.2).2 _ _ hl
     cases h; omega
    ·cases h
   ·cases h
  ·replace h : argsC t (WC2 t n).1 i = .ok (w,e) := h
   unfold argsC at h
   split at h
   ·rename_i ht
    have h3 := xtok_adv (t := t) (i := i) (by rw [ht]; decide)
    have := argLC_le (lo := i) (fun k w e h4 h5 => (WC2_le t n k h5).1 w e) _ _ _ (by omega) h1.2 _ _ h
    omega
   ·cases h; omega
theorem WC2_eq (hs : t.size ≤ 1000000) : ∀ n m i,i ≤ t.size → (2 * (t.size - i) + 2 ≤ n → 2 * (t.size - i) + 2 ≤ m → REqA t ((WC2 t n).1 i) ((WA t m).1 i)) ∧ (2 * (t.size - i) + 1 ≤ n → 2 * (t.size - i) + 1 ≤ m → REqA t ((WC2 t n).2 i) ((WA t m).2 i))
 | 0,m,i,_ => ⟨fun h => by omega,fun h => by omega⟩
 | n + 1,0,i,_ => ⟨fun _ h => by omega,fun _ h => by omega⟩
 | n + 1,m + 1,i,hi => by
  have hb := bl_ge t i
  have hb2 := bl_le hi
  have hl := lta_ge t (bl t i)
  have hl2 := lta_le hb2
  refine ⟨fun hn hm => ?_,fun hn hm => ?_⟩
  ·show REqA t (wordC t (WC2 t n).2 i) (wordP t (WA t m).2 i)
   obtain ⟨e1,e2,e3⟩ := xtok_name t i
   unfold wordC wordP
   rw [e1,e2]
   by_cases h1 : isNameB (ltr t i) = true
   ·rw [if_pos h1,if_pos h1,e3 (.inl h1)]
    exact ⟨rfl,rfl⟩
   rw [if_neg h1,if_neg h1]
   by_cases h2 : isBigB (ltr t i) = true
   ·rw [if_pos h2,if_pos h2,e3 (.inr h2)]
    dsimp only
    have := (WC2_eq hs n m (lta t (bl t i)) hl2).2 (by omega) (by omega)
    revert this
    cases (WC2 t n).2 (lta t (bl t i)) with
    | error q =>
     cases (WA t m).2 (lta t (bl t i)) with
     | error q' => exact id
     | ok z => exact fun h => h.elim
    | ok y =>
     cases (WA t m).2 (lta t (bl t i)) with
     | error q' => exact fun h => h.elim
     | ok z => exact fun h => ⟨by rw [h.1],h.2⟩
   ·rw [if_neg h2,if_neg h2,xtok_at]
    rfl
  ·show REqA t (argsC t (WC2 t n).1 i) (argsP t (WA t m).1 i)
   unfold argsC argsP
   cases h : hp t (bl t i) ⟨#[40]⟩ with
   | true =>
    have hlen : bl t i + 1 ≤ t.size := hp_len h
    have ht := xtok_sign (i := i) sOpen h
    rw [ht,if_pos rfl,if_pos rfl]
    exact argL_eq (lo := i) (fun k h1 h2 => (WC2_eq hs n m k h2).1 (by omega) (by omega)) (fun k w e h1 h2 => (WC2_le t n k h2).1 w e) (fun k w e h1 h2 hw => by
     have := (WA_told t hs m k h2).1 (by omega); rw [hw] at this; exact this.2) _ _ [] (bl t i + 1) (by omega) hlen (by omega) (by omega)
   | false =>
    rw [if_neg (by rw [xtok_is sOpen,h]; decide),if_neg (by decide)]
    exact ⟨rfl,(bl_bl t i).symm⟩
theorem wd_eq (hs : t.size ≤ 1000000) (i : Nat) (hi : i ≤ t.size) : REqA t (wdC t i) (wdP t i) := (WC2_eq hs _ _ i hi).1 (by omega) (by omega)
theorem wdC_le (i : Nat) (hi : i ≤ t.size) : ∀ w e,wdC t i = .ok (w,e) → i ≤ e ∧ e ≤ t.size := (WC2_le t _ i hi).1
theorem xuna_eq {x : RK} {y : RX} (h : REqX t x y) : REqX t (xunaC x) (xuna y) := by
 cases x with
 | error p => cases y with
  | error q => exact h
  | ok z => exact h.elim
 | ok z => cases y with
  | error q => exact h.elim
  | ok w => exact ⟨by rw [h.1],h.2⟩
theorem xqua_eq {c : Nat → Int → RK} {pn : Nat → RX} {k : Int} {i : Nat} (hi : i ≤ t.size) (h4 : ∀ k,i ≤ k → k ≤ t.size → REqX t (c k 4) (pn k)) : REqX t (if isNameB (xtokF t i).1 = true then quaC k (xtokF t i).1 (c (xtokF t i).2.2 4) else .error (xtokF t i).2.1) (quaP t k pn (varP t i)) := by
 obtain ⟨e1,_,e3⟩ := xtok_name t i
 have hb := bl_ge t i
 have hb2 := bl_le hi
 have hl := lta_ge t (bl t i)
 have hl2 := lta_le hb2
 rw [e1]
 unfold varP
 by_cases h1 : isNameB (ltr t i) = true
 ·rw [if_pos h1,if_pos h1,e3 (.inl h1)]
  have := h4 (lta t (bl t i)) (by omega) hl2
  unfold quaP
  dsimp only
  revert this
  cases c (lta t (bl t i)) 4 with
  | error q => cases pn (lta t (bl t i)) with
   | error q' => exact id
   | ok z => exact fun h => h.elim
  | ok y => cases pn (lta t (bl t i)) with
   | error q' => exact fun h => h.elim
   | ok z => exact fun h => ⟨by rw [h.1],h.2⟩
 ·rw [if_neg h1,if_neg h1,xtok_at]
  rfl
theorem xpar_eq {x : RK} {y : RX} (h : REqX t x y) : REqX t (xparC t x) (xpar t y) := by
 cases x with
 | error p => cases y with
  | error q => exact h
  | ok z => exact h.elim
 | ok z => cases y with
  | error q => exact h.elim
  | ok w =>
   obtain ⟨g,e⟩ := z
   obtain ⟨g',e'⟩ := w
   obtain ⟨rfl,he⟩ := h
   unfold xpar xparC mustP
   dsimp only
   cases hh : hp t (bl t e') ⟨#[41]⟩ with
   | true =>
    have ht := xtok_sign (i := e) sClose (by rw [he]; exact hh)
    rw [ht,if_pos rfl,if_pos rfl,he]
    exact ⟨rfl,rfl⟩
   | false =>
    rw [if_neg (by rw [xtok_is sClose,he,hh]; decide),if_neg (by decide),xtok_at,he]
    rfl
theorem xatom_eq (hs : t.size ≤ 1000000) {i : Nat} (hi : i ≤ t.size) : REqX t (atomC t (wdC t i)) (xatom t (wdP t i)) := by
 have h := wd_eq hs i hi
 have hL := wdC_le (t := t) i hi
 have hL' := wdP_le t hs i hi
 revert h hL hL'
 cases wdC t i with
 | error q => cases wdP t i with
  | error q' => exact fun h _ _ => h
  | ok z => exact fun h => h.elim
 | ok y =>
  obtain ⟨w,e⟩ := y
  cases wdP t i with
  | error q' => exact fun h => h.elim
  | ok z =>
   obtain ⟨w',e'⟩ := z
   rintro ⟨rfl,hbe⟩ hL hL'
   have hL := hL w e rfl
   unfold atomC xatom
   dsimp only
   cases hh : hp t (bl t e') ⟨#[61]⟩ with
   | true =>
    have hl : bl t e' + 1 ≤ t.size := hp_len hh
    have ht := xtok_sign (i := e) sEq (by rw [hbe]; exact hh)
    rw [ht,if_pos rfl,if_pos rfl,hbe]
    have h2 := wd_eq hs (bl t e' + 1) hl
    change REqX t (match wdC t (bl t e' + 1) with
     | .ok (v,k) => .ok (.mk 2 ⟨#[]⟩ [w,v] [],k)
     | .error q => .error q) _
    revert h2
    cases wdC t (bl t e' + 1) with
    | error q => cases wdP t (bl t e' + 1) with
     | error q' => exact id
     | ok z => exact fun h => h.elim
    | ok y => cases wdP t (bl t e' + 1) with
     | error q' => exact fun h => h.elim
     | ok z => exact fun h => ⟨by rw [h.1],h.2⟩
   | false =>
    rw [if_neg (by rw [xtok_is sEq,hbe,hh]; decide)]
    simp only [Bool.false_eq_true,if_false]
    by_cases hn : isNameB w.nm = true
    ·rw [if_pos hn,if_pos hn,xtok_at,hbe]
     rfl
    ·rw [if_neg hn,if_neg hn]
     exact ⟨rfl,by rw [bl_bl]; exact hbe⟩
theorem xhp_eq {w v : ByteArray} {k : Nat} (hw : w ∈ xsigns) (h : hp t k w = true) (hv : v ∈ xsigns) : hp t k v = decide (w = v) := by
 by_cases hwv : w = v
 ·subst hwv; rw [h]; simp
 ·rw [xhp_other h hw hv hwv,decide_eq_false hwv]
theorem xhead_eq (hs : t.size ≤ 1000000) {c : Nat → Int → RK} {pn pt : Nat → RX} {i : Nat} (hi : i ≤ t.size) (h4 : ∀ k,i < k → k ≤ t.size → REqX t (c k 4) (pn k)) (h1 : ∀ k,i < k → k ≤ t.size → REqX t (c k 1) (pt k)) : REqX t (headX t c i) (xnotP t pn pt i) := by
 have hb := bl_ge t i
 have hb2 := bl_le hi
 have m1 : (⟨#[126]⟩ : ByteArray) ∈ xsigns := by simp [xsigns]
 have m2 : (⟨#[33]⟩ : ByteArray) ∈ xsigns := by simp [xsigns]
 have m3 : (⟨#[63]⟩ : ByteArray) ∈ xsigns := by simp [xsigns]
 have m4 : (⟨#[40]⟩ : ByteArray) ∈ xsigns := by simp [xsigns]
 have m5 : (⟨#[49]⟩ : ByteArray) ∈ xsigns := by simp [xsigns]
 have m6 : (⟨#[48]⟩ : ByteArray) ∈ xsigns := by simp [xsigns]
 have hat := xatom_eq hs hb2
 rcases xsgn_cases t i with ⟨w,hw,h⟩ | h
 ·have hl := hp_len h
  have hsz := xsgn_pos w hw
  unfold headX xnotP
  rw [xtok_sign hw h,xhp_eq hw h m1,xhp_eq hw h m2,xhp_eq hw h m3,xhp_eq hw h m4,xhp_eq hw h m5,xhp_eq hw h m6]
  simp only [decide_eq_true_eq]
  by_cases e1 : w = ⟨#[126]⟩
  ·rw [if_pos e1,if_pos e1]; subst e1
   exact xuna_eq (h4 _ (Nat.lt_of_le_of_lt hb (Nat.lt_succ_self _)) hl)
  rw [if_neg e1,if_neg e1]
  by_cases e2 : w = ⟨#[33]⟩
  ·have hk : (if w = (⟨#[63]⟩ : ByteArray) then (10 : Int) else 9) = 9 := if_neg (by rw [e2]; decide)
   rw [if_pos (.inl e2),if_pos e2,hk]; subst e2
   exact xqua_eq hl (fun k h2 h3 => h4 k (Nat.lt_of_lt_of_le (Nat.lt_of_le_of_lt hb (Nat.lt_succ_self _)) h2) h3)
  by_cases e3 : w = ⟨#[63]⟩
  ·have hk : (if w = (⟨#[63]⟩ : ByteArray) then (10 : Int) else 9) = 10 := if_pos e3
   rw [if_pos (.inr e3),hk,if_neg e2,if_pos e3]; subst e3
   exact xqua_eq hl (fun k h2 h3 => h4 k (Nat.lt_of_lt_of_le (Nat.lt_of_le_of_lt hb (Nat.lt_succ_self _)) h2) h3)
  rw [if_neg (fun h => h.elim e2 e3),if_neg e2,if_neg e3]
  by_cases e4 : w = ⟨#[40]⟩
  ·rw [if_pos e4,if_pos e4]; subst e4
   exact xpar_eq (h1 _ (Nat.lt_of_le_of_lt hb (Nat.lt_succ_self _)) hl)
  rw [if_neg e4,if_neg e4]
  by_cases e5 : w = ⟨#[49]⟩
  ·rw [if_pos e5,if_pos e5]; subst e5
   exact ⟨rfl,rfl⟩
  rw [if_neg e5,if_neg e5]
  by_cases e6 : w = ⟨#[48]⟩
  ·rw [if_pos e6,if_pos e6]; subst e6
   exact ⟨rfl,rfl⟩
  rw [if_neg e6,if_neg e6]
  exact hat
 ·have hno := xtok_no h
  have ne : ∀ v ∈ xsigns,¬ (xtokF t i).1 = v := fun v hv he => hno (he ▸ hv)
  unfold headX xnotP
  rw [h _ m1,h _ m2,h _ m3,h _ m4,h _ m5,h _ m6,if_neg (ne _ m1),if_neg (fun hh => hh.elim (ne _ m2) (ne _ m3)),if_neg (ne _ m4),if_neg (ne _ m5),if_neg (ne _ m6),xtok_at]
  simp only [Bool.false_eq_true,if_false]
  exact hat
theorem loopX_le {c : Nat → Int → RK} {l : Int} (h : ∀ k l g e,k ≤ t.size → c k l = .ok (g,e) → k ≤ e ∧ e ≤ t.size) : ∀ m f j g e,j ≤ t.size → loopX t c l m f j = .ok (g,e) → (j ≤ e ∧ e ≤ t.size) ∧ (rankF (xtokF t e).1 = 0 ∨ rankF (xtokF t e).1 < l)
 | 0,f,j,g,e,_,he => by cases he
 | m + 1,f,j,g,e,hj,he => by
  have h1 := bl_ge t j
  have h2 := xtok_le hj
  unfold loopX at he
  split at he
  ·rename_i hr
   cases he
   exact ⟨⟨Nat.le_refl _,hj⟩,hr⟩
  ·split at he
   ·rename_i g1 e1 hc
    have h3 := h _ _ _ _ h2.2 hc
    have h4 := loopX_le h m _ e1 g e h3.2 he
    exact ⟨⟨by omega,h4.1.2⟩,h4.2⟩
   ·cases he
theorem headX_le {c : Nat → Int → RK} (h : ∀ k l g e,k ≤ t.size → c k l = .ok (g,e) → k ≤ e ∧ e ≤ t.size) {i : Nat} (hi : i ≤ t.size) {g : Ex} {e : Nat} (he : headX t c i = .ok (g,e)) : i ≤ e ∧ e ≤ t.size := by
 have h1 := bl_ge t i
 have h2 := xtok_le hi
 unfold headX at he
 split at he
 ·cases hc : c (xtokF t i).2.2 4 with
  | error q => rw [hc] at he; cases he
  | ok r =>
   obtain ⟨g1,e1⟩ := r
   have := h _ _ _ _ h2.2 hc
   rw [hc] at he; cases he; omega
 split at he
 ·have h3 := xtok_le h2.2
  have h4 := bl_ge t (xtokF t i).2.2
  split at he
  ·cases hc : c (xtokF t (xtokF t i).2.2).2.2 4 with
   | error q => rw [hc] at he; cases he
   | ok r =>
    obtain ⟨g1,e1⟩ := r
    have := h _ _ _ _ h3.2 hc
    rw [hc] at he; cases he; omega
  ·cases he
 split at he
 ·unfold xparC at he
  split at he
  ·rename_i g1 e1 hc
   have h3 := h _ _ _ _ h2.2 hc
   have h4 := xtok_le h3.2
   have h5 := bl_ge t e1
   split at he
   ·cases he; omega
   ·cases he
  ·cases he
 split at he
 ·cases he; omega
 split at he
 ·cases he; omega
 ·have hat := bl_le hi
  rw [xtok_at] at he
  unfold atomC at he
  split at he
  ·rename_i w e1 hc
   have h3 := wdC_le _ hat _ _ hc
   have h4 := xtok_le h3.2
   have h5 := bl_ge t e1
   split at he
   ·split at he
    ·rename_i v k hv
     have := wdC_le _ h4.2 _ _ hv
     cases he; omega
    ·cases he
   ·split at he
    ·cases he
    ·cases he; omega
  ·cases he
theorem xclimb_le (t : ByteArray) : ∀ n k l g e,k ≤ t.size → xclimbF t n k l = .ok (g,e) → k ≤ e ∧ e ≤ t.size
 | 0,k,l,g,e,_,h => by cases h
 | n + 1,k,l,g,e,hk,h => by
  unfold xclimbF at h
  split at h
  ·rename_i f j hh
   have h1 := headX_le (xclimb_le t n) hk hh
   have h2 := loopX_le (xclimb_le t n) _ _ _ _ _ h1.2 h
   omega
  ·cases h
theorem xclimb_st (t : ByteArray) : ∀ n k l g e,k ≤ t.size → xclimbF t n k l = .ok (g,e) → rankF (xtokF t e).1 = 0 ∨ rankF (xtokF t e).1 < l
 | 0,k,l,g,e,_,h => by cases h
 | n + 1,k,l,g,e,hk,h => by
  unfold xclimbF at h
  split at h
  ·rename_i f j hh
   have h1 := headX_le (xclimb_le t n) hk hh
   exact (loopX_le (xclimb_le t n) _ _ _ _ _ h1.2 h).2
  ·cases h
theorem xclimb_eq (hs : t.size ≤ 1000000) : ∀ n m i,i ≤ t.size → t.size - i < n → t.size - i < m → REqX t (xclimbF t n i 4) ((XXf t m).1 i) ∧ REqX t (xclimbF t n i 3) (xpand t m i) ∧ REqX t (xclimbF t n i 2) (xpor t m i) ∧ REqX t (xclimbF t n i 1) ((XXf t m).2 i)
 | 0,m,i,_,h,_ => by omega
 | n + 1,0,i,_,_,h => by omega
 | n + 1,m + 1,i,hi,hn,hm => by
  have A : AgrX t (xclimbF t n) (XXf t (m + 1)).1 (xpand t (m + 1)) (XXf t m).2 i :=
   ⟨fun k h1 h2 => (xclimb_eq hs n (m + 1) k h2 (by omega) (by omega)).1,
    fun k h1 h2 => (xclimb_eq hs n (m + 1) k h2 (by omega) (by omega)).2.1,
    fun k h1 h2 => (xclimb_eq hs n m k h2 (by omega) (by omega)).2.2.2,
    fun k l g e h1 h2 h3 => xclimb_le t n k l g e h2 h3,
    fun k g e h1 h2 h3 => xle_of1 hs h2 (by omega) h3,
    fun k g e h1 h2 h3 => xle_of2 hs h2 (by omega) h3,
    fun k l g e h1 h2 h3 => xclimb_st t n k l g e h2 h3⟩
  have hh : REqX t (headX t (xclimbF t n) i) ((XXf t (m + 1)).1 i) := xhead_eq hs hi (fun k h1 h2 => (xclimb_eq hs n m k h2 (by omega) (by omega)).1) fun k h1 h2 => (xclimb_eq hs n m k h2 (by omega) (by omega)).2.2.2
  have hl1 := fun g e => headX_le (c := xclimbF t n) (xclimb_le t n) hi (g := g) (e := e)
  have hl2 := fun g e => xle_of1 (n := m + 1) (f := g) (e := e) hs hi (by omega)
  have e2 : (XXf t (m + 1)).2 i = xthenT t (XXf t m).2 (xpor t (m + 1) i) := rfl
  have e1 : xpor t (m + 1) i = xorT t (xpand t (m + 1)) (t.size + 1) (xpand t (m + 1) i) := rfl
  have e0 : xpand t (m + 1) i = match (XXf t (m + 1)).1 i with
   | .ok (a,j) => xopL t ⟨#[38]⟩ 6 (XXf t (m + 1)).1 (t.size + 1) a j
   | .error q => .error q := rfl
  rw [e2,e1,e0]
  simp only [xclimbF]
  revert hh hl1 hl2
  cases headX t (xclimbF t n) i with
  | error q =>
   cases (XXf t (m + 1)).1 i with
   | error q' => exact fun h _ _ => ⟨h,h,h,h⟩
   | ok z => exact fun h => h.elim
  | ok y =>
   obtain ⟨g,e⟩ := y
   cases (XXf t (m + 1)).1 i with
   | error q' => exact fun h => h.elim
   | ok z =>
    obtain ⟨g',e'⟩ := z
    rintro ⟨rfl,hbe⟩ hl1 hl2
    have hl1 := hl1 _ _ rfl
    have hl2 := hl2 _ _ rfl
    refine ⟨?_,xloop3 A _ _ _ _ _ hl1.1 hl1.2 hl2.1 hl2.2 hbe (by omega) (by omega),xloop2 A _ _ _ _ _ _ hl1.1 hl1.2 hl2.1 hl2.2 hbe (by omega) (by omega) (by omega),xloop1 A _ _ _ _ _ _ hl1.1 hl1.2 hl2.1 hl2.2 hbe (by omega) (by omega) (by omega)⟩
    dsimp only
    rw [loopX_stop (by rcases xrank_cases t e with ⟨_,q2,_⟩ | ⟨_,_,q2,_⟩ | ⟨_,_,_,q2,_⟩ | ⟨_,_,_,q2⟩ <;> omega) (by omega)]
    exact ⟨rfl,hbe⟩
end
def readC (t : ByteArray) : Ex × Int × Int := match xclimbF t (t.size + 1) 0 1 with
 | .error p => (zEx,1,(p : Int))
 | .ok (e,j) => if (xtokF t j).1 ≠ ⟨#[]⟩ then (e,1,((xtokF t j).2.1 : Int)) else (e,0,0)
theorem readC_eq (t : ByteArray) (hs : t.size ≤ 1000000) : readC t = parsedO t := by
 unfold readC parsedO xparseR
 have h := (xclimb_eq (t := t) hs (t.size + 1) (t.size + 1) 0 (by omega) (by omega) (by omega)).2.2.2
 revert h
 cases xclimbF t (t.size + 1) 0 1 with
 | error q =>
  cases (XXf t (t.size + 1)).2 0 with
  | error q' => intro h; dsimp only; rw [show q = q'.1 from h]
  | ok z => exact fun h => h.elim
 | ok y =>
  obtain ⟨g,e⟩ := y
  cases (XXf t (t.size + 1)).2 0 with
  | error q' => exact fun h => h.elim
  | ok z =>
   obtain ⟨g',e'⟩ := z
   rintro ⟨rfl,he⟩
   dsimp only
   rw [xtok_at,he]
   by_cases hb : bl t e' < t.size
   ·rw [if_pos (by rw [ne_eq,xtok_nil,he]; omega),if_pos hb]
   ·rw [if_neg (by rw [ne_eq,xtok_nil,he]; omega),if_neg hb]
end Go.Proofs.Ytcllmionhlmjfaa
