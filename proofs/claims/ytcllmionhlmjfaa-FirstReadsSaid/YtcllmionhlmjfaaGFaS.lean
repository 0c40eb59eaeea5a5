import Derived.Test.YtcllmionhlmjfaaGFaR
set_option linter.unusedVariables false
set_option linter.unusedSimpArgs false
set_option maxRecDepth 100000
namespace Go.Proofs.Ytcllmionhlmjfaa
open Go Go.Pv
def sx (f : Ex) (lv : Int) : Bs := (sdX f lv).data.toList
theorem sdX_core (k : Int) (nm : ByteArray) (ws : List Wd) (l : List Ex) : ∃ c : ByteArray,∀ lv,sdX (.mk k nm ws l) lv = parX c k lv := ⟨_,fun lv => by rw [sdX]⟩
theorem levelX_pos (k : Int) : ¬ levelX k < 1 := by unfold levelX; split <;> (try split) <;> (try split) <;> omega
theorem sx_low {k : Int} {nm : ByteArray} {ws : List Wd} {l : List Ex} {lv : Int} (h : levelX k < lv) : sx (.mk k nm ws l) lv = 40 :: (sx (.mk k nm ws l) 1 ++ [41]) := by
 obtain ⟨c,hc⟩ := sdX_core k nm ws l
 unfold sx
 rw [hc,hc,parX,parX,if_pos h,if_neg (levelX_pos k)]
 simp
theorem sx_high {k : Int} {nm : ByteArray} {ws : List Wd} {l : List Ex} {lv : Int} (h : lv ≤ levelX k) : sx (.mk k nm ws l) lv = sx (.mk k nm ws l) 1 := by
 obtain ⟨c,hc⟩ := sdX_core k nm ws l
 unfold sx
 rw [hc,hc,parX,parX,if_neg (by omega),if_neg (levelX_pos k)]
def wx (w : Wd) : Bs := (wtB w).data.toList
def lx (l : List Wd) : Bs := (lsB l).data.toList
theorem bytes_app (a b : ByteArray) : (a ++ b).data.toList = a.data.toList ++ b.data.toList := by rw [ByteArray.data_append,Array.toList_append]
theorem wx_none {nm : ByteArray} : wx (.mk nm []) = nm.data.toList := by unfold wx; rw [wtB]
theorem wx_some {nm : ByteArray} {l : List Wd} (h : l ≠ []) : wx (.mk nm l) = nm.data.toList ++ 40 :: (lx l ++ [41]) := by
 unfold wx; rw [wtB_eq,if_neg (by simpa using h)]; simp [bytes_app,lx]
theorem lx_one (w : Wd) : lx [w] = wx w := by
 unfold lx lsB joinB wx
 simp [List.intercalate,Lib.join]
theorem lx_more (w v : Wd) (r : List Wd) : lx (w :: v :: r) = wx w ++ 44 :: 32 :: lx (v :: r) := by
 unfold lx lsB joinB wx
 simp [List.intercalate,List.intersperse,Lib.join]
theorem sx1 {nm : ByteArray} {l : List Wd} : sx (.mk 1 nm l []) 1 = wx (.mk nm l) := by
 unfold sx wx
 rw [show sdX (.mk 1 nm l []) 1 = predB nm l by rw [sdX]; rfl]
 rw [wtB_eq]
 unfold predB
 show _ = (if l = [] then nm else nm ++ (⟨#[40]⟩ : ByteArray) ++ lsB l ++ (⟨#[41]⟩ : ByteArray)).data.toList
 split
 ·rfl
 ·simp [bytes_app]
theorem sx2 {a b : Wd} : sx (.mk 2 ⟨#[]⟩ [a,b] []) 1 = wx a ++ 32 :: 61 :: 32 :: wx b := by
 unfold sx wx
 rw [show sdX (.mk 2 ⟨#[]⟩ [a,b] []) 1 = wtB a ++ (⟨#[32,61,32]⟩ : ByteArray) ++ wtB b by rw [sdX]; rfl]
 simp [bytes_app]
theorem sx3 : sx (.mk 3 ⟨#[]⟩ [] []) 1 = [49] := by unfold sx; rw [sdX]; rfl
theorem sx4 : sx (.mk 4 ⟨#[]⟩ [] []) 1 = [48] := by unfold sx; rw [sdX]; rfl
theorem sx5 {a : Ex} : sx (.mk 5 ⟨#[]⟩ [] [a]) 1 = 126 :: sx a 4 := by unfold sx; rw [sdX]; simp [sdXs,parX,levelX]
theorem sx9 {nm : ByteArray} {a : Ex} : sx (.mk 9 nm [] [a]) 1 = (33 :: (nm.data.toList ++ [32])) ++ sx a 4 := by unfold sx; rw [sdX]; simp [sdXs,parX,levelX]
theorem sx10 {nm : ByteArray} {a : Ex} : sx (.mk 10 nm [] [a]) 1 = (63 :: (nm.data.toList ++ [32])) ++ sx a 4 := by unfold sx; rw [sdX]; simp [sdXs,parX,levelX]
theorem sx6 {nm : ByteArray} {a b : Ex} : sx (.mk 6 nm [] [a,b]) 1 = sx a 3 ++ 32 :: 38 :: 32 :: sx b 4 := by unfold sx; rw [sdX]; simp [sdXs,parX,levelX]
theorem sx7 {nm : ByteArray} {a b : Ex} : sx (.mk 7 nm [] [a,b]) 1 = sx a 2 ++ 32 :: 124 :: 32 :: sx b 3 := by unfold sx; rw [sdX]; simp [sdXs,parX,levelX]
theorem sx8 {nm : ByteArray} {a b : Ex} : sx (.mk 8 nm [] [a,b]) 1 = sx a 2 ++ 32 :: 45 :: 62 :: 32 :: sx b 1 := by unfold sx; rw [sdX]; simp [sdXs,parX,levelX]
def FolW (r : Bs) : Prop := (r = [] ∨ ∃ c r',r = c :: r' ∧ letA c = false) ∧ hd r ≠ some 40
def FolX (r : Bs) : Prop := Fol r ∧ hd r ≠ some 40 ∧ hd r ≠ some 61
theorem folx_and {r : Bs} : FolX (32 :: 38 :: r) := ⟨.inr ⟨32,_,rfl,.inl rfl⟩,by show some (38 : UInt8) ≠ some 40; decide,by show some (38 : UInt8) ≠ some 61; decide⟩
theorem folx_or {r : Bs} : FolX (32 :: 124 :: r) := ⟨.inr ⟨32,_,rfl,.inl rfl⟩,by show some (124 : UInt8) ≠ some 40; decide,by show some (124 : UInt8) ≠ some 61; decide⟩
theorem folx_then {r : Bs} : FolX (32 :: 45 :: r) := ⟨.inr ⟨32,_,rfl,.inl rfl⟩,by show some (45 : UInt8) ≠ some 40; decide,by show some (45 : UInt8) ≠ some 61; decide⟩
theorem folx_par {r : Bs} : FolX (41 :: r) := ⟨.inr ⟨41,_,rfl,.inr rfl⟩,by show some (41 : UInt8) ≠ some 40; decide,by show some (41 : UInt8) ≠ some 61; decide⟩
theorem folx_nil : FolX [] := ⟨.inl rfl,by decide,by decide⟩
theorem fol_letA {r : Bs} (h : Fol r) : r = [] ∨ ∃ c r',r = c :: r' ∧ letA c = false := by
 rcases h with rfl | ⟨c,r',rfl,rfl | rfl⟩
 ·exact .inl rfl
 ·exact .inr ⟨_,_,rfl,by decide⟩
 ·exact .inr ⟨_,_,rfl,by decide⟩
theorem FolX.w {r : Bs} (h : FolX r) : FolW r := ⟨fol_letA h.1,h.2.1⟩
theorem folw_same {r : Bs} : FolW (32 :: 61 :: r) := ⟨.inr ⟨32,_,rfl,by decide⟩,by show some (61 : UInt8) ≠ some 40; decide⟩
theorem folw_com {r : Bs} : FolW (44 :: r) := ⟨.inr ⟨44,_,rfl,by decide⟩,by show some (44 : UInt8) ≠ some 40; decide⟩
theorem folw_par {r : Bs} : FolW (41 :: r) := ⟨.inr ⟨41,_,rfl,by decide⟩,by show some (41 : UInt8) ≠ some 40; decide⟩
theorem big_head {nm : ByteArray} (h : isBigB nm = true) : ∃ c s,nm.data.toList = c :: s ∧ letA c = true ∧ nm.data.toList.all letA = true := by
 have h0 := bigX_size h
 unfold isBigB at h
 simp only [Bool.and_eq_true] at h
 cases hc : nm.data.toList with
 | nil =>
  have : nm.size = 0 := by show nm.data.toList.length = 0; rw [hc]; rfl
  omega
 | cons c s =>
  rw [hc] at h
  exact ⟨c,s,rfl,by have := h.2; rw [List.all_cons,Bool.and_eq_true] at this; exact this.1,h.2⟩
theorem letter_letA {c : UInt8} (h : letterB c = true) : letA c = true := by unfold letA; rw [h]; rfl
theorem name_head {nm : ByteArray} (h : isNameB nm = true) : ∃ c s,nm.data.toList = c :: s ∧ letA c = true ∧ nm.data.toList.all letA = true := by
 have h0 := nameX_size h
 unfold isNameB at h
 rw [Bool.and_eq_true] at h
 cases hc : nm.data.toList with
 | nil =>
  have : nm.size = 0 := by show nm.data.toList.length = 0; rw [hc]; rfl
  omega
 | cons c s =>
  have h2 := h.2
  rw [hc] at h2
  refine ⟨c,s,rfl,?_,?_⟩
  ·rw [List.all_cons,Bool.and_eq_true] at h2; exact letter_letA h2.1
  ·rw [List.all_eq_true] at h2 ⊢
   exact fun x hx => letter_letA (h2 x hx)
theorem letA_range {c : UInt8} (h : letA c = true) : 65 ≤ c.toNat ∧ c.toNat ≤ 122 := by
 unfold letA letterB capB at h
 simp only [Bool.or_eq_true,decide_eq_true_eq] at h
 omega
theorem letA_blank {c : UInt8} (h : letA c = true) : isBl c = false := by
 have := letA_range h
 unfold isBl
 rw [Bool.or_eq_false_iff,beq_eq_false_iff_ne,beq_eq_false_iff_ne]
 omega
theorem WdOk.first {w : Wd} (h : WdOk w) : ∃ c s,wx w = c :: s ∧ letA c = true := by
 cases h with
 | mk nm l h hl =>
  obtain ⟨c,s,h1,h2,_⟩ : ∃ c s,nm.data.toList = c :: s ∧ letA c = true ∧ nm.data.toList.all letA = true := by
   rcases h with h | h
   ·exact big_head h
   ·exact name_head h.1
  by_cases he : l = []
  ·subst he; exact ⟨c,s,by rw [wx_none,h1],h2⟩
  ·exact ⟨c,_,by rw [wx_some he,h1]; rfl,h2⟩
section
variable {t : ByteArray}
theorem lta_B : ∀ (s : Bs) (i : Nat) (r : Bs),B t i = s ++ r → s.all letA = true → (r = [] ∨ ∃ c r',r = c :: r' ∧ letA c = false) → lta t i = i + s.length
 | [],i,r,hB,_,hr => by
  rcases hr with rfl | ⟨c,r',rfl,hc⟩
  ·rw [lta_end (B_end hB)]; rfl
  ·obtain ⟨h1,h2,_⟩ := B_cons (show B t i = c :: r' from hB)
   rw [lta_stop h1 (by rw [h2]; exact hc)]; rfl
 | c :: s,i,r,hB,hs,hr => by
  rw [List.all_cons,Bool.and_eq_true] at hs
  obtain ⟨h1,h2,h3⟩ := B_cons (show B t i = c :: (s ++ r) from hB)
  rw [lta_step h1 (by rw [h2]; exact hs.1),lta_B s (i + 1) r h3 hs.2 hr,List.length_cons]; omega
theorem ltr_B {nm : ByteArray} {i : Nat} {r : Bs} (hB : B t i = nm.data.toList ++ r) (hn : ∃ c s,nm.data.toList = c :: s ∧ letA c = true ∧ nm.data.toList.all letA = true) (hr : r = [] ∨ ∃ c r',r = c :: r' ∧ letA c = false) : bl t i = i ∧ lta t i = i + nm.data.toList.length ∧ ltr t i = nm := by
 obtain ⟨c,s,h1,h2,h3⟩ := hn
 have hb : bl t i = i := no_blank (c := c) (r := s ++ r) (by rw [hB,h1]; rfl) (letA_blank h2)
 have hl := lta_B _ i r hB h3 hr
 refine ⟨hb,hl,?_⟩
 unfold ltr
 rw [hb,hl]
 exact ext_B hB
theorem wordP_bl {pa : Nat → RA (List Wd)} {i j : Nat} (h : bl t i = bl t j) : wordP t pa i = wordP t pa j := by unfold wordP ltr; rw [h]
theorem WA1_bl {n i j : Nat} (hn : 0 < n) (h : bl t i = bl t j) : (WA t n).1 i = (WA t n).1 j := by
 cases n with
 | zero => omega
 | succ n => exact wordP_bl h
def RdW (t : ByteArray) (w : Wd) : Prop := ∀ n i r,B t i = wx w ++ r → FolW r → 2 * (t.size - i) + 2 ≤ n → ∃ e,(WA t n).1 i = .ok (w,e) ∧ bl t e = bl t (i + (wx w).length)
def tx : List Wd → Bs
 | [] => []
 | w :: r => 44 :: 32 :: (wx w ++ tx r)
theorem lx_tx (w : Wd) (r : List Wd) : lx (w :: r) = wx w ++ tx r := by
 induction r generalizing w with
 | nil => rw [lx_one,tx,List.append_nil]
 | cons v r ih => rw [lx_more,ih,tx]
theorem folw_tx {r : List Wd} {q : Bs} : FolW (tx r ++ 41 :: q) := by
 cases r with
 | nil => exact folw_par
 | cons v r => exact folw_com
theorem argL_tx {n : Nat} : ∀ (l : List Wd) (m : Nat) (acc : List Wd) (e j : Nat) (q : Bs),(∀ w ∈ l,RdW t w) → bl t e = bl t j → B t j = tx l ++ 41 :: q → 2 * (t.size - j) ≤ n → l.length < m → argL t (WA t n).1 m acc e = .ok (acc ++ l,j + (tx l).length + 1)
 | l,0,acc,e,j,q,_,_,_,_,hm => by omega
 | [],m + 1,acc,e,j,q,_,he,hB,_,_ => by
  have hB : B t j = 41 :: q := hB
  have hb := no_blank hB (by decide)
  have e1 : hp t j ⟨#[44]⟩ = false := by rw [hp1,hB]; rfl
  have e2 : hp t j ⟨#[41]⟩ = true := by rw [hp1,hB]; rfl
  rw [argL,he,hb,if_neg (by simp [e1]),if_pos e2,List.append_nil]; rfl
 | w :: l,m + 1,acc,e,j,q,hw,he,hB,hn,hm => by
  have hB1 : B t j = 44 :: 32 :: (wx w ++ (tx l ++ 41 :: q)) := by rw [hB,tx]; simp
  obtain ⟨hj,_,hB2⟩ := B_cons hB1
  obtain ⟨hj1,h32,hB3⟩ := B_cons hB2
  have hb := no_blank hB1 (by decide)
  have e1 : hp t j ⟨#[44]⟩ = true := by rw [hp1,hB1]; rfl
  have hb2 : bl t (j + 1) = bl t (j + 1 + 1) := bl_step hj1 (by rw [h32]; decide)
  obtain ⟨e2,g1,g2⟩ := hw w (by simp) n (j + 1 + 1) _ hB3 folw_tx (by omega)
  rw [← WA1_bl (by omega) hb2] at g1
  have hB4 := B_add hB3
  rw [argL,he,hb,if_pos e1,g1]
  have ih := argL_tx (n := n) l m (acc ++ [w]) e2 (j + 1 + 1 + (wx w).length) q (fun v hv => hw v (by simp [hv])) g2 hB4 (by omega) (by simp at hm; omega)
  show argL t (WA t n).1 m (acc ++ [w]) e2 = _
  rw [ih]
  congr 2
  ·simp
  ·rw [tx]; simp; omega
theorem rd_word (w : Wd) : WdOk w → RdW t w := by
 induction w using Wd.ind with
 | h w ih =>
  intro hw n i r hB hF hn
  cases hw with
  | mk nm l h hl =>
   have hh : ∃ c s,nm.data.toList = c :: s ∧ letA c = true ∧ nm.data.toList.all letA = true := by
    rcases h with h | h
    ·exact big_head h
    ·exact name_head h.1
   obtain ⟨n,rfl⟩ : ∃ m,n = m + 2 := ⟨n - 2,by omega⟩
   show ∃ e,wordP t (WA t (n + 1)).2 i = .ok (_,e) ∧ _
   by_cases he : l = []
   ·subst he
    rw [wx_none] at hB ⊢
    obtain ⟨h1,h2,h3⟩ := ltr_B hB hh hF.1
    unfold wordP
    rw [h3,h1,h2]
    by_cases hN : isNameB nm = true
    ·rw [if_pos hN]
     exact ⟨_,rfl,rfl⟩
    ·rw [if_neg hN,if_pos (h.resolve_right fun q => hN q.1)]
     have hB2 := B_add hB
     have e1 : hp t (bl t (i + nm.data.toList.length)) ⟨#[40]⟩ = false := by rw [hp1,B_bl,hB2]; exact decide_eq_false hF.2
     have e2 : (WA t (n + 1)).2 (i + nm.data.toList.length) = .ok ([],bl t (i + nm.data.toList.length)) := by
      show argsP t _ _ = _
      unfold argsP
      rw [if_neg (by rw [e1]; decide)]
     rw [e2]
     exact ⟨_,rfl,bl_bl t _⟩
   ·have hbig : isBigB nm = true := h.resolve_right fun q => he q.2
    obtain ⟨v,vs,rfl⟩ : ∃ v vs,l = v :: vs := by cases l with
     | nil => exact absurd rfl he
     | cons v vs => exact ⟨v,vs,rfl⟩
    rw [wx_some he,lx_tx] at hB ⊢
    have hB0 : B t i = nm.data.toList ++ (40 :: (wx v ++ (tx vs ++ 41 :: r))) := by rw [hB]; simp
    obtain ⟨h1,h2,h3⟩ := ltr_B hB0 hh (.inr ⟨40,_,rfl,by decide⟩)
    have hB1 := B_add hB0
    obtain ⟨hi,_,hB2⟩ := B_cons hB1
    have hb := no_blank hB1 (by decide)
    have hpos : 1 ≤ nm.data.toList.length := (bigX_size hbig).1
    unfold wordP
    rw [h3,h1,h2,if_neg (by rw [Bool.not_eq_true]; cases hN : isNameB nm with
     | false => rfl
     | true => rw [name_notbig hN] at hbig; cases hbig),if_pos hbig]
    have e1 : hp t (i + nm.data.toList.length) ⟨#[40]⟩ = true := by rw [hp1,hB1]; rfl
    obtain ⟨e,g1,g2⟩ := ih v (by simp [Wd.args]) (hl v (by simp)) n (i + nm.data.toList.length + 1) _ hB2 folw_tx (by omega)
    have hB3 := B_add hB2
    have hlen := B_len t (i + nm.data.toList.length + 1 + (wx v).length)
    rw [hB3,List.length_append] at hlen
    have htx : ∀ l : List Wd,l.length ≤ (tx l).length := by
     intro l
     induction l with
     | nil => exact Nat.le_refl _
     | cons x r ih => rw [tx]; simp; omega
    have := htx vs
    have g3 := argL_tx (n := n) vs (t.size + 1) [v] e _ r (fun x hx => ih x (by simp [Wd.args,hx]) (hl x (by simp [hx]))) g2 hB3 (by omega) (by omega)
    have e2 : (WA t (n + 1)).2 (i + nm.data.toList.length) = .ok (v :: vs,i + nm.data.toList.length + 1 + (wx v).length + (tx vs).length + 1) := by
     show argsP t _ _ = _
     unfold argsP
     rw [hb,if_pos e1,g1]
     exact g3
    rw [e2]
    refine ⟨_,rfl,?_⟩
    congr 1
    simp; omega
theorem rd_wdP {w : Wd} (hw : WdOk w) {i : Nat} {r : Bs} (hB : B t i = wx w ++ r) (hF : FolW r) : ∃ e,wdP t i = .ok (w,e) ∧ bl t e = bl t (i + (wx w).length) := rd_word w hw _ i r hB hF (by omega)
theorem wdP_bl {i j : Nat} (h : bl t i = bl t j) : wdP t i = wdP t j := WA1_bl (by omega) h
end
theorem xopL_step {t w : ByteArray} {k : Int} {p : Nat → RX} {m : Nat} {a g : Ex} {e j : Nat} (h : hp t (bl t e) w = true) (hp' : p (bl t e + w.size) = .ok (g,j)) : xopL t w k p (m + 1) a e = xopL t w k p m (.mk k ⟨#[]⟩ [] [a,g]) j := by
 rw [xopL,if_pos h,hp']
theorem xnotP_bl {t : ByteArray} {pn pt : Nat → RX} {i j : Nat} (h : bl t i = bl t j) : xnotP t pn pt i = xnotP t pn pt j := by unfold xnotP; rw [h]
theorem XX1_bl {t : ByteArray} {n i j : Nat} (hn : 0 < n) (h : bl t i = bl t j) : (XXf t n).1 i = (XXf t n).1 j := by
 cases n with
 | zero => omega
 | succ n => exact xnotP_bl h
theorem xpand_bl {t : ByteArray} {n i j : Nat} (hn : 0 < n) (h : bl t i = bl t j) : xpand t n i = xpand t n j := by unfold xpand xopP; rw [XX1_bl hn h]
theorem xpor_bl {t : ByteArray} {n i j : Nat} (hn : 0 < n) (h : bl t i = bl t j) : xpor t n i = xpor t n j := by unfold xpor xopP; rw [xpand_bl hn h]
theorem XX2_eq (t : ByteArray) (n : Nat) : (XXf t (n + 1)).2 = xthenP t (xpor t (n + 1)) (XXf t n).2 := rfl
theorem XX2_bl {t : ByteArray} {n i j : Nat} (hn : 0 < n) (h : bl t i = bl t j) : (XXf t n).2 i = (XXf t n).2 j := by
 cases n with
 | zero => omega
 | succ n => rw [XX2_eq]; unfold xthenP; rw [xpor_bl (Nat.succ_pos n) h]
structure RdX (t : ByteArray) (f : Ex) : Prop where
 n4 : ∀ n i r,B t i = sx f 4 ++ r → FolX r → t.size - i < n → ∃ e,(XXf t n).1 i = .ok (f,e) ∧ bl t e = bl t (i + (sx f 4).length)
 n3 : ∀ n i r,B t i = sx f 3 ++ r → FolX r → t.size - i < n → ∃ m e,t.size - e < m ∧ xpand t n i = xopL t ⟨#[38]⟩ 6 (XXf t n).1 m f e ∧ bl t e = bl t (i + (sx f 3).length)
 n2 : ∀ n i r,B t i = sx f 2 ++ r → FolX r → hd r ≠ some 38 → t.size - i < n → ∃ m e,t.size - e < m ∧ xpor t n i = xopL t ⟨#[124]⟩ 7 (xpand t n) m f e ∧ bl t e = bl t (i + (sx f 2).length)
 n1 : ∀ n i r,B t i = sx f 1 ++ r → FolX r → hd r ≠ some 38 → hd r ≠ some 124 → hd r ≠ some 45 → t.size - i < n → ∃ e,(XXf t n).2 i = .ok (f,e) ∧ bl t e = bl t (i + (sx f 1).length)
section
variable {t : ByteArray} {f : Ex}
theorem xlift3 (h : sx f 3 = sx f 4) (h4 : ∀ n i r,B t i = sx f 4 ++ r → FolX r → t.size - i < n → ∃ e,(XXf t n).1 i = .ok (f,e) ∧ bl t e = bl t (i + (sx f 4).length)) :
  ∀ n i r,B t i = sx f 3 ++ r → FolX r → t.size - i < n → ∃ m e,t.size - e < m ∧ xpand t n i = xopL t ⟨#[38]⟩ 6 (XXf t n).1 m f e ∧ bl t e = bl t (i + (sx f 3).length) := by
 intro n i r hB hF hn
 rw [h] at hB ⊢
 obtain ⟨e,h1,h2⟩ := h4 n i r hB hF hn
 refine ⟨t.size + 1,e,by omega,?_,h2⟩
 unfold xpand xopP; rw [h1]
theorem xlift2 (h : sx f 2 = sx f 3) (h3 : ∀ n i r,B t i = sx f 3 ++ r → FolX r → t.size - i < n → ∃ m e,t.size - e < m ∧ xpand t n i = xopL t ⟨#[38]⟩ 6 (XXf t n).1 m f e ∧ bl t e = bl t (i + (sx f 3).length)) :
  ∀ n i r,B t i = sx f 2 ++ r → FolX r → hd r ≠ some 38 → t.size - i < n → ∃ m e,t.size - e < m ∧ xpor t n i = xopL t ⟨#[124]⟩ 7 (xpand t n) m f e ∧ bl t e = bl t (i + (sx f 2).length) := by
 intro n i r hB hF hA hn
 rw [h] at hB ⊢
 obtain ⟨m,e,h0,h1,h2⟩ := h3 n i r hB hF hn
 have hs : hp t (bl t e) ⟨#[38]⟩ = false := by rw [hp1_bl h2 (B_add hB)]; simpa using hA
 rw [xopL_stop hs (by omega)] at h1
 refine ⟨t.size + 1,bl t e,by omega,?_,by rw [bl_bl]; exact h2⟩
 unfold xpor xopP; rw [h1]
theorem xlift1 (h : sx f 1 = sx f 2) (h3 : ∀ n i r,B t i = sx f 2 ++ r → FolX r → hd r ≠ some 38 → t.size - i < n → ∃ m e,t.size - e < m ∧ xpor t n i = xopL t ⟨#[124]⟩ 7 (xpand t n) m f e ∧ bl t e = bl t (i + (sx f 2).length)) :
  ∀ n i r,B t i = sx f 1 ++ r → FolX r → hd r ≠ some 38 → hd r ≠ some 124 → hd r ≠ some 45 → t.size - i < n → ∃ e,(XXf t n).2 i = .ok (f,e) ∧ bl t e = bl t (i + (sx f 1).length) := by
 intro n i r hB hF hA hO hT hn
 rw [h] at hB ⊢
 obtain ⟨m,e,h0,h1,h2⟩ := h3 n i r hB hF hA hn
 have hs : hp t (bl t e) ⟨#[124]⟩ = false := by rw [hp1_bl h2 (B_add hB)]; simpa using hO
 rw [xopL_stop hs (by omega)] at h1
 cases n with
 | zero => omega
 | succ n =>
  refine ⟨bl t e,?_,by rw [bl_bl]; exact h2⟩
  rw [XX2_eq]
  unfold xthenP
  rw [h1]
  have h4 : hp t (bl t e) ⟨#[45,62]⟩ = false := hp2_bl h2 (B_add hB) hT
  simp only [bl_bl,h4,Bool.false_eq_true,if_false]
end
section
variable {t : ByteArray}
def unaX (k : Int) (nm : ByteArray) : RX → RX
 | .ok (e,l) => .ok (.mk k nm [] [e],l)
 | .error q => .error q
theorem xuna_unaX (r : RX) : xuna r = unaX 5 ⟨#[]⟩ r := by cases r <;> rfl
theorem xread_not {i : Nat} {r : Bs} {n : Nat} (hB : B t i = 126 :: r) : (XXf t (n + 1)).1 i = unaX 5 ⟨#[]⟩ ((XXf t n).1 (i + 1)) := by
 have hb := no_blank hB (by decide)
 show xnotP t _ _ i = _
 unfold xnotP
 have e1 : hp t (bl t i) ⟨#[126]⟩ = true := by rw [hb,hp1,hB]; rfl
 rw [if_pos e1,hb,xuna_unaX]
theorem varP_B {nm : ByteArray} {i : Nat} {r : Bs} (hN : isNameB nm = true) (hB : B t i = nm.data.toList ++ (32 :: r)) : varP t i = .ok (nm,i + nm.data.toList.length) := by
 obtain ⟨h1,h2,h3⟩ := ltr_B hB (name_head hN) (.inr ⟨32,_,rfl,by decide⟩)
 unfold varP
 rw [h3,if_pos hN,h1,h2]
theorem qua_unaX {k : Int} {nm : ByteArray} {j : Nat} {pn : Nat → RX} : quaP t k pn (.ok (nm,j)) = unaX k nm (pn j) := by
 unfold quaP unaX
 dsimp only
 generalize pn j = R
 rcases R with q | ⟨e,l⟩ <;> rfl
theorem xread_all {nm : ByteArray} (hN : isNameB nm = true) {i : Nat} {r : Bs} {n : Nat} (hn : 0 < n) (hB : B t i = (33 :: (nm.data.toList ++ [32])) ++ r) : (XXf t (n + 1)).1 i = unaX 9 nm ((XXf t n).1 (i + (33 :: (nm.data.toList ++ [32])).length)) := by
 have hB0 : B t i = 33 :: (nm.data.toList ++ (32 :: r)) := by rw [hB]; simp
 have hb := no_blank hB0 (by decide)
 obtain ⟨hi,_,hB1⟩ := B_cons hB0
 have hv := varP_B hN hB1
 have hB2 := B_add hB1
 obtain ⟨hj,h32,_⟩ := B_cons hB2
 have hbl : bl t (i + 1 + nm.data.toList.length) = bl t (i + (33 :: (nm.data.toList ++ [32])).length) := by
  rw [bl_step hj (by rw [h32]; decide)]
  congr 1; simp; omega
 show xnotP t _ _ i = _
 unfold xnotP
 have e1 : hp t i ⟨#[126]⟩ = false := by rw [hp1,hB0]; rfl
 have e2 : hp t i ⟨#[33]⟩ = true := by rw [hp1,hB0]; rfl
 rw [hb,if_neg (by simp [e1]),if_pos e2,hv,qua_unaX,XX1_bl hn hbl]
theorem xread_some {nm : ByteArray} (hN : isNameB nm = true) {i : Nat} {r : Bs} {n : Nat} (hn : 0 < n) (hB : B t i = (63 :: (nm.data.toList ++ [32])) ++ r) : (XXf t (n + 1)).1 i = unaX 10 nm ((XXf t n).1 (i + (63 :: (nm.data.toList ++ [32])).length)) := by
 have hB0 : B t i = 63 :: (nm.data.toList ++ (32 :: r)) := by rw [hB]; simp
 have hb := no_blank hB0 (by decide)
 obtain ⟨hi,_,hB1⟩ := B_cons hB0
 have hv := varP_B hN hB1
 have hB2 := B_add hB1
 obtain ⟨hj,h32,_⟩ := B_cons hB2
 have hbl : bl t (i + 1 + nm.data.toList.length) = bl t (i + (63 :: (nm.data.toList ++ [32])).length) := by
  rw [bl_step hj (by rw [h32]; decide)]
  congr 1; simp; omega
 show xnotP t _ _ i = _
 unfold xnotP
 have e1 : hp t i ⟨#[126]⟩ = false := by rw [hp1,hB0]; rfl
 have e3 : hp t i ⟨#[33]⟩ = false := by rw [hp1,hB0]; rfl
 have e2 : hp t i ⟨#[63]⟩ = true := by rw [hp1,hB0]; rfl
 rw [hb,if_neg (by simp [e1]),if_neg (by simp [e3]),if_pos e2,hv,qua_unaX,XX1_bl hn hbl]
theorem xread_par {i : Nat} {r : Bs} {n : Nat} (hB : B t i = 40 :: r) : (XXf t (n + 1)).1 i = xpar t ((XXf t n).2 (i + 1)) := by
 have hb := no_blank hB (by decide)
 show xnotP t _ _ i = _
 unfold xnotP
 have e1 : hp t i ⟨#[126]⟩ = false := by rw [hp1,hB]; rfl
 have e2 : hp t i ⟨#[33]⟩ = false := by rw [hp1,hB]; rfl
 have e3 : hp t i ⟨#[63]⟩ = false := by rw [hp1,hB]; rfl
 have e4 : hp t i ⟨#[40]⟩ = true := by rw [hp1,hB]; rfl
 rw [hb,if_neg (by simp [e1]),if_neg (by simp [e2]),if_neg (by simp [e3]),if_pos e4]
theorem xnotP_head {pn pt : Nat → RX} {i : Nat} {c : UInt8} {r : Bs} (hB : B t (bl t i) = c :: r) (h1 : c ≠ 126) (h2 : c ≠ 33) (h3 : c ≠ 63) (h4 : c ≠ 40) : xnotP t pn pt i = if hp t (bl t i) ⟨#[49]⟩ = true then .ok (.mk 3 ⟨#[]⟩ [] [],bl t i + 1) else if hp t (bl t i) ⟨#[48]⟩ = true then .ok (.mk 4 ⟨#[]⟩ [] [],bl t i + 1)
 else xatom t (wdP t (bl t i)) := by
 have e1 : hp t (bl t i) ⟨#[126]⟩ = false := by rw [hp1,hB]; simpa using h1
 have e2 : hp t (bl t i) ⟨#[33]⟩ = false := by rw [hp1,hB]; simpa using h2
 have e3 : hp t (bl t i) ⟨#[63]⟩ = false := by rw [hp1,hB]; simpa using h3
 have e4 : hp t (bl t i) ⟨#[40]⟩ = false := by rw [hp1,hB]; simpa using h4
 unfold xnotP
 simp only [e1,e2,e3,e4,Bool.false_eq_true,if_false]
theorem xnotP_word {pn pt : Nat → RX} {i : Nat} {c : UInt8} {r : Bs} (hB : B t i = c :: r) (h : letA c = true) : xnotP t pn pt i = xatom t (wdP t i) := by
 have hr := letA_range h
 have ne : ∀ d : UInt8,d.toNat < 65 ∨ 122 < d.toNat → c ≠ d := fun d hd h => by subst h; omega
 have hb := no_blank hB (letA_blank h)
 rw [xnotP_head (c := c) (r := r) (by rw [hb]; exact hB) (ne 126 (by decide)) (ne 33 (by decide)) (ne 63 (by decide)) (ne 40 (by decide)),hb]
 have e1 : hp t i ⟨#[49]⟩ = false := by rw [hp1,hB]; simpa using ne 49 (by decide)
 have e2 : hp t i ⟨#[48]⟩ = false := by rw [hp1,hB]; simpa using ne 48 (by decide)
 rw [if_neg (by simp [e1]),if_neg (by simp [e2])]
theorem xpar4 {f : Ex} (h : sx f 4 = 40 :: (sx f 1 ++ [41])) (h1 : ∀ n i r,B t i = sx f 1 ++ r → FolX r → hd r ≠ some 38 → hd r ≠ some 124 → hd r ≠ some 45 → t.size - i < n → ∃ e,(XXf t n).2 i = .ok (f,e) ∧ bl t e = bl t (i + (sx f 1).length)) :
  ∀ n i r,B t i = sx f 4 ++ r → FolX r → t.size - i < n → ∃ e,(XXf t n).1 i = .ok (f,e) ∧ bl t e = bl t (i + (sx f 4).length) := by
 intro n i r hB hF hn
 rw [h] at hB ⊢
 cases n with
 | zero => omega
 | succ n =>
  have hB1 : B t i = 40 :: (sx f 1 ++ (41 :: r)) := by rw [hB]; simp
  obtain ⟨hi,_,hB2⟩ := B_cons hB1
  obtain ⟨e,g1,g2⟩ := h1 n (i + 1) (41 :: r) hB2 folx_par (by rw [hd41]; decide) (by rw [hd41]; decide) (by rw [hd41]; decide) (by omega)
  have hB3 : B t (i + 1 + (sx f 1).length) = 41 :: r := B_add hB2
  have hb := no_blank hB3 (by decide)
  rw [xread_par hB1,g1]
  refine ⟨bl t e + 1,?_,?_⟩
  ·unfold xpar mustP
   have : hp t (bl t e) ⟨#[41]⟩ = true := by rw [g2,hb,hp1,hB3]; rfl
   simp only [this,if_true]; rfl
  ·rw [g2,hb]
   congr 1
   simp; omega
theorem xpre4 {k : Int} {nm : ByteArray} {a : Ex} {p : Bs} (hk : sx (.mk k nm [] [a]) 4 = p ++ sx a 4) (hr : ∀ i r n,0 < n → B t i = p ++ r → (XXf t (n + 1)).1 i = unaX k nm ((XXf t n).1 (i + p.length))) (hp0 : 0 < p.length) (ha : RdX t a) :
  ∀ n i r,B t i = sx (.mk k nm [] [a]) 4 ++ r → FolX r → t.size - i < n → ∃ e,(XXf t n).1 i = .ok (.mk k nm [] [a],e) ∧ bl t e = bl t (i + (sx (.mk k nm [] [a]) 4).length) := by
 intro n i r hB hF hn
 rw [hk] at hB ⊢
 cases n with
 | zero => omega
 | succ n =>
  rw [List.append_assoc] at hB
  have hB2 := B_add hB
  have hl := B_len t i
  rw [hB,List.length_append] at hl
  obtain ⟨e,g1,g2⟩ := ha.n4 n (i + p.length) r hB2 hF (by omega)
  refine ⟨e,by rw [hr i _ n (by omega) hB,g1]; rfl,?_⟩
  rw [g2,List.length_append,Nat.add_assoc]
theorem xmid3 (hsz : t.size ≤ 1000000) {a b : Ex} (ha : RdX t a) (hb : RdX t b) (h : sx (.mk 6 ⟨#[]⟩ [] [a,b]) 3 = sx a 3 ++ 32 :: 38 :: 32 :: sx b 4) :
  ∀ n i r,B t i = sx (.mk 6 ⟨#[]⟩ [] [a,b]) 3 ++ r → FolX r → t.size - i < n → ∃ m e,t.size - e < m ∧ xpand t n i = xopL t ⟨#[38]⟩ 6 (XXf t n).1 m (.mk 6 ⟨#[]⟩ [] [a,b]) e ∧ bl t e = bl t (i + (sx (.mk 6 ⟨#[]⟩ [] [a,b]) 3).length) := by
 intro n i r hB hF hn
 rw [h] at hB ⊢
 have hB0 : B t i = sx a 3 ++ (32 :: 38 :: 32 :: (sx b 4 ++ r)) := by rw [hB]; simp
 obtain ⟨m,e,g0,g1,g2⟩ := ha.n3 n i _ hB0 folx_and hn
 have hB1 := B_add hB0
 generalize hj : i + (sx a 3).length = j at *
 obtain ⟨hjs,hj32,hB2⟩ := B_cons hB1
 obtain ⟨hj1,hj38,hB3⟩ := B_cons hB2
 obtain ⟨hj2,hj322,hB4⟩ := B_cons hB3
 have hbj : bl t j = j + 1 := by
  rw [bl_step hjs (by rw [hj32]; decide)]
  exact no_blank hB2 (by decide)
 have hbj2 : bl t (j + 1 + 1) = bl t (j + 1 + 1 + 1) := bl_step hj2 (by rw [hj322]; decide)
 obtain ⟨e2,k1,k2⟩ := hb.n4 n (j + 1 + 1 + 1) r hB4 hF (by omega)
 rw [← XX1_bl (by omega) hbj2] at k1
 have hs : hp t (bl t e) ⟨#[38]⟩ = true := by rw [g2,hbj,hp1,hB2]; rfl
 obtain ⟨m',rfl⟩ : ∃ m',m = m' + 1 := ⟨m - 1,by omega⟩
 have hst := xopL_step (k := 6) (p := (XXf t n).1) (m := m') (a := a) (g := b) (j := e2) hs (by rw [g2,hbj]; exact k1)
 have hee : e ≤ bl t e := bl_ge t e
 rw [g2,hbj] at hee
 have hle := xle_of1 hsz (by omega) (by omega) k1
 refine ⟨m',e2,?_,by rw [g1,hst],?_⟩
 ·omega
 ·rw [k2,← hj]
  congr 1
  simp; omega
theorem xmid2 (hsz : t.size ≤ 1000000) {a b : Ex} (ha : RdX t a) (hb : RdX t b) (h : sx (.mk 7 ⟨#[]⟩ [] [a,b]) 2 = sx a 2 ++ 32 :: 124 :: 32 :: sx b 3) :
  ∀ n i r,B t i = sx (.mk 7 ⟨#[]⟩ [] [a,b]) 2 ++ r → FolX r → hd r ≠ some 38 → t.size - i < n → ∃ m e,t.size - e < m ∧ xpor t n i = xopL t ⟨#[124]⟩ 7 (xpand t n) m (.mk 7 ⟨#[]⟩ [] [a,b]) e ∧ bl t e = bl t (i + (sx (.mk 7 ⟨#[]⟩ [] [a,b]) 2).length) := by
 intro n i r hB hF hA hn
 rw [h] at hB ⊢
 have hB0 : B t i = sx a 2 ++ (32 :: 124 :: 32 :: (sx b 3 ++ r)) := by rw [hB]; simp
 obtain ⟨m,e,g0,g1,g2⟩ := ha.n2 n i _ hB0 folx_or (by show some (124 : UInt8) ≠ some 38; decide) hn
 have hB1 := B_add hB0
 generalize hj : i + (sx a 2).length = j at *
 obtain ⟨hjs,hj32,hB2⟩ := B_cons hB1
 obtain ⟨hj1,hj124,hB3⟩ := B_cons hB2
 obtain ⟨hj2,hj322,hB4⟩ := B_cons hB3
 have hbj : bl t j = j + 1 := by
  rw [bl_step hjs (by rw [hj32]; decide)]
  exact no_blank hB2 (by decide)
 have hbj2 : bl t (j + 1 + 1) = bl t (j + 1 + 1 + 1) := bl_step hj2 (by rw [hj322]; decide)
 obtain ⟨mb,eb,q0,q1,q2⟩ := hb.n3 n (j + 1 + 1 + 1) r hB4 hF (by omega)
 have hsb : hp t (bl t eb) ⟨#[38]⟩ = false := by rw [hp1_bl q2 (B_add hB4)]; simpa using hA
 rw [xopL_stop hsb (by omega),← xpand_bl (by omega) hbj2] at q1
 obtain ⟨e2,he2⟩ : ∃ e2,bl t eb = e2 := ⟨_,rfl⟩
 rw [he2] at q1
 have k1 := q1
 have k2 : bl t e2 = bl t (j + 1 + 1 + 1 + (sx b 3).length) := by rw [← he2,bl_bl,q2]
 have hs : hp t (bl t e) ⟨#[124]⟩ = true := by rw [g2,hbj,hp1,hB2]; rfl
 obtain ⟨m',rfl⟩ : ∃ m',m = m' + 1 := ⟨m - 1,by omega⟩
 have hst := xopL_step (k := 7) (p := xpand t n) (m := m') (a := a) (g := b) (j := e2) hs (by rw [g2,hbj]; exact k1)
 have hee : e ≤ bl t e := bl_ge t e
 rw [g2,hbj] at hee
 have hle := xle_of2 hsz (by omega) (by omega) k1
 refine ⟨m',e2,?_,by rw [g1,hst],?_⟩
 ·omega
 ·rw [k2,← hj]
  congr 1
  simp; omega
theorem xmid1 (hsz : t.size ≤ 1000000) {a b : Ex} (ha : RdX t a) (hb : RdX t b) :
  ∀ n i r,B t i = sx (.mk 8 ⟨#[]⟩ [] [a,b]) 1 ++ r → FolX r → hd r ≠ some 38 → hd r ≠ some 124 → hd r ≠ some 45 → t.size - i < n → ∃ e,(XXf t n).2 i = .ok (.mk 8 ⟨#[]⟩ [] [a,b],e) ∧ bl t e = bl t (i + (sx (.mk 8 ⟨#[]⟩ [] [a,b]) 1).length) := by
 intro n i r hB hF hA hO hT hn
 rw [sx8] at hB ⊢
 have hB0 : B t i = sx a 2 ++ (32 :: 45 :: 62 :: 32 :: (sx b 1 ++ r)) := by rw [hB]; simp
 obtain ⟨m,e,g0,g1,g2⟩ := ha.n2 n i _ hB0 folx_then (by show some (45 : UInt8) ≠ some 38; decide) hn
 have hB1 := B_add hB0
 generalize hj : i + (sx a 2).length = j at *
 obtain ⟨hjs,hj32,hB2⟩ := B_cons hB1
 obtain ⟨hj1,hj45,hB3⟩ := B_cons hB2
 obtain ⟨hj2,hj62,hB4⟩ := B_cons hB3
 obtain ⟨hj3,hj322,hB5⟩ := B_cons hB4
 have hbj : bl t j = j + 1 := by
  rw [bl_step hjs (by rw [hj32]; decide)]
  exact no_blank hB2 (by decide)
 have hbj2 : bl t (j + 1 + 1 + 1) = bl t (j + 1 + 1 + 1 + 1) := bl_step hj3 (by rw [hj322]; decide)
 have hs : hp t (bl t e) ⟨#[124]⟩ = false := by rw [g2,hbj,hp1,hB2]; rfl
 rw [xopL_stop hs (by omega)] at g1
 cases n with
 | zero => omega
 | succ n =>
  obtain ⟨e2,k1,k2⟩ := hb.n1 n (j + 1 + 1 + 1 + 1) r hB5 hF hA hO hT (by omega)
  rw [← XX2_bl (by omega) hbj2] at k1
  refine ⟨e2,?_,?_⟩
  ·rw [XX2_eq]
   unfold xthenP
   rw [g1]
   have h4 : hp t (bl t e) ⟨#[45,62]⟩ = true := by rw [g2,hbj,hp2]; exact ⟨_,hB2⟩
   simp only [bl_bl,h4,if_true]
   rw [g2,hbj,k1]
  ·rw [k2,← hj]
   congr 1
   simp; omega
theorem pred4 {nm : ByteArray} {l : List Wd} (hN : isBigB nm = true) (hl : ∀ w ∈ l,WdOk w) : ∀ n i r,B t i = sx (.mk 1 nm l []) 4 ++ r → FolX r → t.size - i < n → ∃ e,(XXf t n).1 i = .ok (.mk 1 nm l [],e) ∧ bl t e = bl t (i + (sx (.mk 1 nm l []) 4).length) := by
 have hsd : sx (.mk 1 nm l []) 4 = wx (.mk nm l) := by rw [sx_high (by decide),sx1]
 rw [hsd]
 intro n i r hB hF hn
 cases n with
 | zero => omega
 | succ n =>
  have hw : WdOk (.mk nm l) := .mk nm l (.inl hN) hl
  obtain ⟨c,s,h1,h2⟩ := hw.first
  obtain ⟨e,g1,g2⟩ := rd_wdP hw hB hF.w
  have e1 : hp t (bl t e) ⟨#[61]⟩ = false := by rw [hp1_bl g2 (B_add hB)]; simpa using hF.2.2
  refine ⟨bl t e,?_,by rw [bl_bl,g2]⟩
  show xnotP t _ _ i = _
  rw [xnotP_word (by rw [hB,h1]; rfl) h2,g1]
  unfold xatom
  dsimp only
  rw [if_neg (by rw [e1]; decide),if_neg (by show ¬ isNameB nm = true; rw [Bool.not_eq_true]; cases hN2 : isNameB nm with
     | false => rfl
     | true => rw [name_notbig hN2] at hN; cases hN)]
  rfl
theorem same4 {a b : Wd} (ha : WdOk a) (hb : WdOk b) : ∀ n i r,B t i = sx (.mk 2 ⟨#[]⟩ [a,b] []) 4 ++ r → FolX r → t.size - i < n → ∃ e,(XXf t n).1 i = .ok (.mk 2 ⟨#[]⟩ [a,b] [],e) ∧ bl t e = bl t (i + (sx (.mk 2 ⟨#[]⟩ [a,b] []) 4).length) := by
 have hsd : sx (.mk 2 ⟨#[]⟩ [a,b] []) 4 = wx a ++ 32 :: 61 :: 32 :: wx b := by rw [sx_high (by decide),sx2]
 rw [hsd]
 intro n i r hB hF hn
 cases n with
 | zero => omega
 | succ n =>
  have hB0 : B t i = wx a ++ (32 :: 61 :: 32 :: (wx b ++ r)) := by rw [hB]; simp
  obtain ⟨c,s,h1,h2⟩ := ha.first
  obtain ⟨e,g1,g2⟩ := rd_wdP ha hB0 folw_same
  have hB1 := B_add hB0
  generalize hj : i + (wx a).length = j at *
  obtain ⟨hjs,hj32,hB2⟩ := B_cons hB1
  obtain ⟨hj1,hj61,hB3⟩ := B_cons hB2
  obtain ⟨hj2,hj322,hB4⟩ := B_cons hB3
  have hbj : bl t j = j + 1 := by
   rw [bl_step hjs (by rw [hj32]; decide)]
   exact no_blank hB2 (by decide)
  have hbj2 : bl t (j + 1 + 1) = bl t (j + 1 + 1 + 1) := bl_step hj2 (by rw [hj322]; decide)
  have e1 : hp t (bl t e) ⟨#[61]⟩ = true := by rw [g2,hbj,hp1,hB2]; rfl
  obtain ⟨e2,k1,k2⟩ := rd_wdP hb hB4 hF.w
  rw [← wdP_bl hbj2] at k1
  refine ⟨e2,?_,?_⟩
  ·show xnotP t _ _ i = _
   rw [xnotP_word (c := c) (by rw [hB0,h1]; rfl) h2,g1]
   unfold xatom
   simp only [e1,if_true]
   rw [g2,hbj,k1]
  ·rw [k2,← hj]
   congr 1
   simp; omega
theorem xtrue4 : ∀ n i r,B t i = sx (.mk 3 ⟨#[]⟩ [] []) 4 ++ r → FolX r → t.size - i < n → ∃ e,(XXf t n).1 i = .ok (.mk 3 ⟨#[]⟩ [] [],e) ∧ bl t e = bl t (i + (sx (.mk 3 ⟨#[]⟩ [] []) 4).length) := by
 have hsd : sx (.mk 3 ⟨#[]⟩ [] []) 4 = [49] := by rw [sx_high (by decide),sx3]
 rw [hsd]
 intro n i r hB hF hn
 cases n with
 | zero => omega
 | succ n =>
  have hB1 : B t i = 49 :: r := hB
  have hb := no_blank hB1 (by decide)
  refine ⟨i + 1,?_,rfl⟩
  show xnotP t _ _ i = _
  rw [xnotP_head (by rw [hb]; exact hB1) (by decide) (by decide) (by decide) (by decide),hb]
  have e1 : hp t i ⟨#[49]⟩ = true := by rw [hp1,hB1]; rfl
  rw [if_pos e1]
theorem xfalse4 : ∀ n i r,B t i = sx (.mk 4 ⟨#[]⟩ [] []) 4 ++ r → FolX r → t.size - i < n → ∃ e,(XXf t n).1 i = .ok (.mk 4 ⟨#[]⟩ [] [],e) ∧ bl t e = bl t (i + (sx (.mk 4 ⟨#[]⟩ [] []) 4).length) := by
 have hsd : sx (.mk 4 ⟨#[]⟩ [] []) 4 = [48] := by rw [sx_high (by decide),sx4]
 rw [hsd]
 intro n i r hB hF hn
 cases n with
 | zero => omega
 | succ n =>
  have hB1 : B t i = 48 :: r := hB
  have hb := no_blank hB1 (by decide)
  refine ⟨i + 1,?_,rfl⟩
  show xnotP t _ _ i = _
  rw [xnotP_head (by rw [hb]; exact hB1) (by decide) (by decide) (by decide) (by decide),hb]
  have e1 : hp t i ⟨#[49]⟩ = false := by rw [hp1,hB1]; rfl
  have e2 : hp t i ⟨#[48]⟩ = true := by rw [hp1,hB1]; rfl
  rw [if_neg (by simp [e1]),if_pos e2]
theorem xrd_of4 {k : Int} {nm : ByteArray} {ws : List Wd} {l : List Ex} (hk : levelX k = 4) (h4 : ∀ n i r,B t i = sx (.mk k nm ws l) 4 ++ r → FolX r → t.size - i < n → ∃ e,(XXf t n).1 i = .ok (.mk k nm ws l,e) ∧ bl t e = bl t (i + (sx (.mk k nm ws l) 4).length)) : RdX t (.mk k nm ws l) := by
 have e4 : sx (.mk k nm ws l) 4 = sx (.mk k nm ws l) 1 := sx_high (by omega)
 have e3 : sx (.mk k nm ws l) 3 = sx (.mk k nm ws l) 1 := sx_high (by omega)
 have e2 : sx (.mk k nm ws l) 2 = sx (.mk k nm ws l) 1 := sx_high (by omega)
 have h3 := xlift3 (e3.trans e4.symm) h4
 have h2 := xlift2 (e2.trans e3.symm) h3
 exact ⟨h4,h3,h2,xlift1 e2.symm h2⟩
theorem rd_sdX (hsz : t.size ≤ 1000000) (f : Ex) (hf : ExOk f) : RdX t f := by
 induction hf with
 | pred nm l h hl => exact xrd_of4 rfl (pred4 h hl)
 | same a b ha hb => exact xrd_of4 rfl (same4 ha hb)
 | tru => exact xrd_of4 rfl xtrue4
 | fal => exact xrd_of4 rfl xfalse4
 | not a ha ra => exact xrd_of4 rfl (xpre4 (p := [126]) (by rw [sx_high (by decide),sx5]; rfl) (fun i r n _ h => xread_not h) (by decide) ra)
 | all nm a hn ha ra => exact xrd_of4 rfl (xpre4 (p := 33 :: (nm.data.toList ++ [32])) (by rw [sx_high (by decide),sx9]) (fun i r n hn0 h => xread_all hn hn0 h) (by simp) ra)
 | some nm a hn ha ra => exact xrd_of4 rfl (xpre4 (p := 63 :: (nm.data.toList ++ [32])) (by rw [sx_high (by decide),sx10]) (fun i r n hn0 h => xread_some hn hn0 h) (by simp) ra)
 | and a b ha hb ra rb =>
  have e3 : sx (.mk 6 ⟨#[]⟩ [] [a,b]) 3 = sx (.mk 6 ⟨#[]⟩ [] [a,b]) 1 := sx_high (by decide)
  have e2 : sx (.mk 6 ⟨#[]⟩ [] [a,b]) 2 = sx (.mk 6 ⟨#[]⟩ [] [a,b]) 1 := sx_high (by decide)
  have h3 := xmid3 hsz ra rb (e3.trans sx6)
  have h2 := xlift2 (e2.trans e3.symm) h3
  have h1 := xlift1 e2.symm h2
  exact ⟨xpar4 (sx_low (by decide)) h1,h3,h2,h1⟩
 | or a b ha hb ra rb =>
  have e2 : sx (.mk 7 ⟨#[]⟩ [] [a,b]) 2 = sx (.mk 7 ⟨#[]⟩ [] [a,b]) 1 := sx_high (by decide)
  have h2 := xmid2 hsz ra rb (e2.trans sx7)
  have h1 := xlift1 e2.symm h2
  have h4 := xpar4 (sx_low (by decide)) h1
  exact ⟨h4,xlift3 ((sx_low (by decide)).trans (sx_low (by decide)).symm) h4,h2,h1⟩
 | «then» a b ha hb ra rb =>
  have h1 := xmid1 hsz ra rb
  have h4 := xpar4 (sx_low (by decide)) h1
  have h3 := xlift3 ((sx_low (by decide)).trans (sx_low (by decide)).symm) h4
  exact ⟨h4,h3,xlift2 ((sx_low (by decide)).trans (sx_low (by decide)).symm) h3,h1⟩
end
theorem parse_sdX (f : Ex) (hf : ExOk f) (hc : checkX f = (0,0)) (hs : (sdX f 1).size ≤ 20000) : parseX (sdX f 1) = (f,0,0) := by
 have hB : B (sdX f 1) 0 = sx f 1 ++ [] := by unfold B sx; simp
 obtain ⟨e,h1,h2⟩ := (rd_sdX (t := sdX f 1) (by omega) f hf).n1 ((sdX f 1).size + 1) 0 [] hB folx_nil (by decide) (by decide) (by decide) (by omega)
 have hend : bl (sdX f 1) e = (sdX f 1).size := by
  rw [h2]
  have : 0 + (sx f 1).length = (sdX f 1).size := by rw [Nat.zero_add]; rfl
  rw [this,bl_end (by omega)]
 have hp : parsedO (sdX f 1) = (f,0,0) := by
  unfold parsedO xparseR
  rw [h1]
  simp only [hend]
  rw [if_neg (by omega)]
 unfold parseX
 rw [if_neg (by omega),hp]
 simp [hc]
end Go.Proofs.Ytcllmionhlmjfaa
