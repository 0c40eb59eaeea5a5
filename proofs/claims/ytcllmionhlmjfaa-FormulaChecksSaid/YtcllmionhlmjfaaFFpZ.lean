import Derived.Test.YtcllmionhlmjfaaFFpQ
import Derived.Test.YtcllmionhlmjfaaFFpX
set_option linter.unusedVariables false
set_option linter.unusedSimpArgs false
set_option maxRecDepth 100000
set_option maxHeartbeats 4000000
namespace Go.Proofs.Ytcllmionhlmjfaa
open Go Go.Pv
def sgB (k : Int) : Bs := if k = 5 then [32, 38, 32] else if k = 6 then [32, 124, 32] else [32, 45, 62, 32]
def prB (k : Int) : Bs := if k = 4 then [126] else if k = 8 then [91, 93] else [60, 62]
def lvL (k : Int) : Int := if k = 5 then 3 else 2
def lvR (k : Int) : Int := if k = 5 then 4 else if k = 6 then 3 else 1
abbrev Bin (k : Int) : Prop := k = 5 ∨ k = 6 ∨ k = 7
abbrev Una (k : Int) : Prop := k = 4 ∨ k = 8 ∨ k = 9
theorem sd_bin {k : Int} (hk : Bin k) {a b : Fm} : sd (.mk k ⟨#[]⟩ [a, b]) 1 = sd a (lvL k) ++ (sgB k ++ sd b (lvR k)) := by
 rcases hk with rfl | rfl | rfl
 ·exact sd5
 ·exact sd6
 ·exact sd7
theorem sd_una {k : Int} (hk : Una k) {a : Fm} : sd (.mk k ⟨#[]⟩ [a]) 1 = prB k ++ sd a 4 := by
 rcases hk with rfl | rfl | rfl
 ·exact sd4
 ·exact sd8
 ·exact sd9
theorem sd_lowF {f : Fm} {l : Int} (h : levelN f.kind < l) : sd f l = 40 :: (sd f 1 ++ [41]) := by
 cases f with
 | mk k nm ks => exact sd_low h
theorem sd_highF {f : Fm} {l : Int} (h : l ≤ levelN f.kind) : sd f l = sd f 1 := by
 cases f with
 | mk k nm ks => exact sd_high h
theorem sd_eq {f : Fm} {l l' : Int} (h : (levelN f.kind < l ∧ levelN f.kind < l') ∨ (l ≤ levelN f.kind ∧ l' ≤ levelN f.kind)) : sd f l = sd f l' := by
 rcases h with ⟨h1, h2⟩ | ⟨h1, h2⟩
 ·rw [sd_lowF h1, sd_lowF h2]
 ·rw [sd_highF h1, sd_highF h2]
theorem levelN_ge (k : Int) : 1 ≤ levelN k := by unfold levelN; split <;> (try split) <;> (try split) <;> omega
theorem level_una {k : Int} (hk : Una k) : levelN k = 4 := by rcases hk with rfl | rfl | rfl <;> rfl
def aF : Fm := .mk 1 ⟨#[97]⟩ []
theorem td_aF : Td aF := td_leaf ⟨by decide, by decide, by decide⟩
theorem len_aF : (pre aF).length = 1 := pre_len0 _ _
theorem sd_aF {l : Int} (h : l ≤ 4) : sd aF l = [97] := by
 unfold aF
 rw [sd_high (by exact h), sd1]
theorem bin_of {f : Fm} (hf : Td f) (h : levelN f.kind ≠ 4) : ∃ k a b, Bin k ∧ Td a ∧ Td b ∧ f = .mk k ⟨#[]⟩ [a, b] := by
 rcases hf.nine with ⟨nm, hN, rfl⟩ | rfl | rfl | ⟨a, ha, rfl⟩ | ⟨a, b, ha, hb, rfl⟩ | ⟨a, b, ha, hb, rfl⟩ | ⟨a, b, ha, hb, rfl⟩ | ⟨a, ha, rfl⟩ | ⟨a, ha, rfl⟩
 ·exact absurd rfl h
 ·exact absurd rfl h
 ·exact absurd rfl h
 ·exact absurd rfl h
 ·exact ⟨5, a, b, .inl rfl, ha, hb, rfl⟩
 ·exact ⟨6, a, b, .inr (.inl rfl), ha, hb, rfl⟩
 ·exact ⟨7, a, b, .inr (.inr rfl), ha, hb, rfl⟩
 ·exact absurd rfl h
 ·exact absurd rfl h
theorem exU {k : Int} (hk : Una k) (x : Fm) (hx : Td x) : ∀ l, 1 ≤ l → l ≤ 4 → ∃ z, Td z ∧ (pre z).length = (pre x).length + 1 ∧ sd z l = prB k ++ sd x l := by
 induction x using Fm.ind with
 | h x ih =>
  intro l hl1 hl4
  by_cases h4 : levelN x.kind = 4 ∨ levelN x.kind < l
  ·refine ⟨.mk k ⟨#[]⟩ [x], td_one hk hx, by rw [pre_len1]; omega, ?_⟩
   rw [sd_high (by rw [level_una hk]; exact hl4), sd_una hk, sd_eq (f := x) (l := 4) (l' := l) (by omega)]
  ·obtain ⟨kx, a, b, hkx, ha, hb, rfl⟩ := bin_of hx (by omega)
   have hle : l ≤ levelN kx := by
    have : ¬ levelN (Fm.mk kx ⟨#[]⟩ [a, b]).kind < l := fun h => h4 (.inr h)
    exact Int.not_lt.1 this
   obtain ⟨z1, h1, h2, h3⟩ := ih a (by simp [Fm.kids]) ha (lvL kx) (by unfold lvL; split <;> omega) (by unfold lvL; split <;> omega)
   refine ⟨.mk kx ⟨#[]⟩ [z1, b], td_two hkx h1 hb, by rw [pre_len2, pre_len2]; omega, ?_⟩
   rw [sd_high hle, sd_high hle, sd_bin hkx, sd_bin hkx, h3, List.append_assoc]
theorem badU {k : Int} (hk : Una k) {x : Fm} (hx : Td x) (h : levelN x.kind < 4) : ∃ g, Td g ∧ (pre g).length = (pre x).length + 1 ∧ sd g 1 = prB k ++ sd x 1 ∧ g.kind ≠ k := by
 obtain ⟨kx, a, b, hkx, ha, hb, rfl⟩ := bin_of hx (by omega)
 obtain ⟨z1, h1, h2, h3⟩ := exU hk a ha (lvL kx) (by unfold lvL; split <;> omega) (by unfold lvL; split <;> omega)
 refine ⟨.mk kx ⟨#[]⟩ [z1, b], td_two hkx h1 hb, by rw [pre_len2, pre_len2]; omega, by rw [sd_bin hkx, sd_bin hkx, h3, List.append_assoc], ?_⟩
 show kx ≠ k
 rcases hkx with rfl | rfl | rfl <;> rcases hk with rfl | rfl | rfl <;> decide
theorem lv_bin {k : Int} (hk : Bin k) : (k = 5 ∧ levelN k = 3 ∧ lvL k = 3 ∧ lvR k = 4) ∨ (k = 6 ∧ levelN k = 2 ∧ lvL k = 2 ∧ lvR k = 3) ∨ (k = 7 ∧ levelN k = 1 ∧ lvL k = 2 ∧ lvR k = 1) := by
 rcases hk with rfl | rfl | rfl
 ·exact .inl ⟨rfl, rfl, rfl, rfl⟩
 ·exact .inr (.inl ⟨rfl, rfl, rfl, rfl⟩)
 ·exact .inr (.inr ⟨rfl, rfl, rfl, rfl⟩)
theorem exR {k : Int} (hk : Bin k) (y : Fm) (hy : Td y) : ∀ l, (l = 1 ∨ k = 5 ∧ l = 3) → ∃ z, Td z ∧ (pre z).length = (pre y).length + 2 ∧ sd z l = sd y l ++ (sgB k ++ [97]) := by
 induction y using Fm.ind with
 | h y ih =>
  intro l hl
  have hkl := lv_bin hk
  have direct : l ≤ levelN k → sd y (lvL k) = sd y l → ∃ z, Td z ∧ (pre z).length = (pre y).length + 2 ∧ sd z l = sd y l ++ (sgB k ++ [97]) := fun h1 h2 =>
   ⟨.mk k ⟨#[]⟩ [y, aF], td_two hk hy td_aF, by rw [pre_len2, len_aF]; omega, by rw [sd_high h1, sd_bin hk, sd_aF (by omega), h2]⟩
  rcases hl with rfl | ⟨rfl, rfl⟩
  ·by_cases h4 : lvL k ≤ levelN y.kind
   ·exact direct (levelN_ge k) (sd_eq (.inr ⟨h4, levelN_ge _⟩))
   ·obtain ⟨ky, a, b, hky, ha, hb, rfl⟩ := bin_of hy (by omega)
    have hkyl := lv_bin hky
    have h4' : ¬ lvL k ≤ levelN ky := h4
    obtain ⟨z2, h1, h2, h3⟩ := ih b (by simp [Fm.kids]) hb (lvR ky) (by omega)
    refine ⟨.mk ky ⟨#[]⟩ [a, z2], td_two hky ha h1, by rw [pre_len2, pre_len2]; omega, ?_⟩
    rw [sd_bin hky, sd_bin hky, h3]
    simp only [List.append_assoc]
  ·exact direct (by decide) rfl
theorem ne_len {x y : Fm} (h : (pre x).length < (pre y).length) : x ≠ y := fun e => by rw [e] at h; omega
theorem badL {k : Int} (hk : Bin k) {y : Fm} (hy : Td y) (h : levelN y.kind < lvL k) : ∃ g, Td g ∧ (pre g).length = (pre y).length + 2 ∧ sd g 1 = sd y 1 ++ (sgB k ++ [97]) ∧ g.kids[0]? ≠ some y := by
 have hkl := lv_bin hk
 obtain ⟨ky, a, b, hky, ha, hb, rfl⟩ := bin_of hy (by omega)
 have hkyl := lv_bin hky
 have h4' : levelN ky < lvL k := h
 obtain ⟨z2, h1, h2, h3⟩ := exR hk b hb (lvR ky) (by omega)
 refine ⟨.mk ky ⟨#[]⟩ [a, z2], td_two hky ha h1, by rw [pre_len2, pre_len2]; omega, ?_, ?_⟩
 ·rw [sd_bin hky, sd_bin hky, h3]
  simp only [List.append_assoc]
 ·simp only [Fm.kids, List.getElem?_cons_zero, ne_eq, Option.some.injEq]
  exact ne_len (by rw [pre_len2]; omega)
theorem exL {k : Int} (hk : k = 5 ∨ k = 6) (x : Fm) (hx : Td x) : ∀ l, l ≤ levelN k → ∃ z, Td z ∧ (pre z).length = (pre x).length + 2 ∧ sd z l = 97 :: (sgB k ++ sd x l) := by
 have hk3 : Bin k := by rcases hk with h | h <;> simp [Bin, h]
 have hkl := lv_bin hk3
 induction x using Fm.ind with
 | h x ih =>
  intro l hl
  by_cases h4 : levelN x.kind < l ∨ lvR k ≤ levelN x.kind
  ·refine ⟨.mk k ⟨#[]⟩ [aF, x], td_two hk3 td_aF hx, by rw [pre_len2, len_aF]; omega, ?_⟩
   rw [sd_high hl, sd_bin hk3, sd_aF (by omega), sd_eq (f := x) (l := lvR k) (l' := l) (by omega)]
   rfl
  ·obtain ⟨kx, a, b, hkx, ha, hb, rfl⟩ := bin_of hx (by omega)
   have hkxl := lv_bin hkx
   have e : (Fm.mk kx ⟨#[]⟩ [a, b]).kind = kx := rfl
   rw [e] at h4
   obtain ⟨z1, h1, h2, h3⟩ := ih a (by simp [Fm.kids]) ha (lvL kx) (by omega)
   refine ⟨.mk kx ⟨#[]⟩ [z1, b], td_two hkx h1 hb, by rw [pre_len2, pre_len2]; omega, ?_⟩
   have hle : l ≤ levelN kx := by omega
   rw [sd_high hle, sd_high hle, sd_bin hkx, sd_bin hkx, h3]
   simp only [List.append_assoc, List.cons_append]
theorem badR {k : Int} (hk : Bin k) {x : Fm} (hx : Td x) (h : levelN x.kind < lvR k) : ∃ g, Td g ∧ (pre g).length = (pre x).length + 2 ∧ sd g 1 = 97 :: (sgB k ++ sd x 1) ∧ g.kids[1]? ≠ some x := by
 have hkl := lv_bin hk
 have hg := levelN_ge x.kind
 obtain ⟨kx, a, b, hkx, ha, hb, rfl⟩ := bin_of hx (by omega)
 have hkxl := lv_bin hkx
 have h4' : levelN kx < lvR k := h
 have e : (Fm.mk kx ⟨#[]⟩ [a, b]).kind = kx := rfl
 rw [e] at hg
 obtain ⟨z1, h1, h2, h3⟩ := exL (k := k) (by omega) a ha (lvL kx) (by omega)
 refine ⟨.mk kx ⟨#[]⟩ [z1, b], td_two hkx h1 hb, by rw [pre_len2, pre_len2]; omega, ?_, ?_⟩
 ·rw [sd_bin hkx, sd_bin hkx, h3]
  simp only [List.append_assoc, List.cons_append]
 ·simp only [Fm.kids, List.getElem?_cons_succ, List.getElem?_cons_zero, ne_eq, Option.some.injEq]
  exact ne_len (by rw [pre_len2]; omega)
theorem read_of {g : Fm} (hg : Td g) (hl : (pre g).length ≤ 200) {t : ByteArray} (h : t.data.toList = sd g 1) : parseO t = (g, 0, 0) := by
 have e : t = said g 1 := by
  apply ByteArray.ext
  apply Array.toList_inj.1
  exact h
 rw [e]
 exact parse_said g hg hl (by have := said_size g hg.ok 1; omega)
theorem said_par {f : Fm} {l : Int} : said f l = if levelN f.kind < l then (⟨#[40]⟩ : ByteArray) ++ said f 1 ++ (⟨#[41]⟩ : ByteArray) else said f 1 := by
 cases f with
 | mk k nm ks =>
  obtain ⟨c, hc⟩ := said_core k nm ks
  rw [hc, hc, paren, paren, if_neg (levelN_pos k)]; rfl
end Go.Proofs.Ytcllmionhlmjfaa
namespace Go.Proofs.Ytcllmionhlmjfaa
open Go Go.Pv
noncomputable def okI (k : Int) (j : Nat) (x g : Fm) : Bool := decide (g.kind = k) && match g.kids[j]? with
 | some y => sameB y x
 | none => false
def x54 : XC := .seq (.reg [⟨some 4,.box 24 (.tmp 0),none⟩,⟨some 8,.assign (.const (.string ⟨#[]⟩)),none⟩]) (.seq (.reg [⟨some 12,.fieldAddr 24 (.tmp 4) 2,none⟩,⟨some 13,.load 22 (.tmp 12),none⟩,⟨some 14,.move (.tmp 1),none⟩,⟨some 15,.indexAddr 22 (.tmp 13) (.tmp 14),none⟩,⟨some 16,.load 24 (.tmp 15),none⟩,⟨some 17,.call ⟨.value (.func 18),#[.tmp 16],#[24]⟩,none⟩,⟨some 9,.assign (.tmp 17),none⟩]) (.seq (.reg [⟨some 19,.move (.tmp 2),none⟩,⟨some 20,.move (.tmp 9),none⟩,⟨some 21,.binOp .add 9 (.tmp 19) (.tmp 20) 9,none⟩,⟨some 22,.move (.tmp 3),none⟩,⟨some 23,.binOp .add 9 (.tmp 21) (.tmp 22) 9,none⟩,⟨some 24,.call ⟨.value (.func 20),#[.tmp 23],#[9]⟩,none⟩,⟨some 18,.move (.tmp 24),none⟩,⟨some 25,.extract (.tmp 18) 0,none⟩,⟨some 26,.extract (.tmp 18) 1,none⟩,⟨some 10,.alloc 24,none⟩,⟨some 11,.alloc 29,none⟩,⟨none,.store 24 (.tmp 10) (.tmp 25),none⟩,⟨none,.store 29 (.tmp 11) (.tmp 26),none⟩]) (.seq (.seq (.drawn 3 [⟨some 27,.fieldAddr 29 (.tmp 11) 0,none⟩,⟨some 28,.load 3 (.tmp 27),none⟩,⟨some 29,.binOp .eql 3 (.tmp 28) (.const (.int .i64 0)) 3,none⟩,⟨some 30,.move (.tmp 29),none⟩,⟨some 31,.fieldAddr 24 (.tmp 10) 0,some (some 30,true)⟩,⟨some 32,.load 3 (.tmp 31),some (some 30,true)⟩,⟨some 33,.fieldAddr 24 (.tmp 4) 0,some (some 30,true)⟩,⟨some 34,.load 3 (.tmp 33),some (some 30,true)⟩,⟨some 35,.binOp .eql 3 (.tmp 32) (.tmp 34) 3,some (some 30,true)⟩,⟨some 36,.pick (.tmp 30) (.tmp 35) (.const (.bool false)),none⟩,⟨some 37,.move (.tmp 36),none⟩,⟨some 38,.fieldAddr 24 (.tmp 10) 2,some (some 37,true)⟩,⟨some 39,.load 22 (.tmp 38),some (some 37,true)⟩,⟨some 40,.call ⟨.builtin .len,#[.tmp 39],#[22]⟩,some (some 37,true)⟩,⟨some 41,.move (.tmp 1),some (some 37,true)⟩,⟨some 42,.binOp .gtr 3 (.tmp 40) (.tmp 41) 3,some (some 37,true)⟩,⟨some 43,.pick (.tmp 37) (.tmp 42) (.const (.bool false)),none⟩,⟨some 44,.move (.tmp 43),none⟩,⟨some 45,.fieldAddr 24 (.tmp 10) 2,some (some 44,true)⟩,⟨some 46,.load 22 (.tmp 45),some (some 44,true)⟩,⟨some 47,.move (.tmp 1),some (some 44,true)⟩,⟨some 48,.indexAddr 22 (.tmp 46) (.tmp 47),some (some 44,true)⟩,⟨some 49,.load 24 (.tmp 48),some (some 44,true)⟩,⟨some 50,.fieldAddr 24 (.tmp 4) 2,some (some 44,true)⟩,⟨some 51,.load 22 (.tmp 50),some (some 44,true)⟩,⟨some 52,.move (.tmp 1),some (some 44,true)⟩,⟨some 53,.indexAddr 22 (.tmp 51) (.tmp 52),some (some 44,true)⟩,⟨some 54,.load 24 (.tmp 53),some (some 44,true)⟩,⟨some 55,.call ⟨.value (.func 17),#[.tmp 49,.tmp 54],#[24,24]⟩,some (some 44,true)⟩,⟨some 56,.pick (.tmp 44) (.tmp 55) (.const (.bool false)),none⟩]) (.cond (.tmp 56) (.seq (.reg [⟨some 57,.move (.tmp 9),none⟩,⟨some 8,.assign (.tmp 57),none⟩]) .ret) .skip)) (.seq (.reg [⟨some 58,.move (.tmp 9),none⟩,⟨some 59,.binOp .add 9 (.const (.string ⟨#[40]⟩)) (.tmp 58) 9,none⟩,⟨some 60,.binOp .add 9 (.tmp 59) (.const (.string ⟨#[41]⟩)) 9,none⟩,⟨some 8,.assign (.tmp 60),none⟩]) .ret))))
@[simp] theorem x54_s {C e s K} : type_of% (@X_at C e s K _ _ x54.eq_1) := X_at x54.eq_1
def an54 : Ann := ⟨[(3, .mix 28)], [], []⟩
@[simp] theorem an54_a : an54.clsOf 3 = .mix 28 ∧ an54.frzOf 3 = [] := ⟨rfl, rfl⟩
theorem fi54 : FI Try.prog 54 (cxA an54) x54 [.tmp 8] Try.f54 := fiA Try.func54 mixed
theorem inside_ref (f : Fm) (j : Nat) (a b s : ByteArray) (hj : j < f.kids.length) (hs : a.size + s.size + b.size ≤ 100000) (hW : CallOK Try.prog 18 [.agg (frm f.kids[j])] [] (.str s) []) (g : Fm) (hR : parseO (a ++ s ++ b) = (g, 0, 0)) :
  CallOK Try.prog 54 [.agg (frm f), .int .i64 (j : Int), .str a, .str b] [] (.str (if okI f.kind j f.kids[j] g = true then s else (⟨#[40]⟩ : ByteArray) ++ s ++ (⟨#[41]⟩ : ByteArray))) [] := by
 have h1 := Read_ref (a ++ s ++ b)
 rw [hR] at h1
 dsimp only at h1
 have hf := frm_eq f
 have hg := frm_eq g
 refine fi54.op ?_
 unfold okI
 by_cases hk : g.kind = f.kind
 ·by_cases hl : j < g.kids.length
  ·have hsm := Same_ref g.kids[j] f.kids[j]
   have he : g.kids[j]? = some g.kids[j] := List.getElem?_eq_getElem hl
   rw [he]
   by_cases hxy : g.kids[j] = f.kids[j]
   ·rw [sameB_iff.2 hxy] at hsm
    rw [if_pos (by simp [hk, sameB_iff.2 hxy])]
    ((refine Sg.h ?_); try repeat' ((first | (with_reducible first | refine brA ?_ | refine brE fun _ => ?_ | (refine spl ⟨?_, ?_⟩ <;> intro _)) | refine clo hW ?_ | refine clo h1 ?_ | refine clo hsm ?_) <;> ((try simp -implicitDefEqProofs [hf, hg, hk, hl]); (try simp -implicitDefEqProofs (disch := first | assumption | (try simp only [lens]); omega -splitDisjunctions) [hf, hg, hk, hl]))))
    all_goals first | omega | skip
   ·rw [show sameB g.kids[j] f.kids[j] = false by rw [← Bool.not_eq_true, sameB_iff]; exact hxy] at hsm
    rw [if_neg (by simp [show sameB g.kids[j] f.kids[j] = false by rw [← Bool.not_eq_true, sameB_iff]; exact hxy])]
    ((refine Sg.h ?_); try repeat' ((first | (with_reducible first | refine brA ?_ | refine brE fun _ => ?_ | (refine spl ⟨?_, ?_⟩ <;> intro _)) | refine clo hW ?_ | refine clo h1 ?_ | refine clo hsm ?_) <;> ((try simp -implicitDefEqProofs [hf, hg, hk, hl]); (try simp -implicitDefEqProofs (disch := first | assumption | (try simp only [lens]); omega -splitDisjunctions) [hf, hg, hk, hl]))))
    all_goals first | omega | skip
  ·rw [if_neg (by rw [List.getElem?_eq_none (by omega)]; simp)]
   ((refine Sg.h ?_); try repeat' ((first | (with_reducible first | refine brA ?_ | refine brE fun _ => ?_ | (refine spl ⟨?_, ?_⟩ <;> intro _)) | refine clo hW ?_ | refine clo h1 ?_) <;> ((try simp -implicitDefEqProofs [hf, hg, hk, hl]); (try simp -implicitDefEqProofs (disch := first | assumption | (try simp only [lens]); omega -splitDisjunctions) [hf, hg, hk, hl]))))
   all_goals first | omega | skip
 ·rw [if_neg (by simp [hk])]
  ((refine Sg.h ?_); try repeat' ((first | (with_reducible first | refine brA ?_ | refine brE fun _ => ?_ | (refine spl ⟨?_, ?_⟩ <;> intro _)) | refine clo hW ?_ | refine clo h1 ?_) <;> ((try simp -implicitDefEqProofs [hf, hg, hk]); (try simp -implicitDefEqProofs (disch := first | assumption | (try simp only [lens]); omega -splitDisjunctions) [hf, hg, hk]))))
  all_goals omega
theorem inside_k (f : Fm) (j : Nat) (a b s : ByteArray) {k : Int} {x : Fm} (hk : f.kind = k) (hj : j < f.kids.length) (hx : f.kids[j] = x) (hs : a.size + s.size + b.size ≤ 100000) (hW : CallOK Try.prog 18 [.agg (frm x)] [] (.str s) []) (g : Fm) (hR : parseO (a ++ s ++ b) = (g, 0, 0)) :
  CallOK Try.prog 54 [.agg (frm f), .int .i64 (j : Int), .str a, .str b] [] (.str (if okI k j x g = true then s else (⟨#[40]⟩ : ByteArray) ++ s ++ (⟨#[41]⟩ : ByteArray))) [] := by
 subst hk hx
 exact inside_ref f j a b s hj hs hW g hR
theorem pre_1 (f : Fm) : 1 ≤ (pre f).length := by rw [pre_eq, List.length_cons]; omega
theorem sz_list (p : ByteArray) : p.size = p.data.toList.length := rfl
theorem okI_no {k : Int} {j : Nat} {x g : Fm} (h : g.kind ≠ k ∨ g.kids[j]? ≠ some x) : ¬ okI k j x g = true := by
 unfold okI
 rw [Bool.and_eq_true, decide_eq_true_eq]
 rintro ⟨h1, h2⟩
 rcases h with h | h
 ·exact h h1
 ·split at h2
  ·rename_i y hy
   exact h (by rw [hy, sameB_iff.1 h2])
  ·cases h2
theorem okI_yes {k : Int} {j : Nat} {x g : Fm} (h : g.kind = k) (h2 : g.kids[j]? = some x) : okI k j x g = true := by
 unfold okI
 rw [h2, decide_eq_true h, Bool.true_and]
 exact sameB_iff.2 rfl
theorem in_una {k : Int} (hk : Una k) {x : Fm} (hx : Td x) (hl : (pre x).length + 1 ≤ 200) (p : ByteArray) (hp : p.data.toList = prB k) (hW : CallOK Try.prog 18 [.agg (frm x)] [] (.str (said x 1)) []) :
  CallOK Try.prog 54 [.agg (frm (.mk k ⟨#[]⟩ [x])), .int .i64 0, .str p, .str ⟨#[]⟩] [] (.str (said x 4)) [] := by
 have hps : p.size ≤ 2 := by rw [sz_list, hp]; unfold prB; split <;> (try split) <;> simp
 have hsz := said_size x hx.ok 1
 have ht : (p ++ said x 1 ++ ⟨#[]⟩).data.toList = prB k ++ sd x 1 := by
  simp only [ByteArray.data_append, Array.toList_append, hp, List.append_nil]; rfl
 have use := fun g hr => inside_k (k := k) (x := x) (.mk k ⟨#[]⟩ [x]) 0 p ⟨#[]⟩ (said x 1) rfl (by simp [Fm.kids]) rfl (by rw [sz_list ⟨#[]⟩]; simp; omega) hW g hr
 rw [said_par]
 by_cases h4 : levelN x.kind < 4
 ·obtain ⟨g, g1, g2, g3, g4⟩ := badU hk hx h4
  have := use g (read_of g1 (by omega) (by rw [ht, g3]))
  rw [if_neg (okI_no (.inl g4))] at this
  rw [if_pos h4]; exact this
 ·have := use (.mk k ⟨#[]⟩ [x]) (read_of (td_one hk hx) (by rw [pre_len1]; omega) (by rw [ht, sd_una hk, sd_eq (f := x) (l := 4) (l' := 1) (.inr ⟨by omega, levelN_ge _⟩)]))
  rw [if_pos (okI_yes (k := k) rfl rfl)] at this
  rw [if_neg h4]; exact this
theorem in_left {k : Int} (hk : Bin k) {x y : Fm} (hx : Td x) (hl : (pre x).length + 2 ≤ 200) (s : ByteArray) (hs : s.data.toList = sgB k) (hW : CallOK Try.prog 18 [.agg (frm x)] [] (.str (said x 1)) []) :
  CallOK Try.prog 54 [.agg (frm (.mk k ⟨#[]⟩ [x, y])), .int .i64 0, .str ⟨#[]⟩, .str (s ++ ⟨#[97]⟩)] [] (.str (said x (lvL k))) [] := by
 have hps : s.size ≤ 4 := by rw [sz_list, hs]; unfold sgB; split <;> (try split) <;> simp
 have hsz := said_size x hx.ok 1
 have hkl := lv_bin hk
 have ht : (⟨#[]⟩ ++ said x 1 ++ (s ++ ⟨#[97]⟩) : ByteArray).data.toList = sd x 1 ++ (sgB k ++ [97]) := by
  simp only [ByteArray.data_append, Array.toList_append, hs]; rfl
 have use := fun g hr => inside_k (k := k) (x := x) (.mk k ⟨#[]⟩ [x, y]) 0 ⟨#[]⟩ (s ++ ⟨#[97]⟩) (said x 1) rfl (by simp [Fm.kids]) rfl (by rw [sz_list ⟨#[]⟩, ByteArray.size_append, sz_list ⟨#[97]⟩]; simp; omega) hW g hr
 rw [said_par]
 by_cases h4 : levelN x.kind < lvL k
 ·obtain ⟨g, g1, g2, g3, g4⟩ := badL hk hx h4
  have := use g (read_of g1 (by omega) (by rw [ht, g3]))
  rw [if_neg (okI_no (.inr g4))] at this
  rw [if_pos h4]; exact this
 ·have := use (.mk k ⟨#[]⟩ [x, aF]) (read_of (td_two hk hx td_aF) (by rw [pre_len2, len_aF]; omega) (by rw [ht, sd_bin hk, sd_aF (by omega), sd_eq (f := x) (l := lvL k) (l' := 1) (.inr ⟨by omega, levelN_ge _⟩)]))
  rw [if_pos (okI_yes (k := k) rfl rfl)] at this
  rw [if_neg h4]; exact this
theorem in_right {k : Int} (hk : Bin k) {x y : Fm} (hy : Td y) (hl : (pre y).length + 2 ≤ 200) (s : ByteArray) (hs : s.data.toList = sgB k) (hW : CallOK Try.prog 18 [.agg (frm y)] [] (.str (said y 1)) []) :
  CallOK Try.prog 54 [.agg (frm (.mk k ⟨#[]⟩ [x, y])), .int .i64 1, .str (⟨#[97]⟩ ++ s), .str ⟨#[]⟩] [] (.str (said y (lvR k))) [] := by
 have hps : s.size ≤ 4 := by rw [sz_list, hs]; unfold sgB; split <;> (try split) <;> simp
 have hsz := said_size y hy.ok 1
 have hkl := lv_bin hk
 have ht : (⟨#[97]⟩ ++ s ++ said y 1 ++ ⟨#[]⟩ : ByteArray).data.toList = 97 :: (sgB k ++ sd y 1) := by
  simp only [ByteArray.data_append, Array.toList_append, hs, List.append_nil, List.append_assoc]; rfl
 have use := fun g hr => inside_k (k := k) (x := y) (.mk k ⟨#[]⟩ [x, y]) 1 (⟨#[97]⟩ ++ s) ⟨#[]⟩ (said y 1) rfl (by simp [Fm.kids]) rfl (by rw [sz_list ⟨#[]⟩, ByteArray.size_append, sz_list ⟨#[97]⟩]; simp; omega) hW g hr
 rw [said_par]
 by_cases h4 : levelN y.kind < lvR k
 ·obtain ⟨g, g1, g2, g3, g4⟩ := badR hk hy h4
  have := use g (read_of g1 (by omega) (by rw [ht, g3]))
  rw [if_neg (okI_no (.inr g4))] at this
  rw [if_pos h4]; exact this
 ·have := use (.mk k ⟨#[]⟩ [aF, y]) (read_of (td_two hk td_aF hy) (by rw [pre_len2, len_aF]; omega) (by rw [ht, sd_bin hk, sd_aF (by omega), sd_eq (f := y) (l := lvR k) (l' := 1) (.inr ⟨by omega, levelN_ge _⟩)]; rfl))
  rw [if_pos (okI_yes (k := k) rfl rfl)] at this
  rw [if_neg h4]; exact this
def x18 : XC := .seq (.reg [⟨some 1,.box 24 (.tmp 0),none⟩,⟨some 2,.assign (.const (.string ⟨#[]⟩)),none⟩]) (.seq (.seq (.reg [⟨some 4,.fieldAddr 24 (.tmp 1) 0,none⟩,⟨some 5,.load 3 (.tmp 4),none⟩]) (.block 0 (.seq (.reg [⟨some 7,.binOp .eql 3 (.tmp 5) (.const (.int .i64 1)) 3,none⟩,⟨some 6,.assign (.tmp 7),none⟩]) (.cond (.tmp 6) (.seq (.reg [⟨some 8,.fieldAddr 24 (.tmp 1) 1,none⟩,⟨some 9,.load 9 (.tmp 8),none⟩,⟨some 2,.assign (.tmp 9),none⟩]) .ret) (.seq (.reg [⟨some 11,.binOp .eql 3 (.tmp 5) (.const (.int .i64 2)) 3,none⟩,⟨some 10,.assign (.tmp 11),none⟩]) (.cond (.tmp 10) (.seq (.reg [⟨some 2,.assign (.const (.string ⟨#[49]⟩)),none⟩]) .ret) (.seq (.reg [⟨some 13,.binOp .eql 3 (.tmp 5) (.const (.int .i64 3)) 3,none⟩,⟨some 12,.assign (.tmp 13),none⟩]) (.cond (.tmp 12) (.seq (.reg [⟨some 2,.assign (.const (.string ⟨#[48]⟩)),none⟩]) .ret) (.seq (.reg [⟨some 15,.binOp .eql 3 (.tmp 5) (.const (.int .i64 4)) 3,none⟩,⟨some 14,.assign (.tmp 15),none⟩]) (.cond (.tmp 14) (.seq (.reg [⟨some 16,.load 24 (.tmp 1),none⟩,⟨some 17,.call ⟨.value (.func 54),#[.tmp 16,.const (.int .i64 0),.const (.string ⟨#[126]⟩),.const (.string ⟨#[]⟩)],#[24,3,9,9]⟩,none⟩,⟨some 18,.binOp .add 9 (.const (.string ⟨#[126]⟩)) (.tmp 17) 9,none⟩,⟨some 2,.assign (.tmp 18),none⟩]) .ret) (.seq (.reg [⟨some 20,.binOp .eql 3 (.tmp 5) (.const (.int .i64 8)) 3,none⟩,⟨some 19,.assign (.tmp 20),none⟩]) (.cond (.tmp 19) (.seq (.reg [⟨some 21,.load 24 (.tmp 1),none⟩,⟨some 22,.call ⟨.value (.func 54),#[.tmp 21,.const (.int .i64 0),.const (.string ⟨#[91,93]⟩),.const (.string ⟨#[]⟩)],#[24,3,9,9]⟩,none⟩,⟨some 23,.binOp .add 9 (.const (.string ⟨#[91,93]⟩)) (.tmp 22) 9,none⟩,⟨some 2,.assign (.tmp 23),none⟩]) .ret) (.seq (.reg [⟨some 25,.binOp .eql 3 (.tmp 5) (.const (.int .i64 9)) 3,none⟩,⟨some 24,.assign (.tmp 25),none⟩]) (.cond (.tmp 24) (.seq (.reg [⟨some 26,.load 24 (.tmp 1),none⟩,⟨some 27,.call ⟨.value (.func 54),#[.tmp 26,.const (.int .i64 0),.const (.string ⟨#[60,62]⟩),.const (.string ⟨#[]⟩)],#[24,3,9,9]⟩,none⟩,⟨some 28,.binOp .add 9 (.const (.string ⟨#[60,62]⟩)) (.tmp 27) 9,none⟩,⟨some 2,.assign (.tmp 28),none⟩]) .ret) .skip)))))))))))))) (.seq (.reg [⟨some 3,.assign (.const (.string ⟨#[32,38,32]⟩)),none⟩]) (.seq (.seq (.reg [⟨some 29,.fieldAddr 24 (.tmp 1) 0,none⟩,⟨some 30,.load 3 (.tmp 29),none⟩,⟨some 31,.binOp .eql 3 (.tmp 30) (.const (.int .i64 6)) 3,none⟩]) (.cond (.tmp 31) (.reg [⟨some 3,.assign (.const (.string ⟨#[32,124,32]⟩)),none⟩]) (.seq (.reg [⟨some 32,.fieldAddr 24 (.tmp 1) 0,none⟩,⟨some 33,.load 3 (.tmp 32),none⟩,⟨some 34,.binOp .eql 3 (.tmp 33) (.const (.int .i64 7)) 3,none⟩]) (.cond (.tmp 34) (.reg [⟨some 3,.assign (.const (.string ⟨#[32,45,62,32]⟩)),none⟩]) .skip)))) (.seq (.drawn 19 [⟨some 35,.load 24 (.tmp 1),none⟩,⟨some 36,.move (.tmp 3),none⟩,⟨some 37,.binOp .add 9 (.tmp 36) (.const (.string ⟨#[97]⟩)) 9,none⟩,⟨some 38,.call ⟨.value (.func 54),#[.tmp 35,.const (.int .i64 0),.const (.string ⟨#[]⟩),.tmp 37],#[24,3,9,9]⟩,none⟩,⟨some 39,.move (.tmp 3),none⟩,⟨some 40,.binOp .add 9 (.tmp 38) (.tmp 39) 9,none⟩,⟨some 41,.load 24 (.tmp 1),none⟩,⟨some 42,.move (.tmp 3),none⟩,⟨some 43,.binOp .add 9 (.const (.string ⟨#[97]⟩)) (.tmp 42) 9,none⟩,⟨some 44,.call ⟨.value (.func 54),#[.tmp 41,.const (.int .i64 1),.tmp 43,.const (.string ⟨#[]⟩)],#[24,3,9,9]⟩,none⟩,⟨some 45,.binOp .add 9 (.tmp 40) (.tmp 44) 9,none⟩,⟨some 2,.assign (.tmp 45),none⟩]) .ret))))
@[simp] theorem x18_s {C e s K} : type_of% (@X_at C e s K _ _ x18.eq_1) := X_at x18.eq_1
def an18 : Ann := ⟨[(19, .mix 10)], [], []⟩
@[simp] theorem an18_a : an18.clsOf 19 = .mix 10 ∧ an18.frzOf 19 = [] := ⟨rfl, rfl⟩
theorem fi18 : FI Try.prog 18 (cxA an18) x18 [.tmp 2] Try.f18 := fiA Try.func18 mixed
theorem Written_ref (f : Fm) : Td f → (pre f).length ≤ 200 → CallOK Try.prog 18 [.agg (frm f)] [] (.str (said f 1)) [] := by
 induction f using Fm.ind with
 | h f ih =>
  intro hf hl
  refine fi18.op ?_
  rcases hf.nine with ⟨nm, hN, rfl⟩ | rfl | rfl | ⟨a, ha, rfl⟩ | ⟨a, b, ha, hb, rfl⟩ | ⟨a, b, ha, hb, rfl⟩ | ⟨a, b, ha, hb, rfl⟩ | ⟨a, ha, rfl⟩ | ⟨a, ha, rfl⟩
  ·have hf := frm_eq (.mk 1 nm [])
   simp only [Fm.kind, Fm.name, Fm.kids, List.map_nil] at hf
   ((refine Sg.h ?_); try repeat' ((first | (with_reducible first | refine brA ?_ | refine brE fun _ => ?_ | (refine spl ⟨?_, ?_⟩ <;> intro _))) <;> ((try simp -implicitDefEqProofs [hf]); (try simp -implicitDefEqProofs (disch := first | assumption | (try simp only [lens]); omega -splitDisjunctions) [hf]))))
   all_goals (rw [said]; rfl)
  ·have hf := frm_eq (.mk 2 ⟨#[]⟩ [])
   simp only [Fm.kind, Fm.name, Fm.kids, List.map_nil] at hf
   ((refine Sg.h ?_); try repeat' ((first | (with_reducible first | refine brA ?_ | refine brE fun _ => ?_ | (refine spl ⟨?_, ?_⟩ <;> intro _))) <;> ((try simp -implicitDefEqProofs [hf]); (try simp -implicitDefEqProofs (disch := first | assumption | (try simp only [lens]); omega -splitDisjunctions) [hf]))))
   all_goals (rw [said]; rfl)
  ·have hf := frm_eq (.mk 3 ⟨#[]⟩ [])
   simp only [Fm.kind, Fm.name, Fm.kids, List.map_nil] at hf
   ((refine Sg.h ?_); try repeat' ((first | (with_reducible first | refine brA ?_ | refine brE fun _ => ?_ | (refine spl ⟨?_, ?_⟩ <;> intro _))) <;> ((try simp -implicitDefEqProofs [hf]); (try simp -implicitDefEqProofs (disch := first | assumption | (try simp only [lens]); omega -splitDisjunctions) [hf]))))
   all_goals (rw [said]; rfl)
  ·have hf := frm_eq (.mk 4 ⟨#[]⟩ [a])
   rw [pre_len1] at hl
   have h1 := in_una (.inl rfl) ha (by omega) ⟨#[126]⟩ rfl (ih a (by simp [Fm.kids]) ha (by omega))
   have hv : said (.mk 4 ⟨#[]⟩ [a]) 1 = (⟨#[126]⟩ : ByteArray) ++ said a 4 := by rw [said]; simp [saids, paren, levelN]
   have hsz := said_size a ha.ok 4
   rw [hv]
   simp only [Fm.kind, Fm.name, Fm.kids, List.map_nil, List.map_cons] at hf
   rw [hf] at h1
   ((refine Sg.h ?_); try repeat' ((first | (with_reducible first | refine brA ?_ | refine brE fun _ => ?_ | (refine spl ⟨?_, ?_⟩ <;> intro _)) | refine clo h1 ?_) <;> ((try simp -implicitDefEqProofs [hf]); (try simp -implicitDefEqProofs (disch := first | assumption | (try simp only [lens]); omega -splitDisjunctions) [hf]))))
   all_goals first | omega | skip
  ·have hf := frm_eq (.mk 5 ⟨#[]⟩ [a, b])
   rw [pre_len2] at hl
   have hpa := pre_1 a
   have hpb := pre_1 b
   have h1 := in_left (y := b) (.inl rfl) ha (by omega) ⟨#[32, 38, 32]⟩ rfl (ih a (by simp [Fm.kids]) ha (by omega))
   have h2 := in_right (x := a) (.inl rfl) hb (by omega) ⟨#[32, 38, 32]⟩ rfl (ih b (by simp [Fm.kids]) hb (by omega))
   have hv : said (.mk 5 ⟨#[]⟩ [a, b]) 1 = said a (lvL 5) ++ (⟨#[32, 38, 32]⟩ : ByteArray) ++ said b (lvR 5) := by rw [said]; simp [saids, paren, levelN, lvL, lvR]
   have hsz := said_size a ha.ok (lvL 5)
   have hsz2 := said_size b hb.ok (lvR 5)
   rw [hv]
   simp only [Fm.kind, Fm.name, Fm.kids, List.map_nil, List.map_cons] at hf
   rw [hf] at h1 h2
   have e1 : (⟨#[32, 38, 32]⟩ : ByteArray) ++ ⟨#[97]⟩ = ⟨#[32, 38, 32, 97]⟩ := by decide
   have e2 : (⟨#[97]⟩ : ByteArray) ++ ⟨#[32, 38, 32]⟩ = ⟨#[97, 32, 38, 32]⟩ := by decide
   rw [e1] at h1
   rw [e2] at h2
   generalize said a (lvL 5) = sa at *
   generalize said b (lvR 5) = sb at *
   ((refine Sg.h ?_); try repeat' ((first | (with_reducible first | refine brA ?_ | refine brE fun _ => ?_ | (refine spl ⟨?_, ?_⟩ <;> intro _)) | (refine CM.see (h1) ?_ ?_ ?_; (focus (intro _; first | (simp; done) | (simp [scn]; done))); (focus (simp [flats]; done))) | (refine CM.see (h2) ?_ ?_ ?_; (focus (intro _; first | (simp; done) | (simp [scn]; done))); (focus (simp [flats]; done)))) <;> ((try simp -implicitDefEqProofs [hf, e1, e2]); (try simp -implicitDefEqProofs (disch := first | assumption | (try simp only [lens]); omega -splitDisjunctions) [hf, e1, e2]))))
   all_goals first | omega | skip
  ·have hf := frm_eq (.mk 6 ⟨#[]⟩ [a, b])
   rw [pre_len2] at hl
   have hpa := pre_1 a
   have hpb := pre_1 b
   have h1 := in_left (y := b) (.inr (.inl rfl)) ha (by omega) ⟨#[32, 124, 32]⟩ rfl (ih a (by simp [Fm.kids]) ha (by omega))
   have h2 := in_right (x := a) (.inr (.inl rfl)) hb (by omega) ⟨#[32, 124, 32]⟩ rfl (ih b (by simp [Fm.kids]) hb (by omega))
   have hv : said (.mk 6 ⟨#[]⟩ [a, b]) 1 = said a (lvL 6) ++ (⟨#[32, 124, 32]⟩ : ByteArray) ++ said b (lvR 6) := by rw [said]; simp [saids, paren, levelN, lvL, lvR]
   have hsz := said_size a ha.ok (lvL 6)
   have hsz2 := said_size b hb.ok (lvR 6)
   rw [hv]
   simp only [Fm.kind, Fm.name, Fm.kids, List.map_nil, List.map_cons] at hf
   rw [hf] at h1 h2
   have e1 : (⟨#[32, 124, 32]⟩ : ByteArray) ++ ⟨#[97]⟩ = ⟨#[32, 124, 32, 97]⟩ := by decide
   have e2 : (⟨#[97]⟩ : ByteArray) ++ ⟨#[32, 124, 32]⟩ = ⟨#[97, 32, 124, 32]⟩ := by decide
   rw [e1] at h1
   rw [e2] at h2
   generalize said a (lvL 6) = sa at *
   generalize said b (lvR 6) = sb at *
   ((refine Sg.h ?_); try repeat' ((first | (with_reducible first | refine brA ?_ | refine brE fun _ => ?_ | (refine spl ⟨?_, ?_⟩ <;> intro _)) | (refine CM.see (h1) ?_ ?_ ?_; (focus (intro _; first | (simp; done) | (simp [scn]; done))); (focus (simp [flats]; done))) | (refine CM.see (h2) ?_ ?_ ?_; (focus (intro _; first | (simp; done) | (simp [scn]; done))); (focus (simp [flats]; done)))) <;> ((try simp -implicitDefEqProofs [hf, e1, e2]); (try simp -implicitDefEqProofs (disch := first | assumption | (try simp only [lens]); omega -splitDisjunctions) [hf, e1, e2]))))
   all_goals first | omega | skip
  ·have hf := frm_eq (.mk 7 ⟨#[]⟩ [a, b])
   rw [pre_len2] at hl
   have hpa := pre_1 a
   have hpb := pre_1 b
   have h1 := in_left (y := b) (.inr (.inr rfl)) ha (by omega) ⟨#[32, 45, 62, 32]⟩ rfl (ih a (by simp [Fm.kids]) ha (by omega))
   have h2 := in_right (x := a) (.inr (.inr rfl)) hb (by omega) ⟨#[32, 45, 62, 32]⟩ rfl (ih b (by simp [Fm.kids]) hb (by omega))
   have hv : said (.mk 7 ⟨#[]⟩ [a, b]) 1 = said a (lvL 7) ++ (⟨#[32, 45, 62, 32]⟩ : ByteArray) ++ said b (lvR 7) := by rw [said]; simp [saids, paren, levelN, lvL, lvR]
   have hsz := said_size a ha.ok (lvL 7)
   have hsz2 := said_size b hb.ok (lvR 7)
   rw [hv]
   simp only [Fm.kind, Fm.name, Fm.kids, List.map_nil, List.map_cons] at hf
   rw [hf] at h1 h2
   have e1 : (⟨#[32, 45, 62, 32]⟩ : ByteArray) ++ ⟨#[97]⟩ = ⟨#[32, 45, 62, 32, 97]⟩ := by decide
   have e2 : (⟨#[97]⟩ : ByteArray) ++ ⟨#[32, 45, 62, 32]⟩ = ⟨#[97, 32, 45, 62, 32]⟩ := by decide
   rw [e1] at h1
   rw [e2] at h2
   generalize said a (lvL 7) = sa at *
   generalize said b (lvR 7) = sb at *
   ((refine Sg.h ?_); try repeat' ((first | (with_reducible first | refine brA ?_ | refine brE fun _ => ?_ | (refine spl ⟨?_, ?_⟩ <;> intro _)) | (refine CM.see (h1) ?_ ?_ ?_; (focus (intro _; first | (simp; done) | (simp [scn]; done))); (focus (simp [flats]; done))) | (refine CM.see (h2) ?_ ?_ ?_; (focus (intro _; first | (simp; done) | (simp [scn]; done))); (focus (simp [flats]; done)))) <;> ((try simp -implicitDefEqProofs [hf, e1, e2]); (try simp -implicitDefEqProofs (disch := first | assumption | (try simp only [lens]); omega -splitDisjunctions) [hf, e1, e2]))))
   all_goals first | omega | skip
  ·have hf := frm_eq (.mk 8 ⟨#[]⟩ [a])
   rw [pre_len1] at hl
   have h1 := in_una (.inr (.inl rfl)) ha (by omega) ⟨#[91, 93]⟩ rfl (ih a (by simp [Fm.kids]) ha (by omega))
   have hv : said (.mk 8 ⟨#[]⟩ [a]) 1 = (⟨#[91, 93]⟩ : ByteArray) ++ said a 4 := by rw [said]; simp [saids, paren, levelN]
   have hsz := said_size a ha.ok 4
   rw [hv]
   simp only [Fm.kind, Fm.name, Fm.kids, List.map_nil, List.map_cons] at hf
   rw [hf] at h1
   ((refine Sg.h ?_); try repeat' ((first | (with_reducible first | refine brA ?_ | refine brE fun _ => ?_ | (refine spl ⟨?_, ?_⟩ <;> intro _)) | refine clo h1 ?_) <;> ((try simp -implicitDefEqProofs [hf]); (try simp -implicitDefEqProofs (disch := first | assumption | (try simp only [lens]); omega -splitDisjunctions) [hf]))))
   all_goals first | omega | skip
  ·have hf := frm_eq (.mk 9 ⟨#[]⟩ [a])
   rw [pre_len1] at hl
   have h1 := in_una (.inr (.inr rfl)) ha (by omega) ⟨#[60, 62]⟩ rfl (ih a (by simp [Fm.kids]) ha (by omega))
   have hv : said (.mk 9 ⟨#[]⟩ [a]) 1 = (⟨#[60, 62]⟩ : ByteArray) ++ said a 4 := by rw [said]; simp [saids, paren, levelN]
   have hsz := said_size a ha.ok 4
   rw [hv]
   simp only [Fm.kind, Fm.name, Fm.kids, List.map_nil, List.map_cons] at hf
   rw [hf] at h1
   ((refine Sg.h ?_); try repeat' ((first | (with_reducible first | refine brA ?_ | refine brE fun _ => ?_ | (refine spl ⟨?_, ?_⟩ <;> intro _)) | refine clo h1 ?_) <;> ((try simp -implicitDefEqProofs [hf]); (try simp -implicitDefEqProofs (disch := first | assumption | (try simp only [lens]); omega -splitDisjunctions) [hf]))))
   all_goals first | omega | skip
def x3 : XC := .seq (.reg [⟨some 1,.box 24 (.tmp 0),none⟩,⟨some 2,.assign (.const (.bool false)),none⟩]) (.seq (.seq (.reg [⟨some 8,.call ⟨.value (.func 11),#[],#[]⟩,none⟩,⟨some 9,.unOp .not 4 (.tmp 8),none⟩]) (.cond (.tmp 9) (.seq (.reg [⟨some 2,.assign (.const (.bool false)),none⟩]) .ret) .skip)) (.seq (.seq (.reg [⟨some 10,.load 24 (.tmp 1),none⟩,⟨some 11,.call ⟨.value (.func 12),#[.tmp 10,.const (.int .i64 0)],#[24,3]⟩,none⟩]) (.cond (.tmp 11) (.seq (.reg [⟨some 2,.assign (.const (.bool true)),none⟩]) .ret) .skip)) (.seq (.reg [⟨some 12,.load 24 (.tmp 1),none⟩,⟨some 13,.call ⟨.value (.func 13),#[.tmp 12],#[24]⟩,none⟩,⟨some 3,.alloc 24,none⟩,⟨none,.store 24 (.tmp 3) (.tmp 13),none⟩]) (.seq (.reg [⟨some 14,.load 24 (.tmp 3),none⟩,⟨some 15,.call ⟨.value (.func 14),#[.tmp 14],#[24]⟩,none⟩,⟨some 4,.alloc 29,none⟩,⟨none,.store 29 (.tmp 4) (.tmp 15),none⟩]) (.seq (.reg [⟨some 17,.load 24 (.tmp 3),none⟩,⟨some 18,.call ⟨.value (.func 15),#[.tmp 17],#[24]⟩,none⟩,⟨some 16,.move (.tmp 18),none⟩,⟨some 19,.extract (.tmp 16) 0,none⟩,⟨some 20,.extract (.tmp 16) 1,none⟩,⟨some 6,.alloc 29,none⟩,⟨some 5,.assign (.tmp 19),none⟩,⟨none,.store 29 (.tmp 6) (.tmp 20),none⟩]) (.seq (.reg [⟨some 21,.load 24 (.tmp 1),none⟩,⟨some 22,.call ⟨.value (.func 16),#[.tmp 21],#[24]⟩,none⟩,⟨some 7,.alloc 29,none⟩,⟨none,.store 29 (.tmp 7) (.tmp 22),none⟩]) (.seq (.seq (.reg [⟨some 23,.load 29 (.tmp 4),none⟩,⟨some 24,.load 29 (.tmp 7),none⟩,⟨some 25,.binOp .neq 29 (.tmp 23) (.tmp 24) 29,none⟩,⟨some 26,.move (.tmp 25),none⟩,⟨some 27,.load 29 (.tmp 6),some (some 26,false)⟩,⟨some 28,.load 29 (.tmp 7),some (some 26,false)⟩,⟨some 29,.binOp .neq 29 (.tmp 27) (.tmp 28) 29,some (some 26,false)⟩,⟨some 30,.pick (.tmp 26) (.const (.bool true)) (.tmp 29),none⟩,⟨some 31,.move (.tmp 30),none⟩,⟨some 32,.load 24 (.tmp 3),some (some 31,false)⟩,⟨some 33,.load 24 (.tmp 1),some (some 31,false)⟩,⟨some 34,.call ⟨.value (.func 17),#[.tmp 32,.tmp 33],#[24,24]⟩,some (some 31,false)⟩,⟨some 35,.unOp .not 4 (.tmp 34),some (some 31,false)⟩,⟨some 36,.pick (.tmp 31) (.const (.bool true)) (.tmp 35),none⟩]) (.cond (.tmp 36) (.seq (.reg [⟨some 2,.assign (.const (.bool false)),none⟩]) .ret) .skip)) (.seq (.seq (.reg [⟨some 37,.fieldAddr 29 (.tmp 7) 0,none⟩,⟨some 38,.load 3 (.tmp 37),none⟩,⟨some 39,.binOp .neq 3 (.tmp 38) (.const (.int .i64 0)) 3,none⟩]) (.cond (.tmp 39) (.seq (.reg [⟨some 40,.move (.tmp 5),none⟩,⟨some 41,.binOp .eql 9 (.tmp 40) (.const (.string ⟨#[]⟩)) 9,none⟩,⟨some 2,.assign (.tmp 41),none⟩]) .ret) .skip)) (.seq (.reg [⟨some 42,.move (.tmp 5),none⟩,⟨some 43,.load 24 (.tmp 1),none⟩,⟨some 44,.call ⟨.value (.func 18),#[.tmp 43],#[24]⟩,none⟩,⟨some 45,.binOp .eql 9 (.tmp 42) (.tmp 44) 9,none⟩,⟨some 2,.assign (.tmp 45),none⟩]) .ret)))))))))
@[simp] theorem x3_s {C e s K} : type_of% (@X_at C e s K _ _ x3.eq_1) := X_at x3.eq_1
def an3 : Ann := ⟨[], [], []⟩
theorem fi3 : FI Try.prog 3 (cxA an3) x3 [.tmp 2] Try.f3 := fiA Try.func3 mixed
theorem formulaChecks_law (f : Fm) : CallOK Try.prog 3 [.agg (frm f)] [] (.bool true) [] := by
 have hb := formulaBegun_law
 have v1 := vast_ref f 0 (by decide) (by decide) []
 refine fi3.op ?_
 cases hv1 : vastB f 0 with
 | true =>
  rw [hv1] at v1
  ((refine Sg.h ?_); try repeat' ((first | (with_reducible first | refine brA ?_ | refine brE fun _ => ?_ | (refine spl ⟨?_, ?_⟩ <;> intro _)) | refine clo hb ?_ | refine clo v1 ?_) <;> ((try simp -implicitDefEqProofs); (try simp -implicitDefEqProofs (disch := first | assumption | (try simp only [lens]); omega -splitDisjunctions)))))
 | false =>
  rw [hv1] at v1
  have o1 := own_law f 0 hv1
  have s1 : CallOK Try.prog 17 [.agg (frm f), .agg (frm f)] [] (.bool true) [] := by
   have := Same_ref f f
   rw [sameB_iff.2 rfl] at this; exact this
  have hw := FormulaFault_ref f
  have hc1 := check_formula f []
  by_cases hc : (formulaCheck f).1 = 0
  ·have hfz := (formulaCheck_iff f).1 hc
   have hcz := formulaCheck_zero hc
   have p1 := Print_ok f hcz (td_check hc).ok (by omega)
   have w1 := Written_ref f (td_check hc) hfz.2
   rw [hcz] at hw hc1
   generalize said f 1 = S at *
   ((refine Sg.h ?_); try repeat' ((first | (with_reducible first | refine brA ?_ | refine brE fun _ => ?_ | (refine spl ⟨?_, ?_⟩ <;> intro _)) | refine clo hb ?_ | refine clo v1 ?_ | refine clo o1 ?_ | refine clo hc1 ?_ | refine clo p1 ?_ | refine clo hw ?_ | refine clo s1 ?_ | refine clo w1 ?_) <;> ((try simp -implicitDefEqProofs); (try simp -implicitDefEqProofs (disch := first | assumption | (try simp only [lens]); omega -splitDisjunctions)))))
  ·have p1 := Print_bad f hc
   generalize formulaCheck f = q at *
   obtain ⟨c, a⟩ := q
   dsimp only at hc p1 hw hc1
   ((refine Sg.h ?_); try repeat' ((first | (with_reducible first | refine brA ?_ | refine brE fun _ => ?_ | (refine spl ⟨?_, ?_⟩ <;> intro _)) | refine clo hb ?_ | refine clo v1 ?_ | refine clo o1 ?_ | refine clo hc1 ?_ | refine clo p1 ?_ | refine clo hw ?_ | refine clo s1 ?_) <;> ((try simp -implicitDefEqProofs [hc]); (try simp -implicitDefEqProofs (disch := first | assumption | (try simp only [lens]); omega -splitDisjunctions) [hc]))))
end Go.Proofs.Ytcllmionhlmjfaa
