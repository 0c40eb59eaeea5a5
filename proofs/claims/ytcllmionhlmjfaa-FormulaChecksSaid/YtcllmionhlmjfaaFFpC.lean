import Derived.Test.YtcllmionhlmjfaaFFpB
set_option linter.unusedVariables false
set_option linter.unusedSimpArgs false
set_option maxRecDepth 100000
set_option maxHeartbeats 4000000
namespace Go.Proofs.Ytcllmionhlmjfaa
open Go Go.Pv
theorem una_le {k : Int} {R : Res} {f : Fm} {j : Nat} (h : una k R = .ok (f, j)) : ∃ g, R = .ok (g, j) := by
 cases R with
 | ok q => obtain ⟨g, j'⟩ := q; simp only [una, Except.ok.injEq, Prod.mk.injEq] at h; exact ⟨g, by rw [h.2]⟩
 | error q => simp [una] at h
theorem hp_le {t w : ByteArray} {i : Nat} (h : hp t i w = true) : i + w.size ≤ t.size := (of_decide_eq_true h).1
theorem parP_le {t : ByteArray} {R : Res} {f : Fm} {j : Nat} (h : parP t R = .ok (f, j)) : ∃ j', R = .ok (f, j') ∧ j' ≤ j ∧ j ≤ t.size := by
 cases R with
 | ok q =>
  obtain ⟨g, j'⟩ := q
  simp only [parP] at h
  split at h
  ·rename_i hh
   have := hp_le hh
   have h2 : bl t j' + 1 ≤ t.size := this
   have h3 := bl_ge t j'
   cases h
   exact ⟨j', rfl, by omega, h2⟩
  ·cases h
 | error q => simp [parP] at h
theorem notP_le {t : ByteArray} {pn pt : Nat → Res} {i : Nat} (hi : i ≤ t.size) (h1 : ∀ k, i < k → k ≤ t.size → ∀ f j, pn k = .ok (f, j) → k ≤ j ∧ j ≤ t.size) (h2 : ∀ k, i < k → k ≤ t.size → ∀ f j, pt k = .ok (f, j) → k ≤ j ∧ j ≤ t.size) : ∀ f j, notP t pn pt i = .ok (f, j) → i ≤ j ∧ j ≤ t.size := by
 intro f j e
 have hb := bl_ge t i
 have hb2 := bl_le hi
 unfold notP at e
 split at e
 ·rename_i hh
  have h3 : bl t i + 1 ≤ t.size := hp_le hh
  obtain ⟨g, hg⟩ := una_le e
  have := h1 _ (by omega) h3 _ _ hg; omega
 split at e
 ·rename_i hh
  have h3 : bl t i + 2 ≤ t.size := hp_le hh
  obtain ⟨g, hg⟩ := una_le e
  have := h1 _ (by omega) h3 _ _ hg; omega
 split at e
 ·rename_i hh
  have h3 : bl t i + 2 ≤ t.size := hp_le hh
  obtain ⟨g, hg⟩ := una_le e
  have := h1 _ (by omega) h3 _ _ hg; omega
 split at e
 ·rename_i hh
  have h3 : bl t i + 1 ≤ t.size := hp_le hh
  obtain ⟨j', hg, h4, h5⟩ := parP_le e
  have := h2 _ (by omega) h3 _ _ hg; omega
 split at e
 ·rename_i hh
  have h3 : bl t i + 1 ≤ t.size := hp_le hh
  cases e; omega
 split at e
 ·rename_i hh
  have h3 : bl t i + 1 ≤ t.size := hp_le hh
  cases e; omega
 split at e
 ·have h3 := lte_ge t (bl t i)
  have h4 := lte_le hb2
  cases e; omega
 ·cases e
def x128_T1 : XC := .seq (.drawn 19 [⟨some 88,.move (.tmp 0),none⟩,⟨some 89,.nilCheck (.tmp 88),none⟩,⟨some 90,.fieldAddr 85 (.tmp 89) 0,none⟩,⟨some 91,.load 9 (.tmp 90),none⟩,⟨some 92,.move (.tmp 4),none⟩,⟨some 93,.move (.tmp 0),none⟩,⟨some 94,.nilCheck (.tmp 93),none⟩,⟨some 95,.fieldAddr 85 (.tmp 94) 1,none⟩,⟨some 96,.load 3 (.tmp 95),none⟩,⟨some 97,.slice 9 (.tmp 91) (some (.tmp 92)) (some (.tmp 96)) none,none⟩,⟨some 5,.assign (.tmp 97),none⟩]) (.seq (.seq (.reg [⟨some 98,.move (.tmp 5),none⟩,⟨some 99,.call ⟨.value (.func 51),#[.tmp 98],#[9]⟩,none⟩,⟨some 100,.unOp .not 4 (.tmp 99),none⟩]) (.cond (.tmp 100) (.seq (.reg [⟨some 101,.move (.tmp 0),none⟩,⟨some 102,.move (.tmp 4),none⟩,⟨some 103,.nilCheck (.tmp 101),none⟩,⟨some 104,.fieldAddr 85 (.tmp 103) 1,none⟩,⟨none,.store 3 (.tmp 104) (.tmp 102),none⟩]) (.reg [⟨some 105,.move (.tmp 0),none⟩,⟨some 106,.call ⟨.value (.func 58),#[.tmp 105],#[83]⟩,none⟩])) .skip)) (.seq (.reg [⟨some 107,.move (.tmp 5),none⟩,⟨some 108,.build 24 #[(0,.const (.int .i64 1)),(1,.tmp 107)],none⟩,⟨none,.store 24 (.tmp 2) (.tmp 108),none⟩]) .ret))
def x128_L1 : XC := .seq (.seq (.drawn 17 [⟨some 47,.move (.tmp 0),none⟩,⟨some 48,.nilCheck (.tmp 47),none⟩,⟨some 49,.fieldAddr 85 (.tmp 48) 1,none⟩,⟨some 50,.load 3 (.tmp 49),none⟩,⟨some 51,.move (.tmp 0),none⟩,⟨some 52,.nilCheck (.tmp 51),none⟩,⟨some 53,.fieldAddr 85 (.tmp 52) 0,none⟩,⟨some 54,.load 9 (.tmp 53),none⟩,⟨some 55,.call ⟨.builtin .len,#[.tmp 54],#[9]⟩,none⟩,⟨some 56,.binOp .lss 3 (.tmp 50) (.tmp 55) 3,none⟩,⟨some 57,.move (.tmp 56),none⟩,⟨some 58,.move (.tmp 0),some (some 57,true)⟩,⟨some 59,.nilCheck (.tmp 58),some (some 57,true)⟩,⟨some 60,.fieldAddr 85 (.tmp 59) 0,some (some 57,true)⟩,⟨some 61,.load 9 (.tmp 60),some (some 57,true)⟩,⟨some 62,.move (.tmp 0),some (some 57,true)⟩,⟨some 63,.nilCheck (.tmp 62),some (some 57,true)⟩,⟨some 64,.fieldAddr 85 (.tmp 63) 1,some (some 57,true)⟩,⟨some 65,.load 3 (.tmp 64),some (some 57,true)⟩,⟨some 66,.index 9 (.tmp 61) (.tmp 65),some (some 57,true)⟩,⟨some 67,.binOp .geq 5 (.tmp 66) (.const (.int .u8 97)) 5,some (some 57,true)⟩,⟨some 68,.pick (.tmp 57) (.tmp 67) (.const (.bool false)),none⟩,⟨some 69,.move (.tmp 68),none⟩,⟨some 70,.move (.tmp 0),some (some 69,true)⟩,⟨some 71,.nilCheck (.tmp 70),some (some 69,true)⟩,⟨some 72,.fieldAddr 85 (.tmp 71) 0,some (some 69,true)⟩,⟨some 73,.load 9 (.tmp 72),some (some 69,true)⟩,⟨some 74,.move (.tmp 0),some (some 69,true)⟩,⟨some 75,.nilCheck (.tmp 74),some (some 69,true)⟩,⟨some 76,.fieldAddr 85 (.tmp 75) 1,some (some 69,true)⟩,⟨some 77,.load 3 (.tmp 76),some (some 69,true)⟩,⟨some 78,.index 9 (.tmp 73) (.tmp 77),some (some 69,true)⟩,⟨some 79,.binOp .leq 5 (.tmp 78) (.const (.int .u8 122)) 5,some (some 69,true)⟩,⟨some 80,.pick (.tmp 69) (.tmp 79) (.const (.bool false)),none⟩]) (.cond (.tmp 80) .skip (.exit 1))) (.block 2 (.reg [⟨some 81,.move (.tmp 0),none⟩,⟨some 82,.nilCheck (.tmp 81),none⟩,⟨some 83,.fieldAddr 85 (.tmp 82) 1,none⟩,⟨some 84,.load 3 (.tmp 83),none⟩,⟨some 85,.binOp .add 3 (.tmp 84) (.const (.int .i64 1)) 3,none⟩,⟨some 86,.nilCheck (.tmp 81),none⟩,⟨some 87,.fieldAddr 85 (.tmp 86) 1,none⟩,⟨none,.store 3 (.tmp 87) (.tmp 85),none⟩]))
def x128 : XC := .seq (.reg [⟨some 2,.alloc 24,none⟩]) (.seq (.block 0 (.seq (.reg [⟨some 7,.move (.tmp 0),none⟩,⟨some 8,.call ⟨.value (.func 81),#[.tmp 7,.const (.string ⟨#[126]⟩)],#[83,9]⟩,none⟩,⟨some 6,.assign (.tmp 8),none⟩]) (.cond (.tmp 6) (.seq (.reg [⟨some 9,.move (.tmp 0),none⟩,⟨some 10,.call ⟨.value (.func 128),#[.tmp 9],#[83]⟩,none⟩,⟨some 11,.call ⟨.value (.func 146),#[.const (.int .i64 4),.tmp 10],#[3,24]⟩,none⟩,⟨none,.store 24 (.tmp 2) (.tmp 11),none⟩]) .ret) (.seq (.reg [⟨some 13,.move (.tmp 0),none⟩,⟨some 14,.call ⟨.value (.func 81),#[.tmp 13,.const (.string ⟨#[91,93]⟩)],#[83,9]⟩,none⟩,⟨some 12,.assign (.tmp 14),none⟩]) (.cond (.tmp 12) (.seq (.reg [⟨some 15,.move (.tmp 0),none⟩,⟨some 16,.call ⟨.value (.func 128),#[.tmp 15],#[83]⟩,none⟩,⟨some 17,.call ⟨.value (.func 146),#[.const (.int .i64 8),.tmp 16],#[3,24]⟩,none⟩,⟨none,.store 24 (.tmp 2) (.tmp 17),none⟩]) .ret) (.seq (.reg [⟨some 19,.move (.tmp 0),none⟩,⟨some 20,.call ⟨.value (.func 81),#[.tmp 19,.const (.string ⟨#[60,62]⟩)],#[83,9]⟩,none⟩,⟨some 18,.assign (.tmp 20),none⟩]) (.cond (.tmp 18) (.seq (.reg [⟨some 21,.move (.tmp 0),none⟩,⟨some 22,.call ⟨.value (.func 128),#[.tmp 21],#[83]⟩,none⟩,⟨some 23,.call ⟨.value (.func 146),#[.const (.int .i64 9),.tmp 22],#[3,24]⟩,none⟩,⟨none,.store 24 (.tmp 2) (.tmp 23),none⟩]) .ret) (.seq (.reg [⟨some 25,.move (.tmp 0),none⟩,⟨some 26,.call ⟨.value (.func 81),#[.tmp 25,.const (.string ⟨#[40]⟩)],#[83,9]⟩,none⟩,⟨some 24,.assign (.tmp 26),none⟩]) (.cond (.tmp 24) (.seq (.reg [⟨some 27,.move (.tmp 0),none⟩,⟨some 28,.call ⟨.value (.func 56),#[.tmp 27],#[83]⟩,none⟩,⟨some 3,.alloc 24,none⟩,⟨none,.store 24 (.tmp 3) (.tmp 28),none⟩]) (.seq (.seq (.reg [⟨some 29,.move (.tmp 0),none⟩,⟨some 30,.call ⟨.value (.func 81),#[.tmp 29,.const (.string ⟨#[41]⟩)],#[83,9]⟩,none⟩,⟨some 31,.unOp .not 4 (.tmp 30),none⟩]) (.cond (.tmp 31) (.reg [⟨some 32,.move (.tmp 0),none⟩,⟨some 33,.call ⟨.value (.func 58),#[.tmp 32],#[83]⟩,none⟩]) .skip)) (.seq (.reg [⟨some 34,.load 24 (.tmp 3),none⟩,⟨none,.store 24 (.tmp 2) (.tmp 34),none⟩]) .ret))) (.seq (.reg [⟨some 36,.move (.tmp 0),none⟩,⟨some 37,.call ⟨.value (.func 81),#[.tmp 36,.const (.string ⟨#[49]⟩)],#[83,9]⟩,none⟩,⟨some 35,.assign (.tmp 37),none⟩]) (.cond (.tmp 35) (.seq (.reg [⟨some 38,.build 24 #[(0,.const (.int .i64 2))],none⟩,⟨none,.store 24 (.tmp 2) (.tmp 38),none⟩]) .ret) (.seq (.reg [⟨some 40,.move (.tmp 0),none⟩,⟨some 41,.call ⟨.value (.func 81),#[.tmp 40,.const (.string ⟨#[48]⟩)],#[83,9]⟩,none⟩,⟨some 39,.assign (.tmp 41),none⟩]) (.cond (.tmp 39) (.seq (.reg [⟨some 42,.build 24 #[(0,.const (.int .i64 3))],none⟩,⟨none,.store 24 (.tmp 2) (.tmp 42),none⟩]) .ret) .skip))))))))))))) (.seq (.reg [⟨some 43,.move (.tmp 0),none⟩,⟨some 44,.nilCheck (.tmp 43),none⟩,⟨some 45,.fieldAddr 85 (.tmp 44) 1,none⟩,⟨some 46,.load 3 (.tmp 45),none⟩,⟨some 4,.assign (.tmp 46),none⟩]) (.seq (.bloop 1 x128_L1) (x128_T1))))
@[simp] theorem x128_s {C e s K} : type_of% (@X_at C e s K _ _ x128_T1.eq_1) ∧ type_of% (@X_at C e s K _ _ x128_L1.eq_1) ∧ type_of% (@X_at C e s K _ _ x128.eq_1) := ⟨X_at x128_T1.eq_1, X_at x128_L1.eq_1, X_at x128.eq_1⟩
def an128 : Ann := ⟨[(17, .mix 31)], [(1, [], [0, 2, 4], [0, 2, 4])], []⟩
@[simp] theorem an128_a : an128.clsOf 17 = .mix 31 ∧ an128.clsOf 19 = .draw ∧ an128.frzOf 17 = [] ∧ an128.frzOf 19 = [] ∧ an128.loopOf 1 = ([], [0, 2, 4], [0, 2, 4]) := ⟨rfl, rfl, rfl, rfl, rfl⟩
theorem fi128 : FI Try.prog 128 (cxA an128) x128 [.cell 2 24] Try.f128 := fiA Try.func128 mixed
theorem not_reader (t : ByteArray) (i : Nat) (hs : t.size ≤ 1000000) (hi : i ≤ t.size) (pn pt : Nat → Res) (hn : ∀ j, i < j → j ≤ t.size → Told 128 t j (pn j)) (ht : ∀ j, i < j → j ≤ t.size → Told 56 t j (pt j)) : Told 128 t i (notP t pn pt i) := by
 refine told_of fi128 ?_ (notP_le hi (fun k h1 h2 f j e => by have := hn k h1 h2; rw [e] at this; exact this.2) fun k h1 h2 f j e => by have := ht k h1 h2; rw [e] at this; exact this.2)
 have hb := bl_ge t i
 have hb2 := bl_le hi
 have hbb := bl_bl t i
 have hmay := fun w hw => may_reader t i w hs hi hw
 unfold mayN at hmay
 unfold notP
 cases h1 : hp t (bl t i) ⟨#[126]⟩ with
 | true =>
  have hlt : bl t i + 1 ≤ t.size := hp_le h1
  have m1 := hmay ⟨#[126]⟩ (by decide)
  simp only [h1, Bool.false_eq_true, if_false, if_true] at m1 ⊢
  change CallOK _ _ _ _ _ [rd t (bl t i + 1)] at m1
  have e1 := hn (bl t i + 1) (by omega) hlt
  generalize bl t i + 1 = k1 at *
  generalize bl t i = k0 at *
  cases hp1 : pn k1 with
  | error q =>
   rw [hp1] at e1
   simp only [Told] at e1
   simp only [una]
   ((refine Sg.h ?_); try repeat' ((first | (with_reducible first | refine brA ?_ | refine brE fun _ => ?_ | (refine spl ⟨?_, ?_⟩ <;> intro _))) <;> ((try simp -implicitDefEqProofs); (try simp -implicitDefEqProofs (disch := first | assumption | (try simp only [lens]); omega -splitDisjunctions)))))
   refine CL.sub [0] m1 ?_
   ((refine Sg.h ?_); try repeat' ((first | (with_reducible first | refine brA ?_ | refine brE fun _ => ?_ | (refine spl ⟨?_, ?_⟩ <;> intro _))) <;> ((try simp -implicitDefEqProofs); (try simp -implicitDefEqProofs (disch := first | assumption | (try simp only [lens]); omega -splitDisjunctions)))))
   refine CL.psub [0] e1 ?_
   ((refine Sg.h ?_); try repeat' ((first | (with_reducible first | refine brA ?_ | refine brE fun _ => ?_ | (refine spl ⟨?_, ?_⟩ <;> intro _))) <;> ((try simp -implicitDefEqProofs); (try simp -implicitDefEqProofs (disch := first | assumption | (try simp only [lens]); omega -splitDisjunctions)))))
  | ok r =>
   obtain ⟨g, j1⟩ := r
   rw [hp1] at e1
   obtain ⟨e1, e2, e3⟩ := e1
   simp only [una]
   have e4 := one_formula 4 g
   ((refine Sg.h ?_); try repeat' ((first | (with_reducible first | refine brA ?_ | refine brE fun _ => ?_ | (refine spl ⟨?_, ?_⟩ <;> intro _))) <;> ((try simp -implicitDefEqProofs); (try simp -implicitDefEqProofs (disch := first | assumption | (try simp only [lens]); omega -splitDisjunctions)))))
   refine CL.sub [0] m1 ?_
   ((refine Sg.h ?_); try repeat' ((first | (with_reducible first | refine brA ?_ | refine brE fun _ => ?_ | (refine spl ⟨?_, ?_⟩ <;> intro _))) <;> ((try simp -implicitDefEqProofs); (try simp -implicitDefEqProofs (disch := first | assumption | (try simp only [lens]); omega -splitDisjunctions)))))
   refine CL.sub [0] e1 ?_
   ((refine Sg.h ?_); try repeat' ((first | (with_reducible first | refine brA ?_ | refine brE fun _ => ?_ | (refine spl ⟨?_, ?_⟩ <;> intro _)) | refine clo e4 ?_) <;> ((try simp -implicitDefEqProofs); (try simp -implicitDefEqProofs (disch := first | assumption | (try simp only [lens]); omega -splitDisjunctions)))))
 | false =>
  cases h2 : hp t (bl t i) ⟨#[91, 93]⟩ with
  | true =>
   have hlt : bl t i + 2 ≤ t.size := hp_le h2
   have m1 := hmay ⟨#[126]⟩ (by decide)
   have m2 := may_at t (bl t i) ⟨#[91, 93]⟩ hs hb2 hbb (by decide) true h2
   simp only [h1, h2, Bool.false_eq_true, if_false, if_true] at m1 m2 ⊢
   change CallOK _ _ _ _ _ [rd t (bl t i + 2)] at m2
   have e1 := hn (bl t i + 2) (by omega) hlt
   generalize bl t i + 2 = k1 at *
   generalize bl t i = k0 at *
   cases hp1 : pn k1 with
   | error q =>
    rw [hp1] at e1
    simp only [Told] at e1
    simp only [una]
    ((refine Sg.h ?_); try repeat' ((first | (with_reducible first | refine brA ?_ | refine brE fun _ => ?_ | (refine spl ⟨?_, ?_⟩ <;> intro _))) <;> ((try simp -implicitDefEqProofs); (try simp -implicitDefEqProofs (disch := first | assumption | (try simp only [lens]); omega -splitDisjunctions)))))
    refine CL.sub [0] m1 ?_
    ((refine Sg.h ?_); try repeat' ((first | (with_reducible first | refine brA ?_ | refine brE fun _ => ?_ | (refine spl ⟨?_, ?_⟩ <;> intro _))) <;> ((try simp -implicitDefEqProofs); (try simp -implicitDefEqProofs (disch := first | assumption | (try simp only [lens]); omega -splitDisjunctions)))))
    refine CL.sub [0] m2 ?_
    ((refine Sg.h ?_); try repeat' ((first | (with_reducible first | refine brA ?_ | refine brE fun _ => ?_ | (refine spl ⟨?_, ?_⟩ <;> intro _))) <;> ((try simp -implicitDefEqProofs); (try simp -implicitDefEqProofs (disch := first | assumption | (try simp only [lens]); omega -splitDisjunctions)))))
    refine CL.psub [0] e1 ?_
    ((refine Sg.h ?_); try repeat' ((first | (with_reducible first | refine brA ?_ | refine brE fun _ => ?_ | (refine spl ⟨?_, ?_⟩ <;> intro _))) <;> ((try simp -implicitDefEqProofs); (try simp -implicitDefEqProofs (disch := first | assumption | (try simp only [lens]); omega -splitDisjunctions)))))
   | ok r =>
    obtain ⟨g, j1⟩ := r
    rw [hp1] at e1
    obtain ⟨e1, e2, e3⟩ := e1
    simp only [una]
    have e4 := one_formula 8 g
    ((refine Sg.h ?_); try repeat' ((first | (with_reducible first | refine brA ?_ | refine brE fun _ => ?_ | (refine spl ⟨?_, ?_⟩ <;> intro _))) <;> ((try simp -implicitDefEqProofs); (try simp -implicitDefEqProofs (disch := first | assumption | (try simp only [lens]); omega -splitDisjunctions)))))
    refine CL.sub [0] m1 ?_
    ((refine Sg.h ?_); try repeat' ((first | (with_reducible first | refine brA ?_ | refine brE fun _ => ?_ | (refine spl ⟨?_, ?_⟩ <;> intro _))) <;> ((try simp -implicitDefEqProofs); (try simp -implicitDefEqProofs (disch := first | assumption | (try simp only [lens]); omega -splitDisjunctions)))))
    refine CL.sub [0] m2 ?_
    ((refine Sg.h ?_); try repeat' ((first | (with_reducible first | refine brA ?_ | refine brE fun _ => ?_ | (refine spl ⟨?_, ?_⟩ <;> intro _))) <;> ((try simp -implicitDefEqProofs); (try simp -implicitDefEqProofs (disch := first | assumption | (try simp only [lens]); omega -splitDisjunctions)))))
    refine CL.sub [0] e1 ?_
    ((refine Sg.h ?_); try repeat' ((first | (with_reducible first | refine brA ?_ | refine brE fun _ => ?_ | (refine spl ⟨?_, ?_⟩ <;> intro _)) | refine clo e4 ?_) <;> ((try simp -implicitDefEqProofs); (try simp -implicitDefEqProofs (disch := first | assumption | (try simp only [lens]); omega -splitDisjunctions)))))
  | false =>
   cases h3 : hp t (bl t i) ⟨#[60, 62]⟩ with
   | true =>
    have hlt : bl t i + 2 ≤ t.size := hp_le h3
    have m1 := hmay ⟨#[126]⟩ (by decide)
    have m2 := may_at t (bl t i) ⟨#[91, 93]⟩ hs hb2 hbb (by decide) false h2
    have m3 := may_at t (bl t i) ⟨#[60, 62]⟩ hs hb2 hbb (by decide) true h3
    simp only [h1, h2, h3, Bool.false_eq_true, if_false, if_true] at m1 m2 m3 ⊢
    change CallOK _ _ _ _ _ [rd t (bl t i + 2)] at m3
    have e1 := hn (bl t i + 2) (by omega) hlt
    generalize bl t i + 2 = k1 at *
    generalize bl t i = k0 at *
    cases hp1 : pn k1 with
    | error q =>
     rw [hp1] at e1
     simp only [Told] at e1
     simp only [una]
     ((refine Sg.h ?_); try repeat' ((first | (with_reducible first | refine brA ?_ | refine brE fun _ => ?_ | (refine spl ⟨?_, ?_⟩ <;> intro _))) <;> ((try simp -implicitDefEqProofs); (try simp -implicitDefEqProofs (disch := first | assumption | (try simp only [lens]); omega -splitDisjunctions)))))
     refine CL.sub [0] m1 ?_
     ((refine Sg.h ?_); try repeat' ((first | (with_reducible first | refine brA ?_ | refine brE fun _ => ?_ | (refine spl ⟨?_, ?_⟩ <;> intro _))) <;> ((try simp -implicitDefEqProofs); (try simp -implicitDefEqProofs (disch := first | assumption | (try simp only [lens]); omega -splitDisjunctions)))))
     refine CL.sub [0] m2 ?_
     ((refine Sg.h ?_); try repeat' ((first | (with_reducible first | refine brA ?_ | refine brE fun _ => ?_ | (refine spl ⟨?_, ?_⟩ <;> intro _))) <;> ((try simp -implicitDefEqProofs); (try simp -implicitDefEqProofs (disch := first | assumption | (try simp only [lens]); omega -splitDisjunctions)))))
     refine CL.sub [0] m3 ?_
     ((refine Sg.h ?_); try repeat' ((first | (with_reducible first | refine brA ?_ | refine brE fun _ => ?_ | (refine spl ⟨?_, ?_⟩ <;> intro _))) <;> ((try simp -implicitDefEqProofs); (try simp -implicitDefEqProofs (disch := first | assumption | (try simp only [lens]); omega -splitDisjunctions)))))
     refine CL.psub [0] e1 ?_
     ((refine Sg.h ?_); try repeat' ((first | (with_reducible first | refine brA ?_ | refine brE fun _ => ?_ | (refine spl ⟨?_, ?_⟩ <;> intro _))) <;> ((try simp -implicitDefEqProofs); (try simp -implicitDefEqProofs (disch := first | assumption | (try simp only [lens]); omega -splitDisjunctions)))))
    | ok r =>
     obtain ⟨g, j1⟩ := r
     rw [hp1] at e1
     obtain ⟨e1, e2, e3⟩ := e1
     simp only [una]
     have e4 := one_formula 9 g
     ((refine Sg.h ?_); try repeat' ((first | (with_reducible first | refine brA ?_ | refine brE fun _ => ?_ | (refine spl ⟨?_, ?_⟩ <;> intro _))) <;> ((try simp -implicitDefEqProofs); (try simp -implicitDefEqProofs (disch := first | assumption | (try simp only [lens]); omega -splitDisjunctions)))))
     refine CL.sub [0] m1 ?_
     ((refine Sg.h ?_); try repeat' ((first | (with_reducible first | refine brA ?_ | refine brE fun _ => ?_ | (refine spl ⟨?_, ?_⟩ <;> intro _))) <;> ((try simp -implicitDefEqProofs); (try simp -implicitDefEqProofs (disch := first | assumption | (try simp only [lens]); omega -splitDisjunctions)))))
     refine CL.sub [0] m2 ?_
     ((refine Sg.h ?_); try repeat' ((first | (with_reducible first | refine brA ?_ | refine brE fun _ => ?_ | (refine spl ⟨?_, ?_⟩ <;> intro _))) <;> ((try simp -implicitDefEqProofs); (try simp -implicitDefEqProofs (disch := first | assumption | (try simp only [lens]); omega -splitDisjunctions)))))
     refine CL.sub [0] m3 ?_
     ((refine Sg.h ?_); try repeat' ((first | (with_reducible first | refine brA ?_ | refine brE fun _ => ?_ | (refine spl ⟨?_, ?_⟩ <;> intro _))) <;> ((try simp -implicitDefEqProofs); (try simp -implicitDefEqProofs (disch := first | assumption | (try simp only [lens]); omega -splitDisjunctions)))))
     refine CL.sub [0] e1 ?_
     ((refine Sg.h ?_); try repeat' ((first | (with_reducible first | refine brA ?_ | refine brE fun _ => ?_ | (refine spl ⟨?_, ?_⟩ <;> intro _)) | refine clo e4 ?_) <;> ((try simp -implicitDefEqProofs); (try simp -implicitDefEqProofs (disch := first | assumption | (try simp only [lens]); omega -splitDisjunctions)))))
   | false =>
    cases h4 : hp t (bl t i) ⟨#[40]⟩ with
    | true =>
     have hlt : bl t i + 1 ≤ t.size := hp_le h4
     have m1 := hmay ⟨#[126]⟩ (by decide)
     have m2 := may_at t (bl t i) ⟨#[91, 93]⟩ hs hb2 hbb (by decide) false h2
     have m3 := may_at t (bl t i) ⟨#[60, 62]⟩ hs hb2 hbb (by decide) false h3
     have m4 := may_at t (bl t i) ⟨#[40]⟩ hs hb2 hbb (by decide) true h4
     simp only [h1, h2, h3, h4, Bool.false_eq_true, if_false, if_true] at m1 m2 m3 m4 ⊢
     change CallOK _ _ _ _ _ [rd t (bl t i + 1)] at m4
     have e1 := ht (bl t i + 1) (by omega) hlt
     generalize bl t i + 1 = k1 at *
     generalize bl t i = k0 at *
     cases hp1 : pt k1 with
     | error q =>
      rw [hp1] at e1
      simp only [Told] at e1
      simp only [parP]
      ((refine Sg.h ?_); try repeat' ((first | (with_reducible first | refine brA ?_ | refine brE fun _ => ?_ | (refine spl ⟨?_, ?_⟩ <;> intro _))) <;> ((try simp -implicitDefEqProofs); (try simp -implicitDefEqProofs (disch := first | assumption | (try simp only [lens]); omega -splitDisjunctions)))))
      refine CL.sub [0] m1 ?_
      ((refine Sg.h ?_); try repeat' ((first | (with_reducible first | refine brA ?_ | refine brE fun _ => ?_ | (refine spl ⟨?_, ?_⟩ <;> intro _))) <;> ((try simp -implicitDefEqProofs); (try simp -implicitDefEqProofs (disch := first | assumption | (try simp only [lens]); omega -splitDisjunctions)))))
      refine CL.sub [0] m2 ?_
      ((refine Sg.h ?_); try repeat' ((first | (with_reducible first | refine brA ?_ | refine brE fun _ => ?_ | (refine spl ⟨?_, ?_⟩ <;> intro _))) <;> ((try simp -implicitDefEqProofs); (try simp -implicitDefEqProofs (disch := first | assumption | (try simp only [lens]); omega -splitDisjunctions)))))
      refine CL.sub [0] m3 ?_
      ((refine Sg.h ?_); try repeat' ((first | (with_reducible first | refine brA ?_ | refine brE fun _ => ?_ | (refine spl ⟨?_, ?_⟩ <;> intro _))) <;> ((try simp -implicitDefEqProofs); (try simp -implicitDefEqProofs (disch := first | assumption | (try simp only [lens]); omega -splitDisjunctions)))))
      refine CL.sub [0] m4 ?_
      ((refine Sg.h ?_); try repeat' ((first | (with_reducible first | refine brA ?_ | refine brE fun _ => ?_ | (refine spl ⟨?_, ?_⟩ <;> intro _))) <;> ((try simp -implicitDefEqProofs); (try simp -implicitDefEqProofs (disch := first | assumption | (try simp only [lens]); omega -splitDisjunctions)))))
      refine CL.psub [0] e1 ?_
      ((refine Sg.h ?_); try repeat' ((first | (with_reducible first | refine brA ?_ | refine brE fun _ => ?_ | (refine spl ⟨?_, ?_⟩ <;> intro _))) <;> ((try simp -implicitDefEqProofs); (try simp -implicitDefEqProofs (disch := first | assumption | (try simp only [lens]); omega -splitDisjunctions)))))
     | ok r =>
      obtain ⟨g, j1⟩ := r
      rw [hp1] at e1
      obtain ⟨e1, e2, e3⟩ := e1
      simp only [parP]
      have e5 := may_reader t j1 ⟨#[41]⟩ hs e3 (by decide)
      unfold mayN at e5
      cases h7 : hp t (bl t j1) ⟨#[41]⟩ with
      | false =>
       simp only [h7, Bool.false_eq_true, if_false] at e5 ⊢
       have e6 := fail_reader t (bl t j1)
       generalize bl t j1 = k3 at *
       ((refine Sg.h ?_); try repeat' ((first | (with_reducible first | refine brA ?_ | refine brE fun _ => ?_ | (refine spl ⟨?_, ?_⟩ <;> intro _))) <;> ((try simp -implicitDefEqProofs); (try simp -implicitDefEqProofs (disch := first | assumption | (try simp only [lens]); omega -splitDisjunctions)))))
       refine CL.sub [0] m1 ?_
       ((refine Sg.h ?_); try repeat' ((first | (with_reducible first | refine brA ?_ | refine brE fun _ => ?_ | (refine spl ⟨?_, ?_⟩ <;> intro _))) <;> ((try simp -implicitDefEqProofs); (try simp -implicitDefEqProofs (disch := first | assumption | (try simp only [lens]); omega -splitDisjunctions)))))
       refine CL.sub [0] m2 ?_
       ((refine Sg.h ?_); try repeat' ((first | (with_reducible first | refine brA ?_ | refine brE fun _ => ?_ | (refine spl ⟨?_, ?_⟩ <;> intro _))) <;> ((try simp -implicitDefEqProofs); (try simp -implicitDefEqProofs (disch := first | assumption | (try simp only [lens]); omega -splitDisjunctions)))))
       refine CL.sub [0] m3 ?_
       ((refine Sg.h ?_); try repeat' ((first | (with_reducible first | refine brA ?_ | refine brE fun _ => ?_ | (refine spl ⟨?_, ?_⟩ <;> intro _))) <;> ((try simp -implicitDefEqProofs); (try simp -implicitDefEqProofs (disch := first | assumption | (try simp only [lens]); omega -splitDisjunctions)))))
       refine CL.sub [0] m4 ?_
       ((refine Sg.h ?_); try repeat' ((first | (with_reducible first | refine brA ?_ | refine brE fun _ => ?_ | (refine spl ⟨?_, ?_⟩ <;> intro _))) <;> ((try simp -implicitDefEqProofs); (try simp -implicitDefEqProofs (disch := first | assumption | (try simp only [lens]); omega -splitDisjunctions)))))
       refine CL.sub [0] e1 ?_
       ((refine Sg.h ?_); try repeat' ((first | (with_reducible first | refine brA ?_ | refine brE fun _ => ?_ | (refine spl ⟨?_, ?_⟩ <;> intro _))) <;> ((try simp -implicitDefEqProofs); (try simp -implicitDefEqProofs (disch := first | assumption | (try simp only [lens]); omega -splitDisjunctions)))))
       refine CL.sub [0] e5 ?_
       ((refine Sg.h ?_); try repeat' ((first | (with_reducible first | refine brA ?_ | refine brE fun _ => ?_ | (refine spl ⟨?_, ?_⟩ <;> intro _))) <;> ((try simp -implicitDefEqProofs); (try simp -implicitDefEqProofs (disch := first | assumption | (try simp only [lens]); omega -splitDisjunctions)))))
       refine CL.psub [0] e6 ?_
       ((refine Sg.h ?_); try repeat' ((first | (with_reducible first | refine brA ?_ | refine brE fun _ => ?_ | (refine spl ⟨?_, ?_⟩ <;> intro _))) <;> ((try simp -implicitDefEqProofs); (try simp -implicitDefEqProofs (disch := first | assumption | (try simp only [lens]); omega -splitDisjunctions)))))
      | true =>
       simp only [h7, if_true] at e5 ⊢
       change CallOK _ _ _ _ _ [rd t (bl t j1 + 1)] at e5
       generalize bl t j1 + 1 = k3 at *
       ((refine Sg.h ?_); try repeat' ((first | (with_reducible first | refine brA ?_ | refine brE fun _ => ?_ | (refine spl ⟨?_, ?_⟩ <;> intro _))) <;> ((try simp -implicitDefEqProofs); (try simp -implicitDefEqProofs (disch := first | assumption | (try simp only [lens]); omega -splitDisjunctions)))))
       refine CL.sub [0] m1 ?_
       ((refine Sg.h ?_); try repeat' ((first | (with_reducible first | refine brA ?_ | refine brE fun _ => ?_ | (refine spl ⟨?_, ?_⟩ <;> intro _))) <;> ((try simp -implicitDefEqProofs); (try simp -implicitDefEqProofs (disch := first | assumption | (try simp only [lens]); omega -splitDisjunctions)))))
       refine CL.sub [0] m2 ?_
       ((refine Sg.h ?_); try repeat' ((first | (with_reducible first | refine brA ?_ | refine brE fun _ => ?_ | (refine spl ⟨?_, ?_⟩ <;> intro _))) <;> ((try simp -implicitDefEqProofs); (try simp -implicitDefEqProofs (disch := first | assumption | (try simp only [lens]); omega -splitDisjunctions)))))
       refine CL.sub [0] m3 ?_
       ((refine Sg.h ?_); try repeat' ((first | (with_reducible first | refine brA ?_ | refine brE fun _ => ?_ | (refine spl ⟨?_, ?_⟩ <;> intro _))) <;> ((try simp -implicitDefEqProofs); (try simp -implicitDefEqProofs (disch := first | assumption | (try simp only [lens]); omega -splitDisjunctions)))))
       refine CL.sub [0] m4 ?_
       ((refine Sg.h ?_); try repeat' ((first | (with_reducible first | refine brA ?_ | refine brE fun _ => ?_ | (refine spl ⟨?_, ?_⟩ <;> intro _))) <;> ((try simp -implicitDefEqProofs); (try simp -implicitDefEqProofs (disch := first | assumption | (try simp only [lens]); omega -splitDisjunctions)))))
       refine CL.sub [0] e1 ?_
       ((refine Sg.h ?_); try repeat' ((first | (with_reducible first | refine brA ?_ | refine brE fun _ => ?_ | (refine spl ⟨?_, ?_⟩ <;> intro _))) <;> ((try simp -implicitDefEqProofs); (try simp -implicitDefEqProofs (disch := first | assumption | (try simp only [lens]); omega -splitDisjunctions)))))
       refine CL.sub [0] e5 ?_
       ((refine Sg.h ?_); try repeat' ((first | (with_reducible first | refine brA ?_ | refine brE fun _ => ?_ | (refine spl ⟨?_, ?_⟩ <;> intro _))) <;> ((try simp -implicitDefEqProofs); (try simp -implicitDefEqProofs (disch := first | assumption | (try simp only [lens]); omega -splitDisjunctions)))))
    | false =>
     cases h5 : hp t (bl t i) ⟨#[49]⟩ with
     | true =>
      have hlt : bl t i + 1 ≤ t.size := hp_le h5
      have m1 := hmay ⟨#[126]⟩ (by decide)
      have m2 := may_at t (bl t i) ⟨#[91, 93]⟩ hs hb2 hbb (by decide) false h2
      have m3 := may_at t (bl t i) ⟨#[60, 62]⟩ hs hb2 hbb (by decide) false h3
      have m4 := may_at t (bl t i) ⟨#[40]⟩ hs hb2 hbb (by decide) false h4
      have m5 := may_at t (bl t i) ⟨#[49]⟩ hs hb2 hbb (by decide) true h5
      simp only [h1, h2, h3, h4, h5, Bool.false_eq_true, if_false, if_true] at m1 m2 m3 m4 m5 ⊢
      change CallOK _ _ _ _ _ [rd t (bl t i + 1)] at m5
      generalize bl t i + 1 = k1 at *
      generalize bl t i = k0 at *
      ((refine Sg.h ?_); try repeat' ((first | (with_reducible first | refine brA ?_ | refine brE fun _ => ?_ | (refine spl ⟨?_, ?_⟩ <;> intro _))) <;> ((try simp -implicitDefEqProofs); (try simp -implicitDefEqProofs (disch := first | assumption | (try simp only [lens]); omega -splitDisjunctions)))))
      refine CL.sub [0] m1 ?_
      ((refine Sg.h ?_); try repeat' ((first | (with_reducible first | refine brA ?_ | refine brE fun _ => ?_ | (refine spl ⟨?_, ?_⟩ <;> intro _))) <;> ((try simp -implicitDefEqProofs); (try simp -implicitDefEqProofs (disch := first | assumption | (try simp only [lens]); omega -splitDisjunctions)))))
      refine CL.sub [0] m2 ?_
      ((refine Sg.h ?_); try repeat' ((first | (with_reducible first | refine brA ?_ | refine brE fun _ => ?_ | (refine spl ⟨?_, ?_⟩ <;> intro _))) <;> ((try simp -implicitDefEqProofs); (try simp -implicitDefEqProofs (disch := first | assumption | (try simp only [lens]); omega -splitDisjunctions)))))
      refine CL.sub [0] m3 ?_
      ((refine Sg.h ?_); try repeat' ((first | (with_reducible first | refine brA ?_ | refine brE fun _ => ?_ | (refine spl ⟨?_, ?_⟩ <;> intro _))) <;> ((try simp -implicitDefEqProofs); (try simp -implicitDefEqProofs (disch := first | assumption | (try simp only [lens]); omega -splitDisjunctions)))))
      refine CL.sub [0] m4 ?_
      ((refine Sg.h ?_); try repeat' ((first | (with_reducible first | refine brA ?_ | refine brE fun _ => ?_ | (refine spl ⟨?_, ?_⟩ <;> intro _))) <;> ((try simp -implicitDefEqProofs); (try simp -implicitDefEqProofs (disch := first | assumption | (try simp only [lens]); omega -splitDisjunctions)))))
      refine CL.sub [0] m5 ?_
      ((refine Sg.h ?_); try repeat' ((first | (with_reducible first | refine brA ?_ | refine brE fun _ => ?_ | (refine spl ⟨?_, ?_⟩ <;> intro _))) <;> ((try simp -implicitDefEqProofs); (try simp -implicitDefEqProofs (disch := first | assumption | (try simp only [lens]); omega -splitDisjunctions)))))
      all_goals first | rfl | skip
     | false =>
      cases h6 : hp t (bl t i) ⟨#[48]⟩ with
      | true =>
       have hlt : bl t i + 1 ≤ t.size := hp_le h6
       have m1 := hmay ⟨#[126]⟩ (by decide)
       have m2 := may_at t (bl t i) ⟨#[91, 93]⟩ hs hb2 hbb (by decide) false h2
       have m3 := may_at t (bl t i) ⟨#[60, 62]⟩ hs hb2 hbb (by decide) false h3
       have m4 := may_at t (bl t i) ⟨#[40]⟩ hs hb2 hbb (by decide) false h4
       have m5 := may_at t (bl t i) ⟨#[49]⟩ hs hb2 hbb (by decide) false h5
       have m6 := may_at t (bl t i) ⟨#[48]⟩ hs hb2 hbb (by decide) true h6
       simp only [h1, h2, h3, h4, h5, h6, Bool.false_eq_true, if_false, if_true] at m1 m2 m3 m4 m5 m6 ⊢
       change CallOK _ _ _ _ _ [rd t (bl t i + 1)] at m6
       generalize bl t i + 1 = k1 at *
       generalize bl t i = k0 at *
       ((refine Sg.h ?_); try repeat' ((first | (with_reducible first | refine brA ?_ | refine brE fun _ => ?_ | (refine spl ⟨?_, ?_⟩ <;> intro _))) <;> ((try simp -implicitDefEqProofs); (try simp -implicitDefEqProofs (disch := first | assumption | (try simp only [lens]); omega -splitDisjunctions)))))
       refine CL.sub [0] m1 ?_
       ((refine Sg.h ?_); try repeat' ((first | (with_reducible first | refine brA ?_ | refine brE fun _ => ?_ | (refine spl ⟨?_, ?_⟩ <;> intro _))) <;> ((try simp -implicitDefEqProofs); (try simp -implicitDefEqProofs (disch := first | assumption | (try simp only [lens]); omega -splitDisjunctions)))))
       refine CL.sub [0] m2 ?_
       ((refine Sg.h ?_); try repeat' ((first | (with_reducible first | refine brA ?_ | refine brE fun _ => ?_ | (refine spl ⟨?_, ?_⟩ <;> intro _))) <;> ((try simp -implicitDefEqProofs); (try simp -implicitDefEqProofs (disch := first | assumption | (try simp only [lens]); omega -splitDisjunctions)))))
       refine CL.sub [0] m3 ?_
       ((refine Sg.h ?_); try repeat' ((first | (with_reducible first | refine brA ?_ | refine brE fun _ => ?_ | (refine spl ⟨?_, ?_⟩ <;> intro _))) <;> ((try simp -implicitDefEqProofs); (try simp -implicitDefEqProofs (disch := first | assumption | (try simp only [lens]); omega -splitDisjunctions)))))
       refine CL.sub [0] m4 ?_
       ((refine Sg.h ?_); try repeat' ((first | (with_reducible first | refine brA ?_ | refine brE fun _ => ?_ | (refine spl ⟨?_, ?_⟩ <;> intro _))) <;> ((try simp -implicitDefEqProofs); (try simp -implicitDefEqProofs (disch := first | assumption | (try simp only [lens]); omega -splitDisjunctions)))))
       refine CL.sub [0] m5 ?_
       ((refine Sg.h ?_); try repeat' ((first | (with_reducible first | refine brA ?_ | refine brE fun _ => ?_ | (refine spl ⟨?_, ?_⟩ <;> intro _))) <;> ((try simp -implicitDefEqProofs); (try simp -implicitDefEqProofs (disch := first | assumption | (try simp only [lens]); omega -splitDisjunctions)))))
       refine CL.sub [0] m6 ?_
       ((refine Sg.h ?_); try repeat' ((first | (with_reducible first | refine brA ?_ | refine brE fun _ => ?_ | (refine spl ⟨?_, ?_⟩ <;> intro _))) <;> ((try simp -implicitDefEqProofs); (try simp -implicitDefEqProofs (disch := first | assumption | (try simp only [lens]); omega -splitDisjunctions)))))
       all_goals first | rfl | skip
      | false =>
       have m1 := hmay ⟨#[126]⟩ (by decide)
       have m2 := may_at t (bl t i) ⟨#[91, 93]⟩ hs hb2 hbb (by decide) false h2
       have m3 := may_at t (bl t i) ⟨#[60, 62]⟩ hs hb2 hbb (by decide) false h3
       have m4 := may_at t (bl t i) ⟨#[40]⟩ hs hb2 hbb (by decide) false h4
       have m5 := may_at t (bl t i) ⟨#[49]⟩ hs hb2 hbb (by decide) false h5
       have m6 := may_at t (bl t i) ⟨#[48]⟩ hs hb2 hbb (by decide) false h6
       simp only [h1, h2, h3, h4, h5, h6, Bool.false_eq_true, if_false] at m1 m2 m3 m4 m5 m6 ⊢
       clear hmay h1 h2 h3 h4 h5 h6
       have hl1 := lte_ge t (bl t i)
       have hl2 := lte_le hb2
       have e1 := isName_formula (t.extract (bl t i) (lte t (bl t i))) []
       have e2 := fail_reader t (bl t i)
       obtain ⟨R, hR⟩ : ∃ R, (if isNameB (t.extract (bl t i) (lte t (bl t i))) = true then Except.ok (.mk 1 (t.extract (bl t i) (lte t (bl t i))) [], lte t (bl t i)) else .error (bl t i) : Res) = R := ⟨_, rfl⟩
       rw [hR]
       generalize bl t i = k0 at *
       ((refine Sg.h ?_); try repeat' ((first | (with_reducible first | refine brA ?_ | refine brE fun _ => ?_ | (refine spl ⟨?_, ?_⟩ <;> intro _))) <;> ((try simp -implicitDefEqProofs); (try simp -implicitDefEqProofs (disch := first | assumption | (try simp only [lens]); omega -splitDisjunctions)))))
       refine CL.sub [0] m1 ?_
       ((refine Sg.h ?_); try repeat' ((first | (with_reducible first | refine brA ?_ | refine brE fun _ => ?_ | (refine spl ⟨?_, ?_⟩ <;> intro _))) <;> ((try simp -implicitDefEqProofs); (try simp -implicitDefEqProofs (disch := first | assumption | (try simp only [lens]); omega -splitDisjunctions)))))
       refine CL.sub [0] m2 ?_
       ((refine Sg.h ?_); try repeat' ((first | (with_reducible first | refine brA ?_ | refine brE fun _ => ?_ | (refine spl ⟨?_, ?_⟩ <;> intro _))) <;> ((try simp -implicitDefEqProofs); (try simp -implicitDefEqProofs (disch := first | assumption | (try simp only [lens]); omega -splitDisjunctions)))))
       refine CL.sub [0] m3 ?_
       ((refine Sg.h ?_); try repeat' ((first | (with_reducible first | refine brA ?_ | refine brE fun _ => ?_ | (refine spl ⟨?_, ?_⟩ <;> intro _))) <;> ((try simp -implicitDefEqProofs); (try simp -implicitDefEqProofs (disch := first | assumption | (try simp only [lens]); omega -splitDisjunctions)))))
       refine CL.sub [0] m4 ?_
       ((refine Sg.h ?_); try repeat' ((first | (with_reducible first | refine brA ?_ | refine brE fun _ => ?_ | (refine spl ⟨?_, ?_⟩ <;> intro _))) <;> ((try simp -implicitDefEqProofs); (try simp -implicitDefEqProofs (disch := first | assumption | (try simp only [lens]); omega -splitDisjunctions)))))
       refine CL.sub [0] m5 ?_
       ((refine Sg.h ?_); try repeat' ((first | (with_reducible first | refine brA ?_ | refine brE fun _ => ?_ | (refine spl ⟨?_, ?_⟩ <;> intro _))) <;> ((try simp -implicitDefEqProofs); (try simp -implicitDefEqProofs (disch := first | assumption | (try simp only [lens]); omega -splitDisjunctions)))))
       refine CL.sub [0] m6 ?_
       ((refine Sg.h ?_); try repeat' ((first | (with_reducible first | refine brA ?_ | refine brE fun _ => ?_ | (refine spl ⟨?_, ?_⟩ <;> intro _))) <;> ((try simp -implicitDefEqProofs); (try simp -implicitDefEqProofs (disch := first | assumption | (try simp only [lens]); omega -splitDisjunctions)))))
       refine W_of fun Q hQ => ?_
       have main : ∀ r m, t.size - m = r → k0 ≤ m → m ≤ t.size → lte t m = lte t k0 → Q [(0, .ptr 0 0 0), (2, .ptr 1 0 0), (4, .int .i64 (k0 : Int))] [.rows 2 [[.str t, .int .i64 (m : Int)]], .rows 3 [[.int .i64 0, .str ⟨#[]⟩, .nilsl]]] := by
        intro r
        induction r with
        | zero =>
         intro m hm h0 h1 he
         obtain rfl : m = t.size := by omega
         have hend := lte_end (t := t) (i := t.size) (by omega)
         rw [hend] at he
         rw [← he] at hR e1 hl1
         apply hQ
         clear hQ
         cases hN : isNameB (t.extract k0 t.size) with
         | false =>
          simp only [hN, Bool.false_eq_true, if_false] at hR e1
          subst hR
          ((refine Sg.h ?_); try repeat' ((first | (with_reducible first | refine brA ?_ | refine brE fun _ => ?_ | (refine spl ⟨?_, ?_⟩ <;> intro _)) | refine clo e1 ?_) <;> ((try simp -implicitDefEqProofs [hb2]); (try simp -implicitDefEqProofs (disch := first | assumption | (try simp only [lens]); omega -splitDisjunctions) [hb2]))))
          refine CL.psub [0] e2 ?_
          ((refine Sg.h ?_); try repeat' ((first | (with_reducible first | refine brA ?_ | refine brE fun _ => ?_ | (refine spl ⟨?_, ?_⟩ <;> intro _))) <;> ((try simp -implicitDefEqProofs); (try simp -implicitDefEqProofs (disch := first | assumption | (try simp only [lens]); omega -splitDisjunctions)))))
         | true =>
          simp only [hN, if_true] at hR e1
          subst hR
          ((refine Sg.h ?_); try repeat' ((first | (with_reducible first | refine brA ?_ | refine brE fun _ => ?_ | (refine spl ⟨?_, ?_⟩ <;> intro _)) | refine clo e1 ?_) <;> ((try simp -implicitDefEqProofs [hb2]); (try simp -implicitDefEqProofs (disch := first | assumption | (try simp only [lens]); omega -splitDisjunctions) [hb2]))))
          all_goals first | rfl | skip
        | succ r ih =>
         intro m hm h0 h1 he
         have hlt : m < t.size := by omega
         cases hL : letterB t[m] with
         | true =>
          have ih := ih (m + 1) (by omega) (by omega) (by omega) (by rw [← lte_step hlt hL, he])
          have ih' : Q [(0, .ptr 0 0 0), (2, .ptr 1 0 0), (4, .int .i64 (k0 : Int))] [.rows 2 [[.str t, .int .i64 ((m : Int) + 1)]], .rows 3 [[.int .i64 0, .str ⟨#[]⟩, .nilsl]]] := at2 ih rfl (by simp)
          clear ih he
          simp only [letterB, decide_eq_true_eq] at hL
          apply hQ
          clear hQ
          ((refine Sg.h ?_); try repeat' ((first | (with_reducible first | refine brA ?_ | refine brE fun _ => ?_ | (refine spl ⟨?_, ?_⟩ <;> intro _))) <;> ((try simp -implicitDefEqProofs [hlt]); (try simp -implicitDefEqProofs (disch := first | assumption | (try simp only [lens]); omega -splitDisjunctions) [hlt]))))
          all_goals first | exact ih' | omega
         | false =>
          have hst := lte_stop hlt hL
          rw [hst] at he
          rw [← he] at hR e1 hl1
          simp only [letterB, decide_eq_false_iff_not] at hL
          clear ih
          apply hQ
          clear hQ
          cases hN : isNameB (t.extract k0 m) with
          | false =>
           simp only [hN, Bool.false_eq_true, if_false] at hR e1
           subst hR
           ((refine Sg.h ?_); try repeat' ((first | (with_reducible first | refine brA ?_ | refine brE fun _ => ?_ | (refine spl ⟨?_, ?_⟩ <;> intro _)) | refine clo e1 ?_) <;> ((try simp -implicitDefEqProofs [hlt, h0]); (try simp -implicitDefEqProofs (disch := first | assumption | (try simp only [lens]); omega -splitDisjunctions) [hlt, h0]))))
           all_goals (first | omega | (refine CL.psub [0] e2 ?_; ((refine Sg.h ?_); try repeat' ((first | (with_reducible first | refine brA ?_ | refine brE fun _ => ?_ | (refine spl ⟨?_, ?_⟩ <;> intro _))) <;> ((try simp -implicitDefEqProofs); (try simp -implicitDefEqProofs (disch := first | assumption | (try simp only [lens]); omega -splitDisjunctions)))))))
          | true =>
           simp only [hN, if_true] at hR e1
           subst hR
           ((refine Sg.h ?_); try repeat' ((first | (with_reducible first | refine brA ?_ | refine brE fun _ => ?_ | (refine spl ⟨?_, ?_⟩ <;> intro _)) | refine clo e1 ?_) <;> ((try simp -implicitDefEqProofs [hlt, h0]); (try simp -implicitDefEqProofs (disch := first | assumption | (try simp only [lens]); omega -splitDisjunctions) [hlt, h0]))))
           all_goals (first | omega | rfl | skip)
       exact main _ k0 rfl (Nat.le_refl _) hb2 rfl
end Go.Proofs.Ytcllmionhlmjfaa
