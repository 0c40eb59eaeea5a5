import Derived.Test.YtkadceiolddmhaaCQTn
import Derived.Test.YtkadceiolddmhaaCCcD
set_option linter.unusedVariables false
set_option linter.unusedSimpArgs false
set_option maxRecDepth 100000
set_option maxHeartbeats 4000000
namespace Go.Proofs.Ytkadceiolddmhaa
open Go Go.Pv
def x198 : XC := .seq (.reg [⟨some 4,.alloc 33,none⟩]) (.seq (.reg [⟨some 5,.move (.tmp 0),none⟩,⟨some 6,.move (.tmp 1),none⟩,⟨some 7,.build 33 #[(0,.tmp 5),(1,.tmp 6)],none⟩,⟨none,.store 33 (.tmp 4) (.tmp 7),none⟩]) .ret)
@[simp] theorem x198_s {C e s K} : type_of% (@X_at C e s K _ _ x198.eq_1) := X_at x198.eq_1
def an198 : Ann := ⟨[], [], []⟩
theorem fi198 : FI Try.prog 198 (cxA an198) x198 [.cell 4 33] Try.f198 := fiA Try.func198 mixed
theorem fault_truth (a b : Int) : CallOK Try.prog 198 [.int .i64 a, .int .i64 b] [] (.agg [.int .i64 a, .int .i64 b]) [] := by
 refine fi198.op ?_
 ((refine Sg.h ?_); try repeat' ((first | (with_reducible first | refine brA ?_ | refine brE fun _ => ?_ | (refine spl ⟨?_, ?_⟩ <;> intro _))) <;> ((try simp -implicitDefEqProofs); (try simp -implicitDefEqProofs (disch := first | assumption | (try simp only [lens]); omega -splitDisjunctions)))))
def kindBad : List Fm → Nat → Option (Int × Int)
 | [], _ => none
 | x :: r, i => if 7 < x.kind then some (4, (i : Int)) else kindBad r (i + 1)
def plainF (f : Fm) : Int × Int := if (formulaCheck f).1 ≠ 0 then formulaCheck f else (kindBad (nodesGo 200 200 [f]) 0).getD (0, 0)
def plainL : List Fm → Int × Int
 | [] => (0, 0)
 | f :: r => if (plainF f).1 ≠ 0 then plainF f else plainL r
theorem kindBad_drop {l : List Fm} {i : Nat} (h : i < l.length) : kindBad (l.drop i) i = if 7 < l[i].kind then some (4, (i : Int)) else kindBad (l.drop (i + 1)) (i + 1) := by
 rw [List.drop_eq_getElem_cons h, kindBad]
def x169_T2 : XC := .seq (.reg [⟨some 35,.build 33 #[],none⟩,⟨none,.store 33 (.tmp 2) (.tmp 35),none⟩]) .ret
def x169_L2 : XC := .seq (.reg [⟨some 24,.binOp .lss 3 (.tmp 23) (.tmp 22) 3,none⟩]) (.seq (.cond (.tmp 24) .skip (.exit 2)) (.seq (.block 3 (.seq (.reg [⟨some 25,.move (.tmp 23),none⟩,⟨some 26,.indexAddr 57 (.tmp 21) (.tmp 23),none⟩,⟨some 27,.load 59 (.tmp 26),none⟩,⟨some 7,.alloc 59,none⟩,⟨some 6,.assign (.tmp 25),none⟩,⟨none,.store 59 (.tmp 7) (.tmp 27),none⟩]) (.seq (.reg [⟨some 28,.fieldAddr 59 (.tmp 7) 0,none⟩,⟨some 29,.load 3 (.tmp 28),none⟩,⟨some 30,.binOp .gtr 3 (.tmp 29) (.const (.int .i64 7)) 3,none⟩]) (.cond (.tmp 30) (.seq (.reg [⟨some 31,.move (.tmp 6),none⟩,⟨some 32,.call ⟨.value (.func 198),#[.const (.int .i64 4),.tmp 31],#[3,3]⟩,none⟩,⟨none,.store 33 (.tmp 2) (.tmp 32),none⟩]) .ret) .skip)))) (.reg [⟨some 33,.binOp .add 3 (.tmp 23) (.const (.int .i64 1)) 3,none⟩,⟨some 23,.move (.tmp 33),none⟩])))
def x169_L0 : XC := .seq (.reg [⟨some 11,.binOp .lss 3 (.tmp 10) (.tmp 9) 3,none⟩]) (.seq (.cond (.tmp 11) .skip (.exit 0)) (.seq (.block 1 (.seq (.reg [⟨some 12,.indexAddr 57 (.tmp 8) (.tmp 10),none⟩,⟨some 13,.load 59 (.tmp 12),none⟩,⟨some 4,.alloc 59,none⟩,⟨none,.store 59 (.tmp 4) (.tmp 13),none⟩]) (.seq (.seq (.reg [⟨some 14,.load 59 (.tmp 4),none⟩,⟨some 15,.call ⟨.value (.func 197),#[.tmp 14],#[59]⟩,none⟩,⟨some 5,.alloc 33,none⟩,⟨none,.store 33 (.tmp 5) (.tmp 15),none⟩]) (.seq (.reg [⟨some 16,.fieldAddr 33 (.tmp 5) 0,none⟩,⟨some 17,.load 3 (.tmp 16),none⟩,⟨some 18,.binOp .neq 3 (.tmp 17) (.const (.int .i64 0)) 3,none⟩]) (.cond (.tmp 18) (.seq (.reg [⟨some 19,.load 33 (.tmp 5),none⟩,⟨none,.store 33 (.tmp 2) (.tmp 19),none⟩]) .ret) .skip))) (.seq (.reg [⟨some 20,.load 59 (.tmp 4),none⟩,⟨some 21,.call ⟨.value (.func 88),#[.tmp 20,.const (.int .i64 200)],#[59,3]⟩,none⟩,⟨some 22,.call ⟨.builtin .len,#[.tmp 21],#[57]⟩,none⟩,⟨some 23,.move (.const (.int .i64 0)),none⟩]) (.bloop 2 x169_L2))))) (.reg [⟨some 34,.binOp .add 3 (.tmp 10) (.const (.int .i64 1)) 3,none⟩,⟨some 10,.move (.tmp 34),none⟩])))
def x169 : XC := .seq (.reg [⟨some 2,.alloc 33,none⟩]) (.seq (.seq (.reg [⟨some 8,.move (.tmp 0),none⟩,⟨some 9,.call ⟨.builtin .len,#[.tmp 8],#[57]⟩,none⟩,⟨some 10,.move (.const (.int .i64 0)),none⟩]) (.bloop 0 x169_L0)) (x169_T2))
@[simp] theorem x169_s {C e s K} : type_of% (@X_at C e s K _ _ x169_T2.eq_1) ∧ type_of% (@X_at C e s K _ _ x169_L2.eq_1) ∧ type_of% (@X_at C e s K _ _ x169_L0.eq_1) ∧ type_of% (@X_at C e s K _ _ x169.eq_1) := ⟨X_at x169_T2.eq_1, X_at x169_L2.eq_1, X_at x169_L0.eq_1, X_at x169.eq_1⟩
def an169 : Ann := ⟨[], [(2, [], [2, 8, 9, 10, 21, 22, 23], [2, 8, 9, 10]), (0, [], [2, 8, 9, 10], [2])], []⟩
@[simp] theorem an169_a : an169.loopOf 2 = ([], [2, 8, 9, 10, 21, 22, 23], [2, 8, 9, 10]) ∧ an169.loopOf 0 = ([], [2, 8, 9, 10], [2]) := ⟨rfl, rfl⟩
theorem fi169 : FI Try.prog 169 (cxA an169) x169 [.cell 2 33] Try.f169 := fiA Try.func169 mixed
theorem Plain_truth (l : List Fm) (hl : l.length ≤ 100000) : CallOK Try.prog 169 [.list (l.map frm)] [] (.agg [.int .i64 (plainL l).1, .int .i64 (plainL l).2]) [] := by
 refine fi169.op ?_
 generalize hR : plainL l = R
 ((refine Sg.h ?_); try repeat' ((first | (with_reducible first | refine brA ?_ | refine brE fun _ => ?_ | (refine spl ⟨?_, ?_⟩ <;> intro _))) <;> ((try simp -implicitDefEqProofs); (try simp -implicitDefEqProofs (disch := first | assumption | (try simp only [lens]); omega -splitDisjunctions)))))
 refine W_of fun Q hQ => ?_
 have main : ∀ r i, i + r = l.length → plainL (l.drop i) = R → Q [(2, .ptr 0 0 0), (8, .list (l.map frm)), (9, .int .i64 (l.length : Int)), (10, .int .i64 (i : Int))] [.rows 2 [[.int .i64 0, .int .i64 0]]] := by
  intro r
  induction r with
  | zero =>
   intro i hi hb
   rw [List.drop_of_length_le (by omega), plainL] at hb
   subst hb
   apply hQ
   ((refine Sg.h ?_); try repeat' ((first | (with_reducible first | refine brA ?_ | refine brE fun _ => ?_ | (refine spl ⟨?_, ?_⟩ <;> intro _))) <;> ((try simp -implicitDefEqProofs); (try simp -implicitDefEqProofs (disch := first | assumption | (try simp only [lens]); omega -splitDisjunctions)))))
  | succ r ih =>
   intro i hi hb
   have hil : i < l.length := by omega
   have ih := ih (i + 1) (by omega)
   rw [List.drop_eq_getElem_cons hil, plainL] at hb
   have hc := check_formula l[i] []
   have hn := nodes_formula l[i] 200 (by decide) []
   apply hQ
   clear hQ
   by_cases h1 : (formulaCheck l[i]).1 = 0
   ·rw [show plainF l[i] = (kindBad (nodesGo 200 200 [l[i]]) 0).getD (0, 0) from by unfold plainF; rw [if_neg (by simpa using h1)]] at hb
    have hL := nodesGo_len 200 200 [l[i]]
    generalize nodesGo 200 200 [l[i]] = L at *
    ((refine Sg.h ?_); try repeat' ((first | (with_reducible first | refine brA ?_ | refine brE fun _ => ?_ | (refine spl ⟨?_, ?_⟩ <;> intro _)) | refine clo hc ?_ | refine clo hn ?_) <;> ((try simp -implicitDefEqProofs [hil, h1]); (try simp -implicitDefEqProofs (disch := first | assumption | (try simp only [lens]); omega -splitDisjunctions) [hil, h1]))))
    refine W_of fun Q2 hQ2 => ?_
    have main2 : ∀ r j, j + r = L.length → kindBad L 0 = kindBad (L.drop j) j → Q2 [(2, .ptr 0 0 0), (8, .list (l.map frm)), (9, .int .i64 (l.length : Int)), (10, .int .i64 (i : Int)), (21, .list (L.map frm)), (22, .int .i64 (L.length : Int)), (23, .int .i64 (j : Int))] [.rows 2 [[.int .i64 0, .int .i64 0]]] := by
     intro r
     induction r with
     | zero =>
      intro j hj hk
      rw [List.drop_of_length_le (by omega), kindBad] at hk
      rw [hk] at hb
      have ih := ih (by simpa using hb)
      apply hQ2
      clear hQ2 hc hn
      ((refine Sg.h ?_); try repeat' ((first | (with_reducible first | refine brA ?_ | refine brE fun _ => ?_ | (refine spl ⟨?_, ?_⟩ <;> intro _))) <;> ((try simp -implicitDefEqProofs); (try simp -implicitDefEqProofs (disch := first | assumption | (try simp only [lens]); omega -splitDisjunctions)))))
      all_goals first | exact ih | (refine at2 ih ?_ ?_ <;> simp; done) | (exfalso; first | omega | (simp_all; done) | (simp_all; omega))
     | succ r ih2 =>
      intro j hj hk
      have hjl : j < L.length := by omega
      have ih2 := ih2 (j + 1) (by omega)
      rw [kindBad_drop hjl] at hk
      apply hQ2
      clear hQ2 hc hn ih
      by_cases h7 : 7 < L[j].kind
      ·rw [if_pos h7] at hk
       rw [hk] at hb
       simp at hb
       subst hb
       ((refine Sg.h ?_); try repeat' ((first | (with_reducible first | refine brA ?_ | refine brE fun _ => ?_ | (refine spl ⟨?_, ?_⟩ <;> intro _)) | refine clo (fault_truth 4 _) ?_) <;> ((try simp -implicitDefEqProofs [hjl, h7]); (try simp -implicitDefEqProofs (disch := first | assumption | (try simp only [lens]); omega -splitDisjunctions) [hjl, h7]))))
      ·rw [if_neg h7] at hk
       have ih2 := ih2 hk
       ((refine Sg.h ?_); try repeat' ((first | (with_reducible first | refine brA ?_ | refine brE fun _ => ?_ | (refine spl ⟨?_, ?_⟩ <;> intro _))) <;> ((try simp -implicitDefEqProofs [hjl, h7]); (try simp -implicitDefEqProofs (disch := first | assumption | (try simp only [lens]); omega -splitDisjunctions) [hjl, h7]))))
       all_goals first | exact ih2 | (refine at2 ih2 ?_ ?_ <;> simp; done) | (exfalso; first | omega | (simp_all; done) | (simp_all; omega))
    all_goals first | exact main2 _ 0 (Nat.zero_add _) rfl | (refine at2 main2 _ 0 (Nat.zero_add _) rfl ?_ ?_ <;> simp; done) | (exfalso; first | omega | (simp_all; done) | (simp_all; omega))
   ·rw [show plainF l[i] = formulaCheck l[i] from by unfold plainF; rw [if_pos (by simpa using h1)], if_pos (by simpa using h1)] at hb
    subst hb
    ((refine Sg.h ?_); try repeat' ((first | (with_reducible first | refine brA ?_ | refine brE fun _ => ?_ | (refine spl ⟨?_, ?_⟩ <;> intro _)) | refine clo hc ?_) <;> ((try simp -implicitDefEqProofs [hil, h1]); (try simp -implicitDefEqProofs (disch := first | assumption | (try simp only [lens]); omega -splitDisjunctions) [hil, h1]))))
 all_goals first | exact main _ 0 (Nat.zero_add _) (by simpa using hR) | (refine at2 main _ 0 (Nat.zero_add _) (by simpa using hR) ?_ ?_ <;> simp; done) | (exfalso; first | omega | (simp_all; done) | (simp_all; omega))
end Go.Proofs.Ytkadceiolddmhaa
namespace Go.Proofs.Ytkadceiolddmhaa
open Go Go.Pv
def Pl (f : Fm) : Prop := Td f ∧ ∀ x ∈ pre f, x.kind ≤ 7
theorem Pl.kid {f g : Fm} (h : Pl f) (hg : g ∈ f.kids) : Pl g := ⟨h.1.kid hg, fun x hx => h.2 x (by rw [pre_eq]; exact List.mem_cons_of_mem _ (pres_mem hx _ hg))⟩
theorem Pl.seven {f : Fm} (h : Pl f) : (∃ nm, isNameB nm = true ∧ f = .mk 1 nm []) ∨ (f = .mk 2 ⟨#[]⟩ []) ∨ (f = .mk 3 ⟨#[]⟩ []) ∨ (∃ a, Pl a ∧ f = .mk 4 ⟨#[]⟩ [a]) ∨ (∃ a b, Pl a ∧ Pl b ∧ f = .mk 5 ⟨#[]⟩ [a, b]) ∨
  (∃ a b, Pl a ∧ Pl b ∧ f = .mk 6 ⟨#[]⟩ [a, b]) ∨ (∃ a b, Pl a ∧ Pl b ∧ f = .mk 7 ⟨#[]⟩ [a, b]) := by
 have hk := h.2 f (by rw [pre_eq]; exact List.mem_cons_self)
 have hp := fun g hg => h.kid (g := g) hg
 rcases h.1.nine with ⟨nm, hN, rfl⟩ | rfl | rfl | ⟨a, ha, rfl⟩ | ⟨a, b, ha, hb, rfl⟩ | ⟨a, b, ha, hb, rfl⟩ | ⟨a, b, ha, hb, rfl⟩ | ⟨a, ha, rfl⟩ | ⟨a, ha, rfl⟩
 ·exact .inl ⟨nm, hN, rfl⟩
 ·exact .inr (.inl rfl)
 ·exact .inr (.inr (.inl rfl))
 ·exact .inr (.inr (.inr (.inl ⟨a, hp a (by simp), rfl⟩)))
 ·exact .inr (.inr (.inr (.inr (.inl ⟨a, b, hp a (by simp), hp b (by simp), rfl⟩))))
 ·exact .inr (.inr (.inr (.inr (.inr (.inl ⟨a, b, hp a (by simp), hp b (by simp), rfl⟩)))))
 ·exact .inr (.inr (.inr (.inr (.inr (.inr ⟨a, b, hp a (by simp), hp b (by simp), rfl⟩)))))
 ·simp at hk
 ·simp at hk
theorem kindBad_none : ∀ (l : List Fm) (i : Nat), kindBad l i = none ↔ ∀ x ∈ l, x.kind ≤ 7
 | [], i => by simp [kindBad]
 | x :: r, i => by
  rw [kindBad]
  by_cases h : 7 < x.kind
  ·rw [if_pos h]; simp; intro h2; omega
  ·rw [if_neg h, kindBad_none r (i + 1)]; simp; intro _; omega
theorem kindBad_code : ∀ (l : List Fm) (i : Nat) x, kindBad l i = some x → x.1 = 4
 | [], _, x, h => by cases h
 | a :: r, i, x, h => by
  unfold kindBad at h
  split at h
  ·cases h; rfl
  ·exact kindBad_code r _ x h
theorem namesF_preA {f : Fm} (h : (pre f).length ≤ 200) : nodesGo 200 200 [f] = pre f := by
 rw [nodesGo_take 200 200 [f] (by omega), pres_cons, pres_nil, List.append_nil, List.take_of_length_le h]
theorem plainF_iff (f : Fm) : (plainF f).1 = 0 ↔ Pl f ∧ (pre f).length ≤ 200 := by
 unfold plainF
 by_cases h : (formulaCheck f).1 = 0
 ·rw [if_neg (by simpa using h)]
  have h0 := (formulaCheck_iff f).1 h
  rw [namesF_preA h0.2]
  cases hk : kindBad (pre f) 0 with
  | none => simp only [Option.getD_none, true_iff]; exact ⟨⟨h0.1, (kindBad_none _ _).1 hk⟩, h0.2⟩
  | some x =>
   have := kindBad_code _ _ _ hk
   simp only [Option.getD_some]
   refine ⟨fun g => by omega, fun g => ?_⟩
   rw [(kindBad_none _ _).2 g.1.2] at hk; cases hk
 ·rw [if_pos (by simpa using h)]
  exact ⟨fun g => absurd g h, fun g => (formulaCheck_iff f).2 ⟨g.1.1, g.2⟩⟩
theorem plainF_zero {f : Fm} (h : (plainF f).1 = 0) : plainF f = (0, 0) := by
 have h1 := (plainF_iff f).1 h
 have h2 := (formulaCheck_iff f).2 ⟨h1.1.1, h1.2⟩
 unfold plainF
 rw [if_neg (by simpa using h2), namesF_preA h1.2, (kindBad_none _ _).2 h1.1.2]; rfl
theorem plainL_one (f : Fm) : plainL [f] = plainF f := by
 rw [plainL, plainL]
 split
 ·rfl
 ·rename_i h; rw [plainF_zero (by simpa using h)]
section
variable {h : ByteArray → Bool} {nm : ByteArray} {l : List Fm} {a b : Fm}
end
end Go.Proofs.Ytkadceiolddmhaa
namespace Go.Proofs.Ytkadceiolddmhaa
open Go Go.Pv
def seqGo : List Fm → Nat → Int × Int
 | [], _ => (0, 0)
 | f :: r, i => if (plainF f).1 ≠ 0 then ((plainF f).1, (i : Int)) else seqGo r (i + 1)
def sequentF (l r : List Fm) : Int × Int := if 60 < l.length + r.length then (2, 0) else seqGo (l ++ r) 0
theorem plainL_sgl (f : Fm) : plainL [f] = if (plainF f).1 ≠ 0 then plainF f else (0, 0) := rfl
def x158_T1 : XC := .seq (.reg [⟨some 38,.build 33 #[],none⟩,⟨none,.store 33 (.tmp 2) (.tmp 38),none⟩]) .ret
def x158_L0 : XC := .seq (.reg [⟨some 23,.binOp .lss 3 (.tmp 22) (.tmp 21) 3,none⟩]) (.seq (.cond (.tmp 23) .skip (.exit 0)) (.seq (.block 1 (.seq (.reg [⟨some 24,.move (.tmp 22),none⟩,⟨some 25,.indexAddr 57 (.tmp 20) (.tmp 22),none⟩,⟨some 26,.load 59 (.tmp 25),none⟩,⟨some 4,.alloc 59,none⟩,⟨some 3,.assign (.tmp 24),none⟩,⟨none,.store 59 (.tmp 4) (.tmp 26),none⟩]) (.seq (.reg [⟨some 27,.load 59 (.tmp 4),none⟩,⟨some 28,.buildSlice 57 1 #[(0,.tmp 27)],none⟩,⟨some 29,.call ⟨.value (.func 169),#[.tmp 28],#[57]⟩,none⟩,⟨some 5,.alloc 33,none⟩,⟨none,.store 33 (.tmp 5) (.tmp 29),none⟩]) (.seq (.reg [⟨some 30,.fieldAddr 33 (.tmp 5) 0,none⟩,⟨some 31,.load 3 (.tmp 30),none⟩,⟨some 32,.binOp .neq 3 (.tmp 31) (.const (.int .i64 0)) 3,none⟩]) (.cond (.tmp 32) (.seq (.reg [⟨some 33,.fieldAddr 33 (.tmp 5) 0,none⟩,⟨some 34,.load 3 (.tmp 33),none⟩,⟨some 35,.move (.tmp 3),none⟩,⟨some 36,.call ⟨.value (.func 157),#[.tmp 34,.tmp 35],#[3,3]⟩,none⟩,⟨none,.store 33 (.tmp 2) (.tmp 36),none⟩]) .ret) .skip))))) (.reg [⟨some 37,.binOp .add 3 (.tmp 22) (.const (.int .i64 1)) 3,none⟩,⟨some 22,.move (.tmp 37),none⟩])))
def x158 : XC := .seq (.reg [⟨some 1,.box 61 (.tmp 0),none⟩,⟨some 2,.alloc 33,none⟩]) (.seq (.seq (.reg [⟨some 6,.fieldAddr 61 (.tmp 1) 0,none⟩,⟨some 7,.load 57 (.tmp 6),none⟩,⟨some 8,.call ⟨.builtin .len,#[.tmp 7],#[57]⟩,none⟩,⟨some 9,.fieldAddr 61 (.tmp 1) 1,none⟩,⟨some 10,.load 57 (.tmp 9),none⟩,⟨some 11,.call ⟨.builtin .len,#[.tmp 10],#[57]⟩,none⟩,⟨some 12,.binOp .add 3 (.tmp 8) (.tmp 11) 3,none⟩,⟨some 13,.binOp .gtr 3 (.tmp 12) (.const (.int .i64 60)) 3,none⟩]) (.cond (.tmp 13) (.seq (.reg [⟨some 14,.call ⟨.value (.func 157),#[.const (.int .i64 2),.const (.int .i64 0)],#[3,3]⟩,none⟩,⟨none,.store 33 (.tmp 2) (.tmp 14),none⟩]) .ret) .skip)) (.seq (.seq (.reg [⟨some 15,.fieldAddr 61 (.tmp 1) 0,none⟩,⟨some 16,.load 57 (.tmp 15),none⟩,⟨some 17,.fieldAddr 61 (.tmp 1) 1,none⟩,⟨some 18,.load 57 (.tmp 17),none⟩,⟨some 19,.buildSlice 254 2 #[(0,.tmp 16),(1,.tmp 18)],none⟩,⟨some 20,.call ⟨.value (.func 168),#[.tmp 19],#[254]⟩,none⟩,⟨some 21,.call ⟨.builtin .len,#[.tmp 20],#[57]⟩,none⟩,⟨some 22,.move (.const (.int .i64 0)),none⟩]) (.bloop 0 x158_L0)) (x158_T1)))
@[simp] theorem x158_s {C e s K} : type_of% (@X_at C e s K _ _ x158_T1.eq_1) ∧ type_of% (@X_at C e s K _ _ x158_L0.eq_1) ∧ type_of% (@X_at C e s K _ _ x158.eq_1) := ⟨X_at x158_T1.eq_1, X_at x158_L0.eq_1, X_at x158.eq_1⟩
def an158 : Ann := ⟨[], [(0, [], [2, 20, 21, 22], [2])], []⟩
@[simp] theorem an158_a : an158.loopOf 0 = ([], [2, 20, 21, 22], [2]) := rfl
theorem fi158 : FI Try.prog 158 (cxA an158) x158 [.cell 2 33] Try.f158 := fiA Try.func158 mixed
theorem CheckSequent_calculus (l r : List Fm) (hl : l.length ≤ 50000) (hr : r.length ≤ 50000) : CallOK Try.prog 158 [.agg [.list (l.map frm), .list (r.map frm)]] [] (.agg [.int .i64 (sequentF l r).1, .int .i64 (sequentF l r).2]) [] := by
 refine fi158.op ?_
 unfold sequentF
 by_cases h6 : 60 < l.length + r.length
 ·have h6i : (60 : Int) < (l.length : Int) + (r.length : Int) := by omega
  rw [if_pos h6]
  ((refine Sg.h ?_); try repeat' ((first | (with_reducible first | refine brA ?_ | refine brE fun _ => ?_ | (refine spl ⟨?_, ?_⟩ <;> intro _)) | refine clo (fault_calculus 2 0) ?_) <;> ((try simp -implicitDefEqProofs [h6i]); (try simp -implicitDefEqProofs (disch := first | assumption | (try simp only [lens]); omega -splitDisjunctions) [h6i]))))
 ·have h6i : ¬ (60 : Int) < (l.length : Int) + (r.length : Int) := by omega
  rw [if_neg h6]
  have hc := Concat_fms [l, r] (by simp) (by simp; omega)
  rw [show [l, r].flatten = l ++ r from by simp] at hc
  simp only [List.map_cons, List.map_nil] at hc
  have hL : (l ++ r).length ≤ 60 := by simp; omega
  generalize hE : seqGo (l ++ r) 0 = E
  generalize l ++ r = L at *
  ((refine Sg.h ?_); try repeat' ((first | (with_reducible first | refine brA ?_ | refine brE fun _ => ?_ | (refine spl ⟨?_, ?_⟩ <;> intro _))) <;> ((try simp -implicitDefEqProofs [h6i]); (try simp -implicitDefEqProofs (disch := first | assumption | (try simp only [lens]); omega -splitDisjunctions) [h6i]))))
  refine CL.giv [2] ?_
  ((refine Sg.h ?_); try repeat' ((first | (with_reducible first | refine brA ?_ | refine brE fun _ => ?_ | (refine spl ⟨?_, ?_⟩ <;> intro _)) | refine clo hc ?_) <;> ((try simp -implicitDefEqProofs); (try simp -implicitDefEqProofs (disch := first | assumption | (try simp only [lens]); omega -splitDisjunctions)))))
  refine W_of fun Q hQ => ?_
  have main : ∀ n i, i + n = L.length → seqGo (L.drop i) i = E → Q [(2, .ptr 0 0 0), (20, .list (L.map frm)), (21, .int .i64 (L.length : Int)), (22, .int .i64 (i : Int))] [.rows 2 [[.int .i64 0, .int .i64 0]]] := by
   intro n
   induction n with
   | zero =>
    intro i hi he
    rw [List.drop_of_length_le (by omega), seqGo] at he
    apply hQ
    clear hQ
    subst he
    ((refine Sg.h ?_); try repeat' ((first | (with_reducible first | refine brA ?_ | refine brE fun _ => ?_ | (refine spl ⟨?_, ?_⟩ <;> intro _))) <;> ((try simp -implicitDefEqProofs); (try simp -implicitDefEqProofs (disch := first | assumption | (try simp only [lens]); omega -splitDisjunctions)))))
   | succ n ih =>
    intro i hi he
    have hil : i < L.length := by omega
    have ih := ih (i + 1) (by omega)
    rw [List.drop_eq_getElem_cons hil, seqGo] at he
    have hp := Plain_truth [L[i]] (by simp)
    rw [plainL_sgl] at hp
    apply hQ
    clear hQ
    by_cases h0 : (plainF L[i]).1 = 0
    ·rw [if_neg (by simpa using h0)] at he hp
     have ih := ih he
     ((refine Sg.h ?_); try repeat' ((first | (with_reducible first | refine brA ?_ | refine brE fun _ => ?_ | (refine spl ⟨?_, ?_⟩ <;> intro _))) <;> ((try simp -implicitDefEqProofs [hil]); (try simp -implicitDefEqProofs (disch := first | assumption | (try simp only [lens]); omega -splitDisjunctions) [hil]))))
     refine CL.giv [2] ?_
     ((refine Sg.h ?_); try repeat' ((first | (with_reducible first | refine brA ?_ | refine brE fun _ => ?_ | (refine spl ⟨?_, ?_⟩ <;> intro _)) | refine clo hp ?_) <;> ((try simp -implicitDefEqProofs [hil]); (try simp -implicitDefEqProofs (disch := first | assumption | (try simp only [lens]); omega -splitDisjunctions) [hil]))))
     all_goals first | exact ih | (refine at2 ih ?_ ?_ <;> simp; done) | (exfalso; first | omega | (simp_all; done) | (simp_all; omega))
    ·rw [if_pos (by simpa using h0)] at he hp
     have hf := fault_calculus (plainF L[i]).1 (i : Int)
     subst he
     generalize plainF L[i] = P at *
     ((refine Sg.h ?_); try repeat' ((first | (with_reducible first | refine brA ?_ | refine brE fun _ => ?_ | (refine spl ⟨?_, ?_⟩ <;> intro _))) <;> ((try simp -implicitDefEqProofs [hil]); (try simp -implicitDefEqProofs (disch := first | assumption | (try simp only [lens]); omega -splitDisjunctions) [hil]))))
     refine CL.giv [2] ?_
     ((refine Sg.h ?_); try repeat' ((first | (with_reducible first | refine brA ?_ | refine brE fun _ => ?_ | (refine spl ⟨?_, ?_⟩ <;> intro _)) | refine clo hp ?_ | refine clo hf ?_) <;> ((try simp -implicitDefEqProofs [h0]); (try simp -implicitDefEqProofs (disch := first | assumption | (try simp only [lens]); omega -splitDisjunctions) [h0]))))
  all_goals first | exact main _ 0 (Nat.zero_add _) hE | (refine at2 main _ 0 (Nat.zero_add _) hE ?_ ?_ <;> simp; done) | (exfalso; first | omega | (simp_all; done) | (simp_all; omega))
def x235 : XC := .seq (.reg [⟨some 4,.box 59 (.tmp 0),none⟩,⟨some 7,.assign (.const (.slice none 0 0)),none⟩,⟨some 8,.assign (.const (.bool false)),none⟩]) (.seq (.seq (.reg [⟨some 9,.load 59 (.tmp 4),none⟩,⟨some 10,.move (.tmp 2),none⟩,⟨some 11,.call ⟨.value (.func 203),#[.tmp 9,.const (.int .i64 6),.tmp 10],#[59,3,226]⟩,none⟩,⟨some 12,.unOp .not 4 (.tmp 11),none⟩]) (.cond (.tmp 12) (.seq (.reg [⟨some 7,.assign (.const (.slice none 0 0)),none⟩,⟨some 8,.assign (.const (.bool false)),none⟩]) .ret) .skip)) (.seq (.reg [⟨some 13,.move (.tmp 1),none⟩,⟨some 14,.fieldAddr 59 (.tmp 4) 2,none⟩,⟨some 15,.load 57 (.tmp 14),none⟩,⟨some 16,.load 3 (.tmp 3),none⟩,⟨some 17,.indexAddr 57 (.tmp 15) (.tmp 16),none⟩,⟨some 18,.load 59 (.tmp 17),none⟩,⟨some 19,.buildSlice 226 1 #[(0,.tmp 18)],none⟩,⟨some 20,.build 236 #[(0,.tmp 13),(1,.tmp 19)],none⟩,⟨some 21,.buildSlice 233 1 #[(0,.tmp 20)],none⟩,⟨some 7,.assign (.tmp 21),none⟩,⟨some 8,.assign (.const (.bool true)),none⟩]) .ret))
@[simp] theorem x235_s {C e s K} : type_of% (@X_at C e s K _ _ x235.eq_1) := X_at x235.eq_1
def an235 : Ann := ⟨[], [], []⟩
theorem fi235 : FI Try.prog 235 (cxA an235) x235 [.tmp 7, .tmp 8] Try.f235 := fiA Try.func235 mixed
theorem side1_calculus (k : Nat) (hk : k ≤ 1) (f : Fm) (hA : Ar f) (l r : List Fm) (hl : l.length ≤ 50000) (hr : r.length ≤ 50000) : CallOK Try.prog 235 [.agg (frm f), .list (l.map frm), .list (r.map frm), .iptr [.int .i64 (k : Int)]] [] (.tuple [.list ((sideR k f l r).1.map premRow), .bool (sideR k f l r).2]) [] := by
 refine fi235.os ?_
 unfold sideR
 have h0 := kind_calculus f 6 r (by omega)
 cases hh : kindF f 6 r with
 | false =>
  rw [show (decide (f.kind = 6) && hasF r f) = false from hh] at h0
  ((refine Sg.h ?_); try repeat' ((first | (with_reducible first | refine brA ?_ | refine brE fun _ => ?_ | (refine spl ⟨?_, ?_⟩ <;> intro _)) | refine clo h0 ?_) <;> ((try simp -implicitDefEqProofs); (try simp -implicitDefEqProofs (disch := first | assumption | (try simp only [lens]); omega -splitDisjunctions)))))
 | true =>
  rw [show (decide (f.kind = 6) && hasF r f) = true from hh] at h0
  obtain ⟨hkd, hm⟩ := kindF_mem hh
  obtain ⟨a, b, hks⟩ := hA.two (by omega)
  have ka : kid f 0 = a := by simp [kid, hks]
  have kb : kid f 1 = b := by simp [kid, hks]
  obtain rfl | rfl : k = 0 ∨ k = 1 := by omega
  ·rw [ka]
   ((refine Sg.h ?_); try repeat' ((first | (with_reducible first | refine brA ?_ | refine brE fun _ => ?_ | (refine spl ⟨?_, ?_⟩ <;> intro _)) | refine clo h0 ?_) <;> ((try simp -implicitDefEqProofs [hks, premRow]); (try simp -implicitDefEqProofs (disch := first | assumption | (try simp only [lens]); omega -splitDisjunctions) [hks, premRow]))))
  ·rw [kb]
   ((refine Sg.h ?_); try repeat' ((first | (with_reducible first | refine brA ?_ | refine brE fun _ => ?_ | (refine spl ⟨?_, ?_⟩ <;> intro _)) | refine clo h0 ?_) <;> ((try simp -implicitDefEqProofs [hks, premRow]); (try simp -implicitDefEqProofs (disch := first | assumption | (try simp only [lens]); omega -splitDisjunctions) [hks, premRow]))))
def x217 : XC := .seq (.reg [⟨some 1,.box 3 (.tmp 0),none⟩,⟨some 2,.assign (.const .nilFunc),none⟩]) (.seq (.reg [⟨some 3,.makeFunc (.func 235) #[] #[.tmp 1],none⟩,⟨some 2,.assign (.tmp 3),none⟩]) .ret)
@[simp] theorem x217_s {C e s K} : type_of% (@X_at C e s K _ _ x217.eq_1) := X_at x217.eq_1
def an217 : Ann := ⟨[], [], []⟩
theorem fi217 : FI Try.prog 217 (cxA an217) x217 [.tmp 2] Try.f217 := fiA Try.func217 mixed
theorem side_calculus (k : Nat) : CallOK Try.prog 217 [.int .i64 (k : Int)] [] (.fn (.func 235) [] [.iptr [.int .i64 (k : Int)]]) [] := by
 refine fi217.op ?_
 ((refine Sg.h ?_); try repeat' ((first | (with_reducible first | refine brA ?_ | refine brE fun _ => ?_ | (refine spl ⟨?_, ?_⟩ <;> intro _))) <;> ((try simp -implicitDefEqProofs); (try simp -implicitDefEqProofs (disch := first | assumption | (try simp only [lens]); omega -splitDisjunctions)))))
end Go.Proofs.Ytkadceiolddmhaa
namespace Go.Proofs.Ytkadceiolddmhaa
open Go Go.Pv
structure Ent where
 fid : Nat
 ys : List PV
 R : Fm → List Fm → List Fm → List Prem × Bool
structure EntOK (e : Ent) : Prop where
 en : EnT Try.prog e.fid
 flat : FlatL e.ys
 call : ∀ f, Ar f → ∀ l r : List Fm, l.length ≤ 50000 → r.length ≤ 50000 → CallOK Try.prog e.fid (.agg (frm f) :: .list (l.map frm) :: .list (r.map frm) :: e.ys) [] (.tuple [.list ((e.R f l r).1.map premRow), .bool (e.R f l r).2]) []
abbrev Tab := List (ByteArray × Ent)
def entT (T : Tab) : List (PV × PV) := T.map fun p => (.str p.1, .fn (.func p.2.fid) [] p.2.ys)
def lookT (T : Tab) (a : ByteArray) : Option Ent := (T.find? fun p => decide (a = p.1)).map (·.2)
theorem findP_str {a b : ByteArray} {v : PV} {r : List (PV × PV)} {i : Nat} : findP (.str a) ((.str b, v) :: r) i = if a = b then some (some (i, v)) else findP (.str a) r (i + 1) := by
 by_cases h : a = b <;> simp [findP, keyEq, h]
theorem putP_none {a v : PV} {es : List (PV × PV)} : putP a v es none = es ++ [(a, v)] := rfl
theorem findP_ent (T : Tab) (a : ByteArray) : ∀ i, (lookT T a = none → findP (.str a) (entT T) i = some none) ∧ (∀ e, lookT T a = some e → ∃ j, findP (.str a) (entT T) i = some (some (j, .fn (.func e.fid) [] e.ys))) := by
 induction T with
 | nil => intro i; exact ⟨fun _ => rfl, fun e h => by simp [lookT] at h⟩
 | cons p r ih =>
  intro i
  have ih := ih (i + 1)
  simp only [entT, List.map_cons]
  rw [findP_str]
  by_cases h : a = p.1
  ·rw [if_pos h]
   refine ⟨fun hn => by simp [lookT, h] at hn, fun e he => ⟨i, ?_⟩⟩
   simp [lookT, h] at he
   rw [← he]
  ·rw [if_neg h]
   have hl : lookT (p :: r) a = lookT r a := by simp [lookT, h]
   rw [hl]; exact ih
theorem lookT_mem {T : Tab} {a : ByteArray} {e : Ent} (h : lookT T a = some e) : ∃ p ∈ T, p.2 = e := by
 unfold lookT at h
 obtain ⟨p, h1, h2⟩ := Option.map_eq_some_iff.1 h
 exact ⟨p, List.mem_of_find?_eq_some h1, h2⟩
noncomputable def sharedT : Tab := [(⟨#[97, 120]⟩, ⟨201, [], axR⟩), (⟨#[116, 114, 117, 101]⟩, ⟨202, [], trueR⟩), (⟨#[102, 97, 108, 115, 101]⟩, ⟨204, [], falseR⟩), (⟨#[97, 110, 100, 45, 108]⟩, ⟨205, [], andLR⟩), (⟨#[97, 110, 100, 45, 114]⟩, ⟨207, [], andRR⟩), (⟨#[111, 114, 45, 108]⟩, ⟨208, [], orLR⟩), (⟨#[116, 104, 101, 110, 45, 114]⟩, ⟨209, [], thenRR⟩), (⟨#[110, 111, 116, 45, 114]⟩, ⟨210, [], notRR⟩), (⟨#[99, 111, 110, 116, 114, 45, 108]⟩, ⟨211, [], contrLR⟩)]
theorem sharedT_ok : ∀ p ∈ sharedT, EntOK p.2 := by
 unfold sharedT
 refine List.forall_mem_cons.2 ⟨⟨inferInstance, inferInstance, axR_calculus⟩, ?_⟩
 refine List.forall_mem_cons.2 ⟨⟨inferInstance, inferInstance, trueR_calculus⟩, ?_⟩
 refine List.forall_mem_cons.2 ⟨⟨inferInstance, inferInstance, falseR_calculus⟩, ?_⟩
 refine List.forall_mem_cons.2 ⟨⟨inferInstance, inferInstance, andLR_calculus⟩, ?_⟩
 refine List.forall_mem_cons.2 ⟨⟨inferInstance, inferInstance, andRR_calculus⟩, ?_⟩
 refine List.forall_mem_cons.2 ⟨⟨inferInstance, inferInstance, orLR_calculus⟩, ?_⟩
 refine List.forall_mem_cons.2 ⟨⟨inferInstance, inferInstance, thenRR_calculus⟩, ?_⟩
 refine List.forall_mem_cons.2 ⟨⟨inferInstance, inferInstance, notRR_calculus⟩, ?_⟩
 refine List.forall_mem_cons.2 ⟨⟨inferInstance, inferInstance, contrLR_calculus⟩, ?_⟩
 exact fun p hp => nomatch hp
noncomputable def classT : Tab := [(⟨#[111, 114, 45, 114]⟩, ⟨212, [], orRR⟩), (⟨#[116, 104, 101, 110, 45, 108]⟩, ⟨213, [], thenLR⟩), (⟨#[110, 111, 116, 45, 108]⟩, ⟨214, [], notLR⟩), (⟨#[99, 111, 110, 116, 114, 45, 114]⟩, ⟨215, [], contrRR⟩), (⟨#[99, 117, 116]⟩, ⟨216, [], cutCR⟩)]
theorem classT_ok : ∀ p ∈ classT, EntOK p.2 := by
 unfold classT
 refine List.forall_mem_cons.2 ⟨⟨inferInstance, inferInstance, orRR_calculus⟩, ?_⟩
 refine List.forall_mem_cons.2 ⟨⟨inferInstance, inferInstance, thenLR_calculus⟩, ?_⟩
 refine List.forall_mem_cons.2 ⟨⟨inferInstance, inferInstance, notLR_calculus⟩, ?_⟩
 refine List.forall_mem_cons.2 ⟨⟨inferInstance, inferInstance, contrRR_calculus⟩, ?_⟩
 refine List.forall_mem_cons.2 ⟨⟨inferInstance, inferInstance, cutCR_calculus⟩, ?_⟩
 exact fun p hp => nomatch hp
noncomputable def intuT : Tab := [(⟨#[111, 114, 45, 114, 49]⟩, ⟨235, [.iptr [.int .i64 (0 : Int)]], (sideR 0)⟩), (⟨#[111, 114, 45, 114, 50]⟩, ⟨235, [.iptr [.int .i64 (1 : Int)]], (sideR 1)⟩), (⟨#[116, 104, 101, 110, 45, 108]⟩, ⟨218, [], thenIR⟩), (⟨#[110, 111, 116, 45, 108]⟩, ⟨219, [], notIR⟩), (⟨#[99, 117, 116]⟩, ⟨220, [], cutIR⟩)]
theorem intuT_ok : ∀ p ∈ intuT, EntOK p.2 := by
 unfold intuT
 refine List.forall_mem_cons.2 ⟨⟨inferInstance, inferInstance, fun f hA l r hl hr => side1_calculus 0 (by decide) f hA l r hl hr⟩, ?_⟩
 refine List.forall_mem_cons.2 ⟨⟨inferInstance, inferInstance, fun f hA l r hl hr => side1_calculus 1 (by decide) f hA l r hl hr⟩, ?_⟩
 refine List.forall_mem_cons.2 ⟨⟨inferInstance, inferInstance, thenIR_calculus⟩, ?_⟩
 refine List.forall_mem_cons.2 ⟨⟨inferInstance, inferInstance, notIR_calculus⟩, ?_⟩
 refine List.forall_mem_cons.2 ⟨⟨inferInstance, inferInstance, cutIR_calculus⟩, ?_⟩
 exact fun p hp => nomatch hp
attribute [local irreducible] X
def x172 : XC := .seq (.reg [⟨some 0,.assign (.const (.map none)),none⟩]) (.seq (.reg [⟨some 1,.makeMap 231 none,none⟩,⟨none,.insert 231 (.tmp 1) (.const (.string ⟨#[97,120]⟩)) (.func 201),none⟩,⟨none,.insert 231 (.tmp 1) (.const (.string ⟨#[116,114,117,101]⟩)) (.func 202),none⟩,⟨none,.insert 231 (.tmp 1) (.const (.string ⟨#[102,97,108,115,101]⟩)) (.func 204),none⟩,⟨none,.insert 231 (.tmp 1) (.const (.string ⟨#[97,110,100,45,108]⟩)) (.func 205),none⟩,⟨none,.insert 231 (.tmp 1) (.const (.string ⟨#[97,110,100,45,114]⟩)) (.func 207),none⟩,⟨none,.insert 231 (.tmp 1) (.const (.string ⟨#[111,114,45,108]⟩)) (.func 208),none⟩,⟨none,.insert 231 (.tmp 1) (.const (.string ⟨#[116,104,101,110,45,114]⟩)) (.func 209),none⟩,⟨none,.insert 231 (.tmp 1) (.const (.string ⟨#[110,111,116,45,114]⟩)) (.func 210),none⟩,⟨none,.insert 231 (.tmp 1) (.const (.string ⟨#[99,111,110,116,114,45,108]⟩)) (.func 211),none⟩,⟨some 2,.move (.tmp 1),none⟩,⟨some 0,.assign (.tmp 2),none⟩]) .ret)
@[simp] theorem x172_s {C e s K} : type_of% (@X_at C e s K _ _ x172.eq_1) := X_at x172.eq_1
def an172 : Ann := ⟨[], [], []⟩
theorem fi172 : FI Try.prog 172 (cxA an172) x172 [.tmp 0] Try.f172 := fiA Try.func172 mixed
theorem shared_calculus : CallOK Try.prog 172 [] [] (.imap (entT sharedT)) [] := by
 refine fi172.op ?_
 unfold entT sharedT
 have h1 : findP (.str { data := #[116, 114, 117, 101] }) [(.str { data := #[97, 120] }, .fn (.func 201) [] [])] 0 = some none := by simp [findP_str]
 have h2 : findP (.str { data := #[102, 97, 108, 115, 101] }) [(.str { data := #[97, 120] }, .fn (.func 201) [] []), (.str { data := #[116, 114, 117, 101] }, .fn (.func 202) [] [])] 0 = some none := by simp [findP_str]
 have h3 : findP (.str { data := #[97, 110, 100, 45, 108] }) [(.str { data := #[97, 120] }, .fn (.func 201) [] []), (.str { data := #[116, 114, 117, 101] }, .fn (.func 202) [] []), (.str { data := #[102, 97, 108, 115, 101] }, .fn (.func 204) [] [])] 0 = some none := by simp [findP_str]
 have h4 : findP (.str { data := #[97, 110, 100, 45, 114] }) [(.str { data := #[97, 120] }, .fn (.func 201) [] []), (.str { data := #[116, 114, 117, 101] }, .fn (.func 202) [] []), (.str { data := #[102, 97, 108, 115, 101] }, .fn (.func 204) [] []), (.str { data := #[97, 110, 100, 45, 108] }, .fn (.func 205) [] [])] 0 = some none := by simp [findP_str]
 have h5 : findP (.str { data := #[111, 114, 45, 108] }) [(.str { data := #[97, 120] }, .fn (.func 201) [] []), (.str { data := #[116, 114, 117, 101] }, .fn (.func 202) [] []), (.str { data := #[102, 97, 108, 115, 101] }, .fn (.func 204) [] []), (.str { data := #[97, 110, 100, 45, 108] }, .fn (.func 205) [] []), (.str { data := #[97, 110, 100, 45, 114] }, .fn (.func 207) [] [])] 0 = some none := by simp [findP_str]
 have h6 : findP (.str { data := #[116, 104, 101, 110, 45, 114] }) [(.str { data := #[97, 120] }, .fn (.func 201) [] []), (.str { data := #[116, 114, 117, 101] }, .fn (.func 202) [] []), (.str { data := #[102, 97, 108, 115, 101] }, .fn (.func 204) [] []), (.str { data := #[97, 110, 100, 45, 108] }, .fn (.func 205) [] []), (.str { data := #[97, 110, 100, 45, 114] }, .fn (.func 207) [] []), (.str { data := #[111, 114, 45, 108] }, .fn (.func 208) [] [])] 0 = some none := by simp [findP_str]
 have h7 : findP (.str { data := #[110, 111, 116, 45, 114] }) [(.str { data := #[97, 120] }, .fn (.func 201) [] []), (.str { data := #[116, 114, 117, 101] }, .fn (.func 202) [] []), (.str { data := #[102, 97, 108, 115, 101] }, .fn (.func 204) [] []), (.str { data := #[97, 110, 100, 45, 108] }, .fn (.func 205) [] []), (.str { data := #[97, 110, 100, 45, 114] }, .fn (.func 207) [] []), (.str { data := #[111, 114, 45, 108] }, .fn (.func 208) [] []), (.str { data := #[116, 104, 101, 110, 45, 114] }, .fn (.func 209) [] [])] 0 = some none := by simp [findP_str]
 have h8 : findP (.str { data := #[99, 111, 110, 116, 114, 45, 108] }) [(.str { data := #[97, 120] }, .fn (.func 201) [] []), (.str { data := #[116, 114, 117, 101] }, .fn (.func 202) [] []), (.str { data := #[102, 97, 108, 115, 101] }, .fn (.func 204) [] []), (.str { data := #[97, 110, 100, 45, 108] }, .fn (.func 205) [] []), (.str { data := #[97, 110, 100, 45, 114] }, .fn (.func 207) [] []), (.str { data := #[111, 114, 45, 108] }, .fn (.func 208) [] []), (.str { data := #[116, 104, 101, 110, 45, 114] }, .fn (.func 209) [] []), (.str { data := #[110, 111, 116, 45, 114] }, .fn (.func 210) [] [])] 0 = some none := by simp [findP_str]
 ((refine Sg.h ?_); try repeat' ((first | (with_reducible first | refine brA ?_ | refine brE fun _ => ?_ | (refine spl ⟨?_, ?_⟩ <;> intro _))) <;> ((try simp -implicitDefEqProofs [h1, h2, h3, h4, h5, h6, h7, h8, putP_none]); (try simp -implicitDefEqProofs (disch := first | assumption | (try simp only [lens]); omega -splitDisjunctions) [h1, h2, h3, h4, h5, h6, h7, h8, putP_none]))))
def x173 : XC := .seq (.reg [⟨some 0,.assign (.const (.map none)),none⟩]) (.seq (.reg [⟨some 1,.makeMap 231 none,none⟩,⟨none,.insert 231 (.tmp 1) (.const (.string ⟨#[111,114,45,114]⟩)) (.func 212),none⟩,⟨none,.insert 231 (.tmp 1) (.const (.string ⟨#[116,104,101,110,45,108]⟩)) (.func 213),none⟩,⟨none,.insert 231 (.tmp 1) (.const (.string ⟨#[110,111,116,45,108]⟩)) (.func 214),none⟩,⟨none,.insert 231 (.tmp 1) (.const (.string ⟨#[99,111,110,116,114,45,114]⟩)) (.func 215),none⟩,⟨none,.insert 231 (.tmp 1) (.const (.string ⟨#[99,117,116]⟩)) (.func 216),none⟩,⟨some 2,.move (.tmp 1),none⟩,⟨some 0,.assign (.tmp 2),none⟩]) .ret)
@[simp] theorem x173_s {C e s K} : type_of% (@X_at C e s K _ _ x173.eq_1) := X_at x173.eq_1
def an173 : Ann := ⟨[], [], []⟩
theorem fi173 : FI Try.prog 173 (cxA an173) x173 [.tmp 0] Try.f173 := fiA Try.func173 mixed
theorem classical_calculus : CallOK Try.prog 173 [] [] (.imap (entT classT)) [] := by
 refine fi173.op ?_
 unfold entT classT
 ((refine Sg.h ?_); try repeat' ((first | (with_reducible first | refine brA ?_ | refine brE fun _ => ?_ | (refine spl ⟨?_, ?_⟩ <;> intro _))) <;> ((try simp -implicitDefEqProofs [findP_str, putP_none]); (try simp -implicitDefEqProofs (disch := first | assumption | (try simp only [lens]); omega -splitDisjunctions) [findP_str, putP_none]))))
def x174 : XC := .seq (.reg [⟨some 0,.assign (.const (.map none)),none⟩]) (.seq (.reg [⟨some 1,.makeMap 231 none,none⟩,⟨some 2,.call ⟨.value (.func 217),#[.const (.int .i64 0)],#[3]⟩,none⟩,⟨none,.insert 231 (.tmp 1) (.const (.string ⟨#[111,114,45,114,49]⟩)) (.tmp 2),none⟩,⟨some 3,.call ⟨.value (.func 217),#[.const (.int .i64 1)],#[3]⟩,none⟩,⟨none,.insert 231 (.tmp 1) (.const (.string ⟨#[111,114,45,114,50]⟩)) (.tmp 3),none⟩,⟨none,.insert 231 (.tmp 1) (.const (.string ⟨#[116,104,101,110,45,108]⟩)) (.func 218),none⟩,⟨none,.insert 231 (.tmp 1) (.const (.string ⟨#[110,111,116,45,108]⟩)) (.func 219),none⟩,⟨none,.insert 231 (.tmp 1) (.const (.string ⟨#[99,117,116]⟩)) (.func 220),none⟩,⟨some 4,.move (.tmp 1),none⟩,⟨some 0,.assign (.tmp 4),none⟩]) .ret)
@[simp] theorem x174_s {C e s K} : type_of% (@X_at C e s K _ _ x174.eq_1) := X_at x174.eq_1
def an174 : Ann := ⟨[], [], []⟩
theorem fi174 : FI Try.prog 174 (cxA an174) x174 [.tmp 0] Try.f174 := fiA Try.func174 mixed
theorem intuitionistic_calculus : CallOK Try.prog 174 [] [] (.imap (entT intuT)) [] := by
 refine fi174.op ?_
 unfold entT intuT
 ((refine Sg.h ?_); try repeat' ((first | (with_reducible first | refine brA ?_ | refine brE fun _ => ?_ | (refine spl ⟨?_, ?_⟩ <;> intro _)) | refine clo (side_calculus 0) ?_ | refine clo (side_calculus 1) ?_) <;> ((try simp -implicitDefEqProofs [findP_str, putP_none]); (try simp -implicitDefEqProofs (disch := first | assumption | (try simp only [lens]); omega -splitDisjunctions) [findP_str, putP_none]))))
end Go.Proofs.Ytkadceiolddmhaa
