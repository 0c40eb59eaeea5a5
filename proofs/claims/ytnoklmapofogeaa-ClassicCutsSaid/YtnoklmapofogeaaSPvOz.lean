import Derived.Test.YtnoklmapofogeaaSTrA
import Derived.Test.YtnoklmapofogeaaSPvQg
set_option linter.unusedVariables false
set_option linter.unusedSimpArgs false
set_option maxRecDepth 100000
set_option maxHeartbeats 4000000
namespace Go.Proofs.Ytnoklmapofogeaa
open Go Go.Pv
def Pl (f : Fm) : Prop := Td f ∧ ∀ x ∈ pre f, x.kind ≤ 7
theorem Pl.kid {f g : Fm} (h : Pl f) (hg : g ∈ f.kids) : Pl g := ⟨h.1.kid hg, fun x hx => h.2 x (by rw [pre_eq]; exact List.mem_cons_of_mem _ (pres_mem hx _ hg))⟩
theorem Pl.seven {f : Fm} (h : Pl f) : (∃ nm, isNameB nm = true ∧ f = .mk 1 nm []) ∨ (f = .mk 2 ⟨#[]⟩ []) ∨ (f = .mk 3 ⟨#[]⟩ []) ∨ (∃ a, Pl a ∧ f = .mk 4 ⟨#[]⟩ [a]) ∨ (∃ a b, Pl a ∧ Pl b ∧ f = .mk 5 ⟨#[]⟩ [a, b]) ∨
  (∃ a b, Pl a ∧ Pl b ∧ f = .mk 6 ⟨#[]⟩ [a, b]) ∨ (∃ a b, Pl a ∧ Pl b ∧ f = .mk 7 ⟨#[]⟩ [a, b]) := by
 have hk := h.2 f (by rw [pre_eq]; exact List.mem_cons_self)
 have hp := fun g hg => h.kid (g := g) hg
 rcases h.1.nine with ⟨nm, hN, rfl⟩ | rfl | rfl | ⟨a, ha, rfl⟩ | ⟨a, b, ha, hb, rfl⟩ | ⟨a, b, ha, hb, rfl⟩ | ⟨a, b, ha, hb, rfl⟩ | ⟨a, ha, rfl⟩ | ⟨a, ha, rfl⟩
 ·exact .inl ⟨nm, hN, rfl⟩
 ·exact .inr (.inl rfl)
 ·exact .inr (.inr (.inl rfl))
 ·exact .inr (.inr (.inr (.inl ⟨a, hp a (by simp), rfl⟩)))
 ·exact .inr (.inr (.inr (.inr (.inl ⟨a, b, hp a (by simp), hp b (by simp), rfl⟩))))
 ·exact .inr (.inr (.inr (.inr (.inr (.inl ⟨a, b, hp a (by simp), hp b (by simp), rfl⟩)))))
 ·exact .inr (.inr (.inr (.inr (.inr (.inr ⟨a, b, hp a (by simp), hp b (by simp), rfl⟩)))))
 ·simp at hk
 ·simp at hk
theorem kindBad_none : ∀ (l : List Fm) (i : Nat), kindBad l i = none ↔ ∀ x ∈ l, x.kind ≤ 7
 | [], i => by simp [kindBad]
 | x :: r, i => by
  rw [kindBad]
  by_cases h : 7 < x.kind
  ·rw [if_pos h]; simp; intro h2; omega
  ·rw [if_neg h, kindBad_none r (i + 1)]; simp; intro _; omega
theorem kindBad_code : ∀ (l : List Fm) (i : Nat) x, kindBad l i = some x → x.1 = 4
 | [], _, x, h => by cases h
 | a :: r, i, x, h => by
  unfold kindBad at h
  split at h
  ·cases h; rfl
  ·exact kindBad_code r _ x h
theorem namesF_preA {f : Fm} (h : (pre f).length ≤ 200) : nodesGo 200 200 [f] = pre f := by
 rw [nodesGo_take 200 200 [f] (by omega), pres_cons, pres_nil, List.append_nil, List.take_of_length_le h]
theorem plainF_iff (f : Fm) : (plainF f).1 = 0 ↔ Pl f ∧ (pre f).length ≤ 200 := by
 unfold plainF
 by_cases h : (formulaCheck f).1 = 0
 ·rw [if_neg (by simpa using h)]
  have h0 := (formulaCheck_iff f).1 h
  rw [namesF_preA h0.2]
  cases hk : kindBad (pre f) 0 with
  | none => simp only [Option.getD_none, true_iff]; exact ⟨⟨h0.1, (kindBad_none _ _).1 hk⟩, h0.2⟩
  | some x =>
   have := kindBad_code _ _ _ hk
   simp only [Option.getD_some]
   refine ⟨fun g => by omega, fun g => ?_⟩
   rw [(kindBad_none _ _).2 g.1.2] at hk; cases hk
 ·rw [if_pos (by simpa using h)]
  exact ⟨fun g => absurd g h, fun g => (formulaCheck_iff f).2 ⟨g.1.1, g.2⟩⟩
def tv (h : ByteArray → Bool) (f : Fm) : Bool := ev 0 (fun _ _ => false) (fun _ => h) f 0
section
variable {h : ByteArray → Bool} {nm : ByteArray} {l : List Fm} {a b : Fm}
theorem tv_1 : tv h (.mk 1 nm l) = h nm := ev_1
theorem tv_2 : tv h (.mk 2 nm l) = true := ev_2
theorem tv_3 : tv h (.mk 3 nm l) = false := ev_3
theorem tv_4 : tv h (.mk 4 nm [a]) = !tv h a := ev_4
theorem tv_5 : tv h (.mk 5 nm [a, b]) = (tv h a && tv h b) := ev_5
theorem tv_6 : tv h (.mk 6 nm [a, b]) = (tv h a || tv h b) := ev_6
theorem tv_7 : tv h (.mk 7 nm [a, b]) = (!tv h a || tv h b) := ev_7
end
def x44_T1 : XC := .seq (.seq (.reg [⟨some 24,.fieldAddr 24 (.tmp 2) 0,none⟩,⟨some 25,.load 3 (.tmp 24),none⟩]) (.block 2 (.seq (.reg [⟨some 27,.binOp .eql 3 (.tmp 25) (.const (.int .i64 1)) 3,none⟩,⟨some 26,.assign (.tmp 27),none⟩]) (.cond (.tmp 26) (.seq (.reg [⟨some 28,.move (.tmp 1),none⟩,⟨some 29,.fieldAddr 24 (.tmp 2) 1,none⟩,⟨some 30,.load 9 (.tmp 29),none⟩,⟨some 31,.call ⟨.value (.func 59),#[.tmp 28,.tmp 30],#[35,9]⟩,none⟩,⟨some 4,.assign (.tmp 31),none⟩]) .ret) (.seq (.reg [⟨some 33,.binOp .eql 3 (.tmp 25) (.const (.int .i64 4)) 3,none⟩,⟨some 32,.assign (.tmp 33),none⟩]) (.cond (.tmp 32) (.seq (.reg [⟨some 34,.move (.tmp 5),none⟩,⟨some 35,.indexAddr 101 (.tmp 34) (.const (.int .i64 0)),none⟩,⟨some 36,.load 4 (.tmp 35),none⟩,⟨some 37,.unOp .not 4 (.tmp 36),none⟩,⟨some 4,.assign (.tmp 37),none⟩]) .ret) (.seq (.reg [⟨some 39,.binOp .eql 3 (.tmp 25) (.const (.int .i64 5)) 3,none⟩,⟨some 38,.assign (.tmp 39),none⟩]) (.cond (.tmp 38) (.seq (.reg [⟨some 40,.move (.tmp 5),none⟩,⟨some 41,.indexAddr 101 (.tmp 40) (.const (.int .i64 0)),none⟩,⟨some 42,.load 4 (.tmp 41),none⟩,⟨some 43,.move (.tmp 42),none⟩,⟨some 44,.move (.tmp 5),some (some 43,true)⟩,⟨some 45,.indexAddr 101 (.tmp 44) (.const (.int .i64 1)),some (some 43,true)⟩,⟨some 46,.load 4 (.tmp 45),some (some 43,true)⟩,⟨some 47,.pick (.tmp 43) (.tmp 46) (.const (.bool false)),none⟩,⟨some 4,.assign (.tmp 47),none⟩]) .ret) (.seq (.reg [⟨some 49,.binOp .eql 3 (.tmp 25) (.const (.int .i64 6)) 3,none⟩,⟨some 48,.assign (.tmp 49),none⟩]) (.cond (.tmp 48) (.seq (.reg [⟨some 50,.move (.tmp 5),none⟩,⟨some 51,.indexAddr 101 (.tmp 50) (.const (.int .i64 0)),none⟩,⟨some 52,.load 4 (.tmp 51),none⟩,⟨some 53,.move (.tmp 52),none⟩,⟨some 54,.move (.tmp 5),some (some 53,false)⟩,⟨some 55,.indexAddr 101 (.tmp 54) (.const (.int .i64 1)),some (some 53,false)⟩,⟨some 56,.load 4 (.tmp 55),some (some 53,false)⟩,⟨some 57,.pick (.tmp 53) (.const (.bool true)) (.tmp 56),none⟩,⟨some 4,.assign (.tmp 57),none⟩]) .ret) (.seq (.reg [⟨some 59,.binOp .eql 3 (.tmp 25) (.const (.int .i64 7)) 3,none⟩,⟨some 58,.assign (.tmp 59),none⟩]) (.cond (.tmp 58) (.seq (.reg [⟨some 60,.move (.tmp 5),none⟩,⟨some 61,.indexAddr 101 (.tmp 60) (.const (.int .i64 1)),none⟩,⟨some 62,.load 4 (.tmp 61),none⟩,⟨some 63,.move (.tmp 62),none⟩,⟨some 64,.move (.tmp 5),some (some 63,false)⟩,⟨some 65,.indexAddr 101 (.tmp 64) (.const (.int .i64 0)),some (some 63,false)⟩,⟨some 66,.load 4 (.tmp 65),some (some 63,false)⟩,⟨some 67,.unOp .not 4 (.tmp 66),some (some 63,false)⟩,⟨some 68,.pick (.tmp 63) (.const (.bool true)) (.tmp 67),none⟩,⟨some 4,.assign (.tmp 68),none⟩]) .ret) .skip)))))))))))) (.seq (.reg [⟨some 69,.fieldAddr 24 (.tmp 2) 0,none⟩,⟨some 70,.load 3 (.tmp 69),none⟩,⟨some 71,.binOp .eql 3 (.tmp 70) (.const (.int .i64 2)) 3,none⟩,⟨some 4,.assign (.tmp 71),none⟩]) .ret)
def x44_L0 : XC := .seq (.seq (.reg [⟨some 7,.move (.tmp 6),none⟩,⟨some 8,.fieldAddr 24 (.tmp 2) 2,none⟩,⟨some 9,.load 22 (.tmp 8),none⟩,⟨some 10,.call ⟨.builtin .len,#[.tmp 9],#[22]⟩,none⟩,⟨some 11,.binOp .lss 3 (.tmp 7) (.tmp 10) 3,none⟩]) (.cond (.tmp 11) .skip (.exit 0))) (.seq (.block 1 (.reg [⟨some 14,.move (.tmp 5),none⟩,⟨some 15,.fieldAddr 24 (.tmp 2) 2,none⟩,⟨some 16,.load 22 (.tmp 15),none⟩,⟨some 17,.move (.tmp 6),none⟩,⟨some 18,.indexAddr 22 (.tmp 16) (.tmp 17),none⟩,⟨some 19,.load 24 (.tmp 18),none⟩,⟨some 20,.move (.tmp 1),none⟩,⟨some 21,.call ⟨.value (.func 44),#[.tmp 19,.tmp 20],#[24,35]⟩,none⟩,⟨some 22,.buildSlice 101 1 #[(0,.tmp 21)],none⟩,⟨some 23,.call ⟨.builtin .append,#[.tmp 14,.tmp 22],#[101,101]⟩,none⟩,⟨some 5,.assign (.tmp 23),none⟩])) (.reg [⟨some 12,.move (.tmp 6),none⟩,⟨some 13,.binOp .add 3 (.tmp 12) (.const (.int .i64 1)) 3,none⟩,⟨some 6,.assign (.tmp 13),none⟩]))
def x44 : XC := .seq (.reg [⟨some 2,.box 24 (.tmp 0),none⟩,⟨some 4,.assign (.const (.bool false)),none⟩]) (.seq (.reg [⟨some 5,.assign (.const (.slice none 0 0)),none⟩]) (.seq (.seq (.reg [⟨some 6,.assign (.const (.int .i64 0)),none⟩]) (.bloop 0 x44_L0)) (x44_T1)))
@[simp] theorem x44_s {C e s K} : type_of% (@X_at C e s K _ _ x44_T1.eq_1) ∧ type_of% (@X_at C e s K _ _ x44_L0.eq_1) ∧ type_of% (@X_at C e s K _ _ x44.eq_1) := ⟨X_at x44_T1.eq_1, X_at x44_L0.eq_1, X_at x44.eq_1⟩
def an44 : Ann := ⟨[], [(0, [(5, none, 1)], [1, 2, 5, 6], [1, 2, 5])], []⟩
@[simp] theorem an44_a : an44.loopOf 0 = ([(5, none, 1)], [1, 2, 5, 6], [1, 2, 5]) := rfl
theorem fi44 : FI Try.prog 44 (cxA an44) x44 [.tmp 4] Try.f44 := fiA Try.func44 mixed
theorem True_ref (hs : List ByteArray) (f : Fm) (hf : Pl f) : CallOK Try.prog 44 [.agg (frm f), .list (hs.map strRow)] [] (.bool (tv (fun x => memB x hs) f)) [] := by
 induction f using Fm.ind with
 | h f ih =>
  refine fi44.op ?_
  have ih := fun g hg => ih g hg (hf.kid hg)
  ((refine Sg.h ?_); try repeat' ((first | (with_reducible first | refine brA ?_ | refine brE fun _ => ?_ | (refine spl ⟨?_, ?_⟩ <;> intro _))) <;> ((try simp -implicitDefEqProofs); (try simp -implicitDefEqProofs (disch := first | assumption | (try simp only [lens]); omega -splitDisjunctions)))))
  refine W_of fun Q hQ => ?_
  have hkl := hf.1.ok.kids_le
  have main : ∀ r i, i + r = f.kids.length → Q [(1, .list (hs.map strRow)), (2, .ptr 0 0 0), (5, .sl 1 0 i), (6, .int .i64 (i : Int))] [.rows 3 [frm f], .rows 1 (((f.kids.take i).map (tv fun x => memB x hs)).map boolRow)] := by
   intro r
   induction r with
   | zero =>
    intro i hi
    obtain rfl : i = f.kids.length := by omega
    rw [List.take_length]
    apply hQ
    clear hQ
    rcases hf.seven with ⟨nm, hn, rfl⟩ | rfl | rfl | ⟨a, ha, rfl⟩ | ⟨a, b, ha, hb, rfl⟩ | ⟨a, b, ha, hb, rfl⟩ | ⟨a, b, ha, hb, rfl⟩
    ·rw [tv_1]
     have hx := HasText_ref hs nm
     generalize memB nm hs = x at *
     simp only [frm_eq, fm_kind, fm_name, fm_kids, List.map_nil, List.map_cons]
     ((refine Sg.h ?_); try repeat' ((first | (with_reducible first | refine brA ?_ | refine brE fun _ => ?_ | (refine spl ⟨?_, ?_⟩ <;> intro _)) | refine clo hx ?_) <;> ((try simp -implicitDefEqProofs); (try simp -implicitDefEqProofs (disch := first | assumption | (try simp only [lens]); omega -splitDisjunctions)))))
    ·rw [tv_2]
     simp only [frm_eq, fm_kind, fm_name, fm_kids, List.map_nil, List.map_cons]
     ((refine Sg.h ?_); try repeat' ((first | (with_reducible first | refine brA ?_ | refine brE fun _ => ?_ | (refine spl ⟨?_, ?_⟩ <;> intro _))) <;> ((try simp -implicitDefEqProofs); (try simp -implicitDefEqProofs (disch := first | assumption | (try simp only [lens]); omega -splitDisjunctions)))))
    ·rw [tv_3]
     simp only [frm_eq, fm_kind, fm_name, fm_kids, List.map_nil, List.map_cons]
     ((refine Sg.h ?_); try repeat' ((first | (with_reducible first | refine brA ?_ | refine brE fun _ => ?_ | (refine spl ⟨?_, ?_⟩ <;> intro _))) <;> ((try simp -implicitDefEqProofs); (try simp -implicitDefEqProofs (disch := first | assumption | (try simp only [lens]); omega -splitDisjunctions)))))
    ·rw [tv_4]
     rw [frm_eq (.mk _ _ _)]
     simp only [fm_kind, fm_name, fm_kids, List.map_nil, List.map_cons]
     generalize tv (fun x => memB x hs) a = x at *
     cases x <;> ((refine Sg.h ?_); try repeat' ((first | (with_reducible first | refine brA ?_ | refine brE fun _ => ?_ | (refine spl ⟨?_, ?_⟩ <;> intro _))) <;> ((try simp -implicitDefEqProofs); (try simp -implicitDefEqProofs (disch := first | assumption | (try simp only [lens]); omega -splitDisjunctions)))))
    ·rw [tv_5]
     rw [frm_eq (.mk _ _ _)]
     simp only [fm_kind, fm_name, fm_kids, List.map_nil, List.map_cons]
     generalize tv (fun x => memB x hs) a = x at *
     generalize tv (fun x => memB x hs) b = y at *
     cases x <;> ((refine Sg.h ?_); try repeat' ((first | (with_reducible first | refine brA ?_ | refine brE fun _ => ?_ | (refine spl ⟨?_, ?_⟩ <;> intro _))) <;> ((try simp -implicitDefEqProofs); (try simp -implicitDefEqProofs (disch := first | assumption | (try simp only [lens]); omega -splitDisjunctions)))))
    ·rw [tv_6]
     rw [frm_eq (.mk _ _ _)]
     simp only [fm_kind, fm_name, fm_kids, List.map_nil, List.map_cons]
     generalize tv (fun x => memB x hs) a = x at *
     generalize tv (fun x => memB x hs) b = y at *
     cases x <;> ((refine Sg.h ?_); try repeat' ((first | (with_reducible first | refine brA ?_ | refine brE fun _ => ?_ | (refine spl ⟨?_, ?_⟩ <;> intro _))) <;> ((try simp -implicitDefEqProofs); (try simp -implicitDefEqProofs (disch := first | assumption | (try simp only [lens]); omega -splitDisjunctions)))))
    ·rw [tv_7]
     rw [frm_eq (.mk _ _ _)]
     simp only [fm_kind, fm_name, fm_kids, List.map_nil, List.map_cons]
     generalize tv (fun x => memB x hs) a = x at *
     generalize tv (fun x => memB x hs) b = y at *
     cases x <;> cases y <;> ((refine Sg.h ?_); try repeat' ((first | (with_reducible first | refine brA ?_ | refine brE fun _ => ?_ | (refine spl ⟨?_, ?_⟩ <;> intro _))) <;> ((try simp -implicitDefEqProofs); (try simp -implicitDefEqProofs (disch := first | assumption | (try simp only [lens]); omega -splitDisjunctions)))))
   | succ r ihr =>
    intro i hi
    have hik : i < f.kids.length := by omega
    have ihr := ihr (i + 1) (by omega)
    have hc := ih f.kids[i] (List.getElem_mem hik)
    rw [take_snoc hik, List.map_append, List.map_append, List.map_cons, List.map_nil] at ihr
    apply hQ
    clear hQ
    generalize tv (fun x => memB x hs) f.kids[i] = x at *
    ((refine Sg.h ?_); try repeat' ((first | (with_reducible first | refine brA ?_ | refine brE fun _ => ?_ | (refine spl ⟨?_, ?_⟩ <;> intro _)) | refine clo hc ?_) <;> ((try simp -implicitDefEqProofs [hik]); (try simp -implicitDefEqProofs (disch := first | assumption | (try simp only [lens]); omega -splitDisjunctions) [hik]))))
    all_goals first | exact ihr | (refine at2 ihr ?_ ?_ <;> simp; done) | (exfalso; first | omega | (simp_all; done) | (simp_all; omega))
  refine at2 (main _ 0 (Nat.zero_add _)) ?_ ?_ <;> simp
end Go.Proofs.Ytnoklmapofogeaa
namespace Go.Proofs.Ytnoklmapofogeaa
open Go Go.Pv
def seqGo : List Fm → Nat → Int × Int
 | [], _ => (0, 0)
 | f :: r, i => if (plainF f).1 ≠ 0 then ((plainF f).1, (i : Int)) else seqGo r (i + 1)
def sequentF (l r : List Fm) : Int × Int := if 60 < l.length + r.length then (2, 0) else seqGo (l ++ r) 0
theorem plainL_sgl (f : Fm) : plainL [f] = if (plainF f).1 ≠ 0 then plainF f else (0, 0) := rfl
def x30_T1 : XC := .seq (.reg [⟨some 38,.build 33 #[],none⟩,⟨none,.store 33 (.tmp 2) (.tmp 38),none⟩]) .ret
def x30_L0 : XC := .seq (.reg [⟨some 23,.binOp .lss 3 (.tmp 22) (.tmp 21) 3,none⟩]) (.seq (.cond (.tmp 23) .skip (.exit 0)) (.seq (.block 1 (.seq (.reg [⟨some 24,.move (.tmp 22),none⟩,⟨some 25,.indexAddr 22 (.tmp 20) (.tmp 22),none⟩,⟨some 26,.load 24 (.tmp 25),none⟩,⟨some 4,.alloc 24,none⟩,⟨some 3,.assign (.tmp 24),none⟩,⟨none,.store 24 (.tmp 4) (.tmp 26),none⟩]) (.seq (.reg [⟨some 27,.load 24 (.tmp 4),none⟩,⟨some 28,.buildSlice 22 1 #[(0,.tmp 27)],none⟩,⟨some 29,.call ⟨.value (.func 70),#[.tmp 28],#[22]⟩,none⟩,⟨some 5,.alloc 33,none⟩,⟨none,.store 33 (.tmp 5) (.tmp 29),none⟩]) (.seq (.reg [⟨some 30,.fieldAddr 33 (.tmp 5) 0,none⟩,⟨some 31,.load 3 (.tmp 30),none⟩,⟨some 32,.binOp .neq 3 (.tmp 31) (.const (.int .i64 0)) 3,none⟩]) (.cond (.tmp 32) (.seq (.reg [⟨some 33,.fieldAddr 33 (.tmp 5) 0,none⟩,⟨some 34,.load 3 (.tmp 33),none⟩,⟨some 35,.move (.tmp 3),none⟩,⟨some 36,.call ⟨.value (.func 68),#[.tmp 34,.tmp 35],#[3,3]⟩,none⟩,⟨none,.store 33 (.tmp 2) (.tmp 36),none⟩]) .ret) .skip))))) (.reg [⟨some 37,.binOp .add 3 (.tmp 22) (.const (.int .i64 1)) 3,none⟩,⟨some 22,.move (.tmp 37),none⟩])))
def x30 : XC := .seq (.reg [⟨some 1,.box 26 (.tmp 0),none⟩,⟨some 2,.alloc 33,none⟩]) (.seq (.seq (.reg [⟨some 6,.fieldAddr 26 (.tmp 1) 0,none⟩,⟨some 7,.load 22 (.tmp 6),none⟩,⟨some 8,.call ⟨.builtin .len,#[.tmp 7],#[22]⟩,none⟩,⟨some 9,.fieldAddr 26 (.tmp 1) 1,none⟩,⟨some 10,.load 22 (.tmp 9),none⟩,⟨some 11,.call ⟨.builtin .len,#[.tmp 10],#[22]⟩,none⟩,⟨some 12,.binOp .add 3 (.tmp 8) (.tmp 11) 3,none⟩,⟨some 13,.binOp .gtr 3 (.tmp 12) (.const (.int .i64 60)) 3,none⟩]) (.cond (.tmp 13) (.seq (.reg [⟨some 14,.call ⟨.value (.func 68),#[.const (.int .i64 2),.const (.int .i64 0)],#[3,3]⟩,none⟩,⟨none,.store 33 (.tmp 2) (.tmp 14),none⟩]) .ret) .skip)) (.seq (.seq (.reg [⟨some 15,.fieldAddr 26 (.tmp 1) 0,none⟩,⟨some 16,.load 22 (.tmp 15),none⟩,⟨some 17,.fieldAddr 26 (.tmp 1) 1,none⟩,⟨some 18,.load 22 (.tmp 17),none⟩,⟨some 19,.buildSlice 114 2 #[(0,.tmp 16),(1,.tmp 18)],none⟩,⟨some 20,.call ⟨.value (.func 69),#[.tmp 19],#[114]⟩,none⟩,⟨some 21,.call ⟨.builtin .len,#[.tmp 20],#[22]⟩,none⟩,⟨some 22,.move (.const (.int .i64 0)),none⟩]) (.bloop 0 x30_L0)) (x30_T1)))
@[simp] theorem x30_s {C e s K} : type_of% (@X_at C e s K _ _ x30_T1.eq_1) ∧ type_of% (@X_at C e s K _ _ x30_L0.eq_1) ∧ type_of% (@X_at C e s K _ _ x30.eq_1) := ⟨X_at x30_T1.eq_1, X_at x30_L0.eq_1, X_at x30.eq_1⟩
def an30 : Ann := ⟨[], [(0, [], [2, 20, 21, 22], [2])], []⟩
@[simp] theorem an30_a : an30.loopOf 0 = ([], [2, 20, 21, 22], [2]) := rfl
theorem fi30 : FI Try.prog 30 (cxA an30) x30 [.cell 2 33] Try.f30 := fiA Try.func30 mixed
theorem CheckSequent_calculus (l r : List Fm) (hl : l.length ≤ 50000) (hr : r.length ≤ 50000) : CallOK Try.prog 30 [.agg [.list (l.map frm), .list (r.map frm)]] [] (.agg [.int .i64 (sequentF l r).1, .int .i64 (sequentF l r).2]) [] := by
 refine fi30.op ?_
 unfold sequentF
 by_cases h6 : 60 < l.length + r.length
 ·have h6i : (60 : Int) < (l.length : Int) + (r.length : Int) := by omega
  rw [if_pos h6]
  ((refine Sg.h ?_); try repeat' ((first | (with_reducible first | refine brA ?_ | refine brE fun _ => ?_ | (refine spl ⟨?_, ?_⟩ <;> intro _)) | refine clo (fault_calculus 2 0) ?_) <;> ((try simp -implicitDefEqProofs [h6i]); (try simp -implicitDefEqProofs (disch := first | assumption | (try simp only [lens]); omega -splitDisjunctions) [h6i]))))
 ·have h6i : ¬ (60 : Int) < (l.length : Int) + (r.length : Int) := by omega
  rw [if_neg h6]
  have hc := Concat_fms [l, r] (by simp) (by simp; omega)
  rw [show [l, r].flatten = l ++ r from by simp] at hc
  simp only [List.map_cons, List.map_nil] at hc
  have hL : (l ++ r).length ≤ 60 := by simp; omega
  generalize hE : seqGo (l ++ r) 0 = E
  generalize l ++ r = L at *
  ((refine Sg.h ?_); try repeat' ((first | (with_reducible first | refine brA ?_ | refine brE fun _ => ?_ | (refine spl ⟨?_, ?_⟩ <;> intro _))) <;> ((try simp -implicitDefEqProofs [h6i]); (try simp -implicitDefEqProofs (disch := first | assumption | (try simp only [lens]); omega -splitDisjunctions) [h6i]))))
  refine CL.giv [2] ?_
  ((refine Sg.h ?_); try repeat' ((first | (with_reducible first | refine brA ?_ | refine brE fun _ => ?_ | (refine spl ⟨?_, ?_⟩ <;> intro _)) | refine clo hc ?_) <;> ((try simp -implicitDefEqProofs); (try simp -implicitDefEqProofs (disch := first | assumption | (try simp only [lens]); omega -splitDisjunctions)))))
  refine W_of fun Q hQ => ?_
  have main : ∀ n i, i + n = L.length → seqGo (L.drop i) i = E → Q [(2, .ptr 0 0 0), (20, .list (L.map frm)), (21, .int .i64 (L.length : Int)), (22, .int .i64 (i : Int))] [.rows 2 [[.int .i64 0, .int .i64 0]]] := by
   intro n
   induction n with
   | zero =>
    intro i hi he
    rw [List.drop_of_length_le (by omega), seqGo] at he
    apply hQ
    clear hQ
    subst he
    ((refine Sg.h ?_); try repeat' ((first | (with_reducible first | refine brA ?_ | refine brE fun _ => ?_ | (refine spl ⟨?_, ?_⟩ <;> intro _))) <;> ((try simp -implicitDefEqProofs); (try simp -implicitDefEqProofs (disch := first | assumption | (try simp only [lens]); omega -splitDisjunctions)))))
   | succ n ih =>
    intro i hi he
    have hil : i < L.length := by omega
    have ih := ih (i + 1) (by omega)
    rw [List.drop_eq_getElem_cons hil, seqGo] at he
    have hp := Plain_truth [L[i]] (by simp)
    rw [plainL_sgl] at hp
    apply hQ
    clear hQ
    by_cases h0 : (plainF L[i]).1 = 0
    ·rw [if_neg (by simpa using h0)] at he hp
     have ih := ih he
     ((refine Sg.h ?_); try repeat' ((first | (with_reducible first | refine brA ?_ | refine brE fun _ => ?_ | (refine spl ⟨?_, ?_⟩ <;> intro _))) <;> ((try simp -implicitDefEqProofs [hil]); (try simp -implicitDefEqProofs (disch := first | assumption | (try simp only [lens]); omega -splitDisjunctions) [hil]))))
     refine CL.giv [2] ?_
     ((refine Sg.h ?_); try repeat' ((first | (with_reducible first | refine brA ?_ | refine brE fun _ => ?_ | (refine spl ⟨?_, ?_⟩ <;> intro _)) | refine clo hp ?_) <;> ((try simp -implicitDefEqProofs [hil]); (try simp -implicitDefEqProofs (disch := first | assumption | (try simp only [lens]); omega -splitDisjunctions) [hil]))))
     all_goals first | exact ih | (refine at2 ih ?_ ?_ <;> simp; done) | (exfalso; first | omega | (simp_all; done) | (simp_all; omega))
    ·rw [if_pos (by simpa using h0)] at he hp
     have hf := fault_calculus (plainF L[i]).1 (i : Int)
     subst he
     generalize plainF L[i] = P at *
     ((refine Sg.h ?_); try repeat' ((first | (with_reducible first | refine brA ?_ | refine brE fun _ => ?_ | (refine spl ⟨?_, ?_⟩ <;> intro _))) <;> ((try simp -implicitDefEqProofs [hil]); (try simp -implicitDefEqProofs (disch := first | assumption | (try simp only [lens]); omega -splitDisjunctions) [hil]))))
     refine CL.giv [2] ?_
     ((refine Sg.h ?_); try repeat' ((first | (with_reducible first | refine brA ?_ | refine brE fun _ => ?_ | (refine spl ⟨?_, ?_⟩ <;> intro _)) | refine clo hp ?_ | refine clo hf ?_) <;> ((try simp -implicitDefEqProofs [h0]); (try simp -implicitDefEqProofs (disch := first | assumption | (try simp only [lens]); omega -splitDisjunctions) [h0]))))
  all_goals first | exact main _ 0 (Nat.zero_add _) hE | (refine at2 main _ 0 (Nat.zero_add _) hE ?_ ?_ <;> simp; done) | (exfalso; first | omega | (simp_all; done) | (simp_all; omega))
end Go.Proofs.Ytnoklmapofogeaa
namespace Go.Pv
open Go
theorem RetView.frz {m : Nat} (F : List Nat) (v : PV) (s : Store) : RetView m v s (frzV F s v) (s.mapIdx (frzO F s)) := by
 intro C pub σ w cv hC hs hr
 have her : ER pub σ 1 (envOf [(0, v)]) { tmps := #[cv], defers := [] } := by
  refine ⟨rfl, rfl, fun t => ?_⟩
  by_cases ht : t = 0
  ·subst ht; simpa [envOf] using hr
  ·have : envOf [(0, v)] t = .any := by simp [envOf, ht]
   rw [this]; exact .any
 obtain ⟨p, q, h1, h2⟩ := withFrz_view (m := m) F [(0, v)] C pub σ _ w 1 hC hs her
 exact ⟨p, q, h1, by simpa [withFrz, envOf, frzV] using h2.rel 0⟩
def OZ (F : List Nat) (m : Nat) (v : PV) (s' : Store) (v1 : PV) (s1 : Store) : Prop := gcFin m v s' (frzV F s1 v1) (s1.mapIdx (frzO F s1))
def ozFin (m : Nat) (v : PV) (s' : Store) (v1 : PV) (s1 : Store) : Prop := OZ (grow s1 64 ((refsN 4 v1).filter fun r => !r.2) []) m v s' v1 s1
@[simp] theorem ozFin_eq {m : Nat} {v v1 : PV} {s1 s' : Store} : ozFin m v s' v1 s1 = OZ (grow s1 64 ((refsN 4 v1).filter fun r => !r.2) []) m v s' v1 s1 := rfl
theorem frzV_nil {s : Store} {v : PV} : frzV [] s v = v := by unfold frzV; simp
theorem frzO_nil {s : Store} {i : Nat} {o : PObj} : frzO [] s i o = o := by
 unfold frzO
 have h : frzV [] s = id := by funext v; exact frzV_nil
 have h2 : List.map (frzV [] s) = id := by rw [h]; funext l; simp
 rw [if_neg (by simp)]
 cases o <;> simp [h, h2]
@[simp] theorem OZ_nil {m : Nat} {v v1 : PV} {s1 s' : Store} : OZ [] m v s' v1 s1 = gcFin m v s' v1 s1 := by
 unfold OZ
 have : s1.mapIdx (frzO [] s1) = s1 := by
  apply List.ext_getElem?
  intro i
  rw [List.getElem?_mapIdx]
  cases s1[i]? <;> simp [frzO_nil]
 rw [frzV_nil, this]
@[simp] theorem OZ_cons {i : Nat} {F : List Nat} {m : Nat} {v v1 : PV} {s1 s' : Store} : OZ (i :: F) m v s' v1 s1 = gcFin m v s' (frzV (i :: F) s1 v1) (s1.mapIdx (frzO (i :: F) s1)) := rfl
theorem ozFin_ret {m : Nat} {v v1 : PV} {s1 s' : Store} (h : ozFin m v s' v1 s1) : RetView m v1 s1 v s' := RetView.trans (RetView.frz _ _ _) (gcFin_ret h)
theorem FI.oz {P : Program} {F : FuncId} {C : Program → Nat → WC} {x : XC} {rs : List ResultVar} {fn : Func} (i : FI P F C x rs fn) {args : List PV} {v : PV} {s s' : Store} (h : X (C P s.length) x (argsA 0 args) s (.fin rs (ozFin s.length v s'))) (hl : Nat.ble args.length fn.ntmps = true := by exact rfl) : CallOK P F args s v s' :=
 FI.ops i _ (fun v1 s1 h => ozFin_ret h) h hl
section
variable {C : WC} {d : Option Tmp} {fid : FuncId} {vs : List PV} {e : AE} {s s2 : Store} {K : KS} {v : PV} {t : RT}
theorem CT.of [EnT C.P fid] (hc : CallOK C.P fid vs s v s2) (hk : TR C t (updA e d v) s2 K) : CT C d (some (fid, vs)) t e s K := ⟨fid, vs, v, s2, rfl, EnT.h, hc, hk⟩
theorem CT.sub [EnT C.P fid] (ρ : List Nat) (hc : CallOK C.P fid (vs.map (renN ρ 4)) (liveS ρ s ρ) v s2) (hk : TR C t (updA e d (upN (ρ ++ List.range' s.length (s2.length - ρ.length)) 4 v)) (backS ρ s s2) K)
  (hnd : ρ.Nodup := by simp) (hin : ∀ i ∈ ρ, i < s.length := by simp) (hlen : ρ.length ≤ s2.length := by simp) : CT C d (some (fid, vs)) t e s K := by
 refine ⟨fid, vs, _, _, rfl, EnT.h, CallOK.sub ρ hnd hin hlen ?_, hk⟩
 have : ∀ L : List Nat, liveS ρ s L = L.map fun i => renObj ρ ((s[i]?).getD .dead) := by
  intro L; induction L with
  | nil => rfl
  | cons i r ih => rw [liveS, ih]; rfl
 rwa [← this]
end
def killO (D : List Nat) (i : Nat) (o : PObj) : PObj := if i ∈ D then .dead else o
theorem RetView.kill {m : Nat} (D : List Nat) (v : PV) (s : Store) : RetView m v s v (s.mapIdx (killO D)) := by
 intro C pub σ w cv hC hs hr
 refine ⟨pub, σ, hs.sub (by simp) fun k o h hd => ?_, hr⟩
 rw [List.getElem?_mapIdx] at h
 cases hk : s[k]? with
 | none => rw [hk] at h; cases h
 | some o1 =>
  rw [hk] at h
  simp only [Option.map_some, Option.some.injEq] at h
  unfold killO at h
  split at h
  ·exact absurd h.symm hd
  ·rw [h]
def odFin (D : List Nat) (m : Nat) (v : PV) (s' : Store) (v1 : PV) (s1 : Store) : Prop := ozFin m v s' v1 (s1.mapIdx (killO D))
@[simp] theorem odFin_eq {D : List Nat} {m : Nat} {v v1 : PV} {s1 s' : Store} : odFin D m v s' v1 s1 = ozFin m v s' v1 (s1.mapIdx (killO D)) := rfl
@[simp] theorem killO_eq {D : List Nat} {i : Nat} {o : PObj} : killO D i o = if i ∈ D then .dead else o := rfl
theorem FI.od {P : Program} {F : FuncId} {C : Program → Nat → WC} {x : XC} {rs : List ResultVar} {fn : Func} (i : FI P F C x rs fn) (D : List Nat) {args : List PV} {v : PV} {s s' : Store} (h : X (C P s.length) x (argsA 0 args) s (.fin rs (odFin D s.length v s'))) (hl : Nat.ble args.length fn.ntmps = true := by exact rfl) : CallOK P F args s v s' :=
 FI.ops i _ (fun v1 s1 h => RetView.trans (RetView.kill D _ _) (ozFin_ret h)) h hl
end Go.Pv
