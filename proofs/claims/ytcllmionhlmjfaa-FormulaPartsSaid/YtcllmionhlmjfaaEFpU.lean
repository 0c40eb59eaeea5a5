import Derived.Test.YtcllmionhlmjfaaEModE
import Derived.Test.YtcllmionhlmjfaaEBtW
import Derived.Test.YtcllmionhlmjfaaEQMA
import Derived.Test.YtcllmionhlmjfaaENmP
set_option linter.unusedVariables false
set_option linter.unusedSimpArgs false
set_option maxRecDepth 100000
set_option maxHeartbeats 4000000
namespace Go.Proofs.Ytcllmionhlmjfaa
open Go Go.Pv
def x15 : XC := .seq (.reg [⟨some 1,.box 24 (.tmp 0),none⟩,⟨some 2,.assign (.const (.string ⟨#[]⟩)),none⟩,⟨some 3,.alloc 29,none⟩]) (.seq (.seq (.reg [⟨some 5,.load 24 (.tmp 1),none⟩,⟨some 6,.call ⟨.value (.func 14),#[.tmp 5],#[24]⟩,none⟩,⟨some 4,.alloc 29,none⟩,⟨none,.store 29 (.tmp 4) (.tmp 6),none⟩]) (.seq (.reg [⟨some 7,.fieldAddr 29 (.tmp 4) 0,none⟩,⟨some 8,.load 3 (.tmp 7),none⟩,⟨some 9,.binOp .neq 3 (.tmp 8) (.const (.int .i64 0)) 3,none⟩]) (.cond (.tmp 9) (.seq (.drawn 3 [⟨some 10,.load 29 (.tmp 4),none⟩,⟨some 2,.assign (.const (.string ⟨#[]⟩)),none⟩,⟨none,.store 29 (.tmp 3) (.tmp 10),none⟩]) .ret) .skip))) (.seq (.reg [⟨some 11,.load 24 (.tmp 1),none⟩,⟨some 12,.call ⟨.value (.func 52),#[.tmp 11],#[24]⟩,none⟩,⟨some 13,.build 29 #[],none⟩,⟨some 2,.assign (.tmp 12),none⟩,⟨none,.store 29 (.tmp 3) (.tmp 13),none⟩]) .ret))
@[simp] theorem x15_s {C e s K} : type_of% (@X_at C e s K _ _ x15.eq_1) := X_at x15.eq_1
def an15 : Ann := ⟨[], [], []⟩
@[simp] theorem an15_a : an15.clsOf 3 = .draw ∧ an15.frzOf 3 = [] := ⟨rfl, rfl⟩
theorem fi15 : FI Try.prog 15 (cxA an15) x15 [.tmp 2, .cell 3 29] Try.f15 := fiA Try.func15 mixed
theorem Print_ok (f : Fm) (h : formulaCheck f = (0, 0)) (hf : OkF (fun n => isNameB n = true) f) (hl : (pre f).length ≤ 1000) : CallOK Try.prog 15 [.agg (frm f)] [] (.tuple [.str (said f 1), .agg [.int .i64 0, .int .i64 0]]) [] := by
 have h1 := check_formula f []
 rw [h] at h1
 have h2 := Said_formula f hf hl
 generalize said f 1 = s at *
 refine fi15.op ?_
 ((refine Sg.h ?_); try repeat' ((first | (with_reducible first | refine brA ?_ | refine brE fun _ => ?_ | (refine spl ⟨?_, ?_⟩ <;> intro _)) | refine clo h1 ?_ | refine clo h2 ?_) <;> ((try simp -implicitDefEqProofs); (try simp -implicitDefEqProofs (disch := first | assumption | (try simp only [lens]); omega -splitDisjunctions)))))
def x37 : XC := .seq (.reg [⟨some 1,.box 24 (.tmp 0),none⟩,⟨some 2,.assign (.const (.slice none 0 0)),none⟩,⟨some 3,.alloc 29,none⟩]) (.seq (.seq (.reg [⟨some 5,.load 24 (.tmp 1),none⟩,⟨some 6,.call ⟨.value (.func 14),#[.tmp 5],#[24]⟩,none⟩,⟨some 4,.alloc 29,none⟩,⟨none,.store 29 (.tmp 4) (.tmp 6),none⟩]) (.seq (.reg [⟨some 7,.fieldAddr 29 (.tmp 4) 0,none⟩,⟨some 8,.load 3 (.tmp 7),none⟩,⟨some 9,.binOp .neq 3 (.tmp 8) (.const (.int .i64 0)) 3,none⟩]) (.cond (.tmp 9) (.seq (.drawn 3 [⟨some 10,.load 29 (.tmp 4),none⟩,⟨some 2,.assign (.const (.slice none 0 0)),none⟩,⟨none,.store 29 (.tmp 3) (.tmp 10),none⟩]) .ret) .skip))) (.seq (.reg [⟨some 11,.load 24 (.tmp 1),none⟩,⟨some 12,.buildSlice 22 1 #[(0,.tmp 11)],none⟩,⟨some 13,.call ⟨.value (.func 76),#[.tmp 12],#[22]⟩,none⟩,⟨some 14,.build 29 #[],none⟩,⟨some 2,.assign (.tmp 13),none⟩,⟨none,.store 29 (.tmp 3) (.tmp 14),none⟩]) .ret))
@[simp] theorem x37_s {C e s K} : type_of% (@X_at C e s K _ _ x37.eq_1) := X_at x37.eq_1
def an37 : Ann := ⟨[], [], []⟩
@[simp] theorem an37_a : an37.clsOf 3 = .draw ∧ an37.frzOf 3 = [] := ⟨rfl, rfl⟩
theorem fi37 : FI Try.prog 37 (cxA an37) x37 [.tmp 2, .cell 3 29] Try.f37 := fiA Try.func37 mixed
theorem Names_bad (f : Fm) (h : (formulaCheck f).1 ≠ 0) : CallOK Try.prog 37 [.agg (frm f)] [] (.tuple [.nilsl, .agg [.int .i64 (formulaCheck f).1, .int .i64 (formulaCheck f).2]]) [] := by
 have h1 := check_formula f []
 generalize (formulaCheck f).1 = c at *
 generalize (formulaCheck f).2 = a at *
 refine fi37.op ?_
 ((refine Sg.h ?_); try repeat' ((first | (with_reducible first | refine brA ?_ | refine brE fun _ => ?_ | (refine spl ⟨?_, ?_⟩ <;> intro _)) | refine clo h1 ?_) <;> ((try simp -implicitDefEqProofs [h]); (try simp -implicitDefEqProofs (disch := first | assumption | (try simp only [lens]); omega -splitDisjunctions) [h]))))
theorem Names_ok (f : Fm) (h : formulaCheck f = (0, 0)) : CallOK Try.prog 37 [.agg (frm f)] [] (.tuple [.list ((namesS [f]).map strRow), .agg [.int .i64 0, .int .i64 0]]) [] := by
 have h1 := check_formula f []
 rw [h] at h1
 have h2 := names_formula [f] (by simp)
 generalize namesS [f] = s at *
 refine fi37.op ?_
 ((refine Sg.h ?_); try repeat' ((first | (with_reducible first | refine brA ?_ | refine brE fun _ => ?_ | (refine spl ⟨?_, ?_⟩ <;> intro _)) | refine clo h1 ?_) <;> ((try simp -implicitDefEqProofs); (try simp -implicitDefEqProofs (disch := first | assumption | (try simp only [lens]); omega -splitDisjunctions)))))
 refine CL.giv [3] ?_
 ((refine Sg.h ?_); try repeat' ((first | (with_reducible first | refine brA ?_ | refine brE fun _ => ?_ | (refine spl ⟨?_, ?_⟩ <;> intro _)) | refine clo h2 ?_) <;> ((try simp -implicitDefEqProofs); (try simp -implicitDefEqProofs (disch := first | assumption | (try simp only [lens]); omega -splitDisjunctions)))))
def x75_T1 : XC := .seq (.reg [⟨some 43,.load 24 (.tmp 7),none⟩,⟨none,.store 24 (.tmp 6) (.tmp 43),none⟩]) .ret
def x75_L0 : XC := .seq (.reg [⟨some 30,.binOp .lss 3 (.tmp 29) (.tmp 28) 3,none⟩]) (.seq (.cond (.tmp 30) .skip (.exit 0)) (.seq (.block 1 (.seq (.reg [⟨some 31,.indexAddr 22 (.tmp 27) (.tmp 29),none⟩,⟨some 32,.load 24 (.tmp 31),none⟩,⟨some 9,.alloc 24,none⟩,⟨none,.store 24 (.tmp 9) (.tmp 32),none⟩]) (.drawn 7 [⟨some 33,.fieldAddr 24 (.tmp 7) 2,none⟩,⟨some 34,.load 22 (.tmp 33),none⟩,⟨some 35,.load 24 (.tmp 9),none⟩,⟨some 36,.move (.tmp 1),none⟩,⟨some 37,.load 24 (.tmp 5),none⟩,⟨some 38,.call ⟨.value (.func 75),#[.tmp 35,.tmp 36,.tmp 37],#[24,9,24]⟩,none⟩,⟨some 39,.buildSlice 22 1 #[(0,.tmp 38)],none⟩,⟨some 40,.call ⟨.builtin .append,#[.tmp 34,.tmp 39],#[22,22]⟩,none⟩,⟨some 41,.fieldAddr 24 (.tmp 7) 2,none⟩,⟨none,.store 22 (.tmp 41) (.tmp 40),none⟩]))) (.reg [⟨some 42,.binOp .add 3 (.tmp 29) (.const (.int .i64 1)) 3,none⟩,⟨some 29,.move (.tmp 42),none⟩])))
def x75 : XC := .seq (.reg [⟨some 3,.box 24 (.tmp 0),none⟩,⟨some 5,.box 24 (.tmp 2),none⟩,⟨some 6,.alloc 24,none⟩]) (.seq (.seq (.reg [⟨some 10,.fieldAddr 24 (.tmp 3) 0,none⟩,⟨some 11,.load 3 (.tmp 10),none⟩,⟨some 12,.binOp .eql 3 (.tmp 11) (.const (.int .i64 1)) 3,none⟩,⟨some 13,.move (.tmp 12),none⟩,⟨some 14,.fieldAddr 24 (.tmp 3) 1,some (some 13,true)⟩,⟨some 15,.load 9 (.tmp 14),some (some 13,true)⟩,⟨some 16,.move (.tmp 1),some (some 13,true)⟩,⟨some 17,.binOp .eql 9 (.tmp 15) (.tmp 16) 9,some (some 13,true)⟩,⟨some 18,.pick (.tmp 13) (.tmp 17) (.const (.bool false)),none⟩]) (.cond (.tmp 18) (.seq (.reg [⟨some 19,.load 24 (.tmp 5),none⟩,⟨some 20,.call ⟨.value (.func 102),#[.tmp 19],#[24]⟩,none⟩,⟨none,.store 24 (.tmp 6) (.tmp 20),none⟩]) .ret) .skip)) (.seq (.reg [⟨some 21,.fieldAddr 24 (.tmp 3) 0,none⟩,⟨some 22,.load 3 (.tmp 21),none⟩,⟨some 23,.fieldAddr 24 (.tmp 3) 1,none⟩,⟨some 24,.load 9 (.tmp 23),none⟩,⟨some 25,.build 24 #[(0,.tmp 22),(1,.tmp 24)],none⟩,⟨some 7,.alloc 24,none⟩,⟨none,.store 24 (.tmp 7) (.tmp 25),none⟩]) (.seq (.seq (.reg [⟨some 26,.fieldAddr 24 (.tmp 3) 2,none⟩,⟨some 27,.load 22 (.tmp 26),none⟩,⟨some 28,.call ⟨.builtin .len,#[.tmp 27],#[22]⟩,none⟩,⟨some 29,.move (.const (.int .i64 0)),none⟩]) (.bloop 0 x75_L0)) (x75_T1))))
@[simp] theorem x75_s {C e s K} : type_of% (@X_at C e s K _ _ x75_T1.eq_1) ∧ type_of% (@X_at C e s K _ _ x75_L0.eq_1) ∧ type_of% (@X_at C e s K _ _ x75.eq_1) := ⟨X_at x75_T1.eq_1, X_at x75_L0.eq_1, X_at x75.eq_1⟩
def an75 : Ann := ⟨[(7, .mix 7)], [(0, [(7, some 2, 3)], [1, 5, 6, 7, 27, 28, 29], [6, 7])], []⟩
@[simp] theorem an75_a : an75.clsOf 7 = .mix 7 ∧ an75.frzOf 7 = [] ∧ an75.loopOf 0 = ([(7, some 2, 3)], [1, 5, 6, 7, 27, 28, 29], [6, 7]) := ⟨rfl, rfl, rfl⟩
theorem fi75 : FI Try.prog 75 (cxA an75) x75 [.cell 6 24] Try.f75 := fiA Try.func75 mixed
theorem put_formula (nm : ByteArray) (g : Fm) (hg : OkF (fun n => isNameB n = true) g) (f : Fm) (hf : OkF (fun n => isNameB n = true) f) : CallOK Try.prog 75 [.agg (frm f), .str nm, .agg (frm g)] [] (.agg (frm (withF nm g f))) [] := by
 have hcp := Copy_formula g hg
 induction f using Fm.ind with
 | h f ih =>
  have ih := fun x hx => ih x hx (hf.kid hx)
  have hkl := hf.kids_le
  rw [withF_eq]
  refine fi75.os ?_
  by_cases hc : f.kind = 1 ∧ f.name = nm
  ·rw [if_pos hc]
   ((refine Sg.h ?_); try repeat' ((first | (with_reducible first | refine brA ?_ | refine brE fun _ => ?_ | (refine spl ⟨?_, ?_⟩ <;> intro _)) | refine clo hcp ?_) <;> ((try simp -implicitDefEqProofs [hc.1, hc.2]); (try simp -implicitDefEqProofs (disch := first | assumption | (try simp only [lens]); omega -splitDisjunctions) [hc.1, hc.2]))))
  ·rw [if_neg hc]
   have key : W ((cxA an75) Try.prog 0) 0 x75_L0 (KS.seq x75_T1 (KS.fin [ResultVar.cell 6 24] fun v1 s1 => softV (deref s1 6 v1) = PV.agg (frm (Fm.mk f.kind f.name (List.map (withF nm g) f.kids))))) [(1, PV.str nm), (5, PV.ptr 0 0 0), (6, PV.ptr 1 0 0), (7, PV.ptr 2 0 0), (27, PV.list (List.map frm f.kids)), (28, PV.int IntKind.i64 (f.kids.length : Int)), (29, PV.int IntKind.i64 0)] [PObj.rows 3 [frm g], PObj.rows 3 [[PV.int IntKind.i64 0, PV.str { data := #[] }, PV.nilsl]], PObj.rows 3 [[PV.int IntKind.i64 f.kind, PV.str f.name, PV.sl 3 0 0]], PObj.rows 3 []] := by
    refine W_of fun Q hQ => ?_
    have main : ∀ r i, i + r = f.kids.length → Q [(1, PV.str nm), (5, PV.ptr 0 0 0), (6, PV.ptr 1 0 0), (7, PV.ptr 2 0 0), (27, PV.list (List.map frm f.kids)), (28, PV.int IntKind.i64 (f.kids.length : Int)), (29, PV.int IntKind.i64 (i : Int))] [PObj.rows 3 [frm g], PObj.rows 3 [[PV.int IntKind.i64 0, PV.str { data := #[] }, PV.nilsl]], PObj.rows 3 [[PV.int IntKind.i64 f.kind, PV.str f.name, PV.sl 3 0 i]], PObj.rows 3 (((f.kids.take i).map (withF nm g)).map frm)] := by
     intro r
     induction r with
     | zero =>
      intro i hi
      obtain rfl : i = f.kids.length := by omega
      rw [List.take_length]
      apply hQ
      clear hQ
      rw [frm_eq (Fm.mk _ _ _)]
      ((refine Sg.h ?_); try repeat' ((first | (with_reducible first | refine brA ?_ | refine brE fun _ => ?_ | (refine spl ⟨?_, ?_⟩ <;> intro _))) <;> ((try simp -implicitDefEqProofs); (try simp -implicitDefEqProofs (disch := first | assumption | (try simp only [lens]); omega -splitDisjunctions)))))
     | succ r ihr =>
      intro i hi
      have hik : i < f.kids.length := by omega
      have ihr := ihr (i + 1) (by omega)
      have hc := ih f.kids[i] (List.getElem_mem hik)
      rw [take_snoc hik, List.map_append, List.map_append, List.map_cons, List.map_nil] at ihr
      apply hQ
      clear hQ
      ((refine Sg.h ?_); try repeat' ((first | (with_reducible first | refine brA ?_ | refine brE fun _ => ?_ | (refine spl ⟨?_, ?_⟩ <;> intro _)) | refine clo hc ?_) <;> ((try simp -implicitDefEqProofs [hik]); (try simp -implicitDefEqProofs (disch := first | assumption | (try simp only [lens]); omega -splitDisjunctions) [hik]))))
      all_goals first | exact ihr | (refine at2 ihr ?_ ?_ <;> simp; done) | (exfalso; first | omega | (simp_all; done) | (simp_all; omega))
    refine at2 (main _ 0 (Nat.zero_add _)) ?_ ?_ <;> simp
   by_cases h1 : f.kind = 1
   ·have h2 : ¬ f.name = nm := fun h => hc ⟨h1, h⟩
    have h1 : (f.kind = 1) = True := eq_true h1
    have h2 : (f.name = nm) = False := eq_false h2
    ((refine Sg.h ?_); try repeat' ((first | (with_reducible first | refine brA ?_ | refine brE fun _ => ?_ | (refine spl ⟨?_, ?_⟩ <;> intro _))) <;> ((try simp -implicitDefEqProofs [h1, h2]); (try simp -implicitDefEqProofs (disch := first | assumption | (try simp only [lens]); omega -splitDisjunctions) [h1, h2]))))
    all_goals exact key
   ·have h1 : (f.kind = 1) = False := eq_false h1
    ((refine Sg.h ?_); try repeat' ((first | (with_reducible first | refine brA ?_ | refine brE fun _ => ?_ | (refine spl ⟨?_, ?_⟩ <;> intro _))) <;> ((try simp -implicitDefEqProofs [h1]); (try simp -implicitDefEqProofs (disch := first | assumption | (try simp only [lens]); omega -splitDisjunctions) [h1]))))
    all_goals exact key
def putV (nm : ByteArray) (f g : Fm) : Fm × Int × Int :=
 if (formulaCheck f).1 ≠ 0 then (.mk 0 ⟨#[]⟩ [], formulaCheck f) else if (formulaCheck g).1 ≠ 0 then (.mk 0 ⟨#[]⟩ [], formulaCheck g) else if isNameB nm = false then (.mk 0 ⟨#[]⟩ [], 8, 0)
 else if 200 < (nodesGo 201 201 [withF nm g f]).length then (.mk 0 ⟨#[]⟩ [], 10, 0) else (withF nm g f, 0, 0)
def x35_T1 : XC := .seq (.seq (.reg [⟨some 28,.move (.tmp 1),none⟩,⟨some 29,.call ⟨.value (.func 51),#[.tmp 28],#[9]⟩,none⟩,⟨some 30,.unOp .not 4 (.tmp 29),none⟩]) (.cond (.tmp 30) (.seq (.reg [⟨some 31,.build 24 #[],none⟩,⟨some 32,.call ⟨.value (.func 50),#[.const (.int .i64 8),.const (.int .i64 0)],#[3,3]⟩,none⟩,⟨none,.store 24 (.tmp 6) (.tmp 31),none⟩,⟨none,.store 29 (.tmp 7) (.tmp 32),none⟩]) .ret) .skip)) (.seq (.reg [⟨some 33,.load 24 (.tmp 3),none⟩,⟨some 34,.move (.tmp 1),none⟩,⟨some 35,.load 24 (.tmp 5),none⟩,⟨some 36,.call ⟨.value (.func 75),#[.tmp 33,.tmp 34,.tmp 35],#[24,9,24]⟩,none⟩,⟨some 11,.alloc 24,none⟩,⟨none,.store 24 (.tmp 11) (.tmp 36),none⟩]) (.seq (.seq (.reg [⟨some 37,.load 24 (.tmp 11),none⟩,⟨some 38,.call ⟨.value (.func 48),#[.tmp 37,.const (.int .i64 201)],#[24,3]⟩,none⟩,⟨some 39,.call ⟨.builtin .len,#[.tmp 38],#[22]⟩,none⟩,⟨some 40,.binOp .gtr 3 (.tmp 39) (.const (.int .i64 200)) 3,none⟩]) (.cond (.tmp 40) (.seq (.reg [⟨some 41,.build 24 #[],none⟩,⟨some 42,.call ⟨.value (.func 50),#[.const (.int .i64 10),.const (.int .i64 0)],#[3,3]⟩,none⟩,⟨none,.store 24 (.tmp 6) (.tmp 41),none⟩,⟨none,.store 29 (.tmp 7) (.tmp 42),none⟩]) .ret) .skip)) (.seq (.reg [⟨some 43,.load 24 (.tmp 11),none⟩,⟨some 44,.build 29 #[],none⟩,⟨none,.store 24 (.tmp 6) (.tmp 43),none⟩,⟨none,.store 29 (.tmp 7) (.tmp 44),none⟩]) .ret)))
def x35_L0 : XC := .seq (.reg [⟨some 17,.binOp .lss 3 (.tmp 16) (.tmp 15) 3,none⟩]) (.seq (.cond (.tmp 17) .skip (.exit 0)) (.seq (.block 1 (.seq (.reg [⟨some 18,.indexAddr 22 (.tmp 14) (.tmp 16),none⟩,⟨some 19,.load 24 (.tmp 18),none⟩,⟨some 9,.alloc 24,none⟩,⟨none,.store 24 (.tmp 9) (.tmp 19),none⟩]) (.seq (.reg [⟨some 20,.load 24 (.tmp 9),none⟩,⟨some 21,.call ⟨.value (.func 14),#[.tmp 20],#[24]⟩,none⟩,⟨some 10,.alloc 29,none⟩,⟨none,.store 29 (.tmp 10) (.tmp 21),none⟩]) (.seq (.reg [⟨some 22,.fieldAddr 29 (.tmp 10) 0,none⟩,⟨some 23,.load 3 (.tmp 22),none⟩,⟨some 24,.binOp .neq 3 (.tmp 23) (.const (.int .i64 0)) 3,none⟩]) (.cond (.tmp 24) (.seq (.drawn 6 [⟨some 25,.build 24 #[],none⟩,⟨some 26,.load 29 (.tmp 10),none⟩,⟨none,.store 24 (.tmp 6) (.tmp 25),none⟩,⟨none,.store 29 (.tmp 7) (.tmp 26),none⟩]) .ret) .skip))))) (.reg [⟨some 27,.binOp .add 3 (.tmp 16) (.const (.int .i64 1)) 3,none⟩,⟨some 16,.move (.tmp 27),none⟩])))
def x35 : XC := .seq (.reg [⟨some 3,.box 24 (.tmp 0),none⟩,⟨some 5,.box 24 (.tmp 2),none⟩,⟨some 6,.alloc 24,none⟩,⟨some 7,.alloc 29,none⟩]) (.seq (.seq (.reg [⟨some 12,.load 24 (.tmp 3),none⟩,⟨some 13,.load 24 (.tmp 5),none⟩,⟨some 14,.buildSlice 22 2 #[(0,.tmp 12),(1,.tmp 13)],none⟩,⟨some 15,.call ⟨.builtin .len,#[.tmp 14],#[22]⟩,none⟩,⟨some 16,.move (.const (.int .i64 0)),none⟩]) (.bloop 0 x35_L0)) (x35_T1))
@[simp] theorem x35_s {C e s K} : type_of% (@X_at C e s K _ _ x35_T1.eq_1) ∧ type_of% (@X_at C e s K _ _ x35_L0.eq_1) ∧ type_of% (@X_at C e s K _ _ x35.eq_1) := ⟨X_at x35_T1.eq_1, X_at x35_L0.eq_1, X_at x35.eq_1⟩
def an35 : Ann := ⟨[(6, .mix3 2 1)], [(0, [], [1, 3, 5, 6, 7, 14, 15, 16], [1, 3, 5, 6, 7])], []⟩
@[simp] theorem an35_a : an35.clsOf 6 = .mix3 2 1 ∧ an35.frzOf 6 = [] ∧ an35.loopOf 0 = ([], [1, 3, 5, 6, 7, 14, 15, 16], [1, 3, 5, 6, 7]) := ⟨rfl, rfl, rfl⟩
theorem fi35 : FI Try.prog 35 (cxA an35) x35 [.cell 6 24, .cell 7 29] Try.f35 := fiA Try.func35 mixed
theorem Put_formula (nm : ByteArray) (f g : Fm) : CallOK Try.prog 35 [.agg (frm f), .str nm, .agg (frm g)] [] (.tuple [.agg (frm (putV nm f g).1), .agg [.int .i64 (putV nm f g).2.1, .int .i64 (putV nm f g).2.2]]) [] := by
 refine fi35.os ?_
 have h1 := check_formula f []
 have h2 := check_formula g []
 have hN := isName_formula nm []
 have hf8 := fault_formula 8 0 []
 have hf10 := fault_formula 10 0 []
 obtain ⟨R, hR⟩ : ∃ R, putV nm f g = R := ⟨_, rfl⟩
 rw [hR]
 ((refine Sg.h ?_); try repeat' ((first | (with_reducible first | refine brA ?_ | refine brE fun _ => ?_ | (refine spl ⟨?_, ?_⟩ <;> intro _))) <;> ((try simp -implicitDefEqProofs); (try simp -implicitDefEqProofs (disch := first | assumption | (try simp only [lens]); omega -splitDisjunctions)))))
 refine W_of fun Q hQ => ?_
 have m2 : (formulaCheck f).1 = 0 → (formulaCheck g).1 = 0 → Q [(1, PV.str nm), (3, PV.ptr 0 0 0), (5, PV.ptr 1 0 0), (6, PV.ptr 2 0 0), (7, PV.ptr 3 0 0), (14, PV.sl 4 0 2), (15, PV.int IntKind.i64 2), (16, PV.int IntKind.i64 2)] [PObj.rows 3 [frm f], PObj.rows 3 [frm g], PObj.rows 3 [[PV.int IntKind.i64 0, PV.str { data := #[] }, PV.nilsl]], PObj.rows 2 [[PV.int IntKind.i64 0, PV.int IntKind.i64 0]], PObj.rows 3 [frm f, frm g]] := by
  intro c1 c2
  have hfz := (formulaCheck_iff f).1 c1
  have hgz := (formulaCheck_iff g).1 c2
  have hp := put_formula nm g (td_check c2).ok f (td_check c1).ok
  have hnd := nodes_formula (withF nm g f) 201 (by decide) []
  unfold putV at hR
  rw [if_neg (by simp [c1]), if_neg (by simp [c2])] at hR
  apply hQ
  clear hQ
  cases hb : isNameB nm with
  | false =>
   rw [hb] at hN
   rw [if_pos hb] at hR
   subst hR
   ((refine Sg.h ?_); try repeat' ((first | (with_reducible first | refine brA ?_ | refine brE fun _ => ?_ | (refine spl ⟨?_, ?_⟩ <;> intro _)) | refine clo hN ?_ | refine clo hf8 ?_) <;> ((try simp -implicitDefEqProofs); (try simp -implicitDefEqProofs (disch := first | assumption | (try simp only [lens]); omega -splitDisjunctions)))))
   all_goals first | rfl | skip
  | true =>
   rw [hb] at hN
   rw [if_neg (by simp [hb])] at hR
   generalize withF nm g f = h at *
   generalize nodesGo 201 201 [h] = L at *
   by_cases hL : 200 < L.length
   ·have hL' : (200 : Int) < (L.length : Int) := by omega
    rw [if_pos hL] at hR
    subst hR
    ((refine Sg.h ?_); try repeat' ((first | (with_reducible first | refine brA ?_ | refine brE fun _ => ?_ | (refine spl ⟨?_, ?_⟩ <;> intro _)) | refine clo hN ?_ | refine clo hp ?_ | refine clo hnd ?_ | refine clo hf10 ?_) <;> ((try simp -implicitDefEqProofs [hL']); (try simp -implicitDefEqProofs (disch := first | assumption | (try simp only [lens]); omega -splitDisjunctions) [hL']))))
    all_goals first | rfl | skip
   ·have hL' : ¬ (200 : Int) < (L.length : Int) := by omega
    rw [if_neg hL] at hR
    subst hR
    ((refine Sg.h ?_); try repeat' ((first | (with_reducible first | refine brA ?_ | refine brE fun _ => ?_ | (refine spl ⟨?_, ?_⟩ <;> intro _)) | refine clo hN ?_ | refine clo hp ?_ | refine clo hnd ?_) <;> ((try simp -implicitDefEqProofs [hL']); (try simp -implicitDefEqProofs (disch := first | assumption | (try simp only [lens]); omega -splitDisjunctions) [hL']))))
    all_goals first | rfl | skip
 have m1 : (formulaCheck f).1 = 0 → Q [(1, PV.str nm), (3, PV.ptr 0 0 0), (5, PV.ptr 1 0 0), (6, PV.ptr 2 0 0), (7, PV.ptr 3 0 0), (14, PV.sl 4 0 2), (15, PV.int IntKind.i64 2), (16, PV.int IntKind.i64 1)] [PObj.rows 3 [frm f], PObj.rows 3 [frm g], PObj.rows 3 [[PV.int IntKind.i64 0, PV.str { data := #[] }, PV.nilsl]], PObj.rows 2 [[PV.int IntKind.i64 0, PV.int IntKind.i64 0]], PObj.rows 3 [frm f, frm g]] := by
  intro c1
  have m2 := m2 c1
  apply hQ
  clear hQ
  by_cases c2 : (formulaCheck g).1 = 0
  ·have m2 := m2 c2
   rw [formulaCheck_zero c2] at h2
   ((refine Sg.h ?_); try repeat' ((first | (with_reducible first | refine brA ?_ | refine brE fun _ => ?_ | (refine spl ⟨?_, ?_⟩ <;> intro _)) | refine clo h2 ?_) <;> ((try simp -implicitDefEqProofs); (try simp -implicitDefEqProofs (disch := first | assumption | (try simp only [lens]); omega -splitDisjunctions)))))
   all_goals first | exact m2 | (all_goals first | exact m2 | (refine at2 m2 ?_ ?_ <;> simp; done) | (exfalso; first | omega | (simp_all; done) | (simp_all; omega))) | skip
  ·clear m2
   unfold putV at hR
   rw [if_neg (by simp [c1]), if_pos c2] at hR
   generalize formulaCheck g = q at *
   obtain ⟨q1, q2⟩ := q
   subst hR
   ((refine Sg.h ?_); try repeat' ((first | (with_reducible first | refine brA ?_ | refine brE fun _ => ?_ | (refine spl ⟨?_, ?_⟩ <;> intro _)) | refine clo h2 ?_) <;> ((try simp -implicitDefEqProofs [c2]); (try simp -implicitDefEqProofs (disch := first | assumption | (try simp only [lens]); omega -splitDisjunctions) [c2]))))
   all_goals first | rfl | skip
 clear m2
 apply hQ
 clear hQ
 by_cases c1 : (formulaCheck f).1 = 0
 ·have m1 := m1 c1
  rw [formulaCheck_zero c1] at h1
  ((refine Sg.h ?_); try repeat' ((first | (with_reducible first | refine brA ?_ | refine brE fun _ => ?_ | (refine spl ⟨?_, ?_⟩ <;> intro _)) | refine clo h1 ?_) <;> ((try simp -implicitDefEqProofs); (try simp -implicitDefEqProofs (disch := first | assumption | (try simp only [lens]); omega -splitDisjunctions)))))
  all_goals first | exact m1 | (all_goals first | exact m1 | (refine at2 m1 ?_ ?_ <;> simp; done) | (exfalso; first | omega | (simp_all; done) | (simp_all; omega))) | skip
 ·clear m1
  unfold putV at hR
  rw [if_pos c1] at hR
  generalize formulaCheck f = q at *
  obtain ⟨q1, q2⟩ := q
  subst hR
  ((refine Sg.h ?_); try repeat' ((first | (with_reducible first | refine brA ?_ | refine brE fun _ => ?_ | (refine spl ⟨?_, ?_⟩ <;> intro _)) | refine clo h1 ?_) <;> ((try simp -implicitDefEqProofs [c1]); (try simp -implicitDefEqProofs (disch := first | assumption | (try simp only [lens]); omega -splitDisjunctions) [c1]))))
  all_goals first | rfl | skip
def tB : ByteArray := ⟨#[40, 112, 32, 45, 62, 32, 113, 41, 32, 45, 62, 32, 112, 32, 38, 32, 126, 49]⟩
def nB (c : UInt8) : Fm := .mk 1 ⟨#[c]⟩ []
def fB : Fm := .mk 7 ⟨#[]⟩ [.mk 7 ⟨#[]⟩ [nB 112, nB 113], .mk 5 ⟨#[]⟩ [nB 112, .mk 4 ⟨#[]⟩ [.mk 2 ⟨#[]⟩ []]]]
theorem parse_tB : parseO tB = (fB, 0, 0) := by kernel_rfl
theorem check_fB : formulaCheck fB = (0, 0) := by kernel_rfl
theorem said_fB : said fB 1 = tB := by kernel_rfl
def x11 : XC := .seq (.reg [⟨some 0,.assign (.const (.bool false)),none⟩]) (.seq (.reg [⟨some 6,.call ⟨.value (.func 19),#[.const (.string ⟨#[40,112,32,45,62,32,113,41,32,45,62,32,112,32,38,32,126,49]⟩)],#[9]⟩,none⟩,⟨some 5,.move (.tmp 6),none⟩,⟨some 7,.extract (.tmp 5) 0,none⟩,⟨some 8,.extract (.tmp 5) 1,none⟩,⟨some 1,.alloc 24,none⟩,⟨some 2,.alloc 29,none⟩,⟨none,.store 24 (.tmp 1) (.tmp 7),none⟩,⟨none,.store 29 (.tmp 2) (.tmp 8),none⟩]) (.seq (.reg [⟨some 10,.load 24 (.tmp 1),none⟩,⟨some 11,.call ⟨.value (.func 15),#[.tmp 10],#[24]⟩,none⟩,⟨some 9,.move (.tmp 11),none⟩,⟨some 12,.extract (.tmp 9) 0,none⟩,⟨some 13,.extract (.tmp 9) 1,none⟩,⟨some 4,.alloc 29,none⟩,⟨some 3,.assign (.tmp 12),none⟩,⟨none,.store 29 (.tmp 4) (.tmp 13),none⟩]) (.seq (.reg [⟨some 14,.fieldAddr 29 (.tmp 2) 0,none⟩,⟨some 15,.load 3 (.tmp 14),none⟩,⟨some 16,.binOp .eql 3 (.tmp 15) (.const (.int .i64 0)) 3,none⟩,⟨some 17,.move (.tmp 16),none⟩,⟨some 18,.fieldAddr 29 (.tmp 4) 0,some (some 17,true)⟩,⟨some 19,.load 3 (.tmp 18),some (some 17,true)⟩,⟨some 20,.binOp .eql 3 (.tmp 19) (.const (.int .i64 0)) 3,some (some 17,true)⟩,⟨some 21,.pick (.tmp 17) (.tmp 20) (.const (.bool false)),none⟩,⟨some 22,.move (.tmp 21),none⟩,⟨some 23,.move (.tmp 3),some (some 22,true)⟩,⟨some 24,.binOp .eql 9 (.tmp 23) (.const (.string ⟨#[40,112,32,45,62,32,113,41,32,45,62,32,112,32,38,32,126,49]⟩)) 9,some (some 22,true)⟩,⟨some 25,.pick (.tmp 22) (.tmp 24) (.const (.bool false)),none⟩,⟨some 0,.assign (.tmp 25),none⟩]) .ret)))
@[simp] theorem x11_s {C e s K} : type_of% (@X_at C e s K _ _ x11.eq_1) := X_at x11.eq_1
def an11 : Ann := ⟨[], [], []⟩
theorem fi11 : FI Try.prog 11 (cxA an11) x11 [.tmp 0] Try.f11 := fiA Try.func11 mixed
theorem formulaBegun_law : CallOK Try.prog 11 [] [] (.bool true) [] := by
 have h1 := Parse_formula tB
 rw [parse_tB] at h1
 have hc := check_fB
 have h2 := Print_ok fB hc (td_check (by rw [hc])).ok (by have := ((formulaCheck_iff fB).1 (by rw [hc])).2; omega)
 rw [said_fB] at h2
 unfold tB at h1 h2
 generalize fB = f at *
 refine fi11.op ?_
 ((refine Sg.h ?_); try repeat' ((first | (with_reducible first | refine brA ?_ | refine brE fun _ => ?_ | (refine spl ⟨?_, ?_⟩ <;> intro _)) | refine clo h1 ?_ | refine clo h2 ?_) <;> ((try simp -implicitDefEqProofs); (try simp -implicitDefEqProofs (disch := first | assumption | (try simp only [lens]); omega -splitDisjunctions)))))
end Go.Proofs.Ytcllmionhlmjfaa
namespace Go.Proofs.Ytcllmionhlmjfaa
open Go Go.Pv
theorem drop_eq_step {α : Type} [DecidableEq α] {a b : List α} {i : Nat} (ha : i < a.length) (hb : i < b.length) : decide (a.drop i = b.drop i) = (decide (a[i] = b[i]) && decide (a.drop (i + 1) = b.drop (i + 1))) := by
 rw [List.drop_eq_getElem_cons ha, List.drop_eq_getElem_cons hb, Bool.eq_iff_iff]; simp only [decide_eq_true_eq, Bool.and_eq_true, List.cons.injEq]
def x40_L0 : XC := .seq (.seq (.reg [⟨some 11,.move (.tmp 5),none⟩,⟨some 12,.move (.tmp 0),none⟩,⟨some 13,.call ⟨.builtin .len,#[.tmp 12],#[65]⟩,none⟩,⟨some 14,.binOp .lss 3 (.tmp 11) (.tmp 13) 3,none⟩]) (.cond (.tmp 14) .skip (.exit 0))) (.seq (.block 1 (.seq (.drawn 6 [⟨some 17,.move (.tmp 0),none⟩,⟨some 18,.move (.tmp 5),none⟩,⟨some 19,.indexAddr 65 (.tmp 17) (.tmp 18),none⟩,⟨some 20,.load 9 (.tmp 19),none⟩,⟨some 21,.move (.tmp 1),none⟩,⟨some 22,.move (.tmp 5),none⟩,⟨some 23,.indexAddr 65 (.tmp 21) (.tmp 22),none⟩,⟨some 24,.load 9 (.tmp 23),none⟩,⟨some 25,.binOp .neq 9 (.tmp 20) (.tmp 24) 9,none⟩]) (.cond (.tmp 25) (.seq (.reg [⟨some 4,.assign (.const (.bool false)),none⟩]) .ret) .skip))) (.reg [⟨some 15,.move (.tmp 5),none⟩,⟨some 16,.binOp .add 3 (.tmp 15) (.const (.int .i64 1)) 3,none⟩,⟨some 5,.assign (.tmp 16),none⟩]))
def x40 : XC := .seq (.reg [⟨some 4,.assign (.const (.bool false)),none⟩]) (.seq (.seq (.reg [⟨some 6,.move (.tmp 0),none⟩,⟨some 7,.call ⟨.builtin .len,#[.tmp 6],#[65]⟩,none⟩,⟨some 8,.move (.tmp 1),none⟩,⟨some 9,.call ⟨.builtin .len,#[.tmp 8],#[65]⟩,none⟩,⟨some 10,.binOp .neq 3 (.tmp 7) (.tmp 9) 3,none⟩]) (.cond (.tmp 10) (.seq (.reg [⟨some 4,.assign (.const (.bool false)),none⟩]) .ret) .skip)) (.seq (.seq (.reg [⟨some 5,.assign (.const (.int .i64 0)),none⟩]) (.bloop 0 x40_L0)) (.seq (.reg [⟨some 4,.assign (.const (.bool true)),none⟩]) .ret)))
@[simp] theorem x40_s {C e s K} : type_of% (@X_at C e s K _ _ x40_L0.eq_1) ∧ type_of% (@X_at C e s K _ _ x40.eq_1) := ⟨X_at x40_L0.eq_1, X_at x40.eq_1⟩
def an40 : Ann := ⟨[], [(0, [], [0, 1, 5], [4])], []⟩
@[simp] theorem an40_a : an40.clsOf 6 = .draw ∧ an40.frzOf 6 = [] ∧ an40.loopOf 0 = ([], [0, 1, 5], [4]) := ⟨rfl, rfl, rfl⟩
theorem fi40 : FI Try.prog 40 (cxA an40) x40 [.tmp 4] Try.f40 := fiA Try.func40 mixed
theorem Texts_ref (a b : List ByteArray) : CallOK Try.prog 40 [.list (a.map strRow), .list (b.map strRow)] [] (.bool (decide (a = b))) [] := by
 refine fi40.op ?_
 by_cases hl : a.length = b.length
 ·((refine Sg.h ?_); try repeat' ((first | (with_reducible first | refine brA ?_ | refine brE fun _ => ?_ | (refine spl ⟨?_, ?_⟩ <;> intro _))) <;> ((try simp -implicitDefEqProofs [hl]); (try simp -implicitDefEqProofs (disch := first | assumption | (try simp only [lens]); omega -splitDisjunctions) [hl]))))
  refine W_of fun Q hQ => ?_
  generalize hR : decide (a = b) = R at hQ ⊢
  have main : ∀ k i, i + k = a.length → R = decide (a.drop i = b.drop i) → Q [(0, .list (a.map strRow)), (1, .list (b.map strRow)), (5, .int .i64 (i : Int))] [] := by
   intro k
   induction k with
   | zero =>
    intro i hi hb
    rw [List.drop_of_length_le (by omega), List.drop_of_length_le (by omega)] at hb
    apply hQ
    rw [hb]
    ((refine Sg.h ?_); try repeat' ((first | (with_reducible first | refine brA ?_ | refine brE fun _ => ?_ | (refine spl ⟨?_, ?_⟩ <;> intro _))) <;> ((try simp -implicitDefEqProofs [hl]); (try simp -implicitDefEqProofs (disch := first | assumption | (try simp only [lens]); omega -splitDisjunctions) [hl]))))
   | succ k ih =>
    intro i hi hb
    have hia : i < a.length := by omega
    have hib : i < b.length := by omega
    have ih := ih (i + 1) (by omega)
    rw [drop_eq_step hia hib] at hb
    apply hQ
    clear hQ hR
    by_cases e : a[i] = b[i]
    ·rw [decide_eq_true e, Bool.true_and] at hb
     have ih := ih hb
     ((refine Sg.h ?_); try repeat' ((first | (with_reducible first | refine brA ?_ | refine brE fun _ => ?_ | (refine spl ⟨?_, ?_⟩ <;> intro _))) <;> ((try simp -implicitDefEqProofs [hl, hia, hib, e]); (try simp -implicitDefEqProofs (disch := first | assumption | (try simp only [lens]); omega -splitDisjunctions) [hl, hia, hib, e]))))
     all_goals first | exact ih | (refine at2 ih ?_ ?_ <;> simp; done) | (exfalso; first | omega | (simp_all; done) | (simp_all; omega))
    ·rw [decide_eq_false e, Bool.false_and] at hb
     rw [hb]
     ((refine Sg.h ?_); try repeat' ((first | (with_reducible first | refine brA ?_ | refine brE fun _ => ?_ | (refine spl ⟨?_, ?_⟩ <;> intro _))) <;> ((try simp -implicitDefEqProofs [hl, hia, hib, e]); (try simp -implicitDefEqProofs (disch := first | assumption | (try simp only [lens]); omega -splitDisjunctions) [hl, hia, hib, e]))))
  refine at2 (main _ 0 (Nat.zero_add _) (by simp [← hR])) ?_ ?_ <;> simp
 ·have hne : decide (a = b) = false := decide_eq_false fun e => hl (by rw [e])
  rw [hne]
  have hl' : ¬ (a.length : Int) = (b.length : Int) := by omega
  ((refine Sg.h ?_); try repeat' ((first | (with_reducible first | refine brA ?_ | refine brE fun _ => ?_ | (refine spl ⟨?_, ?_⟩ <;> intro _))) <;> ((try simp -implicitDefEqProofs [hl, hl']); (try simp -implicitDefEqProofs (disch := first | assumption | (try simp only [lens]); omega -splitDisjunctions) [hl, hl']))))
end Go.Proofs.Ytcllmionhlmjfaa
namespace Go.Proofs.Ytcllmionhlmjfaa
open Go Go.Pv
theorem varsW_eq {l : List Fm} (h : ∀ f ∈ l, (pre f).length ≤ 200) : varsW l = varsS l := by
 unfold varsW varsS
 congr 1
 induction l with
 | nil => rfl
 | cons f r ih =>
  rw [List.flatMap_cons, List.flatMap_cons, ih fun g hg => h g (List.mem_cons_of_mem _ hg)]
  congr 1
  have hf := h f List.mem_cons_self
  rw [show (100000 : Int) = ((100000 : Nat) : Int) from rfl, walk_take, List.take_of_length_le (by omega), nodesGo_take 200 200 [f] (by omega), pres_cons, pres_nil, List.append_nil, List.take_of_length_le hf]
theorem NamesIn_names (l : List Fm) (hl : l.length ≤ 100) (h : ∀ f ∈ l, (pre f).length ≤ 200) : CallOK Try.prog 41 [.list (l.map frm)] [] (.list ((namesS l).map strRow)) [] := by
 have hn := NamesIn_ref l hl
 rw [varsW_eq h, ← comp_ins] at hn
 exact hn
def x21 : XC := .seq (.reg [⟨some 1,.box 24 (.tmp 0),none⟩,⟨some 2,.assign (.const (.bool false)),none⟩]) (.seq (.reg [⟨some 3,.fieldAddr 24 (.tmp 1) 0,none⟩,⟨some 4,.load 3 (.tmp 3),none⟩,⟨some 5,.binOp .eql 3 (.tmp 4) (.const (.int .i64 0)) 3,none⟩,⟨some 6,.move (.tmp 5),none⟩,⟨some 7,.fieldAddr 24 (.tmp 1) 1,some (some 6,true)⟩,⟨some 8,.load 9 (.tmp 7),some (some 6,true)⟩,⟨some 9,.binOp .eql 9 (.tmp 8) (.const (.string ⟨#[]⟩)) 9,some (some 6,true)⟩,⟨some 10,.pick (.tmp 6) (.tmp 9) (.const (.bool false)),none⟩,⟨some 11,.move (.tmp 10),none⟩,⟨some 12,.fieldAddr 24 (.tmp 1) 2,some (some 11,true)⟩,⟨some 13,.load 22 (.tmp 12),some (some 11,true)⟩,⟨some 14,.call ⟨.builtin .len,#[.tmp 13],#[22]⟩,some (some 11,true)⟩,⟨some 15,.binOp .eql 3 (.tmp 14) (.const (.int .i64 0)) 3,some (some 11,true)⟩,⟨some 16,.pick (.tmp 11) (.tmp 15) (.const (.bool false)),none⟩,⟨some 2,.assign (.tmp 16),none⟩]) .ret)
@[simp] theorem x21_s {C e s K} : type_of% (@X_at C e s K _ _ x21.eq_1) := X_at x21.eq_1
def an21 : Ann := ⟨[], [], []⟩
theorem fi21 : FI Try.prog 21 (cxA an21) x21 [.tmp 2] Try.f21 := fiA Try.func21 mixed
theorem none_law (f : Fm) : CallOK Try.prog 21 [.agg (frm f)] [] (.bool (decide (f.kind = 0) && decide (f.name = ⟨#[]⟩) && decide (f.kids.length = 0))) [] := by
 refine fi21.op ?_
 by_cases h1 : f.kind = 0
 ·by_cases h2 : f.name = ⟨#[]⟩
  ·by_cases h3 : f.kids.length = 0
   ·((refine Sg.h ?_); try repeat' ((first | (with_reducible first | refine brA ?_ | refine brE fun _ => ?_ | (refine spl ⟨?_, ?_⟩ <;> intro _))) <;> ((try simp -implicitDefEqProofs [h1, h2, h3]); (try simp -implicitDefEqProofs (disch := first | assumption | (try simp only [lens]); omega -splitDisjunctions) [h1, h2, h3]))))
   ·have h3i : ¬ (f.kids.length : Int) = 0 := by omega
    ((refine Sg.h ?_); try repeat' ((first | (with_reducible first | refine brA ?_ | refine brE fun _ => ?_ | (refine spl ⟨?_, ?_⟩ <;> intro _))) <;> ((try simp -implicitDefEqProofs [h1, h2, h3]); (try simp -implicitDefEqProofs (disch := first | assumption | (try simp only [lens]); omega -splitDisjunctions) [h1, h2, h3]))))
  ·((refine Sg.h ?_); try repeat' ((first | (with_reducible first | refine brA ?_ | refine brE fun _ => ?_ | (refine spl ⟨?_, ?_⟩ <;> intro _))) <;> ((try simp -implicitDefEqProofs [h1, h2]); (try simp -implicitDefEqProofs (disch := first | assumption | (try simp only [lens]); omega -splitDisjunctions) [h1, h2]))))
 ·((refine Sg.h ?_); try repeat' ((first | (with_reducible first | refine brA ?_ | refine brE fun _ => ?_ | (refine spl ⟨?_, ?_⟩ <;> intro _))) <;> ((try simp -implicitDefEqProofs [h1]); (try simp -implicitDefEqProofs (disch := first | assumption | (try simp only [lens]); omega -splitDisjunctions) [h1]))))
theorem none_zero : CallOK Try.prog 21 [.agg (frm (.mk 0 ⟨#[]⟩ []))] [] (.bool true) [] := by
 have h := none_law (.mk 0 ⟨#[]⟩ [])
 simpa using h
def x42_L0 : XC := .seq (.seq (.reg [⟨some 11,.move (.tmp 5),none⟩,⟨some 12,.move (.tmp 0),none⟩,⟨some 13,.call ⟨.builtin .len,#[.tmp 12],#[22]⟩,none⟩,⟨some 14,.binOp .lss 3 (.tmp 11) (.tmp 13) 3,none⟩]) (.cond (.tmp 14) .skip (.exit 0))) (.seq (.block 1 (.seq (.drawn 6 [⟨some 17,.move (.tmp 0),none⟩,⟨some 18,.move (.tmp 5),none⟩,⟨some 19,.indexAddr 22 (.tmp 17) (.tmp 18),none⟩,⟨some 20,.load 24 (.tmp 19),none⟩,⟨some 21,.move (.tmp 1),none⟩,⟨some 22,.move (.tmp 5),none⟩,⟨some 23,.indexAddr 22 (.tmp 21) (.tmp 22),none⟩,⟨some 24,.load 24 (.tmp 23),none⟩,⟨some 25,.call ⟨.value (.func 17),#[.tmp 20,.tmp 24],#[24,24]⟩,none⟩,⟨some 26,.unOp .not 4 (.tmp 25),none⟩]) (.cond (.tmp 26) (.seq (.reg [⟨some 4,.assign (.const (.bool false)),none⟩]) .ret) .skip))) (.reg [⟨some 15,.move (.tmp 5),none⟩,⟨some 16,.binOp .add 3 (.tmp 15) (.const (.int .i64 1)) 3,none⟩,⟨some 5,.assign (.tmp 16),none⟩]))
def x42 : XC := .seq (.reg [⟨some 4,.assign (.const (.bool false)),none⟩]) (.seq (.seq (.reg [⟨some 6,.move (.tmp 0),none⟩,⟨some 7,.call ⟨.builtin .len,#[.tmp 6],#[22]⟩,none⟩,⟨some 8,.move (.tmp 1),none⟩,⟨some 9,.call ⟨.builtin .len,#[.tmp 8],#[22]⟩,none⟩,⟨some 10,.binOp .neq 3 (.tmp 7) (.tmp 9) 3,none⟩]) (.cond (.tmp 10) (.seq (.reg [⟨some 4,.assign (.const (.bool false)),none⟩]) .ret) .skip)) (.seq (.seq (.reg [⟨some 5,.assign (.const (.int .i64 0)),none⟩]) (.bloop 0 x42_L0)) (.seq (.reg [⟨some 4,.assign (.const (.bool true)),none⟩]) .ret)))
@[simp] theorem x42_s {C e s K} : type_of% (@X_at C e s K _ _ x42_L0.eq_1) ∧ type_of% (@X_at C e s K _ _ x42.eq_1) := ⟨X_at x42_L0.eq_1, X_at x42.eq_1⟩
def an42 : Ann := ⟨[(6, .mix 8)], [(0, [], [0, 1, 5], [4])], []⟩
@[simp] theorem an42_a : an42.clsOf 6 = .mix 8 ∧ an42.frzOf 6 = [] ∧ an42.loopOf 0 = ([], [0, 1, 5], [4]) := ⟨rfl, rfl, rfl⟩
theorem fi42 : FI Try.prog 42 (cxA an42) x42 [.tmp 4] Try.f42 := fiA Try.func42 mixed
theorem Alike_self (l : List Fm) : CallOK Try.prog 42 [.list (l.map frm), .list (l.map frm)] [] (.bool true) [] := by
 refine fi42.op ?_
 ((refine Sg.h ?_); try repeat' ((first | (with_reducible first | refine brA ?_ | refine brE fun _ => ?_ | (refine spl ⟨?_, ?_⟩ <;> intro _))) <;> ((try simp -implicitDefEqProofs); (try simp -implicitDefEqProofs (disch := first | assumption | (try simp only [lens]); omega -splitDisjunctions)))))
 refine W_of fun Q hQ => ?_
 have main : ∀ n i, i + n = l.length → Q [(0, .list (l.map frm)), (1, .list (l.map frm)), (5, .int .i64 (i : Int))] [] := by
  intro n
  induction n with
  | zero =>
   intro i hi
   apply hQ
   clear hQ
   ((refine Sg.h ?_); try repeat' ((first | (with_reducible first | refine brA ?_ | refine brE fun _ => ?_ | (refine spl ⟨?_, ?_⟩ <;> intro _))) <;> ((try simp -implicitDefEqProofs); (try simp -implicitDefEqProofs (disch := first | assumption | (try simp only [lens]); omega -splitDisjunctions)))))
  | succ n ih =>
   intro i hi
   have hil : i < l.length := by omega
   have ih := ih (i + 1) (by omega)
   have hc := Same_ref l[i] l[i]
   rw [sameB_iff.2 rfl] at hc
   apply hQ
   clear hQ
   ((refine Sg.h ?_); try repeat' ((first | (with_reducible first | refine brA ?_ | refine brE fun _ => ?_ | (refine spl ⟨?_, ?_⟩ <;> intro _)) | refine clo hc ?_) <;> ((try simp -implicitDefEqProofs [hil]); (try simp -implicitDefEqProofs (disch := first | assumption | (try simp only [lens]); omega -splitDisjunctions) [hil]))))
   all_goals first | exact ih | (refine at2 ih ?_ ?_ <;> simp; done) | (exfalso; first | omega | (simp_all; done) | (simp_all; omega))
 all_goals first | exact main _ 0 (Nat.zero_add _) | (refine at2 main _ 0 (Nat.zero_add _) ?_ ?_ <;> simp; done) | (exfalso; first | omega | (simp_all; done) | (simp_all; omega))
end Go.Proofs.Ytcllmionhlmjfaa
