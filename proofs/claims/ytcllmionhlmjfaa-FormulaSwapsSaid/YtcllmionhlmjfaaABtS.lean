import Derived.Test.YtcllmionhlmjfaaANmP
import Derived.Test.YtcllmionhlmjfaaAQTn
import Derived.Test.YtcllmionhlmjfaaATrB
import Derived.Test.YtcllmionhlmjfaaAPvQt
set_option linter.unusedVariables false
set_option linter.unusedSimpArgs false
set_option maxRecDepth 100000
set_option maxHeartbeats 4000000
namespace Go.Proofs.Ytcllmionhlmjfaa
open Go Go.Pv
def x15 : XC := .seq (.reg [⟨some 1,.box 24 (.tmp 0),none⟩,⟨some 2,.assign (.const (.string ⟨#[]⟩)),none⟩,⟨some 3,.alloc 29,none⟩]) (.seq (.seq (.reg [⟨some 5,.load 24 (.tmp 1),none⟩,⟨some 6,.call ⟨.value (.func 14),#[.tmp 5],#[24]⟩,none⟩,⟨some 4,.alloc 29,none⟩,⟨none,.store 29 (.tmp 4) (.tmp 6),none⟩]) (.seq (.reg [⟨some 7,.fieldAddr 29 (.tmp 4) 0,none⟩,⟨some 8,.load 3 (.tmp 7),none⟩,⟨some 9,.binOp .neq 3 (.tmp 8) (.const (.int .i64 0)) 3,none⟩]) (.cond (.tmp 9) (.seq (.drawn 3 [⟨some 10,.load 29 (.tmp 4),none⟩,⟨some 2,.assign (.const (.string ⟨#[]⟩)),none⟩,⟨none,.store 29 (.tmp 3) (.tmp 10),none⟩]) .ret) .skip))) (.seq (.reg [⟨some 11,.load 24 (.tmp 1),none⟩,⟨some 12,.call ⟨.value (.func 52),#[.tmp 11],#[24]⟩,none⟩,⟨some 13,.build 29 #[],none⟩,⟨some 2,.assign (.tmp 12),none⟩,⟨none,.store 29 (.tmp 3) (.tmp 13),none⟩]) .ret))
@[simp] theorem x15_s {C e s K} : type_of% (@X_at C e s K _ _ x15.eq_1) := X_at x15.eq_1
def an15 : Ann := ⟨[], [], []⟩
@[simp] theorem an15_a : an15.clsOf 3 = .draw ∧ an15.frzOf 3 = [] := ⟨rfl, rfl⟩
theorem fi15 : FI Try.prog 15 (cxA an15) x15 [.tmp 2, .cell 3 29] Try.f15 := fiA Try.func15 mixed
theorem Print_ok (f : Fm) (h : formulaCheck f = (0, 0)) (hf : OkF (fun n => isNameB n = true) f) (hl : (pre f).length ≤ 1000) : CallOK Try.prog 15 [.agg (frm f)] [] (.tuple [.str (said f 1), .agg [.int .i64 0, .int .i64 0]]) [] := by
 have h1 := check_formula f []
 rw [h] at h1
 have h2 := Said_formula f hf hl
 generalize said f 1 = s at *
 refine fi15.op ?_
 ((refine Sg.h ?_); try repeat' ((first | (with_reducible first | refine brA ?_ | refine brE fun _ => ?_ | (refine spl ⟨?_, ?_⟩ <;> intro _)) | refine clo h1 ?_ | refine clo h2 ?_) <;> ((try simp -implicitDefEqProofs); (try simp -implicitDefEqProofs (disch := first | assumption | (try simp only [lens]); omega -splitDisjunctions)))))
def x37 : XC := .seq (.reg [⟨some 1,.box 24 (.tmp 0),none⟩,⟨some 2,.assign (.const (.slice none 0 0)),none⟩,⟨some 3,.alloc 29,none⟩]) (.seq (.seq (.reg [⟨some 5,.load 24 (.tmp 1),none⟩,⟨some 6,.call ⟨.value (.func 14),#[.tmp 5],#[24]⟩,none⟩,⟨some 4,.alloc 29,none⟩,⟨none,.store 29 (.tmp 4) (.tmp 6),none⟩]) (.seq (.reg [⟨some 7,.fieldAddr 29 (.tmp 4) 0,none⟩,⟨some 8,.load 3 (.tmp 7),none⟩,⟨some 9,.binOp .neq 3 (.tmp 8) (.const (.int .i64 0)) 3,none⟩]) (.cond (.tmp 9) (.seq (.drawn 3 [⟨some 10,.load 29 (.tmp 4),none⟩,⟨some 2,.assign (.const (.slice none 0 0)),none⟩,⟨none,.store 29 (.tmp 3) (.tmp 10),none⟩]) .ret) .skip))) (.seq (.reg [⟨some 11,.load 24 (.tmp 1),none⟩,⟨some 12,.buildSlice 22 1 #[(0,.tmp 11)],none⟩,⟨some 13,.call ⟨.value (.func 76),#[.tmp 12],#[22]⟩,none⟩,⟨some 14,.build 29 #[],none⟩,⟨some 2,.assign (.tmp 13),none⟩,⟨none,.store 29 (.tmp 3) (.tmp 14),none⟩]) .ret))
@[simp] theorem x37_s {C e s K} : type_of% (@X_at C e s K _ _ x37.eq_1) := X_at x37.eq_1
def an37 : Ann := ⟨[], [], []⟩
@[simp] theorem an37_a : an37.clsOf 3 = .draw ∧ an37.frzOf 3 = [] := ⟨rfl, rfl⟩
theorem fi37 : FI Try.prog 37 (cxA an37) x37 [.tmp 2, .cell 3 29] Try.f37 := fiA Try.func37 mixed
theorem Names_ok (f : Fm) (h : formulaCheck f = (0, 0)) : CallOK Try.prog 37 [.agg (frm f)] [] (.tuple [.list ((namesS [f]).map strRow), .agg [.int .i64 0, .int .i64 0]]) [] := by
 have h1 := check_formula f []
 rw [h] at h1
 have h2 := names_formula [f] (by simp)
 generalize namesS [f] = s at *
 refine fi37.op ?_
 ((refine Sg.h ?_); try repeat' ((first | (with_reducible first | refine brA ?_ | refine brE fun _ => ?_ | (refine spl ⟨?_, ?_⟩ <;> intro _)) | refine clo h1 ?_) <;> ((try simp -implicitDefEqProofs); (try simp -implicitDefEqProofs (disch := first | assumption | (try simp only [lens]); omega -splitDisjunctions)))))
 refine CL.giv [3] ?_
 ((refine Sg.h ?_); try repeat' ((first | (with_reducible first | refine brA ?_ | refine brE fun _ => ?_ | (refine spl ⟨?_, ?_⟩ <;> intro _)) | refine clo h2 ?_) <;> ((try simp -implicitDefEqProofs); (try simp -implicitDefEqProofs (disch := first | assumption | (try simp only [lens]); omega -splitDisjunctions)))))
def x75_T1 : XC := .seq (.reg [⟨some 43,.load 24 (.tmp 7),none⟩,⟨none,.store 24 (.tmp 6) (.tmp 43),none⟩]) .ret
def x75_L0 : XC := .seq (.reg [⟨some 30,.binOp .lss 3 (.tmp 29) (.tmp 28) 3,none⟩]) (.seq (.cond (.tmp 30) .skip (.exit 0)) (.seq (.block 1 (.seq (.reg [⟨some 31,.indexAddr 22 (.tmp 27) (.tmp 29),none⟩,⟨some 32,.load 24 (.tmp 31),none⟩,⟨some 9,.alloc 24,none⟩,⟨none,.store 24 (.tmp 9) (.tmp 32),none⟩]) (.drawn 7 [⟨some 33,.fieldAddr 24 (.tmp 7) 2,none⟩,⟨some 34,.load 22 (.tmp 33),none⟩,⟨some 35,.load 24 (.tmp 9),none⟩,⟨some 36,.move (.tmp 1),none⟩,⟨some 37,.load 24 (.tmp 5),none⟩,⟨some 38,.call ⟨.value (.func 75),#[.tmp 35,.tmp 36,.tmp 37],#[24,9,24]⟩,none⟩,⟨some 39,.buildSlice 22 1 #[(0,.tmp 38)],none⟩,⟨some 40,.call ⟨.builtin .append,#[.tmp 34,.tmp 39],#[22,22]⟩,none⟩,⟨some 41,.fieldAddr 24 (.tmp 7) 2,none⟩,⟨none,.store 22 (.tmp 41) (.tmp 40),none⟩]))) (.reg [⟨some 42,.binOp .add 3 (.tmp 29) (.const (.int .i64 1)) 3,none⟩,⟨some 29,.move (.tmp 42),none⟩])))
def x75 : XC := .seq (.reg [⟨some 3,.box 24 (.tmp 0),none⟩,⟨some 5,.box 24 (.tmp 2),none⟩,⟨some 6,.alloc 24,none⟩]) (.seq (.seq (.reg [⟨some 10,.fieldAddr 24 (.tmp 3) 0,none⟩,⟨some 11,.load 3 (.tmp 10),none⟩,⟨some 12,.binOp .eql 3 (.tmp 11) (.const (.int .i64 1)) 3,none⟩,⟨some 13,.move (.tmp 12),none⟩,⟨some 14,.fieldAddr 24 (.tmp 3) 1,some (some 13,true)⟩,⟨some 15,.load 9 (.tmp 14),some (some 13,true)⟩,⟨some 16,.move (.tmp 1),some (some 13,true)⟩,⟨some 17,.binOp .eql 9 (.tmp 15) (.tmp 16) 9,some (some 13,true)⟩,⟨some 18,.pick (.tmp 13) (.tmp 17) (.const (.bool false)),none⟩]) (.cond (.tmp 18) (.seq (.reg [⟨some 19,.load 24 (.tmp 5),none⟩,⟨some 20,.call ⟨.value (.func 102),#[.tmp 19],#[24]⟩,none⟩,⟨none,.store 24 (.tmp 6) (.tmp 20),none⟩]) .ret) .skip)) (.seq (.reg [⟨some 21,.fieldAddr 24 (.tmp 3) 0,none⟩,⟨some 22,.load 3 (.tmp 21),none⟩,⟨some 23,.fieldAddr 24 (.tmp 3) 1,none⟩,⟨some 24,.load 9 (.tmp 23),none⟩,⟨some 25,.build 24 #[(0,.tmp 22),(1,.tmp 24)],none⟩,⟨some 7,.alloc 24,none⟩,⟨none,.store 24 (.tmp 7) (.tmp 25),none⟩]) (.seq (.seq (.reg [⟨some 26,.fieldAddr 24 (.tmp 3) 2,none⟩,⟨some 27,.load 22 (.tmp 26),none⟩,⟨some 28,.call ⟨.builtin .len,#[.tmp 27],#[22]⟩,none⟩,⟨some 29,.move (.const (.int .i64 0)),none⟩]) (.bloop 0 x75_L0)) (x75_T1))))
@[simp] theorem x75_s {C e s K} : type_of% (@X_at C e s K _ _ x75_T1.eq_1) ∧ type_of% (@X_at C e s K _ _ x75_L0.eq_1) ∧ type_of% (@X_at C e s K _ _ x75.eq_1) := ⟨X_at x75_T1.eq_1, X_at x75_L0.eq_1, X_at x75.eq_1⟩
def an75 : Ann := ⟨[(7, .mix 7)], [(0, [(7, some 2, 3)], [1, 5, 6, 7, 27, 28, 29], [6, 7])], []⟩
@[simp] theorem an75_a : an75.clsOf 7 = .mix 7 ∧ an75.frzOf 7 = [] ∧ an75.loopOf 0 = ([(7, some 2, 3)], [1, 5, 6, 7, 27, 28, 29], [6, 7]) := ⟨rfl, rfl, rfl⟩
theorem fi75 : FI Try.prog 75 (cxA an75) x75 [.cell 6 24] Try.f75 := fiA Try.func75 mixed
theorem put_formula (nm : ByteArray) (g : Fm) (hg : OkF (fun n => isNameB n = true) g) (f : Fm) (hf : OkF (fun n => isNameB n = true) f) : CallOK Try.prog 75 [.agg (frm f), .str nm, .agg (frm g)] [] (.agg (frm (withF nm g f))) [] := by
 have hcp := Copy_formula g hg
 induction f using Fm.ind with
 | h f ih =>
  have ih := fun x hx => ih x hx (hf.kid hx)
  have hkl := hf.kids_le
  rw [withF_eq]
  refine fi75.os ?_
  by_cases hc : f.kind = 1 ∧ f.name = nm
  ·rw [if_pos hc]
   ((refine Sg.h ?_); try repeat' ((first | (with_reducible first | refine brA ?_ | refine brE fun _ => ?_ | (refine spl ⟨?_, ?_⟩ <;> intro _)) | refine clo hcp ?_) <;> ((try simp -implicitDefEqProofs [hc.1, hc.2]); (try simp -implicitDefEqProofs (disch := first | assumption | (try simp only [lens]); omega -splitDisjunctions) [hc.1, hc.2]))))
  ·rw [if_neg hc]
   have key : W ((cxA an75) Try.prog 0) 0 x75_L0 (KS.seq x75_T1 (KS.fin [ResultVar.cell 6 24] fun v1 s1 => softV (deref s1 6 v1) = PV.agg (frm (Fm.mk f.kind f.name (List.map (withF nm g) f.kids))))) [(1, PV.str nm), (5, PV.ptr 0 0 0), (6, PV.ptr 1 0 0), (7, PV.ptr 2 0 0), (27, PV.list (List.map frm f.kids)), (28, PV.int IntKind.i64 (f.kids.length : Int)), (29, PV.int IntKind.i64 0)] [PObj.rows 3 [frm g], PObj.rows 3 [[PV.int IntKind.i64 0, PV.str { data := #[] }, PV.nilsl]], PObj.rows 3 [[PV.int IntKind.i64 f.kind, PV.str f.name, PV.sl 3 0 0]], PObj.rows 3 []] := by
    refine W_of fun Q hQ => ?_
    have main : ∀ r i, i + r = f.kids.length → Q [(1, PV.str nm), (5, PV.ptr 0 0 0), (6, PV.ptr 1 0 0), (7, PV.ptr 2 0 0), (27, PV.list (List.map frm f.kids)), (28, PV.int IntKind.i64 (f.kids.length : Int)), (29, PV.int IntKind.i64 (i : Int))] [PObj.rows 3 [frm g], PObj.rows 3 [[PV.int IntKind.i64 0, PV.str { data := #[] }, PV.nilsl]], PObj.rows 3 [[PV.int IntKind.i64 f.kind, PV.str f.name, PV.sl 3 0 i]], PObj.rows 3 (((f.kids.take i).map (withF nm g)).map frm)] := by
     intro r
     induction r with
     | zero =>
      intro i hi
      obtain rfl : i = f.kids.length := by omega
      rw [List.take_length]
      apply hQ
      clear hQ
      rw [frm_eq (Fm.mk _ _ _)]
      ((refine Sg.h ?_); try repeat' ((first | (with_reducible first | refine brA ?_ | refine brE fun _ => ?_ | (refine spl ⟨?_, ?_⟩ <;> intro _))) <;> ((try simp -implicitDefEqProofs); (try simp -implicitDefEqProofs (disch := first | assumption | (try simp only [lens]); omega -splitDisjunctions)))))
     | succ r ihr =>
      intro i hi
      have hik : i < f.kids.length := by omega
      have ihr := ihr (i + 1) (by omega)
      have hc := ih f.kids[i] (List.getElem_mem hik)
      rw [take_snoc hik, List.map_append, List.map_append, List.map_cons, List.map_nil] at ihr
      apply hQ
      clear hQ
      ((refine Sg.h ?_); try repeat' ((first | (with_reducible first | refine brA ?_ | refine brE fun _ => ?_ | (refine spl ⟨?_, ?_⟩ <;> intro _)) | refine clo hc ?_) <;> ((try simp -implicitDefEqProofs [hik]); (try simp -implicitDefEqProofs (disch := first | assumption | (try simp only [lens]); omega -splitDisjunctions) [hik]))))
      all_goals first | exact ihr | (refine at2 ihr ?_ ?_ <;> simp; done) | (exfalso; first | omega | (simp_all; done) | (simp_all; omega))
    refine at2 (main _ 0 (Nat.zero_add _)) ?_ ?_ <;> simp
   by_cases h1 : f.kind = 1
   ·have h2 : ¬ f.name = nm := fun h => hc ⟨h1, h⟩
    have h1 : (f.kind = 1) = True := eq_true h1
    have h2 : (f.name = nm) = False := eq_false h2
    ((refine Sg.h ?_); try repeat' ((first | (with_reducible first | refine brA ?_ | refine brE fun _ => ?_ | (refine spl ⟨?_, ?_⟩ <;> intro _))) <;> ((try simp -implicitDefEqProofs [h1, h2]); (try simp -implicitDefEqProofs (disch := first | assumption | (try simp only [lens]); omega -splitDisjunctions) [h1, h2]))))
    all_goals exact key
   ·have h1 : (f.kind = 1) = False := eq_false h1
    ((refine Sg.h ?_); try repeat' ((first | (with_reducible first | refine brA ?_ | refine brE fun _ => ?_ | (refine spl ⟨?_, ?_⟩ <;> intro _))) <;> ((try simp -implicitDefEqProofs [h1]); (try simp -implicitDefEqProofs (disch := first | assumption | (try simp only [lens]); omega -splitDisjunctions) [h1]))))
    all_goals exact key
def putV (nm : ByteArray) (f g : Fm) : Fm × Int × Int :=
 if (formulaCheck f).1 ≠ 0 then (.mk 0 ⟨#[]⟩ [], formulaCheck f) else if (formulaCheck g).1 ≠ 0 then (.mk 0 ⟨#[]⟩ [], formulaCheck g) else if isNameB nm = false then (.mk 0 ⟨#[]⟩ [], 8, 0)
 else if 200 < (nodesGo 201 201 [withF nm g f]).length then (.mk 0 ⟨#[]⟩ [], 10, 0) else (withF nm g f, 0, 0)
def x35_T1 : XC := .seq (.seq (.reg [⟨some 28,.move (.tmp 1),none⟩,⟨some 29,.call ⟨.value (.func 51),#[.tmp 28],#[9]⟩,none⟩,⟨some 30,.unOp .not 4 (.tmp 29),none⟩]) (.cond (.tmp 30) (.seq (.reg [⟨some 31,.build 24 #[],none⟩,⟨some 32,.call ⟨.value (.func 50),#[.const (.int .i64 8),.const (.int .i64 0)],#[3,3]⟩,none⟩,⟨none,.store 24 (.tmp 6) (.tmp 31),none⟩,⟨none,.store 29 (.tmp 7) (.tmp 32),none⟩]) .ret) .skip)) (.seq (.reg [⟨some 33,.load 24 (.tmp 3),none⟩,⟨some 34,.move (.tmp 1),none⟩,⟨some 35,.load 24 (.tmp 5),none⟩,⟨some 36,.call ⟨.value (.func 75),#[.tmp 33,.tmp 34,.tmp 35],#[24,9,24]⟩,none⟩,⟨some 11,.alloc 24,none⟩,⟨none,.store 24 (.tmp 11) (.tmp 36),none⟩]) (.seq (.seq (.reg [⟨some 37,.load 24 (.tmp 11),none⟩,⟨some 38,.call ⟨.value (.func 48),#[.tmp 37,.const (.int .i64 201)],#[24,3]⟩,none⟩,⟨some 39,.call ⟨.builtin .len,#[.tmp 38],#[22]⟩,none⟩,⟨some 40,.binOp .gtr 3 (.tmp 39) (.const (.int .i64 200)) 3,none⟩]) (.cond (.tmp 40) (.seq (.reg [⟨some 41,.build 24 #[],none⟩,⟨some 42,.call ⟨.value (.func 50),#[.const (.int .i64 10),.const (.int .i64 0)],#[3,3]⟩,none⟩,⟨none,.store 24 (.tmp 6) (.tmp 41),none⟩,⟨none,.store 29 (.tmp 7) (.tmp 42),none⟩]) .ret) .skip)) (.seq (.reg [⟨some 43,.load 24 (.tmp 11),none⟩,⟨some 44,.build 29 #[],none⟩,⟨none,.store 24 (.tmp 6) (.tmp 43),none⟩,⟨none,.store 29 (.tmp 7) (.tmp 44),none⟩]) .ret)))
def x35_L0 : XC := .seq (.reg [⟨some 17,.binOp .lss 3 (.tmp 16) (.tmp 15) 3,none⟩]) (.seq (.cond (.tmp 17) .skip (.exit 0)) (.seq (.block 1 (.seq (.reg [⟨some 18,.indexAddr 22 (.tmp 14) (.tmp 16),none⟩,⟨some 19,.load 24 (.tmp 18),none⟩,⟨some 9,.alloc 24,none⟩,⟨none,.store 24 (.tmp 9) (.tmp 19),none⟩]) (.seq (.reg [⟨some 20,.load 24 (.tmp 9),none⟩,⟨some 21,.call ⟨.value (.func 14),#[.tmp 20],#[24]⟩,none⟩,⟨some 10,.alloc 29,none⟩,⟨none,.store 29 (.tmp 10) (.tmp 21),none⟩]) (.seq (.reg [⟨some 22,.fieldAddr 29 (.tmp 10) 0,none⟩,⟨some 23,.load 3 (.tmp 22),none⟩,⟨some 24,.binOp .neq 3 (.tmp 23) (.const (.int .i64 0)) 3,none⟩]) (.cond (.tmp 24) (.seq (.drawn 6 [⟨some 25,.build 24 #[],none⟩,⟨some 26,.load 29 (.tmp 10),none⟩,⟨none,.store 24 (.tmp 6) (.tmp 25),none⟩,⟨none,.store 29 (.tmp 7) (.tmp 26),none⟩]) .ret) .skip))))) (.reg [⟨some 27,.binOp .add 3 (.tmp 16) (.const (.int .i64 1)) 3,none⟩,⟨some 16,.move (.tmp 27),none⟩])))
def x35 : XC := .seq (.reg [⟨some 3,.box 24 (.tmp 0),none⟩,⟨some 5,.box 24 (.tmp 2),none⟩,⟨some 6,.alloc 24,none⟩,⟨some 7,.alloc 29,none⟩]) (.seq (.seq (.reg [⟨some 12,.load 24 (.tmp 3),none⟩,⟨some 13,.load 24 (.tmp 5),none⟩,⟨some 14,.buildSlice 22 2 #[(0,.tmp 12),(1,.tmp 13)],none⟩,⟨some 15,.call ⟨.builtin .len,#[.tmp 14],#[22]⟩,none⟩,⟨some 16,.move (.const (.int .i64 0)),none⟩]) (.bloop 0 x35_L0)) (x35_T1))
@[simp] theorem x35_s {C e s K} : type_of% (@X_at C e s K _ _ x35_T1.eq_1) ∧ type_of% (@X_at C e s K _ _ x35_L0.eq_1) ∧ type_of% (@X_at C e s K _ _ x35.eq_1) := ⟨X_at x35_T1.eq_1, X_at x35_L0.eq_1, X_at x35.eq_1⟩
def an35 : Ann := ⟨[(6, .mix3 2 1)], [(0, [], [1, 3, 5, 6, 7, 14, 15, 16], [1, 3, 5, 6, 7])], []⟩
@[simp] theorem an35_a : an35.clsOf 6 = .mix3 2 1 ∧ an35.frzOf 6 = [] ∧ an35.loopOf 0 = ([], [1, 3, 5, 6, 7, 14, 15, 16], [1, 3, 5, 6, 7]) := ⟨rfl, rfl, rfl⟩
theorem fi35 : FI Try.prog 35 (cxA an35) x35 [.cell 6 24, .cell 7 29] Try.f35 := fiA Try.func35 mixed
theorem Put_formula (nm : ByteArray) (f g : Fm) : CallOK Try.prog 35 [.agg (frm f), .str nm, .agg (frm g)] [] (.tuple [.agg (frm (putV nm f g).1), .agg [.int .i64 (putV nm f g).2.1, .int .i64 (putV nm f g).2.2]]) [] := by
 refine fi35.os ?_
 have h1 := check_formula f []
 have h2 := check_formula g []
 have hN := isName_formula nm []
 have hf8 := fault_formula 8 0 []
 have hf10 := fault_formula 10 0 []
 obtain ⟨R, hR⟩ : ∃ R, putV nm f g = R := ⟨_, rfl⟩
 rw [hR]
 ((refine Sg.h ?_); try repeat' ((first | (with_reducible first | refine brA ?_ | refine brE fun _ => ?_ | (refine spl ⟨?_, ?_⟩ <;> intro _))) <;> ((try simp -implicitDefEqProofs); (try simp -implicitDefEqProofs (disch := first | assumption | (try simp only [lens]); omega -splitDisjunctions)))))
 refine W_of fun Q hQ => ?_
 have m2 : (formulaCheck f).1 = 0 → (formulaCheck g).1 = 0 → Q [(1, PV.str nm), (3, PV.ptr 0 0 0), (5, PV.ptr 1 0 0), (6, PV.ptr 2 0 0), (7, PV.ptr 3 0 0), (14, PV.sl 4 0 2), (15, PV.int IntKind.i64 2), (16, PV.int IntKind.i64 2)] [PObj.rows 3 [frm f], PObj.rows 3 [frm g], PObj.rows 3 [[PV.int IntKind.i64 0, PV.str { data := #[] }, PV.nilsl]], PObj.rows 2 [[PV.int IntKind.i64 0, PV.int IntKind.i64 0]], PObj.rows 3 [frm f, frm g]] := by
  intro c1 c2
  have hfz := (formulaCheck_iff f).1 c1
  have hgz := (formulaCheck_iff g).1 c2
  have hp := put_formula nm g (td_check c2).ok f (td_check c1).ok
  have hnd := nodes_formula (withF nm g f) 201 (by decide) []
  unfold putV at hR
  rw [if_neg (by simp [c1]), if_neg (by simp [c2])] at hR
  apply hQ
  clear hQ
  cases hb : isNameB nm with
  | false =>
   rw [hb] at hN
   rw [if_pos hb] at hR
   subst hR
   ((refine Sg.h ?_); try repeat' ((first | (with_reducible first | refine brA ?_ | refine brE fun _ => ?_ | (refine spl ⟨?_, ?_⟩ <;> intro _)) | refine clo hN ?_ | refine clo hf8 ?_) <;> ((try simp -implicitDefEqProofs); (try simp -implicitDefEqProofs (disch := first | assumption | (try simp only [lens]); omega -splitDisjunctions)))))
   all_goals first | rfl | skip
  | true =>
   rw [hb] at hN
   rw [if_neg (by simp [hb])] at hR
   generalize withF nm g f = h at *
   generalize nodesGo 201 201 [h] = L at *
   by_cases hL : 200 < L.length
   ·have hL' : (200 : Int) < (L.length : Int) := by omega
    rw [if_pos hL] at hR
    subst hR
    ((refine Sg.h ?_); try repeat' ((first | (with_reducible first | refine brA ?_ | refine brE fun _ => ?_ | (refine spl ⟨?_, ?_⟩ <;> intro _)) | refine clo hN ?_ | refine clo hp ?_ | refine clo hnd ?_ | refine clo hf10 ?_) <;> ((try simp -implicitDefEqProofs [hL']); (try simp -implicitDefEqProofs (disch := first | assumption | (try simp only [lens]); omega -splitDisjunctions) [hL']))))
    all_goals first | rfl | skip
   ·have hL' : ¬ (200 : Int) < (L.length : Int) := by omega
    rw [if_neg hL] at hR
    subst hR
    ((refine Sg.h ?_); try repeat' ((first | (with_reducible first | refine brA ?_ | refine brE fun _ => ?_ | (refine spl ⟨?_, ?_⟩ <;> intro _)) | refine clo hN ?_ | refine clo hp ?_ | refine clo hnd ?_) <;> ((try simp -implicitDefEqProofs [hL']); (try simp -implicitDefEqProofs (disch := first | assumption | (try simp only [lens]); omega -splitDisjunctions) [hL']))))
    all_goals first | rfl | skip
 have m1 : (formulaCheck f).1 = 0 → Q [(1, PV.str nm), (3, PV.ptr 0 0 0), (5, PV.ptr 1 0 0), (6, PV.ptr 2 0 0), (7, PV.ptr 3 0 0), (14, PV.sl 4 0 2), (15, PV.int IntKind.i64 2), (16, PV.int IntKind.i64 1)] [PObj.rows 3 [frm f], PObj.rows 3 [frm g], PObj.rows 3 [[PV.int IntKind.i64 0, PV.str { data := #[] }, PV.nilsl]], PObj.rows 2 [[PV.int IntKind.i64 0, PV.int IntKind.i64 0]], PObj.rows 3 [frm f, frm g]] := by
  intro c1
  have m2 := m2 c1
  apply hQ
  clear hQ
  by_cases c2 : (formulaCheck g).1 = 0
  ·have m2 := m2 c2
   rw [formulaCheck_zero c2] at h2
   ((refine Sg.h ?_); try repeat' ((first | (with_reducible first | refine brA ?_ | refine brE fun _ => ?_ | (refine spl ⟨?_, ?_⟩ <;> intro _)) | refine clo h2 ?_) <;> ((try simp -implicitDefEqProofs); (try simp -implicitDefEqProofs (disch := first | assumption | (try simp only [lens]); omega -splitDisjunctions)))))
   all_goals first | exact m2 | (all_goals first | exact m2 | (refine at2 m2 ?_ ?_ <;> simp; done) | (exfalso; first | omega | (simp_all; done) | (simp_all; omega))) | skip
  ·clear m2
   unfold putV at hR
   rw [if_neg (by simp [c1]), if_pos c2] at hR
   generalize formulaCheck g = q at *
   obtain ⟨q1, q2⟩ := q
   subst hR
   ((refine Sg.h ?_); try repeat' ((first | (with_reducible first | refine brA ?_ | refine brE fun _ => ?_ | (refine spl ⟨?_, ?_⟩ <;> intro _)) | refine clo h2 ?_) <;> ((try simp -implicitDefEqProofs [c2]); (try simp -implicitDefEqProofs (disch := first | assumption | (try simp only [lens]); omega -splitDisjunctions) [c2]))))
   all_goals first | rfl | skip
 clear m2
 apply hQ
 clear hQ
 by_cases c1 : (formulaCheck f).1 = 0
 ·have m1 := m1 c1
  rw [formulaCheck_zero c1] at h1
  ((refine Sg.h ?_); try repeat' ((first | (with_reducible first | refine brA ?_ | refine brE fun _ => ?_ | (refine spl ⟨?_, ?_⟩ <;> intro _)) | refine clo h1 ?_) <;> ((try simp -implicitDefEqProofs); (try simp -implicitDefEqProofs (disch := first | assumption | (try simp only [lens]); omega -splitDisjunctions)))))
  all_goals first | exact m1 | (all_goals first | exact m1 | (refine at2 m1 ?_ ?_ <;> simp; done) | (exfalso; first | omega | (simp_all; done) | (simp_all; omega))) | skip
 ·clear m1
  unfold putV at hR
  rw [if_pos c1] at hR
  generalize formulaCheck f = q at *
  obtain ⟨q1, q2⟩ := q
  subst hR
  ((refine Sg.h ?_); try repeat' ((first | (with_reducible first | refine brA ?_ | refine brE fun _ => ?_ | (refine spl ⟨?_, ?_⟩ <;> intro _)) | refine clo h1 ?_) <;> ((try simp -implicitDefEqProofs [c1]); (try simp -implicitDefEqProofs (disch := first | assumption | (try simp only [lens]); omega -splitDisjunctions) [c1]))))
  all_goals first | rfl | skip
def tB : ByteArray := ⟨#[40, 112, 32, 45, 62, 32, 113, 41, 32, 45, 62, 32, 112, 32, 38, 32, 126, 49]⟩
def nB (c : UInt8) : Fm := .mk 1 ⟨#[c]⟩ []
def fB : Fm := .mk 7 ⟨#[]⟩ [.mk 7 ⟨#[]⟩ [nB 112, nB 113], .mk 5 ⟨#[]⟩ [nB 112, .mk 4 ⟨#[]⟩ [.mk 2 ⟨#[]⟩ []]]]
theorem parse_tB : parseO tB = (fB, 0, 0) := by kernel_rfl
theorem check_fB : formulaCheck fB = (0, 0) := by kernel_rfl
theorem said_fB : said fB 1 = tB := by kernel_rfl
def x11 : XC := .seq (.reg [⟨some 0,.assign (.const (.bool false)),none⟩]) (.seq (.reg [⟨some 6,.call ⟨.value (.func 19),#[.const (.string ⟨#[40,112,32,45,62,32,113,41,32,45,62,32,112,32,38,32,126,49]⟩)],#[9]⟩,none⟩,⟨some 5,.move (.tmp 6),none⟩,⟨some 7,.extract (.tmp 5) 0,none⟩,⟨some 8,.extract (.tmp 5) 1,none⟩,⟨some 1,.alloc 24,none⟩,⟨some 2,.alloc 29,none⟩,⟨none,.store 24 (.tmp 1) (.tmp 7),none⟩,⟨none,.store 29 (.tmp 2) (.tmp 8),none⟩]) (.seq (.reg [⟨some 10,.load 24 (.tmp 1),none⟩,⟨some 11,.call ⟨.value (.func 15),#[.tmp 10],#[24]⟩,none⟩,⟨some 9,.move (.tmp 11),none⟩,⟨some 12,.extract (.tmp 9) 0,none⟩,⟨some 13,.extract (.tmp 9) 1,none⟩,⟨some 4,.alloc 29,none⟩,⟨some 3,.assign (.tmp 12),none⟩,⟨none,.store 29 (.tmp 4) (.tmp 13),none⟩]) (.seq (.reg [⟨some 14,.fieldAddr 29 (.tmp 2) 0,none⟩,⟨some 15,.load 3 (.tmp 14),none⟩,⟨some 16,.binOp .eql 3 (.tmp 15) (.const (.int .i64 0)) 3,none⟩,⟨some 17,.move (.tmp 16),none⟩,⟨some 18,.fieldAddr 29 (.tmp 4) 0,some (some 17,true)⟩,⟨some 19,.load 3 (.tmp 18),some (some 17,true)⟩,⟨some 20,.binOp .eql 3 (.tmp 19) (.const (.int .i64 0)) 3,some (some 17,true)⟩,⟨some 21,.pick (.tmp 17) (.tmp 20) (.const (.bool false)),none⟩,⟨some 22,.move (.tmp 21),none⟩,⟨some 23,.move (.tmp 3),some (some 22,true)⟩,⟨some 24,.binOp .eql 9 (.tmp 23) (.const (.string ⟨#[40,112,32,45,62,32,113,41,32,45,62,32,112,32,38,32,126,49]⟩)) 9,some (some 22,true)⟩,⟨some 25,.pick (.tmp 22) (.tmp 24) (.const (.bool false)),none⟩,⟨some 0,.assign (.tmp 25),none⟩]) .ret)))
@[simp] theorem x11_s {C e s K} : type_of% (@X_at C e s K _ _ x11.eq_1) := X_at x11.eq_1
def an11 : Ann := ⟨[], [], []⟩
theorem fi11 : FI Try.prog 11 (cxA an11) x11 [.tmp 0] Try.f11 := fiA Try.func11 mixed
theorem formulaBegun_law : CallOK Try.prog 11 [] [] (.bool true) [] := by
 have h1 := Parse_formula tB
 rw [parse_tB] at h1
 have hc := check_fB
 have h2 := Print_ok fB hc (td_check (by rw [hc])).ok (by have := ((formulaCheck_iff fB).1 (by rw [hc])).2; omega)
 rw [said_fB] at h2
 unfold tB at h1 h2
 generalize fB = f at *
 refine fi11.op ?_
 ((refine Sg.h ?_); try repeat' ((first | (with_reducible first | refine brA ?_ | refine brE fun _ => ?_ | (refine spl ⟨?_, ?_⟩ <;> intro _)) | refine clo h1 ?_ | refine clo h2 ?_) <;> ((try simp -implicitDefEqProofs); (try simp -implicitDefEqProofs (disch := first | assumption | (try simp only [lens]); omega -splitDisjunctions)))))
end Go.Proofs.Ytcllmionhlmjfaa
namespace Go.Proofs.Ytcllmionhlmjfaa
open Go Go.Pv
theorem varsL_cons (f : Fm) (r : List Fm) : varsL (f :: r) = if f.kind = 1 then f.name :: varsL r else varsL r := by
 unfold varsL
 rw [List.filter_cons]
 by_cases h : f.kind = 1
 ·simp [h]
 ·simp [h]
theorem vars_pres {x : ByteArray} : ∀ l : List Fm, x ∈ varsL (pres l) ↔ ∃ g ∈ l, x ∈ varsL (pre g)
 | [] => by simp [pres_nil, varsL]
 | a :: r => by
  rw [pres_cons, varsL_append, List.mem_append, vars_pres r]
  simp
theorem ok_leaf {f : Fm} (hf : OkF (fun n => isNameB n = true) f) (h : f.kind = 1) : f.kids = [] := by
 rcases hf.nine with ⟨nm, hn, rfl⟩ | ⟨nm, rfl⟩ | ⟨nm, rfl⟩ | ⟨nm, a, ha, rfl⟩ | ⟨nm, a, b, ha, hb, rfl⟩ | ⟨nm, a, b, ha, hb, rfl⟩ | ⟨nm, a, b, ha, hb, rfl⟩ | ⟨nm, a, ha, rfl⟩ | ⟨nm, a, ha, rfl⟩
 ·rfl
 all_goals (simp only [Fm.kind] at h; first | rfl | omega)
theorem vars_with (nm : ByteArray) (g : Fm) (x : ByteArray) (f : Fm) (hf : OkF (fun n => isNameB n = true) f) : x ∈ varsL (pre (withF nm g f)) ↔ (x ∈ varsL (pre f) ∧ x ≠ nm) ∨ (nm ∈ varsL (pre f) ∧ x ∈ varsL (pre g)) := by
 induction f using Fm.ind with
 | h f ih =>
  have ih := fun a ha => ih a ha (hf.kid ha)
  rw [withF_eq, pre_eq f, varsL_cons]
  by_cases h1 : f.kind = 1
  ·have hk := ok_leaf hf h1
   rw [if_pos h1, hk, pres_nil]
   have hn : varsL ([] : List Fm) = [] := rfl
   rw [hn]
   by_cases h2 : f.name = nm
   ·rw [if_pos ⟨h1, h2⟩]
    simp only [List.mem_singleton, h2]
    constructor
    ·intro h; exact .inr ⟨trivial, h⟩
    ·rintro (⟨rfl, h⟩ | ⟨_, h⟩)
     ·exact absurd rfl h
     ·exact h
   ·rw [if_neg (fun h => h2 h.2), List.map_nil, pre_eq, varsL_cons]
    rw [show (Fm.mk f.kind f.name []).kind = f.kind from rfl, show (Fm.mk f.kind f.name []).name = f.name from rfl, show (Fm.mk f.kind f.name []).kids = [] from rfl, if_pos h1, pres_nil, hn, List.mem_singleton, List.mem_singleton]
    constructor
    ·rintro rfl; exact .inl ⟨rfl, h2⟩
    ·rintro (⟨h, _⟩ | ⟨h, _⟩)
     ·exact h
     ·exact absurd h.symm h2
  ·rw [if_neg (fun h => h1 h.1), if_neg h1, pre_eq, varsL_cons]
   have e1 : (Fm.mk f.kind f.name (f.kids.map (withF nm g))).kind = f.kind := rfl
   have e2 : (Fm.mk f.kind f.name (f.kids.map (withF nm g))).kids = f.kids.map (withF nm g) := rfl
   rw [e1, if_neg h1, e2, vars_pres, vars_pres, vars_pres]
   constructor
   ·rintro ⟨b, hb, hx⟩
    obtain ⟨a, ha, rfl⟩ := List.mem_map.1 hb
    rcases (ih a ha).1 hx with ⟨h2, h3⟩ | ⟨h2, h3⟩
    ·exact .inl ⟨⟨a, ha, h2⟩, h3⟩
    ·exact .inr ⟨⟨a, ha, h2⟩, h3⟩
   ·rintro (⟨⟨a, ha, h2⟩, h3⟩ | ⟨⟨a, ha, h2⟩, h3⟩)
    ·exact ⟨_, List.mem_map.2 ⟨a, ha, rfl⟩, (ih a ha).2 (.inl ⟨h2, h3⟩)⟩
    ·exact ⟨_, List.mem_map.2 ⟨a, ha, rfl⟩, (ih a ha).2 (.inr ⟨h2, h3⟩)⟩
theorem with_self (nm : ByteArray) (f : Fm) (hf : OkF (fun n => isNameB n = true) f) : withF nm (.mk 1 nm []) f = f := by
 induction f using Fm.ind with
 | h f ih =>
  have ih := fun a ha => ih a ha (hf.kid ha)
  rw [withF_eq]
  split
  ·rename_i h
   have hk := ok_leaf hf h.1
   cases f with
   | mk k n l =>
    simp only [Fm.kind, Fm.name, Fm.kids] at h hk
    obtain ⟨rfl, rfl⟩ := h
    subst hk; rfl
  ·have : f.kids.map (withF nm (.mk 1 nm [])) = f.kids := by
    conv => rhs; rw [← List.map_id f.kids]
    exact List.map_congr_left fun a ha => ih a ha
   rw [this]
   cases f; rfl
theorem td_with (nm : ByteArray) (g : Fm) (hg : Td g) (f : Fm) (hf : Td f) : Td (withF nm g f) := by
 induction f using Fm.ind with
 | h f ih =>
  have ih := fun a ha => ih a ha (hf.kid ha)
  rw [withF_eq]
  split
  ·exact hg
  ·intro x hx
   rw [pre_eq] at hx
   cases hx with
   | head =>
    have := hf f (by rw [pre_eq]; exact List.mem_cons_self)
    unfold okN at this ⊢
    simpa [Fm.kind, Fm.name, Fm.kids] using this
   | tail _ hx =>
    obtain ⟨b, hb, h2⟩ := mem_pres _ hx
    obtain ⟨a, ha, rfl⟩ := List.mem_map.1 hb
    exact ih a ha x h2
theorem names_mem {f : Fm} (h : (formulaCheck f).1 = 0) (x : ByteArray) : x ∈ namesS [f] ↔ x ∈ varsL (pre f) := by
 have hn : nodesGo 200 200 [f] = pre f := by
  have h2 := ((formulaCheck_iff f).1 h).2
  rw [nodesGo_take 200 200 [f] (by omega), pres_cons, pres_nil, List.append_nil, List.take_of_length_le h2]
 unfold namesS varsS
 rw [(comp_ok _).2, List.flatMap_cons, List.flatMap_nil, List.append_nil, hn]
theorem put_zero {nm : ByteArray} {f g : Fm} (h : (putV nm f g).2.1 = 0) : (formulaCheck f).1 = 0 ∧ (formulaCheck g).1 = 0 ∧ putV nm f g = (withF nm g f, 0, 0) ∧ (formulaCheck (withF nm g f)).1 = 0 := by
 unfold putV at h ⊢
 by_cases c1 : (formulaCheck f).1 = 0
 ·rw [if_neg (by simp [c1])] at h ⊢
  by_cases c2 : (formulaCheck g).1 = 0
  ·rw [if_neg (by simp [c2])] at h ⊢
   cases hb : isNameB nm with
   | false => rw [if_pos hb] at h; simp at h
   | true =>
    rw [if_neg (by simp [hb])] at h ⊢
    by_cases hL : 200 < (nodesGo 201 201 [withF nm g f]).length
    ·rw [if_pos hL] at h; simp at h
    ·rw [if_neg hL]
     refine ⟨c1, c2, rfl, (formulaCheck_iff _).2 ⟨td_with nm g (td_check c2) f (td_check c1), ?_⟩⟩
     rw [nodesGo_take 201 201 _ (by omega), pres_cons, pres_nil, List.append_nil, List.length_take] at hL
     omega
  ·rw [if_pos c2] at h; exact absurd h c2
 ·rw [if_pos c1] at h; exact absurd h c1
end Go.Proofs.Ytcllmionhlmjfaa
namespace Go.Proofs.Ytcllmionhlmjfaa
open Go Go.Pv
def x17_L0 : XC := .seq (.seq (.reg [⟨some 27,.move (.tmp 5),none⟩,⟨some 28,.fieldAddr 24 (.tmp 2) 2,none⟩,⟨some 29,.load 22 (.tmp 28),none⟩,⟨some 30,.call ⟨.builtin .len,#[.tmp 29],#[22]⟩,none⟩,⟨some 31,.binOp .lss 3 (.tmp 27) (.tmp 30) 3,none⟩]) (.cond (.tmp 31) .skip (.exit 0))) (.seq (.block 1 (.seq (.drawn 6 [⟨some 34,.fieldAddr 24 (.tmp 2) 2,none⟩,⟨some 35,.load 22 (.tmp 34),none⟩,⟨some 36,.move (.tmp 5),none⟩,⟨some 37,.indexAddr 22 (.tmp 35) (.tmp 36),none⟩,⟨some 38,.load 24 (.tmp 37),none⟩,⟨some 39,.fieldAddr 24 (.tmp 3) 2,none⟩,⟨some 40,.load 22 (.tmp 39),none⟩,⟨some 41,.move (.tmp 5),none⟩,⟨some 42,.indexAddr 22 (.tmp 40) (.tmp 41),none⟩,⟨some 43,.load 24 (.tmp 42),none⟩,⟨some 44,.call ⟨.value (.func 17),#[.tmp 38,.tmp 43],#[24,24]⟩,none⟩,⟨some 45,.unOp .not 4 (.tmp 44),none⟩]) (.cond (.tmp 45) (.seq (.reg [⟨some 4,.assign (.const (.bool false)),none⟩]) .ret) .skip))) (.reg [⟨some 32,.move (.tmp 5),none⟩,⟨some 33,.binOp .add 3 (.tmp 32) (.const (.int .i64 1)) 3,none⟩,⟨some 5,.assign (.tmp 33),none⟩]))
def x17 : XC := .seq (.reg [⟨some 2,.box 24 (.tmp 0),none⟩,⟨some 3,.box 24 (.tmp 1),none⟩,⟨some 4,.assign (.const (.bool false)),none⟩]) (.seq (.seq (.reg [⟨some 6,.fieldAddr 24 (.tmp 2) 0,none⟩,⟨some 7,.load 3 (.tmp 6),none⟩,⟨some 8,.fieldAddr 24 (.tmp 3) 0,none⟩,⟨some 9,.load 3 (.tmp 8),none⟩,⟨some 10,.binOp .neq 3 (.tmp 7) (.tmp 9) 3,none⟩,⟨some 11,.move (.tmp 10),none⟩,⟨some 12,.fieldAddr 24 (.tmp 2) 1,some (some 11,false)⟩,⟨some 13,.load 9 (.tmp 12),some (some 11,false)⟩,⟨some 14,.fieldAddr 24 (.tmp 3) 1,some (some 11,false)⟩,⟨some 15,.load 9 (.tmp 14),some (some 11,false)⟩,⟨some 16,.binOp .neq 9 (.tmp 13) (.tmp 15) 9,some (some 11,false)⟩,⟨some 17,.pick (.tmp 11) (.const (.bool true)) (.tmp 16),none⟩,⟨some 18,.move (.tmp 17),none⟩,⟨some 19,.fieldAddr 24 (.tmp 2) 2,some (some 18,false)⟩,⟨some 20,.load 22 (.tmp 19),some (some 18,false)⟩,⟨some 21,.call ⟨.builtin .len,#[.tmp 20],#[22]⟩,some (some 18,false)⟩,⟨some 22,.fieldAddr 24 (.tmp 3) 2,some (some 18,false)⟩,⟨some 23,.load 22 (.tmp 22),some (some 18,false)⟩,⟨some 24,.call ⟨.builtin .len,#[.tmp 23],#[22]⟩,some (some 18,false)⟩,⟨some 25,.binOp .neq 3 (.tmp 21) (.tmp 24) 3,some (some 18,false)⟩,⟨some 26,.pick (.tmp 18) (.const (.bool true)) (.tmp 25),none⟩]) (.cond (.tmp 26) (.seq (.reg [⟨some 4,.assign (.const (.bool false)),none⟩]) .ret) .skip)) (.seq (.seq (.reg [⟨some 5,.assign (.const (.int .i64 0)),none⟩]) (.bloop 0 x17_L0)) (.seq (.reg [⟨some 4,.assign (.const (.bool true)),none⟩]) .ret)))
@[simp] theorem x17_s {C e s K} : type_of% (@X_at C e s K _ _ x17_L0.eq_1) ∧ type_of% (@X_at C e s K _ _ x17.eq_1) := ⟨X_at x17_L0.eq_1, X_at x17.eq_1⟩
def an17 : Ann := ⟨[(6, .mix 10)], [(0, [], [2, 3, 5], [4])], []⟩
@[simp] theorem an17_a : an17.clsOf 6 = .mix 10 ∧ an17.frzOf 6 = [] ∧ an17.loopOf 0 = ([], [2, 3, 5], [4]) := ⟨rfl, rfl, rfl⟩
theorem fi17 : FI Try.prog 17 (cxA an17) x17 [.tmp 4] Try.f17 := fiA Try.func17 mixed
theorem Same_ref (f : Fm) : ∀ g : Fm, CallOK Try.prog 17 [.agg (frm f), .agg (frm g)] [] (.bool (sameB f g)) [] := by
 induction f using Fm.ind with
 | h f ih =>
  intro g
  have he := sameB_eq f g
  refine fi17.op ?_
  ((refine Sg.h ?_); try repeat' ((first | (with_reducible first | refine brA ?_ | refine brE fun _ => ?_ | (refine spl ⟨?_, ?_⟩ <;> intro _))) <;> ((try simp -implicitDefEqProofs); (try simp -implicitDefEqProofs (disch := first | assumption | (try simp only [lens]); omega -splitDisjunctions)))))
  all_goals try (rw [he, eqL_len (by omega), Bool.and_false]; done)
  all_goals try (rw [he]; simp_all; done)
  all_goals (
   rename_i hlen
   refine W_of fun Q hQ => ?_
   have main : ∀ n i, i + n = f.kids.length → eqL sameB f.kids g.kids = eqL sameB (f.kids.drop i) (g.kids.drop i) → Q [(2, .ptr 0 0 0), (3, .ptr 1 0 0), (5, .int .i64 (i : Int))] [.rows 3 [frm f], .rows 3 [frm g]] := by
    intro n
    induction n with
    | zero =>
     intro i hi hd
     rw [List.drop_of_length_le (by omega), List.drop_of_length_le (by omega)] at hd
     apply hQ
     ((refine Sg.h ?_); try repeat' ((first | (with_reducible first | refine brA ?_ | refine brE fun _ => ?_ | (refine spl ⟨?_, ?_⟩ <;> intro _))) <;> ((try simp -implicitDefEqProofs); (try simp -implicitDefEqProofs (disch := first | assumption | (try simp only [lens]); omega -splitDisjunctions)))))
     all_goals (rw [he, hd]; simp_all [eqL])
    | succ n ihn =>
     intro i hi hd
     rw [eqL_drop (by omega) (by omega)] at hd
     have ihn := ihn (i + 1) (by omega)
     apply hQ
     ((refine Sg.h ?_); try repeat' ((first | (with_reducible first | refine brA ?_ | refine brE fun _ => ?_ | (refine spl ⟨?_, ?_⟩ <;> intro _)) | refine clo (ih _ (List.getElem_mem _) _) ?_) <;> ((try simp -implicitDefEqProofs); (try simp -implicitDefEqProofs (disch := first | assumption | (try simp only [lens]); omega -splitDisjunctions)))))
     all_goals first | (rw [he, hd]; simp_all; done) | (refine at2 (ihn ?_) ?_ ?_; (· rw [hd]; simp_all); (· simp); (· rfl))
   refine at2 (main _ 0 (Nat.zero_add _) rfl) ?_ ?_ <;> simp)
end Go.Proofs.Ytcllmionhlmjfaa
