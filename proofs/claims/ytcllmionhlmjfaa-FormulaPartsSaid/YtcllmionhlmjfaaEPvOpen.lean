import Derived.Test.YtcllmionhlmjfaaEFpU
import Derived.Test.YtcllmionhlmjfaaEPvData
import Derived.DataReads
import Derived.ChangeShapes
set_option linter.unusedVariables false
set_option linter.unusedSimpArgs false
set_option maxRecDepth 100000
set_option maxHeartbeats 4000000
namespace Go.Proofs.Ytcllmionhlmjfaa
open Go Go.Pv
def x10 : XC := .seq (.reg [⟨some 3,.box 24 (.tmp 0),none⟩,⟨some 4,.box 24 (.tmp 1),none⟩,⟨some 6,.assign (.const (.bool false)),none⟩]) (.seq (.seq (.reg [⟨some 17,.call ⟨.value (.func 11),#[],#[]⟩,none⟩,⟨some 18,.unOp .not 4 (.tmp 17),none⟩]) (.cond (.tmp 18) (.seq (.reg [⟨some 6,.assign (.const (.bool false)),none⟩]) .ret) .skip)) (.seq (.seq (.reg [⟨some 19,.load 24 (.tmp 3),none⟩,⟨some 20,.call ⟨.value (.func 12),#[.tmp 19,.const (.int .i64 0)],#[24,3]⟩,none⟩,⟨some 21,.move (.tmp 20),none⟩,⟨some 22,.load 24 (.tmp 4),some (some 21,false)⟩,⟨some 23,.call ⟨.value (.func 12),#[.tmp 22,.const (.int .i64 0)],#[24,3]⟩,some (some 21,false)⟩,⟨some 24,.pick (.tmp 21) (.const (.bool true)) (.tmp 23),none⟩]) (.cond (.tmp 24) (.seq (.reg [⟨some 6,.assign (.const (.bool true)),none⟩]) .ret) .skip)) (.seq (.drawn 5 [⟨some 25,.load 24 (.tmp 3),none⟩,⟨some 26,.call ⟨.value (.func 13),#[.tmp 25],#[24]⟩,none⟩,⟨some 27,.load 24 (.tmp 4),none⟩,⟨some 28,.call ⟨.value (.func 13),#[.tmp 27],#[24]⟩,none⟩,⟨some 7,.alloc 24,none⟩,⟨some 8,.alloc 24,none⟩,⟨none,.store 24 (.tmp 7) (.tmp 26),none⟩,⟨none,.store 24 (.tmp 8) (.tmp 28),none⟩]) (.seq (.reg [⟨some 30,.load 24 (.tmp 7),none⟩,⟨some 31,.call ⟨.value (.func 37),#[.tmp 30],#[24]⟩,none⟩,⟨some 29,.move (.tmp 31),none⟩,⟨some 32,.extract (.tmp 29) 0,none⟩,⟨some 33,.extract (.tmp 29) 1,none⟩,⟨some 10,.alloc 29,none⟩,⟨some 9,.assign (.tmp 32),none⟩,⟨none,.store 29 (.tmp 10) (.tmp 33),none⟩]) (.seq (.reg [⟨some 35,.load 24 (.tmp 7),none⟩,⟨some 36,.call ⟨.value (.func 39),#[.tmp 35],#[24]⟩,none⟩,⟨some 34,.move (.tmp 36),none⟩,⟨some 37,.extract (.tmp 34) 0,none⟩,⟨some 38,.extract (.tmp 34) 1,none⟩,⟨some 12,.alloc 29,none⟩,⟨some 11,.assign (.tmp 37),none⟩,⟨none,.store 29 (.tmp 12) (.tmp 38),none⟩]) (.seq (.reg [⟨some 40,.load 24 (.tmp 7),none⟩,⟨some 41,.move (.tmp 2),none⟩,⟨some 42,.load 24 (.tmp 8),none⟩,⟨some 43,.call ⟨.value (.func 35),#[.tmp 40,.tmp 41,.tmp 42],#[24,9,24]⟩,none⟩,⟨some 39,.move (.tmp 43),none⟩,⟨some 44,.extract (.tmp 39) 0,none⟩,⟨some 45,.extract (.tmp 39) 1,none⟩,⟨some 13,.alloc 24,none⟩,⟨some 14,.alloc 29,none⟩,⟨none,.store 24 (.tmp 13) (.tmp 44),none⟩,⟨none,.store 29 (.tmp 14) (.tmp 45),none⟩]) (.seq (.reg [⟨some 46,.load 24 (.tmp 3),none⟩,⟨some 47,.call ⟨.value (.func 16),#[.tmp 46],#[24]⟩,none⟩,⟨some 15,.alloc 29,none⟩,⟨none,.store 29 (.tmp 15) (.tmp 47),none⟩]) (.seq (.seq (.reg [⟨some 48,.load 29 (.tmp 10),none⟩,⟨some 49,.load 29 (.tmp 15),none⟩,⟨some 50,.binOp .neq 29 (.tmp 48) (.tmp 49) 29,none⟩,⟨some 51,.move (.tmp 50),none⟩,⟨some 52,.load 29 (.tmp 12),some (some 51,false)⟩,⟨some 53,.load 29 (.tmp 15),some (some 51,false)⟩,⟨some 54,.binOp .neq 29 (.tmp 52) (.tmp 53) 29,some (some 51,false)⟩,⟨some 55,.pick (.tmp 51) (.const (.bool true)) (.tmp 54),none⟩,⟨some 56,.move (.tmp 55),none⟩,⟨some 57,.load 24 (.tmp 7),some (some 56,false)⟩,⟨some 58,.load 24 (.tmp 3),some (some 56,false)⟩,⟨some 59,.call ⟨.value (.func 17),#[.tmp 57,.tmp 58],#[24,24]⟩,some (some 56,false)⟩,⟨some 60,.unOp .not 4 (.tmp 59),some (some 56,false)⟩,⟨some 61,.pick (.tmp 56) (.const (.bool true)) (.tmp 60),none⟩,⟨some 62,.move (.tmp 61),none⟩,⟨some 63,.load 24 (.tmp 8),some (some 62,false)⟩,⟨some 64,.load 24 (.tmp 4),some (some 62,false)⟩,⟨some 65,.call ⟨.value (.func 17),#[.tmp 63,.tmp 64],#[24,24]⟩,some (some 62,false)⟩,⟨some 66,.unOp .not 4 (.tmp 65),some (some 62,false)⟩,⟨some 67,.pick (.tmp 62) (.const (.bool true)) (.tmp 66),none⟩]) (.cond (.tmp 67) (.seq (.reg [⟨some 6,.assign (.const (.bool false)),none⟩]) .ret) .skip)) (.seq (.seq (.reg [⟨some 68,.fieldAddr 29 (.tmp 15) 0,none⟩,⟨some 69,.load 3 (.tmp 68),none⟩,⟨some 70,.binOp .neq 3 (.tmp 69) (.const (.int .i64 0)) 3,none⟩]) (.cond (.tmp 70) (.seq (.reg [⟨some 71,.move (.tmp 9),none⟩,⟨some 72,.call ⟨.builtin .len,#[.tmp 71],#[65]⟩,none⟩,⟨some 73,.binOp .eql 3 (.tmp 72) (.const (.int .i64 0)) 3,none⟩,⟨some 74,.move (.tmp 73),none⟩,⟨some 75,.move (.tmp 11),some (some 74,true)⟩,⟨some 76,.call ⟨.builtin .len,#[.tmp 75],#[22]⟩,some (some 74,true)⟩,⟨some 77,.binOp .eql 3 (.tmp 76) (.const (.int .i64 0)) 3,some (some 74,true)⟩,⟨some 78,.pick (.tmp 74) (.tmp 77) (.const (.bool false)),none⟩,⟨some 79,.move (.tmp 78),none⟩,⟨some 80,.load 29 (.tmp 14),some (some 79,true)⟩,⟨some 81,.load 29 (.tmp 15),some (some 79,true)⟩,⟨some 82,.binOp .eql 29 (.tmp 80) (.tmp 81) 29,some (some 79,true)⟩,⟨some 83,.pick (.tmp 79) (.tmp 82) (.const (.bool false)),none⟩,⟨some 84,.move (.tmp 83),none⟩,⟨some 85,.load 24 (.tmp 13),some (some 84,true)⟩,⟨some 86,.call ⟨.value (.func 21),#[.tmp 85],#[24]⟩,some (some 84,true)⟩,⟨some 87,.pick (.tmp 84) (.tmp 86) (.const (.bool false)),none⟩,⟨some 6,.assign (.tmp 87),none⟩]) .ret) .skip)) (.seq (.seq (.reg [⟨some 88,.move (.tmp 9),none⟩,⟨some 89,.load 24 (.tmp 3),none⟩,⟨some 90,.buildSlice 22 1 #[(0,.tmp 89)],none⟩,⟨some 91,.call ⟨.value (.func 41),#[.tmp 90],#[22]⟩,none⟩,⟨some 92,.call ⟨.value (.func 40),#[.tmp 88,.tmp 91],#[65,65]⟩,none⟩,⟨some 93,.unOp .not 4 (.tmp 92),none⟩,⟨some 94,.move (.tmp 93),none⟩,⟨some 95,.move (.tmp 11),some (some 94,false)⟩,⟨some 96,.load 24 (.tmp 3),some (some 94,false)⟩,⟨some 97,.buildSlice 22 1 #[(0,.tmp 96)],some (some 94,false)⟩,⟨some 98,.call ⟨.value (.func 43),#[.tmp 97],#[22]⟩,some (some 94,false)⟩,⟨some 99,.call ⟨.value (.func 42),#[.tmp 95,.tmp 98],#[22,22]⟩,some (some 94,false)⟩,⟨some 100,.unOp .not 4 (.tmp 99),some (some 94,false)⟩,⟨some 101,.pick (.tmp 94) (.const (.bool true)) (.tmp 100),none⟩]) (.cond (.tmp 101) (.seq (.reg [⟨some 6,.assign (.const (.bool false)),none⟩]) .ret) .skip)) (.seq (.reg [⟨some 102,.load 24 (.tmp 4),none⟩,⟨some 103,.call ⟨.value (.func 16),#[.tmp 102],#[24]⟩,none⟩,⟨none,.store 29 (.tmp 15) (.tmp 103),none⟩]) (.seq (.seq (.reg [⟨some 104,.fieldAddr 29 (.tmp 15) 0,none⟩,⟨some 105,.load 3 (.tmp 104),none⟩,⟨some 106,.binOp .eql 3 (.tmp 105) (.const (.int .i64 0)) 3,none⟩,⟨some 107,.move (.tmp 106),none⟩,⟨some 108,.move (.tmp 2),some (some 107,true)⟩,⟨some 109,.call ⟨.value (.func 44),#[.tmp 108],#[9]⟩,some (some 107,true)⟩,⟨some 110,.unOp .not 4 (.tmp 109),some (some 107,true)⟩,⟨some 111,.pick (.tmp 107) (.tmp 110) (.const (.bool false)),none⟩]) (.cond (.tmp 111) (.reg [⟨some 112,.call ⟨.value (.func 45),#[.const (.int .i64 8),.const (.int .i64 0)],#[3,3]⟩,none⟩,⟨none,.store 29 (.tmp 15) (.tmp 112),none⟩]) .skip)) (.seq (.seq (.reg [⟨some 113,.fieldAddr 29 (.tmp 15) 0,none⟩,⟨some 114,.load 3 (.tmp 113),none⟩,⟨some 115,.binOp .eql 3 (.tmp 114) (.const (.int .i64 0)) 3,none⟩]) (.cond (.tmp 115) (.seq (.reg [⟨some 116,.load 24 (.tmp 3),none⟩,⟨some 117,.move (.tmp 2),none⟩,⟨some 118,.load 24 (.tmp 4),none⟩,⟨some 119,.call ⟨.value (.func 46),#[.tmp 116,.tmp 117,.tmp 118],#[24,9,24]⟩,none⟩,⟨some 16,.alloc 24,none⟩,⟨none,.store 24 (.tmp 16) (.tmp 119),none⟩]) (.seq (.seq (.reg [⟨some 120,.load 24 (.tmp 16),none⟩,⟨some 121,.call ⟨.value (.func 47),#[.tmp 120,.const (.int .i64 201)],#[24,3]⟩,none⟩,⟨some 122,.call ⟨.builtin .len,#[.tmp 121],#[22]⟩,none⟩,⟨some 123,.binOp .leq 3 (.tmp 122) (.const (.int .i64 200)) 3,none⟩]) (.cond (.tmp 123) (.seq (.reg [⟨some 124,.fieldAddr 29 (.tmp 14) 0,none⟩,⟨some 125,.load 3 (.tmp 124),none⟩,⟨some 126,.binOp .eql 3 (.tmp 125) (.const (.int .i64 0)) 3,none⟩,⟨some 127,.move (.tmp 126),none⟩,⟨some 128,.load 24 (.tmp 13),some (some 127,true)⟩,⟨some 129,.load 24 (.tmp 16),some (some 127,true)⟩,⟨some 130,.call ⟨.value (.func 17),#[.tmp 128,.tmp 129],#[24,24]⟩,some (some 127,true)⟩,⟨some 131,.pick (.tmp 127) (.tmp 130) (.const (.bool false)),none⟩,⟨some 6,.assign (.tmp 131),none⟩]) .ret) .skip)) (.reg [⟨some 132,.call ⟨.value (.func 45),#[.const (.int .i64 10),.const (.int .i64 0)],#[3,3]⟩,none⟩,⟨none,.store 29 (.tmp 15) (.tmp 132),none⟩]))) .skip)) (.seq (.reg [⟨some 133,.load 29 (.tmp 14),none⟩,⟨some 134,.load 29 (.tmp 15),none⟩,⟨some 135,.binOp .eql 29 (.tmp 133) (.tmp 134) 29,none⟩,⟨some 136,.move (.tmp 135),none⟩,⟨some 137,.load 24 (.tmp 13),some (some 136,true)⟩,⟨some 138,.call ⟨.value (.func 21),#[.tmp 137],#[24]⟩,some (some 136,true)⟩,⟨some 139,.pick (.tmp 136) (.tmp 138) (.const (.bool false)),none⟩,⟨some 6,.assign (.tmp 139),none⟩]) .ret))))))))))))))
@[simp] theorem x10_s {C e s K} : type_of% (@X_at C e s K _ _ x10.eq_1) := X_at x10.eq_1
@[simp] def tr10_5 : MT := .op 0 (.op 2 (.br (.op 1 (.ck 2 (.br (.op 3 (.br (.op 4 (.op 5 (.op 6 (.op 7 .fin)))) (.op 5 (.op 4 (.op 6 (.op 7 .fin)))))) (.br (.op 4 (.ck 2 (.br (.op 3 (.op 5 (.op 6 (.op 7 .fin)))) (.op 5 (.ck 2 (.op 3 (.op 6 (.op 7 .fin)))))))) (.op 5 (.ck 2 (.br (.op 3 (.op 4 (.op 6 (.op 7 .fin)))) (.op 4 (.ck 2 (.op 3 (.op 6 (.op 7 .fin)))))))))))) (.br (.op 4 (.ck 0 (.ck 2 (.br (.op 1 (.ck 2 (.br (.op 3 (.op 5 (.op 6 (.op 7 .fin)))) (.op 5 (.ck 2 (.op 3 (.op 6 (.op 7 .fin)))))))) (.op 5 (.ck 0 (.ck 2 (.op 1 (.ck 2 (.op 3 (.op 6 (.op 7 .fin)))))))))))) (.op 5 (.ck 0 (.ck 2 (.br (.op 1 (.ck 2 (.br (.op 3 (.op 4 (.op 6 (.op 7 .fin)))) (.op 4 (.ck 2 (.op 3 (.op 6 (.op 7 .fin)))))))) (.op 4 (.ck 0 (.ck 2 (.op 1 (.ck 2 (.op 3 (.op 6 (.op 7 .fin)))))))))))))))
def an10 : Ann := ⟨[(5, .tree tr10_5)], [], []⟩
@[simp] theorem an10_a : an10.clsOf 5 = .tree tr10_5 ∧ an10.frzOf 5 = [] := ⟨rfl, rfl⟩
theorem fi10 : FI Try.prog 10 (cxA an10) x10 [.tmp 6] Try.f10 := fiA Try.func10 mixed
structure HoldF (p : Prop) : Prop where
 h : p
theorem joinK {K g : Prop} (h : HoldF K → g) (k : K) : g := h ⟨k⟩
theorem formulaParts_law (f g : Fm) (nm : ByteArray) : CallOK Try.prog 10 [.agg (frm f), .agg (frm g), .str nm] [] (.bool true) [] := by
 have hb := formulaBegun_law
 have v1 := vast_ref f 0 (by decide) (by decide) []
 have v2 := vast_ref g 0 (by decide) (by decide) []
 refine fi10.op ?_
 cases hv1 : vastB f 0 with
 | true =>
  rw [hv1] at v1
  ((refine Sg.h ?_); try repeat' ((first | (with_reducible first | refine brA ?_ | refine brE fun _ => ?_ | (refine spl ⟨?_, ?_⟩ <;> intro _)) | refine clo hb ?_ | refine clo v1 ?_) <;> ((try simp -implicitDefEqProofs); (try simp -implicitDefEqProofs (disch := first | assumption | (try simp only [lens]); omega -splitDisjunctions)))))
 | false =>
  rw [hv1] at v1
  cases hv2 : vastB g 0 with
  | true =>
   rw [hv2] at v2
   ((refine Sg.h ?_); try repeat' ((first | (with_reducible first | refine brA ?_ | refine brE fun _ => ?_ | (refine spl ⟨?_, ?_⟩ <;> intro _)) | refine clo hb ?_ | refine clo v1 ?_ | refine clo v2 ?_) <;> ((try simp -implicitDefEqProofs); (try simp -implicitDefEqProofs (disch := first | assumption | (try simp only [lens]); omega -splitDisjunctions)))))
  | false =>
   rw [hv2] at v2
   have o1 := own_law f 0 hv1
   have o2 := own_law g 0 hv2
   have hsame : ∀ g : Fm, CallOK Try.prog 17 [.agg (frm g), .agg (frm g)] [] (.bool true) [] := fun g => by
    have := Same_ref g g
    rw [sameB_iff.2 rfl] at this; exact this
   have s1 := hsame f
   have s2 := hsame g
   have hput := Put_formula nm f g
   have hw := FormulaFault_ref f
   have hw2 := FormulaFault_ref g
   have hnz := none_zero
   ((refine Sg.h ?_); try repeat' ((first | (with_reducible first | refine brA ?_ | refine brE fun _ => ?_ | (refine spl ⟨?_, ?_⟩ <;> intro _)) | refine clo hb ?_ | refine clo v1 ?_ | refine clo v2 ?_) <;> ((try simp -implicitDefEqProofs); (try simp -implicitDefEqProofs (disch := first | assumption | (try simp only [lens]); omega -splitDisjunctions)))))
   refine joinK (K := ?K) ?_ ?_
   rotate_left 1
   ·intro key
    repeat' (first | refine And.intro ?_ ?_ | (refine clo o1 ?_; ((refine Sg.h ?_); try repeat' ((first | (with_reducible first | refine brA ?_ | refine brE fun _ => ?_ | (refine spl ⟨?_, ?_⟩ <;> intro _))) <;> ((try simp -implicitDefEqProofs); (try simp -implicitDefEqProofs (disch := first | assumption | (try simp only [lens]); omega -splitDisjunctions)))))) | (refine clo o2 ?_; ((refine Sg.h ?_); try repeat' ((first | (with_reducible first | refine brA ?_ | refine brE fun _ => ?_ | (refine spl ⟨?_, ?_⟩ <;> intro _))) <;> ((try simp -implicitDefEqProofs); (try simp -implicitDefEqProofs (disch := first | assumption | (try simp only [lens]); omega -splitDisjunctions)))))))
    all_goals refine CL.gc [] [] [30, 2, 3, 4, 7, 8] ?_
    all_goals (((refine Sg.h ?_); try repeat' ((first | (with_reducible first | refine brA ?_ | refine brE fun _ => ?_ | (refine spl ⟨?_, ?_⟩ <;> intro _))) <;> ((try simp -implicitDefEqProofs); (try simp -implicitDefEqProofs (disch := first | assumption | (try simp only [lens]); omega -splitDisjunctions))))))
    all_goals exact key.h
   ·clear hb v1 v2 o1 o2
    by_cases hc : (formulaCheck f).1 = 0
    ·have hfz := (formulaCheck_iff f).1 hc
     have hcz := formulaCheck_zero hc
     have n1 := Names_ok f hcz
     have p1 := Parts_ok f hcz
     have ni := NamesIn_names [f] (by simp) (fun y hy => by rw [List.mem_singleton.1 hy]; exact hfz.2)
     have pi := PartsIn_ref f (td_check hc) hfz.2
     have tx := Texts_ref (namesS [f]) (namesS [f])
     rw [decide_eq_true rfl] at tx
     have al := Alike_self (partsS [] (pre f))
     rw [hcz] at hw
     generalize namesS [f] = A at *
     generalize partsS [] (pre f) = Ps at *
     by_cases hg : (formulaCheck g).1 = 0
     ·have hgz := formulaCheck_zero hg
      rw [hgz] at hw2
      have hin := IsName_ref nm
      cases hN : isNameB nm with
      | false =>
       have hpv : putV nm f g = (.mk 0 ⟨#[]⟩ [], 8, 0) := by unfold putV; rw [if_neg (by simp [hc]), if_neg (by simp [hg]), if_pos hN]
       rw [hpv] at hput
       rw [hN] at hin
       have f8 := F_ref 8 0
       dsimp only at hput
       generalize (Fm.mk 0 ⟨#[]⟩ []) = z at *
       ((refine Sg.h ?_); try repeat' ((first | (with_reducible first | refine brA ?_ | refine brE fun _ => ?_ | (refine spl ⟨?_, ?_⟩ <;> intro _)) | refine clo n1 ?_ | refine clo p1 ?_ | refine clo hput ?_ | refine clo hw ?_ | refine clo s1 ?_ | refine clo s2 ?_) <;> ((try simp -implicitDefEqProofs); (try simp -implicitDefEqProofs (disch := first | assumption | (try simp only [lens]); omega -splitDisjunctions)))))
       refine CL.giv [9] ?_
       ((refine Sg.h ?_); try repeat' ((first | (with_reducible first | refine brA ?_ | refine brE fun _ => ?_ | (refine spl ⟨?_, ?_⟩ <;> intro _)) | refine clo ni ?_ | refine clo tx ?_) <;> ((try simp -implicitDefEqProofs); (try simp -implicitDefEqProofs (disch := first | assumption | (try simp only [lens]); omega -splitDisjunctions)))))
       refine CL.giv [10] ?_
       ((refine Sg.h ?_); try repeat' ((first | (with_reducible first | refine brA ?_ | refine brE fun _ => ?_ | (refine spl ⟨?_, ?_⟩ <;> intro _)) | refine clo pi ?_ | refine clo al ?_ | refine clo hw2 ?_ | refine clo hin ?_ | refine clo f8 ?_ | refine clo hnz ?_) <;> ((try simp -implicitDefEqProofs); (try simp -implicitDefEqProofs (disch := first | assumption | (try simp only [lens]); omega -splitDisjunctions)))))
      | true =>
       rw [hN] at hin
       have hwi := With_ref nm g f (td_check hc).ok
       have hwk := walk_ref (withF nm g f) 201 (by omega) (by omega) []
       have hwl : walkL (withF nm g f) 201 = (pre (withF nm g f)).take 202 := by rw [show (201 : Int) = ((201 : Nat) : Int) from rfl, walk_take]
       have hnl : (nodesGo 201 201 [withF nm g f]).length = min 201 (pre (withF nm g f)).length := by rw [nodesGo_take 201 201 _ (by omega), pres_cons, pres_nil, List.append_nil, List.length_take]
       rw [hwl] at hwk
       have hll : ((pre (withF nm g f)).take 202).length = min 202 (pre (withF nm g f)).length := List.length_take
       generalize hLL : (pre (withF nm g f)).take 202 = LL at *
       have sh := hsame (withF nm g f)
       by_cases hL : 200 < (nodesGo 201 201 [withF nm g f]).length
       ·have hpv : putV nm f g = (.mk 0 ⟨#[]⟩ [], 10, 0) := by unfold putV; rw [if_neg (by simp [hc]), if_neg (by simp [hg]), if_neg (by simp [hN]), if_pos hL]
        rw [hpv] at hput
        have f10 := F_ref 10 0
        have hLi : ¬ (LL.length : Int) ≤ 200 := by omega
        dsimp only at hput
        generalize (Fm.mk 0 ⟨#[]⟩ []) = z at *
        generalize withF nm g f = h at *
        ((refine Sg.h ?_); try repeat' ((first | (with_reducible first | refine brA ?_ | refine brE fun _ => ?_ | (refine spl ⟨?_, ?_⟩ <;> intro _)) | refine clo n1 ?_ | refine clo p1 ?_ | refine clo hput ?_ | refine clo hw ?_ | refine clo s1 ?_ | refine clo s2 ?_) <;> ((try simp -implicitDefEqProofs); (try simp -implicitDefEqProofs (disch := first | assumption | (try simp only [lens]); omega -splitDisjunctions)))))
        refine CL.giv [9] ?_
        ((refine Sg.h ?_); try repeat' ((first | (with_reducible first | refine brA ?_ | refine brE fun _ => ?_ | (refine spl ⟨?_, ?_⟩ <;> intro _)) | refine clo ni ?_ | refine clo tx ?_) <;> ((try simp -implicitDefEqProofs); (try simp -implicitDefEqProofs (disch := first | assumption | (try simp only [lens]); omega -splitDisjunctions)))))
        refine CL.giv [10] ?_
        ((refine Sg.h ?_); try repeat' ((first | (with_reducible first | refine brA ?_ | refine brE fun _ => ?_ | (refine spl ⟨?_, ?_⟩ <;> intro _)) | refine clo pi ?_ | refine clo al ?_ | refine clo hw2 ?_ | refine clo hin ?_ | refine clo hwi ?_ | refine clo hwk ?_ | refine clo f10 ?_ | refine clo hnz ?_) <;> ((try simp -implicitDefEqProofs [hLi]); (try simp -implicitDefEqProofs (disch := first | assumption | (try simp only [lens]); omega -splitDisjunctions) [hLi]))))
       ·have hpv : putV nm f g = (withF nm g f, 0, 0) := by unfold putV; rw [if_neg (by simp [hc]), if_neg (by simp [hg]), if_neg (by simp [hN]), if_neg hL]
        rw [hpv] at hput
        have hLi : (LL.length : Int) ≤ 200 := by omega
        dsimp only at hput
        generalize withF nm g f = h at *
        ((refine Sg.h ?_); try repeat' ((first | (with_reducible first | refine brA ?_ | refine brE fun _ => ?_ | (refine spl ⟨?_, ?_⟩ <;> intro _)) | refine clo n1 ?_ | refine clo p1 ?_ | refine clo hput ?_ | refine clo hw ?_ | refine clo s1 ?_ | refine clo s2 ?_) <;> ((try simp -implicitDefEqProofs); (try simp -implicitDefEqProofs (disch := first | assumption | (try simp only [lens]); omega -splitDisjunctions)))))
        refine CL.giv [9] ?_
        ((refine Sg.h ?_); try repeat' ((first | (with_reducible first | refine brA ?_ | refine brE fun _ => ?_ | (refine spl ⟨?_, ?_⟩ <;> intro _)) | refine clo ni ?_ | refine clo tx ?_) <;> ((try simp -implicitDefEqProofs); (try simp -implicitDefEqProofs (disch := first | assumption | (try simp only [lens]); omega -splitDisjunctions)))))
        refine CL.giv [10] ?_
        ((refine Sg.h ?_); try repeat' ((first | (with_reducible first | refine brA ?_ | refine brE fun _ => ?_ | (refine spl ⟨?_, ?_⟩ <;> intro _)) | refine clo pi ?_ | refine clo al ?_ | refine clo hw2 ?_ | refine clo hin ?_ | refine clo hwi ?_ | refine clo hwk ?_ | refine clo sh ?_) <;> ((try simp -implicitDefEqProofs [hLi]); (try simp -implicitDefEqProofs (disch := first | assumption | (try simp only [lens]); omega -splitDisjunctions) [hLi]))))
     ·have hpv : putV nm f g = (.mk 0 ⟨#[]⟩ [], formulaCheck g) := by unfold putV; rw [if_neg (by simp [hc]), if_pos hg]
      rw [hpv] at hput
      generalize formulaCheck g = q at *
      obtain ⟨c2, a2⟩ := q
      dsimp only at hg hput hw2
      generalize (Fm.mk 0 ⟨#[]⟩ []) = z at *
      ((refine Sg.h ?_); try repeat' ((first | (with_reducible first | refine brA ?_ | refine brE fun _ => ?_ | (refine spl ⟨?_, ?_⟩ <;> intro _)) | refine clo n1 ?_ | refine clo p1 ?_ | refine clo hput ?_ | refine clo hw ?_ | refine clo s1 ?_ | refine clo s2 ?_) <;> ((try simp -implicitDefEqProofs); (try simp -implicitDefEqProofs (disch := first | assumption | (try simp only [lens]); omega -splitDisjunctions)))))
      refine CL.giv [9] ?_
      ((refine Sg.h ?_); try repeat' ((first | (with_reducible first | refine brA ?_ | refine brE fun _ => ?_ | (refine spl ⟨?_, ?_⟩ <;> intro _)) | refine clo ni ?_ | refine clo tx ?_) <;> ((try simp -implicitDefEqProofs); (try simp -implicitDefEqProofs (disch := first | assumption | (try simp only [lens]); omega -splitDisjunctions)))))
      refine CL.giv [10] ?_
      ((refine Sg.h ?_); try repeat' ((first | (with_reducible first | refine brA ?_ | refine brE fun _ => ?_ | (refine spl ⟨?_, ?_⟩ <;> intro _)) | refine clo pi ?_ | refine clo al ?_ | refine clo hw2 ?_ | refine clo hnz ?_) <;> ((try simp -implicitDefEqProofs [hg]); (try simp -implicitDefEqProofs (disch := first | assumption | (try simp only [lens]); omega -splitDisjunctions) [hg]))))
    ·have hpv : putV nm f g = (.mk 0 ⟨#[]⟩ [], formulaCheck f) := by unfold putV; rw [if_pos hc]
     rw [hpv] at hput
     have n1 := Names_bad f hc
     have p1 := Parts_bad f hc
     generalize formulaCheck f = q at *
     obtain ⟨c, a⟩ := q
     dsimp only at hc hput n1 p1 hw
     generalize (Fm.mk 0 ⟨#[]⟩ []) = z at *
     ((refine Sg.h ?_); try repeat' ((first | (with_reducible first | refine brA ?_ | refine brE fun _ => ?_ | (refine spl ⟨?_, ?_⟩ <;> intro _)) | refine clo n1 ?_ | refine clo p1 ?_ | refine clo hput ?_ | refine clo hw ?_ | refine clo s1 ?_ | refine clo s2 ?_ | refine clo hnz ?_) <;> ((try simp -implicitDefEqProofs [hc]); (try simp -implicitDefEqProofs (disch := first | assumption | (try simp only [lens]); omega -splitDisjunctions) [hc]))))
end Go.Proofs.Ytcllmionhlmjfaa
namespace Go.Pv
open Go
inductive HasTy (P : Program) : TypeId → List PV → Prop where
 | bool {t b} (h : P.underlying t = some .bool) : HasTy P t [.bool b]
 | int {t k n} (h : P.underlying t = some (.int k)) (wf : (Lit.int k n).wf = true) : HasTy P t [.int k n]
 | str {t s} (h : P.underlying t = some .string) (hs : s.size ≤ maxLen) (hb : s.size ≤ reachBytes) : HasTy P t [.str s]
 | slice {t e rows} (h : P.underlying t = some (.slice e)) (hr : ∀ row ∈ rows, HasTy P e row) (hb : rows.length * P.bytesOf e ≤ reachBytes) : HasTy P t [.list rows]
 | struct {t} {fs : Array Field} {parts : List (List PV)} (h : P.underlying t = some (.struct fs)) (hl : parts.length = fs.size)
   (hp : ∀ (i : Nat) (f : Field) (row : List PV), fs[i]? = some f → parts[i]? = some row → HasTy P f.type row) : HasTy P t parts.flatten
 | array {t n e} {parts : List (List PV)} (h : P.underlying t = some (.array n e)) (hl : parts.length = n) (hp : ∀ row ∈ parts, HasTy P e row) : HasTy P t parts.flatten
def RowRel (pub : PHeap) (row : List PV) (cs : List Value) : Prop := row.length = cs.length ∧ ∀ (j : Nat) (v : PV) (c : Value), row[j]? = some v → cs[j]? = some c → Rel pub noSig v c
theorem RowRel.nil {pub : PHeap} : RowRel pub [] [] := ⟨rfl, fun j v c h => by simp at h⟩
theorem RowRel.one {pub : PHeap} {v : PV} {c : Value} (h : Rel pub noSig v c) : RowRel pub [v] [c] := ⟨rfl, fun j x y hx hy => by
 cases j with
 | zero => simp at hx hy; subst hx hy; exact h
 | succ j => simp at hx⟩
theorem RowRel.append {pub : PHeap} {r r' : List PV} {cs cs' : List Value} (h : RowRel pub r cs) (g : RowRel pub r' cs') : RowRel pub (r ++ r') (cs ++ cs') := by
 refine ⟨by simp [h.1, g.1], fun j v c hv hc => ?_⟩
 rw [List.getElem?_append] at hv hc
 split at hv
 ·rename_i hlt; rw [if_pos (by rw [← h.1]; exact hlt)] at hc; exact h.2 j v c hv hc
 ·rename_i hge; rw [if_neg (by rw [← h.1]; exact hge), ← h.1] at hc; exact g.2 _ v c hv hc
def contig (P : Program) (total : Nat) : List Field → Nat → Bool
 | [], o => o == total
 | f :: r, o => f.offset == o && contig P total r (o + P.cellsOf f.type)
def tyOK (P : Program) (S : List TypeId) (t : TypeId) : Bool := match P.underlying t with
 | some .bool | some (.int _) | some .string => true
 | some (.slice e) => S.contains e && decide (0 < P.cellsOf e)
 | some (.struct fs) => contig P (P.cellsOf t) fs.toList 0 && fs.toList.all fun f => S.contains f.type
 | some (.array n e) => S.contains e && n * P.cellsOf e == P.cellsOf t
 | _ => false
theorem rows_of {α : Type} (p : Nat → α → Prop) : ∀ n, (∀ i, i < n → ∃ x, p i x) → ∃ l : List α, l.length = n ∧ ∀ i x, l[i]? = some x → p i x := by
 intro n
 induction n with
 | zero => intro _; exact ⟨[], rfl, fun i x h => by simp at h⟩
 | succ n ih =>
  intro h
  obtain ⟨l, hl, hp⟩ := ih fun i hi => h i (by omega)
  obtain ⟨x, hx⟩ := h n (by omega)
  refine ⟨l ++ [x], by simp [hl], fun i y hy => ?_⟩
  rw [List.getElem?_append] at hy
  split at hy
  ·exact hp i y hy
  ·rename_i hge
   have hi := lt_of_getElem? hy
   simp only [List.length_cons, List.length_nil] at hi
   have hin : i = n := by omega
   subst hin
   rw [show i - l.length = 0 by omega] at hy
   simp at hy; subst hy; exact hx
section
variable {H : Type} {enc : TypeId × Value → H} {P : Program} {S : List TypeId} {w : World} {spare : Nat → Bool} {held : Bool}
theorem fields_rel {fuel total : Nat} {cs : List Value} {pub : PHeap} (hcs : cs.length = total)
  (ih : ∀ (t : TypeId) (cs : List Value) (x : DataW H × List MemPlace), S.contains t = true → DataW.trod enc P w 0 spare held fuel t cs = some x → (∀ n ∈ DataW.weights P t x.1, n ≤ reachBytes) → ∃ row, HasTy P t row ∧ RowRel pub row cs) :
  ∀ (fs : List Field) (o : Nat) (xs : List (DataW H × List MemPlace)), contig P total fs o = true → (fs.all fun f => S.contains f.type) = true →
   (fs.mapM fun f => DataW.trod enc P w 0 spare held fuel f.type ((cs.drop f.offset).take (P.cellsOf f.type))) = some xs → (∀ n ∈ DataW.weightsEach P (fs.map (·.type)) (xs.map (·.1)), n ≤ reachBytes) →
   o ≤ total ∧ ∃ parts : List (List PV), parts.length = fs.length ∧ (∀ (i : Nat) (f : Field) (row : List PV), fs[i]? = some f → parts[i]? = some row → HasTy P f.type row) ∧ RowRel pub parts.flatten (cs.drop o) := by
 intro fs
 induction fs with
 | nil =>
  intro o xs hc _ _ _
  simp only [contig, beq_iff_eq] at hc
  refine ⟨by omega, [], rfl, fun i f row h => by simp at h, ?_⟩
  rw [List.drop_eq_nil_of_le (by omega)]; exact .nil
 | cons f r ih2 =>
  intro o xs hc ha hm hw
  simp only [contig, Bool.and_eq_true, beq_iff_eq] at hc
  simp only [List.all_cons, Bool.and_eq_true] at ha
  obtain ⟨ho, hc⟩ := hc
  rw [List.mapM_cons] at hm
  cases hx : DataW.trod enc P w 0 spare held fuel f.type ((cs.drop f.offset).take (P.cellsOf f.type)) with
  | none => rw [hx] at hm; simp at hm
  | some x =>
   cases hxs : (r.mapM fun f => DataW.trod enc P w 0 spare held fuel f.type ((cs.drop f.offset).take (P.cellsOf f.type))) with
   | none => rw [hx, hxs] at hm; simp at hm
   | some ys =>
    rw [hx, hxs] at hm
    obtain rfl : x :: ys = xs := by simpa using hm
    simp only [List.map_cons, DataW.weightsEach, List.mem_append] at hw
    obtain ⟨h1, parts, h2, h3, h4⟩ := ih2 _ ys hc ha.2 hxs fun n hn => hw n (.inr hn)
    obtain ⟨row, g1, g2⟩ := ih _ _ _ ha.1 hx fun n hn => hw n (.inl hn)
    refine ⟨by omega, row :: parts, by simp [h2], fun i f' row' hf hr => ?_, ?_⟩
    ·cases i with
     | zero => simp at hf hr; subst hf hr; exact g1
     | succ i => exact h3 i f' row' (by simpa using hf) (by simpa using hr)
    ·rw [List.flatten_cons]
     have hsplit : cs.drop o = (cs.drop o).take (P.cellsOf f.type) ++ cs.drop (o + P.cellsOf f.type) := by
      rw [← List.drop_drop, List.take_append_drop]
     rw [hsplit, ← ho]
     rw [← ho] at h4
     exact g2.append h4
theorem elems_rel {fuel : Nat} {cs : List Value} {pub : PHeap} {e : TypeId} (hin : S.contains e = true)
  (ih : ∀ (t : TypeId) (cs : List Value) (x : DataW H × List MemPlace), S.contains t = true → DataW.trod enc P w 0 spare held fuel t cs = some x → (∀ n ∈ DataW.weights P t x.1, n ≤ reachBytes) → ∃ row, HasTy P t row ∧ RowRel pub row cs) :
  ∀ (k i : Nat) (xs : List (DataW H × List MemPlace)), cs.length = (i + k) * P.cellsOf e →
   ((List.range' i k).mapM fun i => DataW.trod enc P w 0 spare held fuel e ((cs.drop (i * P.cellsOf e)).take (P.cellsOf e))) = some xs → (∀ n ∈ DataW.weightsAll P e (xs.map (·.1)), n ≤ reachBytes) →
   ∃ parts : List (List PV), parts.length = k ∧ (∀ row ∈ parts, HasTy P e row) ∧ RowRel pub parts.flatten (cs.drop (i * P.cellsOf e)) := by
 intro k
 induction k with
 | zero =>
  intro i xs hc _ _
  refine ⟨[], rfl, by simp, ?_⟩
  rw [List.drop_eq_nil_of_le (by rw [hc]; exact Nat.le_refl _)]; exact .nil
 | succ k ih2 =>
  intro i xs hc hm hw
  rw [List.range'_succ, List.mapM_cons] at hm
  cases hx : DataW.trod enc P w 0 spare held fuel e ((cs.drop (i * P.cellsOf e)).take (P.cellsOf e)) with
  | none => rw [hx] at hm; simp at hm
  | some x =>
   cases hxs : ((List.range' (i + 1) k).mapM fun i => DataW.trod enc P w 0 spare held fuel e ((cs.drop (i * P.cellsOf e)).take (P.cellsOf e))) with
   | none => rw [hx, hxs] at hm; simp at hm
   | some ys =>
    rw [hx, hxs] at hm
    obtain rfl : x :: ys = xs := by simpa using hm
    simp only [List.map_cons, DataW.weightsAll, List.mem_append] at hw
    obtain ⟨parts, h2, h3, h4⟩ := ih2 (i + 1) ys (by rw [hc]; congr 1; omega) hxs fun n hn => hw n (.inr hn)
    obtain ⟨row, g1, g2⟩ := ih _ _ _ hin hx fun n hn => hw n (.inl hn)
    refine ⟨row :: parts, by simp [h2], fun row' hr => ?_, ?_⟩
    ·rcases List.mem_cons.1 hr with rfl | hr
     ·exact g1
     ·exact h3 _ hr
    ·rw [List.flatten_cons]
     have hsplit : cs.drop (i * P.cellsOf e) = (cs.drop (i * P.cellsOf e)).take (P.cellsOf e) ++ cs.drop ((i + 1) * P.cellsOf e) := by
      rw [Nat.add_mul, Nat.one_mul, ← List.drop_drop, List.take_append_drop]
     rw [hsplit]
     exact g2.append h4
def heapOf (w : World) : PHeap := fun b => w.heap[b]?
theorem cell_block {w : World} {a : Addr} {c : Value} (h : w.cell? a = some c) : a.spot = none ∧ ∃ cs ty fr, w.heap[a.block]? = some (.cells cs ty fr) ∧ cs[a.off]? = some c := by
 unfold World.cell? at h
 split at h
 ·rename_i cs ty fr hh
  split at h
  ·cases h
  ·rename_i hs; exact ⟨by simpa using hs, cs, ty, fr, hh, h⟩
 ·cases h
theorem weightsAll_mem {H : Type} {P : Program} {e : TypeId} : ∀ {l : List (DataW H)} {d : DataW H} {n : Nat}, d ∈ l → n ∈ DataW.weights P e d → n ∈ DataW.weightsAll P e l
 | a :: r, d, n, h, hn => by
  simp only [DataW.weightsAll, List.mem_append]
  rcases List.mem_cons.1 h with rfl | h
  ·exact .inl hn
  ·exact .inr (weightsAll_mem h hn)
theorem trod_rel (hS : ∀ t, S.contains t = true → tyOK P S t = true) : ∀ (fuel : Nat) (t : TypeId) (cs : List Value) (x : DataW H × List MemPlace), S.contains t = true →
  DataW.trod enc P w 0 spare held fuel t cs = some x → (∀ n ∈ DataW.weights P t x.1, n ≤ reachBytes) → ∃ row, HasTy P t row ∧ RowRel (heapOf w) row cs := by
 intro fuel
 induction fuel with
 | zero => intro t cs x _ h; simp [DataW.trod] at h
 | succ fuel ih =>
  intro t cs x hin h hw
  have hok := hS t hin
  unfold tyOK at hok
  unfold DataW.trod at h
  split at hok
  ·rename_i hu
   rw [hu] at h
   split at h <;> first | (cases h; done) | skip
   all_goals first | (rename_i heq; cases heq; done) | skip
   exact ⟨_, .bool hu, .one .bool⟩
  ·rename_i k hu
   rw [hu] at h
   split at h <;> first | (cases h; done) | skip
   all_goals first | (rename_i heq; cases heq; done) | skip
   rename_i heq; cases heq
   split at h
   ·rename_i hk; obtain ⟨rfl, hwf⟩ := hk; exact ⟨_, .int hu hwf, .one .int⟩
   ·cases h
  ·rename_i hu
   rw [hu] at h
   split at h <;> first | (cases h; done) | skip
   all_goals first | (rename_i heq; cases heq; done) | skip
   split at h
   ·rename_i s hs
    cases h
    exact ⟨_, .str hu hs (by simpa [DataW.weights] using hw), .one (.str hs)⟩
   ·cases h
  ·rename_i e hu
   rw [hu] at h
   simp only [Bool.and_eq_true, decide_eq_true_eq] at hok
   split at h <;> first | (cases h; done) | skip
   all_goals first | (rename_i heq; cases heq; done) | skip
   ·exact ⟨[.list []], .slice hu (fun row hr => by cases hr) (by simp), .one (.list0 (Nat.zero_le _))⟩
   ·rename_i e' a len cap heq
    cases heq
    simp only at h
    split at h
    ·rename_i hc
     obtain ⟨_, hlc, hcm⟩ := hc
     obtain ⟨elems, hm, h⟩ := Option.bind_eq_some_iff.1 h
     obtain ⟨rest, hrest, rfl⟩ := Option.map_eq_some_iff.1 h
     simp only [DataW.weights, hu, List.mem_cons, List.mem_append] at hw
     by_cases h0 : len = 0
     ·subst h0
      exact ⟨[.list []], .slice hu (fun row hr => by cases hr) (by simp), .one (.list0 hcm)⟩
     ·have hel : ∀ i, i < len → ∃ row : List PV, HasTy P e row ∧ ∃ ec : List Value, ec.length = P.cellsOf e ∧ (∀ j, j < P.cellsOf e → w.cell? ((a.add (i * P.cellsOf e)).add j) = ec[j]?) ∧ RowRel (heapOf w) row ec := by
       intro i hi
       have hx := mapM_some_get hm i i (by simp [hi])
       have hl := mapM_some_length hm
       simp only [List.length_range] at hl
       rw [List.getElem?_eq_getElem (by omega)] at hx
       obtain ⟨ec, h1, h2⟩ := Option.bind_eq_some_iff.1 hx
       obtain ⟨_, h3, h4⟩ := World.cells?_some h1
       obtain ⟨row, g1, g2⟩ := ih e ec _ hok.1 h2 fun n hn => hw n (.inr (.inl (weightsAll_mem (List.mem_map.2 ⟨_, List.getElem_mem _, rfl⟩) hn)))
       exact ⟨row, g1, ec, h3, h4, g2⟩
      obtain ⟨rows, hrl, hrp⟩ := rows_of _ len hel
      -- the block
      have h00 : w.cell? ((a.add (0 * P.cellsOf e)).add 0) = w.cell? a := by simp [Addr.add]
      obtain ⟨_, _, ec0, hec0, hcell0, _⟩ := hel 0 (by omega)
      have hc0 : w.cell? a = some (ec0[0]'(by omega)) := by
       rw [← h00, hcell0 0 hok.2]; exact List.getElem?_eq_getElem _
      obtain ⟨hsp, arr, ty, fr, hblk, _⟩ := cell_block hc0
      obtain ⟨b, o, sp⟩ := a
      simp only at hsp hblk
      subst hsp
      have hcellat : ∀ i, i < len → ∀ j, j < P.cellsOf e → w.cell? (((⟨b, o, none⟩ : Addr).add (i * P.cellsOf e)).add j) = arr[o + i * P.cellsOf e + j]? := by
       intro i _ j _
       rw [Addr.add_at, Addr.add_at, cell_at hblk]
      have hsz : o + rows.length * P.cellsOf e ≤ arr.size := by
       obtain ⟨_, _, ec, hec, hcell, _⟩ := hel (len - 1) (by omega)
       have h1 := hcell (P.cellsOf e - 1) (by omega)
       rw [hcellat (len - 1) (by omega) _ (by omega), List.getElem?_eq_getElem (by omega)] at h1
       have h2 : o + (len - 1) * P.cellsOf e + (P.cellsOf e - 1) < arr.size := by
        rcases Nat.lt_or_ge (o + (len - 1) * P.cellsOf e + (P.cellsOf e - 1)) arr.size with h | h
        ·exact h
        ·rw [Array.getElem?_eq_none h] at h1; cases h1
       rw [hrl]
       have h3 : len * P.cellsOf e = (len - 1) * P.cellsOf e + P.cellsOf e := by
        rw [← Nat.succ_mul]; congr 1; omega
       omega
      refine ⟨[.list rows], .slice hu (fun row hr => ?_) ?_, .one ?_⟩
      rotate_left
      ·have h1 := hw _ (.inl rfl)
       have hl := mapM_some_length hm
       simp only [List.length_map, List.length_range] at h1 hl
       rw [hrl, ← hl]
       exact Nat.le_trans (Nat.mul_le_mul_right _ (Nat.le_add_right _ _)) h1
      rotate_left
      ·obtain ⟨i, hi⟩ := List.mem_iff_getElem?.1 hr
       exact (hrp i row hi).1
      ·have key : Rel (heapOf w) noSig (.list rows) (.slice (some ⟨b, o, none⟩) rows.length cap) := by
        refine .list (esz := P.cellsOf e) hblk (by omega) hcm ?_ hsz ?_
        ·intro r row hr
         obtain ⟨_, ec, h1, _, h3⟩ := hrp r row hr
         rw [h3.1, h1]
        ·intro r row j v c hr hj hcc
         have hrlt := lt_of_getElem? hr
         obtain ⟨_, ec, h1, h2, h3⟩ := hrp r row hr
         have hjl := lt_of_getElem? hj
         have h4 := h3.1
         have h5 := h2 j (by omega)
         rw [hcellat r (by omega) j (by omega), hcc] at h5
         exact h3.2 j v c hj h5.symm
       rw [hrl] at key
       exact key
    ·cases h
  ·rename_i fs hu
   rw [hu] at h
   simp only [Bool.and_eq_true] at hok
   have h' : (if cs.length = P.cellsOf t then (fs.toList.mapM fun f => DataW.trod enc P w 0 spare held fuel f.type ((cs.drop f.offset).take (P.cellsOf f.type))).map fun xs => ((DataW.agg (xs.map (·.1)) : DataW H), xs.flatMap (·.2)) else none) = some x := by
    split at h
    all_goals first | (rename_i heq; cases heq; exact h) | (rename_i heq; cases heq; done) | (exfalso; simp only [Option.some.injEq, reduceCtorEq] at *; done) | (simp_all; done)
   split at h'
   ·rename_i hlen
    obtain ⟨xs, hm, rfl⟩ := Option.map_eq_some_iff.1 h'
    simp only [DataW.weights, hu] at hw
    obtain ⟨_, parts, h1, h2, h3⟩ := fields_rel hlen ih fs.toList 0 xs hok.1 hok.2 hm hw
    refine ⟨parts.flatten, .struct hu (by simpa using h1) (fun i f row hf hr => h2 i f row (by simpa using hf) hr), by simpa using h3⟩
   ·cases h'
  ·rename_i n e hu
   rw [hu] at h
   simp only [Bool.and_eq_true, beq_iff_eq] at hok
   have h' : (if cs.length = P.cellsOf t then ((List.range n).mapM fun i => DataW.trod enc P w 0 spare held fuel e ((cs.drop (i * P.cellsOf e)).take (P.cellsOf e))).map fun xs => ((DataW.agg (xs.map (·.1)) : DataW H), xs.flatMap (·.2)) else none) = some x := by
    split at h
    all_goals first | (rename_i heq; cases heq; exact h) | (rename_i heq; cases heq; done) | (exfalso; simp only [Option.some.injEq, reduceCtorEq] at *; done) | (simp_all; done)
   split at h'
   ·rename_i hlen
    obtain ⟨xs, hm, rfl⟩ := Option.map_eq_some_iff.1 h'
    rw [List.range_eq_range'] at hm
    simp only [DataW.weights, hu] at hw
    obtain ⟨parts, h1, h2, h3⟩ := elems_rel hok.1 ih n 0 xs (by rw [hlen, ← hok.2]; congr 1; omega) hm hw
    refine ⟨parts.flatten, .array hu h1 h2, by simpa using h3⟩
   ·cases h'
  ·cases hok
end
section
variable {P : Program} {t : TypeId} {row : List PV}
theorem HasTy.int' {k : IntKind} (hu : P.underlying t = some (.int k)) (h : HasTy P t row) : ∃ n, row = [.int k n] ∧ (Lit.int k n).wf = true := by
 cases h with
 | bool h1 => rw [h1] at hu; cases hu
 | int h1 wf => rw [h1] at hu; cases hu; exact ⟨_, rfl, wf⟩
 | str h1 hs hb => rw [h1] at hu; cases hu
 | slice h1 hr hb => rw [h1] at hu; cases hu
 | struct h1 hl hp => rw [h1] at hu; cases hu
 | array h1 hl hp => rw [h1] at hu; cases hu
theorem HasTy.str' (hu : P.underlying t = some .string) (h : HasTy P t row) : ∃ s, row = [.str s] ∧ s.size ≤ maxLen := by
 cases h with
 | bool h1 => rw [h1] at hu; cases hu
 | int h1 wf => rw [h1] at hu; cases hu
 | str h1 hs hb => rw [h1] at hu; cases hu; exact ⟨_, rfl, hs⟩
 | slice h1 hr hb => rw [h1] at hu; cases hu
 | struct h1 hl hp => rw [h1] at hu; cases hu
 | array h1 hl hp => rw [h1] at hu; cases hu
theorem HasTy.sliceB {e : TypeId} (hu : P.underlying t = some (.slice e)) (h : HasTy P t row) : ∃ rows, row = [.list rows] ∧ (∀ r ∈ rows, HasTy P e r) ∧ rows.length * P.bytesOf e ≤ reachBytes := by
 cases h with
 | slice h1 hr hb => rw [h1] at hu; cases hu; exact ⟨_, rfl, hr, hb⟩
 | bool h1 => rw [h1] at hu; cases hu
 | int h1 wf => rw [h1] at hu; cases hu
 | str h1 hs hb => rw [h1] at hu; cases hu
 | struct h1 hl hp => rw [h1] at hu; cases hu
 | array h1 hl hp => rw [h1] at hu; cases hu
end
end Go.Pv
