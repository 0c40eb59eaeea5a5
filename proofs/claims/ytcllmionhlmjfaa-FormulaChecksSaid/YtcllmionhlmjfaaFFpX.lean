import Derived.Test.YtcllmionhlmjfaaFFpW
import Derived.Test.YtcllmionhlmjfaaFFpP
import Derived.Test.YtcllmionhlmjfaaFQMA
import Derived.Test.YtcllmionhlmjfaaFFpQ
import Derived.Test.YtcllmionhlmjfaaFPvRec
import Derived.Test.YtcllmionhlmjfaaFFormA
import Derived.Ground.NamesProg
import Derived.Shelf.Slices.In.CompactS
import Derived.Shelf.Slices.In.SortAlone
import Derived.Shelf.Slices.In.SortNone
import Derived.Sort.EveryDepth
import Derived.Sort.Grow
import Derived.Lib.RowBridge
import Derived.Sort.Walk0
set_option linter.unusedVariables false
set_option linter.unusedSimpArgs false
set_option maxRecDepth 100000
set_option maxHeartbeats 4000000
namespace Go.Proofs.Ytcllmionhlmjfaa
open Go Go.Pv
def loopZ (t : ByteArray) (c : Nat → Int → Res) (least : Int) : Nat → Fm → Nat → Fm
 | 0, f, i => f
 | m + 1, f, i => if rankF (tokF t i).1 = 0 ∨ rankF (tokF t i).1 < least then f else match c (tokF t i).2.2 (upR (rankF (tokF t i).1)) with
  | .ok (g, e) => loopZ t c least m (.mk (kindR (rankF (tokF t i).1)) ⟨#[]⟩ [f, g]) e
  | .error q => f
def climbZ (t : ByteArray) (n : Nat) (i : Nat) (least : Int) : Fm := match headC t (climbF t n) i with
 | .ok (f, j) => loopZ t (climbF t n) least (t.size + 1) f j
 | .error q => .mk 0 ⟨#[]⟩ []
def valC (R : Res) (z : Fm) : PV := match R with
 | .ok (f, j) => .tuple [.agg (frm f), .int .i64 (j : Int), .int .i64 (-1)]
 | .error p => .tuple [.agg (frm z), .int .i64 0, .int .i64 (p : Int)]
theorem tok_adv {t : ByteArray} {i : Nat} (h : (tokF t i).1 ≠ ⟨#[]⟩) : bl t i < (tokF t i).2.2 := by
 have hlt : bl t i < t.size := by
  have := tok_nil t i
  by_cases hh : bl t i < t.size
  ·exact hh
  ·exact absurd (this.2 hh) h
 unfold tokF
 rw [if_pos hlt]
 unfold signF
 split
 ·rename_i w hw
  have := sgn_pos w (List.mem_of_find?_eq_some hw)
  dsimp only
  omega
 ·have h1 := lte_ge t (bl t i)
  unfold nameF
  split
  ·rename_i hn
   dsimp only
   by_cases he : bl t i = lte t (bl t i)
   ·rw [← he] at hn
    have : (t.extract (bl t i) (bl t i)).size = 0 := by simp
    unfold isNameB at hn
    rw [this] at hn
    exact absurd hn (by simp)
   ·omega
  ·dsimp only; omega
def x59_L1 : XC := .block 2 (.seq (.reg [⟨some 116,.move (.tmp 0),none⟩,⟨some 117,.move (.tmp 1),none⟩,⟨some 118,.call ⟨.value (.func 60),#[.tmp 116,.tmp 117],#[9,3]⟩,none⟩,⟨some 115,.move (.tmp 118),none⟩,⟨some 119,.extract (.tmp 115) 0,none⟩,⟨some 120,.extract (.tmp 115) 1,none⟩,⟨some 121,.extract (.tmp 115) 2,none⟩,⟨some 23,.assign (.tmp 119),none⟩,⟨some 24,.assign (.tmp 120),none⟩,⟨some 25,.assign (.tmp 121),none⟩]) (.seq (.reg [⟨some 122,.move (.tmp 23),none⟩,⟨some 123,.call ⟨.value (.func 83),#[.tmp 122],#[9]⟩,none⟩,⟨some 26,.assign (.tmp 123),none⟩]) (.seq (.seq (.reg [⟨some 124,.move (.tmp 26),none⟩,⟨some 125,.binOp .eql 3 (.tmp 124) (.const (.int .i64 0)) 3,none⟩,⟨some 126,.move (.tmp 125),none⟩,⟨some 127,.move (.tmp 26),some (some 126,false)⟩,⟨some 128,.move (.tmp 2),some (some 126,false)⟩,⟨some 129,.binOp .lss 3 (.tmp 127) (.tmp 128) 3,some (some 126,false)⟩,⟨some 130,.pick (.tmp 126) (.const (.bool true)) (.tmp 129),none⟩]) (.cond (.tmp 130) (.seq (.reg [⟨some 131,.load 24 (.tmp 12),none⟩,⟨some 132,.move (.tmp 1),none⟩,⟨none,.store 24 (.tmp 6) (.tmp 131),none⟩,⟨some 7,.assign (.tmp 132),none⟩,⟨some 8,.assign (.const (.int .i64 (-1))),none⟩]) .ret) .skip)) (.seq (.reg [⟨some 133,.move (.tmp 26),none⟩,⟨some 134,.binOp .add 3 (.tmp 133) (.const (.int .i64 1)) 3,none⟩,⟨some 27,.assign (.tmp 134),none⟩]) (.seq (.reg [⟨some 28,.assign (.const (.int .i64 5)),none⟩]) (.seq (.seq (.reg [⟨some 135,.move (.tmp 26),none⟩,⟨some 136,.binOp .eql 3 (.tmp 135) (.const (.int .i64 1)) 3,none⟩]) (.cond (.tmp 136) (.seq (.reg [⟨some 27,.assign (.const (.int .i64 1)),none⟩]) (.reg [⟨some 28,.assign (.const (.int .i64 7)),none⟩])) (.seq (.reg [⟨some 137,.move (.tmp 26),none⟩,⟨some 138,.binOp .eql 3 (.tmp 137) (.const (.int .i64 2)) 3,none⟩]) (.cond (.tmp 138) (.reg [⟨some 28,.assign (.const (.int .i64 6)),none⟩]) .skip)))) (.seq (.reg [⟨some 140,.move (.tmp 0),none⟩,⟨some 141,.move (.tmp 25),none⟩,⟨some 142,.move (.tmp 27),none⟩,⟨some 143,.call ⟨.value (.func 59),#[.tmp 140,.tmp 141,.tmp 142],#[9,3,3]⟩,none⟩,⟨some 139,.move (.tmp 143),none⟩,⟨some 144,.extract (.tmp 139) 0,none⟩,⟨some 145,.extract (.tmp 139) 1,none⟩,⟨some 146,.extract (.tmp 139) 2,none⟩,⟨some 29,.alloc 24,none⟩,⟨none,.store 24 (.tmp 29) (.tmp 144),none⟩,⟨some 30,.assign (.tmp 145),none⟩,⟨some 31,.assign (.tmp 146),none⟩]) (.seq (.seq (.reg [⟨some 147,.move (.tmp 31),none⟩,⟨some 148,.binOp .geq 3 (.tmp 147) (.const (.int .i64 0)) 3,none⟩]) (.cond (.tmp 148) (.seq (.reg [⟨some 149,.load 24 (.tmp 12),none⟩,⟨some 150,.move (.tmp 31),none⟩,⟨none,.store 24 (.tmp 6) (.tmp 149),none⟩,⟨some 7,.assign (.const (.int .i64 0)),none⟩,⟨some 8,.assign (.tmp 150),none⟩]) .ret) .skip)) (.reg [⟨some 151,.move (.tmp 28),none⟩,⟨some 152,.load 24 (.tmp 12),none⟩,⟨some 153,.load 24 (.tmp 29),none⟩,⟨some 154,.buildSlice 22 2 #[(0,.tmp 152),(1,.tmp 153)],none⟩,⟨some 155,.build 24 #[(0,.tmp 151),(2,.tmp 154)],none⟩,⟨some 156,.move (.tmp 30),none⟩,⟨none,.store 24 (.tmp 12) (.tmp 155),none⟩,⟨some 1,.assign (.tmp 156),none⟩])))))))))
def x59 : XC := .seq (.reg [⟨some 6,.alloc 24,none⟩,⟨some 7,.assign (.const (.int .i64 0)),none⟩,⟨some 8,.assign (.const (.int .i64 0)),none⟩]) (.seq (.reg [⟨some 33,.move (.tmp 0),none⟩,⟨some 34,.move (.tmp 1),none⟩,⟨some 35,.call ⟨.value (.func 60),#[.tmp 33,.tmp 34],#[9,3]⟩,none⟩,⟨some 32,.move (.tmp 35),none⟩,⟨some 36,.extract (.tmp 32) 0,none⟩,⟨some 37,.extract (.tmp 32) 1,none⟩,⟨some 38,.extract (.tmp 32) 2,none⟩,⟨some 9,.assign (.tmp 36),none⟩,⟨some 10,.assign (.tmp 37),none⟩,⟨some 11,.assign (.tmp 38),none⟩]) (.seq (.reg [⟨some 12,.alloc 24,none⟩]) (.seq (.block 0 (.seq (.reg [⟨some 42,.move (.tmp 9),none⟩,⟨some 43,.binOp .eql 9 (.tmp 42) (.const (.string ⟨#[126]⟩)) 9,none⟩,⟨some 44,.move (.tmp 43),none⟩,⟨some 45,.move (.tmp 9),some (some 44,false)⟩,⟨some 46,.binOp .eql 9 (.tmp 45) (.const (.string ⟨#[91,93]⟩)) 9,some (some 44,false)⟩,⟨some 47,.pick (.tmp 44) (.const (.bool true)) (.tmp 46),none⟩,⟨some 48,.move (.tmp 47),none⟩,⟨some 49,.move (.tmp 9),some (some 48,false)⟩,⟨some 50,.binOp .eql 9 (.tmp 49) (.const (.string ⟨#[60,62]⟩)) 9,some (some 48,false)⟩,⟨some 51,.pick (.tmp 48) (.const (.bool true)) (.tmp 50),none⟩,⟨some 41,.assign (.tmp 51),none⟩]) (.cond (.tmp 41) (.seq (.reg [⟨some 53,.move (.tmp 0),none⟩,⟨some 54,.move (.tmp 11),none⟩,⟨some 55,.call ⟨.value (.func 59),#[.tmp 53,.tmp 54,.const (.int .i64 4)],#[9,3,3]⟩,none⟩,⟨some 52,.move (.tmp 55),none⟩,⟨some 56,.extract (.tmp 52) 0,none⟩,⟨some 57,.extract (.tmp 52) 1,none⟩,⟨some 58,.extract (.tmp 52) 2,none⟩,⟨some 13,.alloc 24,none⟩,⟨none,.store 24 (.tmp 13) (.tmp 56),none⟩,⟨some 14,.assign (.tmp 57),none⟩,⟨some 15,.assign (.tmp 58),none⟩]) (.seq (.seq (.reg [⟨some 59,.move (.tmp 15),none⟩,⟨some 60,.binOp .geq 3 (.tmp 59) (.const (.int .i64 0)) 3,none⟩]) (.cond (.tmp 60) (.seq (.reg [⟨some 61,.load 24 (.tmp 12),none⟩,⟨some 62,.move (.tmp 15),none⟩,⟨none,.store 24 (.tmp 6) (.tmp 61),none⟩,⟨some 7,.assign (.const (.int .i64 0)),none⟩,⟨some 8,.assign (.tmp 62),none⟩]) .ret) .skip)) (.seq (.reg [⟨some 16,.assign (.const (.int .i64 4)),none⟩]) (.seq (.seq (.reg [⟨some 63,.move (.tmp 9),none⟩,⟨some 64,.binOp .eql 9 (.tmp 63) (.const (.string ⟨#[91,93]⟩)) 9,none⟩]) (.cond (.tmp 64) (.reg [⟨some 16,.assign (.const (.int .i64 8)),none⟩]) (.seq (.reg [⟨some 65,.move (.tmp 9),none⟩,⟨some 66,.binOp .eql 9 (.tmp 65) (.const (.string ⟨#[60,62]⟩)) 9,none⟩]) (.cond (.tmp 66) (.reg [⟨some 16,.assign (.const (.int .i64 9)),none⟩]) .skip)))) (.reg [⟨some 67,.move (.tmp 16),none⟩,⟨some 68,.load 24 (.tmp 13),none⟩,⟨some 69,.buildSlice 22 1 #[(0,.tmp 68)],none⟩,⟨some 70,.build 24 #[(0,.tmp 67),(2,.tmp 69)],none⟩,⟨some 71,.move (.tmp 14),none⟩,⟨none,.store 24 (.tmp 12) (.tmp 70),none⟩,⟨some 1,.assign (.tmp 71),none⟩]))))) (.seq (.reg [⟨some 73,.move (.tmp 9),none⟩,⟨some 74,.binOp .eql 9 (.tmp 73) (.const (.string ⟨#[40]⟩)) 9,none⟩,⟨some 72,.assign (.tmp 74),none⟩]) (.cond (.tmp 72) (.seq (.reg [⟨some 76,.move (.tmp 0),none⟩,⟨some 77,.move (.tmp 11),none⟩,⟨some 78,.call ⟨.value (.func 59),#[.tmp 76,.tmp 77,.const (.int .i64 1)],#[9,3,3]⟩,none⟩,⟨some 75,.move (.tmp 78),none⟩,⟨some 79,.extract (.tmp 75) 0,none⟩,⟨some 80,.extract (.tmp 75) 1,none⟩,⟨some 81,.extract (.tmp 75) 2,none⟩,⟨some 17,.alloc 24,none⟩,⟨none,.store 24 (.tmp 17) (.tmp 79),none⟩,⟨some 18,.assign (.tmp 80),none⟩,⟨some 19,.assign (.tmp 81),none⟩]) (.seq (.seq (.reg [⟨some 82,.move (.tmp 19),none⟩,⟨some 83,.binOp .geq 3 (.tmp 82) (.const (.int .i64 0)) 3,none⟩]) (.cond (.tmp 83) (.seq (.reg [⟨some 84,.load 24 (.tmp 12),none⟩,⟨some 85,.move (.tmp 19),none⟩,⟨none,.store 24 (.tmp 6) (.tmp 84),none⟩,⟨some 7,.assign (.const (.int .i64 0)),none⟩,⟨some 8,.assign (.tmp 85),none⟩]) .ret) .skip)) (.seq (.reg [⟨some 87,.move (.tmp 0),none⟩,⟨some 88,.move (.tmp 18),none⟩,⟨some 89,.call ⟨.value (.func 60),#[.tmp 87,.tmp 88],#[9,3]⟩,none⟩,⟨some 86,.move (.tmp 89),none⟩,⟨some 90,.extract (.tmp 86) 0,none⟩,⟨some 91,.extract (.tmp 86) 1,none⟩,⟨some 92,.extract (.tmp 86) 2,none⟩,⟨some 20,.assign (.tmp 90),none⟩,⟨some 21,.assign (.tmp 91),none⟩,⟨some 22,.assign (.tmp 92),none⟩]) (.seq (.seq (.reg [⟨some 93,.move (.tmp 20),none⟩,⟨some 94,.binOp .neq 9 (.tmp 93) (.const (.string ⟨#[41]⟩)) 9,none⟩]) (.cond (.tmp 94) (.seq (.reg [⟨some 95,.load 24 (.tmp 12),none⟩,⟨some 96,.move (.tmp 21),none⟩,⟨none,.store 24 (.tmp 6) (.tmp 95),none⟩,⟨some 7,.assign (.const (.int .i64 0)),none⟩,⟨some 8,.assign (.tmp 96),none⟩]) .ret) .skip)) (.reg [⟨some 97,.load 24 (.tmp 17),none⟩,⟨some 98,.move (.tmp 22),none⟩,⟨none,.store 24 (.tmp 12) (.tmp 97),none⟩,⟨some 1,.assign (.tmp 98),none⟩]))))) (.seq (.reg [⟨some 100,.move (.tmp 9),none⟩,⟨some 101,.binOp .eql 9 (.tmp 100) (.const (.string ⟨#[49]⟩)) 9,none⟩,⟨some 99,.assign (.tmp 101),none⟩]) (.cond (.tmp 99) (.reg [⟨some 102,.build 24 #[(0,.const (.int .i64 2))],none⟩,⟨some 103,.move (.tmp 11),none⟩,⟨none,.store 24 (.tmp 12) (.tmp 102),none⟩,⟨some 1,.assign (.tmp 103),none⟩]) (.seq (.reg [⟨some 105,.move (.tmp 9),none⟩,⟨some 106,.binOp .eql 9 (.tmp 105) (.const (.string ⟨#[48]⟩)) 9,none⟩,⟨some 104,.assign (.tmp 106),none⟩]) (.cond (.tmp 104) (.reg [⟨some 107,.build 24 #[(0,.const (.int .i64 3))],none⟩,⟨some 108,.move (.tmp 11),none⟩,⟨none,.store 24 (.tmp 12) (.tmp 107),none⟩,⟨some 1,.assign (.tmp 108),none⟩]) (.seq (.reg [⟨some 110,.move (.tmp 9),none⟩,⟨some 111,.call ⟨.value (.func 44),#[.tmp 110],#[9]⟩,none⟩,⟨some 109,.assign (.tmp 111),none⟩]) (.cond (.tmp 109) (.reg [⟨some 112,.move (.tmp 9),none⟩,⟨some 113,.build 24 #[(0,.const (.int .i64 1)),(1,.tmp 112)],none⟩,⟨some 114,.move (.tmp 11),none⟩,⟨none,.store 24 (.tmp 12) (.tmp 113),none⟩,⟨some 1,.assign (.tmp 114),none⟩]) (.seq (.reg [⟨some 39,.load 24 (.tmp 12),none⟩,⟨some 40,.move (.tmp 10),none⟩,⟨none,.store 24 (.tmp 6) (.tmp 39),none⟩,⟨some 7,.assign (.const (.int .i64 0)),none⟩,⟨some 8,.assign (.tmp 40),none⟩]) .ret)))))))))))) (.bloop 1 x59_L1))))
@[simp] theorem x59_s {C e s K} : type_of% (@X_at C e s K _ _ x59_L1.eq_1) ∧ type_of% (@X_at C e s K _ _ x59.eq_1) := ⟨X_at x59_L1.eq_1, X_at x59.eq_1⟩
def an59 : Ann := ⟨[], [(1, [(12, some 2, 3), (12, some 5003, 0)], [0, 1, 2, 6, 12], [6, 7, 8])], []⟩
@[simp] theorem an59_a : an59.loopOf 1 = ([(12, some 2, 3), (12, some 5003, 0)], [0, 1, 2, 6, 12], [6, 7, 8]) := rfl
theorem fi59 : FI Try.prog 59 (cxA an59) x59 [.cell 6 24, .tmp 7, .tmp 8] Try.f59 := fiA Try.func59 mixed
theorem climb_ref (t : ByteArray) (hs : t.size ≤ 1000000) : ∀ n i (least : Int), i ≤ t.size → t.size - i < n → 0 ≤ least → least ≤ 4 → ∃ z, CallOK Try.prog 59 [.str t, .int .i64 (i : Int), .int .i64 least] [] (valC (climbF t n i least) z) [] := by
 intro n
 induction n with
 | zero => intro i least _ h; omega
 | succ n ih =>
  intro i least hi hn hl0 hl4
  refine ⟨climbZ t n i least, ?_⟩
  obtain ⟨V, hV⟩ : ∃ V, valC (climbF t (n + 1) i least) (climbZ t n i least) = V := ⟨_, rfl⟩
  rw [hV]
  have ht := token_ref t i hs hi
  have hb := bl_ge t i
  have hte := tok_le hi
  have hta := tok_adv (t := t) (i := i)
  refine fi59.os ?_
  have key : ∀ f j, i ≤ j → j ≤ t.size → valC (loopC t (climbF t n) least (t.size + 1) f j) (loopZ t (climbF t n) least (t.size + 1) f j) = V → W (cxA an59 Try.prog 0) 1 x59_L1 (KS.fin [ResultVar.cell 6 24, ResultVar.tmp 7, ResultVar.tmp 8] fun v1 s1 => softV (deref s1 6 v1) = V) [(0, PV.str t), (1, PV.int IntKind.i64 (j : Int)), (2, PV.int IntKind.i64 least), (6, PV.ptr 0 0 0), (12, PV.ptr 1 0 0)] [PObj.rows 3 [[PV.int IntKind.i64 0, PV.str ⟨#[]⟩, PV.nilsl]], PObj.rows 3 [frm f]] := by
   intro f j hij hj hV
   refine W_of fun Q hQ => ?_
   have main : ∀ m f j, i ≤ j → j ≤ t.size → t.size - j < m → valC (loopC t (climbF t n) least m f j) (loopZ t (climbF t n) least m f j) = V → Q [(0, PV.str t), (1, PV.int IntKind.i64 (j : Int)), (2, PV.int IntKind.i64 least), (6, PV.ptr 0 0 0), (12, PV.ptr 1 0 0)] [PObj.rows 3 [[PV.int IntKind.i64 0, PV.str ⟨#[]⟩, PV.nilsl]], PObj.rows 3 [frm f]] := by
    intro m
    induction m with
    | zero => intro f j _ _ h; omega
    | succ m ihm =>
     intro f j hij hj hm hV
     have ht := token_ref t j hs hj
     have hb := bl_ge t j
     have hrk := rank_ref (tokF t j).1
     have hf := frm_eq f
     unfold loopC loopZ at hV
     by_cases hst : rankF (tokF t j).1 = 0 ∨ rankF (tokF t j).1 < least
     ·rw [if_pos hst, if_pos hst] at hV
      generalize tokF t j = T at *
      obtain ⟨w, a, b⟩ := T
      dsimp only at hst hrk ht
      generalize rankF w = k at *
      subst hV
      apply hQ
      clear hQ ihm
      rcases hst with hst | hst
      ·subst hst
       ((refine Sg.h ?_); try repeat' ((first | (with_reducible first | refine brA ?_ | refine brE fun _ => ?_ | (refine spl ⟨?_, ?_⟩ <;> intro _)) | refine clo ht ?_ | refine clo hrk ?_) <;> ((try simp -implicitDefEqProofs [hf]); (try simp -implicitDefEqProofs (disch := first | assumption | (try simp only [lens]); omega -splitDisjunctions) [hf]))))
       rw [valC, hf]
      ·((refine Sg.h ?_); try repeat' ((first | (with_reducible first | refine brA ?_ | refine brE fun _ => ?_ | (refine spl ⟨?_, ?_⟩ <;> intro _)) | refine clo ht ?_ | refine clo hrk ?_) <;> ((try simp -implicitDefEqProofs [hf, hst]); (try simp -implicitDefEqProofs (disch := first | assumption | (try simp only [lens]); omega -splitDisjunctions) [hf, hst]))))
       all_goals rw [valC, hf]
     ·rcases rank_cases t j with ⟨r1, r2, r3⟩ | ⟨r1, r2, r3, r4⟩ | ⟨r1, r2, r3, r4, r5⟩ | ⟨r1, r2, r3, r4⟩
      ·have hbl : (tokF t j).2.2 ≤ t.size := (tok_le hj).2
       rw [if_neg hst, if_neg hst, r2, show upR 3 = 4 from rfl, show kindR 3 = 5 from rfl] at hV
       rw [r2] at hrk hst
       have hst1 : ¬ (3 : Int) < least := fun h => hst (.inr h)
       obtain ⟨z, hc⟩ := ih (tokF t j).2.2 4 hbl (by omega) (by decide) (by decide)
       have hcl := climb_le t n (tokF t j).2.2 4
       generalize tokF t j = T at *
       obtain ⟨w, a, b⟩ := T
       dsimp only at *
       cases hcc : climbF t n b 4 with
       | error q =>
        rw [hcc] at hV hc
        subst hV
        apply hQ
        clear hQ ihm
        unfold valC at hc
        dsimp only at hc
        ((refine Sg.h ?_); try repeat' ((first | (with_reducible first | refine brA ?_ | refine brE fun _ => ?_ | (refine spl ⟨?_, ?_⟩ <;> intro _)) | refine clo ht ?_ | refine clo hrk ?_ | refine clo hc ?_) <;> ((try simp -implicitDefEqProofs [hf, hst1]); (try simp -implicitDefEqProofs (disch := first | assumption | (try simp only [lens]); omega -splitDisjunctions) [hf, hst1]))))
        all_goals first | omega | (unfold valC; dsimp only; rw [hf])
       | ok y =>
        obtain ⟨g, e⟩ := y
        rw [hcc] at hV hc
        have hcl := hcl g e hbl hcc
        have ihm := ihm (.mk 5 ⟨#[]⟩ [f, g]) e (by omega) hcl.2 (by omega) hV
        have hg := frm_eq g
        clear hV
        rw [frm_eq (.mk 5 ⟨#[]⟩ [f, g])] at ihm
        simp only [Fm.kind, Fm.name, Fm.kids, List.map_cons, List.map_nil] at ihm
        unfold valC at hc
        dsimp only at hc
        apply hQ
        clear hQ
        ((refine Sg.h ?_); try repeat' ((first | (with_reducible first | refine brA ?_ | refine brE fun _ => ?_ | (refine spl ⟨?_, ?_⟩ <;> intro _)) | refine clo ht ?_ | refine clo hrk ?_ | refine clo hc ?_) <;> ((try simp -implicitDefEqProofs [hst1]); (try simp -implicitDefEqProofs (disch := first | assumption | (try simp only [lens]); omega -splitDisjunctions) [hst1]))))
        all_goals first | exact ihm | (refine at2 ihm ?_ ?_ <;> simp; done) | (exfalso; first | omega | (simp_all; done) | (simp_all; omega))
      ·have hbl : (tokF t j).2.2 ≤ t.size := (tok_le hj).2
       rw [if_neg hst, if_neg hst, r3, show upR 2 = 3 from rfl, show kindR 2 = 6 from rfl] at hV
       rw [r3] at hrk hst
       have hst1 : ¬ (2 : Int) < least := fun h => hst (.inr h)
       obtain ⟨z, hc⟩ := ih (tokF t j).2.2 3 hbl (by omega) (by decide) (by decide)
       have hcl := climb_le t n (tokF t j).2.2 3
       generalize tokF t j = T at *
       obtain ⟨w, a, b⟩ := T
       dsimp only at *
       cases hcc : climbF t n b 3 with
       | error q =>
        rw [hcc] at hV hc
        subst hV
        apply hQ
        clear hQ ihm
        unfold valC at hc
        dsimp only at hc
        ((refine Sg.h ?_); try repeat' ((first | (with_reducible first | refine brA ?_ | refine brE fun _ => ?_ | (refine spl ⟨?_, ?_⟩ <;> intro _)) | refine clo ht ?_ | refine clo hrk ?_ | refine clo hc ?_) <;> ((try simp -implicitDefEqProofs [hf, hst1]); (try simp -implicitDefEqProofs (disch := first | assumption | (try simp only [lens]); omega -splitDisjunctions) [hf, hst1]))))
        all_goals first | omega | (unfold valC; dsimp only; rw [hf])
       | ok y =>
        obtain ⟨g, e⟩ := y
        rw [hcc] at hV hc
        have hcl := hcl g e hbl hcc
        have ihm := ihm (.mk 6 ⟨#[]⟩ [f, g]) e (by omega) hcl.2 (by omega) hV
        have hg := frm_eq g
        clear hV
        rw [frm_eq (.mk 6 ⟨#[]⟩ [f, g])] at ihm
        simp only [Fm.kind, Fm.name, Fm.kids, List.map_cons, List.map_nil] at ihm
        unfold valC at hc
        dsimp only at hc
        apply hQ
        clear hQ
        ((refine Sg.h ?_); try repeat' ((first | (with_reducible first | refine brA ?_ | refine brE fun _ => ?_ | (refine spl ⟨?_, ?_⟩ <;> intro _)) | refine clo ht ?_ | refine clo hrk ?_ | refine clo hc ?_) <;> ((try simp -implicitDefEqProofs [hst1]); (try simp -implicitDefEqProofs (disch := first | assumption | (try simp only [lens]); omega -splitDisjunctions) [hst1]))))
        all_goals first | exact ihm | (refine at2 ihm ?_ ?_ <;> simp; done) | (exfalso; first | omega | (simp_all; done) | (simp_all; omega))
      ·have hbl : (tokF t j).2.2 ≤ t.size := (tok_le hj).2
       rw [if_neg hst, if_neg hst, r4, show upR 1 = 1 from rfl, show kindR 1 = 7 from rfl] at hV
       rw [r4] at hrk hst
       have hst1 : ¬ (1 : Int) < least := fun h => hst (.inr h)
       obtain ⟨z, hc⟩ := ih (tokF t j).2.2 1 hbl (by omega) (by decide) (by decide)
       have hcl := climb_le t n (tokF t j).2.2 1
       generalize tokF t j = T at *
       obtain ⟨w, a, b⟩ := T
       dsimp only at *
       cases hcc : climbF t n b 1 with
       | error q =>
        rw [hcc] at hV hc
        subst hV
        apply hQ
        clear hQ ihm
        unfold valC at hc
        dsimp only at hc
        ((refine Sg.h ?_); try repeat' ((first | (with_reducible first | refine brA ?_ | refine brE fun _ => ?_ | (refine spl ⟨?_, ?_⟩ <;> intro _)) | refine clo ht ?_ | refine clo hrk ?_ | refine clo hc ?_) <;> ((try simp -implicitDefEqProofs [hf, hst1]); (try simp -implicitDefEqProofs (disch := first | assumption | (try simp only [lens]); omega -splitDisjunctions) [hf, hst1]))))
        all_goals first | omega | (unfold valC; dsimp only; rw [hf])
       | ok y =>
        obtain ⟨g, e⟩ := y
        rw [hcc] at hV hc
        have hcl := hcl g e hbl hcc
        have ihm := ihm (.mk 7 ⟨#[]⟩ [f, g]) e (by omega) hcl.2 (by omega) hV
        have hg := frm_eq g
        clear hV
        rw [frm_eq (.mk 7 ⟨#[]⟩ [f, g])] at ihm
        simp only [Fm.kind, Fm.name, Fm.kids, List.map_cons, List.map_nil] at ihm
        unfold valC at hc
        dsimp only at hc
        apply hQ
        clear hQ
        ((refine Sg.h ?_); try repeat' ((first | (with_reducible first | refine brA ?_ | refine brE fun _ => ?_ | (refine spl ⟨?_, ?_⟩ <;> intro _)) | refine clo ht ?_ | refine clo hrk ?_ | refine clo hc ?_) <;> ((try simp -implicitDefEqProofs [hst1]); (try simp -implicitDefEqProofs (disch := first | assumption | (try simp only [lens]); omega -splitDisjunctions) [hst1]))))
        all_goals first | exact ihm | (refine at2 ihm ?_ ?_ <;> simp; done) | (exfalso; first | omega | (simp_all; done) | (simp_all; omega))
      ·exact absurd (.inl r4) hst
   exact main _ f j hij hj (by omega) hV
  unfold climbF climbZ headC at hV
  obtain ⟨R, hR⟩ : ∃ R, tokF t i = R := ⟨_, rfl⟩
  obtain ⟨w, a, b⟩ := R
  rw [hR] at hV ht hte hta
  dsimp only at hV ht hte hta
  have hin := IsName_ref w
  by_cases h1 : w = ⟨#[126]⟩
  ·subst h1
   have hV : valC (match una 4 (climbF t n b 4) with
    | .ok (f, j) => loopC t (climbF t n) least (t.size + 1) f j
    | .error q => .error q) (match una 4 (climbF t n b 4) with
    | .ok (f, j) => loopZ t (climbF t n) least (t.size + 1) f j
    | .error q => .mk 0 ⟨#[]⟩ []) = V := hV
   have hta := hta (by decide)
   obtain ⟨z, hc⟩ := ih b 4 hte.2 (by omega) (by decide) (by decide)
   cases hcc : climbF t n b 4 with
   | error q =>
    rw [hcc] at hV hc
    subst hV
    clear key
    unfold valC at hc
    dsimp only at hc
    ((refine Sg.h ?_); try repeat' ((first | (with_reducible first | refine brA ?_ | refine brE fun _ => ?_ | (refine spl ⟨?_, ?_⟩ <;> intro _)) | refine clo ht ?_ | refine clo hc ?_) <;> ((try simp -implicitDefEqProofs); (try simp -implicitDefEqProofs (disch := first | assumption | (try simp only [lens]); omega -splitDisjunctions)))))
    all_goals first | omega | rfl
   | ok y =>
    obtain ⟨g, e⟩ := y
    rw [hcc] at hV hc
    have hcl := climb_le t n b 4 g e hte.2 hcc
    have key := key (.mk 4 ⟨#[]⟩ [g]) e (by omega) hcl.2 hV
    rw [frm_eq (.mk 4 ⟨#[]⟩ [g])] at key
    simp only [Fm.kind, Fm.name, Fm.kids, List.map_cons, List.map_nil] at key
    clear hV
    unfold valC at hc
    dsimp only at hc
    ((refine Sg.h ?_); try repeat' ((first | (with_reducible first | refine brA ?_ | refine brE fun _ => ?_ | (refine spl ⟨?_, ?_⟩ <;> intro _)) | refine clo ht ?_ | refine clo hc ?_) <;> ((try simp -implicitDefEqProofs); (try simp -implicitDefEqProofs (disch := first | assumption | (try simp only [lens]); omega -splitDisjunctions)))))
    all_goals first | exact key | omega
  by_cases h2 : w = ⟨#[91, 93]⟩
  ·subst h2
   have hV : valC (match una 8 (climbF t n b 4) with
    | .ok (f, j) => loopC t (climbF t n) least (t.size + 1) f j
    | .error q => .error q) (match una 8 (climbF t n b 4) with
    | .ok (f, j) => loopZ t (climbF t n) least (t.size + 1) f j
    | .error q => .mk 0 ⟨#[]⟩ []) = V := hV
   have hta := hta (by decide)
   obtain ⟨z, hc⟩ := ih b 4 hte.2 (by omega) (by decide) (by decide)
   cases hcc : climbF t n b 4 with
   | error q =>
    rw [hcc] at hV hc
    subst hV
    clear key
    unfold valC at hc
    dsimp only at hc
    ((refine Sg.h ?_); try repeat' ((first | (with_reducible first | refine brA ?_ | refine brE fun _ => ?_ | (refine spl ⟨?_, ?_⟩ <;> intro _)) | refine clo ht ?_ | refine clo hc ?_) <;> ((try simp -implicitDefEqProofs); (try simp -implicitDefEqProofs (disch := first | assumption | (try simp only [lens]); omega -splitDisjunctions)))))
    all_goals first | omega | rfl
   | ok y =>
    obtain ⟨g, e⟩ := y
    rw [hcc] at hV hc
    have hcl := climb_le t n b 4 g e hte.2 hcc
    have key := key (.mk 8 ⟨#[]⟩ [g]) e (by omega) hcl.2 hV
    rw [frm_eq (.mk 8 ⟨#[]⟩ [g])] at key
    simp only [Fm.kind, Fm.name, Fm.kids, List.map_cons, List.map_nil] at key
    clear hV
    unfold valC at hc
    dsimp only at hc
    ((refine Sg.h ?_); try repeat' ((first | (with_reducible first | refine brA ?_ | refine brE fun _ => ?_ | (refine spl ⟨?_, ?_⟩ <;> intro _)) | refine clo ht ?_ | refine clo hc ?_) <;> ((try simp -implicitDefEqProofs); (try simp -implicitDefEqProofs (disch := first | assumption | (try simp only [lens]); omega -splitDisjunctions)))))
    all_goals first | exact key | omega
  by_cases h3 : w = ⟨#[60, 62]⟩
  ·subst h3
   have hV : valC (match una 9 (climbF t n b 4) with
    | .ok (f, j) => loopC t (climbF t n) least (t.size + 1) f j
    | .error q => .error q) (match una 9 (climbF t n b 4) with
    | .ok (f, j) => loopZ t (climbF t n) least (t.size + 1) f j
    | .error q => .mk 0 ⟨#[]⟩ []) = V := hV
   have hta := hta (by decide)
   obtain ⟨z, hc⟩ := ih b 4 hte.2 (by omega) (by decide) (by decide)
   cases hcc : climbF t n b 4 with
   | error q =>
    rw [hcc] at hV hc
    subst hV
    clear key
    unfold valC at hc
    dsimp only at hc
    ((refine Sg.h ?_); try repeat' ((first | (with_reducible first | refine brA ?_ | refine brE fun _ => ?_ | (refine spl ⟨?_, ?_⟩ <;> intro _)) | refine clo ht ?_ | refine clo hc ?_) <;> ((try simp -implicitDefEqProofs); (try simp -implicitDefEqProofs (disch := first | assumption | (try simp only [lens]); omega -splitDisjunctions)))))
    all_goals first | omega | rfl
   | ok y =>
    obtain ⟨g, e⟩ := y
    rw [hcc] at hV hc
    have hcl := climb_le t n b 4 g e hte.2 hcc
    have key := key (.mk 9 ⟨#[]⟩ [g]) e (by omega) hcl.2 hV
    rw [frm_eq (.mk 9 ⟨#[]⟩ [g])] at key
    simp only [Fm.kind, Fm.name, Fm.kids, List.map_cons, List.map_nil] at key
    clear hV
    unfold valC at hc
    dsimp only at hc
    ((refine Sg.h ?_); try repeat' ((first | (with_reducible first | refine brA ?_ | refine brE fun _ => ?_ | (refine spl ⟨?_, ?_⟩ <;> intro _)) | refine clo ht ?_ | refine clo hc ?_) <;> ((try simp -implicitDefEqProofs); (try simp -implicitDefEqProofs (disch := first | assumption | (try simp only [lens]); omega -splitDisjunctions)))))
    all_goals first | exact key | omega
  by_cases h4 : w = ⟨#[40]⟩
  ·subst h4
   have hV : valC (match parC t (climbF t n b 1) with
    | .ok (f, j) => loopC t (climbF t n) least (t.size + 1) f j
    | .error q => .error q) (match parC t (climbF t n b 1) with
    | .ok (f, j) => loopZ t (climbF t n) least (t.size + 1) f j
    | .error q => .mk 0 ⟨#[]⟩ []) = V := hV
   have hta := hta (by decide)
   obtain ⟨z, hc⟩ := ih b 1 hte.2 (by omega) (by decide) (by decide)
   cases hcc : climbF t n b 1 with
   | error q =>
    rw [hcc] at hV hc
    subst hV
    clear key
    unfold valC at hc
    dsimp only at hc
    ((refine Sg.h ?_); try repeat' ((first | (with_reducible first | refine brA ?_ | refine brE fun _ => ?_ | (refine spl ⟨?_, ?_⟩ <;> intro _)) | refine clo ht ?_ | refine clo hc ?_) <;> ((try simp -implicitDefEqProofs); (try simp -implicitDefEqProofs (disch := first | assumption | (try simp only [lens]); omega -splitDisjunctions)))))
    all_goals first | omega | rfl
   | ok y =>
    obtain ⟨g, e⟩ := y
    rw [hcc] at hV hc
    have hcl := climb_le t n b 1 g e hte.2 hcc
    have h2 := token_ref t e hs hcl.2
    have hte2 := tok_le hcl.2
    have hbe := bl_ge t e
    have hg := frm_eq g
    unfold valC at hc
    dsimp only at hc
    unfold parC at hV
    dsimp only at hV
    generalize tokF t e = T at *
    obtain ⟨u, c, d⟩ := T
    dsimp only at hV h2 hte2
    by_cases hu : u = ⟨#[41]⟩
    ·rw [if_pos hu] at hV
     have key := key g d (by omega) hte2.2 hV
     clear hV
     subst hu
     ((refine Sg.h ?_); try repeat' ((first | (with_reducible first | refine brA ?_ | refine brE fun _ => ?_ | (refine spl ⟨?_, ?_⟩ <;> intro _)) | refine clo ht ?_ | refine clo hc ?_ | refine clo h2 ?_) <;> ((try simp -implicitDefEqProofs); (try simp -implicitDefEqProofs (disch := first | assumption | (try simp only [lens]); omega -splitDisjunctions)))))
     all_goals first | exact key | omega
    ·rw [if_neg hu] at hV
     subst hV
     clear key
     ((refine Sg.h ?_); try repeat' ((first | (with_reducible first | refine brA ?_ | refine brE fun _ => ?_ | (refine spl ⟨?_, ?_⟩ <;> intro _)) | refine clo ht ?_ | refine clo hc ?_ | refine clo h2 ?_) <;> ((try simp -implicitDefEqProofs [hu]); (try simp -implicitDefEqProofs (disch := first | assumption | (try simp only [lens]); omega -splitDisjunctions) [hu]))))
     all_goals first | omega | rfl
  by_cases h5 : w = ⟨#[49]⟩
  ·have key := key (.mk 2 ⟨#[]⟩ []) b (by omega) hte.2 (by subst h5; exact hV)
   clear hV
   subst h5
   ((refine Sg.h ?_); try repeat' ((first | (with_reducible first | refine brA ?_ | refine brE fun _ => ?_ | (refine spl ⟨?_, ?_⟩ <;> intro _)) | refine clo ht ?_) <;> ((try simp -implicitDefEqProofs); (try simp -implicitDefEqProofs (disch := first | assumption | (try simp only [lens]); omega -splitDisjunctions)))))
   all_goals exact key
  by_cases h6 : w = ⟨#[48]⟩
  ·have key := key (.mk 3 ⟨#[]⟩ []) b (by omega) hte.2 (by subst h6; exact hV)
   clear hV
   subst h6
   ((refine Sg.h ?_); try repeat' ((first | (with_reducible first | refine brA ?_ | refine brE fun _ => ?_ | (refine spl ⟨?_, ?_⟩ <;> intro _)) | refine clo ht ?_) <;> ((try simp -implicitDefEqProofs); (try simp -implicitDefEqProofs (disch := first | assumption | (try simp only [lens]); omega -splitDisjunctions)))))
   all_goals exact key
  rw [if_neg h1, if_neg h2, if_neg h3, if_neg h4, if_neg h5, if_neg h6] at hV
  cases hN : isNameB w with
  | true =>
   rw [hN] at hin
   rw [if_pos hN] at hV
   have key := key (.mk 1 w []) b (by omega) hte.2 hV
   clear hV
   ((refine Sg.h ?_); try repeat' ((first | (with_reducible first | refine brA ?_ | refine brE fun _ => ?_ | (refine spl ⟨?_, ?_⟩ <;> intro _)) | refine clo ht ?_ | refine clo hin ?_) <;> ((try simp -implicitDefEqProofs [h1, h2, h3, h4, h5, h6]); (try simp -implicitDefEqProofs (disch := first | assumption | (try simp only [lens]); omega -splitDisjunctions) [h1, h2, h3, h4, h5, h6]))))
   all_goals exact key
  | false =>
   rw [hN] at hin
   rw [if_neg (by rw [hN]; decide)] at hV
   subst hV
   clear key
   ((refine Sg.h ?_); try repeat' ((first | (with_reducible first | refine brA ?_ | refine brE fun _ => ?_ | (refine spl ⟨?_, ?_⟩ <;> intro _)) | refine clo ht ?_ | refine clo hin ?_) <;> ((try simp -implicitDefEqProofs [h1, h2, h3, h4, h5, h6]); (try simp -implicitDefEqProofs (disch := first | assumption | (try simp only [lens]); omega -splitDisjunctions) [h1, h2, h3, h4, h5, h6]))))
   all_goals rfl
end Go.Proofs.Ytcllmionhlmjfaa
namespace Go.Proofs.Ytcllmionhlmjfaa
open Go Go.Pv
def x20 : XC := .seq (.reg [⟨some 2,.alloc 24,none⟩,⟨some 3,.alloc 29,none⟩]) (.seq (.seq (.reg [⟨some 10,.move (.tmp 0),none⟩,⟨some 11,.call ⟨.builtin .len,#[.tmp 10],#[9]⟩,none⟩,⟨some 12,.binOp .gtr 3 (.tmp 11) (.const (.int .i64 20000)) 3,none⟩]) (.cond (.tmp 12) (.seq (.reg [⟨some 13,.build 24 #[],none⟩,⟨some 14,.call ⟨.value (.func 45),#[.const (.int .i64 2),.const (.int .i64 0)],#[3,3]⟩,none⟩,⟨none,.store 24 (.tmp 2) (.tmp 13),none⟩,⟨none,.store 29 (.tmp 3) (.tmp 14),none⟩]) .ret) .skip)) (.seq (.reg [⟨some 16,.move (.tmp 0),none⟩,⟨some 17,.call ⟨.value (.func 59),#[.tmp 16,.const (.int .i64 0),.const (.int .i64 1)],#[9,3,3]⟩,none⟩,⟨some 15,.move (.tmp 17),none⟩,⟨some 18,.extract (.tmp 15) 0,none⟩,⟨some 19,.extract (.tmp 15) 1,none⟩,⟨some 20,.extract (.tmp 15) 2,none⟩,⟨some 4,.alloc 24,none⟩,⟨none,.store 24 (.tmp 4) (.tmp 18),none⟩,⟨some 5,.assign (.tmp 19),none⟩,⟨some 6,.assign (.tmp 20),none⟩]) (.seq (.seq (.reg [⟨some 21,.move (.tmp 6),none⟩,⟨some 22,.binOp .geq 3 (.tmp 21) (.const (.int .i64 0)) 3,none⟩]) (.cond (.tmp 22) (.seq (.reg [⟨some 23,.build 24 #[],none⟩,⟨some 24,.move (.tmp 6),none⟩,⟨some 25,.call ⟨.value (.func 45),#[.const (.int .i64 1),.tmp 24],#[3,3]⟩,none⟩,⟨none,.store 24 (.tmp 2) (.tmp 23),none⟩,⟨none,.store 29 (.tmp 3) (.tmp 25),none⟩]) .ret) .skip)) (.seq (.reg [⟨some 27,.move (.tmp 0),none⟩,⟨some 28,.move (.tmp 5),none⟩,⟨some 29,.call ⟨.value (.func 60),#[.tmp 27,.tmp 28],#[9,3]⟩,none⟩,⟨some 26,.move (.tmp 29),none⟩,⟨some 30,.extract (.tmp 26) 0,none⟩,⟨some 31,.extract (.tmp 26) 1,none⟩,⟨some 32,.extract (.tmp 26) 2,none⟩,⟨some 7,.assign (.tmp 30),none⟩,⟨some 8,.assign (.tmp 31),none⟩,⟨some 9,.assign (.tmp 32),none⟩]) (.seq (.seq (.reg [⟨some 33,.move (.tmp 7),none⟩,⟨some 34,.binOp .neq 9 (.tmp 33) (.const (.string ⟨#[]⟩)) 9,none⟩]) (.cond (.tmp 34) (.seq (.reg [⟨some 35,.build 24 #[],none⟩,⟨some 36,.move (.tmp 8),none⟩,⟨some 37,.call ⟨.value (.func 45),#[.const (.int .i64 1),.tmp 36],#[3,3]⟩,none⟩,⟨none,.store 24 (.tmp 2) (.tmp 35),none⟩,⟨none,.store 29 (.tmp 3) (.tmp 37),none⟩]) .ret) .skip)) (.seq (.seq (.reg [⟨some 38,.load 24 (.tmp 4),none⟩,⟨some 39,.call ⟨.value (.func 47),#[.tmp 38,.const (.int .i64 201)],#[24,3]⟩,none⟩,⟨some 40,.call ⟨.builtin .len,#[.tmp 39],#[22]⟩,none⟩,⟨some 41,.binOp .gtr 3 (.tmp 40) (.const (.int .i64 200)) 3,none⟩]) (.cond (.tmp 41) (.seq (.reg [⟨some 42,.build 24 #[],none⟩,⟨some 43,.call ⟨.value (.func 45),#[.const (.int .i64 2),.const (.int .i64 0)],#[3,3]⟩,none⟩,⟨none,.store 24 (.tmp 2) (.tmp 42),none⟩,⟨none,.store 29 (.tmp 3) (.tmp 43),none⟩]) .ret) .skip)) (.seq (.reg [⟨some 44,.load 24 (.tmp 4),none⟩,⟨some 45,.build 29 #[],none⟩,⟨none,.store 24 (.tmp 2) (.tmp 44),none⟩,⟨none,.store 29 (.tmp 3) (.tmp 45),none⟩]) .ret)))))))
@[simp] theorem x20_s {C e s K} : type_of% (@X_at C e s K _ _ x20.eq_1) := X_at x20.eq_1
def an20 : Ann := ⟨[], [], []⟩
theorem fi20 : FI Try.prog 20 (cxA an20) x20 [.cell 2 24, .cell 3 29] Try.f20 := fiA Try.func20 mixed
theorem Read_ref (t : ByteArray) : CallOK Try.prog 20 [.str t] [] (.tuple [.agg (frm (parseO t).1), .agg [.int .i64 (parseO t).2.1, .int .i64 (parseO t).2.2]]) [] := by
 rw [← read_eq]
 have f2 := F_ref 2 0
 refine fi20.os ?_
 unfold readO
 by_cases hm : 20000 < t.size
 ·rw [if_pos hm]
  have hm' : (20000 : Int) < (t.size : Int) := by omega
  ((refine Sg.h ?_); try repeat' ((first | (with_reducible first | refine brA ?_ | refine brE fun _ => ?_ | (refine spl ⟨?_, ?_⟩ <;> intro _)) | refine clo f2 ?_) <;> ((try simp -implicitDefEqProofs [hm']); (try simp -implicitDefEqProofs (disch := first | assumption | (try simp only [lens]); omega -splitDisjunctions) [hm']))))
  rfl
 ·rw [if_neg hm]
  have hm' : ¬ (20000 : Int) < (t.size : Int) := by omega
  have hs : t.size ≤ 1000000 := by omega
  obtain ⟨z, hc⟩ := climb_ref t hs (t.size + 1) 0 1 (by omega) (by omega) (by decide) (by decide)
  cases hcc : climbF t (t.size + 1) 0 1 with
  | error q =>
   rw [hcc] at hc
   have f1 := F_ref 1 q
   unfold valC at hc
   dsimp only at hc
   ((refine Sg.h ?_); try repeat' ((first | (with_reducible first | refine brA ?_ | refine brE fun _ => ?_ | (refine spl ⟨?_, ?_⟩ <;> intro _)) | refine clo hc ?_ | refine clo f1 ?_) <;> ((try simp -implicitDefEqProofs [hm']); (try simp -implicitDefEqProofs (disch := first | assumption | (try simp only [lens]); omega -splitDisjunctions) [hm']))))
   rfl
  | ok y =>
   obtain ⟨g, e⟩ := y
   rw [hcc] at hc
   have hcl := climb_le t _ 0 1 g e (by omega) hcc
   have ht := token_ref t e hs hcl.2
   have hw := walk_ref g 201 (by omega) (by omega) []
   have f1 := F_ref 1 (tokF t e).2.1
   unfold valC at hc
   dsimp only at hc ⊢
   generalize tokF t e = T at *
   obtain ⟨u, a, b⟩ := T
   dsimp only at *
   by_cases hu : u = ⟨#[]⟩
   ·rw [if_neg (by simp [hu])]
    subst hu
    generalize walkL g 201 = L at *
    have hg := frm_eq g
    by_cases hl : 200 < L.length
    ·rw [if_pos hl]
     have hl' : (200 : Int) < (L.length : Int) := by omega
     ((refine Sg.h ?_); try repeat' ((first | (with_reducible first | refine brA ?_ | refine brE fun _ => ?_ | (refine spl ⟨?_, ?_⟩ <;> intro _)) | refine clo hc ?_ | refine clo ht ?_ | refine clo hw ?_ | refine clo f2 ?_) <;> ((try simp -implicitDefEqProofs [hm', hl']); (try simp -implicitDefEqProofs (disch := first | assumption | (try simp only [lens]); omega -splitDisjunctions) [hm', hl']))))
     rfl
    ·rw [if_neg hl]
     have hl' : ¬ (200 : Int) < (L.length : Int) := by omega
     ((refine Sg.h ?_); try repeat' ((first | (with_reducible first | refine brA ?_ | refine brE fun _ => ?_ | (refine spl ⟨?_, ?_⟩ <;> intro _)) | refine clo hc ?_ | refine clo ht ?_ | refine clo hw ?_) <;> ((try simp -implicitDefEqProofs [hm', hl']); (try simp -implicitDefEqProofs (disch := first | assumption | (try simp only [lens]); omega -splitDisjunctions) [hm', hl']))))
   ·rw [if_pos hu]
    ((refine Sg.h ?_); try repeat' ((first | (with_reducible first | refine brA ?_ | refine brE fun _ => ?_ | (refine spl ⟨?_, ?_⟩ <;> intro _)) | refine clo hc ?_ | refine clo ht ?_ | refine clo f1 ?_) <;> ((try simp -implicitDefEqProofs [hm', hu]); (try simp -implicitDefEqProofs (disch := first | assumption | (try simp only [lens]); omega -splitDisjunctions) [hm', hu]))))
    rfl
end Go.Proofs.Ytcllmionhlmjfaa
