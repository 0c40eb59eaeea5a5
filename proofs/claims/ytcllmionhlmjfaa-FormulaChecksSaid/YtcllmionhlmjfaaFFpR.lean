import Derived.Test.YtcllmionhlmjfaaFFpQ
set_option linter.unusedVariables false
set_option linter.unusedSimpArgs false
set_option maxRecDepth 100000
set_option maxHeartbeats 4000000
namespace Go.Proofs.Ytcllmionhlmjfaa
open Go Go.Pv
def rankF (w : ByteArray) : Int := if w = ⟨#[45, 62]⟩ then 1 else if w = ⟨#[124]⟩ then 2 else if w = ⟨#[38]⟩ then 3 else 0
def x83 : XC := .seq (.reg [⟨some 2,.assign (.const (.int .i64 0)),none⟩]) (.seq (.seq (.reg [⟨some 3,.move (.tmp 0),none⟩]) (.block 0 (.seq (.reg [⟨some 5,.binOp .eql 9 (.tmp 3) (.const (.string ⟨#[45,62]⟩)) 9,none⟩,⟨some 4,.assign (.tmp 5),none⟩]) (.cond (.tmp 4) (.seq (.reg [⟨some 2,.assign (.const (.int .i64 1)),none⟩]) .ret) (.seq (.reg [⟨some 7,.binOp .eql 9 (.tmp 3) (.const (.string ⟨#[124]⟩)) 9,none⟩,⟨some 6,.assign (.tmp 7),none⟩]) (.cond (.tmp 6) (.seq (.reg [⟨some 2,.assign (.const (.int .i64 2)),none⟩]) .ret) (.seq (.reg [⟨some 9,.binOp .eql 9 (.tmp 3) (.const (.string ⟨#[38]⟩)) 9,none⟩,⟨some 8,.assign (.tmp 9),none⟩]) (.cond (.tmp 8) (.seq (.reg [⟨some 2,.assign (.const (.int .i64 3)),none⟩]) .ret) .skip)))))))) (.seq (.reg [⟨some 2,.assign (.const (.int .i64 0)),none⟩]) .ret))
@[simp] theorem x83_s {C e s K} : type_of% (@X_at C e s K _ _ x83.eq_1) := X_at x83.eq_1
def an83 : Ann := ⟨[], [], []⟩
theorem fi83 : FI Try.prog 83 (cxA an83) x83 [.tmp 2] Try.f83 := fiA Try.func83 mixed
theorem rank_ref (w : ByteArray) : CallOK Try.prog 83 [.str w] [] (.int .i64 (rankF w)) [] := by
 refine fi83.op ?_
 unfold rankF
 by_cases h1 : w = ⟨#[45, 62]⟩
 ·rw [if_pos h1]
  ((refine Sg.h ?_); try repeat' ((first | (with_reducible first | refine brA ?_ | refine brE fun _ => ?_ | (refine spl ⟨?_, ?_⟩ <;> intro _))) <;> ((try simp -implicitDefEqProofs [h1]); (try simp -implicitDefEqProofs (disch := first | assumption | (try simp only [lens]); omega -splitDisjunctions) [h1]))))
 ·rw [if_neg h1]
  by_cases h2 : w = ⟨#[124]⟩
  ·rw [if_pos h2]
   subst h2
   ((refine Sg.h ?_); try repeat' ((first | (with_reducible first | refine brA ?_ | refine brE fun _ => ?_ | (refine spl ⟨?_, ?_⟩ <;> intro _))) <;> ((try simp -implicitDefEqProofs); (try simp -implicitDefEqProofs (disch := first | assumption | (try simp only [lens]); omega -splitDisjunctions)))))
  ·rw [if_neg h2]
   by_cases h3 : w = ⟨#[38]⟩
   ·rw [if_pos h3]
    subst h3
    ((refine Sg.h ?_); try repeat' ((first | (with_reducible first | refine brA ?_ | refine brE fun _ => ?_ | (refine spl ⟨?_, ?_⟩ <;> intro _))) <;> ((try simp -implicitDefEqProofs); (try simp -implicitDefEqProofs (disch := first | assumption | (try simp only [lens]); omega -splitDisjunctions)))))
   ·rw [if_neg h3]
    ((refine Sg.h ?_); try repeat' ((first | (with_reducible first | refine brA ?_ | refine brE fun _ => ?_ | (refine spl ⟨?_, ?_⟩ <;> intro _))) <;> ((try simp -implicitDefEqProofs [h1, h2, h3]); (try simp -implicitDefEqProofs (disch := first | assumption | (try simp only [lens]); omega -splitDisjunctions) [h1, h2, h3]))))
def signs : List ByteArray := [⟨#[45, 62]⟩, ⟨#[91, 93]⟩, ⟨#[60, 62]⟩, ⟨#[126]⟩, ⟨#[38]⟩, ⟨#[124]⟩, ⟨#[40]⟩, ⟨#[41]⟩, ⟨#[49]⟩, ⟨#[48]⟩]
def nameF (t : ByteArray) (k : Nat) : ByteArray × Nat × Nat := if isNameB (t.extract k (lte t k)) = true then (t.extract k (lte t k), k, lte t k) else (⟨#[63]⟩, k, k + 1)
def signF (t : ByteArray) (k : Nat) (l : List ByteArray) : ByteArray × Nat × Nat := match l.find? (hp t k) with
 | some w => (w, k, k + w.size)
 | none => nameF t k
def tokF (t : ByteArray) (i : Nat) : ByteArray × Nat × Nat := if bl t i < t.size then signF t (bl t i) signs else (⟨#[]⟩, bl t i, bl t i)
theorem signF_no {t : ByteArray} {k i : Nat} (h : i < signs.length) (hh : hp t k signs[i] = false) : signF t k (signs.drop i) = signF t k (signs.drop (i + 1)) := by
 rw [List.drop_eq_getElem_cons h]
 unfold signF
 rw [List.find?_cons, hh]
theorem signF_yes {t : ByteArray} {k i : Nat} (h : i < signs.length) (hh : hp t k signs[i] = true) : signF t k (signs.drop i) = (signs[i], k, k + signs[i].size) := by
 rw [List.drop_eq_getElem_cons h]
 unfold signF
 rw [List.find?_cons, hh]
def x60_T5 : XC := .seq (.seq (.reg [⟨some 93,.move (.tmp 0),none⟩,⟨some 94,.move (.tmp 1),none⟩,⟨some 95,.move (.tmp 10),none⟩,⟨some 96,.slice 9 (.tmp 93) (some (.tmp 94)) (some (.tmp 95)) none,none⟩,⟨some 97,.call ⟨.value (.func 44),#[.tmp 96],#[9]⟩,none⟩,⟨some 98,.unOp .not 4 (.tmp 97),none⟩]) (.cond (.tmp 98) (.seq (.reg [⟨some 99,.move (.tmp 1),none⟩,⟨some 100,.move (.tmp 1),none⟩,⟨some 101,.binOp .add 3 (.tmp 100) (.const (.int .i64 1)) 3,none⟩,⟨some 4,.assign (.const (.string ⟨#[63]⟩)),none⟩,⟨some 5,.assign (.tmp 99),none⟩,⟨some 6,.assign (.tmp 101),none⟩]) .ret) .skip)) (.seq (.reg [⟨some 102,.move (.tmp 0),none⟩,⟨some 103,.move (.tmp 1),none⟩,⟨some 104,.move (.tmp 10),none⟩,⟨some 105,.slice 9 (.tmp 102) (some (.tmp 103)) (some (.tmp 104)) none,none⟩,⟨some 106,.move (.tmp 1),none⟩,⟨some 107,.move (.tmp 10),none⟩,⟨some 4,.assign (.tmp 105),none⟩,⟨some 5,.assign (.tmp 106),none⟩,⟨some 6,.assign (.tmp 107),none⟩]) .ret)
def x60_L4 : XC := .seq (.seq (.reg [⟨some 75,.move (.tmp 10),none⟩,⟨some 76,.move (.tmp 0),none⟩,⟨some 77,.call ⟨.builtin .len,#[.tmp 76],#[9]⟩,none⟩,⟨some 78,.binOp .lss 3 (.tmp 75) (.tmp 77) 3,none⟩,⟨some 79,.move (.tmp 78),none⟩,⟨some 80,.move (.tmp 0),some (some 79,true)⟩,⟨some 81,.move (.tmp 10),some (some 79,true)⟩,⟨some 82,.index 9 (.tmp 80) (.tmp 81),some (some 79,true)⟩,⟨some 83,.binOp .geq 5 (.tmp 82) (.const (.int .u8 97)) 5,some (some 79,true)⟩,⟨some 84,.pick (.tmp 79) (.tmp 83) (.const (.bool false)),none⟩,⟨some 85,.move (.tmp 84),none⟩,⟨some 86,.move (.tmp 0),some (some 85,true)⟩,⟨some 87,.move (.tmp 10),some (some 85,true)⟩,⟨some 88,.index 9 (.tmp 86) (.tmp 87),some (some 85,true)⟩,⟨some 89,.binOp .leq 5 (.tmp 88) (.const (.int .u8 122)) 5,some (some 85,true)⟩,⟨some 90,.pick (.tmp 85) (.tmp 89) (.const (.bool false)),none⟩]) (.cond (.tmp 90) .skip (.exit 4))) (.block 5 (.reg [⟨some 91,.move (.tmp 10),none⟩,⟨some 92,.binOp .add 3 (.tmp 91) (.const (.int .i64 1)) 3,none⟩,⟨some 10,.assign (.tmp 92),none⟩]))
def x60_T3 : XC := .seq (.reg [⟨some 74,.move (.tmp 1),none⟩,⟨some 10,.assign (.tmp 74),none⟩]) (.seq (.bloop 4 x60_L4) (x60_T5))
def x60_L2 : XC := .seq (.seq (.reg [⟨some 36,.move (.tmp 8),none⟩,⟨some 37,.move (.tmp 7),none⟩,⟨some 38,.call ⟨.builtin .len,#[.tmp 37],#[65]⟩,none⟩,⟨some 39,.binOp .lss 3 (.tmp 36) (.tmp 38) 3,none⟩]) (.cond (.tmp 39) .skip (.exit 2))) (.seq (.block 3 (.seq (.reg [⟨some 42,.move (.tmp 7),none⟩,⟨some 43,.move (.tmp 8),none⟩,⟨some 44,.indexAddr 65 (.tmp 42) (.tmp 43),none⟩,⟨some 45,.load 9 (.tmp 44),none⟩,⟨some 46,.call ⟨.builtin .len,#[.tmp 45],#[9]⟩,none⟩,⟨some 9,.assign (.tmp 46),none⟩]) (.seq (.drawn 10 [⟨some 47,.move (.tmp 1),none⟩,⟨some 48,.move (.tmp 9),none⟩,⟨some 49,.binOp .add 3 (.tmp 47) (.tmp 48) 3,none⟩,⟨some 50,.move (.tmp 0),none⟩,⟨some 51,.call ⟨.builtin .len,#[.tmp 50],#[9]⟩,none⟩,⟨some 52,.binOp .leq 3 (.tmp 49) (.tmp 51) 3,none⟩,⟨some 53,.move (.tmp 52),none⟩,⟨some 54,.move (.tmp 0),some (some 53,true)⟩,⟨some 55,.move (.tmp 1),some (some 53,true)⟩,⟨some 56,.move (.tmp 1),some (some 53,true)⟩,⟨some 57,.move (.tmp 9),some (some 53,true)⟩,⟨some 58,.binOp .add 3 (.tmp 56) (.tmp 57) 3,some (some 53,true)⟩,⟨some 59,.slice 9 (.tmp 54) (some (.tmp 55)) (some (.tmp 58)) none,some (some 53,true)⟩,⟨some 60,.move (.tmp 7),some (some 53,true)⟩,⟨some 61,.move (.tmp 8),some (some 53,true)⟩,⟨some 62,.indexAddr 65 (.tmp 60) (.tmp 61),some (some 53,true)⟩,⟨some 63,.load 9 (.tmp 62),some (some 53,true)⟩,⟨some 64,.binOp .eql 9 (.tmp 59) (.tmp 63) 9,some (some 53,true)⟩,⟨some 65,.pick (.tmp 53) (.tmp 64) (.const (.bool false)),none⟩]) (.cond (.tmp 65) (.seq (.reg [⟨some 66,.move (.tmp 7),none⟩,⟨some 67,.move (.tmp 8),none⟩,⟨some 68,.indexAddr 65 (.tmp 66) (.tmp 67),none⟩,⟨some 69,.load 9 (.tmp 68),none⟩,⟨some 70,.move (.tmp 1),none⟩,⟨some 71,.move (.tmp 1),none⟩,⟨some 72,.move (.tmp 9),none⟩,⟨some 73,.binOp .add 3 (.tmp 71) (.tmp 72) 3,none⟩,⟨some 4,.assign (.tmp 69),none⟩,⟨some 5,.assign (.tmp 70),none⟩,⟨some 6,.assign (.tmp 73),none⟩]) .ret) .skip)))) (.reg [⟨some 40,.move (.tmp 8),none⟩,⟨some 41,.binOp .add 3 (.tmp 40) (.const (.int .i64 1)) 3,none⟩,⟨some 8,.assign (.tmp 41),none⟩]))
def x60_T1 : XC := .seq (.seq (.reg [⟨some 29,.move (.tmp 1),none⟩,⟨some 30,.move (.tmp 0),none⟩,⟨some 31,.call ⟨.builtin .len,#[.tmp 30],#[9]⟩,none⟩,⟨some 32,.binOp .eql 3 (.tmp 29) (.tmp 31) 3,none⟩]) (.cond (.tmp 32) (.seq (.reg [⟨some 33,.move (.tmp 1),none⟩,⟨some 34,.move (.tmp 1),none⟩,⟨some 4,.assign (.const (.string ⟨#[]⟩)),none⟩,⟨some 5,.assign (.tmp 33),none⟩,⟨some 6,.assign (.tmp 34),none⟩]) .ret) .skip)) (.seq (.reg [⟨some 35,.buildSlice 65 10 #[(0,.const (.string ⟨#[45,62]⟩)),(1,.const (.string ⟨#[91,93]⟩)),(2,.const (.string ⟨#[60,62]⟩)),(3,.const (.string ⟨#[126]⟩)),(4,.const (.string ⟨#[38]⟩)),(5,.const (.string ⟨#[124]⟩)),(6,.const (.string ⟨#[40]⟩)),(7,.const (.string ⟨#[41]⟩)),(8,.const (.string ⟨#[49]⟩)),(9,.const (.string ⟨#[48]⟩))],none⟩,⟨some 7,.assign (.tmp 35),none⟩]) (.seq (.seq (.reg [⟨some 8,.assign (.const (.int .i64 0)),none⟩]) (.bloop 2 x60_L2)) (x60_T3)))
def x60_L0 : XC := .seq (.seq (.reg [⟨some 11,.move (.tmp 1),none⟩,⟨some 12,.move (.tmp 0),none⟩,⟨some 13,.call ⟨.builtin .len,#[.tmp 12],#[9]⟩,none⟩,⟨some 14,.binOp .lss 3 (.tmp 11) (.tmp 13) 3,none⟩,⟨some 15,.move (.tmp 14),none⟩,⟨some 16,.move (.tmp 0),some (some 15,true)⟩,⟨some 17,.move (.tmp 1),some (some 15,true)⟩,⟨some 18,.index 9 (.tmp 16) (.tmp 17),some (some 15,true)⟩,⟨some 19,.binOp .eql 5 (.tmp 18) (.const (.int .u8 32)) 5,some (some 15,true)⟩,⟨some 20,.move (.tmp 19),some (some 15,true)⟩,⟨some 21,.move (.tmp 0),some (some 20,false)⟩,⟨some 22,.move (.tmp 1),some (some 20,false)⟩,⟨some 23,.index 9 (.tmp 21) (.tmp 22),some (some 20,false)⟩,⟨some 24,.binOp .eql 5 (.tmp 23) (.const (.int .u8 10)) 5,some (some 20,false)⟩,⟨some 25,.pick (.tmp 20) (.const (.bool true)) (.tmp 24),some (some 15,true)⟩,⟨some 26,.pick (.tmp 15) (.tmp 25) (.const (.bool false)),none⟩]) (.cond (.tmp 26) .skip (.exit 0))) (.block 1 (.reg [⟨some 27,.move (.tmp 1),none⟩,⟨some 28,.binOp .add 3 (.tmp 27) (.const (.int .i64 1)) 3,none⟩,⟨some 1,.assign (.tmp 28),none⟩]))
def x60 : XC := .seq (.reg [⟨some 4,.assign (.const (.string ⟨#[]⟩)),none⟩,⟨some 5,.assign (.const (.int .i64 0)),none⟩,⟨some 6,.assign (.const (.int .i64 0)),none⟩]) (.seq (.bloop 0 x60_L0) (x60_T1))
@[simp] theorem x60_s {C e s K} : type_of% (@X_at C e s K _ _ x60_T5.eq_1) ∧ type_of% (@X_at C e s K _ _ x60_L4.eq_1) ∧ type_of% (@X_at C e s K _ _ x60_T3.eq_1) ∧ type_of% (@X_at C e s K _ _ x60_L2.eq_1) ∧ type_of% (@X_at C e s K _ _ x60_T1.eq_1) ∧ type_of% (@X_at C e s K _ _ x60_L0.eq_1) ∧ type_of% (@X_at C e s K _ _ x60.eq_1) := ⟨X_at x60_T5.eq_1, X_at x60_L4.eq_1, X_at x60_T3.eq_1, X_at x60_L2.eq_1, X_at x60_T1.eq_1, X_at x60_L0.eq_1, X_at x60.eq_1⟩
def an60 : Ann := ⟨[(10, .mix 17)], [(4, [], [0, 1, 10], [0, 1, 10]), (2, [], [0, 1, 7, 8], [0, 1, 4, 5, 6]), (0, [], [0, 1], [0, 1])], []⟩
@[simp] theorem an60_a : an60.clsOf 10 = .mix 17 ∧ an60.frzOf 10 = [] ∧ an60.loopOf 4 = ([], [0, 1, 10], [0, 1, 10]) ∧ an60.loopOf 2 = ([], [0, 1, 7, 8], [0, 1, 4, 5, 6]) ∧ an60.loopOf 0 = ([], [0, 1], [0, 1]) := ⟨rfl, rfl, rfl, rfl, rfl⟩
theorem fi60 : FI Try.prog 60 (cxA an60) x60 [.tmp 4, .tmp 5, .tmp 6] Try.f60 := fiA Try.func60 mixed
theorem token_ref (t : ByteArray) (i : Nat) (hs : t.size ≤ 1000000) (hi : i ≤ t.size) : CallOK Try.prog 60 [.str t, .int .i64 (i : Int)] [] (.tuple [.str (tokF t i).1, .int .i64 ((tokF t i).2.1 : Int), .int .i64 ((tokF t i).2.2 : Int)]) [] := by
 refine fi60.op ?_
 obtain ⟨R, hR⟩ : ∃ R, tokF t i = R := ⟨_, rfl⟩
 rw [hR]
 unfold tokF at hR
 ((refine Sg.h ?_); try repeat' ((first | (with_reducible first | refine brA ?_ | refine brE fun _ => ?_ | (refine spl ⟨?_, ?_⟩ <;> intro _))) <;> ((try simp -implicitDefEqProofs); (try simp -implicitDefEqProofs (disch := first | assumption | (try simp only [lens]); omega -splitDisjunctions)))))
 refine W_of fun Q hQ => ?_
 have main : ∀ r k, t.size - k = r → k ≤ t.size → bl t k = bl t i → Q [(0, .str t), (1, .int .i64 (k : Int))] [] := by
  intro r
  induction r with
  | zero =>
   intro k hk hks he
   obtain rfl : k = t.size := by omega
   rw [← he, bl_end (by omega), if_neg (by omega)] at hR
   subst hR
   apply hQ
   clear hQ
   ((refine Sg.h ?_); try repeat' ((first | (with_reducible first | refine brA ?_ | refine brE fun _ => ?_ | (refine spl ⟨?_, ?_⟩ <;> intro _))) <;> ((try simp -implicitDefEqProofs); (try simp -implicitDefEqProofs (disch := first | assumption | (try simp only [lens]); omega -splitDisjunctions)))))
  | succ r ih =>
   intro k hk hks he
   have hlt : k < t.size := by omega
   cases hb : isBl t[k] with
   | true =>
    have ih := ih (k + 1) (by omega) (by omega) (by rw [← bl_step hlt hb, he])
    have ih' : Q [(0, .str t), (1, .int .i64 ((k : Int) + 1))] [] := at2 ih (by simp) rfl
    clear ih he hR
    simp only [isBl, Bool.or_eq_true, beq_iff_eq] at hb
    apply hQ
    clear hQ
    ((refine Sg.h ?_); try repeat' ((first | (with_reducible first | refine brA ?_ | refine brE fun _ => ?_ | (refine spl ⟨?_, ?_⟩ <;> intro _))) <;> ((try simp -implicitDefEqProofs [hlt]); (try simp -implicitDefEqProofs (disch := first | assumption | (try simp only [lens]); omega -splitDisjunctions) [hlt]))))
    all_goals first | exact ih' | omega
   | false =>
    have hst := bl_stop hlt hb
    rw [← he, hst, if_pos hlt] at hR
    clear ih he hst
    simp only [isBl, Bool.or_eq_false_iff, beq_eq_false_iff_ne] at hb
    have hsl : signs.length = 10 := rfl
    have hss : ∀ w ∈ signs, w.size ≤ 2 := by decide
    have key : W ((cxA an60) Try.prog 0) 2 x60_L2 (KS.seq x60_T3 (KS.fin [ResultVar.tmp 4, ResultVar.tmp 5, ResultVar.tmp 6] fun v1 s1 => deref s1 6 v1 = PV.tuple [PV.str R.1, PV.int IntKind.i64 (R.2.1 : Int), PV.int IntKind.i64 (R.2.2 : Int)])) [(0, PV.str t), (1, PV.int IntKind.i64 (k : Int)), (7, PV.sl 0 0 10), (8, PV.int IntKind.i64 0)] [PObj.rows 1 (signs.map strRow)] := by
     refine W_of fun Q2 hQ2 => ?_
     have main2 : ∀ r j, j + r = 10 → signF t k (signs.drop j) = R → Q2 [(0, PV.str t), (1, PV.int IntKind.i64 (k : Int)), (7, PV.sl 0 0 10), (8, PV.int IntKind.i64 (j : Int))] [PObj.rows 1 (signs.map strRow)] := by
      intro r
      induction r with
      | zero =>
       intro j hj hR
       obtain rfl : j = 10 := by omega
       have hR : nameF t k = R := hR
       unfold nameF at hR
       apply hQ2
       clear hQ2
       ((refine Sg.h ?_); try repeat' ((first | (with_reducible first | refine brA ?_ | refine brE fun _ => ?_ | (refine spl ⟨?_, ?_⟩ <;> intro _))) <;> ((try simp -implicitDefEqProofs [hsl]); (try simp -implicitDefEqProofs (disch := first | assumption | (try simp only [lens]); omega -splitDisjunctions) [hsl]))))
       refine W_of fun Q3 hQ3 => ?_
       have hl1 := lte_ge t k
       have hN := IsName_ref (t.extract k (lte t k))
       have main3 : ∀ r m, t.size - m = r → k ≤ m → m ≤ t.size → lte t m = lte t k → Q3 [(0, .str t), (1, .int .i64 (k : Int)), (10, .int .i64 (m : Int))] [] := by
        intro r
        induction r with
        | zero =>
         intro m hm h0 h1 he
         obtain rfl : m = t.size := by omega
         rw [lte_end (by omega)] at he
         rw [← he] at hR hN hl1
         apply hQ3
         clear hQ3
         cases hb2 : isNameB (t.extract k t.size) with
         | true =>
          rw [hb2] at hR hN
          rw [if_pos rfl] at hR
          subst hR
          ((refine Sg.h ?_); try repeat' ((first | (with_reducible first | refine brA ?_ | refine brE fun _ => ?_ | (refine spl ⟨?_, ?_⟩ <;> intro _)) | refine clo hN ?_) <;> ((try simp -implicitDefEqProofs [hl1]); (try simp -implicitDefEqProofs (disch := first | assumption | (try simp only [lens]); omega -splitDisjunctions) [hl1]))))
         | false =>
          rw [hb2] at hR hN
          rw [if_neg (by decide)] at hR
          subst hR
          ((refine Sg.h ?_); try repeat' ((first | (with_reducible first | refine brA ?_ | refine brE fun _ => ?_ | (refine spl ⟨?_, ?_⟩ <;> intro _)) | refine clo hN ?_) <;> ((try simp -implicitDefEqProofs [hl1]); (try simp -implicitDefEqProofs (disch := first | assumption | (try simp only [lens]); omega -splitDisjunctions) [hl1]))))
        | succ r ih =>
         intro m hm h0 h1 he
         have hlt3 : m < t.size := by omega
         cases hL : letterB t[m] with
         | true =>
          have ih := ih (m + 1) (by omega) (by omega) (by omega) (by rw [← lte_step hlt3 hL, he])
          have ih' : Q3 [(0, .str t), (1, .int .i64 (k : Int)), (10, .int .i64 ((m : Int) + 1))] [] := at2 ih (by simp) rfl
          clear ih he
          simp only [letterB, decide_eq_true_eq] at hL
          apply hQ3
          clear hQ3
          ((refine Sg.h ?_); try repeat' ((first | (with_reducible first | refine brA ?_ | refine brE fun _ => ?_ | (refine spl ⟨?_, ?_⟩ <;> intro _))) <;> ((try simp -implicitDefEqProofs [hlt3]); (try simp -implicitDefEqProofs (disch := first | assumption | (try simp only [lens]); omega -splitDisjunctions) [hlt3]))))
          all_goals first | exact ih' | omega
         | false =>
          rw [lte_stop hlt3 hL] at he
          rw [← he] at hR hN hl1
          simp only [letterB, decide_eq_false_iff_not] at hL
          clear ih
          apply hQ3
          clear hQ3
          cases hb2 : isNameB (t.extract k m) with
          | true =>
           rw [hb2] at hR hN
           rw [if_pos rfl] at hR
           subst hR
           ((refine Sg.h ?_); try repeat' ((first | (with_reducible first | refine brA ?_ | refine brE fun _ => ?_ | (refine spl ⟨?_, ?_⟩ <;> intro _)) | refine clo hN ?_) <;> ((try simp -implicitDefEqProofs [hlt3, h0]); (try simp -implicitDefEqProofs (disch := first | assumption | (try simp only [lens]); omega -splitDisjunctions) [hlt3, h0]))))
           all_goals first | omega | skip
          | false =>
           rw [hb2] at hR hN
           rw [if_neg (by decide)] at hR
           subst hR
           ((refine Sg.h ?_); try repeat' ((first | (with_reducible first | refine brA ?_ | refine brE fun _ => ?_ | (refine spl ⟨?_, ?_⟩ <;> intro _)) | refine clo hN ?_) <;> ((try simp -implicitDefEqProofs [hlt3, h0]); (try simp -implicitDefEqProofs (disch := first | assumption | (try simp only [lens]); omega -splitDisjunctions) [hlt3, h0]))))
           all_goals first | omega | skip
       exact main3 _ k rfl (Nat.le_refl _) (by omega) rfl
      | succ r ih =>
       intro j hj hR
       have hjl : j < signs.length := by omega
       have hsz := hss _ (List.getElem_mem hjl)
       cases hh : hp t k signs[j] with
       | true =>
        rw [signF_yes hjl hh] at hR
        unfold hp at hh
        rw [decide_eq_true_eq] at hh
        generalize hw : signs[j] = w at *
        subst hR
        have hle : (k : Int) + (w.size : Int) ≤ (t.size : Int) := by omega
        have hto : ((k : Int) + (w.size : Int)).toNat = k + w.size := by omega
        apply hQ2
        clear hQ2 ih
        ((refine Sg.h ?_); try repeat' ((first | (with_reducible first | refine brA ?_ | refine brE fun _ => ?_ | (refine spl ⟨?_, ?_⟩ <;> intro _))) <;> ((try simp -implicitDefEqProofs [hjl, hsl, hw, hle, hto, hh.1, hh.2]); (try simp -implicitDefEqProofs (disch := first | assumption | (try simp only [lens]); omega -splitDisjunctions) [hjl, hsl, hw, hle, hto, hh.1, hh.2]))))
        all_goals first | omega | skip
       | false =>
        have ih := ih (j + 1) (by omega) (by rw [← signF_no hjl hh]; exact hR)
        unfold hp at hh
        rw [decide_eq_false_iff_not] at hh
        generalize hw : signs[j] = w at *
        apply hQ2
        clear hQ2
        by_cases hle0 : k + w.size ≤ t.size
        ·have hne : ¬ t.extract k (k + w.size) = w := fun h => hh ⟨hle0, h⟩
         have hle : (k : Int) + (w.size : Int) ≤ (t.size : Int) := by omega
         have hto : ((k : Int) + (w.size : Int)).toNat = k + w.size := by omega
         ((refine Sg.h ?_); try repeat' ((first | (with_reducible first | refine brA ?_ | refine brE fun _ => ?_ | (refine spl ⟨?_, ?_⟩ <;> intro _))) <;> ((try simp -implicitDefEqProofs [hjl, hsl, hw, hle, hto, hle0, hne]); (try simp -implicitDefEqProofs (disch := first | assumption | (try simp only [lens]); omega -splitDisjunctions) [hjl, hsl, hw, hle, hto, hle0, hne]))))
         all_goals first | exact ih | (refine at2 ih ?_ ?_ <;> simp; done) | (exfalso; first | omega | (simp_all; done) | (simp_all; omega))
        ·have hle : ¬ (k : Int) + (w.size : Int) ≤ (t.size : Int) := by omega
         ((refine Sg.h ?_); try repeat' ((first | (with_reducible first | refine brA ?_ | refine brE fun _ => ?_ | (refine spl ⟨?_, ?_⟩ <;> intro _))) <;> ((try simp -implicitDefEqProofs [hjl, hsl, hw, hle]); (try simp -implicitDefEqProofs (disch := first | assumption | (try simp only [lens]); omega -splitDisjunctions) [hjl, hsl, hw, hle]))))
         all_goals first | exact ih | (refine at2 ih ?_ ?_ <;> simp; done) | (exfalso; first | omega | (simp_all; done) | (simp_all; omega))
     exact main2 10 0 rfl hR
    apply hQ
    clear hQ
    ((refine Sg.h ?_); try repeat' ((first | (with_reducible first | refine brA ?_ | refine brE fun _ => ?_ | (refine spl ⟨?_, ?_⟩ <;> intro _))) <;> ((try simp -implicitDefEqProofs [hlt]); (try simp -implicitDefEqProofs (disch := first | assumption | (try simp only [lens]); omega -splitDisjunctions) [hlt]))))
    all_goals first | exact key | omega
 exact main _ i rfl hi rfl
end Go.Proofs.Ytcllmionhlmjfaa
