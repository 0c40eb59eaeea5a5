/-
  sequentlaw: AlgebraProducts.
-/
import Derived.Test.YthnobaacfjihcaaAlgQ
namespace Go.Proofs.Ythnobaacfjihcaa
open Go Go.Pv
set_option linter.unusedVariables false
set_option linter.unusedSimpArgs false
set_option maxRecDepth 100000
set_option maxHeartbeats 4000000

def x4_L8 : XC := .seq (.seq (.reg [⟨some 145,.move (.tmp 18),none⟩,⟨some 146,.binOp .lss 3 (.tmp 145) (.const (.int .i64 4)) 3,none⟩]) (.cond (.tmp 146) (.skip) (.exit 8))) (.seq (.block 9 (.seq (.drawn 29 [⟨some 149,.move (.tmp 18),none⟩,⟨some 150,.indexAddr 30 (.tmp 16) (.tmp 149),none⟩,⟨some 151,.load 4 (.tmp 150),none⟩,⟨some 152,.move (.tmp 18),none⟩,⟨some 153,.indexAddr 30 (.tmp 12) (.tmp 152),none⟩,⟨some 154,.load 4 (.tmp 153),none⟩,⟨some 155,.move (.tmp 154),none⟩,⟨some 156,.move (.tmp 18),some (some 155,true)⟩,⟨some 157,.indexAddr 30 (.tmp 14) (.tmp 156),some (some 155,true)⟩,⟨some 158,.load 4 (.tmp 157),some (some 155,true)⟩,⟨some 159,.pick (.tmp 155) (.tmp 158) (.const (.bool false)),none⟩,⟨some 160,.binOp .neq 4 (.tmp 151) (.tmp 159) 4,none⟩]) (.cond (.tmp 160) (.seq (.reg [⟨some 4,.assign (.const (.bool false)),none⟩]) (.ret)) (.skip)))) (.reg [⟨some 147,.move (.tmp 18),none⟩,⟨some 148,.binOp .add 3 (.tmp 147) (.const (.int .i64 1)) 3,none⟩,⟨some 18,.assign (.tmp 148),none⟩]))
def x4_T4 : XC := .seq (.reg [⟨some 118,.load 24 (.tmp 2),none⟩,⟨some 119,.call ⟨.value (.func 9),#[.tmp 118],#[24]⟩,none⟩,⟨some 117,.move (.tmp 119),none⟩,⟨some 120,.extract (.tmp 117) 0,none⟩,⟨some 121,.extract (.tmp 117) 1,none⟩,⟨some 12,.alloc 30,none⟩,⟨some 13,.alloc 27,none⟩,⟨none,.store 30 (.tmp 12) (.tmp 120),none⟩,⟨none,.store 27 (.tmp 13) (.tmp 121),none⟩]) (.seq (.reg [⟨some 123,.load 24 (.tmp 3),none⟩,⟨some 124,.call ⟨.value (.func 9),#[.tmp 123],#[24]⟩,none⟩,⟨some 122,.move (.tmp 124),none⟩,⟨some 125,.extract (.tmp 122) 0,none⟩,⟨some 126,.extract (.tmp 122) 1,none⟩,⟨some 14,.alloc 30,none⟩,⟨some 15,.alloc 27,none⟩,⟨none,.store 30 (.tmp 14) (.tmp 125),none⟩,⟨none,.store 27 (.tmp 15) (.tmp 126),none⟩]) (.seq (.reg [⟨some 128,.load 24 (.tmp 7),none⟩,⟨some 129,.call ⟨.value (.func 9),#[.tmp 128],#[24]⟩,none⟩,⟨some 127,.move (.tmp 129),none⟩,⟨some 130,.extract (.tmp 127) 0,none⟩,⟨some 131,.extract (.tmp 127) 1,none⟩,⟨some 16,.alloc 30,none⟩,⟨some 17,.alloc 27,none⟩,⟨none,.store 30 (.tmp 16) (.tmp 130),none⟩,⟨none,.store 27 (.tmp 17) (.tmp 131),none⟩]) (.seq (.seq (.reg [⟨some 132,.fieldAddr 27 (.tmp 13) 0,none⟩,⟨some 133,.load 3 (.tmp 132),none⟩,⟨some 134,.binOp .neq 3 (.tmp 133) (.const (.int .i64 0)) 3,none⟩,⟨some 135,.move (.tmp 134),none⟩,⟨some 136,.fieldAddr 27 (.tmp 15) 0,some (some 135,false)⟩,⟨some 137,.load 3 (.tmp 136),some (some 135,false)⟩,⟨some 138,.binOp .neq 3 (.tmp 137) (.const (.int .i64 0)) 3,some (some 135,false)⟩,⟨some 139,.pick (.tmp 135) (.const (.bool true)) (.tmp 138),none⟩,⟨some 140,.move (.tmp 139),none⟩,⟨some 141,.fieldAddr 27 (.tmp 17) 0,some (some 140,false)⟩,⟨some 142,.load 3 (.tmp 141),some (some 140,false)⟩,⟨some 143,.binOp .neq 3 (.tmp 142) (.const (.int .i64 0)) 3,some (some 140,false)⟩,⟨some 144,.pick (.tmp 140) (.const (.bool true)) (.tmp 143),none⟩]) (.cond (.tmp 144) (.seq (.reg [⟨some 4,.assign (.const (.bool false)),none⟩]) (.ret)) (.skip))) (.seq (.seq (.reg [⟨some 18,.assign (.const (.int .i64 0)),none⟩]) (.bloop 8 x4_L8)) (.seq (.reg [⟨some 4,.assign (.const (.bool true)),none⟩]) (.ret))))))
def x4_L6 : XC := .seq (.seq (.reg [⟨some 67,.move (.tmp 11),none⟩,⟨some 68,.fieldAddr 24 (.tmp 3) 0,none⟩,⟨some 69,.load 3 (.tmp 68),none⟩,⟨some 70,.binOp .lss 3 (.tmp 67) (.tmp 69) 3,none⟩]) (.cond (.tmp 70) (.skip) (.exit 6))) (.seq (.block 7 (.seq (.reg [⟨some 73,.move (.tmp 5),none⟩,⟨some 74,.move (.tmp 8),none⟩,⟨some 75,.indexAddr 39 (.tmp 73) (.tmp 74),none⟩,⟨some 76,.load 41 (.tmp 75),none⟩,⟨some 77,.move (.tmp 10),none⟩,⟨some 78,.indexAddr 41 (.tmp 76) (.tmp 77),none⟩,⟨some 79,.load 4 (.tmp 78),none⟩,⟨some 80,.move (.tmp 79),none⟩,⟨some 81,.move (.tmp 6),some (some 80,true)⟩,⟨some 82,.move (.tmp 9),some (some 80,true)⟩,⟨some 83,.indexAddr 39 (.tmp 81) (.tmp 82),some (some 80,true)⟩,⟨some 84,.load 41 (.tmp 83),some (some 80,true)⟩,⟨some 85,.move (.tmp 11),some (some 80,true)⟩,⟨some 86,.indexAddr 41 (.tmp 84) (.tmp 85),some (some 80,true)⟩,⟨some 87,.load 4 (.tmp 86),some (some 80,true)⟩,⟨some 88,.pick (.tmp 80) (.tmp 87) (.const (.bool false)),none⟩,⟨some 89,.move (.tmp 88),none⟩,⟨some 90,.move (.tmp 8),some (some 89,true)⟩,⟨some 91,.move (.tmp 10),some (some 89,true)⟩,⟨some 92,.binOp .neq 3 (.tmp 90) (.tmp 91) 3,some (some 89,true)⟩,⟨some 93,.move (.tmp 92),some (some 89,true)⟩,⟨some 94,.move (.tmp 9),some (some 93,false)⟩,⟨some 95,.move (.tmp 11),some (some 93,false)⟩,⟨some 96,.binOp .neq 3 (.tmp 94) (.tmp 95) 3,some (some 93,false)⟩,⟨some 97,.pick (.tmp 93) (.const (.bool true)) (.tmp 96),some (some 89,true)⟩,⟨some 98,.pick (.tmp 89) (.tmp 97) (.const (.bool false)),none⟩]) (.cond (.tmp 98) (.reg [⟨some 99,.fieldAddr 24 (.tmp 7) 1,none⟩,⟨some 100,.load 22 (.tmp 99),none⟩,⟨some 101,.move (.tmp 8),none⟩,⟨some 102,.fieldAddr 24 (.tmp 3) 0,none⟩,⟨some 103,.load 3 (.tmp 102),none⟩,⟨some 104,.binOp .mul 3 (.tmp 101) (.tmp 103) 3,none⟩,⟨some 105,.move (.tmp 9),none⟩,⟨some 106,.binOp .add 3 (.tmp 104) (.tmp 105) 3,none⟩,⟨some 107,.move (.tmp 10),none⟩,⟨some 108,.fieldAddr 24 (.tmp 3) 0,none⟩,⟨some 109,.load 3 (.tmp 108),none⟩,⟨some 110,.binOp .mul 3 (.tmp 107) (.tmp 109) 3,none⟩,⟨some 111,.move (.tmp 11),none⟩,⟨some 112,.binOp .add 3 (.tmp 110) (.tmp 111) 3,none⟩,⟨some 113,.build 29 #[(0,.tmp 106),(1,.tmp 112)],none⟩,⟨some 114,.buildSlice 22 1 #[(0,.tmp 113)],none⟩,⟨some 115,.call ⟨.builtin .append,#[.tmp 100,.tmp 114],#[22,22]⟩,none⟩,⟨some 116,.fieldAddr 24 (.tmp 7) 1,none⟩,⟨none,.store 22 (.tmp 116) (.tmp 115),none⟩]) (.skip)))) (.reg [⟨some 71,.move (.tmp 11),none⟩,⟨some 72,.binOp .add 3 (.tmp 71) (.const (.int .i64 1)) 3,none⟩,⟨some 11,.assign (.tmp 72),none⟩]))
def x4_L4 : XC := .seq (.seq (.reg [⟨some 61,.move (.tmp 10),none⟩,⟨some 62,.fieldAddr 24 (.tmp 2) 0,none⟩,⟨some 63,.load 3 (.tmp 62),none⟩,⟨some 64,.binOp .lss 3 (.tmp 61) (.tmp 63) 3,none⟩]) (.cond (.tmp 64) (.skip) (.exit 4))) (.seq (.block 5 (.seq (.reg [⟨some 11,.assign (.const (.int .i64 0)),none⟩]) (.bloop 6 x4_L6))) (.reg [⟨some 65,.move (.tmp 10),none⟩,⟨some 66,.binOp .add 3 (.tmp 65) (.const (.int .i64 1)) 3,none⟩,⟨some 10,.assign (.tmp 66),none⟩]))
def x4_L2 : XC := .seq (.seq (.reg [⟨some 55,.move (.tmp 9),none⟩,⟨some 56,.fieldAddr 24 (.tmp 3) 0,none⟩,⟨some 57,.load 3 (.tmp 56),none⟩,⟨some 58,.binOp .lss 3 (.tmp 55) (.tmp 57) 3,none⟩]) (.cond (.tmp 58) (.skip) (.exit 2))) (.seq (.block 3 (.seq (.reg [⟨some 10,.assign (.const (.int .i64 0)),none⟩]) (.bloop 4 x4_L4))) (.reg [⟨some 59,.move (.tmp 9),none⟩,⟨some 60,.binOp .add 3 (.tmp 59) (.const (.int .i64 1)) 3,none⟩,⟨some 9,.assign (.tmp 60),none⟩]))
def x4_L0 : XC := .seq (.seq (.reg [⟨some 49,.move (.tmp 8),none⟩,⟨some 50,.fieldAddr 24 (.tmp 2) 0,none⟩,⟨some 51,.load 3 (.tmp 50),none⟩,⟨some 52,.binOp .lss 3 (.tmp 49) (.tmp 51) 3,none⟩]) (.cond (.tmp 52) (.skip) (.exit 0))) (.seq (.block 1 (.seq (.reg [⟨some 9,.assign (.const (.int .i64 0)),none⟩]) (.bloop 2 x4_L2))) (.reg [⟨some 53,.move (.tmp 8),none⟩,⟨some 54,.binOp .add 3 (.tmp 53) (.const (.int .i64 1)) 3,none⟩,⟨some 8,.assign (.tmp 54),none⟩]))
def x4 : XC := .seq (.reg [⟨some 2,.box 24 (.tmp 0),none⟩,⟨some 3,.box 24 (.tmp 1),none⟩,⟨some 4,.assign (.const (.bool false)),none⟩]) (.seq (.seq (.reg [⟨some 19,.call ⟨.value (.func 7),#[],#[]⟩,none⟩,⟨some 20,.unOp .not 4 (.tmp 19),none⟩]) (.cond (.tmp 20) (.seq (.reg [⟨some 4,.assign (.const (.bool false)),none⟩]) (.ret)) (.skip))) (.seq (.seq (.reg [⟨some 21,.load 24 (.tmp 2),none⟩,⟨some 22,.call ⟨.value (.func 8),#[.tmp 21],#[24]⟩,none⟩,⟨some 23,.field 27 (.tmp 22) 0,none⟩,⟨some 24,.binOp .neq 3 (.tmp 23) (.const (.int .i64 0)) 3,none⟩,⟨some 25,.move (.tmp 24),none⟩,⟨some 26,.load 24 (.tmp 3),some (some 25,false)⟩,⟨some 27,.call ⟨.value (.func 8),#[.tmp 26],#[24]⟩,some (some 25,false)⟩,⟨some 28,.field 27 (.tmp 27) 0,some (some 25,false)⟩,⟨some 29,.binOp .neq 3 (.tmp 28) (.const (.int .i64 0)) 3,some (some 25,false)⟩,⟨some 30,.pick (.tmp 25) (.const (.bool true)) (.tmp 29),none⟩,⟨some 31,.move (.tmp 30),none⟩,⟨some 32,.fieldAddr 24 (.tmp 2) 0,some (some 31,false)⟩,⟨some 33,.load 3 (.tmp 32),some (some 31,false)⟩,⟨some 34,.fieldAddr 24 (.tmp 3) 0,some (some 31,false)⟩,⟨some 35,.load 3 (.tmp 34),some (some 31,false)⟩,⟨some 36,.binOp .mul 3 (.tmp 33) (.tmp 35) 3,some (some 31,false)⟩,⟨some 37,.binOp .gtr 3 (.tmp 36) (.const (.int .i64 20)) 3,some (some 31,false)⟩,⟨some 38,.pick (.tmp 31) (.const (.bool true)) (.tmp 37),none⟩]) (.cond (.tmp 38) (.seq (.reg [⟨some 4,.assign (.const (.bool true)),none⟩]) (.ret)) (.skip))) (.seq (.drawn 5 [⟨some 39,.load 24 (.tmp 2),none⟩,⟨some 40,.call ⟨.value (.func 12),#[.tmp 39],#[24]⟩,none⟩,⟨some 41,.load 24 (.tmp 3),none⟩,⟨some 42,.call ⟨.value (.func 12),#[.tmp 41],#[24]⟩,none⟩,⟨some 5,.assign (.tmp 40),none⟩,⟨some 6,.assign (.tmp 42),none⟩]) (.seq (.reg [⟨some 43,.fieldAddr 24 (.tmp 2) 0,none⟩,⟨some 44,.load 3 (.tmp 43),none⟩,⟨some 45,.fieldAddr 24 (.tmp 3) 0,none⟩,⟨some 46,.load 3 (.tmp 45),none⟩,⟨some 47,.binOp .mul 3 (.tmp 44) (.tmp 46) 3,none⟩,⟨some 48,.build 24 #[(0,.tmp 47)],none⟩,⟨some 7,.alloc 24,none⟩,⟨none,.store 24 (.tmp 7) (.tmp 48),none⟩]) (.seq (.seq (.reg [⟨some 8,.assign (.const (.int .i64 0)),none⟩]) (.bloop 0 x4_L0)) (x4_T4))))))
@[simp] theorem x4_s {C : WC} {e : AE} {s : Store} {K : KS} : type_of% (@X_at C e s K _ _ x4_L8.eq_1) ∧ type_of% (@X_at C e s K _ _ x4_T4.eq_1) ∧ type_of% (@X_at C e s K _ _ x4_L6.eq_1) ∧ type_of% (@X_at C e s K _ _ x4_L4.eq_1) ∧ type_of% (@X_at C e s K _ _ x4_L2.eq_1) ∧ type_of% (@X_at C e s K _ _ x4_L0.eq_1) ∧ type_of% (@X_at C e s K _ _ x4.eq_1) := ⟨X_at x4_L8.eq_1, X_at x4_T4.eq_1, X_at x4_L6.eq_1, X_at x4_L4.eq_1, X_at x4_L2.eq_1, X_at x4_L0.eq_1, X_at x4.eq_1⟩
def an4 : Ann := ⟨[(5, .mix 3), (29, .mix 11)], [(8, [], [12, 14, 16, 18], [4]), (6, [(7, some 1, 2)], [2, 3, 5, 6, 7, 8, 9, 10, 11], [2, 3, 5, 6, 7, 8, 9, 10]), (4, [(7, some 1, 2)], [2, 3, 5, 6, 7, 8, 9, 10], [2, 3, 5, 6, 7, 8, 9]), (2, [(7, some 1, 2)], [2, 3, 5, 6, 7, 8, 9], [2, 3, 5, 6, 7, 8]), (0, [(7, some 1, 2)], [2, 3, 5, 6, 7, 8], [2, 3, 7])], []⟩
def cx4 (P : Program) (m : Nat) : WC := ⟨P, m, an4⟩
@[simp] theorem cx4_a {P : Program} {m : Nat} : (cx4 P m).P = P ∧ (cx4 P m).m = m ∧ (cx4 P m).A.clsOf 5 = .mix 3 ∧ (cx4 P m).A.clsOf 29 = .mix 11 ∧ (cx4 P m).A.frzOf 5 = [] ∧ (cx4 P m).A.frzOf 29 = [] ∧ (cx4 P m).A.loopOf 8 = ([], [12, 14, 16, 18], [4]) ∧ (cx4 P m).A.loopOf 6 = ([(7, some 1, 2)], [2, 3, 5, 6, 7, 8, 9, 10, 11], [2, 3, 5, 6, 7, 8, 9, 10]) ∧ (cx4 P m).A.loopOf 4 = ([(7, some 1, 2)], [2, 3, 5, 6, 7, 8, 9, 10], [2, 3, 5, 6, 7, 8, 9]) ∧ (cx4 P m).A.loopOf 2 = ([(7, some 1, 2)], [2, 3, 5, 6, 7, 8, 9], [2, 3, 5, 6, 7, 8]) ∧ (cx4 P m).A.loopOf 0 = ([(7, some 1, 2)], [2, 3, 5, 6, 7, 8], [2, 3, 7]) := ⟨rfl, rfl, rfl, rfl, rfl, rfl, rfl, rfl, rfl, rfl, rfl⟩
instance {P : Program} {m f : Nat} [h : EnT P f] : EnT (cx4 P m).P f := h
theorem chk4 : ∀ c, Try.f4.body = some c → chkC Try.f4.ntmps an4 c = true := by intro c h; obtain rfl := Option.some.inj h; decide +kernel
theorem op4 {args : List PV} {v : PV} (h : X (cx4 Try.prog 0) x4 (argsA 0 args) [] (.fin [.tmp 4] fun v1 s1 => deref s1 6 v1 = v)) (hl : args.length ≤ Try.f4.ntmps := by rw [Try.ntmps4]; simp) : CallOK Try.prog 4 args [] v [] :=
  callX (m := 0) (cx4 Try.prog 0) x4 rfl rfl (by kernel_rfl) Try.func4 rfl rfl hl mixed (chk4 _ rfl) (by rw [Try.results4]; exact h)

theorem AlgebraProducts_law (o p : Ord) : CallOK Try.prog 4 [.agg (ord o), .agg (ord p)] [] (.bool true) [] := by
  have hbg := algebraBegun_law
  have hf := OrderFault_ref o
  have hf2 := OrderFault_ref p
  refine op4 ?_
  by_cases hz : (ofault o).1 = 0
  · by_cases hz2 : (ofault p).1 = 0
    · obtain ⟨h0, h1, h2, h3, h4, h5⟩ := ofault_ok hz
      obtain ⟨g0, g1, g2, g3, g4, g5⟩ := ofault_ok hz2
      have hPO := leB_PO hz
      have hPO2 := leB_PO hz2
      have hk1 := Kind_algebra o
      have hk2 := Kind_algebra p
      unfold kindR at hk1 hk2
      rw [if_pos hz] at hk1
      rw [if_pos hz2] at hk2
      rw [h0] at hf hk1
      rw [g0] at hf2 hk2
      obtain ⟨n, E⟩ := o
      obtain ⟨m, F⟩ := p
      simp only at h1 h2 h3 h4 h5 hPO g1 g2 g3 g4 g5 hPO2
      obtain ⟨n, rfl⟩ : ∃ k : Nat, n = (k : Int) := ⟨n.toNat, by omega⟩
      obtain ⟨m, rfl⟩ : ∃ k : Nat, m = (k : Int) := ⟨m.toNat, by omega⟩
      simp only [Int.toNat_natCast] at hPO hPO2 hk1 hk2
      have hs := AtMost_ref ⟨(n : Int), E⟩ n rfl (by omega) h4 h3
      have ht := AtMost_ref ⟨(m : Int), F⟩ m rfl (by omega) g4 g3
      by_cases hN : n * m ≤ 20
      · have hle := fun i j (hi : i < n * m) (hj : j < n * m) => pq_le (i := i) (j := j) hPO hPO2 (by omega) (by omega) hi hj
        have hPQ := pr_po hPO hPO2 (by omega) (by omega)
        have hlen : (pq n m (leB E) (leB F)).length ≤ 400 := by
          have h := pq_len (n := n) (m := m) (s := leB E) (t := leB F)
          have e : n * (m * (n * m)) = n * m * (n * m) := by rw [Nat.mul_assoc]
          have := Nat.mul_le_mul hN hN
          omega
        have hz3 : ofault ⟨((n * m : Nat) : Int), pq n m (leB E) (leB F)⟩ = (0, 0) := ofault_intro (Nat.mul_pos (by omega) (by omega)) hN (by omega) (fun q hq => by
          obtain ⟨x, y⟩ := q
          obtain ⟨a, b, c, d, ha, hb, hc, hd, _, _, _, hx, hy⟩ := pq_mem.1 hq
          have := pr_lt (n := n) ha hb
          have := pr_lt (n := n) hc hd
          simp only
          omega) (fun i j hi hj ha hb => by
          rw [hle i j hi hj] at ha
          rw [hle j i hj hi] at hb
          exact hPQ.anti i j hi hj ha hb)
        have hk3 := Kind_algebra ⟨((n * m : Nat) : Int), pq n m (leB E) (leB F)⟩
        unfold kindR at hk3
        rw [hz3, if_pos rfl] at hk3
        simp only [Int.toNat_natCast] at hk3
        rw [kind_cg hle, kind_pr hPO hPO2 (by omega) (by omega)] at hk3
        obtain ⟨b0, b1, b2, b3, hb⟩ := kindL_four (n := n) (g := leB E)
        obtain ⟨c0, c1, c2, c3, hc⟩ := kindL_four (n := m) (g := leB F)
        rw [hb] at hk1
        rw [hc] at hk2
        rw [hb, hc] at hk3
        simp only [List.zipWith_cons_cons, List.zipWith_nil_left, List.map_cons, List.map_nil] at hk1 hk2 hk3
        clear hle hPQ hz3 hb hc hPO hPO2 h5 g5 h4 g4 hz hz2
        have hnm : 1 ≤ n ∧ n ≤ 20 ∧ 1 ≤ m ∧ m ≤ 20 := by omega
        clear h1 h2 h3 g1 g2 g3
        obtain ⟨hn1, hn2, hm1, hm2⟩ := hnm
        have hrow : ∀ (g : Nat → Nat → Bool) (k : Nat) (i : Nat), i < k → ((tabF k g).map tabRowF)[i]? = some [.list ((rowF k g i).map boolRow)] := by
          intro g k i hi
          rw [List.getElem?_map, List.getElem?_eq_getElem (by simpa using hi), tabF_get]
          rfl
        simp only [ord, faultA] at *
        generalize leB E = s at *
        generalize leB F = t at *
        (((try simp (implicitDefEqProofs := false)); (try simp (implicitDefEqProofs := false) (disch := first | assumption | (try simp only [lens]); omega -splitDisjunctions))); all_goals try (repeat' ((first | ((with_reducible first | refine And.intro ?_ ?_ | refine Exists.intro ?_ ?_); first | omega | (simp <;> omega)) | (with_reducible refine spl (And.intro ?_ ?_) <;> intro _) | (refine CL.clo (hbg) ?_) | (refine CM.clo (hbg) ?_) | (refine CD.clo (hbg) ?_) | (refine CL.clo (hf) ?_) | (refine CM.clo (hf) ?_) | (refine CD.clo (hf) ?_) | (refine CL.clo (hf2) ?_) | (refine CM.clo (hf2) ?_) | (refine CD.clo (hf2) ?_) | (refine CL.clo (hs) ?_) | (refine CM.clo (hs) ?_) | (refine CD.clo (hs) ?_) | (refine CL.clo (ht) ?_) | (refine CM.clo (ht) ?_) | (refine CD.clo (ht) ?_)) <;> ((try simp (implicitDefEqProofs := false)); (try simp (implicitDefEqProofs := false) (disch := first | assumption | (try simp only [lens]); omega -splitDisjunctions))))))
        refine W_of fun Q hQ => ?_
        have main : ∀ k a, a + k = n → Q [(2, .ptr 0 0 0), (3, .ptr 1 0 0), (5, .list ((tabF n s).map tabRowF)), (6, .list ((tabF m t).map tabRowF)), (7, .ptr 2 0 0), (8, .int .i64 (a : Int))] [.rows 2 [[.int .i64 (n : Int), .list (E.map relRow)]], .rows 2 [[.int .i64 (m : Int), .list (F.map relRow)]], .rows 2 [[.int .i64 ((n : Int) * (m : Int)), .sl 3 0 ((List.range a).flatMap (pq1 n m s t)).length]], .rows 2 (((List.range a).flatMap (pq1 n m s t)).map relRow)] := by
          intro k
          induction k with
          | zero =>
            intro a ha
            obtain rfl : a = n := by omega
            rw [show (List.range a).flatMap (pq1 a m s t) = pq a m s t from rfl]
            generalize pq a m s t = P at hlen hk3
            apply hQ
            clear hQ hs ht hbg hf hf2
            rw [Int.natCast_mul] at hk3
            (((try simp (implicitDefEqProofs := false)); (try simp (implicitDefEqProofs := false) (disch := first | assumption | (try simp only [lens]); omega -splitDisjunctions))); all_goals try (repeat' ((first | ((with_reducible first | refine And.intro ?_ ?_ | refine Exists.intro ?_ ?_); first | omega | (simp <;> omega)) | (with_reducible refine spl (And.intro ?_ ?_) <;> intro _) | (refine CL.clo (hk1) ?_) | (refine CM.clo (hk1) ?_) | (refine CD.clo (hk1) ?_) | (refine CL.clo (hk2) ?_) | (refine CM.clo (hk2) ?_) | (refine CD.clo (hk2) ?_)) <;> ((try simp (implicitDefEqProofs := false)); (try simp (implicitDefEqProofs := false) (disch := first | assumption | (try simp only [lens]); omega -splitDisjunctions))))))
            refine CL.giv [3] ?_
            (((try simp (implicitDefEqProofs := false)); (try simp (implicitDefEqProofs := false) (disch := first | assumption | (try simp only [lens]); omega -splitDisjunctions))); all_goals try (repeat' ((first | ((with_reducible first | refine And.intro ?_ ?_ | refine Exists.intro ?_ ?_); first | omega | (simp <;> omega)) | (with_reducible refine spl (And.intro ?_ ?_) <;> intro _) | (refine CL.clo (hk3) ?_) | (refine CM.clo (hk3) ?_) | (refine CD.clo (hk3) ?_)) <;> ((try simp (implicitDefEqProofs := false)); (try simp (implicitDefEqProofs := false) (disch := first | assumption | (try simp only [lens]); omega -splitDisjunctions))))))
            clear hk1 hk2 hk3
            refine W_of fun Q hQ => ?_
            have main : ∀ (k i : Nat), i + k = 4 → Q [(12, .ptr 0 0 0), (14, .ptr 1 0 0), (16, .ptr 2 0 0), (18, .int .i64 (i : Int))] [.rows 4 [[.bool b0, .bool b1, .bool b2, .bool b3]], .rows 4 [[.bool c0, .bool c1, .bool c2, .bool c3]], .rows 4 [[.bool (b0 && c0), .bool (b1 && c1), .bool (b2 && c2), .bool (b3 && c3)]]] := by
              intro k
              induction k with
              | zero =>
                intro i hi
                obtain rfl : i = 4 := by omega
                apply hQ
                clear hQ
                (((try simp (implicitDefEqProofs := false)); (try simp (implicitDefEqProofs := false) (disch := first | assumption | (try simp only [lens]); omega -splitDisjunctions))); all_goals try (repeat' ((first | ((with_reducible first | refine And.intro ?_ ?_ | refine Exists.intro ?_ ?_); first | omega | (simp <;> omega)) | (with_reducible refine spl (And.intro ?_ ?_) <;> intro _)) <;> ((try simp (implicitDefEqProofs := false)); (try simp (implicitDefEqProofs := false) (disch := first | assumption | (try simp only [lens]); omega -splitDisjunctions))))))
              | succ k ih =>
                intro i hi
                have ih := ih (i + 1) (by omega)
                apply hQ
                clear hQ
                rcases (show i = 0 ∨ i = 1 ∨ i = 2 ∨ i = 3 by omega) with rfl | rfl | rfl | rfl
                all_goals ((((try simp (implicitDefEqProofs := false)); (try simp (implicitDefEqProofs := false) (disch := first | assumption | (try simp only [lens]); omega -splitDisjunctions))); all_goals try (repeat' ((first | ((with_reducible first | refine And.intro ?_ ?_ | refine Exists.intro ?_ ?_); first | omega | (simp <;> omega)) | (with_reducible refine spl (And.intro ?_ ?_) <;> intro _)) <;> ((try simp (implicitDefEqProofs := false)); (try simp (implicitDefEqProofs := false) (disch := first | assumption | (try simp only [lens]); omega -splitDisjunctions)))))))
                all_goals first | exact ih | (refine at2 ih ?_ ?_ <;> simp; done) | (exfalso; first | omega | (simp_all; done) | (simp_all; omega))
            refine at2 (main _ 0 (Nat.zero_add _)) ?_ ?_ <;> simp
          | succ k ih =>
            intro a ha
            have han : a < n := by omega
            have ih := ih (a + 1) (by omega)
            have hl1 := fm_len (f := pq1 n m s t) (z := 400) (fun i => Nat.le_trans pq1_len (Nat.mul_le_mul hm2 hN)) a
            have hz2 : ∀ i, (pq2 n m s t a i).length ≤ 20 := fun i => Nat.le_trans pq2_len hN
            have hz3 : ∀ b i, (pq3 m s t a b i).length ≤ 20 := fun b i => Nat.le_trans pq3_len hm2
            rw [fm_succ] at ih
            rw [show pq1 n m s t a = (List.range m).flatMap (pq2 n m s t a) from rfl] at ih
            generalize (List.range a).flatMap (pq1 n m s t) = L1 at *
            clear hs ht hbg hf hf2 hk1 hk2 hk3 hlen
            apply hQ
            clear hQ
            (((try simp (implicitDefEqProofs := false)); (try simp (implicitDefEqProofs := false) (disch := first | assumption | (try simp only [lens]); omega -splitDisjunctions))); all_goals try (repeat' ((first | ((with_reducible first | refine And.intro ?_ ?_ | refine Exists.intro ?_ ?_); first | omega | (simp <;> omega)) | (with_reducible refine spl (And.intro ?_ ?_) <;> intro _)) <;> ((try simp (implicitDefEqProofs := false)); (try simp (implicitDefEqProofs := false) (disch := first | assumption | (try simp only [lens]); omega -splitDisjunctions))))))
            refine W_of fun Q hQ => ?_
            have main : ∀ k b, b + k = m → Q [(2, .ptr 0 0 0), (3, .ptr 1 0 0), (5, .list ((tabF n s).map tabRowF)), (6, .list ((tabF m t).map tabRowF)), (7, .ptr 2 0 0), (8, .int .i64 (a : Int)), (9, .int .i64 (b : Int))] [.rows 2 [[.int .i64 (n : Int), .list (E.map relRow)]], .rows 2 [[.int .i64 (m : Int), .list (F.map relRow)]], .rows 2 [[.int .i64 ((n : Int) * (m : Int)), .sl 3 0 (L1 ++ (List.range b).flatMap (pq2 n m s t a)).length]], .rows 2 ((L1 ++ (List.range b).flatMap (pq2 n m s t a)).map relRow)] := by
              intro k
              induction k with
              | zero =>
                intro b hb
                obtain rfl : b = m := by omega
                generalize L1 ++ (List.range b).flatMap (pq2 n b s t a) = L2 at *
                apply hQ
                clear hQ
                (((try simp (implicitDefEqProofs := false)); (try simp (implicitDefEqProofs := false) (disch := first | assumption | (try simp only [lens]); omega -splitDisjunctions))); all_goals try (repeat' ((first | ((with_reducible first | refine And.intro ?_ ?_ | refine Exists.intro ?_ ?_); first | omega | (simp <;> omega)) | (with_reducible refine spl (And.intro ?_ ?_) <;> intro _)) <;> ((try simp (implicitDefEqProofs := false)); (try simp (implicitDefEqProofs := false) (disch := first | assumption | (try simp only [lens]); omega -splitDisjunctions))))))
                exact ih
              | succ k ih =>
                intro b hb
                have hbm : b < m := by omega
                have ih := ih (b + 1) (by omega)
                have hl2 := fm_len (f := pq2 n m s t a) (z := 20) hz2 b
                rw [fm_succ, ← List.append_assoc] at ih
                rw [show pq2 n m s t a b = (List.range n).flatMap (pq3 m s t a b) from rfl] at ih
                have hl2 : (L1 ++ (List.range b).flatMap (pq2 n m s t a)).length ≤ 8400 := by rw [List.length_append]; omega
                generalize L1 ++ (List.range b).flatMap (pq2 n m s t a) = L2 at *
                apply hQ
                clear hQ
                (((try simp (implicitDefEqProofs := false)); (try simp (implicitDefEqProofs := false) (disch := first | assumption | (try simp only [lens]); omega -splitDisjunctions))); all_goals try (repeat' ((first | ((with_reducible first | refine And.intro ?_ ?_ | refine Exists.intro ?_ ?_); first | omega | (simp <;> omega)) | (with_reducible refine spl (And.intro ?_ ?_) <;> intro _)) <;> ((try simp (implicitDefEqProofs := false)); (try simp (implicitDefEqProofs := false) (disch := first | assumption | (try simp only [lens]); omega -splitDisjunctions))))))
                refine W_of fun Q hQ => ?_
                have main : ∀ k c, c + k = n → Q [(2, .ptr 0 0 0), (3, .ptr 1 0 0), (5, .list ((tabF n s).map tabRowF)), (6, .list ((tabF m t).map tabRowF)), (7, .ptr 2 0 0), (8, .int .i64 (a : Int)), (9, .int .i64 (b : Int)), (10, .int .i64 (c : Int))] [.rows 2 [[.int .i64 (n : Int), .list (E.map relRow)]], .rows 2 [[.int .i64 (m : Int), .list (F.map relRow)]], .rows 2 [[.int .i64 ((n : Int) * (m : Int)), .sl 3 0 (L2 ++ (List.range c).flatMap (pq3 m s t a b)).length]], .rows 2 ((L2 ++ (List.range c).flatMap (pq3 m s t a b)).map relRow)] := by
                  intro k
                  induction k with
                  | zero =>
                    intro c hc
                    obtain rfl : c = n := by omega
                    generalize L2 ++ (List.range c).flatMap (pq3 m s t a b) = L3 at *
                    apply hQ
                    clear hQ
                    (((try simp (implicitDefEqProofs := false)); (try simp (implicitDefEqProofs := false) (disch := first | assumption | (try simp only [lens]); omega -splitDisjunctions))); all_goals try (repeat' ((first | ((with_reducible first | refine And.intro ?_ ?_ | refine Exists.intro ?_ ?_); first | omega | (simp <;> omega)) | (with_reducible refine spl (And.intro ?_ ?_) <;> intro _)) <;> ((try simp (implicitDefEqProofs := false)); (try simp (implicitDefEqProofs := false) (disch := first | assumption | (try simp only [lens]); omega -splitDisjunctions))))))
                    exact ih
                  | succ k ih =>
                    intro c hc
                    have hcn : c < n := by omega
                    have ih := ih (c + 1) (by omega)
                    have hl3 := fm_len (f := pq3 m s t a b) (z := 20) (hz3 b) c
                    rw [fm_succ, ← List.append_assoc] at ih
                    rw [show pq3 m s t a b c = (List.range m).flatMap (pq4 m s t a b c) from rfl] at ih
                    have hl3 : (L2 ++ (List.range c).flatMap (pq3 m s t a b)).length ≤ 8800 := by rw [List.length_append]; omega
                    generalize L2 ++ (List.range c).flatMap (pq3 m s t a b) = L3 at *
                    apply hQ
                    clear hQ
                    (((try simp (implicitDefEqProofs := false)); (try simp (implicitDefEqProofs := false) (disch := first | assumption | (try simp only [lens]); omega -splitDisjunctions))); all_goals try (repeat' ((first | ((with_reducible first | refine And.intro ?_ ?_ | refine Exists.intro ?_ ?_); first | omega | (simp <;> omega)) | (with_reducible refine spl (And.intro ?_ ?_) <;> intro _)) <;> ((try simp (implicitDefEqProofs := false)); (try simp (implicitDefEqProofs := false) (disch := first | assumption | (try simp only [lens]); omega -splitDisjunctions))))))
                    refine W_of fun Q hQ => ?_
                    have main : ∀ k d, d + k = m → Q [(2, .ptr 0 0 0), (3, .ptr 1 0 0), (5, .list ((tabF n s).map tabRowF)), (6, .list ((tabF m t).map tabRowF)), (7, .ptr 2 0 0), (8, .int .i64 (a : Int)), (9, .int .i64 (b : Int)), (10, .int .i64 (c : Int)), (11, .int .i64 (d : Int))] [.rows 2 [[.int .i64 (n : Int), .list (E.map relRow)]], .rows 2 [[.int .i64 (m : Int), .list (F.map relRow)]], .rows 2 [[.int .i64 ((n : Int) * (m : Int)), .sl 3 0 (L3 ++ (List.range d).flatMap (pq4 m s t a b c)).length]], .rows 2 ((L3 ++ (List.range d).flatMap (pq4 m s t a b c)).map relRow)] := by
                      intro k
                      induction k with
                      | zero =>
                        intro d hd
                        obtain rfl : d = m := by omega
                        generalize L3 ++ (List.range d).flatMap (pq4 d s t a b c) = L4 at *
                        apply hQ
                        clear hQ
                        (((try simp (implicitDefEqProofs := false)); (try simp (implicitDefEqProofs := false) (disch := first | assumption | (try simp only [lens]); omega -splitDisjunctions))); all_goals try (repeat' ((first | ((with_reducible first | refine And.intro ?_ ?_ | refine Exists.intro ?_ ?_); first | omega | (simp <;> omega)) | (with_reducible refine spl (And.intro ?_ ?_) <;> intro _)) <;> ((try simp (implicitDefEqProofs := false)); (try simp (implicitDefEqProofs := false) (disch := first | assumption | (try simp only [lens]); omega -splitDisjunctions))))))
                        exact ih
                      | succ k ih =>
                        intro d hd
                        have hdm : d < m := by omega
                        have ih := ih (d + 1) (by omega)
                        have hl4 := fm_len (f := pq4 m s t a b c) (z := 1) (fun i => pq4_len) d
                        rw [fm_succ, ← List.append_assoc] at ih
                        have hl4 : (L3 ++ (List.range d).flatMap (pq4 m s t a b c)).length ≤ 8820 := by rw [List.length_append]; omega
                        generalize L3 ++ (List.range d).flatMap (pq4 m s t a b c) = L4 at *
                        have hq4 : pq4 m s t a b c d = if s a c = true ∧ t b d = true ∧ ¬ (a = c ∧ b = d) then [(((a * m + b : Nat) : Int), ((c * m + d : Nat) : Int))] else [] := rfl
                        have ham : a * m ≤ 400 := Nat.mul_le_mul (show a ≤ 20 by omega) hm2
                        have hcm : c * m ≤ 400 := Nat.mul_le_mul (show c ≤ 20 by omega) hm2
                        rw [hq4] at ih
                        apply hQ
                        clear hQ
                        cases hx : s a c
                        · rw [hx] at ih
                          simp only [Bool.false_eq_true, false_and, if_false, List.append_nil] at ih
                          (((try simp (implicitDefEqProofs := false) [han, hcn, hbm, hdm, tabRowF, tabF_get, rowF_get, hx]); (try simp (implicitDefEqProofs := false) (disch := first | assumption | (try simp only [lens]); omega -splitDisjunctions) [han, hcn, hbm, hdm, tabRowF, tabF_get, rowF_get, hx])); all_goals try (repeat' ((first | ((with_reducible first | refine And.intro ?_ ?_ | refine Exists.intro ?_ ?_); first | omega | (simp <;> omega)) | (with_reducible refine spl (And.intro ?_ ?_) <;> intro _)) <;> ((try simp (implicitDefEqProofs := false) [han, hcn, hbm, hdm, tabRowF, tabF_get, rowF_get, hx]); (try simp (implicitDefEqProofs := false) (disch := first | assumption | (try simp only [lens]); omega -splitDisjunctions) [han, hcn, hbm, hdm, tabRowF, tabF_get, rowF_get, hx])))))
                          all_goals first | exact ih | (refine at2 ih ?_ ?_ <;> simp [relRow]; done) | (exfalso; first | omega | (simp_all; done) | (simp_all; omega))
                        · rw [hx] at ih
                          cases hy : t b d
                          · rw [hy] at ih
                            simp only [Bool.false_eq_true, false_and, and_false, if_false, List.append_nil] at ih
                            (((try simp (implicitDefEqProofs := false) [han, hcn, hbm, hdm, tabRowF, tabF_get, rowF_get, hx, hy]); (try simp (implicitDefEqProofs := false) (disch := first | assumption | (try simp only [lens]); omega -splitDisjunctions) [han, hcn, hbm, hdm, tabRowF, tabF_get, rowF_get, hx, hy])); all_goals try (repeat' ((first | ((with_reducible first | refine And.intro ?_ ?_ | refine Exists.intro ?_ ?_); first | omega | (simp <;> omega)) | (with_reducible refine spl (And.intro ?_ ?_) <;> intro _)) <;> ((try simp (implicitDefEqProofs := false) [han, hcn, hbm, hdm, tabRowF, tabF_get, rowF_get, hx, hy]); (try simp (implicitDefEqProofs := false) (disch := first | assumption | (try simp only [lens]); omega -splitDisjunctions) [han, hcn, hbm, hdm, tabRowF, tabF_get, rowF_get, hx, hy])))))
                            all_goals first | exact ih | (refine at2 ih ?_ ?_ <;> simp [relRow]; done) | (exfalso; first | omega | (simp_all; done) | (simp_all; omega))
                          · rw [hy] at ih
                            by_cases hac : a = c
                            · by_cases hbd : b = d
                              · subst hac hbd
                                simp only [and_self, not_true_eq_false, and_false, if_false, List.append_nil] at ih
                                (((try simp (implicitDefEqProofs := false) [han, hcn, hbm, hdm, tabRowF, tabF_get, rowF_get, hx, hy]); (try simp (implicitDefEqProofs := false) (disch := first | assumption | (try simp only [lens]); omega -splitDisjunctions) [han, hcn, hbm, hdm, tabRowF, tabF_get, rowF_get, hx, hy])); all_goals try (repeat' ((first | ((with_reducible first | refine And.intro ?_ ?_ | refine Exists.intro ?_ ?_); first | omega | (simp <;> omega)) | (with_reducible refine spl (And.intro ?_ ?_) <;> intro _)) <;> ((try simp (implicitDefEqProofs := false) [han, hcn, hbm, hdm, tabRowF, tabF_get, rowF_get, hx, hy]); (try simp (implicitDefEqProofs := false) (disch := first | assumption | (try simp only [lens]); omega -splitDisjunctions) [han, hcn, hbm, hdm, tabRowF, tabF_get, rowF_get, hx, hy])))))
                                all_goals first | exact ih | (refine at2 ih ?_ ?_ <;> simp [relRow]; done) | (exfalso; first | omega | (simp_all; done) | (simp_all; omega))
                              · subst hac
                                simp only [hbd, and_self, and_false, not_false_eq_true, if_true] at ih
                                (((try simp (implicitDefEqProofs := false) [han, hcn, hbm, hdm, tabRowF, tabF_get, rowF_get, hx, hy, hbd]); (try simp (implicitDefEqProofs := false) (disch := first | assumption | (try simp only [lens]); omega -splitDisjunctions) [han, hcn, hbm, hdm, tabRowF, tabF_get, rowF_get, hx, hy, hbd])); all_goals try (repeat' ((first | ((with_reducible first | refine And.intro ?_ ?_ | refine Exists.intro ?_ ?_); first | omega | (simp <;> omega)) | (with_reducible refine spl (And.intro ?_ ?_) <;> intro _)) <;> ((try simp (implicitDefEqProofs := false) [han, hcn, hbm, hdm, tabRowF, tabF_get, rowF_get, hx, hy, hbd]); (try simp (implicitDefEqProofs := false) (disch := first | assumption | (try simp only [lens]); omega -splitDisjunctions) [han, hcn, hbm, hdm, tabRowF, tabF_get, rowF_get, hx, hy, hbd])))))
                                all_goals first | exact ih | (refine at2 ih ?_ ?_ <;> simp [relRow]; done) | (exfalso; first | omega | (simp_all; done) | (simp_all; omega))
                            · simp only [hac, and_self, false_and, not_false_eq_true, if_true] at ih
                              (((try simp (implicitDefEqProofs := false) [han, hcn, hbm, hdm, tabRowF, tabF_get, rowF_get, hx, hy, hac]); (try simp (implicitDefEqProofs := false) (disch := first | assumption | (try simp only [lens]); omega -splitDisjunctions) [han, hcn, hbm, hdm, tabRowF, tabF_get, rowF_get, hx, hy, hac])); all_goals try (repeat' ((first | ((with_reducible first | refine And.intro ?_ ?_ | refine Exists.intro ?_ ?_); first | omega | (simp <;> omega)) | (with_reducible refine spl (And.intro ?_ ?_) <;> intro _)) <;> ((try simp (implicitDefEqProofs := false) [han, hcn, hbm, hdm, tabRowF, tabF_get, rowF_get, hx, hy, hac]); (try simp (implicitDefEqProofs := false) (disch := first | assumption | (try simp only [lens]); omega -splitDisjunctions) [han, hcn, hbm, hdm, tabRowF, tabF_get, rowF_get, hx, hy, hac])))))
                              all_goals first | exact ih | (refine at2 ih ?_ ?_ <;> simp [relRow]; done) | (exfalso; first | omega | (simp_all; done) | (simp_all; omega))
                    refine at2 (main _ 0 (Nat.zero_add _)) ?_ ?_ <;> simp
                refine at2 (main _ 0 (Nat.zero_add _)) ?_ ?_ <;> simp
            refine at2 (main _ 0 (Nat.zero_add _)) ?_ ?_ <;> simp
        refine at2 (main _ 0 (Nat.zero_add _)) ?_ ?_ <;> simp
      · have hnm := Nat.mul_le_mul (show n ≤ 20 by omega) (show m ≤ 20 by omega)
        have hN2 : ¬ ((n : Int) * (m : Int) ≤ 20) := by rw [← Int.natCast_mul]; omega
        clear hk1 hk2 hs ht hPO hPO2
        simp only [ord, faultA] at *
        (((try simp (implicitDefEqProofs := false)); (try simp (implicitDefEqProofs := false) (disch := first | assumption | (try simp only [lens]); omega -splitDisjunctions))); all_goals try (repeat' ((first | ((with_reducible first | refine And.intro ?_ ?_ | refine Exists.intro ?_ ?_); first | omega | (simp <;> omega)) | (with_reducible refine spl (And.intro ?_ ?_) <;> intro _) | (refine CL.clo (hbg) ?_) | (refine CM.clo (hbg) ?_) | (refine CD.clo (hbg) ?_) | (refine CL.clo (hf) ?_) | (refine CM.clo (hf) ?_) | (refine CD.clo (hf) ?_) | (refine CL.clo (hf2) ?_) | (refine CM.clo (hf2) ?_) | (refine CD.clo (hf2) ?_)) <;> ((try simp (implicitDefEqProofs := false)); (try simp (implicitDefEqProofs := false) (disch := first | assumption | (try simp only [lens]); omega -splitDisjunctions))))))
    · generalize ofault p = w at hf2 hz2 ⊢
      generalize ofault o = w2 at hf hz ⊢
      obtain ⟨n, E⟩ := o
      obtain ⟨m, F⟩ := p
      simp only [ord] at hf hf2 ⊢
      (((try simp (implicitDefEqProofs := false) [hz, hz2]); (try simp (implicitDefEqProofs := false) (disch := first | assumption | (try simp only [lens]); omega -splitDisjunctions) [hz, hz2])); all_goals try (repeat' ((first | ((with_reducible first | refine And.intro ?_ ?_ | refine Exists.intro ?_ ?_); first | omega | (simp <;> omega)) | (with_reducible refine spl (And.intro ?_ ?_) <;> intro _) | (refine CL.clo (hbg) ?_) | (refine CM.clo (hbg) ?_) | (refine CD.clo (hbg) ?_) | (refine CL.clo (hf) ?_) | (refine CM.clo (hf) ?_) | (refine CD.clo (hf) ?_) | (refine CL.clo (hf2) ?_) | (refine CM.clo (hf2) ?_) | (refine CD.clo (hf2) ?_)) <;> ((try simp (implicitDefEqProofs := false) [hz, hz2]); (try simp (implicitDefEqProofs := false) (disch := first | assumption | (try simp only [lens]); omega -splitDisjunctions) [hz, hz2])))))
  · generalize ofault o = w at hf hz ⊢
    obtain ⟨n, E⟩ := o
    obtain ⟨m, F⟩ := p
    simp only [ord] at hf ⊢
    (((try simp (implicitDefEqProofs := false) [hz]); (try simp (implicitDefEqProofs := false) (disch := first | assumption | (try simp only [lens]); omega -splitDisjunctions) [hz])); all_goals try (repeat' ((first | ((with_reducible first | refine And.intro ?_ ?_ | refine Exists.intro ?_ ?_); first | omega | (simp <;> omega)) | (with_reducible refine spl (And.intro ?_ ?_) <;> intro _) | (refine CL.clo (hbg) ?_) | (refine CM.clo (hbg) ?_) | (refine CD.clo (hbg) ?_) | (refine CL.clo (hf) ?_) | (refine CM.clo (hf) ?_) | (refine CD.clo (hf) ?_)) <;> ((try simp (implicitDefEqProofs := false) [hz]); (try simp (implicitDefEqProofs := false) (disch := first | assumption | (try simp only [lens]); omega -splitDisjunctions) [hz])))))
end Go.Proofs.Ythnobaacfjihcaa
