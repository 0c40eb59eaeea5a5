/-
  algebra: fault, Check.
-/
import Derived.Test.YthnobaacfjihcaaQAo
namespace Go.Proofs.Ythnobaacfjihcaa
open Go Go.Pv
set_option linter.unusedVariables false
set_option linter.unusedSimpArgs false
set_option maxRecDepth 100000
set_option maxHeartbeats 4000000

def x32 : XC := .seq (.reg [⟨some 4,.alloc 27,none⟩]) (.seq (.reg [⟨some 5,.move (.tmp 0),none⟩,⟨some 6,.move (.tmp 1),none⟩,⟨some 7,.build 27 #[(0,.tmp 5),(1,.tmp 6)],none⟩,⟨none,.store 27 (.tmp 4) (.tmp 7),none⟩]) (.ret))
@[simp] theorem x32_s {C : WC} {e : AE} {s : Store} {K : KS} : type_of% (@X_at C e s K _ _ x32.eq_1) := X_at x32.eq_1
def an32 : Ann := ⟨[], [], []⟩
def cx32 (P : Program) (m : Nat) : WC := ⟨P, m, an32⟩
@[simp] theorem cx32_a {P : Program} {m : Nat} : (cx32 P m).P = P ∧ (cx32 P m).m = m := ⟨rfl, rfl⟩
instance {P : Program} {m f : Nat} [h : EnT P f] : EnT (cx32 P m).P f := h
theorem chk32 : ∀ c, Try.f32.body = some c → chkC Try.f32.ntmps an32 c = true := by intro c h; obtain rfl := Option.some.inj h; decide +kernel
theorem op32 {args : List PV} {v : PV} (h : X (cx32 Try.prog 0) x32 (argsA 0 args) [] (.fin [.cell 4 27] fun v1 s1 => deref s1 6 v1 = v)) (hl : args.length ≤ Try.f32.ntmps := by rw [Try.ntmps32]; simp) : CallOK Try.prog 32 args [] v [] :=
  callX (m := 0) (cx32 Try.prog 0) x32 rfl rfl (by kernel_rfl) Try.func32 rfl rfl hl mixed (chk32 _ rfl) (by rw [Try.results32]; exact h)

theorem fault_algebra (a b : Int) : CallOK Try.prog 32 [.int .i64 a, .int .i64 b] [] (.agg [.int .i64 a, .int .i64 b]) [] := by
  refine op32 ?_
  (((try simp (implicitDefEqProofs := false)); (try simp (implicitDefEqProofs := false) (disch := first | assumption | (try simp only [lens]); omega -splitDisjunctions))); all_goals try (repeat' ((first | ((with_reducible first | refine And.intro ?_ ?_ | refine Exists.intro ?_ ?_); first | omega | (simp <;> omega)) | (with_reducible refine spl (And.intro ?_ ?_) <;> intro _)) <;> ((try simp (implicitDefEqProofs := false)); (try simp (implicitDefEqProofs := false) (disch := first | assumption | (try simp only [lens]); omega -splitDisjunctions))))))
def x14_T4 : XC := .seq (.reg [⟨some 81,.build 27 #[],none⟩,⟨none,.store 27 (.tmp 2) (.tmp 81),none⟩]) (.ret)
def x14_L4 : XC := .seq (.reg [⟨some 59,.binOp .lss 3 (.tmp 58) (.tmp 57) 3,none⟩]) (.seq (.cond (.tmp 59) (.skip) (.exit 4)) (.seq (.block 5 (.seq (.reg [⟨some 60,.move (.tmp 58),none⟩,⟨some 7,.assign (.tmp 60),none⟩]) (.seq (.reg [⟨some 61,.move (.tmp 5),none⟩,⟨some 62,.move (.tmp 6),none⟩,⟨some 63,.indexAddr 59 (.tmp 61) (.tmp 62),none⟩,⟨some 64,.load 41 (.tmp 63),none⟩,⟨some 65,.move (.tmp 7),none⟩,⟨some 66,.indexAddr 41 (.tmp 64) (.tmp 65),none⟩,⟨some 67,.load 4 (.tmp 66),none⟩,⟨some 68,.move (.tmp 67),none⟩,⟨some 69,.move (.tmp 5),some (some 68,true)⟩,⟨some 70,.move (.tmp 7),some (some 68,true)⟩,⟨some 71,.indexAddr 59 (.tmp 69) (.tmp 70),some (some 68,true)⟩,⟨some 72,.load 41 (.tmp 71),some (some 68,true)⟩,⟨some 73,.move (.tmp 6),some (some 68,true)⟩,⟨some 74,.indexAddr 41 (.tmp 72) (.tmp 73),some (some 68,true)⟩,⟨some 75,.load 4 (.tmp 74),some (some 68,true)⟩,⟨some 76,.pick (.tmp 68) (.tmp 75) (.const (.bool false)),none⟩]) (.cond (.tmp 76) (.seq (.reg [⟨some 77,.move (.tmp 6),none⟩,⟨some 78,.call ⟨.value (.func 32),#[.const (.int .i64 5),.tmp 77],#[3,3]⟩,none⟩,⟨none,.store 27 (.tmp 2) (.tmp 78),none⟩]) (.ret)) (.skip))))) (.reg [⟨some 79,.binOp .add 3 (.tmp 58) (.const (.int .i64 1)) 3,none⟩,⟨some 58,.move (.tmp 79),none⟩])))
def x14_L2 : XC := .seq (.reg [⟨some 55,.binOp .lss 3 (.tmp 54) (.tmp 53) 3,none⟩]) (.seq (.cond (.tmp 55) (.skip) (.exit 2)) (.seq (.block 3 (.seq (.reg [⟨some 56,.move (.tmp 54),none⟩,⟨some 6,.assign (.tmp 56),none⟩]) (.seq (.reg [⟨some 57,.move (.tmp 6),none⟩,⟨some 58,.move (.const (.int .i64 0)),none⟩]) (.bloop 4 x14_L4)))) (.reg [⟨some 80,.binOp .add 3 (.tmp 54) (.const (.int .i64 1)) 3,none⟩,⟨some 54,.move (.tmp 80),none⟩])))
def x14_T1 : XC := .seq (.reg [⟨some 50,.load 24 (.tmp 1),none⟩,⟨some 51,.call ⟨.value (.func 26),#[.tmp 50],#[24]⟩,none⟩,⟨some 5,.assign (.tmp 51),none⟩]) (.seq (.seq (.reg [⟨some 52,.move (.tmp 5),none⟩,⟨some 53,.call ⟨.builtin .len,#[.tmp 52],#[59]⟩,none⟩,⟨some 54,.move (.const (.int .i64 0)),none⟩]) (.bloop 2 x14_L2)) (x14_T4))
def x14_L0 : XC := .seq (.reg [⟨some 27,.binOp .lss 3 (.tmp 26) (.tmp 25) 3,none⟩]) (.seq (.cond (.tmp 27) (.skip) (.exit 0)) (.seq (.block 1 (.seq (.reg [⟨some 28,.move (.tmp 26),none⟩,⟨some 29,.indexAddr 22 (.tmp 24) (.tmp 26),none⟩,⟨some 30,.load 29 (.tmp 29),none⟩,⟨some 4,.alloc 29,none⟩,⟨some 3,.assign (.tmp 28),none⟩,⟨none,.store 29 (.tmp 4) (.tmp 30),none⟩]) (.seq (.reg [⟨some 31,.indexAddr 29 (.tmp 4) (.const (.int .i64 0)),none⟩,⟨some 32,.load 3 (.tmp 31),none⟩,⟨some 33,.indexAddr 29 (.tmp 4) (.const (.int .i64 1)),none⟩,⟨some 34,.load 3 (.tmp 33),none⟩,⟨some 35,.call ⟨.builtin .min,#[.tmp 32,.tmp 34],#[3,3]⟩,none⟩,⟨some 36,.binOp .lss 3 (.tmp 35) (.const (.int .i64 0)) 3,none⟩,⟨some 37,.move (.tmp 36),none⟩,⟨some 38,.indexAddr 29 (.tmp 4) (.const (.int .i64 0)),some (some 37,false)⟩,⟨some 39,.load 3 (.tmp 38),some (some 37,false)⟩,⟨some 40,.indexAddr 29 (.tmp 4) (.const (.int .i64 1)),some (some 37,false)⟩,⟨some 41,.load 3 (.tmp 40),some (some 37,false)⟩,⟨some 42,.call ⟨.builtin .max,#[.tmp 39,.tmp 41],#[3,3]⟩,some (some 37,false)⟩,⟨some 43,.fieldAddr 24 (.tmp 1) 0,some (some 37,false)⟩,⟨some 44,.load 3 (.tmp 43),some (some 37,false)⟩,⟨some 45,.binOp .geq 3 (.tmp 42) (.tmp 44) 3,some (some 37,false)⟩,⟨some 46,.pick (.tmp 37) (.const (.bool true)) (.tmp 45),none⟩]) (.cond (.tmp 46) (.seq (.reg [⟨some 47,.move (.tmp 3),none⟩,⟨some 48,.call ⟨.value (.func 32),#[.const (.int .i64 3),.tmp 47],#[3,3]⟩,none⟩,⟨none,.store 27 (.tmp 2) (.tmp 48),none⟩]) (.ret)) (.skip))))) (.reg [⟨some 49,.binOp .add 3 (.tmp 26) (.const (.int .i64 1)) 3,none⟩,⟨some 26,.move (.tmp 49),none⟩])))
def x14 : XC := .seq (.reg [⟨some 1,.box 24 (.tmp 0),none⟩,⟨some 2,.alloc 27,none⟩]) (.seq (.seq (.reg [⟨some 8,.fieldAddr 24 (.tmp 1) 0,none⟩,⟨some 9,.load 3 (.tmp 8),none⟩,⟨some 10,.binOp .lss 3 (.tmp 9) (.const (.int .i64 1)) 3,none⟩,⟨some 11,.move (.tmp 10),none⟩,⟨some 12,.fieldAddr 24 (.tmp 1) 0,some (some 11,false)⟩,⟨some 13,.load 3 (.tmp 12),some (some 11,false)⟩,⟨some 14,.binOp .gtr 3 (.tmp 13) (.const (.int .i64 20)) 3,some (some 11,false)⟩,⟨some 15,.pick (.tmp 11) (.const (.bool true)) (.tmp 14),none⟩,⟨some 16,.move (.tmp 15),none⟩,⟨some 17,.fieldAddr 24 (.tmp 1) 1,some (some 16,false)⟩,⟨some 18,.load 22 (.tmp 17),some (some 16,false)⟩,⟨some 19,.call ⟨.builtin .len,#[.tmp 18],#[22]⟩,some (some 16,false)⟩,⟨some 20,.binOp .gtr 3 (.tmp 19) (.const (.int .i64 500)) 3,some (some 16,false)⟩,⟨some 21,.pick (.tmp 16) (.const (.bool true)) (.tmp 20),none⟩]) (.cond (.tmp 21) (.seq (.reg [⟨some 22,.call ⟨.value (.func 32),#[.const (.int .i64 2),.const (.int .i64 0)],#[3,3]⟩,none⟩,⟨none,.store 27 (.tmp 2) (.tmp 22),none⟩]) (.ret)) (.skip))) (.seq (.seq (.reg [⟨some 23,.fieldAddr 24 (.tmp 1) 1,none⟩,⟨some 24,.load 22 (.tmp 23),none⟩,⟨some 25,.call ⟨.builtin .len,#[.tmp 24],#[22]⟩,none⟩,⟨some 26,.move (.const (.int .i64 0)),none⟩]) (.bloop 0 x14_L0)) (x14_T1)))
@[simp] theorem x14_s {C : WC} {e : AE} {s : Store} {K : KS} : type_of% (@X_at C e s K _ _ x14_T4.eq_1) ∧ type_of% (@X_at C e s K _ _ x14_L4.eq_1) ∧ type_of% (@X_at C e s K _ _ x14_L2.eq_1) ∧ type_of% (@X_at C e s K _ _ x14_T1.eq_1) ∧ type_of% (@X_at C e s K _ _ x14_L0.eq_1) ∧ type_of% (@X_at C e s K _ _ x14.eq_1) := ⟨X_at x14_T4.eq_1, X_at x14_L4.eq_1, X_at x14_L2.eq_1, X_at x14_T1.eq_1, X_at x14_L0.eq_1, X_at x14.eq_1⟩
def an14 : Ann := ⟨[], [(4, [], [2, 5, 6, 53, 54, 57, 58], [2, 5, 53, 54]), (2, [], [2, 5, 53, 54], [2]), (0, [], [1, 2, 24, 25, 26], [1, 2])], []⟩
def cx14 (P : Program) (m : Nat) : WC := ⟨P, m, an14⟩
@[simp] theorem cx14_a {P : Program} {m : Nat} : (cx14 P m).P = P ∧ (cx14 P m).m = m ∧ (cx14 P m).A.loopOf 4 = ([], [2, 5, 6, 53, 54, 57, 58], [2, 5, 53, 54]) ∧ (cx14 P m).A.loopOf 2 = ([], [2, 5, 53, 54], [2]) ∧ (cx14 P m).A.loopOf 0 = ([], [1, 2, 24, 25, 26], [1, 2]) := ⟨rfl, rfl, rfl, rfl, rfl⟩
instance {P : Program} {m f : Nat} [h : EnT P f] : EnT (cx14 P m).P f := h
theorem chk14 : ∀ c, Try.f14.body = some c → chkC Try.f14.ntmps an14 c = true := by intro c h; obtain rfl := Option.some.inj h; decide +kernel
theorem op14 {args : List PV} {v : PV} (h : X (cx14 Try.prog 0) x14 (argsA 0 args) [] (.fin [.cell 2 27] fun v1 s1 => deref s1 6 v1 = v)) (hl : args.length ≤ Try.f14.ntmps := by rw [Try.ntmps14]; simp) : CallOK Try.prog 14 args [] v [] :=
  callX (m := 0) (cx14 Try.prog 0) x14 rfl rfl (by kernel_rfl) Try.func14 rfl rfl hl mixed (chk14 _ rfl) (by rw [Try.results14]; exact h)

theorem Check_algebra (o : Ord) : CallOK Try.prog 14 [.agg (ord o)] [] (.agg [.int .i64 (ofault o).1, .int .i64 (ofault o).2]) [] := by
  have hat := fun n h1 h2 h3 => newTable_algebra o n h1 h2 h3
  refine op14 ?_
  obtain ⟨n, E⟩ := o
  unfold ofault
  simp only [ord] at hat ⊢
  by_cases hA : n < 1 ∨ 20 < n ∨ 500 < E.length
  · rw [if_pos hA]
    (((try simp (implicitDefEqProofs := false)); (try simp (implicitDefEqProofs := false) (disch := first | assumption | (try simp only [lens]); omega -splitDisjunctions))); all_goals try (repeat' ((first | ((with_reducible first | refine And.intro ?_ ?_ | refine Exists.intro ?_ ?_); first | omega | (simp <;> omega)) | (with_reducible refine spl (And.intro ?_ ?_) <;> intro _) | (refine CL.clo (fault_algebra _ _) ?_) | (refine CM.clo (fault_algebra _ _) ?_) | (refine CD.clo (fault_algebra _ _) ?_)) <;> ((try simp (implicitDefEqProofs := false)); (try simp (implicitDefEqProofs := false) (disch := first | assumption | (try simp only [lens]); omega -splitDisjunctions))))))
    all_goals (exfalso; omega)
  · rw [if_neg hA]
    simp only [not_or, Int.not_lt, Nat.not_lt] at hA
    obtain ⟨hA1, hA2, hA3⟩ := hA
    obtain ⟨n, rfl⟩ : ∃ k : Nat, n = (k : Int) := ⟨n.toNat, by omega⟩
    (((try simp (implicitDefEqProofs := false)); (try simp (implicitDefEqProofs := false) (disch := first | assumption | (try simp only [lens]); omega -splitDisjunctions))); all_goals try (repeat' ((first | ((with_reducible first | refine And.intro ?_ ?_ | refine Exists.intro ?_ ?_); first | omega | (simp <;> omega)) | (with_reducible refine spl (And.intro ?_ ?_) <;> intro _) | (refine CL.clo (fault_algebra _ _) ?_) | (refine CM.clo (fault_algebra _ _) ?_) | (refine CD.clo (fault_algebra _ _) ?_)) <;> ((try simp (implicitDefEqProofs := false)); (try simp (implicitDefEqProofs := false) (disch := first | assumption | (try simp only [lens]); omega -splitDisjunctions))))))
    all_goals try (exfalso; omega)
    refine W_of fun Q hQ => ?_
    have main : ∀ k i, i + k = E.length → relBad n E 0 = relBad n (E.drop i) i → Q [(1, .ptr 0 0 0), (2, .ptr 1 0 0), (24, .list (E.map relRow)), (25, .int .i64 (E.length : Int)), (26, .int .i64 (i : Int))] [.rows 2 [[.int .i64 (n : Int), .list (E.map relRow)]], .rows 2 [[.int .i64 0, .int .i64 0]]] := by
      intro k
      induction k with
      | zero =>
        intro i hi hr
        rw [List.drop_of_length_le (by omega)] at hr
        have hr : relBad (n : Int) E 0 = none := hr
        have hE := relBad_none E 0 hr
        have hat := hat n rfl (by omega) hE
        apply hQ
        clear hQ
        (((try simp (implicitDefEqProofs := false)); (try simp (implicitDefEqProofs := false) (disch := first | assumption | (try simp only [lens]); omega -splitDisjunctions))); all_goals try (repeat' ((first | ((with_reducible first | refine And.intro ?_ ?_ | refine Exists.intro ?_ ?_); first | omega | (simp <;> omega)) | (with_reducible refine spl (And.intro ?_ ?_) <;> intro _) | (refine CL.clo (hat) ?_) | (refine CM.clo (hat) ?_) | (refine CD.clo (hat) ?_)) <;> ((try simp (implicitDefEqProofs := false)); (try simp (implicitDefEqProofs := false) (disch := first | assumption | (try simp only [lens]); omega -splitDisjunctions))))))
        refine W_of fun Q2 hQ2 => ?_
        have main2 : ∀ k i, i + k = n → (∀ j, j < i → cyc E j = false) → Q2 [(2, .ptr 0 0 0), (5, .list ((tabF n (leB E)).map tabRowF)), (53, .int .i64 (n : Int)), (54, .int .i64 (i : Int))] [.rows 2 [[.int .i64 0, .int .i64 0]]] := by
          intro k
          induction k with
          | zero =>
            intro i hi hc
            have hfd : (List.range n).find? (cyc E) = none := by
              rw [List.find?_eq_none]
              intro j hj
              rw [List.mem_range] at hj
              simp [hc j (by omega)]
            apply hQ2
            (((try simp (implicitDefEqProofs := false)); (try simp (implicitDefEqProofs := false) (disch := first | assumption | (try simp only [lens]); omega -splitDisjunctions))); all_goals try (repeat' ((first | ((with_reducible first | refine And.intro ?_ ?_ | refine Exists.intro ?_ ?_); first | omega | (simp <;> omega)) | (with_reducible refine spl (And.intro ?_ ?_) <;> intro _)) <;> ((try simp (implicitDefEqProofs := false)); (try simp (implicitDefEqProofs := false) (disch := first | assumption | (try simp only [lens]); omega -splitDisjunctions))))))
            all_goals simp [hr, hfd]
          | succ k ih2 =>
            intro i hi hc
            have hin : i < n := by omega
            have ih2 := ih2 (i + 1) (by omega)
            apply hQ2
            clear hQ2
            (((try simp (implicitDefEqProofs := false) [hin]); (try simp (implicitDefEqProofs := false) (disch := first | assumption | (try simp only [lens]); omega -splitDisjunctions) [hin])); all_goals try (repeat' ((first | ((with_reducible first | refine And.intro ?_ ?_ | refine Exists.intro ?_ ?_); first | omega | (simp <;> omega)) | (with_reducible refine spl (And.intro ?_ ?_) <;> intro _)) <;> ((try simp (implicitDefEqProofs := false) [hin]); (try simp (implicitDefEqProofs := false) (disch := first | assumption | (try simp only [lens]); omega -splitDisjunctions) [hin])))))
            refine W_of fun Q3 hQ3 => ?_
            have main3 : ∀ r k, k + r = i → (∀ m, m < k → (leB E i m && leB E m i) = false) → Q3 [(2, .ptr 0 0 0), (5, .list ((tabF n (leB E)).map tabRowF)), (6, .int .i64 (i : Int)), (53, .int .i64 (n : Int)), (54, .int .i64 (i : Int)), (57, .int .i64 (i : Int)), (58, .int .i64 (k : Int))] [.rows 2 [[.int .i64 0, .int .i64 0]]] := by
              intro r
              induction r with
              | zero =>
                intro k hk hm
                have hci : cyc E i = false := by
                  unfold cyc
                  rw [List.any_eq_false]
                  intro m hm2
                  rw [List.mem_range] at hm2
                  rw [hm m (by omega)]; simp
                have ih2 := ih2 (fun j hj => by
                  by_cases e : j = i
                  · subst e; exact hci
                  · exact hc j (by omega))
                apply hQ3
                clear hQ3
                (((try simp (implicitDefEqProofs := false) [hin]); (try simp (implicitDefEqProofs := false) (disch := first | assumption | (try simp only [lens]); omega -splitDisjunctions) [hin])); all_goals try (repeat' ((first | ((with_reducible first | refine And.intro ?_ ?_ | refine Exists.intro ?_ ?_); first | omega | (simp <;> omega)) | (with_reducible refine spl (And.intro ?_ ?_) <;> intro _)) <;> ((try simp (implicitDefEqProofs := false) [hin]); (try simp (implicitDefEqProofs := false) (disch := first | assumption | (try simp only [lens]); omega -splitDisjunctions) [hin])))))
                all_goals first | (exfalso; omega) | simpa using ih2
              | succ r ih3 =>
                intro k hk hm
                have hki : k < i := by omega
                have hkn : k < n := by omega
                have ih3 := ih3 (k + 1) (by omega)
                cases hlk : (leB E i k && leB E k i) with
                | true =>
                  have hcy : cyc E i = true := by
                    unfold cyc
                    rw [List.any_eq_true]
                    exact ⟨k, List.mem_range.2 hki, hlk⟩
                  have hfd : (List.range n).find? (cyc E) = some i := by
                    rw [List.find?_range_eq_some]
                    exact ⟨hcy, List.mem_range.2 hin, fun j hj => by rw [hc j hj]; rfl⟩
                  rw [Bool.and_eq_true] at hlk
                  apply hQ3
                  clear hQ3 ih3
                  (((try simp (implicitDefEqProofs := false) [hin, hki, hkn, tabRowF, tabF_get, rowF_get, hlk.1, hlk.2]); (try simp (implicitDefEqProofs := false) (disch := first | assumption | (try simp only [lens]); omega -splitDisjunctions) [hin, hki, hkn, tabRowF, tabF_get, rowF_get, hlk.1, hlk.2])); all_goals try (repeat' ((first | ((with_reducible first | refine And.intro ?_ ?_ | refine Exists.intro ?_ ?_); first | omega | (simp <;> omega)) | (with_reducible refine spl (And.intro ?_ ?_) <;> intro _) | (refine CL.clo (fault_algebra _ _) ?_) | (refine CM.clo (fault_algebra _ _) ?_) | (refine CD.clo (fault_algebra _ _) ?_)) <;> ((try simp (implicitDefEqProofs := false) [hin, hki, hkn, tabRowF, tabF_get, rowF_get, hlk.1, hlk.2]); (try simp (implicitDefEqProofs := false) (disch := first | assumption | (try simp only [lens]); omega -splitDisjunctions) [hin, hki, hkn, tabRowF, tabF_get, rowF_get, hlk.1, hlk.2])))))
                  all_goals first | (exfalso; omega) | simp [hr, hfd]
                | false =>
                  have ih3 := ih3 (fun m hm2 => by
                    by_cases e : m = k
                    · subst e; exact hlk
                    · exact hm m (by omega))
                  apply hQ3
                  clear hQ3
                  (((try simp (implicitDefEqProofs := false) [hin, hki, hkn, tabRowF, tabF_get, rowF_get]); (try simp (implicitDefEqProofs := false) (disch := first | assumption | (try simp only [lens]); omega -splitDisjunctions) [hin, hki, hkn, tabRowF, tabF_get, rowF_get])); all_goals try (repeat' ((first | ((with_reducible first | refine And.intro ?_ ?_ | refine Exists.intro ?_ ?_); first | omega | (simp <;> omega)) | (with_reducible refine spl (And.intro ?_ ?_) <;> intro _) | (refine CL.clo (fault_algebra _ _) ?_) | (refine CM.clo (fault_algebra _ _) ?_) | (refine CD.clo (fault_algebra _ _) ?_)) <;> ((try simp (implicitDefEqProofs := false) [hin, hki, hkn, tabRowF, tabF_get, rowF_get]); (try simp (implicitDefEqProofs := false) (disch := first | assumption | (try simp only [lens]); omega -splitDisjunctions) [hin, hki, hkn, tabRowF, tabF_get, rowF_get])))))
                  all_goals first | (exfalso; omega) | (simpa [tabRowF] using ih3; done) | (exfalso; simp_all; done)
            have m3 := main3 i 0 (by omega) (fun m hm => by omega)
            simpa using m3
        have m2 := main2 n 0 (by omega) (fun j hj => by omega)
        simpa using m2
      | succ k ih =>
        intro i hi hr
        have hlt : i < E.length := by omega
        rw [relBad_drop hlt] at hr
        have ih := ih (i + 1) (by omega)
        apply hQ
        clear hQ
        by_cases hok : relOK n E[i] = true
        · rw [if_pos hok] at hr
          have ih := ih hr
          simp [relOK] at hok
          (((try simp (implicitDefEqProofs := false) [hlt]); (try simp (implicitDefEqProofs := false) (disch := first | assumption | (try simp only [lens]); omega -splitDisjunctions) [hlt])); all_goals try (repeat' ((first | ((with_reducible first | refine And.intro ?_ ?_ | refine Exists.intro ?_ ?_); first | omega | (simp <;> omega)) | (with_reducible refine spl (And.intro ?_ ?_) <;> intro _) | (refine CL.clo (fault_algebra _ _) ?_) | (refine CM.clo (fault_algebra _ _) ?_) | (refine CD.clo (fault_algebra _ _) ?_)) <;> ((try simp (implicitDefEqProofs := false) [hlt]); (try simp (implicitDefEqProofs := false) (disch := first | assumption | (try simp only [lens]); omega -splitDisjunctions) [hlt])))))
          all_goals first | (exfalso; omega) | simpa using ih
        · rw [if_neg hok] at hr
          simp [relOK] at hok
          (((try simp (implicitDefEqProofs := false) [hlt]); (try simp (implicitDefEqProofs := false) (disch := first | assumption | (try simp only [lens]); omega -splitDisjunctions) [hlt])); all_goals try (repeat' ((first | ((with_reducible first | refine And.intro ?_ ?_ | refine Exists.intro ?_ ?_); first | omega | (simp <;> omega)) | (with_reducible refine spl (And.intro ?_ ?_) <;> intro _) | (refine CL.clo (fault_algebra _ _) ?_) | (refine CM.clo (fault_algebra _ _) ?_) | (refine CD.clo (fault_algebra _ _) ?_)) <;> ((try simp (implicitDefEqProofs := false) [hlt]); (try simp (implicitDefEqProofs := false) (disch := first | assumption | (try simp only [lens]); omega -splitDisjunctions) [hlt])))))
          all_goals first | (simp [hr]; done) | (exfalso; omega)
    refine at2 (main _ 0 (Nat.zero_add _) rfl) ?_ ?_ <;> simp
end Go.Proofs.Ythnobaacfjihcaa
