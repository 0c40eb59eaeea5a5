/-
  sequentlaw.TruthMade, told without memory.
-/
import Derived.Test.YtbmpmmbcfabeeaaTrK
namespace Go.Proofs.Ytbmpmmbcfabeeaa
open Go Go.Pv
set_option linter.unusedVariables false
set_option linter.unusedSimpArgs false
set_option maxRecDepth 100000
set_option maxHeartbeats 4000000

theorem plain_check {f : Fm} (h : (plainF f).1 = 0) : (formulaCheck f).1 = 0 := by
  have := (plainF_iff f).1 h
  exact (formulaCheck_iff f).2 ⟨this.1.1, this.2⟩
def x11_L4 : XC := .seq (.seq (.reg [⟨some 112,.move (.tmp 11),none⟩,⟨some 113,.fieldAddr 48 (.tmp 5) 0,none⟩,⟨some 114,.load 3 (.tmp 113),none⟩,⟨some 115,.binOp .shl 3 (.const (.int .i64 1)) (.tmp 114) 3,none⟩,⟨some 116,.binOp .lss 3 (.tmp 112) (.tmp 115) 3,none⟩]) (.cond (.tmp 116) (.skip) (.exit 4))) (.seq (.block 5 (.seq (.drawn 30 [⟨some 119,.fieldAddr 48 (.tmp 5) 1,none⟩,⟨some 120,.load 46 (.tmp 119),none⟩,⟨some 121,.move (.tmp 11),none⟩,⟨some 122,.indexAddr 46 (.tmp 120) (.tmp 121),none⟩,⟨some 123,.load 4 (.tmp 122),none⟩,⟨some 124,.load 24 (.tmp 2),none⟩,⟨some 125,.move (.tmp 1),none⟩,⟨some 126,.move (.tmp 11),none⟩,⟨some 127,.call ⟨.value (.func 57),#[.tmp 125,.tmp 126],#[53,3]⟩,none⟩,⟨some 128,.call ⟨.value (.func 56),#[.tmp 124,.tmp 127],#[24,53]⟩,none⟩,⟨some 129,.binOp .neq 4 (.tmp 123) (.tmp 128) 4,none⟩]) (.cond (.tmp 129) (.seq (.reg [⟨some 4,.assign (.const (.bool false)),none⟩]) (.ret)) (.skip)))) (.reg [⟨some 117,.move (.tmp 11),none⟩,⟨some 118,.binOp .add 3 (.tmp 117) (.const (.int .i64 1)) 3,none⟩,⟨some 11,.assign (.tmp 118),none⟩]))
def x11_T3 : XC := .seq (.seq (.reg [⟨some 83,.load 29 (.tmp 6),none⟩,⟨some 84,.load 29 (.tmp 7),none⟩,⟨some 85,.binOp .neq 29 (.tmp 83) (.tmp 84) 29,none⟩]) (.cond (.tmp 85) (.seq (.reg [⟨some 4,.assign (.const (.bool false)),none⟩]) (.ret)) (.skip))) (.seq (.seq (.reg [⟨some 86,.fieldAddr 29 (.tmp 7) 0,none⟩,⟨some 87,.load 3 (.tmp 86),none⟩,⟨some 88,.binOp .neq 3 (.tmp 87) (.const (.int .i64 0)) 3,none⟩]) (.cond (.tmp 88) (.seq (.reg [⟨some 89,.fieldAddr 48 (.tmp 5) 0,none⟩,⟨some 90,.load 3 (.tmp 89),none⟩,⟨some 91,.binOp .eql 3 (.tmp 90) (.const (.int .i64 0)) 3,none⟩,⟨some 92,.move (.tmp 91),none⟩,⟨some 93,.fieldAddr 48 (.tmp 5) 1,some (some 92,true)⟩,⟨some 94,.load 46 (.tmp 93),some (some 92,true)⟩,⟨some 95,.call ⟨.builtin .len,#[.tmp 94],#[46]⟩,some (some 92,true)⟩,⟨some 96,.binOp .eql 3 (.tmp 95) (.const (.int .i64 0)) 3,some (some 92,true)⟩,⟨some 97,.pick (.tmp 92) (.tmp 96) (.const (.bool false)),none⟩,⟨some 4,.assign (.tmp 97),none⟩]) (.ret)) (.skip))) (.seq (.seq (.drawn 25 [⟨some 98,.fieldAddr 48 (.tmp 5) 0,none⟩,⟨some 99,.load 3 (.tmp 98),none⟩,⟨some 100,.move (.tmp 1),none⟩,⟨some 101,.call ⟨.builtin .len,#[.tmp 100],#[53]⟩,none⟩,⟨some 102,.binOp .neq 3 (.tmp 99) (.tmp 101) 3,none⟩,⟨some 103,.move (.tmp 102),none⟩,⟨some 104,.fieldAddr 48 (.tmp 5) 1,some (some 103,false)⟩,⟨some 105,.load 46 (.tmp 104),some (some 103,false)⟩,⟨some 106,.call ⟨.builtin .len,#[.tmp 105],#[46]⟩,some (some 103,false)⟩,⟨some 107,.fieldAddr 48 (.tmp 5) 0,some (some 103,false)⟩,⟨some 108,.load 3 (.tmp 107),some (some 103,false)⟩,⟨some 109,.binOp .shl 3 (.const (.int .i64 1)) (.tmp 108) 3,some (some 103,false)⟩,⟨some 110,.binOp .neq 3 (.tmp 106) (.tmp 109) 3,some (some 103,false)⟩,⟨some 111,.pick (.tmp 103) (.const (.bool true)) (.tmp 110),none⟩]) (.cond (.tmp 111) (.seq (.reg [⟨some 4,.assign (.const (.bool false)),none⟩]) (.ret)) (.skip))) (.seq (.seq (.reg [⟨some 11,.assign (.const (.int .i64 0)),none⟩]) (.bloop 4 x11_L4)) (.seq (.reg [⟨some 4,.assign (.const (.bool true)),none⟩]) (.ret)))))
def x11_L2 : XC := .seq (.seq (.reg [⟨some 69,.move (.tmp 10),none⟩,⟨some 70,.move (.tmp 9),none⟩,⟨some 71,.call ⟨.builtin .len,#[.tmp 70],#[53]⟩,none⟩,⟨some 72,.binOp .lss 3 (.tmp 69) (.tmp 71) 3,none⟩]) (.cond (.tmp 72) (.skip) (.exit 2))) (.seq (.block 3 (.seq (.reg [⟨some 75,.move (.tmp 1),none⟩,⟨some 76,.move (.tmp 9),none⟩,⟨some 77,.move (.tmp 10),none⟩,⟨some 78,.indexAddr 53 (.tmp 76) (.tmp 77),none⟩,⟨some 79,.load 9 (.tmp 78),none⟩,⟨some 80,.call ⟨.value (.func 55),#[.tmp 75,.tmp 79],#[53,9]⟩,none⟩,⟨some 81,.unOp .not 4 (.tmp 80),none⟩]) (.cond (.tmp 81) (.reg [⟨some 82,.call ⟨.value (.func 48),#[.const (.int .i64 6),.const (.int .i64 0)],#[3,3]⟩,none⟩,⟨none,.store 29 (.tmp 7) (.tmp 82),none⟩]) (.skip)))) (.reg [⟨some 73,.move (.tmp 10),none⟩,⟨some 74,.binOp .add 3 (.tmp 73) (.const (.int .i64 1)) 3,none⟩,⟨some 10,.assign (.tmp 74),none⟩]))
def x11_T1 : XC := .seq (.seq (.reg [⟨some 63,.fieldAddr 29 (.tmp 7) 0,none⟩,⟨some 64,.load 3 (.tmp 63),none⟩,⟨some 65,.binOp .eql 3 (.tmp 64) (.const (.int .i64 0)) 3,none⟩]) (.cond (.tmp 65) (.seq (.reg [⟨some 66,.load 24 (.tmp 2),none⟩,⟨some 67,.buildSlice 22 1 #[(0,.tmp 66)],none⟩,⟨some 68,.call ⟨.value (.func 47),#[.tmp 67],#[22]⟩,none⟩,⟨some 9,.assign (.tmp 68),none⟩]) (.seq (.reg [⟨some 10,.assign (.const (.int .i64 0)),none⟩]) (.bloop 2 x11_L2))) (.skip))) (x11_T3)
def x11_L0 : XC := .seq (.seq (.reg [⟨some 34,.move (.tmp 8),none⟩,⟨some 35,.move (.tmp 1),none⟩,⟨some 36,.call ⟨.builtin .len,#[.tmp 35],#[53]⟩,none⟩,⟨some 37,.binOp .lss 3 (.tmp 34) (.tmp 36) 3,none⟩,⟨some 38,.move (.tmp 37),none⟩,⟨some 39,.fieldAddr 29 (.tmp 7) 0,some (some 38,true)⟩,⟨some 40,.load 3 (.tmp 39),some (some 38,true)⟩,⟨some 41,.binOp .eql 3 (.tmp 40) (.const (.int .i64 0)) 3,some (some 38,true)⟩,⟨some 42,.pick (.tmp 38) (.tmp 41) (.const (.bool false)),none⟩]) (.cond (.tmp 42) (.skip) (.exit 0))) (.seq (.block 1 (.seq (.drawn 12 [⟨some 45,.move (.tmp 1),none⟩,⟨some 46,.move (.tmp 8),none⟩,⟨some 47,.indexAddr 53 (.tmp 45) (.tmp 46),none⟩,⟨some 48,.load 9 (.tmp 47),none⟩,⟨some 49,.call ⟨.value (.func 32),#[.tmp 48],#[9]⟩,none⟩,⟨some 50,.unOp .not 4 (.tmp 49),none⟩,⟨some 51,.move (.tmp 50),none⟩,⟨some 52,.move (.tmp 1),some (some 51,false)⟩,⟨some 53,.move (.tmp 8),some (some 51,false)⟩,⟨some 54,.slice 53 (.tmp 52) none (some (.tmp 53)) none,some (some 51,false)⟩,⟨some 55,.move (.tmp 1),some (some 51,false)⟩,⟨some 56,.move (.tmp 8),some (some 51,false)⟩,⟨some 57,.indexAddr 53 (.tmp 55) (.tmp 56),some (some 51,false)⟩,⟨some 58,.load 9 (.tmp 57),some (some 51,false)⟩,⟨some 59,.call ⟨.value (.func 55),#[.tmp 54,.tmp 58],#[53,9]⟩,some (some 51,false)⟩,⟨some 60,.pick (.tmp 51) (.const (.bool true)) (.tmp 59),none⟩]) (.cond (.tmp 60) (.reg [⟨some 61,.move (.tmp 8),none⟩,⟨some 62,.call ⟨.value (.func 48),#[.const (.int .i64 8),.tmp 61],#[3,3]⟩,none⟩,⟨none,.store 29 (.tmp 7) (.tmp 62),none⟩]) (.skip)))) (.reg [⟨some 43,.move (.tmp 8),none⟩,⟨some 44,.binOp .add 3 (.tmp 43) (.const (.int .i64 1)) 3,none⟩,⟨some 8,.assign (.tmp 44),none⟩]))
def x11 : XC := .seq (.reg [⟨some 2,.box 24 (.tmp 0),none⟩,⟨some 4,.assign (.const (.bool false)),none⟩]) (.seq (.seq (.reg [⟨some 12,.call ⟨.value (.func 28),#[],#[]⟩,none⟩,⟨some 13,.unOp .not 4 (.tmp 12),none⟩]) (.cond (.tmp 13) (.seq (.reg [⟨some 4,.assign (.const (.bool false)),none⟩]) (.ret)) (.skip))) (.seq (.seq (.reg [⟨some 14,.load 24 (.tmp 2),none⟩,⟨some 15,.call ⟨.value (.func 16),#[.tmp 14,.const (.int .i64 0)],#[24,3]⟩,none⟩]) (.cond (.tmp 15) (.seq (.reg [⟨some 4,.assign (.const (.bool true)),none⟩]) (.ret)) (.skip))) (.seq (.reg [⟨some 17,.load 24 (.tmp 2),none⟩,⟨some 18,.move (.tmp 1),none⟩,⟨some 19,.call ⟨.value (.func 54),#[.tmp 17,.tmp 18],#[24,53]⟩,none⟩,⟨some 16,.move (.tmp 19),none⟩,⟨some 20,.extract (.tmp 16) 0,none⟩,⟨some 21,.extract (.tmp 16) 1,none⟩,⟨some 5,.alloc 48,none⟩,⟨some 6,.alloc 29,none⟩,⟨none,.store 48 (.tmp 5) (.tmp 20),none⟩,⟨none,.store 29 (.tmp 6) (.tmp 21),none⟩]) (.seq (.reg [⟨some 22,.load 24 (.tmp 2),none⟩,⟨some 23,.buildSlice 22 1 #[(0,.tmp 22)],none⟩,⟨some 24,.call ⟨.value (.func 31),#[.tmp 23],#[22]⟩,none⟩,⟨some 7,.alloc 29,none⟩,⟨none,.store 29 (.tmp 7) (.tmp 24),none⟩]) (.seq (.seq (.reg [⟨some 25,.fieldAddr 29 (.tmp 7) 0,none⟩,⟨some 26,.load 3 (.tmp 25),none⟩,⟨some 27,.binOp .eql 3 (.tmp 26) (.const (.int .i64 0)) 3,none⟩,⟨some 28,.move (.tmp 27),none⟩,⟨some 29,.move (.tmp 1),some (some 28,true)⟩,⟨some 30,.call ⟨.builtin .len,#[.tmp 29],#[53]⟩,some (some 28,true)⟩,⟨some 31,.binOp .gtr 3 (.tmp 30) (.const (.int .i64 4)) 3,some (some 28,true)⟩,⟨some 32,.pick (.tmp 28) (.tmp 31) (.const (.bool false)),none⟩]) (.cond (.tmp 32) (.reg [⟨some 33,.call ⟨.value (.func 48),#[.const (.int .i64 2),.const (.int .i64 0)],#[3,3]⟩,none⟩,⟨none,.store 29 (.tmp 7) (.tmp 33),none⟩]) (.skip))) (.seq (.seq (.reg [⟨some 8,.assign (.const (.int .i64 0)),none⟩]) (.bloop 0 x11_L0)) (x11_T1)))))))
@[simp] theorem x11_s {C : WC} {e : AE} {s : Store} {K : KS} : type_of% (@X_at C e s K _ _ x11_L4.eq_1) ∧ type_of% (@X_at C e s K _ _ x11_T3.eq_1) ∧ type_of% (@X_at C e s K _ _ x11_L2.eq_1) ∧ type_of% (@X_at C e s K _ _ x11_T1.eq_1) ∧ type_of% (@X_at C e s K _ _ x11_L0.eq_1) ∧ type_of% (@X_at C e s K _ _ x11.eq_1) := ⟨X_at x11_L4.eq_1, X_at x11_T3.eq_1, X_at x11_L2.eq_1, X_at x11_T1.eq_1, X_at x11_L0.eq_1, X_at x11.eq_1⟩
def an11 : Ann := ⟨[(12, .mix 14), (25, .mix 12), (30, .mix 10)], [(4, [], [1, 2, 5, 11], [4]), (2, [], [1, 2, 5, 6, 7, 9, 10], [1, 2, 5, 6, 7]), (0, [], [1, 2, 5, 6, 7, 8], [1, 2, 5, 6, 7])], []⟩
def cx11 (P : Program) (m : Nat) : WC := ⟨P, m, an11⟩
@[simp] theorem cx11_a {P : Program} {m : Nat} : (cx11 P m).P = P ∧ (cx11 P m).m = m ∧ (cx11 P m).A.clsOf 12 = .mix 14 ∧ (cx11 P m).A.clsOf 25 = .mix 12 ∧ (cx11 P m).A.clsOf 30 = .mix 10 ∧ (cx11 P m).A.frzOf 12 = [] ∧ (cx11 P m).A.frzOf 25 = [] ∧ (cx11 P m).A.frzOf 30 = [] ∧ (cx11 P m).A.loopOf 4 = ([], [1, 2, 5, 11], [4]) ∧ (cx11 P m).A.loopOf 2 = ([], [1, 2, 5, 6, 7, 9, 10], [1, 2, 5, 6, 7]) ∧ (cx11 P m).A.loopOf 0 = ([], [1, 2, 5, 6, 7, 8], [1, 2, 5, 6, 7]) := ⟨rfl, rfl, rfl, rfl, rfl, rfl, rfl, rfl, rfl, rfl, rfl⟩
instance {P : Program} {m f : Nat} [h : EnT P f] : EnT (cx11 P m).P f := h
theorem chk11 : ∀ c, Try.f11.body = some c → chkC Try.f11.ntmps an11 c = true := by intro c h; obtain rfl := Option.some.inj h; decide +kernel
theorem op11 {args : List PV} {v : PV} (h : X (cx11 Try.prog 0) x11 (argsA 0 args) [] (.fin [.tmp 4] fun v1 s1 => deref s1 6 v1 = v)) (hl : args.length ≤ Try.f11.ntmps := by rw [Try.ntmps11]; simp) : CallOK Try.prog 11 args [] v [] :=
  callX (m := 0) (cx11 Try.prog 0) x11 rfl rfl (by kernel_rfl) Try.func11 rfl rfl hl mixed (chk11 _ rfl) (by rw [Try.results11]; exact h)

theorem truthMade_law (f : Fm) (ns : List ByteArray) : CallOK Try.prog 11 [.agg (frm f), .list (ns.map strRow)] [] (.bool true) [] := by
  have hbg := truthBegun_law
  have hva := vast_ref f 0 (by omega) (by omega) []
  have hmd := Made_truth f ns
  have hpf := PlainFault_ref [f] (by simp)
  rw [plainL_one] at hpf
  simp only [List.map_cons, List.map_nil] at hpf
  refine op11 ?_
  generalize vastB f 0 = vb at *
  cases vb with
  | true => (((try simp (implicitDefEqProofs := false)); (try simp (implicitDefEqProofs := false) (disch := first | assumption | (try simp only [lens]); omega -splitDisjunctions))); all_goals try (repeat' ((first | ((with_reducible first | refine And.intro ?_ ?_ | refine Exists.intro ?_ ?_); first | omega | (simp <;> omega)) | (with_reducible refine spl (And.intro ?_ ?_) <;> intro _) | (refine CL.clo (hbg) ?_) | (refine CM.clo (hbg) ?_) | (refine CD.clo (hbg) ?_) | (refine CL.clo (hva) ?_) | (refine CM.clo (hva) ?_) | (refine CD.clo (hva) ?_)) <;> ((try simp (implicitDefEqProofs := false)); (try simp (implicitDefEqProofs := false) (disch := first | assumption | (try simp only [lens]); omega -splitDisjunctions))))))
  | false =>
    unfold madeN at hmd
    have hF := F_ref
    by_cases h1 : (plainF f).1 = 0
    · have hz := plainF_zero h1
      have hck := plain_check h1
      have hpl := ((plainF_iff f).1 h1).1
      have hV0 : madeV f ns = if 4 < ns.length then ([], (2, 0)) else match mdBad [] ns 0 with
        | some w => ([], w)
        | none => if subB (namesF f) ns = true then (rowsB ns f, (0, 0)) else ([], (6, 0)) := by unfold madeV; rw [if_neg (by simpa using h1)]; rfl
      generalize madeV f ns = V at *
      rw [hz] at hpf
      clear hz h1
      by_cases hl : 4 < ns.length
      · rw [if_pos hl] at hV0
        subst hV0
        have hli : (4 : Int) < (ns.length : Int) := by omega
        have h00 : 0 < ns.length := by omega
        simp only [show ¬ ((2 : Int) = 0) by decide, if_false, List.map_nil] at hmd
        (((try simp (implicitDefEqProofs := false)); (try simp (implicitDefEqProofs := false) (disch := first | assumption | (try simp only [lens]); omega -splitDisjunctions))); all_goals try (repeat' ((first | ((with_reducible first | refine And.intro ?_ ?_ | refine Exists.intro ?_ ?_); first | omega | (simp <;> omega)) | (with_reducible refine spl (And.intro ?_ ?_) <;> intro _) | (refine CL.clo (hbg) ?_) | (refine CM.clo (hbg) ?_) | (refine CD.clo (hbg) ?_) | (refine CL.clo (hva) ?_) | (refine CM.clo (hva) ?_) | (refine CD.clo (hva) ?_) | (refine CL.clo (hmd) ?_) | (refine CM.clo (hmd) ?_) | (refine CD.clo (hmd) ?_)) <;> ((try simp (implicitDefEqProofs := false)); (try simp (implicitDefEqProofs := false) (disch := first | assumption | (try simp only [lens]); omega -splitDisjunctions))))))
        refine CL.giv [3] ?_
        (((try simp (implicitDefEqProofs := false) [hli]); (try simp (implicitDefEqProofs := false) (disch := first | assumption | (try simp only [lens]); omega -splitDisjunctions) [hli])); all_goals try (repeat' ((first | ((with_reducible first | refine And.intro ?_ ?_ | refine Exists.intro ?_ ?_); first | omega | (simp <;> omega)) | (with_reducible refine spl (And.intro ?_ ?_) <;> intro _) | (refine CL.clo (hpf) ?_) | (refine CM.clo (hpf) ?_) | (refine CD.clo (hpf) ?_) | (refine CL.clo (hF 2 0) ?_) | (refine CM.clo (hF 2 0) ?_) | (refine CD.clo (hF 2 0) ?_)) <;> ((try simp (implicitDefEqProofs := false) [hli]); (try simp (implicitDefEqProofs := false) (disch := first | assumption | (try simp only [lens]); omega -splitDisjunctions) [hli])))))
        refine W_of fun Q hQ => ?_
        have q0 : Q [(1, .list (ns.map strRow)), (2, .ptr 0 0 0), (5, .ptr 1 0 0), (6, .ptr 2 0 0), (7, .ptr 3 0 0), (8, .int .i64 0)] [.rows 3 [frm f], .rows 2 [[.int .i64 0, .list ([])]], .rows 2 [[.int .i64 2, .int .i64 0]], .rows 2 [[.int .i64 2, .int .i64 0]]] := by
          apply hQ
          (((try simp (implicitDefEqProofs := false) [h00]); (try simp (implicitDefEqProofs := false) (disch := first | assumption | (try simp only [lens]); omega -splitDisjunctions) [h00])); all_goals try (repeat' ((first | ((with_reducible first | refine And.intro ?_ ?_ | refine Exists.intro ?_ ?_); first | omega | (simp <;> omega)) | (with_reducible refine spl (And.intro ?_ ?_) <;> intro _)) <;> ((try simp (implicitDefEqProofs := false) [h00]); (try simp (implicitDefEqProofs := false) (disch := first | assumption | (try simp only [lens]); omega -splitDisjunctions) [h00])))))
        exact q0
      · rw [if_neg hl] at hV0
        have hli : ¬ (4 : Int) < (ns.length : Int) := by omega
        (((try simp (implicitDefEqProofs := false)); (try simp (implicitDefEqProofs := false) (disch := first | assumption | (try simp only [lens]); omega -splitDisjunctions))); all_goals try (repeat' ((first | ((with_reducible first | refine And.intro ?_ ?_ | refine Exists.intro ?_ ?_); first | omega | (simp <;> omega)) | (with_reducible refine spl (And.intro ?_ ?_) <;> intro _) | (refine CL.clo (hbg) ?_) | (refine CM.clo (hbg) ?_) | (refine CD.clo (hbg) ?_) | (refine CL.clo (hva) ?_) | (refine CM.clo (hva) ?_) | (refine CD.clo (hva) ?_) | (refine CL.clo (hmd) ?_) | (refine CM.clo (hmd) ?_) | (refine CD.clo (hmd) ?_)) <;> ((try simp (implicitDefEqProofs := false)); (try simp (implicitDefEqProofs := false) (disch := first | assumption | (try simp only [lens]); omega -splitDisjunctions))))))
        refine CL.giv [3] ?_
        (((try simp (implicitDefEqProofs := false) [hli]); (try simp (implicitDefEqProofs := false) (disch := first | assumption | (try simp only [lens]); omega -splitDisjunctions) [hli])); all_goals try (repeat' ((first | ((with_reducible first | refine And.intro ?_ ?_ | refine Exists.intro ?_ ?_); first | omega | (simp <;> omega)) | (with_reducible refine spl (And.intro ?_ ?_) <;> intro _) | (refine CL.clo (hpf) ?_) | (refine CM.clo (hpf) ?_) | (refine CD.clo (hpf) ?_)) <;> ((try simp (implicitDefEqProofs := false) [hli]); (try simp (implicitDefEqProofs := false) (disch := first | assumption | (try simp only [lens]); omega -splitDisjunctions) [hli])))))
        clear hpf hbg hva hmd
        refine W_of fun Q hQ => ?_
        have main : ∀ r i, i + r = ns.length → mdBad [] ns 0 = mdBad (ns.take i) (ns.drop i) i → Q [(1, .list (ns.map strRow)), (2, .ptr 0 0 0), (5, .ptr 1 0 0), (6, .ptr 2 0 0), (7, .ptr 3 0 0), (8, .int .i64 (i : Int))] [.rows 3 [frm f], .rows 2 [[.int .i64 (if V.2.1 = 0 then (ns.length : Int) else 0), .list (V.1.map boolRow)]], .rows 2 [[.int .i64 V.2.1, .int .i64 V.2.2]], .rows 2 [[.int .i64 0, .int .i64 0]]] := by
          intro r
          induction r with
          | zero =>
            intro i hi hb
            rw [List.drop_of_length_le (by omega), mdBad] at hb
            have hnd := (mdBad_nodup _ _ _ hb).1
            rw [hb] at hV0
            dsimp only at hV0
            have hni := NamesIn_ref f
            rw [namesIn_eq hck] at hni
            generalize namesF f = M at *
            have hii : ¬ i < ns.length := by omega
            apply hQ
            clear hQ
            (((try simp (implicitDefEqProofs := false) [hii]); (try simp (implicitDefEqProofs := false) (disch := first | assumption | (try simp only [lens]); omega -splitDisjunctions) [hii])); all_goals try (repeat' ((first | ((with_reducible first | refine And.intro ?_ ?_ | refine Exists.intro ?_ ?_); first | omega | (simp <;> omega)) | (with_reducible refine spl (And.intro ?_ ?_) <;> intro _)) <;> ((try simp (implicitDefEqProofs := false) [hii]); (try simp (implicitDefEqProofs := false) (disch := first | assumption | (try simp only [lens]); omega -splitDisjunctions) [hii])))))
            refine CL.giv [4] ?_
            (((try simp (implicitDefEqProofs := false)); (try simp (implicitDefEqProofs := false) (disch := first | assumption | (try simp only [lens]); omega -splitDisjunctions))); all_goals try (repeat' ((first | ((with_reducible first | refine And.intro ?_ ?_ | refine Exists.intro ?_ ?_); first | omega | (simp <;> omega)) | (with_reducible refine spl (And.intro ?_ ?_) <;> intro _) | (refine CL.clo (hni) ?_) | (refine CM.clo (hni) ?_) | (refine CD.clo (hni) ?_)) <;> ((try simp (implicitDefEqProofs := false)); (try simp (implicitDefEqProofs := false) (disch := first | assumption | (try simp only [lens]); omega -splitDisjunctions))))))
            clear hni
            refine W_of fun Q2 hQ2 => ?_
            have main2 : ∀ r j (b : Bool), j + r = M.length → subB M ns = (b && subB (M.drop j) ns) → Q2 [(1, .list (ns.map strRow)), (2, .ptr 0 0 0), (5, .ptr 1 0 0), (6, .ptr 2 0 0), (7, .ptr 3 0 0), (9, .list (M.map strRow)), (10, .int .i64 (j : Int))] [.rows 3 [frm f], .rows 2 [[.int .i64 (if V.2.1 = 0 then (ns.length : Int) else 0), .list (V.1.map boolRow)]], .rows 2 [[.int .i64 V.2.1, .int .i64 V.2.2]], .rows 2 [[.int .i64 (if b = true then 0 else 6), .int .i64 0]]] := by
              intro r
              induction r with
              | zero =>
                intro j b hj hs
                rw [List.drop_of_length_le (by omega)] at hs
                rw [show subB ([] : List ByteArray) ns = true from rfl, Bool.and_true] at hs
                rw [hs] at hV0
                cases b with
                | false =>
                  rw [if_neg (by simp)] at hV0
                  subst hV0
                  apply hQ2
                  clear hQ2
                  (((try simp (implicitDefEqProofs := false)); (try simp (implicitDefEqProofs := false) (disch := first | assumption | (try simp only [lens]); omega -splitDisjunctions))); all_goals try (repeat' ((first | ((with_reducible first | refine And.intro ?_ ?_ | refine Exists.intro ?_ ?_); first | omega | (simp <;> omega)) | (with_reducible refine spl (And.intro ?_ ?_) <;> intro _)) <;> ((try simp (implicitDefEqProofs := false)); (try simp (implicitDefEqProofs := false) (disch := first | assumption | (try simp only [lens]); omega -splitDisjunctions))))))
                | true =>
                  rw [if_pos rfl] at hV0
                  have hbl : (rowsB ns f).length = 2 ^ ns.length := by simp [rowsB]
                  have hbg : ∀ k (h : k < (rowsB ns f).length), (rowsB ns f)[k] = tv (fun x => memB x (rowL ns k)) f := fun k h => by simp [rowsB]
                  have hM : 1 ≤ 2 ^ ns.length ∧ 2 ^ ns.length ≤ 16 := ⟨Nat.one_le_two_pow, Nat.le_trans (Nat.pow_le_pow_right (by decide) (show ns.length ≤ 4 by omega)) (by decide)⟩
                  generalize rowsB ns f = B at *
                  subst hV0
                  have hsh := shl_nat ns.length (by omega)
                  generalize 2 ^ ns.length = Z at *
                  have hl0 : ¬ ((ns.length : Int) < 0) := by omega
                  apply hQ2
                  clear hQ2
                  (((try simp (implicitDefEqProofs := false) [hsh, hl0, hbl]); (try simp (implicitDefEqProofs := false) (disch := first | assumption | (try simp only [lens]); omega -splitDisjunctions) [hsh, hl0, hbl])); all_goals try (repeat' ((first | ((with_reducible first | refine And.intro ?_ ?_ | refine Exists.intro ?_ ?_); first | omega | (simp <;> omega)) | (with_reducible refine spl (And.intro ?_ ?_) <;> intro _)) <;> ((try simp (implicitDefEqProofs := false) [hsh, hl0, hbl]); (try simp (implicitDefEqProofs := false) (disch := first | assumption | (try simp only [lens]); omega -splitDisjunctions) [hsh, hl0, hbl])))))
                  refine W_of fun Q4 hQ4 => ?_
                  have main4 : ∀ r k, k + r = Z → Q4 [(1, .list (ns.map strRow)), (2, .ptr 0 0 0), (5, .ptr 1 0 0), (11, .int .i64 (k : Int))] [.rows 3 [frm f], .rows 2 [[.int .i64 ns.length, .list (B.map boolRow)]]] := by
                    intro r
                    induction r with
                    | zero =>
                      intro k hk
                      obtain rfl : k = Z := by omega
                      apply hQ4
                      clear hQ4
                      (((try simp (implicitDefEqProofs := false) [hsh, hl0]); (try simp (implicitDefEqProofs := false) (disch := first | assumption | (try simp only [lens]); omega -splitDisjunctions) [hsh, hl0])); all_goals try (repeat' ((first | ((with_reducible first | refine And.intro ?_ ?_ | refine Exists.intro ?_ ?_); first | omega | (simp <;> omega)) | (with_reducible refine spl (And.intro ?_ ?_) <;> intro _)) <;> ((try simp (implicitDefEqProofs := false) [hsh, hl0]); (try simp (implicitDefEqProofs := false) (disch := first | assumption | (try simp only [lens]); omega -splitDisjunctions) [hsh, hl0])))))
                    | succ r ih4 =>
                      intro k hk
                      have ih4 := ih4 (k + 1) (by omega)
                      have hkZ : k < Z := by omega
                      have hkB : k < B.length := by omega
                      have hro := Row_ref ns (by omega) k (by omega)
                      have htr := True_ref (rowL ns k) f hpl
                      rw [← hbg k hkB] at htr
                      generalize rowL ns k = R at *
                      generalize hx : B[k] = x at *
                      apply hQ4
                      clear hQ4
                      (((try simp (implicitDefEqProofs := false) [hsh, hl0, hkZ, hkB, hx]); (try simp (implicitDefEqProofs := false) (disch := first | assumption | (try simp only [lens]); omega -splitDisjunctions) [hsh, hl0, hkZ, hkB, hx])); all_goals try (repeat' ((first | ((with_reducible first | refine And.intro ?_ ?_ | refine Exists.intro ?_ ?_); first | omega | (simp <;> omega)) | (with_reducible refine spl (And.intro ?_ ?_) <;> intro _) | (refine CL.clo (hro) ?_) | (refine CM.clo (hro) ?_) | (refine CD.clo (hro) ?_) | (refine CL.clo (htr) ?_) | (refine CM.clo (htr) ?_) | (refine CD.clo (htr) ?_)) <;> ((try simp (implicitDefEqProofs := false) [hsh, hl0, hkZ, hkB, hx]); (try simp (implicitDefEqProofs := false) (disch := first | assumption | (try simp only [lens]); omega -splitDisjunctions) [hsh, hl0, hkZ, hkB, hx])))))
                      all_goals first | exact ih4 | (refine at2 ih4 ?_ ?_ <;> simp; done) | (exfalso; first | omega | (simp_all; done) | (simp_all; omega))
                  all_goals first | exact main4 _ 0 (Nat.zero_add _) | (refine at2 main4 _ 0 (Nat.zero_add _) ?_ ?_ <;> simp; done) | (exfalso; first | omega | (simp_all; done) | (simp_all; omega))
              | succ r ih2 =>
                intro j b hj hs
                have hjl : j < M.length := by omega
                have ih2 := fun b => ih2 (j + 1) b (by omega)
                have hct := HasText_ref ns M[j]
                rw [subB_drop hjl, ← Bool.and_assoc] at hs
                have ih2 := ih2 _ hs
                generalize memB M[j] ns = x at *
                apply hQ2
                clear hQ2
                cases x with
                | false =>
                  (((try simp (implicitDefEqProofs := false) [hjl]); (try simp (implicitDefEqProofs := false) (disch := first | assumption | (try simp only [lens]); omega -splitDisjunctions) [hjl])); all_goals try (repeat' ((first | ((with_reducible first | refine And.intro ?_ ?_ | refine Exists.intro ?_ ?_); first | omega | (simp <;> omega)) | (with_reducible refine spl (And.intro ?_ ?_) <;> intro _) | (refine CL.clo (hct) ?_) | (refine CM.clo (hct) ?_) | (refine CD.clo (hct) ?_) | (refine CL.clo (hF 6 0) ?_) | (refine CM.clo (hF 6 0) ?_) | (refine CD.clo (hF 6 0) ?_)) <;> ((try simp (implicitDefEqProofs := false) [hjl]); (try simp (implicitDefEqProofs := false) (disch := first | assumption | (try simp only [lens]); omega -splitDisjunctions) [hjl])))))
                  all_goals exact at2 ih2 (by simp) (by simp)
                | true =>
                  (((try simp (implicitDefEqProofs := false) [hjl]); (try simp (implicitDefEqProofs := false) (disch := first | assumption | (try simp only [lens]); omega -splitDisjunctions) [hjl])); all_goals try (repeat' ((first | ((with_reducible first | refine And.intro ?_ ?_ | refine Exists.intro ?_ ?_); first | omega | (simp <;> omega)) | (with_reducible refine spl (And.intro ?_ ?_) <;> intro _) | (refine CL.clo (hct) ?_) | (refine CM.clo (hct) ?_) | (refine CD.clo (hct) ?_)) <;> ((try simp (implicitDefEqProofs := false) [hjl]); (try simp (implicitDefEqProofs := false) (disch := first | assumption | (try simp only [lens]); omega -splitDisjunctions) [hjl])))))
                  all_goals exact at2 ih2 (by simp) (by simp)
            refine at2 (main2 _ 0 true (Nat.zero_add _) (by simp)) ?_ ?_ <;> simp
          | succ r ih =>
            intro i hi hb
            have hih : i < ns.length := by omega
            have ih := ih (i + 1) (by omega)
            have hn := IsName_ref ns[i]
            have hct := HasText_ref (ns.take i) ns[i]
            rw [List.map_take] at hct
            rw [mdBad_drop hih] at hb
            have qbad : mdBad [] ns 0 = some (8, (i : Int)) → Q [(1, .list (ns.map strRow)), (2, .ptr 0 0 0), (5, .ptr 1 0 0), (6, .ptr 2 0 0), (7, .ptr 3 0 0), (8, .int .i64 ((i + 1 : Nat) : Int))] [.rows 3 [frm f], .rows 2 [[.int .i64 (if V.2.1 = 0 then (ns.length : Int) else 0), .list (V.1.map boolRow)]], .rows 2 [[.int .i64 V.2.1, .int .i64 V.2.2]], .rows 2 [[.int .i64 8, .int .i64 (i : Int)]]] := by
              intro hb
              rw [hb] at hV0
              dsimp only at hV0
              subst hV0
              apply hQ
              clear hQ
              by_cases hi1 : i + 1 < ns.length
              · have hi1i : (i : Int) + 1 < (ns.length : Int) := by omega
                (((try simp (implicitDefEqProofs := false) [hi1, hi1i]); (try simp (implicitDefEqProofs := false) (disch := first | assumption | (try simp only [lens]); omega -splitDisjunctions) [hi1, hi1i])); all_goals try (repeat' ((first | ((with_reducible first | refine And.intro ?_ ?_ | refine Exists.intro ?_ ?_); first | omega | (simp <;> omega)) | (with_reducible refine spl (And.intro ?_ ?_) <;> intro _)) <;> ((try simp (implicitDefEqProofs := false) [hi1, hi1i]); (try simp (implicitDefEqProofs := false) (disch := first | assumption | (try simp only [lens]); omega -splitDisjunctions) [hi1, hi1i])))))
              · have hi1i : ¬ (i : Int) + 1 < (ns.length : Int) := by omega
                (((try simp (implicitDefEqProofs := false) [hi1, hi1i]); (try simp (implicitDefEqProofs := false) (disch := first | assumption | (try simp only [lens]); omega -splitDisjunctions) [hi1, hi1i])); all_goals try (repeat' ((first | ((with_reducible first | refine And.intro ?_ ?_ | refine Exists.intro ?_ ?_); first | omega | (simp <;> omega)) | (with_reducible refine spl (And.intro ?_ ?_) <;> intro _)) <;> ((try simp (implicitDefEqProofs := false) [hi1, hi1i]); (try simp (implicitDefEqProofs := false) (disch := first | assumption | (try simp only [lens]); omega -splitDisjunctions) [hi1, hi1i])))))
            cases hx : isNameB ns[i] with
            | false =>
              rw [hx] at hb hn
              rw [if_neg (by simp)] at hb
              have qbad := qbad hb
              apply hQ
              clear hQ
              (((try simp (implicitDefEqProofs := false) [hih]); (try simp (implicitDefEqProofs := false) (disch := first | assumption | (try simp only [lens]); omega -splitDisjunctions) [hih])); all_goals try (repeat' ((first | ((with_reducible first | refine And.intro ?_ ?_ | refine Exists.intro ?_ ?_); first | omega | (simp <;> omega)) | (with_reducible refine spl (And.intro ?_ ?_) <;> intro _) | (refine CL.clo (hn) ?_) | (refine CM.clo (hn) ?_) | (refine CD.clo (hn) ?_) | (refine CL.clo (hF 8 _) ?_) | (refine CM.clo (hF 8 _) ?_) | (refine CD.clo (hF 8 _) ?_)) <;> ((try simp (implicitDefEqProofs := false) [hih]); (try simp (implicitDefEqProofs := false) (disch := first | assumption | (try simp only [lens]); omega -splitDisjunctions) [hih])))))
              all_goals first | exact qbad | (refine at2 qbad ?_ ?_ <;> simp; done) | (exfalso; first | omega | (simp_all; done) | (simp_all; omega))
            | true =>
              rw [hx] at hb hn
              cases hy : memB ns[i] (ns.take i) with
              | true =>
                rw [hy] at hb hct
                rw [if_neg (by simp)] at hb
                have qbad := qbad hb
                apply hQ
                clear hQ
                (((try simp (implicitDefEqProofs := false) [hih]); (try simp (implicitDefEqProofs := false) (disch := first | assumption | (try simp only [lens]); omega -splitDisjunctions) [hih])); all_goals try (repeat' ((first | ((with_reducible first | refine And.intro ?_ ?_ | refine Exists.intro ?_ ?_); first | omega | (simp <;> omega)) | (with_reducible refine spl (And.intro ?_ ?_) <;> intro _) | (refine CL.clo (hn) ?_) | (refine CM.clo (hn) ?_) | (refine CD.clo (hn) ?_) | (refine CL.clo (hct) ?_) | (refine CM.clo (hct) ?_) | (refine CD.clo (hct) ?_) | (refine CL.clo (hF 8 _) ?_) | (refine CM.clo (hF 8 _) ?_) | (refine CD.clo (hF 8 _) ?_)) <;> ((try simp (implicitDefEqProofs := false) [hih]); (try simp (implicitDefEqProofs := false) (disch := first | assumption | (try simp only [lens]); omega -splitDisjunctions) [hih])))))
                all_goals first | exact qbad | (refine at2 qbad ?_ ?_ <;> simp; done) | (exfalso; first | omega | (simp_all; done) | (simp_all; omega))
              | false =>
                rw [hy] at hb hct
                rw [if_pos (by simp)] at hb
                have ih := ih hb
                apply hQ
                clear hQ
                (((try simp (implicitDefEqProofs := false) [hih]); (try simp (implicitDefEqProofs := false) (disch := first | assumption | (try simp only [lens]); omega -splitDisjunctions) [hih])); all_goals try (repeat' ((first | ((with_reducible first | refine And.intro ?_ ?_ | refine Exists.intro ?_ ?_); first | omega | (simp <;> omega)) | (with_reducible refine spl (And.intro ?_ ?_) <;> intro _) | (refine CL.clo (hn) ?_) | (refine CM.clo (hn) ?_) | (refine CD.clo (hn) ?_) | (refine CL.clo (hct) ?_) | (refine CM.clo (hct) ?_) | (refine CD.clo (hct) ?_)) <;> ((try simp (implicitDefEqProofs := false) [hih]); (try simp (implicitDefEqProofs := false) (disch := first | assumption | (try simp only [lens]); omega -splitDisjunctions) [hih])))))
                all_goals first | exact ih | (refine at2 ih ?_ ?_ <;> simp; done) | (exfalso; first | omega | (simp_all; done) | (simp_all; omega))
        all_goals first | exact main _ 0 (Nat.zero_add _) rfl | (refine at2 main _ 0 (Nat.zero_add _) rfl ?_ ?_ <;> simp; done) | (exfalso; first | omega | (simp_all; done) | (simp_all; omega))
    · have hV : madeV f ns = ([], plainF f) := by unfold madeV; rw [if_pos (by simpa using h1)]
      rw [hV] at hmd
      simp only [h1, if_false, List.map_nil] at hmd
      generalize plainF f = w at *
      (((try simp (implicitDefEqProofs := false)); (try simp (implicitDefEqProofs := false) (disch := first | assumption | (try simp only [lens]); omega -splitDisjunctions))); all_goals try (repeat' ((first | ((with_reducible first | refine And.intro ?_ ?_ | refine Exists.intro ?_ ?_); first | omega | (simp <;> omega)) | (with_reducible refine spl (And.intro ?_ ?_) <;> intro _) | (refine CL.clo (hbg) ?_) | (refine CM.clo (hbg) ?_) | (refine CD.clo (hbg) ?_) | (refine CL.clo (hva) ?_) | (refine CM.clo (hva) ?_) | (refine CD.clo (hva) ?_) | (refine CL.clo (hmd) ?_) | (refine CM.clo (hmd) ?_) | (refine CD.clo (hmd) ?_)) <;> ((try simp (implicitDefEqProofs := false)); (try simp (implicitDefEqProofs := false) (disch := first | assumption | (try simp only [lens]); omega -splitDisjunctions))))))
      refine CL.giv [3] ?_
      (((try simp (implicitDefEqProofs := false) [h1]); (try simp (implicitDefEqProofs := false) (disch := first | assumption | (try simp only [lens]); omega -splitDisjunctions) [h1])); all_goals try (repeat' ((first | ((with_reducible first | refine And.intro ?_ ?_ | refine Exists.intro ?_ ?_); first | omega | (simp <;> omega)) | (with_reducible refine spl (And.intro ?_ ?_) <;> intro _) | (refine CL.clo (hpf) ?_) | (refine CM.clo (hpf) ?_) | (refine CD.clo (hpf) ?_)) <;> ((try simp (implicitDefEqProofs := false) [h1]); (try simp (implicitDefEqProofs := false) (disch := first | assumption | (try simp only [lens]); omega -splitDisjunctions) [h1])))))
      refine W_of fun Q hQ => ?_
      have q0 : Q [(1, .list (ns.map strRow)), (2, .ptr 0 0 0), (5, .ptr 1 0 0), (6, .ptr 2 0 0), (7, .ptr 3 0 0), (8, .int .i64 0)] [.rows 3 [frm f], .rows 2 [[.int .i64 0, .list ([])]], .rows 2 [[.int .i64 w.1, .int .i64 w.2]], .rows 2 [[.int .i64 w.1, .int .i64 w.2]]] := by
        apply hQ
        by_cases hi1 : 0 < ns.length
        · (((try simp (implicitDefEqProofs := false) [hi1, h1]); (try simp (implicitDefEqProofs := false) (disch := first | assumption | (try simp only [lens]); omega -splitDisjunctions) [hi1, h1])); all_goals try (repeat' ((first | ((with_reducible first | refine And.intro ?_ ?_ | refine Exists.intro ?_ ?_); first | omega | (simp <;> omega)) | (with_reducible refine spl (And.intro ?_ ?_) <;> intro _)) <;> ((try simp (implicitDefEqProofs := false) [hi1, h1]); (try simp (implicitDefEqProofs := false) (disch := first | assumption | (try simp only [lens]); omega -splitDisjunctions) [hi1, h1])))))
        · (((try simp (implicitDefEqProofs := false) [hi1, h1]); (try simp (implicitDefEqProofs := false) (disch := first | assumption | (try simp only [lens]); omega -splitDisjunctions) [hi1, h1])); all_goals try (repeat' ((first | ((with_reducible first | refine And.intro ?_ ?_ | refine Exists.intro ?_ ?_); first | omega | (simp <;> omega)) | (with_reducible refine spl (And.intro ?_ ?_) <;> intro _)) <;> ((try simp (implicitDefEqProofs := false) [hi1, h1]); (try simp (implicitDefEqProofs := false) (disch := first | assumption | (try simp only [lens]); omega -splitDisjunctions) [hi1, h1])))))
      exact q0
end Go.Proofs.Ytbmpmmbcfabeeaa
