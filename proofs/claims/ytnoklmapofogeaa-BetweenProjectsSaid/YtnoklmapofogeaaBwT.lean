/-
  sequentlaw.BetweenProjects, told without memory.
-/
import Derived.Test.YtnoklmapofogeaaBwS
namespace Go.Proofs.Ytnoklmapofogeaa
open Go Go.Pv
set_option linter.unusedVariables false
set_option linter.unusedSimpArgs false
set_option maxRecDepth 100000
set_option maxHeartbeats 4000000

theorem own_strs (ns : List ByteArray) : ns.length * 16 ≤ 140737488351232 → (ns.length : Int) * 16 ≤ 140737488351232 := by omega
theorem range_any_succ {p : Nat → Bool} (m : Nat) : (List.range (m + 1)).any p = ((List.range m).any p || p m) := by
  rw [List.range_succ, List.any_append]; simp
theorem rowL_len : ∀ (ns : List ByteArray) (k : Nat), (rowL ns k).length ≤ ns.length
  | [], k => Nat.le_refl _
  | a :: r, k => by
    have := rowL_len r (k / 2)
    rw [rowL]
    split <;> simp <;> omega
def x8_T4 : XC := .seq (.reg [⟨some 110,.load 24 (.tmp 5),none⟩,⟨some 111,.move (.tmp 12),none⟩,⟨some 112,.call ⟨.value (.func 44),#[.tmp 110,.tmp 111],#[24,35]⟩,none⟩,⟨some 113,.move (.tmp 13),none⟩,⟨some 114,.binOp .neq 4 (.tmp 112) (.tmp 113) 4,none⟩]) (.cond (.tmp 114) (.seq (.reg [⟨some 4,.assign (.const (.bool false)),none⟩]) (.ret)) (.skip))
def x8_L4 : XC := .seq (.seq (.reg [⟨some 87,.move (.tmp 14),none⟩,⟨some 88,.move (.tmp 9),none⟩,⟨some 89,.call ⟨.builtin .len,#[.tmp 88],#[35]⟩,none⟩,⟨some 90,.binOp .shl 3 (.const (.int .i64 1)) (.tmp 89) 3,none⟩,⟨some 91,.binOp .lss 3 (.tmp 87) (.tmp 90) 3,none⟩]) (.cond (.tmp 91) (.skip) (.exit 4))) (.seq (.block 5 (.seq (.reg [⟨some 94,.move (.tmp 9),none⟩,⟨some 95,.move (.tmp 14),none⟩,⟨some 96,.call ⟨.value (.func 43),#[.tmp 94,.tmp 95],#[35,3]⟩,none⟩,⟨some 15,.assign (.tmp 96),none⟩]) (.reg [⟨some 97,.move (.tmp 13),none⟩,⟨some 98,.move (.tmp 97),none⟩,⟨some 99,.load 24 (.tmp 2),some (some 98,false)⟩,⟨some 100,.move (.tmp 15),some (some 98,false)⟩,⟨some 101,.call ⟨.value (.func 44),#[.tmp 99,.tmp 100],#[24,35]⟩,some (some 98,false)⟩,⟨some 102,.move (.tmp 101),some (some 98,false)⟩,⟨some 103,.move (.tmp 15),some (some 102,true)⟩,⟨some 104,.move (.tmp 10),some (some 102,true)⟩,⟨some 105,.call ⟨.value (.func 41),#[.tmp 103,.tmp 104],#[35,35]⟩,some (some 102,true)⟩,⟨some 106,.move (.tmp 12),some (some 102,true)⟩,⟨some 107,.call ⟨.value (.func 45),#[.tmp 105,.tmp 106],#[35,35]⟩,some (some 102,true)⟩,⟨some 108,.pick (.tmp 102) (.tmp 107) (.const (.bool false)),some (some 98,false)⟩,⟨some 109,.pick (.tmp 98) (.const (.bool true)) (.tmp 108),none⟩,⟨some 13,.assign (.tmp 109),none⟩]))) (.reg [⟨some 92,.move (.tmp 14),none⟩,⟨some 93,.binOp .add 3 (.tmp 92) (.const (.int .i64 1)) 3,none⟩,⟨some 14,.assign (.tmp 93),none⟩]))
def x8_L2 : XC := .seq (.seq (.reg [⟨some 77,.move (.tmp 11),none⟩,⟨some 78,.move (.tmp 10),none⟩,⟨some 79,.call ⟨.builtin .len,#[.tmp 78],#[35]⟩,none⟩,⟨some 80,.binOp .shl 3 (.const (.int .i64 1)) (.tmp 79) 3,none⟩,⟨some 81,.binOp .lss 3 (.tmp 77) (.tmp 80) 3,none⟩]) (.cond (.tmp 81) (.skip) (.exit 2))) (.seq (.block 3 (.seq (.reg [⟨some 84,.move (.tmp 10),none⟩,⟨some 85,.move (.tmp 11),none⟩,⟨some 86,.call ⟨.value (.func 43),#[.tmp 84,.tmp 85],#[35,3]⟩,none⟩,⟨some 12,.assign (.tmp 86),none⟩]) (.seq (.reg [⟨some 13,.assign (.const (.bool false)),none⟩]) (.seq (.seq (.reg [⟨some 14,.assign (.const (.int .i64 0)),none⟩]) (.bloop 4 x8_L4)) (x8_T4))))) (.reg [⟨some 82,.move (.tmp 11),none⟩,⟨some 83,.binOp .add 3 (.tmp 82) (.const (.int .i64 1)) 3,none⟩,⟨some 11,.assign (.tmp 83),none⟩]))
def x8_T1 : XC := .seq (.seq (.reg [⟨some 59,.load 33 (.tmp 6),none⟩,⟨some 60,.load 33 (.tmp 7),none⟩,⟨some 61,.binOp .neq 33 (.tmp 59) (.tmp 60) 33,none⟩]) (.cond (.tmp 61) (.seq (.reg [⟨some 4,.assign (.const (.bool false)),none⟩]) (.ret)) (.skip))) (.seq (.seq (.reg [⟨some 62,.fieldAddr 33 (.tmp 7) 0,none⟩,⟨some 63,.load 3 (.tmp 62),none⟩,⟨some 64,.binOp .neq 3 (.tmp 63) (.const (.int .i64 0)) 3,none⟩]) (.cond (.tmp 64) (.seq (.reg [⟨some 65,.load 24 (.tmp 5),none⟩,⟨some 66,.call ⟨.value (.func 39),#[.tmp 65],#[24]⟩,none⟩,⟨some 4,.assign (.tmp 66),none⟩]) (.ret)) (.skip))) (.seq (.reg [⟨some 67,.load 24 (.tmp 2),none⟩,⟨some 68,.buildSlice 22 1 #[(0,.tmp 67)],none⟩,⟨some 69,.call ⟨.value (.func 17),#[.tmp 68],#[22]⟩,none⟩,⟨some 9,.assign (.tmp 69),none⟩]) (.seq (.reg [⟨some 70,.move (.tmp 9),none⟩,⟨some 71,.move (.tmp 1),none⟩,⟨some 72,.call ⟨.value (.func 41),#[.tmp 70,.tmp 71],#[35,35]⟩,none⟩,⟨some 10,.assign (.tmp 72),none⟩]) (.seq (.seq (.reg [⟨some 73,.load 24 (.tmp 5),none⟩,⟨some 74,.move (.tmp 10),none⟩,⟨some 75,.call ⟨.value (.func 40),#[.tmp 73,.tmp 74],#[24,35]⟩,none⟩,⟨some 76,.unOp .not 4 (.tmp 75),none⟩]) (.cond (.tmp 76) (.seq (.reg [⟨some 4,.assign (.const (.bool false)),none⟩]) (.ret)) (.skip))) (.seq (.seq (.reg [⟨some 11,.assign (.const (.int .i64 0)),none⟩]) (.bloop 2 x8_L2)) (.seq (.reg [⟨some 4,.assign (.const (.bool true)),none⟩]) (.ret)))))))
def x8_L0 : XC := .seq (.seq (.reg [⟨some 40,.move (.tmp 8),none⟩,⟨some 41,.move (.tmp 1),none⟩,⟨some 42,.call ⟨.builtin .len,#[.tmp 41],#[35]⟩,none⟩,⟨some 43,.binOp .lss 3 (.tmp 40) (.tmp 42) 3,none⟩,⟨some 44,.move (.tmp 43),none⟩,⟨some 45,.fieldAddr 33 (.tmp 7) 0,some (some 44,true)⟩,⟨some 46,.load 3 (.tmp 45),some (some 44,true)⟩,⟨some 47,.binOp .eql 3 (.tmp 46) (.const (.int .i64 0)) 3,some (some 44,true)⟩,⟨some 48,.pick (.tmp 44) (.tmp 47) (.const (.bool false)),none⟩]) (.cond (.tmp 48) (.skip) (.exit 0))) (.seq (.block 1 (.seq (.reg [⟨some 51,.move (.tmp 1),none⟩,⟨some 52,.move (.tmp 8),none⟩,⟨some 53,.indexAddr 35 (.tmp 51) (.tmp 52),none⟩,⟨some 54,.load 9 (.tmp 53),none⟩,⟨some 55,.call ⟨.value (.func 24),#[.tmp 54],#[9]⟩,none⟩,⟨some 56,.unOp .not 4 (.tmp 55),none⟩]) (.cond (.tmp 56) (.reg [⟨some 57,.move (.tmp 8),none⟩,⟨some 58,.call ⟨.value (.func 38),#[.const (.int .i64 8),.tmp 57],#[3,3]⟩,none⟩,⟨none,.store 33 (.tmp 7) (.tmp 58),none⟩]) (.skip)))) (.reg [⟨some 49,.move (.tmp 8),none⟩,⟨some 50,.binOp .add 3 (.tmp 49) (.const (.int .i64 1)) 3,none⟩,⟨some 8,.assign (.tmp 50),none⟩]))
def x8 : XC := .seq (.reg [⟨some 2,.box 24 (.tmp 0),none⟩,⟨some 4,.assign (.const (.bool false)),none⟩]) (.seq (.seq (.reg [⟨some 16,.call ⟨.value (.func 33),#[],#[]⟩,none⟩,⟨some 17,.unOp .not 4 (.tmp 16),none⟩]) (.cond (.tmp 17) (.seq (.reg [⟨some 4,.assign (.const (.bool false)),none⟩]) (.ret)) (.skip))) (.seq (.seq (.reg [⟨some 18,.load 24 (.tmp 2),none⟩,⟨some 19,.call ⟨.value (.func 20),#[.tmp 18,.const (.int .i64 0)],#[24,3]⟩,none⟩]) (.cond (.tmp 19) (.seq (.reg [⟨some 4,.assign (.const (.bool true)),none⟩]) (.ret)) (.skip))) (.seq (.reg [⟨some 21,.load 24 (.tmp 2),none⟩,⟨some 22,.call ⟨.value (.func 35),#[.tmp 21],#[24]⟩,none⟩,⟨some 23,.move (.tmp 1),none⟩,⟨some 24,.call ⟨.builtin .append,#[.const (.slice none 0 0),.tmp 23],#[35,35]⟩,none⟩,⟨some 25,.call ⟨.value (.func 42),#[.tmp 22,.tmp 24],#[24,35]⟩,none⟩,⟨some 20,.move (.tmp 25),none⟩,⟨some 26,.extract (.tmp 20) 0,none⟩,⟨some 27,.extract (.tmp 20) 1,none⟩,⟨some 5,.alloc 24,none⟩,⟨some 6,.alloc 33,none⟩,⟨none,.store 24 (.tmp 5) (.tmp 26),none⟩,⟨none,.store 33 (.tmp 6) (.tmp 27),none⟩]) (.seq (.reg [⟨some 28,.load 24 (.tmp 2),none⟩,⟨some 29,.buildSlice 22 1 #[(0,.tmp 28)],none⟩,⟨some 30,.call ⟨.value (.func 36),#[.tmp 29],#[22]⟩,none⟩,⟨some 7,.alloc 33,none⟩,⟨none,.store 33 (.tmp 7) (.tmp 30),none⟩]) (.seq (.seq (.reg [⟨some 31,.fieldAddr 33 (.tmp 7) 0,none⟩,⟨some 32,.load 3 (.tmp 31),none⟩,⟨some 33,.binOp .eql 3 (.tmp 32) (.const (.int .i64 0)) 3,none⟩,⟨some 34,.move (.tmp 33),none⟩,⟨some 35,.move (.tmp 1),some (some 34,true)⟩,⟨some 36,.call ⟨.builtin .len,#[.tmp 35],#[35]⟩,some (some 34,true)⟩,⟨some 37,.binOp .gtr 3 (.tmp 36) (.const (.int .i64 1000)) 3,some (some 34,true)⟩,⟨some 38,.pick (.tmp 34) (.tmp 37) (.const (.bool false)),none⟩]) (.cond (.tmp 38) (.reg [⟨some 39,.call ⟨.value (.func 38),#[.const (.int .i64 2),.const (.int .i64 0)],#[3,3]⟩,none⟩,⟨none,.store 33 (.tmp 7) (.tmp 39),none⟩]) (.skip))) (.seq (.seq (.reg [⟨some 8,.assign (.const (.int .i64 0)),none⟩]) (.bloop 0 x8_L0)) (x8_T1)))))))
@[simp] theorem x8_s {C : WC} {e : AE} {s : Store} {K : KS} : type_of% (@X_at C e s K _ _ x8_T4.eq_1) ∧ type_of% (@X_at C e s K _ _ x8_L4.eq_1) ∧ type_of% (@X_at C e s K _ _ x8_L2.eq_1) ∧ type_of% (@X_at C e s K _ _ x8_T1.eq_1) ∧ type_of% (@X_at C e s K _ _ x8_L0.eq_1) ∧ type_of% (@X_at C e s K _ _ x8.eq_1) := ⟨X_at x8_T4.eq_1, X_at x8_L4.eq_1, X_at x8_L2.eq_1, X_at x8_T1.eq_1, X_at x8_L0.eq_1, X_at x8.eq_1⟩
def an8 : Ann := ⟨[], [(4, [], [2, 5, 9, 10, 11, 12, 13, 14], [2, 5, 9, 10, 11, 12, 13]), (2, [], [2, 5, 9, 10, 11], [4]), (0, [], [1, 2, 5, 6, 7, 8], [1, 2, 5, 6, 7])], []⟩
def cx8 (P : Program) (m : Nat) : WC := ⟨P, m, an8⟩
@[simp] theorem cx8_a {P : Program} {m : Nat} : (cx8 P m).P = P ∧ (cx8 P m).m = m ∧ (cx8 P m).A.loopOf 4 = ([], [2, 5, 9, 10, 11, 12, 13, 14], [2, 5, 9, 10, 11, 12, 13]) ∧ (cx8 P m).A.loopOf 2 = ([], [2, 5, 9, 10, 11], [4]) ∧ (cx8 P m).A.loopOf 0 = ([], [1, 2, 5, 6, 7, 8], [1, 2, 5, 6, 7]) := ⟨rfl, rfl, rfl, rfl, rfl⟩
instance {P : Program} {m f : Nat} [h : EnT P f] : EnT (cx8 P m).P f := h
theorem chk8 : ∀ c, Try.f8.body = some c → chkC Try.f8.ntmps an8 c = true := by intro c h; obtain rfl := Option.some.inj h; decide +kernel
theorem op8 {args : List PV} {v : PV} (h : X (cx8 Try.prog 0) x8 (argsA 0 args) [] (.fin [.tmp 4] fun v1 s1 => deref s1 6 v1 = v)) (hl : args.length ≤ Try.f8.ntmps := by rw [Try.ntmps8]; simp) : CallOK Try.prog 8 args [] v [] :=
  callX (m := 0) (cx8 Try.prog 0) x8 rfl rfl (by kernel_rfl) Try.func8 rfl rfl hl mixed (chk8 _ rfl) (by rw [Try.results8]; exact h)

theorem betweenProjects_law (f : Fm) (ns : List ByteArray) (hb : ns.length * 16 ≤ 140737488351232) : CallOK Try.prog 8 [.agg (frm f), .list (ns.map strRow)] [] (.bool true) [] := by
  have hbg := betweenBegun_law
  have hva := vast_ref f 0 (by omega) (by omega) []
  have hF := F_ref
  have hfl := betweenFault_law [f] (by simp)
  simp only [List.map_cons, List.map_nil] at hfl
  refine op8 ?_
  cases hv : vastB f 0 with
  | true =>
    rw [hv] at hva
    (((try simp (implicitDefEqProofs := false)); (try simp (implicitDefEqProofs := false) (disch := first | assumption | (try simp only [lens]); omega -splitDisjunctions))); all_goals try (repeat' ((first | ((with_reducible first | refine And.intro ?_ ?_ | refine Exists.intro ?_ ?_); first | omega | (simp <;> omega)) | (with_reducible refine spl (And.intro ?_ ?_) <;> intro _) | (refine CL.clo (hbg) ?_) | (refine CM.clo (hbg) ?_) | (refine CD.clo (hbg) ?_) | (refine CL.clo (hva) ?_) | (refine CM.clo (hva) ?_) | (refine CD.clo (hva) ?_)) <;> ((try simp (implicitDefEqProofs := false)); (try simp (implicitDefEqProofs := false) (disch := first | assumption | (try simp only [lens]); omega -splitDisjunctions))))))
  | false =>
    rw [hv] at hva
    have how := own_law f 0 hv
    have hp := Project_between f ns
    have hnone := none_zero
    by_cases h1 : (lookV [f]).2.1 = 0
    · obtain ⟨hpL, h6, hz⟩ := lookV_six h1
      rw [plainL_one] at hpL
      have hnm := NamesIn_names [f] (by simp) (fun g hg => by simp at hg; rw [hg]; exact ((plainF_iff f).1 hpL).2)
      simp only [List.map_cons, List.map_nil] at hnm
      rw [hz] at hfl
      have hV : projectV f ns = if 1000 < ns.length then (.mk 0 ⟨#[]⟩ [], (2, 0)) else match nameBad ns 0 with
        | some w => (.mk 0 ⟨#[]⟩ [], w)
        | none => (projF f ns, (0, 0)) := by unfold projectV; rw [if_neg (by simpa using h1)]; rfl
      generalize projectV f ns = V at *
      clear hz h1
      by_cases hl : 1000 < ns.length
      · rw [if_pos hl] at hV
        subst hV
        have hli : (1000 : Int) < (ns.length : Int) := by omega
        have h00 : 0 < ns.length := by omega
        (((try simp (implicitDefEqProofs := false)); (try simp (implicitDefEqProofs := false) (disch := first | assumption | (try simp only [lens]); omega -splitDisjunctions))); all_goals try (repeat' ((first | ((with_reducible first | refine And.intro ?_ ?_ | refine Exists.intro ?_ ?_); first | omega | (simp <;> omega)) | (with_reducible refine spl (And.intro ?_ ?_) <;> intro _) | (refine CL.clo (hbg) ?_) | (refine CM.clo (hbg) ?_) | (refine CD.clo (hbg) ?_) | (refine CL.clo (hva) ?_) | (refine CM.clo (hva) ?_) | (refine CD.clo (hva) ?_) | (refine CL.clo (how) ?_) | (refine CM.clo (how) ?_) | (refine CD.clo (how) ?_)) <;> ((try simp (implicitDefEqProofs := false)); (try simp (implicitDefEqProofs := false) (disch := first | assumption | (try simp only [lens]); omega -splitDisjunctions))))))
        refine CL.giv [1] ?_
        (((try simp (implicitDefEqProofs := false)); (try simp (implicitDefEqProofs := false) (disch := first | assumption | (try simp only [lens]); omega -splitDisjunctions))); all_goals try (repeat' ((first | ((with_reducible first | refine And.intro ?_ ?_ | refine Exists.intro ?_ ?_); first | omega | (simp <;> omega)) | (with_reducible refine spl (And.intro ?_ ?_) <;> intro _) | (refine CL.clo (hp) ?_) | (refine CM.clo (hp) ?_) | (refine CD.clo (hp) ?_)) <;> ((try simp (implicitDefEqProofs := false)); (try simp (implicitDefEqProofs := false) (disch := first | assumption | (try simp only [lens]); omega -splitDisjunctions))))))
        refine CL.giv [4] ?_
        (((try simp (implicitDefEqProofs := false) [hli]); (try simp (implicitDefEqProofs := false) (disch := first | assumption | (try simp only [lens]); omega -splitDisjunctions) [hli])); all_goals try (repeat' ((first | ((with_reducible first | refine And.intro ?_ ?_ | refine Exists.intro ?_ ?_); first | omega | (simp <;> omega)) | (with_reducible refine spl (And.intro ?_ ?_) <;> intro _) | (refine CL.clo (hfl) ?_) | (refine CM.clo (hfl) ?_) | (refine CD.clo (hfl) ?_) | (refine CL.clo (hF 2 0) ?_) | (refine CM.clo (hF 2 0) ?_) | (refine CD.clo (hF 2 0) ?_)) <;> ((try simp (implicitDefEqProofs := false) [hli]); (try simp (implicitDefEqProofs := false) (disch := first | assumption | (try simp only [lens]); omega -splitDisjunctions) [hli])))))
        refine W_of fun Q hQ => ?_
        have q0 : Q [(1, .list (ns.map strRow)), (2, .ptr 0 0 0), (5, .ptr 1 0 0), (6, .ptr 2 0 0), (7, .ptr 3 0 0), (8, .int .i64 0)] [.rows 3 [frm f], .rows 3 [frm (.mk 0 ⟨#[]⟩ [])], .rows 2 [[.int .i64 2, .int .i64 0]], .rows 2 [[.int .i64 2, .int .i64 0]]] := by
          apply hQ
          clear hQ
          (((try simp (implicitDefEqProofs := false) [h00]); (try simp (implicitDefEqProofs := false) (disch := first | assumption | (try simp only [lens]); omega -splitDisjunctions) [h00])); all_goals try (repeat' ((first | ((with_reducible first | refine And.intro ?_ ?_ | refine Exists.intro ?_ ?_); first | omega | (simp <;> omega)) | (with_reducible refine spl (And.intro ?_ ?_) <;> intro _) | (refine CL.clo (hnone) ?_) | (refine CM.clo (hnone) ?_) | (refine CD.clo (hnone) ?_)) <;> ((try simp (implicitDefEqProofs := false) [h00]); (try simp (implicitDefEqProofs := false) (disch := first | assumption | (try simp only [lens]); omega -splitDisjunctions) [h00])))))
        exact q0
      · rw [if_neg hl] at hV
        have hli : ¬ (1000 : Int) < (ns.length : Int) := by omega
        (((try simp (implicitDefEqProofs := false)); (try simp (implicitDefEqProofs := false) (disch := first | assumption | (try simp only [lens]); omega -splitDisjunctions))); all_goals try (repeat' ((first | ((with_reducible first | refine And.intro ?_ ?_ | refine Exists.intro ?_ ?_); first | omega | (simp <;> omega)) | (with_reducible refine spl (And.intro ?_ ?_) <;> intro _) | (refine CL.clo (hbg) ?_) | (refine CM.clo (hbg) ?_) | (refine CD.clo (hbg) ?_) | (refine CL.clo (hva) ?_) | (refine CM.clo (hva) ?_) | (refine CD.clo (hva) ?_) | (refine CL.clo (how) ?_) | (refine CM.clo (how) ?_) | (refine CD.clo (how) ?_)) <;> ((try simp (implicitDefEqProofs := false)); (try simp (implicitDefEqProofs := false) (disch := first | assumption | (try simp only [lens]); omega -splitDisjunctions))))))
        refine CL.giv [1] ?_
        (((try simp (implicitDefEqProofs := false)); (try simp (implicitDefEqProofs := false) (disch := first | assumption | (try simp only [lens]); omega -splitDisjunctions))); all_goals try (repeat' ((first | ((with_reducible first | refine And.intro ?_ ?_ | refine Exists.intro ?_ ?_); first | omega | (simp <;> omega)) | (with_reducible refine spl (And.intro ?_ ?_) <;> intro _) | (refine CL.clo (hp) ?_) | (refine CM.clo (hp) ?_) | (refine CD.clo (hp) ?_)) <;> ((try simp (implicitDefEqProofs := false)); (try simp (implicitDefEqProofs := false) (disch := first | assumption | (try simp only [lens]); omega -splitDisjunctions))))))
        refine CL.giv [4] ?_
        (((try simp (implicitDefEqProofs := false) [hli]); (try simp (implicitDefEqProofs := false) (disch := first | assumption | (try simp only [lens]); omega -splitDisjunctions) [hli])); all_goals try (repeat' ((first | ((with_reducible first | refine And.intro ?_ ?_ | refine Exists.intro ?_ ?_); first | omega | (simp <;> omega)) | (with_reducible refine spl (And.intro ?_ ?_) <;> intro _) | (refine CL.clo (hfl) ?_) | (refine CM.clo (hfl) ?_) | (refine CD.clo (hfl) ?_)) <;> ((try simp (implicitDefEqProofs := false) [hli]); (try simp (implicitDefEqProofs := false) (disch := first | assumption | (try simp only [lens]); omega -splitDisjunctions) [hli])))))
        clear hfl hp hbg hva how
        refine W_of fun Q hQ => ?_
        have main : ∀ r i, i + r = ns.length → nameBad ns 0 = nameBad (ns.drop i) i → Q [(1, .list (ns.map strRow)), (2, .ptr 0 0 0), (5, .ptr 1 0 0), (6, .ptr 2 0 0), (7, .ptr 3 0 0), (8, .int .i64 (i : Int))] [.rows 3 [frm f], .rows 3 [frm V.1], .rows 2 [[.int .i64 V.2.1, .int .i64 V.2.2]], .rows 2 [[.int .i64 0, .int .i64 0]]] := by
          intro r
          induction r with
          | zero =>
            intro i hi hbd
            rw [List.drop_of_length_le (by omega), nameBad] at hbd
            rw [hbd] at hV
            dsimp only at hV
            have hpr := proj_rows ns hpL h6
            have hgd := proj_good ns hpL h6
            have hin : (namesS [f]).filter (fun x => memB x ns) = inN f ns := rfl
            have hil : (inN f ns).length ≤ 6 := Nat.le_trans (List.length_filter_le _ _) h6
            have hcm := common_law (namesS [f]) ns (by omega)
            rw [hin] at hcm
            have hpa := plainAnswer_law _ _ (hgd.mono (fun x hx => hx) (by decide))
            have hpl := ((plainF_iff f).1 hpL).1
            have htr := fun hs => True_ref hs (projF f ns) hgd.1
            subst hV
            generalize projF f ns = PF at *
            generalize inN f ns = I at *
            generalize namesS [f] = N at *
            have hii : ¬ i < ns.length := by omega
            apply hQ
            clear hQ hnone hgd
            (((try simp (implicitDefEqProofs := false) [hii]); (try simp (implicitDefEqProofs := false) (disch := first | assumption | (try simp only [lens]); omega -splitDisjunctions) [hii])); all_goals try (repeat' ((first | ((with_reducible first | refine And.intro ?_ ?_ | refine Exists.intro ?_ ?_); first | omega | (simp <;> omega)) | (with_reducible refine spl (And.intro ?_ ?_) <;> intro _)) <;> ((try simp (implicitDefEqProofs := false) [hii]); (try simp (implicitDefEqProofs := false) (disch := first | assumption | (try simp only [lens]); omega -splitDisjunctions) [hii])))))
            refine CL.giv [4] ?_
            (((try simp (implicitDefEqProofs := false)); (try simp (implicitDefEqProofs := false) (disch := first | assumption | (try simp only [lens]); omega -splitDisjunctions))); all_goals try (repeat' ((first | ((with_reducible first | refine And.intro ?_ ?_ | refine Exists.intro ?_ ?_); first | omega | (simp <;> omega)) | (with_reducible refine spl (And.intro ?_ ?_) <;> intro _) | (refine CL.clo (hnm) ?_) | (refine CM.clo (hnm) ?_) | (refine CD.clo (hnm) ?_) | (refine CL.clo (hcm) ?_) | (refine CM.clo (hcm) ?_) | (refine CD.clo (hcm) ?_) | (refine CL.clo (hpa) ?_) | (refine CM.clo (hpa) ?_) | (refine CD.clo (hpa) ?_)) <;> ((try simp (implicitDefEqProofs := false)); (try simp (implicitDefEqProofs := false) (disch := first | assumption | (try simp only [lens]); omega -splitDisjunctions))))))
            clear hnm hcm hpa
            have hs1 := shl_nat I.length (by omega)
            have hs2 := shl_nat N.length (by omega)
            have hl1 : ¬ ((I.length : Int) < 0) := by omega
            have hl2 : ¬ ((N.length : Int) < 0) := by omega
            have hZ1 : 1 ≤ 2 ^ I.length ∧ 2 ^ I.length ≤ 64 := ⟨Nat.one_le_two_pow, Nat.le_trans (Nat.pow_le_pow_right (by decide) hil) (by decide)⟩
            have hZ2 : 1 ≤ 2 ^ N.length ∧ 2 ^ N.length ≤ 64 := ⟨Nat.one_le_two_pow, Nat.le_trans (Nat.pow_le_pow_right (by decide) h6) (by decide)⟩
            generalize 2 ^ I.length = Z1 at *
            generalize 2 ^ N.length = Z2 at *
            refine W_of fun Q hQ => ?_
            have main2 : ∀ r k, k + r = Z1 → Q [(2, .ptr 0 0 0), (5, .ptr 1 0 0), (9, .list (N.map strRow)), (10, .list (I.map strRow)), (11, .int .i64 (k : Int))] [.rows 3 [frm f], .rows 3 [frm PF]] := by
              intro r
              induction r with
              | zero =>
                intro k hk
                obtain rfl : k = Z1 := by omega
                apply hQ
                clear hQ
                (((try simp (implicitDefEqProofs := false) [hs1, hl1]); (try simp (implicitDefEqProofs := false) (disch := first | assumption | (try simp only [lens]); omega -splitDisjunctions) [hs1, hl1])); all_goals try (repeat' ((first | ((with_reducible first | refine And.intro ?_ ?_ | refine Exists.intro ?_ ?_); first | omega | (simp <;> omega)) | (with_reducible refine spl (And.intro ?_ ?_) <;> intro _)) <;> ((try simp (implicitDefEqProofs := false) [hs1, hl1]); (try simp (implicitDefEqProofs := false) (disch := first | assumption | (try simp only [lens]); omega -splitDisjunctions) [hs1, hl1])))))
              | succ r ih =>
                intro k hk
                have hkZ : k < Z1 := by omega
                have ih := ih (k + 1) (by omega)
                have hro := Row_ref I (by omega) k (by omega)
                have hpr := hpr k
                have htr := htr (rowL I k)
                rw [← hpr] at htr
                have hw : (rowL I k).length ≤ I.length := rowL_len I k
                generalize rowL I k = R at *
                apply hQ
                clear hQ hpr
                (((try simp (implicitDefEqProofs := false) [hs1, hl1, hkZ]); (try simp (implicitDefEqProofs := false) (disch := first | assumption | (try simp only [lens]); omega -splitDisjunctions) [hs1, hl1, hkZ])); all_goals try (repeat' ((first | ((with_reducible first | refine And.intro ?_ ?_ | refine Exists.intro ?_ ?_); first | omega | (simp <;> omega)) | (with_reducible refine spl (And.intro ?_ ?_) <;> intro _) | (refine CL.clo (hro) ?_) | (refine CM.clo (hro) ?_) | (refine CD.clo (hro) ?_)) <;> ((try simp (implicitDefEqProofs := false) [hs1, hl1, hkZ]); (try simp (implicitDefEqProofs := false) (disch := first | assumption | (try simp only [lens]); omega -splitDisjunctions) [hs1, hl1, hkZ])))))
                refine W_of fun Q hQ => ?_
                have main3 : ∀ r m, m + r = Z2 → Q [(2, .ptr 0 0 0), (5, .ptr 1 0 0), (9, .list (N.map strRow)), (10, .list (I.map strRow)), (11, .int .i64 (k : Int)), (12, .list (R.map strRow)), (13, .bool ((List.range m).any fun m => tv (fun x => memB x (rowL N m)) f && decide ((rowL N m).filter (fun x => memB x I) = R))), (14, .int .i64 (m : Int))] [.rows 3 [frm f], .rows 3 [frm PF]] := by
                  intro r
                  induction r with
                  | zero =>
                    intro m hm
                    obtain rfl : m = Z2 := by omega
                    generalize (List.any _ _) = b at *
                    apply hQ
                    clear hQ
                    (((try simp (implicitDefEqProofs := false) [hs2, hl2]); (try simp (implicitDefEqProofs := false) (disch := first | assumption | (try simp only [lens]); omega -splitDisjunctions) [hs2, hl2])); all_goals try (repeat' ((first | ((with_reducible first | refine And.intro ?_ ?_ | refine Exists.intro ?_ ?_); first | omega | (simp <;> omega)) | (with_reducible refine spl (And.intro ?_ ?_) <;> intro _) | (refine CL.clo (htr) ?_) | (refine CM.clo (htr) ?_) | (refine CD.clo (htr) ?_)) <;> ((try simp (implicitDefEqProofs := false) [hs2, hl2]); (try simp (implicitDefEqProofs := false) (disch := first | assumption | (try simp only [lens]); omega -splitDisjunctions) [hs2, hl2])))))
                    all_goals first | exact ih | (refine at2 ih ?_ ?_ <;> simp; done) | (exfalso; first | omega | (simp_all; done) | (simp_all; omega))
                  | succ r ih3 =>
                    intro m hm
                    have hmZ : m < Z2 := by omega
                    have ih3 := ih3 (m + 1) (by omega)
                    rw [range_any_succ] at ih3
                    have hro2 := Row_ref N (by omega) m (by omega)
                    have ht2 := True_ref (rowL N m) f hpl
                    have hlr := rowL_len N m
                    have hc2 := common_law (rowL N m) I (by omega)
                    have htx := Texts_ref ((rowL N m).filter fun x => memB x I) R
                    generalize (List.range m).any _ = b at *
                    generalize tv (fun x => memB x (rowL N m)) f = x at *
                    generalize (rowL N m).filter (fun x => memB x I) = G at *
                    generalize rowL N m = S at *
                    generalize decide (G = R) = y at *
                    apply hQ
                    clear hQ ih htr
                    cases b
                    · cases x
                      · (((try simp (implicitDefEqProofs := false) [hs2, hl2, hmZ]); (try simp (implicitDefEqProofs := false) (disch := first | assumption | (try simp only [lens]); omega -splitDisjunctions) [hs2, hl2, hmZ])); all_goals try (repeat' ((first | ((with_reducible first | refine And.intro ?_ ?_ | refine Exists.intro ?_ ?_); first | omega | (simp <;> omega)) | (with_reducible refine spl (And.intro ?_ ?_) <;> intro _) | (refine CL.clo (hro2) ?_) | (refine CM.clo (hro2) ?_) | (refine CD.clo (hro2) ?_) | (refine CL.clo (ht2) ?_) | (refine CM.clo (ht2) ?_) | (refine CD.clo (ht2) ?_)) <;> ((try simp (implicitDefEqProofs := false) [hs2, hl2, hmZ]); (try simp (implicitDefEqProofs := false) (disch := first | assumption | (try simp only [lens]); omega -splitDisjunctions) [hs2, hl2, hmZ])))))
                        all_goals first | exact ih3 | (refine at2 ih3 ?_ ?_ <;> simp; done) | (exfalso; first | omega | (simp_all; done) | (simp_all; omega))
                      · (((try simp (implicitDefEqProofs := false) [hs2, hl2, hmZ]); (try simp (implicitDefEqProofs := false) (disch := first | assumption | (try simp only [lens]); omega -splitDisjunctions) [hs2, hl2, hmZ])); all_goals try (repeat' ((first | ((with_reducible first | refine And.intro ?_ ?_ | refine Exists.intro ?_ ?_); first | omega | (simp <;> omega)) | (with_reducible refine spl (And.intro ?_ ?_) <;> intro _) | (refine CL.clo (hro2) ?_) | (refine CM.clo (hro2) ?_) | (refine CD.clo (hro2) ?_) | (refine CL.clo (ht2) ?_) | (refine CM.clo (ht2) ?_) | (refine CD.clo (ht2) ?_) | (refine CL.clo (hc2) ?_) | (refine CM.clo (hc2) ?_) | (refine CD.clo (hc2) ?_) | (refine CL.clo (htx) ?_) | (refine CM.clo (htx) ?_) | (refine CD.clo (htx) ?_)) <;> ((try simp (implicitDefEqProofs := false) [hs2, hl2, hmZ]); (try simp (implicitDefEqProofs := false) (disch := first | assumption | (try simp only [lens]); omega -splitDisjunctions) [hs2, hl2, hmZ])))))
                        all_goals first | exact ih3 | (refine at2 ih3 ?_ ?_ <;> simp; done) | (exfalso; first | omega | (simp_all; done) | (simp_all; omega))
                    · (((try simp (implicitDefEqProofs := false) [hs2, hl2, hmZ]); (try simp (implicitDefEqProofs := false) (disch := first | assumption | (try simp only [lens]); omega -splitDisjunctions) [hs2, hl2, hmZ])); all_goals try (repeat' ((first | ((with_reducible first | refine And.intro ?_ ?_ | refine Exists.intro ?_ ?_); first | omega | (simp <;> omega)) | (with_reducible refine spl (And.intro ?_ ?_) <;> intro _) | (refine CL.clo (hro2) ?_) | (refine CM.clo (hro2) ?_) | (refine CD.clo (hro2) ?_)) <;> ((try simp (implicitDefEqProofs := false) [hs2, hl2, hmZ]); (try simp (implicitDefEqProofs := false) (disch := first | assumption | (try simp only [lens]); omega -splitDisjunctions) [hs2, hl2, hmZ])))))
                      all_goals first | exact ih3 | (refine at2 ih3 ?_ ?_ <;> simp; done) | (exfalso; first | omega | (simp_all; done) | (simp_all; omega))
                all_goals first | exact main3 _ 0 (Nat.zero_add _) | (refine at2 main3 _ 0 (Nat.zero_add _) ?_ ?_ <;> simp; done) | (exfalso; first | omega | (simp_all; done) | (simp_all; omega))
            all_goals first | exact main2 _ 0 (Nat.zero_add _) | (refine at2 main2 _ 0 (Nat.zero_add _) ?_ ?_ <;> simp; done) | (exfalso; first | omega | (simp_all; done) | (simp_all; omega))
          | succ r ih =>
            intro i hi hbd
            have hih : i < ns.length := by omega
            have ih := ih (i + 1) (by omega)
            have hn := IsName_ref ns[i]
            rw [nameBad_drop hih] at hbd
            have qbad : nameBad ns 0 = some (8, (i : Int)) → Q [(1, .list (ns.map strRow)), (2, .ptr 0 0 0), (5, .ptr 1 0 0), (6, .ptr 2 0 0), (7, .ptr 3 0 0), (8, .int .i64 ((i + 1 : Nat) : Int))] [.rows 3 [frm f], .rows 3 [frm V.1], .rows 2 [[.int .i64 V.2.1, .int .i64 V.2.2]], .rows 2 [[.int .i64 8, .int .i64 (i : Int)]]] := by
              intro hbd
              rw [hbd] at hV
              dsimp only at hV
              subst hV
              apply hQ
              clear hQ
              by_cases hi1 : i + 1 < ns.length
              · have hi1i : (i : Int) + 1 < (ns.length : Int) := by omega
                (((try simp (implicitDefEqProofs := false) [hi1, hi1i]); (try simp (implicitDefEqProofs := false) (disch := first | assumption | (try simp only [lens]); omega -splitDisjunctions) [hi1, hi1i])); all_goals try (repeat' ((first | ((with_reducible first | refine And.intro ?_ ?_ | refine Exists.intro ?_ ?_); first | omega | (simp <;> omega)) | (with_reducible refine spl (And.intro ?_ ?_) <;> intro _) | (refine CL.clo (hnone) ?_) | (refine CM.clo (hnone) ?_) | (refine CD.clo (hnone) ?_)) <;> ((try simp (implicitDefEqProofs := false) [hi1, hi1i]); (try simp (implicitDefEqProofs := false) (disch := first | assumption | (try simp only [lens]); omega -splitDisjunctions) [hi1, hi1i])))))
              · have hi1i : ¬ (i : Int) + 1 < (ns.length : Int) := by omega
                (((try simp (implicitDefEqProofs := false) [hi1, hi1i]); (try simp (implicitDefEqProofs := false) (disch := first | assumption | (try simp only [lens]); omega -splitDisjunctions) [hi1, hi1i])); all_goals try (repeat' ((first | ((with_reducible first | refine And.intro ?_ ?_ | refine Exists.intro ?_ ?_); first | omega | (simp <;> omega)) | (with_reducible refine spl (And.intro ?_ ?_) <;> intro _) | (refine CL.clo (hnone) ?_) | (refine CM.clo (hnone) ?_) | (refine CD.clo (hnone) ?_)) <;> ((try simp (implicitDefEqProofs := false) [hi1, hi1i]); (try simp (implicitDefEqProofs := false) (disch := first | assumption | (try simp only [lens]); omega -splitDisjunctions) [hi1, hi1i])))))
            cases hx : isNameB ns[i] with
            | false =>
              rw [hx] at hbd hn
              rw [if_neg (by simp)] at hbd
              have qbad := qbad hbd
              apply hQ
              clear hQ
              (((try simp (implicitDefEqProofs := false) [hih]); (try simp (implicitDefEqProofs := false) (disch := first | assumption | (try simp only [lens]); omega -splitDisjunctions) [hih])); all_goals try (repeat' ((first | ((with_reducible first | refine And.intro ?_ ?_ | refine Exists.intro ?_ ?_); first | omega | (simp <;> omega)) | (with_reducible refine spl (And.intro ?_ ?_) <;> intro _) | (refine CL.clo (hn) ?_) | (refine CM.clo (hn) ?_) | (refine CD.clo (hn) ?_) | (refine CL.clo (hF 8 _) ?_) | (refine CM.clo (hF 8 _) ?_) | (refine CD.clo (hF 8 _) ?_)) <;> ((try simp (implicitDefEqProofs := false) [hih]); (try simp (implicitDefEqProofs := false) (disch := first | assumption | (try simp only [lens]); omega -splitDisjunctions) [hih])))))
              all_goals first | exact qbad | (refine at2 qbad ?_ ?_ <;> simp; done) | (exfalso; first | omega | (simp_all; done) | (simp_all; omega))
            | true =>
              rw [hx] at hbd hn
              rw [if_pos rfl] at hbd
              have ih := ih hbd
              apply hQ
              clear hQ
              (((try simp (implicitDefEqProofs := false) [hih]); (try simp (implicitDefEqProofs := false) (disch := first | assumption | (try simp only [lens]); omega -splitDisjunctions) [hih])); all_goals try (repeat' ((first | ((with_reducible first | refine And.intro ?_ ?_ | refine Exists.intro ?_ ?_); first | omega | (simp <;> omega)) | (with_reducible refine spl (And.intro ?_ ?_) <;> intro _) | (refine CL.clo (hn) ?_) | (refine CM.clo (hn) ?_) | (refine CD.clo (hn) ?_)) <;> ((try simp (implicitDefEqProofs := false) [hih]); (try simp (implicitDefEqProofs := false) (disch := first | assumption | (try simp only [lens]); omega -splitDisjunctions) [hih])))))
              all_goals first | exact ih | (refine at2 ih ?_ ?_ <;> simp; done) | (exfalso; first | omega | (simp_all; done) | (simp_all; omega))
        all_goals first | exact main _ 0 (Nat.zero_add _) rfl | (refine at2 main _ 0 (Nat.zero_add _) rfl ?_ ?_ <;> simp; done) | (exfalso; first | omega | (simp_all; done) | (simp_all; omega))
    · have hV : projectV f ns = (.mk 0 ⟨#[]⟩ [], (lookV [f]).2) := by unfold projectV; rw [if_pos (by simpa using h1)]
      rw [hV] at hp
      generalize (lookV [f]).2 = w at *
      (((try simp (implicitDefEqProofs := false)); (try simp (implicitDefEqProofs := false) (disch := first | assumption | (try simp only [lens]); omega -splitDisjunctions))); all_goals try (repeat' ((first | ((with_reducible first | refine And.intro ?_ ?_ | refine Exists.intro ?_ ?_); first | omega | (simp <;> omega)) | (with_reducible refine spl (And.intro ?_ ?_) <;> intro _) | (refine CL.clo (hbg) ?_) | (refine CM.clo (hbg) ?_) | (refine CD.clo (hbg) ?_) | (refine CL.clo (hva) ?_) | (refine CM.clo (hva) ?_) | (refine CD.clo (hva) ?_) | (refine CL.clo (how) ?_) | (refine CM.clo (how) ?_) | (refine CD.clo (how) ?_)) <;> ((try simp (implicitDefEqProofs := false)); (try simp (implicitDefEqProofs := false) (disch := first | assumption | (try simp only [lens]); omega -splitDisjunctions))))))
      refine CL.giv [1] ?_
      (((try simp (implicitDefEqProofs := false)); (try simp (implicitDefEqProofs := false) (disch := first | assumption | (try simp only [lens]); omega -splitDisjunctions))); all_goals try (repeat' ((first | ((with_reducible first | refine And.intro ?_ ?_ | refine Exists.intro ?_ ?_); first | omega | (simp <;> omega)) | (with_reducible refine spl (And.intro ?_ ?_) <;> intro _) | (refine CL.clo (hp) ?_) | (refine CM.clo (hp) ?_) | (refine CD.clo (hp) ?_)) <;> ((try simp (implicitDefEqProofs := false)); (try simp (implicitDefEqProofs := false) (disch := first | assumption | (try simp only [lens]); omega -splitDisjunctions))))))
      refine CL.giv [4] ?_
      (((try simp (implicitDefEqProofs := false) [h1]); (try simp (implicitDefEqProofs := false) (disch := first | assumption | (try simp only [lens]); omega -splitDisjunctions) [h1])); all_goals try (repeat' ((first | ((with_reducible first | refine And.intro ?_ ?_ | refine Exists.intro ?_ ?_); first | omega | (simp <;> omega)) | (with_reducible refine spl (And.intro ?_ ?_) <;> intro _) | (refine CL.clo (hfl) ?_) | (refine CM.clo (hfl) ?_) | (refine CD.clo (hfl) ?_)) <;> ((try simp (implicitDefEqProofs := false) [h1]); (try simp (implicitDefEqProofs := false) (disch := first | assumption | (try simp only [lens]); omega -splitDisjunctions) [h1])))))
      refine W_of fun Q hQ => ?_
      have q0 : Q [(1, .list (ns.map strRow)), (2, .ptr 0 0 0), (5, .ptr 1 0 0), (6, .ptr 2 0 0), (7, .ptr 3 0 0), (8, .int .i64 0)] [.rows 3 [frm f], .rows 3 [frm (.mk 0 ⟨#[]⟩ [])], .rows 2 [[.int .i64 w.1, .int .i64 w.2]], .rows 2 [[.int .i64 w.1, .int .i64 w.2]]] := by
        apply hQ
        clear hQ
        by_cases hi1 : 0 < ns.length
        · (((try simp (implicitDefEqProofs := false) [hi1, h1]); (try simp (implicitDefEqProofs := false) (disch := first | assumption | (try simp only [lens]); omega -splitDisjunctions) [hi1, h1])); all_goals try (repeat' ((first | ((with_reducible first | refine And.intro ?_ ?_ | refine Exists.intro ?_ ?_); first | omega | (simp <;> omega)) | (with_reducible refine spl (And.intro ?_ ?_) <;> intro _) | (refine CL.clo (hnone) ?_) | (refine CM.clo (hnone) ?_) | (refine CD.clo (hnone) ?_)) <;> ((try simp (implicitDefEqProofs := false) [hi1, h1]); (try simp (implicitDefEqProofs := false) (disch := first | assumption | (try simp only [lens]); omega -splitDisjunctions) [hi1, h1])))))
        · (((try simp (implicitDefEqProofs := false) [hi1, h1]); (try simp (implicitDefEqProofs := false) (disch := first | assumption | (try simp only [lens]); omega -splitDisjunctions) [hi1, h1])); all_goals try (repeat' ((first | ((with_reducible first | refine And.intro ?_ ?_ | refine Exists.intro ?_ ?_); first | omega | (simp <;> omega)) | (with_reducible refine spl (And.intro ?_ ?_) <;> intro _) | (refine CL.clo (hnone) ?_) | (refine CM.clo (hnone) ?_) | (refine CD.clo (hnone) ?_)) <;> ((try simp (implicitDefEqProofs := false) [hi1, h1]); (try simp (implicitDefEqProofs := false) (disch := first | assumption | (try simp only [lens]); omega -splitDisjunctions) [hi1, h1])))))
      exact q0
end Go.Proofs.Ytnoklmapofogeaa
