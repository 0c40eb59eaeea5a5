/-
  law10: ModlogDecides.
-/
import Derived.Test.YtliockncjdeloaaQRI
import Derived.Test.YtliockncjdeloaaQPh
import Derived.Test.YtliockncjdeloaaQLA
namespace Go.Proofs.Ytliockncjdeloaa
open Go Go.Pv
set_option linter.unusedVariables false
set_option linter.unusedSimpArgs false
set_option maxRecDepth 100000
set_option maxHeartbeats 4000000

theorem decE_ten {lg : Int} {f : Fm} (h : (decE lg f).1 = 0) : (formulaCheck f).1 = 0 ∧ (partsS [] (pre f)).length ≤ 10 ∧ (pre f).length ≤ 200 ∧ decE lg f = (0, 0) := by
  unfold decE at h ⊢
  split at h
  · rename_i h1; exact absurd h h1
  · rename_i h1
    simp only [ne_eq, Classical.not_not] at h1
    split at h
    · cases h
    · split at h
      · cases h
      · rename_i h2 h3
        refine ⟨h1, by omega, ((formulaCheck_iff f).1 h1).2, ?_⟩
        rw [if_neg (by simpa using h1), if_neg h2, if_neg h3]
def x3 : XC := .seq (.reg [⟨some 3,.box 24 (.tmp 1),none⟩,⟨some 4,.assign (.const (.bool false)),none⟩]) (.seq (.seq (.reg [⟨some 10,.call ⟨.value (.func 7),#[],#[]⟩,none⟩,⟨some 11,.unOp .not 4 (.tmp 10),none⟩]) (.cond (.tmp 11) (.seq (.reg [⟨some 4,.assign (.const (.bool false)),none⟩]) (.ret)) (.skip))) (.seq (.seq (.reg [⟨some 12,.load 24 (.tmp 3),none⟩,⟨some 13,.call ⟨.value (.func 8),#[.tmp 12,.const (.int .i64 0)],#[24,3]⟩,none⟩]) (.cond (.tmp 13) (.seq (.reg [⟨some 4,.assign (.const (.bool true)),none⟩]) (.ret)) (.skip))) (.seq (.reg [⟨some 14,.load 24 (.tmp 3),none⟩,⟨some 15,.call ⟨.value (.func 9),#[.tmp 14],#[24]⟩,none⟩,⟨some 5,.alloc 24,none⟩,⟨none,.store 24 (.tmp 5) (.tmp 15),none⟩]) (.seq (.reg [⟨some 17,.move (.tmp 0),none⟩,⟨some 18,.load 24 (.tmp 5),none⟩,⟨some 19,.call ⟨.value (.func 10),#[.tmp 17,.tmp 18],#[3,24]⟩,none⟩,⟨some 16,.move (.tmp 19),none⟩,⟨some 20,.extract (.tmp 16) 0,none⟩,⟨some 21,.extract (.tmp 16) 1,none⟩,⟨some 22,.extract (.tmp 16) 2,none⟩,⟨some 7,.alloc 31,none⟩,⟨some 8,.alloc 33,none⟩,⟨some 6,.assign (.tmp 20),none⟩,⟨none,.store 31 (.tmp 7) (.tmp 21),none⟩,⟨none,.store 33 (.tmp 8) (.tmp 22),none⟩]) (.seq (.reg [⟨some 23,.load 24 (.tmp 3),none⟩,⟨some 24,.call ⟨.value (.func 11),#[.tmp 23],#[24]⟩,none⟩,⟨some 9,.alloc 33,none⟩,⟨none,.store 33 (.tmp 9) (.tmp 24),none⟩]) (.seq (.seq (.reg [⟨some 25,.fieldAddr 33 (.tmp 9) 0,none⟩,⟨some 26,.load 3 (.tmp 25),none⟩,⟨some 27,.binOp .eql 3 (.tmp 26) (.const (.int .i64 0)) 3,none⟩,⟨some 28,.move (.tmp 27),none⟩,⟨some 29,.move (.tmp 0),some (some 28,true)⟩,⟨some 30,.binOp .lss 3 (.tmp 29) (.const (.int .i64 1)) 3,some (some 28,true)⟩,⟨some 31,.move (.tmp 30),some (some 28,true)⟩,⟨some 32,.move (.tmp 0),some (some 31,false)⟩,⟨some 33,.binOp .gtr 3 (.tmp 32) (.const (.int .i64 8)) 3,some (some 31,false)⟩,⟨some 34,.pick (.tmp 31) (.const (.bool true)) (.tmp 33),some (some 28,true)⟩,⟨some 35,.pick (.tmp 28) (.tmp 34) (.const (.bool false)),none⟩]) (.cond (.tmp 35) (.reg [⟨some 36,.call ⟨.value (.func 12),#[.const (.int .i64 4),.const (.int .i64 0)],#[3,3]⟩,none⟩,⟨none,.store 33 (.tmp 9) (.tmp 36),none⟩]) (.skip))) (.seq (.seq (.reg [⟨some 37,.fieldAddr 33 (.tmp 9) 0,none⟩,⟨some 38,.load 3 (.tmp 37),none⟩,⟨some 39,.binOp .eql 3 (.tmp 38) (.const (.int .i64 0)) 3,none⟩,⟨some 40,.move (.tmp 39),none⟩,⟨some 41,.load 24 (.tmp 3),some (some 40,true)⟩,⟨some 42,.buildSlice 22 1 #[(0,.tmp 41)],some (some 40,true)⟩,⟨some 43,.call ⟨.value (.func 13),#[.tmp 42],#[22]⟩,some (some 40,true)⟩,⟨some 44,.call ⟨.builtin .len,#[.tmp 43],#[22]⟩,some (some 40,true)⟩,⟨some 45,.binOp .gtr 3 (.tmp 44) (.const (.int .i64 10)) 3,some (some 40,true)⟩,⟨some 46,.pick (.tmp 40) (.tmp 45) (.const (.bool false)),none⟩]) (.cond (.tmp 46) (.reg [⟨some 47,.call ⟨.value (.func 12),#[.const (.int .i64 2),.const (.int .i64 0)],#[3,3]⟩,none⟩,⟨none,.store 33 (.tmp 9) (.tmp 47),none⟩]) (.skip))) (.seq (.seq (.reg [⟨some 48,.load 33 (.tmp 8),none⟩,⟨some 49,.load 33 (.tmp 9),none⟩,⟨some 50,.binOp .neq 33 (.tmp 48) (.tmp 49) 33,none⟩,⟨some 51,.move (.tmp 50),none⟩,⟨some 52,.load 24 (.tmp 5),some (some 51,false)⟩,⟨some 53,.load 24 (.tmp 3),some (some 51,false)⟩,⟨some 54,.call ⟨.value (.func 14),#[.tmp 52,.tmp 53],#[24,24]⟩,some (some 51,false)⟩,⟨some 55,.unOp .not 4 (.tmp 54),some (some 51,false)⟩,⟨some 56,.pick (.tmp 51) (.const (.bool true)) (.tmp 55),none⟩]) (.cond (.tmp 56) (.seq (.reg [⟨some 4,.assign (.const (.bool false)),none⟩]) (.ret)) (.skip))) (.seq (.seq (.reg [⟨some 57,.fieldAddr 33 (.tmp 9) 0,none⟩,⟨some 58,.load 3 (.tmp 57),none⟩,⟨some 59,.binOp .neq 3 (.tmp 58) (.const (.int .i64 0)) 3,none⟩]) (.cond (.tmp 59) (.seq (.reg [⟨some 60,.move (.tmp 6),none⟩,⟨some 61,.unOp .not 4 (.tmp 60),none⟩,⟨some 62,.move (.tmp 61),none⟩,⟨some 63,.load 31 (.tmp 7),some (some 62,true)⟩,⟨some 64,.call ⟨.value (.func 15),#[.tmp 63],#[31]⟩,some (some 62,true)⟩,⟨some 65,.pick (.tmp 62) (.tmp 64) (.const (.bool false)),none⟩,⟨some 4,.assign (.tmp 65),none⟩]) (.ret)) (.skip))) (.seq (.seq (.reg [⟨some 66,.move (.tmp 6),none⟩]) (.cond (.tmp 66) (.seq (.reg [⟨some 67,.load 31 (.tmp 7),none⟩,⟨some 68,.call ⟨.value (.func 15),#[.tmp 67],#[31]⟩,none⟩,⟨some 69,.move (.tmp 68),none⟩,⟨some 70,.load 24 (.tmp 3),some (some 69,true)⟩,⟨some 71,.buildSlice 22 1 #[(0,.tmp 70)],some (some 69,true)⟩,⟨some 72,.call ⟨.value (.func 13),#[.tmp 71],#[22]⟩,some (some 69,true)⟩,⟨some 73,.call ⟨.builtin .len,#[.tmp 72],#[22]⟩,some (some 69,true)⟩,⟨some 74,.binOp .gtr 3 (.tmp 73) (.const (.int .i64 8)) 3,some (some 69,true)⟩,⟨some 75,.move (.tmp 74),some (some 69,true)⟩,⟨some 76,.move (.tmp 0),some (some 75,false)⟩,⟨some 77,.load 24 (.tmp 3),some (some 75,false)⟩,⟨some 78,.call ⟨.value (.func 16),#[.tmp 76,.tmp 77],#[3,24]⟩,some (some 75,false)⟩,⟨some 79,.pick (.tmp 75) (.const (.bool true)) (.tmp 78),some (some 69,true)⟩,⟨some 80,.pick (.tmp 69) (.tmp 79) (.const (.bool false)),none⟩,⟨some 4,.assign (.tmp 80),none⟩]) (.ret)) (.skip))) (.seq (.seq (.reg [⟨some 81,.load 31 (.tmp 7),none⟩,⟨some 82,.call ⟨.value (.func 17),#[.tmp 81,.const (.int .i64 1024),.const (.int .i64 1048576)],#[31,3,3]⟩,none⟩,⟨some 83,.field 33 (.tmp 82) 0,none⟩,⟨some 84,.binOp .neq 3 (.tmp 83) (.const (.int .i64 0)) 3,none⟩]) (.cond (.tmp 84) (.seq (.reg [⟨some 4,.assign (.const (.bool false)),none⟩]) (.ret)) (.skip))) (.seq (.seq (.reg [⟨some 85,.fieldAddr 31 (.tmp 7) 0,none⟩,⟨some 86,.load 3 (.tmp 85),none⟩,⟨some 87,.binOp .gtr 3 (.tmp 86) (.const (.int .i64 200)) 3,none⟩]) (.cond (.tmp 87) (.seq (.reg [⟨some 88,.load 31 (.tmp 7),none⟩,⟨some 89,.load 24 (.tmp 3),none⟩,⟨some 90,.call ⟨.value (.func 18),#[.tmp 88,.tmp 89],#[31,24]⟩,none⟩,⟨some 91,.indexAddr 43 (.tmp 90) (.const (.int .i64 0)),none⟩,⟨some 92,.load 4 (.tmp 91),none⟩,⟨some 93,.unOp .not 4 (.tmp 92),none⟩,⟨some 4,.assign (.tmp 93),none⟩]) (.ret)) (.skip))) (.seq (.reg [⟨some 94,.load 31 (.tmp 7),none⟩,⟨some 95,.move (.tmp 0),none⟩,⟨some 96,.call ⟨.value (.func 19),#[.tmp 94,.tmp 95],#[31,3]⟩,none⟩,⟨some 97,.move (.tmp 96),none⟩,⟨some 98,.load 31 (.tmp 7),some (some 97,true)⟩,⟨some 99,.load 24 (.tmp 3),some (some 97,true)⟩,⟨some 100,.call ⟨.value (.func 18),#[.tmp 98,.tmp 99],#[31,24]⟩,some (some 97,true)⟩,⟨some 101,.indexAddr 43 (.tmp 100) (.const (.int .i64 0)),some (some 97,true)⟩,⟨some 102,.load 4 (.tmp 101),some (some 97,true)⟩,⟨some 103,.unOp .not 4 (.tmp 102),some (some 97,true)⟩,⟨some 104,.pick (.tmp 97) (.tmp 103) (.const (.bool false)),none⟩,⟨some 4,.assign (.tmp 104),none⟩]) (.ret))))))))))))))
@[simp] theorem x3_s {C : WC} {e : AE} {s : Store} {K : KS} : type_of% (@X_at C e s K _ _ x3.eq_1) := X_at x3.eq_1
def an3 : Ann := ⟨[], [], []⟩
def cx3 (P : Program) (m : Nat) : WC := ⟨P, m, an3⟩
@[simp] theorem cx3_a {P : Program} {m : Nat} : (cx3 P m).P = P ∧ (cx3 P m).m = m := ⟨rfl, rfl⟩
instance {P : Program} {m f : Nat} [h : EnT P f] : EnT (cx3 P m).P f := h
theorem chk3 : ∀ c, Try.f3.body = some c → chkC Try.f3.ntmps an3 c = true := by intro c h; obtain rfl := Option.some.inj h; decide +kernel
theorem op3 {args : List PV} {v : PV} (h : X (cx3 Try.prog 0) x3 (argsA 0 args) [] (.fin [.tmp 4] fun v1 s1 => deref s1 6 v1 = v)) (hl : args.length ≤ Try.f3.ntmps := by rw [Try.ntmps3]; simp) : CallOK Try.prog 3 args [] v [] :=
  callX (m := 0) (cx3 Try.prog 0) x3 rfl rfl (by kernel_rfl) Try.func3 rfl rfl hl mixed (chk3 _ rfl) (by rw [Try.results3]; exact h)

theorem modlogDecides_law (lg : Int) (f : Fm) : CallOK Try.prog 3 [.int .i64 lg, .agg (frm f)] [] (.bool true) [] := by
  have vf := vast_ref f 0 (by omega) (by omega) []
  cases hv : vastB f 0 with
  | true =>
    rw [hv] at vf
    refine op3 ?_
    (((try simp (implicitDefEqProofs := false)); (try simp (implicitDefEqProofs := false) (disch := first | assumption | (try simp only [lens]); omega -splitDisjunctions))); all_goals try (repeat' ((first | ((with_reducible first | refine And.intro ?_ ?_ | refine Exists.intro ?_ ?_); first | omega | (simp <;> omega)) | (with_reducible refine spl (And.intro ?_ ?_) <;> intro _) | (refine CL.clo (modlogBegun_law) ?_) | (refine CM.clo (modlogBegun_law) ?_) | (refine CD.clo (modlogBegun_law) ?_) | (refine CL.clo (vf) ?_) | (refine CM.clo (vf) ?_) | (refine CD.clo (vf) ?_)) <;> ((try simp (implicitDefEqProofs := false)); (try simp (implicitDefEqProofs := false) (disch := first | assumption | (try simp only [lens]); omega -splitDisjunctions))))))
  | false =>
  rw [hv] at vf
  have hown := own_law f 0 hv
  have hd := Decide_modlog lg f
  have hff := FormulaFault_ref f
  have hsame := Same_ref f f
  have hss : sameB f f = true := sameB_iff.2 rfl
  unfold decT at hd
  by_cases hE : (decE lg f).1 = 0
  · obtain ⟨hT, h1, h8⟩ := decE_zero hE
    obtain ⟨hc, hp, hl, he⟩ := decE_ten hE
    rw [formulaCheck_zero hc] at hff
    rw [he] at hd
    have hpi := PartsIn_ref f hT hl
    cases hB : decB lg f with
    | true =>
      rw [hB, decM_true hB] at hd
      have hnm : CallOK Try.prog 15 [.agg (mdl mdl0)] [] (.bool true) [] := noModel_law mdl0
      obtain ⟨lgn, rfl⟩ : ∃ k : Nat, lg = (k : Int) := ⟨lg.toNat, by omega⟩
      have hval := ValidIn_ref lgn f hT hl hp (by omega) (by omega)
      have hdec : decided lgn f = true := by
        unfold decB at hB
        rw [Bool.and_eq_true] at hB
        simpa using hB.2
      rw [hdec] at hval
      refine op3 ?_
      (((try simp (implicitDefEqProofs := false) [hss]); (try simp (implicitDefEqProofs := false) (disch := first | assumption | (try simp only [lens]); omega -splitDisjunctions) [hss])); all_goals try (repeat' ((first | ((with_reducible first | refine And.intro ?_ ?_ | refine Exists.intro ?_ ?_); first | omega | (simp <;> omega)) | (with_reducible refine spl (And.intro ?_ ?_) <;> intro _) | (refine CL.clo (modlogBegun_law) ?_) | (refine CM.clo (modlogBegun_law) ?_) | (refine CD.clo (modlogBegun_law) ?_) | (refine CL.clo (vf) ?_) | (refine CM.clo (vf) ?_) | (refine CD.clo (vf) ?_) | (refine CL.clo (hown) ?_) | (refine CM.clo (hown) ?_) | (refine CD.clo (hown) ?_) | (refine CL.clo (hd) ?_) | (refine CM.clo (hd) ?_) | (refine CD.clo (hd) ?_) | (refine CL.clo (hff) ?_) | (refine CM.clo (hff) ?_) | (refine CD.clo (hff) ?_) | (refine CL.clo (hsame) ?_) | (refine CM.clo (hsame) ?_) | (refine CD.clo (hsame) ?_)) <;> ((try simp (implicitDefEqProofs := false) [hss]); (try simp (implicitDefEqProofs := false) (disch := first | assumption | (try simp only [lens]); omega -splitDisjunctions) [hss])))))
      refine CL.giv [5] ?_
      (((try simp (implicitDefEqProofs := false) [hss, hp, h1, h8]); (try simp (implicitDefEqProofs := false) (disch := first | assumption | (try simp only [lens]); omega -splitDisjunctions) [hss, hp, h1, h8])); all_goals try (repeat' ((first | ((with_reducible first | refine And.intro ?_ ?_ | refine Exists.intro ?_ ?_); first | omega | (simp <;> omega)) | (with_reducible refine spl (And.intro ?_ ?_) <;> intro _) | (refine CL.clo (hpi) ?_) | (refine CM.clo (hpi) ?_) | (refine CD.clo (hpi) ?_) | (refine CL.clo (hsame) ?_) | (refine CM.clo (hsame) ?_) | (refine CD.clo (hsame) ?_) | (refine CL.clo (hnm) ?_) | (refine CM.clo (hnm) ?_) | (refine CD.clo (hnm) ?_)) <;> ((try simp (implicitDefEqProofs := false) [hss, hp, h1, h8]); (try simp (implicitDefEqProofs := false) (disch := first | assumption | (try simp only [lens]); omega -splitDisjunctions) [hss, hp, h1, h8])))))
      refine CL.giv [6] ?_
      (((try simp (implicitDefEqProofs := false) [hp]); (try simp (implicitDefEqProofs := false) (disch := first | assumption | (try simp only [lens]); omega -splitDisjunctions) [hp])); all_goals try (repeat' ((first | ((with_reducible first | refine And.intro ?_ ?_ | refine Exists.intro ?_ ?_); first | omega | (simp <;> omega)) | (with_reducible refine spl (And.intro ?_ ?_) <;> intro _) | (refine CL.clo (hpi) ?_) | (refine CM.clo (hpi) ?_) | (refine CD.clo (hpi) ?_) | (refine CL.clo (hval) ?_) | (refine CM.clo (hval) ?_) | (refine CD.clo (hval) ?_)) <;> ((try simp (implicitDefEqProofs := false) [hp]); (try simp (implicitDefEqProofs := false) (disch := first | assumption | (try simp only [lens]); omega -splitDisjunctions) [hp])))))
    | false =>
      rw [hB] at hd
      obtain ⟨n, hm, ht, hn1, hmf, hol, hev⟩ := decM_false hE hB
      have hmfr := ModelFault_ref (decM lg f) 1024 1048576
      have holr := OfLogic_ref (decM lg f) n hm lg
      have hat := AllAt_ref (decM lg f) n hm ht f hT.ok
      rw [hol] at holr
      refine op3 ?_
      (((try simp (implicitDefEqProofs := false) [hss]); (try simp (implicitDefEqProofs := false) (disch := first | assumption | (try simp only [lens]); omega -splitDisjunctions) [hss])); all_goals try (repeat' ((first | ((with_reducible first | refine And.intro ?_ ?_ | refine Exists.intro ?_ ?_); first | omega | (simp <;> omega)) | (with_reducible refine spl (And.intro ?_ ?_) <;> intro _) | (refine CL.clo (modlogBegun_law) ?_) | (refine CM.clo (modlogBegun_law) ?_) | (refine CD.clo (modlogBegun_law) ?_) | (refine CL.clo (vf) ?_) | (refine CM.clo (vf) ?_) | (refine CD.clo (vf) ?_) | (refine CL.clo (hown) ?_) | (refine CM.clo (hown) ?_) | (refine CD.clo (hown) ?_) | (refine CL.clo (hd) ?_) | (refine CM.clo (hd) ?_) | (refine CD.clo (hd) ?_) | (refine CL.clo (hff) ?_) | (refine CM.clo (hff) ?_) | (refine CD.clo (hff) ?_) | (refine CL.clo (hsame) ?_) | (refine CM.clo (hsame) ?_) | (refine CD.clo (hsame) ?_)) <;> ((try simp (implicitDefEqProofs := false) [hss]); (try simp (implicitDefEqProofs := false) (disch := first | assumption | (try simp only [lens]); omega -splitDisjunctions) [hss])))))
      refine CL.giv [5] ?_
      have h0n : 0 < n := hn1
      have hat0 : (atB (decM lg f) n f)[0]'(by simpa using h0n) = false := by rw [atB_get]; exact hev
      (((try simp (implicitDefEqProofs := false) [hss, hp, h1, h8, hmf, hat0, h0n]); (try simp (implicitDefEqProofs := false) (disch := first | assumption | (try simp only [lens]); omega -splitDisjunctions) [hss, hp, h1, h8, hmf, hat0, h0n])); all_goals try (repeat' ((first | ((with_reducible first | refine And.intro ?_ ?_ | refine Exists.intro ?_ ?_); first | omega | (simp <;> omega)) | (with_reducible refine spl (And.intro ?_ ?_) <;> intro _) | (refine CL.clo (hpi) ?_) | (refine CM.clo (hpi) ?_) | (refine CD.clo (hpi) ?_) | (refine CL.clo (hsame) ?_) | (refine CM.clo (hsame) ?_) | (refine CD.clo (hsame) ?_) | (refine CL.clo (hmfr) ?_) | (refine CM.clo (hmfr) ?_) | (refine CD.clo (hmfr) ?_) | (refine CL.clo (holr) ?_) | (refine CM.clo (holr) ?_) | (refine CD.clo (holr) ?_) | (refine CL.clo (hat) ?_) | (refine CM.clo (hat) ?_) | (refine CD.clo (hat) ?_)) <;> ((try simp (implicitDefEqProofs := false) [hss, hp, h1, h8, hmf, hat0, h0n]); (try simp (implicitDefEqProofs := false) (disch := first | assumption | (try simp only [lens]); omega -splitDisjunctions) [hss, hp, h1, h8, hmf, hat0, h0n])))))
  · rw [decM_fault hE] at hd
    have hBf : decB lg f = false := by unfold decB; simp [hE]
    have hnm : CallOK Try.prog 15 [.agg (mdl mdl0)] [] (.bool true) [] := noModel_law mdl0
    rw [hBf] at hd
    refine op3 ?_
    by_cases hc : (formulaCheck f).1 = 0
    · rw [formulaCheck_zero hc] at hff
      by_cases hr : lg < 1 ∨ 8 < lg
      · have he : decE lg f = (4, 0) := by unfold decE; rw [if_neg (by simpa using hc), if_pos hr]
        rw [he] at hd
        (((try simp (implicitDefEqProofs := false) [hss]); (try simp (implicitDefEqProofs := false) (disch := first | assumption | (try simp only [lens]); omega -splitDisjunctions) [hss])); all_goals try (repeat' ((first | ((with_reducible first | refine And.intro ?_ ?_ | refine Exists.intro ?_ ?_); first | omega | (simp <;> omega)) | (with_reducible refine spl (And.intro ?_ ?_) <;> intro _) | (refine CL.clo (modlogBegun_law) ?_) | (refine CM.clo (modlogBegun_law) ?_) | (refine CD.clo (modlogBegun_law) ?_) | (refine CL.clo (vf) ?_) | (refine CM.clo (vf) ?_) | (refine CD.clo (vf) ?_) | (refine CL.clo (hown) ?_) | (refine CM.clo (hown) ?_) | (refine CD.clo (hown) ?_) | (refine CL.clo (hd) ?_) | (refine CM.clo (hd) ?_) | (refine CD.clo (hd) ?_) | (refine CL.clo (hff) ?_) | (refine CM.clo (hff) ?_) | (refine CD.clo (hff) ?_) | (refine CL.clo (F_ref _ _) ?_) | (refine CM.clo (F_ref _ _) ?_) | (refine CD.clo (F_ref _ _) ?_) | (refine CL.clo (hsame) ?_) | (refine CM.clo (hsame) ?_) | (refine CD.clo (hsame) ?_) | (refine CL.clo (hnm) ?_) | (refine CM.clo (hnm) ?_) | (refine CD.clo (hnm) ?_)) <;> ((try simp (implicitDefEqProofs := false) [hss]); (try simp (implicitDefEqProofs := false) (disch := first | assumption | (try simp only [lens]); omega -splitDisjunctions) [hss])))))
        all_goals first | (simp [mdl0]; done) | (exfalso; omega)
      · have hp : ¬ (partsS [] (pre f)).length ≤ 10 := by
          intro hp
          apply hE
          unfold decE
          rw [if_neg (by simpa using hc), if_neg hr, if_neg (by omega)]
        have he : decE lg f = (2, 0) := by unfold decE; rw [if_neg (by simpa using hc), if_neg hr, if_pos (by omega)]
        rw [he] at hd
        have hT := td_check hc
        have hl := ((formulaCheck_iff f).1 hc).2
        have hpi := PartsIn_ref f hT hl
        (((try simp (implicitDefEqProofs := false) [hss]); (try simp (implicitDefEqProofs := false) (disch := first | assumption | (try simp only [lens]); omega -splitDisjunctions) [hss])); all_goals try (repeat' ((first | ((with_reducible first | refine And.intro ?_ ?_ | refine Exists.intro ?_ ?_); first | omega | (simp <;> omega)) | (with_reducible refine spl (And.intro ?_ ?_) <;> intro _) | (refine CL.clo (modlogBegun_law) ?_) | (refine CM.clo (modlogBegun_law) ?_) | (refine CD.clo (modlogBegun_law) ?_) | (refine CL.clo (vf) ?_) | (refine CM.clo (vf) ?_) | (refine CD.clo (vf) ?_) | (refine CL.clo (hown) ?_) | (refine CM.clo (hown) ?_) | (refine CD.clo (hown) ?_) | (refine CL.clo (hd) ?_) | (refine CM.clo (hd) ?_) | (refine CD.clo (hd) ?_) | (refine CL.clo (hff) ?_) | (refine CM.clo (hff) ?_) | (refine CD.clo (hff) ?_) | (refine CL.clo (F_ref _ _) ?_) | (refine CM.clo (F_ref _ _) ?_) | (refine CD.clo (F_ref _ _) ?_) | (refine CL.clo (hsame) ?_) | (refine CM.clo (hsame) ?_) | (refine CD.clo (hsame) ?_) | (refine CL.clo (hnm) ?_) | (refine CM.clo (hnm) ?_) | (refine CD.clo (hnm) ?_)) <;> ((try simp (implicitDefEqProofs := false) [hss]); (try simp (implicitDefEqProofs := false) (disch := first | assumption | (try simp only [lens]); omega -splitDisjunctions) [hss])))))
        refine CL.giv [5] ?_
        (((try simp (implicitDefEqProofs := false) [hss]); (try simp (implicitDefEqProofs := false) (disch := first | assumption | (try simp only [lens]); omega -splitDisjunctions) [hss])); all_goals try (repeat' ((first | ((with_reducible first | refine And.intro ?_ ?_ | refine Exists.intro ?_ ?_); first | omega | (simp <;> omega)) | (with_reducible refine spl (And.intro ?_ ?_) <;> intro _) | (refine CL.clo (hpi) ?_) | (refine CM.clo (hpi) ?_) | (refine CD.clo (hpi) ?_) | (refine CL.clo (hsame) ?_) | (refine CM.clo (hsame) ?_) | (refine CD.clo (hsame) ?_) | (refine CL.clo (hnm) ?_) | (refine CM.clo (hnm) ?_) | (refine CD.clo (hnm) ?_) | (refine CL.clo (F_ref _ _) ?_) | (refine CM.clo (F_ref _ _) ?_) | (refine CD.clo (F_ref _ _) ?_)) <;> ((try simp (implicitDefEqProofs := false) [hss]); (try simp (implicitDefEqProofs := false) (disch := first | assumption | (try simp only [lens]); omega -splitDisjunctions) [hss])))))
        all_goals first | (exfalso; omega) | (simp [mdl0]; done)
    · have he : decE lg f = formulaCheck f := by unfold decE; rw [if_pos hc]
      rw [he] at hd
      (((try simp (implicitDefEqProofs := false) [hss, hc]); (try simp (implicitDefEqProofs := false) (disch := first | assumption | (try simp only [lens]); omega -splitDisjunctions) [hss, hc])); all_goals try (repeat' ((first | ((with_reducible first | refine And.intro ?_ ?_ | refine Exists.intro ?_ ?_); first | omega | (simp <;> omega)) | (with_reducible refine spl (And.intro ?_ ?_) <;> intro _) | (refine CL.clo (modlogBegun_law) ?_) | (refine CM.clo (modlogBegun_law) ?_) | (refine CD.clo (modlogBegun_law) ?_) | (refine CL.clo (vf) ?_) | (refine CM.clo (vf) ?_) | (refine CD.clo (vf) ?_) | (refine CL.clo (hown) ?_) | (refine CM.clo (hown) ?_) | (refine CD.clo (hown) ?_) | (refine CL.clo (hd) ?_) | (refine CM.clo (hd) ?_) | (refine CD.clo (hd) ?_) | (refine CL.clo (hff) ?_) | (refine CM.clo (hff) ?_) | (refine CD.clo (hff) ?_) | (refine CL.clo (F_ref _ _) ?_) | (refine CM.clo (F_ref _ _) ?_) | (refine CD.clo (F_ref _ _) ?_) | (refine CL.clo (hsame) ?_) | (refine CM.clo (hsame) ?_) | (refine CD.clo (hsame) ?_) | (refine CL.clo (hnm) ?_) | (refine CM.clo (hnm) ?_) | (refine CD.clo (hnm) ?_)) <;> ((try simp (implicitDefEqProofs := false) [hss, hc]); (try simp (implicitDefEqProofs := false) (disch := first | assumption | (try simp only [lens]); omega -splitDisjunctions) [hss, hc])))))
      all_goals simp [mdl0]
end Go.Proofs.Ytliockncjdeloaa
