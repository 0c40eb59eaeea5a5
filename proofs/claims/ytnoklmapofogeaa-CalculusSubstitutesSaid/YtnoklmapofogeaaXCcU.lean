/-
  sequentref: SequentFault.
-/
import Derived.Test.YtnoklmapofogeaaXCcT
namespace Go.Proofs.Ytnoklmapofogeaa
open Go Go.Pv
set_option linter.unusedVariables false
set_option linter.unusedSimpArgs false
set_option maxRecDepth 100000
set_option maxHeartbeats 4000000

def x26_T1 : XC := .seq (.reg [⟨some 55,.build 33 #[],none⟩,⟨none,.store 33 (.tmp 2) (.tmp 55),none⟩]) (.ret)
def x26_L0 : XC := .seq (.seq (.reg [⟨some 15,.move (.tmp 3),none⟩,⟨some 16,.fieldAddr 26 (.tmp 1) 0,none⟩,⟨some 17,.load 22 (.tmp 16),none⟩,⟨some 18,.call ⟨.builtin .len,#[.tmp 17],#[22]⟩,none⟩,⟨some 19,.fieldAddr 26 (.tmp 1) 1,none⟩,⟨some 20,.load 22 (.tmp 19),none⟩,⟨some 21,.call ⟨.builtin .len,#[.tmp 20],#[22]⟩,none⟩,⟨some 22,.binOp .add 3 (.tmp 18) (.tmp 21) 3,none⟩,⟨some 23,.binOp .lss 3 (.tmp 15) (.tmp 22) 3,none⟩]) (.cond (.tmp 23) (.skip) (.exit 0))) (.seq (.block 1 (.seq (.reg [⟨some 4,.alloc 24,none⟩]) (.seq (.seq (.reg [⟨some 26,.move (.tmp 3),none⟩,⟨some 27,.fieldAddr 26 (.tmp 1) 0,none⟩,⟨some 28,.load 22 (.tmp 27),none⟩,⟨some 29,.call ⟨.builtin .len,#[.tmp 28],#[22]⟩,none⟩,⟨some 30,.binOp .lss 3 (.tmp 26) (.tmp 29) 3,none⟩]) (.cond (.tmp 30) (.reg [⟨some 31,.fieldAddr 26 (.tmp 1) 0,none⟩,⟨some 32,.load 22 (.tmp 31),none⟩,⟨some 33,.move (.tmp 3),none⟩,⟨some 34,.indexAddr 22 (.tmp 32) (.tmp 33),none⟩,⟨some 35,.load 24 (.tmp 34),none⟩,⟨none,.store 24 (.tmp 4) (.tmp 35),none⟩]) (.reg [⟨some 36,.fieldAddr 26 (.tmp 1) 1,none⟩,⟨some 37,.load 22 (.tmp 36),none⟩,⟨some 38,.move (.tmp 3),none⟩,⟨some 39,.fieldAddr 26 (.tmp 1) 0,none⟩,⟨some 40,.load 22 (.tmp 39),none⟩,⟨some 41,.call ⟨.builtin .len,#[.tmp 40],#[22]⟩,none⟩,⟨some 42,.binOp .sub 3 (.tmp 38) (.tmp 41) 3,none⟩,⟨some 43,.indexAddr 22 (.tmp 37) (.tmp 42),none⟩,⟨some 44,.load 24 (.tmp 43),none⟩,⟨none,.store 24 (.tmp 4) (.tmp 44),none⟩]))) (.seq (.reg [⟨some 45,.load 24 (.tmp 4),none⟩,⟨some 46,.buildSlice 22 1 #[(0,.tmp 45)],none⟩,⟨some 47,.call ⟨.value (.func 21),#[.tmp 46],#[22]⟩,none⟩,⟨some 5,.alloc 33,none⟩,⟨none,.store 33 (.tmp 5) (.tmp 47),none⟩]) (.seq (.reg [⟨some 48,.fieldAddr 33 (.tmp 5) 0,none⟩,⟨some 49,.load 3 (.tmp 48),none⟩,⟨some 50,.binOp .neq 3 (.tmp 49) (.const (.int .i64 0)) 3,none⟩]) (.cond (.tmp 50) (.seq (.reg [⟨some 51,.fieldAddr 33 (.tmp 5) 0,none⟩,⟨some 52,.load 3 (.tmp 51),none⟩,⟨some 53,.move (.tmp 3),none⟩,⟨some 54,.call ⟨.value (.func 38),#[.tmp 52,.tmp 53],#[3,3]⟩,none⟩,⟨none,.store 33 (.tmp 2) (.tmp 54),none⟩]) (.ret)) (.skip))))))) (.reg [⟨some 24,.move (.tmp 3),none⟩,⟨some 25,.binOp .add 3 (.tmp 24) (.const (.int .i64 1)) 3,none⟩,⟨some 3,.assign (.tmp 25),none⟩]))
def x26 : XC := .seq (.reg [⟨some 1,.box 26 (.tmp 0),none⟩,⟨some 2,.alloc 33,none⟩]) (.seq (.seq (.reg [⟨some 6,.fieldAddr 26 (.tmp 1) 0,none⟩,⟨some 7,.load 22 (.tmp 6),none⟩,⟨some 8,.call ⟨.builtin .len,#[.tmp 7],#[22]⟩,none⟩,⟨some 9,.fieldAddr 26 (.tmp 1) 1,none⟩,⟨some 10,.load 22 (.tmp 9),none⟩,⟨some 11,.call ⟨.builtin .len,#[.tmp 10],#[22]⟩,none⟩,⟨some 12,.binOp .add 3 (.tmp 8) (.tmp 11) 3,none⟩,⟨some 13,.binOp .gtr 3 (.tmp 12) (.const (.int .i64 60)) 3,none⟩]) (.cond (.tmp 13) (.seq (.reg [⟨some 14,.call ⟨.value (.func 38),#[.const (.int .i64 2),.const (.int .i64 0)],#[3,3]⟩,none⟩,⟨none,.store 33 (.tmp 2) (.tmp 14),none⟩]) (.ret)) (.skip))) (.seq (.seq (.reg [⟨some 3,.assign (.const (.int .i64 0)),none⟩]) (.bloop 0 x26_L0)) (x26_T1)))
@[simp] theorem x26_s {C : WC} {e : AE} {s : Store} {K : KS} : type_of% (@X_at C e s K _ _ x26_T1.eq_1) ∧ type_of% (@X_at C e s K _ _ x26_L0.eq_1) ∧ type_of% (@X_at C e s K _ _ x26.eq_1) := ⟨X_at x26_T1.eq_1, X_at x26_L0.eq_1, X_at x26.eq_1⟩
def an26 : Ann := ⟨[], [(0, [], [1, 2, 3], [2])], []⟩
def cx26 (P : Program) (m : Nat) : WC := ⟨P, m, an26⟩
@[simp] theorem cx26_a {P : Program} {m : Nat} : (cx26 P m).P = P ∧ (cx26 P m).m = m ∧ (cx26 P m).A.loopOf 0 = ([], [1, 2, 3], [2]) := ⟨rfl, rfl, rfl⟩
instance {P : Program} {m f : Nat} [h : EnT P f] : EnT (cx26 P m).P f := h
theorem chk26 : ∀ c, Try.f26.body = some c → chkC Try.f26.ntmps an26 c = true := by intro c h; obtain rfl := Option.some.inj h; decide +kernel
theorem op26 {args : List PV} {v : PV} (h : X (cx26 Try.prog 0) x26 (argsA 0 args) [] (.fin [.cell 2 33] fun v1 s1 => deref s1 6 v1 = v)) (hl : args.length ≤ Try.f26.ntmps := by rw [Try.ntmps26]; simp) : CallOK Try.prog 26 args [] v [] :=
  callX (m := 0) (cx26 Try.prog 0) x26 rfl rfl (by kernel_rfl) Try.func26 rfl rfl hl mixed (chk26 _ rfl) (by rw [Try.results26]; exact h)

theorem SequentFault_ref (l r : List Fm) (hl : l.length ≤ 50000) (hr : r.length ≤ 50000) : CallOK Try.prog 26 [.agg [.list (l.map frm), .list (r.map frm)]] [] (.agg [.int .i64 (sequentF l r).1, .int .i64 (sequentF l r).2]) [] := by
  refine op26 ?_
  unfold sequentF
  by_cases h6 : 60 < l.length + r.length
  · have h6i : (60 : Int) < (l.length : Int) + (r.length : Int) := by omega
    rw [if_pos h6]
    (((try simp (implicitDefEqProofs := false) [h6i]); (try simp (implicitDefEqProofs := false) (disch := first | assumption | (try simp only [lens]); omega -splitDisjunctions) [h6i])); all_goals try (repeat' ((first | ((with_reducible first | refine And.intro ?_ ?_ | refine Exists.intro ?_ ?_); first | omega | (simp <;> omega)) | (with_reducible refine spl (And.intro ?_ ?_) <;> intro _) | (refine CL.clo (F_ref 2 0) ?_) | (refine CM.clo (F_ref 2 0) ?_) | (refine CD.clo (F_ref 2 0) ?_)) <;> ((try simp (implicitDefEqProofs := false) [h6i]); (try simp (implicitDefEqProofs := false) (disch := first | assumption | (try simp only [lens]); omega -splitDisjunctions) [h6i])))))
  · have h6i : ¬ (60 : Int) < (l.length : Int) + (r.length : Int) := by omega
    rw [if_neg h6]
    generalize hE : seqGo (l ++ r) 0 = E
    (((try simp (implicitDefEqProofs := false) [h6i]); (try simp (implicitDefEqProofs := false) (disch := first | assumption | (try simp only [lens]); omega -splitDisjunctions) [h6i])); all_goals try (repeat' ((first | ((with_reducible first | refine And.intro ?_ ?_ | refine Exists.intro ?_ ?_); first | omega | (simp <;> omega)) | (with_reducible refine spl (And.intro ?_ ?_) <;> intro _)) <;> ((try simp (implicitDefEqProofs := false) [h6i]); (try simp (implicitDefEqProofs := false) (disch := first | assumption | (try simp only [lens]); omega -splitDisjunctions) [h6i])))))
    refine W_of fun Q hQ => ?_
    have main : ∀ n i, i + n = l.length + r.length → seqGo ((l ++ r).drop i) i = E → Q [(1, .ptr 0 0 0), (2, .ptr 1 0 0), (3, .int .i64 (i : Int))] [.rows 2 [[.list (l.map frm), .list (r.map frm)]], .rows 2 [[.int .i64 0, .int .i64 0]]] := by
      intro n
      induction n with
      | zero =>
        intro i hi he
        rw [List.drop_of_length_le (by simp; omega), seqGo] at he
        have hii : ¬ (i : Int) < (l.length : Int) + (r.length : Int) := by omega
        apply hQ
        clear hQ
        subst he
        (((try simp (implicitDefEqProofs := false) [hii]); (try simp (implicitDefEqProofs := false) (disch := first | assumption | (try simp only [lens]); omega -splitDisjunctions) [hii])); all_goals try (repeat' ((first | ((with_reducible first | refine And.intro ?_ ?_ | refine Exists.intro ?_ ?_); first | omega | (simp <;> omega)) | (with_reducible refine spl (And.intro ?_ ?_) <;> intro _)) <;> ((try simp (implicitDefEqProofs := false) [hii]); (try simp (implicitDefEqProofs := false) (disch := first | assumption | (try simp only [lens]); omega -splitDisjunctions) [hii])))))
      | succ n ih =>
        intro i hi he
        have hil : i < (l ++ r).length := by simp; omega
        have hii : (i : Int) < (l.length : Int) + (r.length : Int) := by omega
        have ih := ih (i + 1) (by omega)
        rw [List.drop_eq_getElem_cons hil, seqGo] at he
        have hp := PlainFault_ref [(l ++ r)[i]] (by simp)
        rw [plainL_sgl] at hp
        have hf := F_ref (plainF (l ++ r)[i]).1 (i : Int)
        apply hQ
        clear hQ
        by_cases hlt : i < l.length
        · rw [List.getElem_append_left hlt] at *
          by_cases h0 : (plainF l[i]).1 = 0
          · rw [if_neg (by simpa using h0)] at he hp
            have ih := ih he
            (((try simp (implicitDefEqProofs := false) [hii, hlt]); (try simp (implicitDefEqProofs := false) (disch := first | assumption | (try simp only [lens]); omega -splitDisjunctions) [hii, hlt])); all_goals try (repeat' ((first | ((with_reducible first | refine And.intro ?_ ?_ | refine Exists.intro ?_ ?_); first | omega | (simp <;> omega)) | (with_reducible refine spl (And.intro ?_ ?_) <;> intro _)) <;> ((try simp (implicitDefEqProofs := false) [hii, hlt]); (try simp (implicitDefEqProofs := false) (disch := first | assumption | (try simp only [lens]); omega -splitDisjunctions) [hii, hlt])))))
            refine CL.giv [3] ?_
            (((try simp (implicitDefEqProofs := false)); (try simp (implicitDefEqProofs := false) (disch := first | assumption | (try simp only [lens]); omega -splitDisjunctions))); all_goals try (repeat' ((first | ((with_reducible first | refine And.intro ?_ ?_ | refine Exists.intro ?_ ?_); first | omega | (simp <;> omega)) | (with_reducible refine spl (And.intro ?_ ?_) <;> intro _) | (refine CL.clo (hp) ?_) | (refine CM.clo (hp) ?_) | (refine CD.clo (hp) ?_)) <;> ((try simp (implicitDefEqProofs := false)); (try simp (implicitDefEqProofs := false) (disch := first | assumption | (try simp only [lens]); omega -splitDisjunctions))))))
            all_goals first | exact ih | (refine at2 ih ?_ ?_ <;> simp; done) | (exfalso; first | omega | (simp_all; done) | (simp_all; omega))
          · rw [if_pos (by simpa using h0)] at he hp
            subst he
            generalize plainF l[i] = P at *
            (((try simp (implicitDefEqProofs := false) [hii, hlt]); (try simp (implicitDefEqProofs := false) (disch := first | assumption | (try simp only [lens]); omega -splitDisjunctions) [hii, hlt])); all_goals try (repeat' ((first | ((with_reducible first | refine And.intro ?_ ?_ | refine Exists.intro ?_ ?_); first | omega | (simp <;> omega)) | (with_reducible refine spl (And.intro ?_ ?_) <;> intro _)) <;> ((try simp (implicitDefEqProofs := false) [hii, hlt]); (try simp (implicitDefEqProofs := false) (disch := first | assumption | (try simp only [lens]); omega -splitDisjunctions) [hii, hlt])))))
            refine CL.giv [3] ?_
            (((try simp (implicitDefEqProofs := false) [h0]); (try simp (implicitDefEqProofs := false) (disch := first | assumption | (try simp only [lens]); omega -splitDisjunctions) [h0])); all_goals try (repeat' ((first | ((with_reducible first | refine And.intro ?_ ?_ | refine Exists.intro ?_ ?_); first | omega | (simp <;> omega)) | (with_reducible refine spl (And.intro ?_ ?_) <;> intro _) | (refine CL.clo (hp) ?_) | (refine CM.clo (hp) ?_) | (refine CD.clo (hp) ?_) | (refine CL.clo (hf) ?_) | (refine CM.clo (hf) ?_) | (refine CD.clo (hf) ?_)) <;> ((try simp (implicitDefEqProofs := false) [h0]); (try simp (implicitDefEqProofs := false) (disch := first | assumption | (try simp only [lens]); omega -splitDisjunctions) [h0])))))
        · have hr2 : i - l.length < r.length := by simp at hil; omega
          have hlti : ¬ (i : Int) < (l.length : Int) := by omega
          have hsub : (i : Int) - (l.length : Int) = ((i - l.length : Nat) : Int) := by omega
          rw [List.getElem_append_right (by omega)] at *
          by_cases h0 : (plainF r[i - l.length]).1 = 0
          · rw [if_neg (by simpa using h0)] at he hp
            have ih := ih he
            (((try simp (implicitDefEqProofs := false) [hii, hlti, hsub, hr2]); (try simp (implicitDefEqProofs := false) (disch := first | assumption | (try simp only [lens]); omega -splitDisjunctions) [hii, hlti, hsub, hr2])); all_goals try (repeat' ((first | ((with_reducible first | refine And.intro ?_ ?_ | refine Exists.intro ?_ ?_); first | omega | (simp <;> omega)) | (with_reducible refine spl (And.intro ?_ ?_) <;> intro _)) <;> ((try simp (implicitDefEqProofs := false) [hii, hlti, hsub, hr2]); (try simp (implicitDefEqProofs := false) (disch := first | assumption | (try simp only [lens]); omega -splitDisjunctions) [hii, hlti, hsub, hr2])))))
            refine CL.giv [3] ?_
            (((try simp (implicitDefEqProofs := false)); (try simp (implicitDefEqProofs := false) (disch := first | assumption | (try simp only [lens]); omega -splitDisjunctions))); all_goals try (repeat' ((first | ((with_reducible first | refine And.intro ?_ ?_ | refine Exists.intro ?_ ?_); first | omega | (simp <;> omega)) | (with_reducible refine spl (And.intro ?_ ?_) <;> intro _) | (refine CL.clo (hp) ?_) | (refine CM.clo (hp) ?_) | (refine CD.clo (hp) ?_)) <;> ((try simp (implicitDefEqProofs := false)); (try simp (implicitDefEqProofs := false) (disch := first | assumption | (try simp only [lens]); omega -splitDisjunctions))))))
            all_goals first | exact ih | (refine at2 ih ?_ ?_ <;> simp; done) | (exfalso; first | omega | (simp_all; done) | (simp_all; omega))
          · rw [if_pos (by simpa using h0)] at he hp
            subst he
            generalize plainF r[i - l.length] = P at *
            (((try simp (implicitDefEqProofs := false) [hii, hlti, hsub, hr2]); (try simp (implicitDefEqProofs := false) (disch := first | assumption | (try simp only [lens]); omega -splitDisjunctions) [hii, hlti, hsub, hr2])); all_goals try (repeat' ((first | ((with_reducible first | refine And.intro ?_ ?_ | refine Exists.intro ?_ ?_); first | omega | (simp <;> omega)) | (with_reducible refine spl (And.intro ?_ ?_) <;> intro _)) <;> ((try simp (implicitDefEqProofs := false) [hii, hlti, hsub, hr2]); (try simp (implicitDefEqProofs := false) (disch := first | assumption | (try simp only [lens]); omega -splitDisjunctions) [hii, hlti, hsub, hr2])))))
            refine CL.giv [3] ?_
            (((try simp (implicitDefEqProofs := false) [h0]); (try simp (implicitDefEqProofs := false) (disch := first | assumption | (try simp only [lens]); omega -splitDisjunctions) [h0])); all_goals try (repeat' ((first | ((with_reducible first | refine And.intro ?_ ?_ | refine Exists.intro ?_ ?_); first | omega | (simp <;> omega)) | (with_reducible refine spl (And.intro ?_ ?_) <;> intro _) | (refine CL.clo (hp) ?_) | (refine CM.clo (hp) ?_) | (refine CD.clo (hp) ?_) | (refine CL.clo (hf) ?_) | (refine CM.clo (hf) ?_) | (refine CD.clo (hf) ?_)) <;> ((try simp (implicitDefEqProofs := false) [h0]); (try simp (implicitDefEqProofs := false) (disch := first | assumption | (try simp only [lens]); omega -splitDisjunctions) [h0])))))
    all_goals first | exact main _ 0 (Nat.zero_add _) (by simpa using hE) | (refine at2 main _ 0 (Nat.zero_add _) (by simpa using hE) ?_ ?_ <;> simp; done) | (exfalso; first | omega | (simp_all; done) | (simp_all; omega))
end Go.Proofs.Ytnoklmapofogeaa
