/-
  law10: ModlogSound.
-/
import Derived.Test.YtliockncjdeloaaQRD
import Derived.Test.YtliockncjdeloaaQRB
import Derived.Test.YtliockncjdeloaaQLA
namespace Go.Proofs.Ytliockncjdeloaa
open Go Go.Pv
set_option linter.unusedVariables false
set_option linter.unusedSimpArgs false
set_option maxRecDepth 100000
set_option maxHeartbeats 4000000

def x4_L0 : XC := .seq (.seq (.reg [⟨some 53, .move (.tmp 11), none⟩, ⟨some 54, .fieldAddr 31 (.tmp 5) 0, none⟩, ⟨some 55, .load 3 (.tmp 54), none⟩, ⟨some 56, .binOp .lss 3 (.tmp 53) (.tmp 55) 3, none⟩]) (.cond (.tmp 56) (.skip) (.exit 0))) (.seq (.block 1 (.seq (.reg [⟨some 59, .move (.tmp 10), none⟩, ⟨some 60, .move (.tmp 11), none⟩, ⟨some 61, .indexAddr 43 (.tmp 59) (.tmp 60), none⟩, ⟨some 62, .load 4 (.tmp 61), none⟩, ⟨some 63, .unOp .not 4 (.tmp 62), none⟩]) (.cond (.tmp 63) (.seq (.reg [⟨some 6, .assign (.const (.bool false)), none⟩]) (.ret)) (.skip)))) (.reg [⟨some 57, .move (.tmp 11), none⟩, ⟨some 58, .binOp .add 3 (.tmp 57) (.const (.int .i64 1)) 3, none⟩, ⟨some 11, .assign (.tmp 58), none⟩]))
theorem x4_L0_eq {C : WC} {e : AE} {s : Store} {K : KS} : type_of% (@X_at C e s K _ _ x4_L0.eq_1) := X_at x4_L0.eq_1
def x4 : XC := .seq (.reg [⟨some 4, .box 24 (.tmp 1), none⟩, ⟨some 5, .box 31 (.tmp 2), none⟩, ⟨some 6, .assign (.const (.bool false)), none⟩]) (.seq (.seq (.reg [⟨some 12, .call ⟨.value (.func 7), #[], #[]⟩, none⟩, ⟨some 13, .unOp .not 4 (.tmp 12), none⟩]) (.cond (.tmp 13) (.seq (.reg [⟨some 6, .assign (.const (.bool false)), none⟩]) (.ret)) (.skip))) (.seq (.seq (.reg [⟨some 14, .load 24 (.tmp 4), none⟩, ⟨some 15, .call ⟨.value (.func 8), #[.tmp 14, .const (.int .i64 0)], #[24, 3]⟩, none⟩, ⟨some 16, .move (.tmp 15), none⟩, ⟨some 17, .load 31 (.tmp 5), some (some 16, false)⟩, ⟨some 18, .call ⟨.value (.func 17), #[.tmp 17, .const (.int .i64 40), .const (.int .i64 2000)], #[31, 3, 3]⟩, some (some 16, false)⟩, ⟨some 19, .field 33 (.tmp 18) 0, some (some 16, false)⟩, ⟨some 20, .binOp .neq 3 (.tmp 19) (.const (.int .i64 0)) 3, some (some 16, false)⟩, ⟨some 21, .pick (.tmp 16) (.const (.bool true)) (.tmp 20), none⟩, ⟨some 22, .move (.tmp 21), none⟩, ⟨some 23, .move (.tmp 0), some (some 22, false)⟩, ⟨some 24, .binOp .lss 3 (.tmp 23) (.const (.int .i64 1)) 3, some (some 22, false)⟩, ⟨some 25, .pick (.tmp 22) (.const (.bool true)) (.tmp 24), none⟩, ⟨some 26, .move (.tmp 25), none⟩, ⟨some 27, .move (.tmp 0), some (some 26, false)⟩, ⟨some 28, .binOp .gtr 3 (.tmp 27) (.const (.int .i64 8)) 3, some (some 26, false)⟩, ⟨some 29, .pick (.tmp 26) (.const (.bool true)) (.tmp 28), none⟩, ⟨some 30, .move (.tmp 29), none⟩, ⟨some 31, .load 31 (.tmp 5), some (some 30, false)⟩, ⟨some 32, .move (.tmp 0), some (some 30, false)⟩, ⟨some 33, .call ⟨.value (.func 19), #[.tmp 31, .tmp 32], #[31, 3]⟩, some (some 30, false)⟩, ⟨some 34, .unOp .not 4 (.tmp 33), some (some 30, false)⟩, ⟨some 35, .pick (.tmp 30) (.const (.bool true)) (.tmp 34), none⟩]) (.cond (.tmp 35) (.seq (.reg [⟨some 6, .assign (.const (.bool true)), none⟩]) (.ret)) (.skip))) (.seq (.reg [⟨some 37, .move (.tmp 0), none⟩, ⟨some 38, .load 24 (.tmp 4), none⟩, ⟨some 39, .call ⟨.value (.func 10), #[.tmp 37, .tmp 38], #[3, 24]⟩, none⟩, ⟨some 36, .move (.tmp 39), none⟩, ⟨some 40, .extract (.tmp 36) 0, none⟩, ⟨some 41, .extract (.tmp 36) 1, none⟩, ⟨some 42, .extract (.tmp 36) 2, none⟩, ⟨some 8, .alloc 31, none⟩, ⟨some 9, .alloc 33, none⟩, ⟨some 7, .assign (.tmp 40), none⟩, ⟨none, .store 31 (.tmp 8) (.tmp 41), none⟩, ⟨none, .store 33 (.tmp 9) (.tmp 42), none⟩]) (.seq (.seq (.reg [⟨some 43, .fieldAddr 33 (.tmp 9) 0, none⟩, ⟨some 44, .load 3 (.tmp 43), none⟩, ⟨some 45, .binOp .neq 3 (.tmp 44) (.const (.int .i64 0)) 3, none⟩, ⟨some 46, .move (.tmp 45), none⟩, ⟨some 47, .move (.tmp 7), some (some 46, false)⟩, ⟨some 48, .unOp .not 4 (.tmp 47), some (some 46, false)⟩, ⟨some 49, .pick (.tmp 46) (.const (.bool true)) (.tmp 48), none⟩]) (.cond (.tmp 49) (.seq (.reg [⟨some 6, .assign (.const (.bool true)), none⟩]) (.ret)) (.skip))) (.seq (.reg [⟨some 50, .load 31 (.tmp 5), none⟩, ⟨some 51, .load 24 (.tmp 4), none⟩, ⟨some 52, .call ⟨.value (.func 18), #[.tmp 50, .tmp 51], #[31, 24]⟩, none⟩, ⟨some 10, .assign (.tmp 52), none⟩]) (.seq (.seq (.reg [⟨some 11, .assign (.const (.int .i64 0)), none⟩]) (.bloop 0 x4_L0)) (.seq (.reg [⟨some 6, .assign (.const (.bool true)), none⟩]) (.ret))))))))
theorem x4_eq {C : WC} {e : AE} {s : Store} {K : KS} : type_of% (@X_at C e s K _ _ x4.eq_1) := X_at x4.eq_1
attribute [simp] x4_L0_eq x4_eq
def an4 : Ann := ⟨[], [(0, [], [5, 10, 11], [6])], []⟩
def cx4 (P : Program) (m : Nat) : WC := ⟨P, m, an4⟩
@[simp] theorem cx4_P {P : Program} {m : Nat} : (cx4 P m).P = P := rfl
@[simp] theorem cx4_m {P : Program} {m : Nat} : (cx4 P m).m = m := rfl
instance {P : Program} {m f : Nat} [h : EnT P f] : EnT (cx4 P m).P f := h
@[simp] theorem cx4_l0 {P : Program} {m : Nat} : (cx4 P m).A.loopOf 0 = ([], [5, 10, 11], [6]) := rfl
theorem chk4 : ∀ c, Try.f4.body = some c → chkC Try.f4.ntmps an4 c = true := by intro c h; obtain rfl := Option.some.inj h; decide +kernel
theorem op4 {args : List PV} {v : PV} (h : X (cx4 Try.prog 0) x4 (argsA 0 args) [] (.fin [.tmp 6] fun v1 s1 => deref s1 6 v1 = v)) (hl : args.length ≤ Try.f4.ntmps := by rw [Try.ntmps4]; simp) : CallOK Try.prog 4 args [] v [] :=
  callX (m := 0) (cx4 Try.prog 0) x4 rfl rfl (by kernel_rfl) Try.func4 rfl rfl hl mixed (chk4 _ rfl) (by rw [Try.results4]; exact h)
theorem ops4 {args : List PV} {v : PV} {s s' : Store} (fin : PV → Store → Prop) (hfin : ∀ v1 s1, fin v1 s1 → RetView s.length v1 s1 v s') (h : X (cx4 Try.prog s.length) x4 (argsA 0 args) s (.fin [.tmp 6] fin)) (hl : args.length ≤ Try.f4.ntmps := by rw [Try.ntmps4]; simp) : CallOK Try.prog 4 args s v s' :=
  callXS (m := 0) (cx4 Try.prog s.length) x4 rfl rfl (by kernel_rfl) Try.func4 rfl rfl hl mixed (chk4 _ rfl) fin hfin (by rw [Try.results4]; exact h)
theorem os4 {args : List PV} {v : PV} (h : X (cx4 Try.prog 0) x4 (argsA 0 args) [] (.fin [.tmp 6] fun v1 s1 => softV (deref s1 6 v1) = v)) (hl : args.length ≤ Try.f4.ntmps := by rw [Try.ntmps4]; simp) : CallOK Try.prog 4 args [] v [] :=
  callXF (m := 0) (cx4 Try.prog 0) x4 rfl rfl (by kernel_rfl) Try.func4 rfl rfl hl mixed (chk4 _ rfl) (by rw [Try.results4]; exact h)
theorem og4 {args : List PV} {v : PV} {s s' : Store} (h : X (cx4 Try.prog s.length) x4 (argsA 0 args) s (.fin [.tmp 6] (gcFin s.length v s'))) (hl : args.length ≤ Try.f4.ntmps := by rw [Try.ntmps4]; simp) : CallOK Try.prog 4 args s v s' :=
  callXG (m := 0) (cx4 Try.prog s.length) x4 rfl rfl (by kernel_rfl) Try.func4 rfl rfl hl mixed (chk4 _ rfl) (by rw [Try.results4]; exact h)

theorem modlogSound_law (lg : Int) (f : Fm) (m : Mdl) : CallOK Try.prog 4 [.int .i64 lg, .agg (frm f), .agg (mdl m)] [] (.bool true) [] := by
  have vf := vast_ref f 0 (by omega) (by omega) []
  have h1 := Decide_modlog lg f
  have hmf := ModelFault_ref m 40 2000
  unfold decT at h1
  refine op4 ?_
  by_cases hM : (mfault m 40 2000).1 = 0
  · obtain ⟨n, hm, ht, hn1⟩ := mfault_zero hM (by omega)
    have hol := OfLogic_ref m n hm lg
    by_cases hE : (decE lg f).1 = 0
    · have hok := td_ok (decE_zero hE).1
      have hat := AllAt_ref m n hm ht f hok
      ((try simp (implicitDefEqProofs := false) (disch := first | assumption | (try simp only [lens]); omega -splitDisjunctions) [hM, hE]); all_goals try (repeat' ((first | (with_reducible refine And.intro ?_ ?_; (first | omega | (simp; done) | (simp; omega))) | (with_reducible refine Exists.intro ?_ ?_; (first | omega | (simp; done) | (simp; omega))) | (with_reducible refine spl (And.intro ?_ ?_) <;> intro _) | (refine CL.clo (modlogBegun_law) ?_) | (refine CM.clo (modlogBegun_law) ?_) | (refine CD.clo (modlogBegun_law) ?_) | (refine CL.clo (vf) ?_) | (refine CM.clo (vf) ?_) | (refine CD.clo (vf) ?_) | (refine CL.clo (hmf) ?_) | (refine CM.clo (hmf) ?_) | (refine CD.clo (hmf) ?_) | (refine CL.clo (hol) ?_) | (refine CM.clo (hol) ?_) | (refine CD.clo (hol) ?_) | (refine CL.clo (h1) ?_) | (refine CM.clo (h1) ?_) | (refine CD.clo (h1) ?_) | (refine CL.clo (hat) ?_) | (refine CM.clo (hat) ?_) | (refine CD.clo (hat) ?_)) <;> (try simp (implicitDefEqProofs := false) (disch := first | assumption | (try simp only [lens]); omega -splitDisjunctions) [hM, hE]))))
      refine W_of fun Q hQ => ?_
      have hlt : lg = ((lg.toNat : Nat) : Int) := by omega
      have hfr : Frame lg.toNat n (seeT m) := by
        refine (ofLogic_frame (by omega) (by omega)).1 ?_
        rw [← hlt]; simpa using ‹(!ofLogicB m n lg) = false›
      have hval : ValidF lg.toNat f := (decB_valid hE).1 (by simpa using ‹(!decB lg f) = false›)
      have hall : ∀ w (h : w < n), (atB m n f)[w]'(by simpa using h) = true := fun w h => by rw [atB_get]; exact hval n _ _ hfr w h
      obtain ⟨mn, rel, tr⟩ := m
      obtain ⟨hn, hs, hrel⟩ := hm
      simp only at hn hrel ht
      subst hn
      have main : ∀ k i, i + k = n → Q [(5, .ptr 0 0 0), (10, .list ((atB ⟨n, rel, tr⟩ n f).map boolRow)), (11, .int .i64 (i : Int))] [.rows 3 [mdl ⟨n, rel, tr⟩]] := by
        intro k
        induction k with
        | zero =>
          intro i hi
          apply hQ
          (((try simp (implicitDefEqProofs := false)); (try simp (implicitDefEqProofs := false) (disch := first | assumption | (try simp only [lens]); omega -splitDisjunctions))); all_goals try (repeat' ((first | (with_reducible refine And.intro ?_ ?_; (first | omega | (simp; done) | (simp; omega))) | (with_reducible refine Exists.intro ?_ ?_; (first | omega | (simp; done) | (simp; omega))) | (with_reducible refine spl (And.intro ?_ ?_) <;> intro _)) <;> ((try simp (implicitDefEqProofs := false)); (try simp (implicitDefEqProofs := false) (disch := first | assumption | (try simp only [lens]); omega -splitDisjunctions))))))
        | succ k ih =>
          intro i hi
          have hin : i < n := by omega
          have ih := ih (i + 1) (by omega)
          have ha := hall i hin
          apply hQ
          (((try simp (implicitDefEqProofs := false) [ha, hin]); (try simp (implicitDefEqProofs := false) (disch := first | assumption | (try simp only [lens]); omega -splitDisjunctions) [ha, hin])); all_goals try (repeat' ((first | (with_reducible refine And.intro ?_ ?_; (first | omega | (simp; done) | (simp; omega))) | (with_reducible refine Exists.intro ?_ ?_; (first | omega | (simp; done) | (simp; omega))) | (with_reducible refine spl (And.intro ?_ ?_) <;> intro _)) <;> ((try simp (implicitDefEqProofs := false) [ha, hin]); (try simp (implicitDefEqProofs := false) (disch := first | assumption | (try simp only [lens]); omega -splitDisjunctions) [ha, hin])))))
          simpa using ih
      simpa using main n 0 (by omega)
    · ((try simp (implicitDefEqProofs := false) (disch := first | assumption | (try simp only [lens]); omega -splitDisjunctions) [hM, hE]); all_goals try (repeat' ((first | (with_reducible refine And.intro ?_ ?_; (first | omega | (simp; done) | (simp; omega))) | (with_reducible refine Exists.intro ?_ ?_; (first | omega | (simp; done) | (simp; omega))) | (with_reducible refine spl (And.intro ?_ ?_) <;> intro _) | (refine CL.clo (modlogBegun_law) ?_) | (refine CM.clo (modlogBegun_law) ?_) | (refine CD.clo (modlogBegun_law) ?_) | (refine CL.clo (vf) ?_) | (refine CM.clo (vf) ?_) | (refine CD.clo (vf) ?_) | (refine CL.clo (hmf) ?_) | (refine CM.clo (hmf) ?_) | (refine CD.clo (hmf) ?_) | (refine CL.clo (hol) ?_) | (refine CM.clo (hol) ?_) | (refine CD.clo (hol) ?_) | (refine CL.clo (h1) ?_) | (refine CM.clo (h1) ?_) | (refine CD.clo (h1) ?_)) <;> (try simp (implicitDefEqProofs := false) (disch := first | assumption | (try simp only [lens]); omega -splitDisjunctions) [hM, hE]))))
  · ((try simp (implicitDefEqProofs := false) (disch := first | assumption | (try simp only [lens]); omega -splitDisjunctions) [hM]); all_goals try (repeat' ((first | (with_reducible refine And.intro ?_ ?_; (first | omega | (simp; done) | (simp; omega))) | (with_reducible refine Exists.intro ?_ ?_; (first | omega | (simp; done) | (simp; omega))) | (with_reducible refine spl (And.intro ?_ ?_) <;> intro _) | (refine CL.clo (modlogBegun_law) ?_) | (refine CM.clo (modlogBegun_law) ?_) | (refine CD.clo (modlogBegun_law) ?_) | (refine CL.clo (vf) ?_) | (refine CM.clo (vf) ?_) | (refine CD.clo (vf) ?_) | (refine CL.clo (hmf) ?_) | (refine CM.clo (hmf) ?_) | (refine CD.clo (hmf) ?_)) <;> (try simp (implicitDefEqProofs := false) (disch := first | assumption | (try simp only [lens]); omega -splitDisjunctions) [hM]))))
end Go.Proofs.Ytliockncjdeloaa
