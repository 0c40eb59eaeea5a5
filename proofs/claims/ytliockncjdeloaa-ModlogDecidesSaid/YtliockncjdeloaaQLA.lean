/-
  law10: of, both, named, modlogBegun, ModlogChain.
-/
import Derived.Test.YtliockncjdeloaaQPa
import Derived.Test.YtliockncjdeloaaModE
namespace Go.Proofs.Ytliockncjdeloaa
open Go Go.Pv
set_option linter.unusedVariables false
set_option linter.unusedSimpArgs false
set_option maxRecDepth 100000
set_option maxHeartbeats 4000000

def x20 : XC := .seq (.reg [⟨some 3,.box 24 (.tmp 1),none⟩,⟨some 4,.alloc 24,none⟩]) (.seq (.reg [⟨some 5,.move (.tmp 0),none⟩,⟨some 6,.load 24 (.tmp 3),none⟩,⟨some 7,.buildSlice 22 1 #[(0,.tmp 6)],none⟩,⟨some 8,.build 24 #[(0,.tmp 5),(2,.tmp 7)],none⟩,⟨none,.store 24 (.tmp 4) (.tmp 8),none⟩]) (.ret))
@[simp] theorem x20_s {C : WC} {e : AE} {s : Store} {K : KS} : type_of% (@X_at C e s K _ _ x20.eq_1) := X_at x20.eq_1
def an20 : Ann := ⟨[], [], []⟩
def cx20 (P : Program) (m : Nat) : WC := ⟨P, m, an20⟩
@[simp] theorem cx20_a {P : Program} {m : Nat} : (cx20 P m).P = P ∧ (cx20 P m).m = m := ⟨rfl, rfl⟩
instance {P : Program} {m f : Nat} [h : EnT P f] : EnT (cx20 P m).P f := h
theorem chk20 : ∀ c, Try.f20.body = some c → chkC Try.f20.ntmps an20 c = true := by intro c h; obtain rfl := Option.some.inj h; decide +kernel
theorem op20 {args : List PV} {v : PV} (h : X (cx20 Try.prog 0) x20 (argsA 0 args) [] (.fin [.cell 4 24] fun v1 s1 => deref s1 6 v1 = v)) (hl : args.length ≤ Try.f20.ntmps := by rw [Try.ntmps20]; simp) : CallOK Try.prog 20 args [] v [] :=
  callX (m := 0) (cx20 Try.prog 0) x20 rfl rfl (by kernel_rfl) Try.func20 rfl rfl hl mixed (chk20 _ rfl) (by rw [Try.results20]; exact h)

theorem of_law (k : Int) (a : Fm) : CallOK Try.prog 20 [.int .i64 k, .agg (frm a)] [] (.agg (frm (of1 k a))) [] := by
  refine op20 ?_
  ((try simp (implicitDefEqProofs := false) (disch := first | assumption | (try simp only [lens]); omega -splitDisjunctions)); all_goals try (repeat' ((first | ((with_reducible first | refine And.intro ?_ ?_ | refine Exists.intro ?_ ?_); first | omega | (simp <;> omega)) | (with_reducible refine spl (And.intro ?_ ?_) <;> intro _)) <;> (try simp (implicitDefEqProofs := false) (disch := first | assumption | (try simp only [lens]); omega -splitDisjunctions)))))
  rw [frm_eq (of1 k a)]; rfl
def x21 : XC := .seq (.reg [⟨some 4,.box 24 (.tmp 1),none⟩,⟨some 5,.box 24 (.tmp 2),none⟩,⟨some 6,.alloc 24,none⟩]) (.seq (.reg [⟨some 7,.move (.tmp 0),none⟩,⟨some 8,.load 24 (.tmp 4),none⟩,⟨some 9,.load 24 (.tmp 5),none⟩,⟨some 10,.buildSlice 22 2 #[(0,.tmp 8),(1,.tmp 9)],none⟩,⟨some 11,.build 24 #[(0,.tmp 7),(2,.tmp 10)],none⟩,⟨none,.store 24 (.tmp 6) (.tmp 11),none⟩]) (.ret))
@[simp] theorem x21_s {C : WC} {e : AE} {s : Store} {K : KS} : type_of% (@X_at C e s K _ _ x21.eq_1) := X_at x21.eq_1
def an21 : Ann := ⟨[], [], []⟩
def cx21 (P : Program) (m : Nat) : WC := ⟨P, m, an21⟩
@[simp] theorem cx21_a {P : Program} {m : Nat} : (cx21 P m).P = P ∧ (cx21 P m).m = m := ⟨rfl, rfl⟩
instance {P : Program} {m f : Nat} [h : EnT P f] : EnT (cx21 P m).P f := h
theorem chk21 : ∀ c, Try.f21.body = some c → chkC Try.f21.ntmps an21 c = true := by intro c h; obtain rfl := Option.some.inj h; decide +kernel
theorem op21 {args : List PV} {v : PV} (h : X (cx21 Try.prog 0) x21 (argsA 0 args) [] (.fin [.cell 6 24] fun v1 s1 => deref s1 6 v1 = v)) (hl : args.length ≤ Try.f21.ntmps := by rw [Try.ntmps21]; simp) : CallOK Try.prog 21 args [] v [] :=
  callX (m := 0) (cx21 Try.prog 0) x21 rfl rfl (by kernel_rfl) Try.func21 rfl rfl hl mixed (chk21 _ rfl) (by rw [Try.results21]; exact h)

theorem both_law (k : Int) (a b : Fm) : CallOK Try.prog 21 [.int .i64 k, .agg (frm a), .agg (frm b)] [] (.agg (frm (of2 k a b))) [] := by
  refine op21 ?_
  ((try simp (implicitDefEqProofs := false) (disch := first | assumption | (try simp only [lens]); omega -splitDisjunctions)); all_goals try (repeat' ((first | ((with_reducible first | refine And.intro ?_ ?_ | refine Exists.intro ?_ ?_); first | omega | (simp <;> omega)) | (with_reducible refine spl (And.intro ?_ ?_) <;> intro _)) <;> (try simp (implicitDefEqProofs := false) (disch := first | assumption | (try simp only [lens]); omega -splitDisjunctions)))))
  rw [frm_eq (of2 k a b)]; rfl
def x24 : XC := .seq (.reg [⟨some 2,.alloc 24,none⟩]) (.seq (.reg [⟨some 3,.move (.tmp 0),none⟩,⟨some 4,.build 24 #[(0,.const (.int .i64 1)),(1,.tmp 3)],none⟩,⟨none,.store 24 (.tmp 2) (.tmp 4),none⟩]) (.ret))
@[simp] theorem x24_s {C : WC} {e : AE} {s : Store} {K : KS} : type_of% (@X_at C e s K _ _ x24.eq_1) := X_at x24.eq_1
def an24 : Ann := ⟨[], [], []⟩
def cx24 (P : Program) (m : Nat) : WC := ⟨P, m, an24⟩
@[simp] theorem cx24_a {P : Program} {m : Nat} : (cx24 P m).P = P ∧ (cx24 P m).m = m := ⟨rfl, rfl⟩
instance {P : Program} {m f : Nat} [h : EnT P f] : EnT (cx24 P m).P f := h
theorem chk24 : ∀ c, Try.f24.body = some c → chkC Try.f24.ntmps an24 c = true := by intro c h; obtain rfl := Option.some.inj h; decide +kernel
theorem os24 {args : List PV} {v : PV} (h : X (cx24 Try.prog 0) x24 (argsA 0 args) [] (.fin [.cell 2 24] fun v1 s1 => softV (deref s1 6 v1) = v)) (hl : args.length ≤ Try.f24.ntmps := by rw [Try.ntmps24]; simp) : CallOK Try.prog 24 args [] v [] :=
  callXF (m := 0) (cx24 Try.prog 0) x24 rfl rfl (by kernel_rfl) Try.func24 rfl rfl hl mixed (chk24 _ rfl) (by rw [Try.results24]; exact h)

theorem named_law (nm : ByteArray) : CallOK Try.prog 24 [.str nm] [] (.agg (frm (.mk 1 nm []))) [] := by
  refine os24 ?_
  ((try simp (implicitDefEqProofs := false) (disch := first | assumption | (try simp only [lens]); omega -splitDisjunctions)); all_goals try (repeat' ((first | ((with_reducible first | refine And.intro ?_ ?_ | refine Exists.intro ?_ ?_); first | omega | (simp <;> omega)) | (with_reducible refine spl (And.intro ?_ ?_) <;> intro _)) <;> (try simp (implicitDefEqProofs := false) (disch := first | assumption | (try simp only [lens]); omega -splitDisjunctions)))))
  rw [frm_eq]; rfl
def x7 : XC := .seq (.reg [⟨some 0,.assign (.const (.bool false)),none⟩]) (.seq (.reg [⟨some 10,.call ⟨.value (.func 24),#[.const (.string ⟨#[112]⟩)],#[9]⟩,none⟩,⟨some 1,.alloc 24,none⟩,⟨none,.store 24 (.tmp 1) (.tmp 10),none⟩]) (.seq (.reg [⟨some 11,.load 24 (.tmp 1),none⟩,⟨some 12,.call ⟨.value (.func 20),#[.const (.int .i64 8),.tmp 11],#[3,24]⟩,none⟩,⟨some 2,.alloc 24,none⟩,⟨none,.store 24 (.tmp 2) (.tmp 12),none⟩]) (.seq (.drawn 3 [⟨some 13,.load 24 (.tmp 2),none⟩,⟨some 14,.load 24 (.tmp 1),none⟩,⟨some 15,.call ⟨.value (.func 21),#[.const (.int .i64 7),.tmp 13,.tmp 14],#[3,24,24]⟩,none⟩,⟨some 16,.call ⟨.value (.func 20),#[.const (.int .i64 8),.tmp 15],#[3,24]⟩,none⟩,⟨some 17,.load 24 (.tmp 2),none⟩,⟨some 18,.call ⟨.value (.func 21),#[.const (.int .i64 7),.tmp 16,.tmp 17],#[3,24,24]⟩,none⟩,⟨some 3,.alloc 24,none⟩,⟨none,.store 24 (.tmp 3) (.tmp 18),none⟩]) (.seq (.reg [⟨some 20,.load 24 (.tmp 3),none⟩,⟨some 21,.call ⟨.value (.func 10),#[.const (.int .i64 8),.tmp 20],#[3,24]⟩,none⟩,⟨some 19,.move (.tmp 21),none⟩,⟨some 22,.extract (.tmp 19) 0,none⟩,⟨some 23,.extract (.tmp 19) 1,none⟩,⟨some 24,.extract (.tmp 19) 2,none⟩,⟨some 5,.alloc 31,none⟩,⟨some 6,.alloc 33,none⟩,⟨some 4,.assign (.tmp 22),none⟩,⟨none,.store 31 (.tmp 5) (.tmp 23),none⟩,⟨none,.store 33 (.tmp 6) (.tmp 24),none⟩]) (.seq (.reg [⟨some 26,.load 24 (.tmp 3),none⟩,⟨some 27,.call ⟨.value (.func 10),#[.const (.int .i64 5),.tmp 26],#[3,24]⟩,none⟩,⟨some 25,.move (.tmp 27),none⟩,⟨some 28,.extract (.tmp 25) 0,none⟩,⟨some 29,.extract (.tmp 25) 1,none⟩,⟨some 30,.extract (.tmp 25) 2,none⟩,⟨some 8,.alloc 31,none⟩,⟨some 9,.alloc 33,none⟩,⟨some 7,.assign (.tmp 28),none⟩,⟨none,.store 31 (.tmp 8) (.tmp 29),none⟩,⟨none,.store 33 (.tmp 9) (.tmp 30),none⟩]) (.seq (.reg [⟨some 31,.fieldAddr 33 (.tmp 6) 0,none⟩,⟨some 32,.load 3 (.tmp 31),none⟩,⟨some 33,.binOp .eql 3 (.tmp 32) (.const (.int .i64 0)) 3,none⟩,⟨some 34,.move (.tmp 33),none⟩,⟨some 35,.fieldAddr 33 (.tmp 9) 0,some (some 34,true)⟩,⟨some 36,.load 3 (.tmp 35),some (some 34,true)⟩,⟨some 37,.binOp .eql 3 (.tmp 36) (.const (.int .i64 0)) 3,some (some 34,true)⟩,⟨some 38,.pick (.tmp 34) (.tmp 37) (.const (.bool false)),none⟩,⟨some 39,.move (.tmp 38),none⟩,⟨some 40,.move (.tmp 4),some (some 39,true)⟩,⟨some 41,.pick (.tmp 39) (.tmp 40) (.const (.bool false)),none⟩,⟨some 42,.move (.tmp 41),none⟩,⟨some 43,.move (.tmp 7),some (some 42,true)⟩,⟨some 44,.unOp .not 4 (.tmp 43),some (some 42,true)⟩,⟨some 45,.pick (.tmp 42) (.tmp 44) (.const (.bool false)),none⟩,⟨some 0,.assign (.tmp 45),none⟩]) (.ret)))))))
@[simp] theorem x7_s {C : WC} {e : AE} {s : Store} {K : KS} : type_of% (@X_at C e s K _ _ x7.eq_1) := X_at x7.eq_1
def an7 : Ann := ⟨[(3, .mix 7)], [], []⟩
def cx7 (P : Program) (m : Nat) : WC := ⟨P, m, an7⟩
@[simp] theorem cx7_a {P : Program} {m : Nat} : (cx7 P m).P = P ∧ (cx7 P m).m = m ∧ (cx7 P m).A.clsOf 3 = .mix 7 ∧ (cx7 P m).A.frzOf 3 = [] := ⟨rfl, rfl, rfl, rfl⟩
instance {P : Program} {m f : Nat} [h : EnT P f] : EnT (cx7 P m).P f := h
theorem chk7 : ∀ c, Try.f7.body = some c → chkC Try.f7.ntmps an7 c = true := by intro c h; obtain rfl := Option.some.inj h; decide +kernel
theorem op7 {args : List PV} {v : PV} (h : X (cx7 Try.prog 0) x7 (argsA 0 args) [] (.fin [.tmp 0] fun v1 s1 => deref s1 6 v1 = v)) (hl : args.length ≤ Try.f7.ntmps := by rw [Try.ntmps7]; simp) : CallOK Try.prog 7 args [] v [] :=
  callX (m := 0) (cx7 Try.prog 0) x7 rfl rfl (by kernel_rfl) Try.func7 rfl rfl hl mixed (chk7 _ rfl) (by rw [Try.results7]; exact h)

theorem modlogBegun_law : CallOK Try.prog 7 [] [] (.bool true) [] := by
  have h8 := Decide_modlog 8 fLoeb
  have h5 := Decide_modlog 5 fLoeb
  rw [loeb_decE (by decide) (by decide)] at h8 h5
  rw [loeb8] at h8
  rw [loeb5] at h5
  refine op7 ?_
  unfold decT at h8 h5
  have hn := named_law ⟨#[112]⟩
  ((try simp (implicitDefEqProofs := false) (disch := first | assumption | (try simp only [lens]); omega -splitDisjunctions)); all_goals try (repeat' ((first | ((with_reducible first | refine And.intro ?_ ?_ | refine Exists.intro ?_ ?_); first | omega | (simp <;> omega)) | (with_reducible refine spl (And.intro ?_ ?_) <;> intro _) | (refine CL.clo (hn) ?_) | (refine CM.clo (hn) ?_) | (refine CD.clo (hn) ?_) | (refine CL.clo (of_law 8 fP) ?_) | (refine CM.clo (of_law 8 fP) ?_) | (refine CD.clo (of_law 8 fP) ?_) | (refine CL.clo (both_law 7 (of1 8 fP) fP) ?_) | (refine CM.clo (both_law 7 (of1 8 fP) fP) ?_) | (refine CD.clo (both_law 7 (of1 8 fP) fP) ?_) | (refine CL.clo (of_law 8 (of2 7 (of1 8 fP) fP)) ?_) | (refine CM.clo (of_law 8 (of2 7 (of1 8 fP) fP)) ?_) | (refine CD.clo (of_law 8 (of2 7 (of1 8 fP) fP)) ?_) | (refine CL.clo (both_law 7 (of1 8 (of2 7 (of1 8 fP) fP)) (of1 8 fP)) ?_) | (refine CM.clo (both_law 7 (of1 8 (of2 7 (of1 8 fP) fP)) (of1 8 fP)) ?_) | (refine CD.clo (both_law 7 (of1 8 (of2 7 (of1 8 fP) fP)) (of1 8 fP)) ?_) | (refine CL.clo (h8) ?_) | (refine CM.clo (h8) ?_) | (refine CD.clo (h8) ?_) | (refine CL.clo (h5) ?_) | (refine CM.clo (h5) ?_) | (refine CD.clo (h5) ?_)) <;> (try simp (implicitDefEqProofs := false) (disch := first | assumption | (try simp only [lens]); omega -splitDisjunctions)))))
end Go.Proofs.Ytliockncjdeloaa
