/-
  law10: of, both, named, modlogBegun, ModlogChain.
-/
import Derived.Test.YtliockncjdeloaaQPa
import Derived.Test.YtliockncjdeloaaModE
namespace Go.Proofs.Ytliockncjdeloaa
open Go Go.Pv
set_option linter.unusedVariables false
set_option linter.unusedSimpArgs false
set_option maxRecDepth 100000
set_option maxHeartbeats 4000000

def x20 : XC := .seq (.reg [⟨some 3, .box 24 (.tmp 1), none⟩, ⟨some 4, .alloc 24, none⟩]) (.seq (.reg [⟨some 5, .move (.tmp 0), none⟩, ⟨some 6, .load 24 (.tmp 3), none⟩, ⟨some 7, .buildSlice 22 1 #[(0, .tmp 6)], none⟩, ⟨some 8, .build 24 #[(0, .tmp 5), (2, .tmp 7)], none⟩, ⟨none, .store 24 (.tmp 4) (.tmp 8), none⟩]) (.ret))
theorem x20_eq {C : WC} {e : AE} {s : Store} {K : KS} : type_of% (@X_at C e s K _ _ x20.eq_1) := X_at x20.eq_1
attribute [simp] x20_eq
def an20 : Ann := ⟨[], [], []⟩
def cx20 (P : Program) (m : Nat) : WC := ⟨P, m, an20⟩
@[simp] theorem cx20_P {P : Program} {m : Nat} : (cx20 P m).P = P := rfl
@[simp] theorem cx20_m {P : Program} {m : Nat} : (cx20 P m).m = m := rfl
instance {P : Program} {m f : Nat} [h : EnT P f] : EnT (cx20 P m).P f := h
theorem chk20 : ∀ c, Try.f20.body = some c → chkC Try.f20.ntmps an20 c = true := by intro c h; obtain rfl := Option.some.inj h; decide +kernel
theorem op20 {args : List PV} {v : PV} (h : X (cx20 Try.prog 0) x20 (argsA 0 args) [] (.fin [.cell 4 24] fun v1 s1 => deref s1 6 v1 = v)) (hl : args.length ≤ Try.f20.ntmps := by rw [Try.ntmps20]; simp) : CallOK Try.prog 20 args [] v [] :=
  callX (m := 0) (cx20 Try.prog 0) x20 rfl rfl (by kernel_rfl) Try.func20 rfl rfl hl mixed (chk20 _ rfl) (by rw [Try.results20]; exact h)
theorem ops20 {args : List PV} {v : PV} {s s' : Store} (fin : PV → Store → Prop) (hfin : ∀ v1 s1, fin v1 s1 → RetView s.length v1 s1 v s') (h : X (cx20 Try.prog s.length) x20 (argsA 0 args) s (.fin [.cell 4 24] fin)) (hl : args.length ≤ Try.f20.ntmps := by rw [Try.ntmps20]; simp) : CallOK Try.prog 20 args s v s' :=
  callXS (m := 0) (cx20 Try.prog s.length) x20 rfl rfl (by kernel_rfl) Try.func20 rfl rfl hl mixed (chk20 _ rfl) fin hfin (by rw [Try.results20]; exact h)
theorem os20 {args : List PV} {v : PV} (h : X (cx20 Try.prog 0) x20 (argsA 0 args) [] (.fin [.cell 4 24] fun v1 s1 => softV (deref s1 6 v1) = v)) (hl : args.length ≤ Try.f20.ntmps := by rw [Try.ntmps20]; simp) : CallOK Try.prog 20 args [] v [] :=
  callXF (m := 0) (cx20 Try.prog 0) x20 rfl rfl (by kernel_rfl) Try.func20 rfl rfl hl mixed (chk20 _ rfl) (by rw [Try.results20]; exact h)
theorem og20 {args : List PV} {v : PV} {s s' : Store} (h : X (cx20 Try.prog s.length) x20 (argsA 0 args) s (.fin [.cell 4 24] (gcFin s.length v s'))) (hl : args.length ≤ Try.f20.ntmps := by rw [Try.ntmps20]; simp) : CallOK Try.prog 20 args s v s' :=
  callXG (m := 0) (cx20 Try.prog s.length) x20 rfl rfl (by kernel_rfl) Try.func20 rfl rfl hl mixed (chk20 _ rfl) (by rw [Try.results20]; exact h)

theorem of_law (k : Int) (a : Fm) : CallOK Try.prog 20 [.int .i64 k, .agg (frm a)] [] (.agg (frm (of1 k a))) [] := by
  refine op20 ?_
  ((try simp (implicitDefEqProofs := false) (disch := first | assumption | (try simp only [lens]); omega -splitDisjunctions)); all_goals try (repeat' ((first | (with_reducible refine And.intro ?_ ?_; (first | omega | (simp; done) | (simp; omega))) | (with_reducible refine Exists.intro ?_ ?_; (first | omega | (simp; done) | (simp; omega))) | (with_reducible refine spl (And.intro ?_ ?_) <;> intro _)) <;> (try simp (implicitDefEqProofs := false) (disch := first | assumption | (try simp only [lens]); omega -splitDisjunctions)))))
  rw [frm_eq (of1 k a)]; rfl
def x21 : XC := .seq (.reg [⟨some 4, .box 24 (.tmp 1), none⟩, ⟨some 5, .box 24 (.tmp 2), none⟩, ⟨some 6, .alloc 24, none⟩]) (.seq (.reg [⟨some 7, .move (.tmp 0), none⟩, ⟨some 8, .load 24 (.tmp 4), none⟩, ⟨some 9, .load 24 (.tmp 5), none⟩, ⟨some 10, .buildSlice 22 2 #[(0, .tmp 8), (1, .tmp 9)], none⟩, ⟨some 11, .build 24 #[(0, .tmp 7), (2, .tmp 10)], none⟩, ⟨none, .store 24 (.tmp 6) (.tmp 11), none⟩]) (.ret))
theorem x21_eq {C : WC} {e : AE} {s : Store} {K : KS} : type_of% (@X_at C e s K _ _ x21.eq_1) := X_at x21.eq_1
attribute [simp] x21_eq
def an21 : Ann := ⟨[], [], []⟩
def cx21 (P : Program) (m : Nat) : WC := ⟨P, m, an21⟩
@[simp] theorem cx21_P {P : Program} {m : Nat} : (cx21 P m).P = P := rfl
@[simp] theorem cx21_m {P : Program} {m : Nat} : (cx21 P m).m = m := rfl
instance {P : Program} {m f : Nat} [h : EnT P f] : EnT (cx21 P m).P f := h
theorem chk21 : ∀ c, Try.f21.body = some c → chkC Try.f21.ntmps an21 c = true := by intro c h; obtain rfl := Option.some.inj h; decide +kernel
theorem op21 {args : List PV} {v : PV} (h : X (cx21 Try.prog 0) x21 (argsA 0 args) [] (.fin [.cell 6 24] fun v1 s1 => deref s1 6 v1 = v)) (hl : args.length ≤ Try.f21.ntmps := by rw [Try.ntmps21]; simp) : CallOK Try.prog 21 args [] v [] :=
  callX (m := 0) (cx21 Try.prog 0) x21 rfl rfl (by kernel_rfl) Try.func21 rfl rfl hl mixed (chk21 _ rfl) (by rw [Try.results21]; exact h)
theorem ops21 {args : List PV} {v : PV} {s s' : Store} (fin : PV → Store → Prop) (hfin : ∀ v1 s1, fin v1 s1 → RetView s.length v1 s1 v s') (h : X (cx21 Try.prog s.length) x21 (argsA 0 args) s (.fin [.cell 6 24] fin)) (hl : args.length ≤ Try.f21.ntmps := by rw [Try.ntmps21]; simp) : CallOK Try.prog 21 args s v s' :=
  callXS (m := 0) (cx21 Try.prog s.length) x21 rfl rfl (by kernel_rfl) Try.func21 rfl rfl hl mixed (chk21 _ rfl) fin hfin (by rw [Try.results21]; exact h)
theorem os21 {args : List PV} {v : PV} (h : X (cx21 Try.prog 0) x21 (argsA 0 args) [] (.fin [.cell 6 24] fun v1 s1 => softV (deref s1 6 v1) = v)) (hl : args.length ≤ Try.f21.ntmps := by rw [Try.ntmps21]; simp) : CallOK Try.prog 21 args [] v [] :=
  callXF (m := 0) (cx21 Try.prog 0) x21 rfl rfl (by kernel_rfl) Try.func21 rfl rfl hl mixed (chk21 _ rfl) (by rw [Try.results21]; exact h)
theorem og21 {args : List PV} {v : PV} {s s' : Store} (h : X (cx21 Try.prog s.length) x21 (argsA 0 args) s (.fin [.cell 6 24] (gcFin s.length v s'))) (hl : args.length ≤ Try.f21.ntmps := by rw [Try.ntmps21]; simp) : CallOK Try.prog 21 args s v s' :=
  callXG (m := 0) (cx21 Try.prog s.length) x21 rfl rfl (by kernel_rfl) Try.func21 rfl rfl hl mixed (chk21 _ rfl) (by rw [Try.results21]; exact h)

theorem both_law (k : Int) (a b : Fm) : CallOK Try.prog 21 [.int .i64 k, .agg (frm a), .agg (frm b)] [] (.agg (frm (of2 k a b))) [] := by
  refine op21 ?_
  ((try simp (implicitDefEqProofs := false) (disch := first | assumption | (try simp only [lens]); omega -splitDisjunctions)); all_goals try (repeat' ((first | (with_reducible refine And.intro ?_ ?_; (first | omega | (simp; done) | (simp; omega))) | (with_reducible refine Exists.intro ?_ ?_; (first | omega | (simp; done) | (simp; omega))) | (with_reducible refine spl (And.intro ?_ ?_) <;> intro _)) <;> (try simp (implicitDefEqProofs := false) (disch := first | assumption | (try simp only [lens]); omega -splitDisjunctions)))))
  rw [frm_eq (of2 k a b)]; rfl
def x24 : XC := .seq (.reg [⟨some 2, .alloc 24, none⟩]) (.seq (.reg [⟨some 3, .move (.tmp 0), none⟩, ⟨some 4, .build 24 #[(0, .const (.int .i64 1)), (1, .tmp 3)], none⟩, ⟨none, .store 24 (.tmp 2) (.tmp 4), none⟩]) (.ret))
theorem x24_eq {C : WC} {e : AE} {s : Store} {K : KS} : type_of% (@X_at C e s K _ _ x24.eq_1) := X_at x24.eq_1
attribute [simp] x24_eq
def an24 : Ann := ⟨[], [], []⟩
def cx24 (P : Program) (m : Nat) : WC := ⟨P, m, an24⟩
@[simp] theorem cx24_P {P : Program} {m : Nat} : (cx24 P m).P = P := rfl
@[simp] theorem cx24_m {P : Program} {m : Nat} : (cx24 P m).m = m := rfl
instance {P : Program} {m f : Nat} [h : EnT P f] : EnT (cx24 P m).P f := h
theorem chk24 : ∀ c, Try.f24.body = some c → chkC Try.f24.ntmps an24 c = true := by intro c h; obtain rfl := Option.some.inj h; decide +kernel
theorem op24 {args : List PV} {v : PV} (h : X (cx24 Try.prog 0) x24 (argsA 0 args) [] (.fin [.cell 2 24] fun v1 s1 => deref s1 6 v1 = v)) (hl : args.length ≤ Try.f24.ntmps := by rw [Try.ntmps24]; simp) : CallOK Try.prog 24 args [] v [] :=
  callX (m := 0) (cx24 Try.prog 0) x24 rfl rfl (by kernel_rfl) Try.func24 rfl rfl hl mixed (chk24 _ rfl) (by rw [Try.results24]; exact h)
theorem ops24 {args : List PV} {v : PV} {s s' : Store} (fin : PV → Store → Prop) (hfin : ∀ v1 s1, fin v1 s1 → RetView s.length v1 s1 v s') (h : X (cx24 Try.prog s.length) x24 (argsA 0 args) s (.fin [.cell 2 24] fin)) (hl : args.length ≤ Try.f24.ntmps := by rw [Try.ntmps24]; simp) : CallOK Try.prog 24 args s v s' :=
  callXS (m := 0) (cx24 Try.prog s.length) x24 rfl rfl (by kernel_rfl) Try.func24 rfl rfl hl mixed (chk24 _ rfl) fin hfin (by rw [Try.results24]; exact h)
theorem os24 {args : List PV} {v : PV} (h : X (cx24 Try.prog 0) x24 (argsA 0 args) [] (.fin [.cell 2 24] fun v1 s1 => softV (deref s1 6 v1) = v)) (hl : args.length ≤ Try.f24.ntmps := by rw [Try.ntmps24]; simp) : CallOK Try.prog 24 args [] v [] :=
  callXF (m := 0) (cx24 Try.prog 0) x24 rfl rfl (by kernel_rfl) Try.func24 rfl rfl hl mixed (chk24 _ rfl) (by rw [Try.results24]; exact h)
theorem og24 {args : List PV} {v : PV} {s s' : Store} (h : X (cx24 Try.prog s.length) x24 (argsA 0 args) s (.fin [.cell 2 24] (gcFin s.length v s'))) (hl : args.length ≤ Try.f24.ntmps := by rw [Try.ntmps24]; simp) : CallOK Try.prog 24 args s v s' :=
  callXG (m := 0) (cx24 Try.prog s.length) x24 rfl rfl (by kernel_rfl) Try.func24 rfl rfl hl mixed (chk24 _ rfl) (by rw [Try.results24]; exact h)

theorem named_law (nm : ByteArray) : CallOK Try.prog 24 [.str nm] [] (.agg (frm (.mk 1 nm []))) [] := by
  refine os24 ?_
  ((try simp (implicitDefEqProofs := false) (disch := first | assumption | (try simp only [lens]); omega -splitDisjunctions)); all_goals try (repeat' ((first | (with_reducible refine And.intro ?_ ?_; (first | omega | (simp; done) | (simp; omega))) | (with_reducible refine Exists.intro ?_ ?_; (first | omega | (simp; done) | (simp; omega))) | (with_reducible refine spl (And.intro ?_ ?_) <;> intro _)) <;> (try simp (implicitDefEqProofs := false) (disch := first | assumption | (try simp only [lens]); omega -splitDisjunctions)))))
  rw [frm_eq]; rfl
def x7 : XC := .seq (.reg [⟨some 0, .assign (.const (.bool false)), none⟩]) (.seq (.reg [⟨some 10, .call ⟨.value (.func 24), #[.const (.string ⟨#[112]⟩)], #[9]⟩, none⟩, ⟨some 1, .alloc 24, none⟩, ⟨none, .store 24 (.tmp 1) (.tmp 10), none⟩]) (.seq (.reg [⟨some 11, .load 24 (.tmp 1), none⟩, ⟨some 12, .call ⟨.value (.func 20), #[.const (.int .i64 8), .tmp 11], #[3, 24]⟩, none⟩, ⟨some 2, .alloc 24, none⟩, ⟨none, .store 24 (.tmp 2) (.tmp 12), none⟩]) (.seq (.drawn 3 [⟨some 13, .load 24 (.tmp 2), none⟩, ⟨some 14, .load 24 (.tmp 1), none⟩, ⟨some 15, .call ⟨.value (.func 21), #[.const (.int .i64 7), .tmp 13, .tmp 14], #[3, 24, 24]⟩, none⟩, ⟨some 16, .call ⟨.value (.func 20), #[.const (.int .i64 8), .tmp 15], #[3, 24]⟩, none⟩, ⟨some 17, .load 24 (.tmp 2), none⟩, ⟨some 18, .call ⟨.value (.func 21), #[.const (.int .i64 7), .tmp 16, .tmp 17], #[3, 24, 24]⟩, none⟩, ⟨some 3, .alloc 24, none⟩, ⟨none, .store 24 (.tmp 3) (.tmp 18), none⟩]) (.seq (.reg [⟨some 20, .load 24 (.tmp 3), none⟩, ⟨some 21, .call ⟨.value (.func 10), #[.const (.int .i64 8), .tmp 20], #[3, 24]⟩, none⟩, ⟨some 19, .move (.tmp 21), none⟩, ⟨some 22, .extract (.tmp 19) 0, none⟩, ⟨some 23, .extract (.tmp 19) 1, none⟩, ⟨some 24, .extract (.tmp 19) 2, none⟩, ⟨some 5, .alloc 31, none⟩, ⟨some 6, .alloc 33, none⟩, ⟨some 4, .assign (.tmp 22), none⟩, ⟨none, .store 31 (.tmp 5) (.tmp 23), none⟩, ⟨none, .store 33 (.tmp 6) (.tmp 24), none⟩]) (.seq (.reg [⟨some 26, .load 24 (.tmp 3), none⟩, ⟨some 27, .call ⟨.value (.func 10), #[.const (.int .i64 5), .tmp 26], #[3, 24]⟩, none⟩, ⟨some 25, .move (.tmp 27), none⟩, ⟨some 28, .extract (.tmp 25) 0, none⟩, ⟨some 29, .extract (.tmp 25) 1, none⟩, ⟨some 30, .extract (.tmp 25) 2, none⟩, ⟨some 8, .alloc 31, none⟩, ⟨some 9, .alloc 33, none⟩, ⟨some 7, .assign (.tmp 28), none⟩, ⟨none, .store 31 (.tmp 8) (.tmp 29), none⟩, ⟨none, .store 33 (.tmp 9) (.tmp 30), none⟩]) (.seq (.reg [⟨some 31, .fieldAddr 33 (.tmp 6) 0, none⟩, ⟨some 32, .load 3 (.tmp 31), none⟩, ⟨some 33, .binOp .eql 3 (.tmp 32) (.const (.int .i64 0)) 3, none⟩, ⟨some 34, .move (.tmp 33), none⟩, ⟨some 35, .fieldAddr 33 (.tmp 9) 0, some (some 34, true)⟩, ⟨some 36, .load 3 (.tmp 35), some (some 34, true)⟩, ⟨some 37, .binOp .eql 3 (.tmp 36) (.const (.int .i64 0)) 3, some (some 34, true)⟩, ⟨some 38, .pick (.tmp 34) (.tmp 37) (.const (.bool false)), none⟩, ⟨some 39, .move (.tmp 38), none⟩, ⟨some 40, .move (.tmp 4), some (some 39, true)⟩, ⟨some 41, .pick (.tmp 39) (.tmp 40) (.const (.bool false)), none⟩, ⟨some 42, .move (.tmp 41), none⟩, ⟨some 43, .move (.tmp 7), some (some 42, true)⟩, ⟨some 44, .unOp .not 4 (.tmp 43), some (some 42, true)⟩, ⟨some 45, .pick (.tmp 42) (.tmp 44) (.const (.bool false)), none⟩, ⟨some 0, .assign (.tmp 45), none⟩]) (.ret)))))))
theorem x7_eq {C : WC} {e : AE} {s : Store} {K : KS} : type_of% (@X_at C e s K _ _ x7.eq_1) := X_at x7.eq_1
attribute [simp] x7_eq
def an7 : Ann := ⟨[(3, .mix 7)], [], []⟩
def cx7 (P : Program) (m : Nat) : WC := ⟨P, m, an7⟩
@[simp] theorem cx7_P {P : Program} {m : Nat} : (cx7 P m).P = P := rfl
@[simp] theorem cx7_m {P : Program} {m : Nat} : (cx7 P m).m = m := rfl
instance {P : Program} {m f : Nat} [h : EnT P f] : EnT (cx7 P m).P f := h
@[simp] theorem cx7_c3 {P : Program} {m : Nat} : (cx7 P m).A.clsOf 3 = .mix 7 := rfl
@[simp] theorem cx7_z3 {P : Program} {m : Nat} : (cx7 P m).A.frzOf 3 = [] := rfl
theorem chk7 : ∀ c, Try.f7.body = some c → chkC Try.f7.ntmps an7 c = true := by intro c h; obtain rfl := Option.some.inj h; decide +kernel
theorem op7 {args : List PV} {v : PV} (h : X (cx7 Try.prog 0) x7 (argsA 0 args) [] (.fin [.tmp 0] fun v1 s1 => deref s1 6 v1 = v)) (hl : args.length ≤ Try.f7.ntmps := by rw [Try.ntmps7]; simp) : CallOK Try.prog 7 args [] v [] :=
  callX (m := 0) (cx7 Try.prog 0) x7 rfl rfl (by kernel_rfl) Try.func7 rfl rfl hl mixed (chk7 _ rfl) (by rw [Try.results7]; exact h)
theorem ops7 {args : List PV} {v : PV} {s s' : Store} (fin : PV → Store → Prop) (hfin : ∀ v1 s1, fin v1 s1 → RetView s.length v1 s1 v s') (h : X (cx7 Try.prog s.length) x7 (argsA 0 args) s (.fin [.tmp 0] fin)) (hl : args.length ≤ Try.f7.ntmps := by rw [Try.ntmps7]; simp) : CallOK Try.prog 7 args s v s' :=
  callXS (m := 0) (cx7 Try.prog s.length) x7 rfl rfl (by kernel_rfl) Try.func7 rfl rfl hl mixed (chk7 _ rfl) fin hfin (by rw [Try.results7]; exact h)
theorem os7 {args : List PV} {v : PV} (h : X (cx7 Try.prog 0) x7 (argsA 0 args) [] (.fin [.tmp 0] fun v1 s1 => softV (deref s1 6 v1) = v)) (hl : args.length ≤ Try.f7.ntmps := by rw [Try.ntmps7]; simp) : CallOK Try.prog 7 args [] v [] :=
  callXF (m := 0) (cx7 Try.prog 0) x7 rfl rfl (by kernel_rfl) Try.func7 rfl rfl hl mixed (chk7 _ rfl) (by rw [Try.results7]; exact h)
theorem og7 {args : List PV} {v : PV} {s s' : Store} (h : X (cx7 Try.prog s.length) x7 (argsA 0 args) s (.fin [.tmp 0] (gcFin s.length v s'))) (hl : args.length ≤ Try.f7.ntmps := by rw [Try.ntmps7]; simp) : CallOK Try.prog 7 args s v s' :=
  callXG (m := 0) (cx7 Try.prog s.length) x7 rfl rfl (by kernel_rfl) Try.func7 rfl rfl hl mixed (chk7 _ rfl) (by rw [Try.results7]; exact h)

theorem modlogBegun_law : CallOK Try.prog 7 [] [] (.bool true) [] := by
  have h8 := Decide_modlog 8 fLoeb
  have h5 := Decide_modlog 5 fLoeb
  rw [loeb_decE (by decide) (by decide)] at h8 h5
  rw [loeb8] at h8
  rw [loeb5] at h5
  refine op7 ?_
  unfold decT at h8 h5
  have hn := named_law ⟨#[112]⟩
  ((try simp (implicitDefEqProofs := false) (disch := first | assumption | (try simp only [lens]); omega -splitDisjunctions)); all_goals try (repeat' ((first | (with_reducible refine And.intro ?_ ?_; (first | omega | (simp; done) | (simp; omega))) | (with_reducible refine Exists.intro ?_ ?_; (first | omega | (simp; done) | (simp; omega))) | (with_reducible refine spl (And.intro ?_ ?_) <;> intro _) | (refine CL.clo (hn) ?_) | (refine CM.clo (hn) ?_) | (refine CD.clo (hn) ?_) | (refine CL.clo (of_law 8 fP) ?_) | (refine CM.clo (of_law 8 fP) ?_) | (refine CD.clo (of_law 8 fP) ?_) | (refine CL.clo (both_law 7 (of1 8 fP) fP) ?_) | (refine CM.clo (both_law 7 (of1 8 fP) fP) ?_) | (refine CD.clo (both_law 7 (of1 8 fP) fP) ?_) | (refine CL.clo (of_law 8 (of2 7 (of1 8 fP) fP)) ?_) | (refine CM.clo (of_law 8 (of2 7 (of1 8 fP) fP)) ?_) | (refine CD.clo (of_law 8 (of2 7 (of1 8 fP) fP)) ?_) | (refine CL.clo (both_law 7 (of1 8 (of2 7 (of1 8 fP) fP)) (of1 8 fP)) ?_) | (refine CM.clo (both_law 7 (of1 8 (of2 7 (of1 8 fP) fP)) (of1 8 fP)) ?_) | (refine CD.clo (both_law 7 (of1 8 (of2 7 (of1 8 fP) fP)) (of1 8 fP)) ?_) | (refine CL.clo (h8) ?_) | (refine CM.clo (h8) ?_) | (refine CD.clo (h8) ?_) | (refine CL.clo (h5) ?_) | (refine CM.clo (h5) ?_) | (refine CD.clo (h5) ?_)) <;> (try simp (implicitDefEqProofs := false) (disch := first | assumption | (try simp only [lens]); omega -splitDisjunctions)))))
theorem frame_sub {a b n : Nat} {t : Nat → Nat → Bool} (h : (a, b) ∈ [(1, 2), (1, 4), (2, 3), (3, 5), (4, 5), (5, 6), (3, 7), (7, 6), (4, 8)]) (F : Frame b n t) : Frame a n t := by
  simp only [List.mem_cons, List.not_mem_nil, or_false, Prod.mk.injEq] at h
  refine ⟨fun h2 u hu => ⟨u, hu, F.refl (by omega) u hu⟩, fun h2 => F.refl (by omega), fun h2 => F.trans (by omega), fun h2 => F.symm (by omega), fun h2 => by omega⟩
theorem chain_valid {a b : Nat} {f : Fm} (h : (a, b) ∈ [(1, 2), (1, 4), (2, 3), (3, 5), (4, 5), (5, 6), (3, 7), (7, 6), (4, 8)]) (hv : ValidF a f) : ValidF b f := fun n t hold F => hv n t hold (frame_sub h F)
theorem chain_dec {a b : Nat} {f : Fm} (h : (a, b) ∈ [(1, 2), (1, 4), (2, 3), (3, 5), (4, 5), (5, 6), (3, 7), (7, 6), (4, 8)]) (ha : (decE a f).1 = 0) (hb : (decE b f).1 = 0) (hv : decB a f = true) : decB b f = true :=
  (decB_valid hb).2 (chain_valid h ((decB_valid ha).1 hv))
noncomputable def rowN (f : Fm) (n : Nat) : List PV := [.bool false, .bool (decide (1 < n) && decB 1 f), .bool (decide (2 < n) && decB 2 f), .bool (decide (3 < n) && decB 3 f), .bool (decide (4 < n) && decB 4 f), .bool (decide (5 < n) && decB 5 f), .bool (decide (6 < n) && decB 6 f), .bool (decide (7 < n) && decB 7 f), .bool (decide (8 < n) && decB 8 f)]
def x6_L2 : XC := .seq (.seq (.reg [⟨some 41, .move (.tmp 9), none⟩, ⟨some 42, .move (.tmp 8), none⟩, ⟨some 43, .call ⟨.builtin .len, #[.tmp 42], #[28]⟩, none⟩, ⟨some 44, .binOp .lss 3 (.tmp 41) (.tmp 43) 3, none⟩]) (.cond (.tmp 44) (.skip) (.exit 2))) (.seq (.block 3 (.seq (.reg [⟨some 47, .move (.tmp 8), none⟩, ⟨some 48, .move (.tmp 9), none⟩, ⟨some 49, .indexAddr 28 (.tmp 47) (.tmp 48), none⟩, ⟨some 50, .indexAddr 53 (.tmp 49) (.const (.int .i64 0)), none⟩, ⟨some 51, .load 3 (.tmp 50), none⟩, ⟨some 52, .indexAddr 52 (.tmp 3) (.tmp 51), none⟩, ⟨some 53, .load 4 (.tmp 52), none⟩, ⟨some 54, .move (.tmp 53), none⟩, ⟨some 55, .move (.tmp 8), some (some 54, true)⟩, ⟨some 56, .move (.tmp 9), some (some 54, true)⟩, ⟨some 57, .indexAddr 28 (.tmp 55) (.tmp 56), some (some 54, true)⟩, ⟨some 58, .indexAddr 53 (.tmp 57) (.const (.int .i64 1)), some (some 54, true)⟩, ⟨some 59, .load 3 (.tmp 58), some (some 54, true)⟩, ⟨some 60, .indexAddr 52 (.tmp 3) (.tmp 59), some (some 54, true)⟩, ⟨some 61, .load 4 (.tmp 60), some (some 54, true)⟩, ⟨some 62, .unOp .not 4 (.tmp 61), some (some 54, true)⟩, ⟨some 63, .pick (.tmp 54) (.tmp 62) (.const (.bool false)), none⟩]) (.cond (.tmp 63) (.seq (.reg [⟨some 2, .assign (.const (.bool false)), none⟩]) (.ret)) (.skip)))) (.reg [⟨some 45, .move (.tmp 9), none⟩, ⟨some 46, .binOp .add 3 (.tmp 45) (.const (.int .i64 1)) 3, none⟩, ⟨some 9, .assign (.tmp 46), none⟩]))
theorem x6_L2_eq {C : WC} {e : AE} {s : Store} {K : KS} : type_of% (@X_at C e s K _ _ x6_L2.eq_1) := X_at x6_L2.eq_1
def x6_T1 : XC := .seq (.reg [⟨some 31, .build 53 #[(0, .const (.int .i64 1)), (1, .const (.int .i64 2))], none⟩, ⟨some 32, .build 53 #[(0, .const (.int .i64 1)), (1, .const (.int .i64 4))], none⟩, ⟨some 33, .build 53 #[(0, .const (.int .i64 2)), (1, .const (.int .i64 3))], none⟩, ⟨some 34, .build 53 #[(0, .const (.int .i64 3)), (1, .const (.int .i64 5))], none⟩, ⟨some 35, .build 53 #[(0, .const (.int .i64 4)), (1, .const (.int .i64 5))], none⟩, ⟨some 36, .build 53 #[(0, .const (.int .i64 5)), (1, .const (.int .i64 6))], none⟩, ⟨some 37, .build 53 #[(0, .const (.int .i64 3)), (1, .const (.int .i64 7))], none⟩, ⟨some 38, .build 53 #[(0, .const (.int .i64 7)), (1, .const (.int .i64 6))], none⟩, ⟨some 39, .build 53 #[(0, .const (.int .i64 4)), (1, .const (.int .i64 8))], none⟩, ⟨some 40, .buildSlice 28 9 #[(0, .tmp 31), (1, .tmp 32), (2, .tmp 33), (3, .tmp 34), (4, .tmp 35), (5, .tmp 36), (6, .tmp 37), (7, .tmp 38), (8, .tmp 39)], none⟩, ⟨some 8, .assign (.tmp 40), none⟩]) (.seq (.seq (.reg [⟨some 9, .assign (.const (.int .i64 0)), none⟩]) (.bloop 2 x6_L2)) (.seq (.reg [⟨some 2, .assign (.const (.bool true)), none⟩]) (.ret)))
theorem x6_T1_eq {C : WC} {e : AE} {s : Store} {K : KS} : type_of% (@X_at C e s K _ _ x6_T1.eq_1) := X_at x6_T1.eq_1
def x6_L0 : XC := .seq (.seq (.reg [⟨some 14, .move (.tmp 4), none⟩, ⟨some 15, .binOp .leq 3 (.tmp 14) (.const (.int .i64 8)) 3, none⟩]) (.cond (.tmp 15) (.skip) (.exit 0))) (.seq (.block 1 (.seq (.reg [⟨some 19, .move (.tmp 4), none⟩, ⟨some 20, .load 24 (.tmp 1), none⟩, ⟨some 21, .call ⟨.value (.func 10), #[.tmp 19, .tmp 20], #[3, 24]⟩, none⟩, ⟨some 18, .move (.tmp 21), none⟩, ⟨some 22, .extract (.tmp 18) 0, none⟩, ⟨some 23, .extract (.tmp 18) 1, none⟩, ⟨some 24, .extract (.tmp 18) 2, none⟩, ⟨some 6, .alloc 31, none⟩, ⟨some 7, .alloc 33, none⟩, ⟨some 5, .assign (.tmp 22), none⟩, ⟨none, .store 31 (.tmp 6) (.tmp 23), none⟩, ⟨none, .store 33 (.tmp 7) (.tmp 24), none⟩]) (.seq (.seq (.reg [⟨some 25, .fieldAddr 33 (.tmp 7) 0, none⟩, ⟨some 26, .load 3 (.tmp 25), none⟩, ⟨some 27, .binOp .neq 3 (.tmp 26) (.const (.int .i64 0)) 3, none⟩]) (.cond (.tmp 27) (.seq (.reg [⟨some 2, .assign (.const (.bool true)), none⟩]) (.ret)) (.skip))) (.reg [⟨some 28, .move (.tmp 4), none⟩, ⟨some 29, .move (.tmp 5), none⟩, ⟨some 30, .indexAddr 52 (.tmp 3) (.tmp 28), none⟩, ⟨none, .store 4 (.tmp 30) (.tmp 29), none⟩])))) (.reg [⟨some 16, .move (.tmp 4), none⟩, ⟨some 17, .binOp .add 3 (.tmp 16) (.const (.int .i64 1)) 3, none⟩, ⟨some 4, .assign (.tmp 17), none⟩]))
theorem x6_L0_eq {C : WC} {e : AE} {s : Store} {K : KS} : type_of% (@X_at C e s K _ _ x6_L0.eq_1) := X_at x6_L0.eq_1
def x6 : XC := .seq (.reg [⟨some 1, .box 24 (.tmp 0), none⟩, ⟨some 2, .assign (.const (.bool false)), none⟩]) (.seq (.seq (.reg [⟨some 10, .call ⟨.value (.func 7), #[], #[]⟩, none⟩, ⟨some 11, .unOp .not 4 (.tmp 10), none⟩]) (.cond (.tmp 11) (.seq (.reg [⟨some 2, .assign (.const (.bool false)), none⟩]) (.ret)) (.skip))) (.seq (.seq (.reg [⟨some 12, .load 24 (.tmp 1), none⟩, ⟨some 13, .call ⟨.value (.func 8), #[.tmp 12, .const (.int .i64 0)], #[24, 3]⟩, none⟩]) (.cond (.tmp 13) (.seq (.reg [⟨some 2, .assign (.const (.bool true)), none⟩]) (.ret)) (.skip))) (.seq (.reg [⟨some 3, .alloc 52, none⟩]) (.seq (.seq (.reg [⟨some 4, .assign (.const (.int .i64 1)), none⟩]) (.bloop 0 x6_L0)) (x6_T1)))))
theorem x6_eq {C : WC} {e : AE} {s : Store} {K : KS} : type_of% (@X_at C e s K _ _ x6.eq_1) := X_at x6.eq_1
attribute [simp] x6_L0_eq x6_T1_eq x6_L2_eq x6_eq
def an6 : Ann := ⟨[], [(2, [], [3, 8, 9], [2]), (0, [], [1, 3, 4], [2, 3])], []⟩
def cx6 (P : Program) (m : Nat) : WC := ⟨P, m, an6⟩
@[simp] theorem cx6_P {P : Program} {m : Nat} : (cx6 P m).P = P := rfl
@[simp] theorem cx6_m {P : Program} {m : Nat} : (cx6 P m).m = m := rfl
instance {P : Program} {m f : Nat} [h : EnT P f] : EnT (cx6 P m).P f := h
@[simp] theorem cx6_l2 {P : Program} {m : Nat} : (cx6 P m).A.loopOf 2 = ([], [3, 8, 9], [2]) := rfl
@[simp] theorem cx6_l0 {P : Program} {m : Nat} : (cx6 P m).A.loopOf 0 = ([], [1, 3, 4], [2, 3]) := rfl
theorem chk6 : ∀ c, Try.f6.body = some c → chkC Try.f6.ntmps an6 c = true := by intro c h; obtain rfl := Option.some.inj h; decide +kernel
theorem op6 {args : List PV} {v : PV} (h : X (cx6 Try.prog 0) x6 (argsA 0 args) [] (.fin [.tmp 2] fun v1 s1 => deref s1 6 v1 = v)) (hl : args.length ≤ Try.f6.ntmps := by rw [Try.ntmps6]; simp) : CallOK Try.prog 6 args [] v [] :=
  callX (m := 0) (cx6 Try.prog 0) x6 rfl rfl (by kernel_rfl) Try.func6 rfl rfl hl mixed (chk6 _ rfl) (by rw [Try.results6]; exact h)
theorem ops6 {args : List PV} {v : PV} {s s' : Store} (fin : PV → Store → Prop) (hfin : ∀ v1 s1, fin v1 s1 → RetView s.length v1 s1 v s') (h : X (cx6 Try.prog s.length) x6 (argsA 0 args) s (.fin [.tmp 2] fin)) (hl : args.length ≤ Try.f6.ntmps := by rw [Try.ntmps6]; simp) : CallOK Try.prog 6 args s v s' :=
  callXS (m := 0) (cx6 Try.prog s.length) x6 rfl rfl (by kernel_rfl) Try.func6 rfl rfl hl mixed (chk6 _ rfl) fin hfin (by rw [Try.results6]; exact h)
theorem os6 {args : List PV} {v : PV} (h : X (cx6 Try.prog 0) x6 (argsA 0 args) [] (.fin [.tmp 2] fun v1 s1 => softV (deref s1 6 v1) = v)) (hl : args.length ≤ Try.f6.ntmps := by rw [Try.ntmps6]; simp) : CallOK Try.prog 6 args [] v [] :=
  callXF (m := 0) (cx6 Try.prog 0) x6 rfl rfl (by kernel_rfl) Try.func6 rfl rfl hl mixed (chk6 _ rfl) (by rw [Try.results6]; exact h)
theorem og6 {args : List PV} {v : PV} {s s' : Store} (h : X (cx6 Try.prog s.length) x6 (argsA 0 args) s (.fin [.tmp 2] (gcFin s.length v s'))) (hl : args.length ≤ Try.f6.ntmps := by rw [Try.ntmps6]; simp) : CallOK Try.prog 6 args s v s' :=
  callXG (m := 0) (cx6 Try.prog s.length) x6 rfl rfl (by kernel_rfl) Try.func6 rfl rfl hl mixed (chk6 _ rfl) (by rw [Try.results6]; exact h)

theorem modlogChain_law (f : Fm) : CallOK Try.prog 6 [.agg (frm f)] [] (.bool true) [] := by
  have hv := vast_ref f 0 (by omega) (by omega) []
  refine op6 ?_
  ((try simp (implicitDefEqProofs := false) (disch := first | assumption | (try simp only [lens]); omega -splitDisjunctions)); all_goals try (repeat' ((first | (with_reducible refine And.intro ?_ ?_; (first | omega | (simp; done) | (simp; omega))) | (with_reducible refine Exists.intro ?_ ?_; (first | omega | (simp; done) | (simp; omega))) | (with_reducible refine spl (And.intro ?_ ?_) <;> intro _) | (refine CL.clo (modlogBegun_law) ?_) | (refine CM.clo (modlogBegun_law) ?_) | (refine CD.clo (modlogBegun_law) ?_) | (refine CL.clo (hv) ?_) | (refine CM.clo (hv) ?_) | (refine CD.clo (hv) ?_)) <;> (try simp (implicitDefEqProofs := false) (disch := first | assumption | (try simp only [lens]); omega -splitDisjunctions)))))
  refine W_of fun Q hQ => ?_
  have main : ∀ n i, i + n = 9 → 1 ≤ i → (∀ j : Nat, 1 ≤ j → j < i → (decE j f).1 = 0) → Q [(1, .ptr 0 0 0), (3, .ptr 1 0 0), (4, .int .i64 (i : Int))] [.rows 3 [frm f], .rows 9 [rowN f i]] := by
    intro n
    induction n with
    | zero =>
      intro i hi h1 he
      obtain rfl : i = 9 := by omega
      have hch := fun a b (h : (a, b) ∈ [(1, 2), (1, 4), (2, 3), (3, 5), (4, 5), (5, 6), (3, 7), (7, 6), (4, 8)]) => by
        have h' := h
        simp only [List.mem_cons, List.not_mem_nil, or_false, Prod.mk.injEq] at h'
        exact chain_dec (f := f) h (he a (by omega) (by omega)) (he b (by omega) (by omega))
      apply hQ
      unfold rowN
      ((try simp (implicitDefEqProofs := false) (disch := first | assumption | (try simp only [lens]); omega -splitDisjunctions)); all_goals try (repeat' ((first | (with_reducible refine And.intro ?_ ?_; (first | omega | (simp; done) | (simp; omega))) | (with_reducible refine Exists.intro ?_ ?_; (first | omega | (simp; done) | (simp; omega))) | (with_reducible refine spl (And.intro ?_ ?_) <;> intro _)) <;> (try simp (implicitDefEqProofs := false) (disch := first | assumption | (try simp only [lens]); omega -splitDisjunctions)))))
      refine W_of fun Q2 hQ2 => ?_
      have main2 : ∀ n i : Nat, i + n = 9 → Q2 [(3, .ptr 0 0 0), (8, .sl 1 0 9), (9, .int .i64 (i : Int))] [.rows 9 [[.bool false, .bool (decB 1 f), .bool (decB 2 f), .bool (decB 3 f), .bool (decB 4 f), .bool (decB 5 f), .bool (decB 6 f), .bool (decB 7 f), .bool (decB 8 f)]],
          .rows 2 [[.int .i64 1, .int .i64 2], [.int .i64 1, .int .i64 4], [.int .i64 2, .int .i64 3], [.int .i64 3, .int .i64 5], [.int .i64 4, .int .i64 5], [.int .i64 5, .int .i64 6], [.int .i64 3, .int .i64 7], [.int .i64 7, .int .i64 6], [.int .i64 4, .int .i64 8]]] := by
        intro n
        induction n with
        | zero =>
          intro i hi
          obtain rfl : i = 9 := by omega
          apply hQ2
          ((try simp (implicitDefEqProofs := false) (disch := first | assumption | (try simp only [lens]); omega -splitDisjunctions)); all_goals try (repeat' ((first | (with_reducible refine And.intro ?_ ?_; (first | omega | (simp; done) | (simp; omega))) | (with_reducible refine Exists.intro ?_ ?_; (first | omega | (simp; done) | (simp; omega))) | (with_reducible refine spl (And.intro ?_ ?_) <;> intro _)) <;> (try simp (implicitDefEqProofs := false) (disch := first | assumption | (try simp only [lens]); omega -splitDisjunctions)))))
        | succ n ih2 =>
          intro i hi
          have ih2 := ih2 (i + 1) (by omega)
          have hi9 : i = 0 ∨ i = 1 ∨ i = 2 ∨ i = 3 ∨ i = 4 ∨ i = 5 ∨ i = 6 ∨ i = 7 ∨ i = 8 := by omega
          have c1 := hch 1 2 (by decide)
          have c2 := hch 1 4 (by decide)
          have c3 := hch 2 3 (by decide)
          have c4 := hch 3 5 (by decide)
          have c5 := hch 4 5 (by decide)
          have c6 := hch 5 6 (by decide)
          have c7 := hch 3 7 (by decide)
          have c8 := hch 7 6 (by decide)
          have c9 := hch 4 8 (by decide)
          apply hQ2
          rcases hi9 with rfl | rfl | rfl | rfl | rfl | rfl | rfl | rfl | rfl
          all_goals simp at ih2
          all_goals ((try simp (implicitDefEqProofs := false) (disch := first | assumption | (try simp only [lens]); omega -splitDisjunctions)); all_goals try (repeat' ((first | (with_reducible refine And.intro ?_ ?_; (first | omega | (simp; done) | (simp; omega))) | (with_reducible refine Exists.intro ?_ ?_; (first | omega | (simp; done) | (simp; omega))) | (with_reducible refine spl (And.intro ?_ ?_) <;> intro _)) <;> (try simp (implicitDefEqProofs := false) (disch := first | assumption | (try simp only [lens]); omega -splitDisjunctions)))))
          all_goals first
            | exact ih2
            | (rename_i h1 h2; first | exact Bool.noConfusion (h2.symm.trans (congrArg not (c1 h1))) | exact Bool.noConfusion (h2.symm.trans (congrArg not (c2 h1))) | exact Bool.noConfusion (h2.symm.trans (congrArg not (c3 h1))) | exact Bool.noConfusion (h2.symm.trans (congrArg not (c4 h1))) | exact Bool.noConfusion (h2.symm.trans (congrArg not (c5 h1))) | exact Bool.noConfusion (h2.symm.trans (congrArg not (c6 h1))) | exact Bool.noConfusion (h2.symm.trans (congrArg not (c7 h1))) | exact Bool.noConfusion (h2.symm.trans (congrArg not (c8 h1))) | exact Bool.noConfusion (h2.symm.trans (congrArg not (c9 h1))))
      exact main2 9 0 rfl
    | succ n ih =>
      intro i hi h1 he
      have ih := ih (i + 1) (by omega) (by omega)
      have hd := Decide_modlog i f
      unfold decT at hd
      have hi9 : i = 1 ∨ i = 2 ∨ i = 3 ∨ i = 4 ∨ i = 5 ∨ i = 6 ∨ i = 7 ∨ i = 8 := by omega
      generalize hde : decE i f = de at hd
      obtain ⟨a, b⟩ := de
      apply hQ
      by_cases ha : a = 0
      · have ih := ih (fun j h1 h2 => by
          by_cases hj : j = i
          · subst hj; rw [hde]; exact ha
          · exact he j h1 (by omega))
        unfold rowN at ih ⊢
        subst ha
        rcases hi9 with rfl | rfl | rfl | rfl | rfl | rfl | rfl | rfl
        all_goals simp at ih
        all_goals ((try simp (implicitDefEqProofs := false) (disch := first | assumption | (try simp only [lens]); omega -splitDisjunctions)); all_goals try (repeat' ((first | (with_reducible refine And.intro ?_ ?_; (first | omega | (simp; done) | (simp; omega))) | (with_reducible refine Exists.intro ?_ ?_; (first | omega | (simp; done) | (simp; omega))) | (with_reducible refine spl (And.intro ?_ ?_) <;> intro _) | (refine CL.clo (hd) ?_) | (refine CM.clo (hd) ?_) | (refine CD.clo (hd) ?_)) <;> (try simp (implicitDefEqProofs := false) (disch := first | assumption | (try simp only [lens]); omega -splitDisjunctions)))))
        all_goals exact ih
      · unfold rowN
        ((try simp (implicitDefEqProofs := false) (disch := first | assumption | (try simp only [lens]); omega -splitDisjunctions) [ha]); all_goals try (repeat' ((first | (with_reducible refine And.intro ?_ ?_; (first | omega | (simp; done) | (simp; omega))) | (with_reducible refine Exists.intro ?_ ?_; (first | omega | (simp; done) | (simp; omega))) | (with_reducible refine spl (And.intro ?_ ?_) <;> intro _) | (refine CL.clo (hd) ?_) | (refine CM.clo (hd) ?_) | (refine CD.clo (hd) ?_)) <;> (try simp (implicitDefEqProofs := false) (disch := first | assumption | (try simp only [lens]); omega -splitDisjunctions) [ha]))))
  refine at2 (main 8 1 rfl (by decide) (fun j h1 h2 => by omega)) rfl ?_
  simp [rowN]
end Go.Proofs.Ytliockncjdeloaa
