/-
  between: fault, two, constant, look, others, some.
-/
import Derived.Test.YtnoklmapofogeaaBwI
import Derived.Test.YtnoklmapofogeaaBtV
import Derived.Test.YtnoklmapofogeaaBtS
namespace Go.Proofs.Ytnoklmapofogeaa
open Go Go.Pv
set_option linter.unusedVariables false
set_option linter.unusedSimpArgs false
set_option maxRecDepth 100000
set_option maxHeartbeats 4000000

def x78 : XC := .seq (.reg [⟨some 4,.alloc 33,none⟩]) (.seq (.reg [⟨some 5,.move (.tmp 0),none⟩,⟨some 6,.move (.tmp 1),none⟩,⟨some 7,.build 33 #[(0,.tmp 5),(1,.tmp 6)],none⟩,⟨none,.store 33 (.tmp 4) (.tmp 7),none⟩]) (.ret))
@[simp] theorem x78_s {C : WC} {e : AE} {s : Store} {K : KS} : type_of% (@X_at C e s K _ _ x78.eq_1) := X_at x78.eq_1
def an78 : Ann := ⟨[], [], []⟩
def cx78 (P : Program) (m : Nat) : WC := ⟨P, m, an78⟩
@[simp] theorem cx78_a {P : Program} {m : Nat} : (cx78 P m).P = P ∧ (cx78 P m).m = m := ⟨rfl, rfl⟩
instance {P : Program} {m f : Nat} [h : EnT P f] : EnT (cx78 P m).P f := h
theorem chk78 : ∀ c, Try.f78.body = some c → chkC Try.f78.ntmps an78 c = true := by intro c h; obtain rfl := Option.some.inj h; decide +kernel
theorem op78 {args : List PV} {v : PV} (h : X (cx78 Try.prog 0) x78 (argsA 0 args) [] (.fin [.cell 4 33] fun v1 s1 => deref s1 6 v1 = v)) (hl : args.length ≤ Try.f78.ntmps := by rw [Try.ntmps78]; simp) : CallOK Try.prog 78 args [] v [] :=
  callX (m := 0) (cx78 Try.prog 0) x78 rfl rfl (by kernel_rfl) Try.func78 rfl rfl hl mixed (chk78 _ rfl) (by rw [Try.results78]; exact h)

theorem fault_between (a b : Int) : CallOK Try.prog 78 [.int .i64 a, .int .i64 b] [] (.agg [.int .i64 a, .int .i64 b]) [] := by
  refine op78 ?_
  (((try simp (implicitDefEqProofs := false)); (try simp (implicitDefEqProofs := false) (disch := first | assumption | (try simp only [lens]); omega -splitDisjunctions))); all_goals try (repeat' ((first | ((with_reducible first | refine And.intro ?_ ?_ | refine Exists.intro ?_ ?_); first | omega | (simp <;> omega)) | (with_reducible refine spl (And.intro ?_ ?_) <;> intro _)) <;> ((try simp (implicitDefEqProofs := false)); (try simp (implicitDefEqProofs := false) (disch := first | assumption | (try simp only [lens]); omega -splitDisjunctions))))))
def x76 : XC := .seq (.reg [⟨some 4,.box 24 (.tmp 1),none⟩,⟨some 5,.box 24 (.tmp 2),none⟩,⟨some 6,.alloc 24,none⟩]) (.seq (.reg [⟨some 7,.move (.tmp 0),none⟩,⟨some 8,.load 24 (.tmp 4),none⟩,⟨some 9,.load 24 (.tmp 5),none⟩,⟨some 10,.buildSlice 22 2 #[(0,.tmp 8),(1,.tmp 9)],none⟩,⟨some 11,.build 24 #[(0,.tmp 7),(2,.tmp 10)],none⟩,⟨none,.store 24 (.tmp 6) (.tmp 11),none⟩]) (.ret))
@[simp] theorem x76_s {C : WC} {e : AE} {s : Store} {K : KS} : type_of% (@X_at C e s K _ _ x76.eq_1) := X_at x76.eq_1
def an76 : Ann := ⟨[], [], []⟩
def cx76 (P : Program) (m : Nat) : WC := ⟨P, m, an76⟩
@[simp] theorem cx76_a {P : Program} {m : Nat} : (cx76 P m).P = P ∧ (cx76 P m).m = m := ⟨rfl, rfl⟩
instance {P : Program} {m f : Nat} [h : EnT P f] : EnT (cx76 P m).P f := h
theorem chk76 : ∀ c, Try.f76.body = some c → chkC Try.f76.ntmps an76 c = true := by intro c h; obtain rfl := Option.some.inj h; decide +kernel
theorem op76 {args : List PV} {v : PV} (h : X (cx76 Try.prog 0) x76 (argsA 0 args) [] (.fin [.cell 6 24] fun v1 s1 => deref s1 6 v1 = v)) (hl : args.length ≤ Try.f76.ntmps := by rw [Try.ntmps76]; simp) : CallOK Try.prog 76 args [] v [] :=
  callX (m := 0) (cx76 Try.prog 0) x76 rfl rfl (by kernel_rfl) Try.func76 rfl rfl hl mixed (chk76 _ rfl) (by rw [Try.results76]; exact h)

theorem two_between (k : Int) (a b : Fm) : CallOK Try.prog 76 [.int .i64 k, .agg (frm a), .agg (frm b)] [] (.agg (frm (.mk k ⟨#[]⟩ [a, b]))) [] := by
  refine op76 ?_
  rw [frm_eq (Fm.mk _ _ _)]
  (((try simp (implicitDefEqProofs := false)); (try simp (implicitDefEqProofs := false) (disch := first | assumption | (try simp only [lens]); omega -splitDisjunctions))); all_goals try (repeat' ((first | ((with_reducible first | refine And.intro ?_ ?_ | refine Exists.intro ?_ ?_); first | omega | (simp <;> omega)) | (with_reducible refine spl (And.intro ?_ ?_) <;> intro _)) <;> ((try simp (implicitDefEqProofs := false)); (try simp (implicitDefEqProofs := false) (disch := first | assumption | (try simp only [lens]); omega -splitDisjunctions))))))
def constF (b : Bool) : Fm := .mk (if b = true then 2 else 3) ⟨#[]⟩ []
def x105 : XC := .seq (.reg [⟨some 2,.alloc 24,none⟩]) (.seq (.seq (.reg [⟨some 3,.move (.tmp 0),none⟩]) (.cond (.tmp 3) (.seq (.reg [⟨some 4,.build 24 #[(0,.const (.int .i64 2))],none⟩,⟨none,.store 24 (.tmp 2) (.tmp 4),none⟩]) (.ret)) (.skip))) (.seq (.reg [⟨some 5,.build 24 #[(0,.const (.int .i64 3))],none⟩,⟨none,.store 24 (.tmp 2) (.tmp 5),none⟩]) (.ret)))
@[simp] theorem x105_s {C : WC} {e : AE} {s : Store} {K : KS} : type_of% (@X_at C e s K _ _ x105.eq_1) := X_at x105.eq_1
def an105 : Ann := ⟨[], [], []⟩
def cx105 (P : Program) (m : Nat) : WC := ⟨P, m, an105⟩
@[simp] theorem cx105_a {P : Program} {m : Nat} : (cx105 P m).P = P ∧ (cx105 P m).m = m := ⟨rfl, rfl⟩
instance {P : Program} {m f : Nat} [h : EnT P f] : EnT (cx105 P m).P f := h
theorem chk105 : ∀ c, Try.f105.body = some c → chkC Try.f105.ntmps an105 c = true := by intro c h; obtain rfl := Option.some.inj h; decide +kernel
theorem os105 {args : List PV} {v : PV} (h : X (cx105 Try.prog 0) x105 (argsA 0 args) [] (.fin [.cell 2 24] fun v1 s1 => softV (deref s1 6 v1) = v)) (hl : args.length ≤ Try.f105.ntmps := by rw [Try.ntmps105]; simp) : CallOK Try.prog 105 args [] v [] :=
  callXF (m := 0) (cx105 Try.prog 0) x105 rfl rfl (by kernel_rfl) Try.func105 rfl rfl hl mixed (chk105 _ rfl) (by rw [Try.results105]; exact h)

theorem constant_between (b : Bool) : CallOK Try.prog 105 [.bool b] [] (.agg (frm (constF b))) [] := by
  refine os105 ?_
  rw [frm_eq (constF b)]
  cases b <;> (((try simp (implicitDefEqProofs := false)); (try simp (implicitDefEqProofs := false) (disch := first | assumption | (try simp only [lens]); omega -splitDisjunctions))); all_goals try (repeat' ((first | ((with_reducible first | refine And.intro ?_ ?_ | refine Exists.intro ?_ ?_); first | omega | (simp <;> omega)) | (with_reducible refine spl (And.intro ?_ ?_) <;> intro _)) <;> ((try simp (implicitDefEqProofs := false)); (try simp (implicitDefEqProofs := false) (disch := first | assumption | (try simp only [lens]); omega -splitDisjunctions))))))
  all_goals simp [constF]
/-- what is wrong with formulas, each by itself -/
def lookE : List Fm → Int × Int
  | [] => (0, 0)
  | f :: r => if (plainF f).1 ≠ 0 then plainF f else lookE r
theorem lookE_eq (l : List Fm) : lookE l = plainL l := by
  induction l with
  | nil => rfl
  | cons f r ih => rw [lookE, plainL, ih]
def lookV (l : List Fm) : List ByteArray × (Int × Int) := if (plainL l).1 ≠ 0 then ([], plainL l) else if 6 < (namesS l).length then ([], (2, 0)) else (namesS l, (0, 0))
theorem value_nil (f : Fm) : (valueV f []).2 = plainF f := by
  unfold valueV
  by_cases h : (plainF f).1 = 0
  · rw [if_neg (by simpa using h), if_neg (by simp)]; exact (plainF_zero h).symm
  · rw [if_pos (by simpa using h)]
theorem plainL_drop {l : List Fm} {i : Nat} (h : i < l.length) : plainL (l.drop i) = if (plainF l[i]).1 ≠ 0 then plainF l[i] else plainL (l.drop (i + 1)) := by
  rw [List.drop_eq_getElem_cons h, plainL]
/-- nil is seen as an empty list -/
theorem callOK_soft {P : Program} {f : FuncId} {args args' : List PV} {v : PV} {s s' : Store} (h : CallOK P f args' s v s') (hs : SoftL args' args) : CallOK P f args s v s' := by
  intro pub σ w cargs hb ha
  have hg := hs.get (pub := pub)
  refine h pub σ w cargs hb ⟨by rw [ha.1, hg.1], fun j x y hx hy => ?_⟩
  have hjl := lt_of_getElem? hx
  have hyj : args[j]? = some (args[j]'(by have := hg.1; omega)) := List.getElem?_eq_getElem _
  exact hg.2 j x _ hx hyj σ y (ha.2 j _ y hyj hy)
def x74_T1 : XC := .seq (.reg [⟨some 25,.move (.tmp 0),none⟩,⟨some 26,.call ⟨.value (.func 77),#[.tmp 25],#[22]⟩,none⟩,⟨some 8,.assign (.tmp 26),none⟩]) (.seq (.seq (.reg [⟨some 27,.move (.tmp 8),none⟩,⟨some 28,.call ⟨.builtin .len,#[.tmp 27],#[35]⟩,none⟩,⟨some 29,.binOp .gtr 3 (.tmp 28) (.const (.int .i64 6)) 3,none⟩]) (.cond (.tmp 29) (.seq (.reg [⟨some 30,.call ⟨.value (.func 78),#[.const (.int .i64 2),.const (.int .i64 0)],#[3,3]⟩,none⟩,⟨some 2,.assign (.const (.slice none 0 0)),none⟩,⟨none,.store 33 (.tmp 3) (.tmp 30),none⟩]) (.ret)) (.skip))) (.seq (.reg [⟨some 31,.move (.tmp 8),none⟩,⟨some 32,.build 33 #[],none⟩,⟨some 2,.assign (.tmp 31),none⟩,⟨none,.store 33 (.tmp 3) (.tmp 32),none⟩]) (.ret)))
def x74_L0 : XC := .seq (.reg [⟨some 12,.binOp .lss 3 (.tmp 11) (.tmp 10) 3,none⟩]) (.seq (.cond (.tmp 12) (.skip) (.exit 0)) (.seq (.block 1 (.seq (.reg [⟨some 13,.indexAddr 22 (.tmp 9) (.tmp 11),none⟩,⟨some 14,.load 24 (.tmp 13),none⟩,⟨some 5,.alloc 24,none⟩,⟨none,.store 24 (.tmp 5) (.tmp 14),none⟩]) (.seq (.reg [⟨some 16,.load 24 (.tmp 5),none⟩,⟨some 17,.call ⟨.value (.func 92),#[.tmp 16,.const (.slice none 0 0)],#[24,35]⟩,none⟩,⟨some 15,.move (.tmp 17),none⟩,⟨some 18,.extract (.tmp 15) 0,none⟩,⟨some 19,.extract (.tmp 15) 1,none⟩,⟨some 7,.alloc 33,none⟩,⟨some 6,.assign (.tmp 18),none⟩,⟨none,.store 33 (.tmp 7) (.tmp 19),none⟩]) (.seq (.reg [⟨some 20,.fieldAddr 33 (.tmp 7) 0,none⟩,⟨some 21,.load 3 (.tmp 20),none⟩,⟨some 22,.binOp .neq 3 (.tmp 21) (.const (.int .i64 0)) 3,none⟩]) (.cond (.tmp 22) (.seq (.drawn 6 [⟨some 23,.load 33 (.tmp 7),none⟩,⟨some 2,.assign (.const (.slice none 0 0)),none⟩,⟨none,.store 33 (.tmp 3) (.tmp 23),none⟩]) (.ret)) (.skip)))))) (.reg [⟨some 24,.binOp .add 3 (.tmp 11) (.const (.int .i64 1)) 3,none⟩,⟨some 11,.move (.tmp 24),none⟩])))
def x74 : XC := .seq (.reg [⟨some 2,.assign (.const (.slice none 0 0)),none⟩,⟨some 3,.alloc 33,none⟩]) (.seq (.seq (.reg [⟨some 9,.move (.tmp 0),none⟩,⟨some 10,.call ⟨.builtin .len,#[.tmp 9],#[22]⟩,none⟩,⟨some 11,.move (.const (.int .i64 0)),none⟩]) (.bloop 0 x74_L0)) (x74_T1))
@[simp] theorem x74_s {C : WC} {e : AE} {s : Store} {K : KS} : type_of% (@X_at C e s K _ _ x74_T1.eq_1) ∧ type_of% (@X_at C e s K _ _ x74_L0.eq_1) ∧ type_of% (@X_at C e s K _ _ x74.eq_1) := ⟨X_at x74_T1.eq_1, X_at x74_L0.eq_1, X_at x74.eq_1⟩
def an74 : Ann := ⟨[], [(0, [], [0, 3, 9, 10, 11], [0, 2, 3])], []⟩
def cx74 (P : Program) (m : Nat) : WC := ⟨P, m, an74⟩
@[simp] theorem cx74_a {P : Program} {m : Nat} : (cx74 P m).P = P ∧ (cx74 P m).m = m ∧ (cx74 P m).A.clsOf 6 = .draw ∧ (cx74 P m).A.frzOf 6 = [] ∧ (cx74 P m).A.loopOf 0 = ([], [0, 3, 9, 10, 11], [0, 2, 3]) := ⟨rfl, rfl, rfl, rfl, rfl⟩
instance {P : Program} {m f : Nat} [h : EnT P f] : EnT (cx74 P m).P f := h
theorem chk74 : ∀ c, Try.f74.body = some c → chkC Try.f74.ntmps an74 c = true := by intro c h; obtain rfl := Option.some.inj h; decide +kernel
theorem os74 {args : List PV} {v : PV} (h : X (cx74 Try.prog 0) x74 (argsA 0 args) [] (.fin [.tmp 2, .cell 3 33] fun v1 s1 => softV (deref s1 6 v1) = v)) (hl : args.length ≤ Try.f74.ntmps := by rw [Try.ntmps74]; simp) : CallOK Try.prog 74 args [] v [] :=
  callXF (m := 0) (cx74 Try.prog 0) x74 rfl rfl (by kernel_rfl) Try.func74 rfl rfl hl mixed (chk74 _ rfl) (by rw [Try.results74]; exact h)

theorem look_between (l : List Fm) (hl : l.length ≤ 1000) : CallOK Try.prog 74 [.list (l.map frm)] [] (.tuple [.list ((lookV l).1.map strRow), .agg [.int .i64 (lookV l).2.1, .int .i64 (lookV l).2.2]]) [] := by
  have hn := NamesOf_formula l hl
  refine os74 ?_
  have hv0 : lookV l = if (plainL l).1 ≠ 0 then ([], plainL l) else if 6 < (namesS l).length then ([], (2, 0)) else (namesS l, (0, 0)) := rfl
  generalize lookV l = V at *
  (((try simp (implicitDefEqProofs := false)); (try simp (implicitDefEqProofs := false) (disch := first | assumption | (try simp only [lens]); omega -splitDisjunctions))); all_goals try (repeat' ((first | ((with_reducible first | refine And.intro ?_ ?_ | refine Exists.intro ?_ ?_); first | omega | (simp <;> omega)) | (with_reducible refine spl (And.intro ?_ ?_) <;> intro _)) <;> ((try simp (implicitDefEqProofs := false)); (try simp (implicitDefEqProofs := false) (disch := first | assumption | (try simp only [lens]); omega -splitDisjunctions))))))
  refine W_of fun Q hQ => ?_
  have main : ∀ r i, i + r = l.length → plainL l = plainL (l.drop i) → Q [(0, .list (l.map frm)), (3, .ptr 0 0 0), (9, .list (l.map frm)), (10, .int .i64 (l.length : Int)), (11, .int .i64 (i : Int))] [.rows 2 [[.int .i64 0, .int .i64 0]]] := by
    intro r
    induction r with
    | zero =>
      intro i hi hb
      rw [List.drop_of_length_le (by omega), plainL] at hb
      rw [hb, if_neg (by simp)] at hv0
      generalize namesS l = N at *
      apply hQ
      clear hQ
      by_cases h6 : 6 < N.length
      · rw [if_pos h6] at hv0
        subst hv0
        have h6i : (6 : Int) < (N.length : Int) := by omega
        (((try simp (implicitDefEqProofs := false) [h6i]); (try simp (implicitDefEqProofs := false) (disch := first | assumption | (try simp only [lens]); omega -splitDisjunctions) [h6i])); all_goals try (repeat' ((first | ((with_reducible first | refine And.intro ?_ ?_ | refine Exists.intro ?_ ?_); first | omega | (simp <;> omega)) | (with_reducible refine spl (And.intro ?_ ?_) <;> intro _) | (refine CL.clo (hn) ?_) | (refine CM.clo (hn) ?_) | (refine CD.clo (hn) ?_) | (refine CL.clo (fault_between 2 0) ?_) | (refine CM.clo (fault_between 2 0) ?_) | (refine CD.clo (fault_between 2 0) ?_)) <;> ((try simp (implicitDefEqProofs := false) [h6i]); (try simp (implicitDefEqProofs := false) (disch := first | assumption | (try simp only [lens]); omega -splitDisjunctions) [h6i])))))
      · rw [if_neg h6] at hv0
        subst hv0
        have h6i : ¬ (6 : Int) < (N.length : Int) := by omega
        (((try simp (implicitDefEqProofs := false) [h6i]); (try simp (implicitDefEqProofs := false) (disch := first | assumption | (try simp only [lens]); omega -splitDisjunctions) [h6i])); all_goals try (repeat' ((first | ((with_reducible first | refine And.intro ?_ ?_ | refine Exists.intro ?_ ?_); first | omega | (simp <;> omega)) | (with_reducible refine spl (And.intro ?_ ?_) <;> intro _) | (refine CL.clo (hn) ?_) | (refine CM.clo (hn) ?_) | (refine CD.clo (hn) ?_)) <;> ((try simp (implicitDefEqProofs := false) [h6i]); (try simp (implicitDefEqProofs := false) (disch := first | assumption | (try simp only [lens]); omega -splitDisjunctions) [h6i])))))
    | succ r ih =>
      intro i hi hb
      have hil : i < l.length := by omega
      have ih := ih (i + 1) (by omega)
      have hv := callOK_soft (Value_truth l[i] []) (.cons .refl (.cons .nil .nil))
      rw [value_nil] at hv
      generalize (valueV l[i] []).1 = vb at *
      rw [plainL_drop hil] at hb
      apply hQ
      clear hQ
      by_cases h1 : (plainF l[i]).1 = 0
      · rw [if_neg (by simpa using h1)] at hb
        have ih := ih hb
        (((try simp (implicitDefEqProofs := false) [hil, h1]); (try simp (implicitDefEqProofs := false) (disch := first | assumption | (try simp only [lens]); omega -splitDisjunctions) [hil, h1])); all_goals try (repeat' ((first | ((with_reducible first | refine And.intro ?_ ?_ | refine Exists.intro ?_ ?_); first | omega | (simp <;> omega)) | (with_reducible refine spl (And.intro ?_ ?_) <;> intro _) | (refine CL.clo (hv) ?_) | (refine CM.clo (hv) ?_) | (refine CD.clo (hv) ?_)) <;> ((try simp (implicitDefEqProofs := false) [hil, h1]); (try simp (implicitDefEqProofs := false) (disch := first | assumption | (try simp only [lens]); omega -splitDisjunctions) [hil, h1])))))
        all_goals first | exact ih | (refine at2 ih ?_ ?_ <;> simp; done) | (exfalso; first | omega | (simp_all; done) | (simp_all; omega))
      · rw [if_pos (by simpa using h1)] at hb
        rw [hb, if_pos (by simpa using h1)] at hv0
        subst hv0
        (((try simp (implicitDefEqProofs := false) [hil, h1]); (try simp (implicitDefEqProofs := false) (disch := first | assumption | (try simp only [lens]); omega -splitDisjunctions) [hil, h1])); all_goals try (repeat' ((first | ((with_reducible first | refine And.intro ?_ ?_ | refine Exists.intro ?_ ?_); first | omega | (simp <;> omega)) | (with_reducible refine spl (And.intro ?_ ?_) <;> intro _) | (refine CL.clo (hv) ?_) | (refine CM.clo (hv) ?_) | (refine CD.clo (hv) ?_)) <;> ((try simp (implicitDefEqProofs := false) [hil, h1]); (try simp (implicitDefEqProofs := false) (disch := first | assumption | (try simp only [lens]); omega -splitDisjunctions) [hil, h1])))))
  all_goals first | exact main _ 0 (Nat.zero_add _) rfl | (refine at2 main _ 0 (Nat.zero_add _) rfl ?_ ?_ <;> simp; done) | (exfalso; first | omega | (simp_all; done) | (simp_all; omega))
def x104 : XC := .seq (.reg [⟨some 3,.assign (.const (.bool false)),none⟩]) (.seq (.reg [⟨some 4,.load 35 (.tmp 1),none⟩,⟨some 5,.move (.tmp 0),none⟩,⟨some 6,.call ⟨.value (.func 83),#[.tmp 4,.tmp 5],#[35,9]⟩,none⟩,⟨some 3,.assign (.tmp 6),none⟩]) (.ret))
@[simp] theorem x104_s {C : WC} {e : AE} {s : Store} {K : KS} : type_of% (@X_at C e s K _ _ x104.eq_1) := X_at x104.eq_1
def an104 : Ann := ⟨[], [], []⟩
def cx104 (P : Program) (m : Nat) : WC := ⟨P, m, an104⟩
@[simp] theorem cx104_a {P : Program} {m : Nat} : (cx104 P m).P = P ∧ (cx104 P m).m = m := ⟨rfl, rfl⟩
instance {P : Program} {m f : Nat} [h : EnT P f] : EnT (cx104 P m).P f := h
theorem chk104 : ∀ c, Try.f104.body = some c → chkC Try.f104.ntmps an104 c = true := by intro c h; obtain rfl := Option.some.inj h; decide +kernel
theorem op104 {args : List PV} {v : PV} (h : X (cx104 Try.prog 0) x104 (argsA 0 args) [] (.fin [.tmp 3] fun v1 s1 => deref s1 6 v1 = v)) (hl : args.length ≤ Try.f104.ntmps := by rw [Try.ntmps104]; simp) : CallOK Try.prog 104 args [] v [] :=
  callX (m := 0) (cx104 Try.prog 0) x104 rfl rfl (by kernel_rfl) Try.func104 rfl rfl hl mixed (chk104 _ rfl) (by rw [Try.results104]; exact h)

theorem others1_between (ns : List ByteArray) (x : ByteArray) : CallOK Try.prog 104 [.str x, .iptr [.list (ns.map strRow)]] [] (.bool (hasStr ns x)) [] := by
  have hc := contains_strs ns x []
  refine op104 ?_
  (((try simp (implicitDefEqProofs := false)); (try simp (implicitDefEqProofs := false) (disch := first | assumption | (try simp only [lens]); omega -splitDisjunctions))); all_goals try (repeat' ((first | ((with_reducible first | refine And.intro ?_ ?_ | refine Exists.intro ?_ ?_); first | omega | (simp <;> omega)) | (with_reducible refine spl (And.intro ?_ ?_) <;> intro _) | (refine CL.clo (hc) ?_) | (refine CM.clo (hc) ?_) | (refine CD.clo (hc) ?_)) <;> ((try simp (implicitDefEqProofs := false)); (try simp (implicitDefEqProofs := false) (disch := first | assumption | (try simp only [lens]); omega -splitDisjunctions))))))
def x84 : XC := .seq (.reg [⟨some 2,.box 24 (.tmp 0),none⟩,⟨some 3,.box 35 (.tmp 1),none⟩,⟨some 4,.assign (.const (.slice none 0 0)),none⟩]) (.seq (.reg [⟨some 5,.load 24 (.tmp 2),none⟩,⟨some 6,.buildSlice 22 1 #[(0,.tmp 5)],none⟩,⟨some 7,.call ⟨.value (.func 77),#[.tmp 6],#[22]⟩,none⟩,⟨some 8,.makeFunc (.func 104) #[] #[.tmp 3],none⟩,⟨some 9,.call ⟨.value (.func 81),#[.tmp 7,.tmp 8],#[35,47]⟩,none⟩,⟨some 4,.assign (.tmp 9),none⟩]) (.ret))
@[simp] theorem x84_s {C : WC} {e : AE} {s : Store} {K : KS} : type_of% (@X_at C e s K _ _ x84.eq_1) := X_at x84.eq_1
def an84 : Ann := ⟨[], [], []⟩
def cx84 (P : Program) (m : Nat) : WC := ⟨P, m, an84⟩
@[simp] theorem cx84_a {P : Program} {m : Nat} : (cx84 P m).P = P ∧ (cx84 P m).m = m := ⟨rfl, rfl⟩
instance {P : Program} {m f : Nat} [h : EnT P f] : EnT (cx84 P m).P f := h
theorem chk84 : ∀ c, Try.f84.body = some c → chkC Try.f84.ntmps an84 c = true := by intro c h; obtain rfl := Option.some.inj h; decide +kernel
theorem op84 {args : List PV} {v : PV} (h : X (cx84 Try.prog 0) x84 (argsA 0 args) [] (.fin [.tmp 4] fun v1 s1 => deref s1 6 v1 = v)) (hl : args.length ≤ Try.f84.ntmps := by rw [Try.ntmps84]; simp) : CallOK Try.prog 84 args [] v [] :=
  callX (m := 0) (cx84 Try.prog 0) x84 rfl rfl (by kernel_rfl) Try.func84 rfl rfl hl mixed (chk84 _ rfl) (by rw [Try.results84]; exact h)

theorem others_between (f : Fm) (ns : List ByteArray) : CallOK Try.prog 84 [.agg (frm f), .list (ns.map strRow)] [] (.list (((namesS [f]).filter fun x => !hasStr ns x).map strRow)) [] := by
  have hn := NamesOf_own [f] (by simp)
  have hnl : (namesS [f]).length ≤ 1000000 := by
    have h1 := compL_length (sortL (varsS [f])); rw [sortL_length] at h1
    have h2 := varsS_len [f]
    simp only [List.length_cons, List.length_nil] at h2
    unfold namesS; omega
  have hd := DeleteFunc_strs (namesS [f]) (restS [f]) hnl 104 [.iptr [.list (ns.map strRow)]] (hasStr ns) (fun x _ => others1_between ns x)
  generalize namesS [f] = N at *
  generalize restS [f] = R at *
  simp only [List.map_cons, List.map_nil] at hn
  have hFl : (N.filter fun x => !hasStr ns x).length ≤ N.length := List.length_filter_le _ _
  generalize (N.filter fun x => !hasStr ns x) = F at *
  refine op84 ?_
  (((try simp (implicitDefEqProofs := false)); (try simp (implicitDefEqProofs := false) (disch := first | assumption | (try simp only [lens]); omega -splitDisjunctions))); all_goals try (repeat' ((first | ((with_reducible first | refine And.intro ?_ ?_ | refine Exists.intro ?_ ?_); first | omega | (simp <;> omega)) | (with_reducible refine spl (And.intro ?_ ?_) <;> intro _)) <;> ((try simp (implicitDefEqProofs := false)); (try simp (implicitDefEqProofs := false) (disch := first | assumption | (try simp only [lens]); omega -splitDisjunctions))))))
  refine CL.giv [2] ?_
  (((try simp (implicitDefEqProofs := false)); (try simp (implicitDefEqProofs := false) (disch := first | assumption | (try simp only [lens]); omega -splitDisjunctions))); all_goals try (repeat' ((first | ((with_reducible first | refine And.intro ?_ ?_ | refine Exists.intro ?_ ?_); first | omega | (simp <;> omega)) | (with_reducible refine spl (And.intro ?_ ?_) <;> intro _)) <;> ((try simp (implicitDefEqProofs := false)); (try simp (implicitDefEqProofs := false) (disch := first | assumption | (try simp only [lens]); omega -splitDisjunctions))))))
  refine CL.sub [] (hc := by simpa using hn) ?_
  (((try simp (implicitDefEqProofs := false)); (try simp (implicitDefEqProofs := false) (disch := first | assumption | (try simp only [lens]); omega -splitDisjunctions))); all_goals try (repeat' ((first | ((with_reducible first | refine And.intro ?_ ?_ | refine Exists.intro ?_ ?_); first | omega | (simp <;> omega)) | (with_reducible refine spl (And.intro ?_ ?_) <;> intro _)) <;> ((try simp (implicitDefEqProofs := false)); (try simp (implicitDefEqProofs := false) (disch := first | assumption | (try simp only [lens]); omega -splitDisjunctions))))))
  refine CL.giv [1] ?_
  (((try simp (implicitDefEqProofs := false)); (try simp (implicitDefEqProofs := false) (disch := first | assumption | (try simp only [lens]); omega -splitDisjunctions))); all_goals try (repeat' ((first | ((with_reducible first | refine And.intro ?_ ?_ | refine Exists.intro ?_ ?_); first | omega | (simp <;> omega)) | (with_reducible refine spl (And.intro ?_ ?_) <;> intro _)) <;> ((try simp (implicitDefEqProofs := false)); (try simp (implicitDefEqProofs := false) (disch := first | assumption | (try simp only [lens]); omega -splitDisjunctions))))))
  refine CL.sub [3] (hc := by simpa using hd) ?_
  (((try simp (implicitDefEqProofs := false)); (try simp (implicitDefEqProofs := false) (disch := first | assumption | (try simp only [lens]); omega -splitDisjunctions))); all_goals try (repeat' ((first | ((with_reducible first | refine And.intro ?_ ?_ | refine Exists.intro ?_ ?_); first | omega | (simp <;> omega)) | (with_reducible refine spl (And.intro ?_ ?_) <;> intro _)) <;> ((try simp (implicitDefEqProofs := false)); (try simp (implicitDefEqProofs := false) (disch := first | assumption | (try simp only [lens]); omega -splitDisjunctions))))))
  all_goals trace_state
end Go.Proofs.Ytnoklmapofogeaa
