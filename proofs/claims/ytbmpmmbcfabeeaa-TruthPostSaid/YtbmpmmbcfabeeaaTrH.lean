/-
  truth: check, classes; sequentref: TableFault.
-/
import Derived.Test.YtbmpmmbcfabeeaaTrE
namespace Go.Proofs.Ytbmpmmbcfabeeaa
open Go Go.Pv
set_option linter.unusedVariables false
set_option linter.unusedSimpArgs false
set_option maxRecDepth 100000
set_option maxHeartbeats 4000000

/-- a table -/
structure Tab where
  n : Int
  bits : List Bool
def tab (t : Tab) : List PV := [.int .i64 t.n, .list (t.bits.map boolRow)]
attribute [simp] tab
instance : FlatRow tab := ⟨fun x => by simp [flatV]⟩
structure TabOK (t : Tab) (n : Nat) : Prop where
  n_eq : t.n = n
  le : n ≤ 4
  len : t.bits.length = 2 ^ n
def tabBad : List Tab → Nat → Option (Int × Int)
  | [], _ => none
  | t :: r, i => if t.n < 0 ∨ 4 < t.n then some (3, (i : Int)) else if (t.bits.length : Int) ≠ ((2 ^ t.n.toNat : Nat) : Int) then some (9, (i : Int)) else tabBad r (i + 1)
def tabF (l : List Tab) : Int × Int := if 20 < l.length then (2, 0) else (tabBad l 0).getD (0, 0)
theorem tabBad_drop {l : List Tab} {i : Nat} (h : i < l.length) : tabBad (l.drop i) i = if l[i].n < 0 ∨ 4 < l[i].n then some (3, (i : Int)) else if (l[i].bits.length : Int) ≠ ((2 ^ l[i].n.toNat : Nat) : Int) then some (9, (i : Int)) else tabBad (l.drop (i + 1)) (i + 1) := by
  rw [List.drop_eq_getElem_cons h, tabBad]
theorem tabBad_none : ∀ (l : List Tab) (i : Nat), tabBad l i = none → ∀ t ∈ l, ∃ n, TabOK t n
  | [], _, _, t, h => by cases h
  | a :: r, i, h, t, ht => by
    rw [tabBad] at h
    split at h
    · cases h
    · split at h
      · cases h
      · rename_i h1 h2
        rcases List.mem_cons.1 ht with rfl | ht
        · exact ⟨t.n.toNat, by omega, by omega, by omega⟩
        · exact tabBad_none r _ h t ht
theorem tabBad_code : ∀ (l : List Tab) (i : Nat) x, tabBad l i = some x → x.1 ≠ 0
  | [], _, x, h => by cases h
  | a :: r, i, x, h => by
    rw [tabBad] at h
    split at h
    · cases h; simp
    · split at h
      · cases h; simp
      · exact tabBad_code r _ x h
theorem tabF_zero {l : List Tab} (h : (tabF l).1 = 0) : tabF l = (0, 0) ∧ l.length ≤ 20 ∧ ∀ t ∈ l, ∃ n, TabOK t n := by
  unfold tabF at h ⊢
  split at h
  · simp at h
  · rename_i h20
    rw [if_neg h20]
    cases hb : tabBad l 0 with
    | none => exact ⟨rfl, by omega, tabBad_none l 0 hb⟩
    | some x => rw [hb] at h; exact absurd h (tabBad_code _ _ _ hb)
def x78_T1 : XC := .seq (.reg [⟨some 36,.build 29 #[],none⟩,⟨none,.store 29 (.tmp 2) (.tmp 36),none⟩]) (.ret)
def x78_L0 : XC := .seq (.reg [⟨some 12,.binOp .lss 3 (.tmp 11) (.tmp 10) 3,none⟩]) (.seq (.cond (.tmp 12) (.skip) (.exit 0)) (.seq (.block 1 (.seq (.reg [⟨some 13,.move (.tmp 11),none⟩,⟨some 14,.indexAddr 40 (.tmp 9) (.tmp 11),none⟩,⟨some 15,.load 48 (.tmp 14),none⟩,⟨some 4,.alloc 48,none⟩,⟨some 3,.assign (.tmp 13),none⟩,⟨none,.store 48 (.tmp 4) (.tmp 15),none⟩]) (.seq (.seq (.reg [⟨some 16,.fieldAddr 48 (.tmp 4) 0,none⟩,⟨some 17,.load 3 (.tmp 16),none⟩,⟨some 18,.binOp .lss 3 (.tmp 17) (.const (.int .i64 0)) 3,none⟩,⟨some 19,.move (.tmp 18),none⟩,⟨some 20,.fieldAddr 48 (.tmp 4) 0,some (some 19,false)⟩,⟨some 21,.load 3 (.tmp 20),some (some 19,false)⟩,⟨some 22,.binOp .gtr 3 (.tmp 21) (.const (.int .i64 4)) 3,some (some 19,false)⟩,⟨some 23,.pick (.tmp 19) (.const (.bool true)) (.tmp 22),none⟩]) (.cond (.tmp 23) (.seq (.reg [⟨some 24,.move (.tmp 3),none⟩,⟨some 25,.call ⟨.value (.func 109),#[.const (.int .i64 3),.tmp 24],#[3,3]⟩,none⟩,⟨none,.store 29 (.tmp 2) (.tmp 25),none⟩]) (.ret)) (.skip))) (.seq (.drawn 8 [⟨some 26,.fieldAddr 48 (.tmp 4) 1,none⟩,⟨some 27,.load 46 (.tmp 26),none⟩,⟨some 28,.call ⟨.builtin .len,#[.tmp 27],#[46]⟩,none⟩,⟨some 29,.fieldAddr 48 (.tmp 4) 0,none⟩,⟨some 30,.load 3 (.tmp 29),none⟩,⟨some 31,.binOp .shl 3 (.const (.int .i64 1)) (.tmp 30) 3,none⟩,⟨some 32,.binOp .neq 3 (.tmp 28) (.tmp 31) 3,none⟩]) (.cond (.tmp 32) (.seq (.reg [⟨some 33,.move (.tmp 3),none⟩,⟨some 34,.call ⟨.value (.func 109),#[.const (.int .i64 9),.tmp 33],#[3,3]⟩,none⟩,⟨none,.store 29 (.tmp 2) (.tmp 34),none⟩]) (.ret)) (.skip)))))) (.reg [⟨some 35,.binOp .add 3 (.tmp 11) (.const (.int .i64 1)) 3,none⟩,⟨some 11,.move (.tmp 35),none⟩])))
def x78 : XC := .seq (.reg [⟨some 2,.alloc 29,none⟩]) (.seq (.seq (.reg [⟨some 5,.move (.tmp 0),none⟩,⟨some 6,.call ⟨.builtin .len,#[.tmp 5],#[40]⟩,none⟩,⟨some 7,.binOp .gtr 3 (.tmp 6) (.const (.int .i64 20)) 3,none⟩]) (.cond (.tmp 7) (.seq (.reg [⟨some 8,.call ⟨.value (.func 109),#[.const (.int .i64 2),.const (.int .i64 0)],#[3,3]⟩,none⟩,⟨none,.store 29 (.tmp 2) (.tmp 8),none⟩]) (.ret)) (.skip))) (.seq (.seq (.reg [⟨some 9,.move (.tmp 0),none⟩,⟨some 10,.call ⟨.builtin .len,#[.tmp 9],#[40]⟩,none⟩,⟨some 11,.move (.const (.int .i64 0)),none⟩]) (.bloop 0 x78_L0)) (x78_T1)))
@[simp] theorem x78_s {C : WC} {e : AE} {s : Store} {K : KS} : type_of% (@X_at C e s K _ _ x78_T1.eq_1) ∧ type_of% (@X_at C e s K _ _ x78_L0.eq_1) ∧ type_of% (@X_at C e s K _ _ x78.eq_1) := ⟨X_at x78_T1.eq_1, X_at x78_L0.eq_1, X_at x78.eq_1⟩
def an78 : Ann := ⟨[], [(0, [], [2, 9, 10, 11], [2])], []⟩
def cx78 (P : Program) (m : Nat) : WC := ⟨P, m, an78⟩
@[simp] theorem cx78_a {P : Program} {m : Nat} : (cx78 P m).P = P ∧ (cx78 P m).m = m ∧ (cx78 P m).A.clsOf 8 = .draw ∧ (cx78 P m).A.frzOf 8 = [] ∧ (cx78 P m).A.loopOf 0 = ([], [2, 9, 10, 11], [2]) := ⟨rfl, rfl, rfl, rfl, rfl⟩
instance {P : Program} {m f : Nat} [h : EnT P f] : EnT (cx78 P m).P f := h
theorem chk78 : ∀ c, Try.f78.body = some c → chkC Try.f78.ntmps an78 c = true := by intro c h; obtain rfl := Option.some.inj h; decide +kernel
theorem op78 {args : List PV} {v : PV} (h : X (cx78 Try.prog 0) x78 (argsA 0 args) [] (.fin [.cell 2 29] fun v1 s1 => deref s1 6 v1 = v)) (hl : args.length ≤ Try.f78.ntmps := by rw [Try.ntmps78]; simp) : CallOK Try.prog 78 args [] v [] :=
  callX (m := 0) (cx78 Try.prog 0) x78 rfl rfl (by kernel_rfl) Try.func78 rfl rfl hl mixed (chk78 _ rfl) (by rw [Try.results78]; exact h)

theorem check_truth (l : List Tab) : CallOK Try.prog 78 [.list (l.map tab)] [] (.agg [.int .i64 (tabF l).1, .int .i64 (tabF l).2]) [] := by
  refine op78 ?_
  by_cases h20 : 20 < l.length
  · rw [show tabF l = (2, 0) from by unfold tabF; rw [if_pos h20]]
    have h20i : (20 : Int) < (l.length : Int) := by omega
    (((try simp (implicitDefEqProofs := false) [h20i]); (try simp (implicitDefEqProofs := false) (disch := first | assumption | (try simp only [lens]); omega -splitDisjunctions) [h20i])); all_goals try (repeat' ((first | ((with_reducible first | refine And.intro ?_ ?_ | refine Exists.intro ?_ ?_); first | omega | (simp <;> omega)) | (with_reducible refine spl (And.intro ?_ ?_) <;> intro _) | (refine CL.clo (fault_truth 2 0) ?_) | (refine CM.clo (fault_truth 2 0) ?_) | (refine CD.clo (fault_truth 2 0) ?_)) <;> ((try simp (implicitDefEqProofs := false) [h20i]); (try simp (implicitDefEqProofs := false) (disch := first | assumption | (try simp only [lens]); omega -splitDisjunctions) [h20i])))))
  · have hR : tabF l = (tabBad l 0).getD (0, 0) := by unfold tabF; rw [if_neg h20]
    generalize tabF l = R at *
    have h20i : ¬ (20 : Int) < (l.length : Int) := by omega
    (((try simp (implicitDefEqProofs := false) [h20i]); (try simp (implicitDefEqProofs := false) (disch := first | assumption | (try simp only [lens]); omega -splitDisjunctions) [h20i])); all_goals try (repeat' ((first | ((with_reducible first | refine And.intro ?_ ?_ | refine Exists.intro ?_ ?_); first | omega | (simp <;> omega)) | (with_reducible refine spl (And.intro ?_ ?_) <;> intro _)) <;> ((try simp (implicitDefEqProofs := false) [h20i]); (try simp (implicitDefEqProofs := false) (disch := first | assumption | (try simp only [lens]); omega -splitDisjunctions) [h20i])))))
    refine W_of fun Q hQ => ?_
    have main : ∀ r i, i + r = l.length → tabBad l 0 = tabBad (l.drop i) i → Q [(2, .ptr 0 0 0), (9, .list (l.map tab)), (10, .int .i64 (l.length : Int)), (11, .int .i64 (i : Int))] [.rows 2 [[.int .i64 0, .int .i64 0]]] := by
      intro r
      induction r with
      | zero =>
        intro i hi hb
        rw [List.drop_of_length_le (by omega), tabBad] at hb
        rw [hb] at hR
        subst hR
        apply hQ
        (((try simp (implicitDefEqProofs := false)); (try simp (implicitDefEqProofs := false) (disch := first | assumption | (try simp only [lens]); omega -splitDisjunctions))); all_goals try (repeat' ((first | ((with_reducible first | refine And.intro ?_ ?_ | refine Exists.intro ?_ ?_); first | omega | (simp <;> omega)) | (with_reducible refine spl (And.intro ?_ ?_) <;> intro _)) <;> ((try simp (implicitDefEqProofs := false)); (try simp (implicitDefEqProofs := false) (disch := first | assumption | (try simp only [lens]); omega -splitDisjunctions))))))
      | succ r ih =>
        intro i hi hb
        have hil : i < l.length := by omega
        have ih := ih (i + 1) (by omega)
        rw [tabBad_drop hil] at hb
        apply hQ
        clear hQ
        by_cases h1 : l[i].n < 0
        · rw [if_pos (.inl h1)] at hb
          rw [hb] at hR
          simp at hR
          subst hR
          (((try simp (implicitDefEqProofs := false) [hil, h1]); (try simp (implicitDefEqProofs := false) (disch := first | assumption | (try simp only [lens]); omega -splitDisjunctions) [hil, h1])); all_goals try (repeat' ((first | ((with_reducible first | refine And.intro ?_ ?_ | refine Exists.intro ?_ ?_); first | omega | (simp <;> omega)) | (with_reducible refine spl (And.intro ?_ ?_) <;> intro _) | (refine CL.clo (fault_truth 3 _) ?_) | (refine CM.clo (fault_truth 3 _) ?_) | (refine CD.clo (fault_truth 3 _) ?_)) <;> ((try simp (implicitDefEqProofs := false) [hil, h1]); (try simp (implicitDefEqProofs := false) (disch := first | assumption | (try simp only [lens]); omega -splitDisjunctions) [hil, h1])))))
        · by_cases h2 : 4 < l[i].n
          · rw [if_pos (.inr h2)] at hb
            rw [hb] at hR
            simp at hR
            subst hR
            (((try simp (implicitDefEqProofs := false) [hil, h1, h2]); (try simp (implicitDefEqProofs := false) (disch := first | assumption | (try simp only [lens]); omega -splitDisjunctions) [hil, h1, h2])); all_goals try (repeat' ((first | ((with_reducible first | refine And.intro ?_ ?_ | refine Exists.intro ?_ ?_); first | omega | (simp <;> omega)) | (with_reducible refine spl (And.intro ?_ ?_) <;> intro _) | (refine CL.clo (fault_truth 3 _) ?_) | (refine CM.clo (fault_truth 3 _) ?_) | (refine CD.clo (fault_truth 3 _) ?_)) <;> ((try simp (implicitDefEqProofs := false) [hil, h1, h2]); (try simp (implicitDefEqProofs := false) (disch := first | assumption | (try simp only [lens]); omega -splitDisjunctions) [hil, h1, h2])))))
          · rw [if_neg (by omega)] at hb
            have hsh := shl_nat l[i].n.toNat (by omega)
            rw [Int.toNat_of_nonneg (by omega)] at hsh
            generalize 2 ^ l[i].n.toNat = z at *
            by_cases h3 : l[i].bits.length = z
            · rw [if_neg (by omega)] at hb
              have ih := ih hb
              (((try simp (implicitDefEqProofs := false) [hil, h1, h2, hsh, h3]); (try simp (implicitDefEqProofs := false) (disch := first | assumption | (try simp only [lens]); omega -splitDisjunctions) [hil, h1, h2, hsh, h3])); all_goals try (repeat' ((first | ((with_reducible first | refine And.intro ?_ ?_ | refine Exists.intro ?_ ?_); first | omega | (simp <;> omega)) | (with_reducible refine spl (And.intro ?_ ?_) <;> intro _)) <;> ((try simp (implicitDefEqProofs := false) [hil, h1, h2, hsh, h3]); (try simp (implicitDefEqProofs := false) (disch := first | assumption | (try simp only [lens]); omega -splitDisjunctions) [hil, h1, h2, hsh, h3])))))
              all_goals first | exact ih | (refine at2 ih ?_ ?_ <;> simp; done) | (exfalso; first | omega | (simp_all; done) | (simp_all; omega))
            · rw [if_pos (by omega)] at hb
              rw [hb] at hR
              simp at hR
              subst hR
              have h3i : ¬ (l[i].bits.length : Int) = (z : Int) := by omega
              (((try simp (implicitDefEqProofs := false) [hil, h1, h2, hsh, h3, h3i]); (try simp (implicitDefEqProofs := false) (disch := first | assumption | (try simp only [lens]); omega -splitDisjunctions) [hil, h1, h2, hsh, h3, h3i])); all_goals try (repeat' ((first | ((with_reducible first | refine And.intro ?_ ?_ | refine Exists.intro ?_ ?_); first | omega | (simp <;> omega)) | (with_reducible refine spl (And.intro ?_ ?_) <;> intro _) | (refine CL.clo (fault_truth 9 _) ?_) | (refine CM.clo (fault_truth 9 _) ?_) | (refine CD.clo (fault_truth 9 _) ?_)) <;> ((try simp (implicitDefEqProofs := false) [hil, h1, h2, hsh, h3, h3i]); (try simp (implicitDefEqProofs := false) (disch := first | assumption | (try simp only [lens]); omega -splitDisjunctions) [hil, h1, h2, hsh, h3, h3i])))))
    all_goals first | exact main _ 0 (Nat.zero_add _) rfl | (refine at2 main _ 0 (Nat.zero_add _) rfl ?_ ?_ <;> simp; done) | (exfalso; first | omega | (simp_all; done) | (simp_all; omega))
def x27_T1 : XC := .seq (.reg [⟨some 45,.build 29 #[],none⟩,⟨none,.store 29 (.tmp 2) (.tmp 45),none⟩]) (.ret)
def x27_L0 : XC := .seq (.seq (.reg [⟨some 8,.move (.tmp 3),none⟩,⟨some 9,.move (.tmp 0),none⟩,⟨some 10,.call ⟨.builtin .len,#[.tmp 9],#[40]⟩,none⟩,⟨some 11,.binOp .lss 3 (.tmp 8) (.tmp 10) 3,none⟩]) (.cond (.tmp 11) (.skip) (.exit 0))) (.seq (.block 1 (.seq (.seq (.reg [⟨some 14,.move (.tmp 0),none⟩,⟨some 15,.move (.tmp 3),none⟩,⟨some 16,.indexAddr 40 (.tmp 14) (.tmp 15),none⟩,⟨some 17,.fieldAddr 48 (.tmp 16) 0,none⟩,⟨some 18,.load 3 (.tmp 17),none⟩,⟨some 19,.binOp .lss 3 (.tmp 18) (.const (.int .i64 0)) 3,none⟩,⟨some 20,.move (.tmp 19),none⟩,⟨some 21,.move (.tmp 0),some (some 20,false)⟩,⟨some 22,.move (.tmp 3),some (some 20,false)⟩,⟨some 23,.indexAddr 40 (.tmp 21) (.tmp 22),some (some 20,false)⟩,⟨some 24,.fieldAddr 48 (.tmp 23) 0,some (some 20,false)⟩,⟨some 25,.load 3 (.tmp 24),some (some 20,false)⟩,⟨some 26,.binOp .gtr 3 (.tmp 25) (.const (.int .i64 4)) 3,some (some 20,false)⟩,⟨some 27,.pick (.tmp 20) (.const (.bool true)) (.tmp 26),none⟩]) (.cond (.tmp 27) (.seq (.reg [⟨some 28,.move (.tmp 3),none⟩,⟨some 29,.call ⟨.value (.func 48),#[.const (.int .i64 3),.tmp 28],#[3,3]⟩,none⟩,⟨none,.store 29 (.tmp 2) (.tmp 29),none⟩]) (.ret)) (.skip))) (.seq (.drawn 8 [⟨some 30,.move (.tmp 0),none⟩,⟨some 31,.move (.tmp 3),none⟩,⟨some 32,.indexAddr 40 (.tmp 30) (.tmp 31),none⟩,⟨some 33,.fieldAddr 48 (.tmp 32) 1,none⟩,⟨some 34,.load 46 (.tmp 33),none⟩,⟨some 35,.call ⟨.builtin .len,#[.tmp 34],#[46]⟩,none⟩,⟨some 36,.move (.tmp 0),none⟩,⟨some 37,.move (.tmp 3),none⟩,⟨some 38,.indexAddr 40 (.tmp 36) (.tmp 37),none⟩,⟨some 39,.fieldAddr 48 (.tmp 38) 0,none⟩,⟨some 40,.load 3 (.tmp 39),none⟩,⟨some 41,.binOp .shl 3 (.const (.int .i64 1)) (.tmp 40) 3,none⟩,⟨some 42,.binOp .neq 3 (.tmp 35) (.tmp 41) 3,none⟩]) (.cond (.tmp 42) (.seq (.reg [⟨some 43,.move (.tmp 3),none⟩,⟨some 44,.call ⟨.value (.func 48),#[.const (.int .i64 9),.tmp 43],#[3,3]⟩,none⟩,⟨none,.store 29 (.tmp 2) (.tmp 44),none⟩]) (.ret)) (.skip))))) (.reg [⟨some 12,.move (.tmp 3),none⟩,⟨some 13,.binOp .add 3 (.tmp 12) (.const (.int .i64 1)) 3,none⟩,⟨some 3,.assign (.tmp 13),none⟩]))
def x27 : XC := .seq (.reg [⟨some 2,.alloc 29,none⟩]) (.seq (.seq (.reg [⟨some 4,.move (.tmp 0),none⟩,⟨some 5,.call ⟨.builtin .len,#[.tmp 4],#[40]⟩,none⟩,⟨some 6,.binOp .gtr 3 (.tmp 5) (.const (.int .i64 20)) 3,none⟩]) (.cond (.tmp 6) (.seq (.reg [⟨some 7,.call ⟨.value (.func 48),#[.const (.int .i64 2),.const (.int .i64 0)],#[3,3]⟩,none⟩,⟨none,.store 29 (.tmp 2) (.tmp 7),none⟩]) (.ret)) (.skip))) (.seq (.seq (.reg [⟨some 3,.assign (.const (.int .i64 0)),none⟩]) (.bloop 0 x27_L0)) (x27_T1)))
@[simp] theorem x27_s {C : WC} {e : AE} {s : Store} {K : KS} : type_of% (@X_at C e s K _ _ x27_T1.eq_1) ∧ type_of% (@X_at C e s K _ _ x27_L0.eq_1) ∧ type_of% (@X_at C e s K _ _ x27.eq_1) := ⟨X_at x27_T1.eq_1, X_at x27_L0.eq_1, X_at x27.eq_1⟩
def an27 : Ann := ⟨[], [(0, [], [0, 2, 3], [2])], []⟩
def cx27 (P : Program) (m : Nat) : WC := ⟨P, m, an27⟩
@[simp] theorem cx27_a {P : Program} {m : Nat} : (cx27 P m).P = P ∧ (cx27 P m).m = m ∧ (cx27 P m).A.clsOf 8 = .draw ∧ (cx27 P m).A.frzOf 8 = [] ∧ (cx27 P m).A.loopOf 0 = ([], [0, 2, 3], [2]) := ⟨rfl, rfl, rfl, rfl, rfl⟩
instance {P : Program} {m f : Nat} [h : EnT P f] : EnT (cx27 P m).P f := h
theorem chk27 : ∀ c, Try.f27.body = some c → chkC Try.f27.ntmps an27 c = true := by intro c h; obtain rfl := Option.some.inj h; decide +kernel
theorem op27 {args : List PV} {v : PV} (h : X (cx27 Try.prog 0) x27 (argsA 0 args) [] (.fin [.cell 2 29] fun v1 s1 => deref s1 6 v1 = v)) (hl : args.length ≤ Try.f27.ntmps := by rw [Try.ntmps27]; simp) : CallOK Try.prog 27 args [] v [] :=
  callX (m := 0) (cx27 Try.prog 0) x27 rfl rfl (by kernel_rfl) Try.func27 rfl rfl hl mixed (chk27 _ rfl) (by rw [Try.results27]; exact h)

theorem TableFault_ref (l : List Tab) : CallOK Try.prog 27 [.list (l.map tab)] [] (.agg [.int .i64 (tabF l).1, .int .i64 (tabF l).2]) [] := by
  refine op27 ?_
  by_cases h20 : 20 < l.length
  · rw [show tabF l = (2, 0) from by unfold tabF; rw [if_pos h20]]
    have h20i : (20 : Int) < (l.length : Int) := by omega
    (((try simp (implicitDefEqProofs := false) [h20i]); (try simp (implicitDefEqProofs := false) (disch := first | assumption | (try simp only [lens]); omega -splitDisjunctions) [h20i])); all_goals try (repeat' ((first | ((with_reducible first | refine And.intro ?_ ?_ | refine Exists.intro ?_ ?_); first | omega | (simp <;> omega)) | (with_reducible refine spl (And.intro ?_ ?_) <;> intro _) | (refine CL.clo (F_ref 2 0) ?_) | (refine CM.clo (F_ref 2 0) ?_) | (refine CD.clo (F_ref 2 0) ?_)) <;> ((try simp (implicitDefEqProofs := false) [h20i]); (try simp (implicitDefEqProofs := false) (disch := first | assumption | (try simp only [lens]); omega -splitDisjunctions) [h20i])))))
  · have hR : tabF l = (tabBad l 0).getD (0, 0) := by unfold tabF; rw [if_neg h20]
    generalize tabF l = R at *
    have h20i : ¬ (20 : Int) < (l.length : Int) := by omega
    (((try simp (implicitDefEqProofs := false) [h20i]); (try simp (implicitDefEqProofs := false) (disch := first | assumption | (try simp only [lens]); omega -splitDisjunctions) [h20i])); all_goals try (repeat' ((first | ((with_reducible first | refine And.intro ?_ ?_ | refine Exists.intro ?_ ?_); first | omega | (simp <;> omega)) | (with_reducible refine spl (And.intro ?_ ?_) <;> intro _)) <;> ((try simp (implicitDefEqProofs := false) [h20i]); (try simp (implicitDefEqProofs := false) (disch := first | assumption | (try simp only [lens]); omega -splitDisjunctions) [h20i])))))
    refine W_of fun Q hQ => ?_
    have main : ∀ r i, i + r = l.length → tabBad l 0 = tabBad (l.drop i) i → Q [(0, .list (l.map tab)), (2, .ptr 0 0 0), (3, .int .i64 (i : Int))] [.rows 2 [[.int .i64 0, .int .i64 0]]] := by
      intro r
      induction r with
      | zero =>
        intro i hi hb
        rw [List.drop_of_length_le (by omega), tabBad] at hb
        rw [hb] at hR
        subst hR
        apply hQ
        (((try simp (implicitDefEqProofs := false)); (try simp (implicitDefEqProofs := false) (disch := first | assumption | (try simp only [lens]); omega -splitDisjunctions))); all_goals try (repeat' ((first | ((with_reducible first | refine And.intro ?_ ?_ | refine Exists.intro ?_ ?_); first | omega | (simp <;> omega)) | (with_reducible refine spl (And.intro ?_ ?_) <;> intro _)) <;> ((try simp (implicitDefEqProofs := false)); (try simp (implicitDefEqProofs := false) (disch := first | assumption | (try simp only [lens]); omega -splitDisjunctions))))))
      | succ r ih =>
        intro i hi hb
        have hil : i < l.length := by omega
        have ih := ih (i + 1) (by omega)
        rw [tabBad_drop hil] at hb
        apply hQ
        clear hQ
        by_cases h1 : l[i].n < 0
        · rw [if_pos (.inl h1)] at hb
          rw [hb] at hR
          simp at hR
          subst hR
          (((try simp (implicitDefEqProofs := false) [hil, h1]); (try simp (implicitDefEqProofs := false) (disch := first | assumption | (try simp only [lens]); omega -splitDisjunctions) [hil, h1])); all_goals try (repeat' ((first | ((with_reducible first | refine And.intro ?_ ?_ | refine Exists.intro ?_ ?_); first | omega | (simp <;> omega)) | (with_reducible refine spl (And.intro ?_ ?_) <;> intro _) | (refine CL.clo (F_ref 3 _) ?_) | (refine CM.clo (F_ref 3 _) ?_) | (refine CD.clo (F_ref 3 _) ?_)) <;> ((try simp (implicitDefEqProofs := false) [hil, h1]); (try simp (implicitDefEqProofs := false) (disch := first | assumption | (try simp only [lens]); omega -splitDisjunctions) [hil, h1])))))
        · by_cases h2 : 4 < l[i].n
          · rw [if_pos (.inr h2)] at hb
            rw [hb] at hR
            simp at hR
            subst hR
            (((try simp (implicitDefEqProofs := false) [hil, h1, h2]); (try simp (implicitDefEqProofs := false) (disch := first | assumption | (try simp only [lens]); omega -splitDisjunctions) [hil, h1, h2])); all_goals try (repeat' ((first | ((with_reducible first | refine And.intro ?_ ?_ | refine Exists.intro ?_ ?_); first | omega | (simp <;> omega)) | (with_reducible refine spl (And.intro ?_ ?_) <;> intro _) | (refine CL.clo (F_ref 3 _) ?_) | (refine CM.clo (F_ref 3 _) ?_) | (refine CD.clo (F_ref 3 _) ?_)) <;> ((try simp (implicitDefEqProofs := false) [hil, h1, h2]); (try simp (implicitDefEqProofs := false) (disch := first | assumption | (try simp only [lens]); omega -splitDisjunctions) [hil, h1, h2])))))
          · rw [if_neg (by omega)] at hb
            have hsh := shl_nat l[i].n.toNat (by omega)
            rw [Int.toNat_of_nonneg (by omega)] at hsh
            generalize 2 ^ l[i].n.toNat = z at *
            by_cases h3 : l[i].bits.length = z
            · rw [if_neg (by omega)] at hb
              have ih := ih hb
              (((try simp (implicitDefEqProofs := false) [hil, h1, h2, hsh, h3]); (try simp (implicitDefEqProofs := false) (disch := first | assumption | (try simp only [lens]); omega -splitDisjunctions) [hil, h1, h2, hsh, h3])); all_goals try (repeat' ((first | ((with_reducible first | refine And.intro ?_ ?_ | refine Exists.intro ?_ ?_); first | omega | (simp <;> omega)) | (with_reducible refine spl (And.intro ?_ ?_) <;> intro _)) <;> ((try simp (implicitDefEqProofs := false) [hil, h1, h2, hsh, h3]); (try simp (implicitDefEqProofs := false) (disch := first | assumption | (try simp only [lens]); omega -splitDisjunctions) [hil, h1, h2, hsh, h3])))))
              all_goals first | exact ih | (refine at2 ih ?_ ?_ <;> simp; done) | (exfalso; first | omega | (simp_all; done) | (simp_all; omega))
            · rw [if_pos (by omega)] at hb
              rw [hb] at hR
              simp at hR
              subst hR
              have h3i : ¬ (l[i].bits.length : Int) = (z : Int) := by omega
              (((try simp (implicitDefEqProofs := false) [hil, h1, h2, hsh, h3, h3i]); (try simp (implicitDefEqProofs := false) (disch := first | assumption | (try simp only [lens]); omega -splitDisjunctions) [hil, h1, h2, hsh, h3, h3i])); all_goals try (repeat' ((first | ((with_reducible first | refine And.intro ?_ ?_ | refine Exists.intro ?_ ?_); first | omega | (simp <;> omega)) | (with_reducible refine spl (And.intro ?_ ?_) <;> intro _) | (refine CL.clo (F_ref 9 _) ?_) | (refine CM.clo (F_ref 9 _) ?_) | (refine CD.clo (F_ref 9 _) ?_)) <;> ((try simp (implicitDefEqProofs := false) [hil, h1, h2, hsh, h3, h3i]); (try simp (implicitDefEqProofs := false) (disch := first | assumption | (try simp only [lens]); omega -splitDisjunctions) [hil, h1, h2, hsh, h3, h3i])))))
    all_goals first | exact main _ 0 (Nat.zero_add _) rfl | (refine at2 main _ 0 (Nat.zero_add _) rfl ?_ ?_ <;> simp; done) | (exfalso; first | omega | (simp_all; done) | (simp_all; omega))
end Go.Proofs.Ytbmpmmbcfabeeaa
