/-
  sequentlaw: sameNumbers, sameTables, algebraBegun.
-/
import Derived.Test.YthnobaacfjihcaaQAd
namespace Go.Proofs.Ythnobaacfjihcaa
open Go Go.Pv
set_option linter.unusedVariables false
set_option linter.unusedSimpArgs false
set_option maxRecDepth 100000
set_option maxHeartbeats 4000000

def x21_L0 : XC := .seq (.seq (.reg [⟨some 11,.move (.tmp 5),none⟩,⟨some 12,.move (.tmp 0),none⟩,⟨some 13,.call ⟨.builtin .len,#[.tmp 12],#[37]⟩,none⟩,⟨some 14,.binOp .lss 3 (.tmp 11) (.tmp 13) 3,none⟩]) (.cond (.tmp 14) (.skip) (.exit 0))) (.seq (.block 1 (.seq (.drawn 6 [⟨some 17,.move (.tmp 0),none⟩,⟨some 18,.move (.tmp 5),none⟩,⟨some 19,.indexAddr 37 (.tmp 17) (.tmp 18),none⟩,⟨some 20,.load 3 (.tmp 19),none⟩,⟨some 21,.move (.tmp 1),none⟩,⟨some 22,.move (.tmp 5),none⟩,⟨some 23,.indexAddr 37 (.tmp 21) (.tmp 22),none⟩,⟨some 24,.load 3 (.tmp 23),none⟩,⟨some 25,.binOp .neq 3 (.tmp 20) (.tmp 24) 3,none⟩]) (.cond (.tmp 25) (.seq (.reg [⟨some 4,.assign (.const (.bool false)),none⟩]) (.ret)) (.skip)))) (.reg [⟨some 15,.move (.tmp 5),none⟩,⟨some 16,.binOp .add 3 (.tmp 15) (.const (.int .i64 1)) 3,none⟩,⟨some 5,.assign (.tmp 16),none⟩]))
def x21 : XC := .seq (.reg [⟨some 4,.assign (.const (.bool false)),none⟩]) (.seq (.seq (.reg [⟨some 6,.move (.tmp 0),none⟩,⟨some 7,.call ⟨.builtin .len,#[.tmp 6],#[37]⟩,none⟩,⟨some 8,.move (.tmp 1),none⟩,⟨some 9,.call ⟨.builtin .len,#[.tmp 8],#[37]⟩,none⟩,⟨some 10,.binOp .neq 3 (.tmp 7) (.tmp 9) 3,none⟩]) (.cond (.tmp 10) (.seq (.reg [⟨some 4,.assign (.const (.bool false)),none⟩]) (.ret)) (.skip))) (.seq (.seq (.reg [⟨some 5,.assign (.const (.int .i64 0)),none⟩]) (.bloop 0 x21_L0)) (.seq (.reg [⟨some 4,.assign (.const (.bool true)),none⟩]) (.ret))))
@[simp] theorem x21_s {C : WC} {e : AE} {s : Store} {K : KS} : type_of% (@X_at C e s K _ _ x21_L0.eq_1) ∧ type_of% (@X_at C e s K _ _ x21.eq_1) := ⟨X_at x21_L0.eq_1, X_at x21.eq_1⟩
def an21 : Ann := ⟨[], [(0, [], [0, 1, 5], [4])], []⟩
def cx21 (P : Program) (m : Nat) : WC := ⟨P, m, an21⟩
@[simp] theorem cx21_a {P : Program} {m : Nat} : (cx21 P m).P = P ∧ (cx21 P m).m = m ∧ (cx21 P m).A.clsOf 6 = .draw ∧ (cx21 P m).A.frzOf 6 = [] ∧ (cx21 P m).A.loopOf 0 = ([], [0, 1, 5], [4]) := ⟨rfl, rfl, rfl, rfl, rfl⟩
instance {P : Program} {m f : Nat} [h : EnT P f] : EnT (cx21 P m).P f := h
theorem chk21 : ∀ c, Try.f21.body = some c → chkC Try.f21.ntmps an21 c = true := by intro c h; obtain rfl := Option.some.inj h; decide +kernel
theorem op21 {args : List PV} {v : PV} (h : X (cx21 Try.prog 0) x21 (argsA 0 args) [] (.fin [.tmp 4] fun v1 s1 => deref s1 6 v1 = v)) (hl : args.length ≤ Try.f21.ntmps := by rw [Try.ntmps21]; simp) : CallOK Try.prog 21 args [] v [] :=
  callX (m := 0) (cx21 Try.prog 0) x21 rfl rfl (by kernel_rfl) Try.func21 rfl rfl hl mixed (chk21 _ rfl) (by rw [Try.results21]; exact h)

theorem sameNumbers_law (l l2 : List Nat) (h1 : l.length ≤ 5000) (h2 : l2.length ≤ 5000) : CallOK Try.prog 21 [.list (l.map numRow), .list (l2.map numRow)] [] (.bool (decide (l = l2))) [] := by
  refine op21 ?_
  by_cases hl : l.length = l2.length
  · (((try simp (implicitDefEqProofs := false) [hl]); (try simp (implicitDefEqProofs := false) (disch := first | assumption | (try simp only [lens]); omega -splitDisjunctions) [hl])); all_goals try (repeat' ((first | ((with_reducible first | refine And.intro ?_ ?_ | refine Exists.intro ?_ ?_); first | omega | (simp <;> omega)) | (with_reducible refine spl (And.intro ?_ ?_) <;> intro _)) <;> ((try simp (implicitDefEqProofs := false) [hl]); (try simp (implicitDefEqProofs := false) (disch := first | assumption | (try simp only [lens]); omega -splitDisjunctions) [hl])))))
    refine W_of fun Q hQ => ?_
    have main : ∀ k i, i + k = l2.length → (∀ j (h : j < l.length) (h' : j < l2.length), j < i → l[j] = l2[j]) → Q [(0, .list (l.map numRow)), (1, .list (l2.map numRow)), (5, .int .i64 (i : Int))] [] := by
      intro k
      induction k with
      | zero =>
        intro i hi hb
        have he : l = l2 := List.ext_getElem hl fun j h h' => hb j h h' (by omega)
        apply hQ
        clear hQ
        subst he
        (((try simp (implicitDefEqProofs := false)); (try simp (implicitDefEqProofs := false) (disch := first | assumption | (try simp only [lens]); omega -splitDisjunctions))); all_goals try (repeat' ((first | ((with_reducible first | refine And.intro ?_ ?_ | refine Exists.intro ?_ ?_); first | omega | (simp <;> omega)) | (with_reducible refine spl (And.intro ?_ ?_) <;> intro _)) <;> ((try simp (implicitDefEqProofs := false)); (try simp (implicitDefEqProofs := false) (disch := first | assumption | (try simp only [lens]); omega -splitDisjunctions))))))
      | succ k ih =>
        intro i hi hb
        have hi1 : i < l.length := by omega
        have hi2 : i < l2.length := by omega
        have ih := ih (i + 1) (by omega)
        apply hQ
        clear hQ
        by_cases hv : l[i] = l2[i]
        · have ih := ih (fun j h h' hj => by
            by_cases e : j = i
            · subst e; exact hv
            · exact hb j h h' (by omega))
          (((try simp (implicitDefEqProofs := false) [hi1, hi2, hv, numRow]); (try simp (implicitDefEqProofs := false) (disch := first | assumption | (try simp only [lens]); omega -splitDisjunctions) [hi1, hi2, hv, numRow])); all_goals try (repeat' ((first | ((with_reducible first | refine And.intro ?_ ?_ | refine Exists.intro ?_ ?_); first | omega | (simp <;> omega)) | (with_reducible refine spl (And.intro ?_ ?_) <;> intro _)) <;> ((try simp (implicitDefEqProofs := false) [hi1, hi2, hv, numRow]); (try simp (implicitDefEqProofs := false) (disch := first | assumption | (try simp only [lens]); omega -splitDisjunctions) [hi1, hi2, hv, numRow])))))
          refine at2 ih ?_ ?_ <;> simp
        · have hne : l ≠ l2 := fun e => by subst e; exact hv rfl
          have hvi : ¬ (((l[i] : Nat) : Int) = ((l2[i] : Nat) : Int)) := by omega
          (((try simp (implicitDefEqProofs := false) [hi1, hi2, hvi, hne, numRow]); (try simp (implicitDefEqProofs := false) (disch := first | assumption | (try simp only [lens]); omega -splitDisjunctions) [hi1, hi2, hvi, hne, numRow])); all_goals try (repeat' ((first | ((with_reducible first | refine And.intro ?_ ?_ | refine Exists.intro ?_ ?_); first | omega | (simp <;> omega)) | (with_reducible refine spl (And.intro ?_ ?_) <;> intro _)) <;> ((try simp (implicitDefEqProofs := false) [hi1, hi2, hvi, hne, numRow]); (try simp (implicitDefEqProofs := false) (disch := first | assumption | (try simp only [lens]); omega -splitDisjunctions) [hi1, hi2, hvi, hne, numRow])))))
    refine at2 (main _ 0 (Nat.zero_add _) (fun j h h' hj => by omega)) ?_ ?_ <;> simp
  · have hne : l ≠ l2 := fun e => hl (by rw [e])
    have hli : ¬ (((l.length : Nat) : Int) = (l2.length : Int)) := by omega
    (((try simp (implicitDefEqProofs := false) [hli, hne]); (try simp (implicitDefEqProofs := false) (disch := first | assumption | (try simp only [lens]); omega -splitDisjunctions) [hli, hne])); all_goals try (repeat' ((first | ((with_reducible first | refine And.intro ?_ ?_ | refine Exists.intro ?_ ?_); first | omega | (simp <;> omega)) | (with_reducible refine spl (And.intro ?_ ?_) <;> intro _)) <;> ((try simp (implicitDefEqProofs := false) [hli, hne]); (try simp (implicitDefEqProofs := false) (disch := first | assumption | (try simp only [lens]); omega -splitDisjunctions) [hli, hne])))))
def x11_L0 : XC := .seq (.seq (.reg [⟨some 11,.move (.tmp 5),none⟩,⟨some 12,.move (.tmp 0),none⟩,⟨some 13,.call ⟨.builtin .len,#[.tmp 12],#[33]⟩,none⟩,⟨some 14,.binOp .lss 3 (.tmp 11) (.tmp 13) 3,none⟩]) (.cond (.tmp 14) (.skip) (.exit 0))) (.seq (.block 1 (.seq (.drawn 6 [⟨some 17,.move (.tmp 0),none⟩,⟨some 18,.move (.tmp 5),none⟩,⟨some 19,.indexAddr 33 (.tmp 17) (.tmp 18),none⟩,⟨some 20,.load 37 (.tmp 19),none⟩,⟨some 21,.move (.tmp 1),none⟩,⟨some 22,.move (.tmp 5),none⟩,⟨some 23,.indexAddr 33 (.tmp 21) (.tmp 22),none⟩,⟨some 24,.load 37 (.tmp 23),none⟩,⟨some 25,.call ⟨.value (.func 21),#[.tmp 20,.tmp 24],#[37,37]⟩,none⟩,⟨some 26,.unOp .not 4 (.tmp 25),none⟩]) (.cond (.tmp 26) (.seq (.reg [⟨some 4,.assign (.const (.bool false)),none⟩]) (.ret)) (.skip)))) (.reg [⟨some 15,.move (.tmp 5),none⟩,⟨some 16,.binOp .add 3 (.tmp 15) (.const (.int .i64 1)) 3,none⟩,⟨some 5,.assign (.tmp 16),none⟩]))
def x11 : XC := .seq (.reg [⟨some 4,.assign (.const (.bool false)),none⟩]) (.seq (.seq (.reg [⟨some 6,.move (.tmp 0),none⟩,⟨some 7,.call ⟨.builtin .len,#[.tmp 6],#[33]⟩,none⟩,⟨some 8,.move (.tmp 1),none⟩,⟨some 9,.call ⟨.builtin .len,#[.tmp 8],#[33]⟩,none⟩,⟨some 10,.binOp .neq 3 (.tmp 7) (.tmp 9) 3,none⟩]) (.cond (.tmp 10) (.seq (.reg [⟨some 4,.assign (.const (.bool false)),none⟩]) (.ret)) (.skip))) (.seq (.seq (.reg [⟨some 5,.assign (.const (.int .i64 0)),none⟩]) (.bloop 0 x11_L0)) (.seq (.reg [⟨some 4,.assign (.const (.bool true)),none⟩]) (.ret))))
@[simp] theorem x11_s {C : WC} {e : AE} {s : Store} {K : KS} : type_of% (@X_at C e s K _ _ x11_L0.eq_1) ∧ type_of% (@X_at C e s K _ _ x11.eq_1) := ⟨X_at x11_L0.eq_1, X_at x11.eq_1⟩
def an11 : Ann := ⟨[(6, .mix 8)], [(0, [], [0, 1, 5], [4])], []⟩
def cx11 (P : Program) (m : Nat) : WC := ⟨P, m, an11⟩
@[simp] theorem cx11_a {P : Program} {m : Nat} : (cx11 P m).P = P ∧ (cx11 P m).m = m ∧ (cx11 P m).A.clsOf 6 = .mix 8 ∧ (cx11 P m).A.frzOf 6 = [] ∧ (cx11 P m).A.loopOf 0 = ([], [0, 1, 5], [4]) := ⟨rfl, rfl, rfl, rfl, rfl⟩
instance {P : Program} {m f : Nat} [h : EnT P f] : EnT (cx11 P m).P f := h
theorem chk11 : ∀ c, Try.f11.body = some c → chkC Try.f11.ntmps an11 c = true := by intro c h; obtain rfl := Option.some.inj h; decide +kernel
theorem op11 {args : List PV} {v : PV} (h : X (cx11 Try.prog 0) x11 (argsA 0 args) [] (.fin [.tmp 4] fun v1 s1 => deref s1 6 v1 = v)) (hl : args.length ≤ Try.f11.ntmps := by rw [Try.ntmps11]; simp) : CallOK Try.prog 11 args [] v [] :=
  callX (m := 0) (cx11 Try.prog 0) x11 rfl rfl (by kernel_rfl) Try.func11 rfl rfl hl mixed (chk11 _ rfl) (by rw [Try.results11]; exact h)

theorem sameTables_law (l l2 : List (List Nat)) (h1 : l.length ≤ 5000) (h2 : l2.length ≤ 5000) (h3 : ∀ x ∈ l, x.length ≤ 5000) (h4 : ∀ x ∈ l2, x.length ≤ 5000) : CallOK Try.prog 11 [.list (l.map numsRow), .list (l2.map numsRow)] [] (.bool (decide (l = l2))) [] := by
  refine op11 ?_
  by_cases hl : l.length = l2.length
  · (((try simp (implicitDefEqProofs := false) [hl]); (try simp (implicitDefEqProofs := false) (disch := first | assumption | (try simp only [lens]); omega -splitDisjunctions) [hl])); all_goals try (repeat' ((first | ((with_reducible first | refine And.intro ?_ ?_ | refine Exists.intro ?_ ?_); first | omega | (simp <;> omega)) | (with_reducible refine spl (And.intro ?_ ?_) <;> intro _)) <;> ((try simp (implicitDefEqProofs := false) [hl]); (try simp (implicitDefEqProofs := false) (disch := first | assumption | (try simp only [lens]); omega -splitDisjunctions) [hl])))))
    refine W_of fun Q hQ => ?_
    have main : ∀ k i, i + k = l2.length → (∀ j (h : j < l.length) (h' : j < l2.length), j < i → l[j] = l2[j]) → Q [(0, .list (l.map numsRow)), (1, .list (l2.map numsRow)), (5, .int .i64 (i : Int))] [] := by
      intro k
      induction k with
      | zero =>
        intro i hi hb
        have he : l = l2 := List.ext_getElem hl fun j h h' => hb j h h' (by omega)
        apply hQ
        clear hQ
        subst he
        (((try simp (implicitDefEqProofs := false)); (try simp (implicitDefEqProofs := false) (disch := first | assumption | (try simp only [lens]); omega -splitDisjunctions))); all_goals try (repeat' ((first | ((with_reducible first | refine And.intro ?_ ?_ | refine Exists.intro ?_ ?_); first | omega | (simp <;> omega)) | (with_reducible refine spl (And.intro ?_ ?_) <;> intro _)) <;> ((try simp (implicitDefEqProofs := false)); (try simp (implicitDefEqProofs := false) (disch := first | assumption | (try simp only [lens]); omega -splitDisjunctions))))))
      | succ k ih =>
        intro i hi hb
        have hi1 : i < l.length := by omega
        have hi2 : i < l2.length := by omega
        have ih := ih (i + 1) (by omega)
        have hsn := sameNumbers_law l[i] l2[i] (h3 _ (List.getElem_mem hi1)) (h4 _ (List.getElem_mem hi2))
        apply hQ
        clear hQ
        by_cases hv : l[i] = l2[i]
        · have ih := ih (fun j h h' hj => by
            by_cases e : j = i
            · subst e; exact hv
            · exact hb j h h' (by omega))
          rw [decide_eq_true hv] at hsn
          (((try simp (implicitDefEqProofs := false) [hi1, hi2, numsRow]); (try simp (implicitDefEqProofs := false) (disch := first | assumption | (try simp only [lens]); omega -splitDisjunctions) [hi1, hi2, numsRow])); all_goals try (repeat' ((first | ((with_reducible first | refine And.intro ?_ ?_ | refine Exists.intro ?_ ?_); first | omega | (simp <;> omega)) | (with_reducible refine spl (And.intro ?_ ?_) <;> intro _) | (refine CL.clo (hsn) ?_) | (refine CM.clo (hsn) ?_) | (refine CD.clo (hsn) ?_)) <;> ((try simp (implicitDefEqProofs := false) [hi1, hi2, numsRow]); (try simp (implicitDefEqProofs := false) (disch := first | assumption | (try simp only [lens]); omega -splitDisjunctions) [hi1, hi2, numsRow])))))
          refine at2 ih ?_ ?_ <;> simp
        · have hne : l ≠ l2 := fun e => by subst e; exact hv rfl
          rw [decide_eq_false hv] at hsn
          (((try simp (implicitDefEqProofs := false) [hi1, hi2, hne, numsRow]); (try simp (implicitDefEqProofs := false) (disch := first | assumption | (try simp only [lens]); omega -splitDisjunctions) [hi1, hi2, hne, numsRow])); all_goals try (repeat' ((first | ((with_reducible first | refine And.intro ?_ ?_ | refine Exists.intro ?_ ?_); first | omega | (simp <;> omega)) | (with_reducible refine spl (And.intro ?_ ?_) <;> intro _) | (refine CL.clo (hsn) ?_) | (refine CM.clo (hsn) ?_) | (refine CD.clo (hsn) ?_)) <;> ((try simp (implicitDefEqProofs := false) [hi1, hi2, hne, numsRow]); (try simp (implicitDefEqProofs := false) (disch := first | assumption | (try simp only [lens]); omega -splitDisjunctions) [hi1, hi2, hne, numsRow])))))
    refine at2 (main _ 0 (Nat.zero_add _) (fun j h h' hj => by omega)) ?_ ?_ <;> simp
  · have hne : l ≠ l2 := fun e => hl (by rw [e])
    have hli : ¬ (((l.length : Nat) : Int) = (l2.length : Int)) := by omega
    (((try simp (implicitDefEqProofs := false) [hli, hne]); (try simp (implicitDefEqProofs := false) (disch := first | assumption | (try simp only [lens]); omega -splitDisjunctions) [hli, hne])); all_goals try (repeat' ((first | ((with_reducible first | refine And.intro ?_ ?_ | refine Exists.intro ?_ ?_); first | omega | (simp <;> omega)) | (with_reducible refine spl (And.intro ?_ ?_) <;> intro _)) <;> ((try simp (implicitDefEqProofs := false) [hli, hne]); (try simp (implicitDefEqProofs := false) (disch := first | assumption | (try simp only [lens]); omega -splitDisjunctions) [hli, hne])))))
theorem leB_nil : leB [] = fun i j => decide (i = j) := by
  funext i j
  rw [Bool.eq_iff_iff, leB_iff, decide_eq_true_iff]
  constructor
  · intro h
    cases h with
    | refl => rfl
    | step _ g => cases g
  · rintro rfl; exact .refl _
theorem ofault_two : ofault ⟨2, []⟩ = (0, 0) := by
  unfold ofault
  rw [if_neg (by simp), show relBad 2 [] 0 = none from rfl]
  have : cyc [] = fun i => (List.range i).any fun k => decide (i = k) && decide (k = i) := by funext i; unfold cyc; rw [leB_nil]
  simp only [this]
  rfl
def x7 : XC := .seq (.reg [⟨some 0,.assign (.const (.bool false)),none⟩]) (.seq (.reg [⟨some 7,.build 24 #[(0,.const (.int .i64 2))],none⟩,⟨some 8,.call ⟨.value (.func 10),#[.tmp 7],#[24]⟩,none⟩,⟨some 6,.move (.tmp 8),none⟩,⟨some 9,.extract (.tmp 6) 0,none⟩,⟨some 10,.extract (.tmp 6) 1,none⟩,⟨some 11,.extract (.tmp 6) 2,none⟩,⟨some 3,.alloc 27,none⟩,⟨some 1,.assign (.tmp 9),none⟩,⟨some 2,.assign (.tmp 10),none⟩,⟨none,.store 27 (.tmp 3) (.tmp 11),none⟩]) (.seq (.reg [⟨some 13,.build 24 #[(0,.const (.int .i64 2))],none⟩,⟨some 14,.call ⟨.value (.func 15),#[.tmp 13],#[24]⟩,none⟩,⟨some 12,.move (.tmp 14),none⟩,⟨some 15,.extract (.tmp 12) 0,none⟩,⟨some 16,.extract (.tmp 12) 1,none⟩,⟨some 5,.alloc 27,none⟩,⟨some 4,.assign (.tmp 15),none⟩,⟨none,.store 27 (.tmp 5) (.tmp 16),none⟩]) (.seq (.drawn 3 [⟨some 17,.load 27 (.tmp 3),none⟩,⟨some 18,.call ⟨.value (.func 20),#[.const (.int .i64 6),.const (.int .i64 0)],#[3,3]⟩,none⟩,⟨some 19,.binOp .eql 27 (.tmp 17) (.tmp 18) 27,none⟩,⟨some 20,.move (.tmp 19),none⟩,⟨some 21,.fieldAddr 27 (.tmp 5) 0,some (some 20,true)⟩,⟨some 22,.load 3 (.tmp 21),some (some 20,true)⟩,⟨some 23,.binOp .eql 3 (.tmp 22) (.const (.int .i64 0)) 3,some (some 20,true)⟩,⟨some 24,.pick (.tmp 20) (.tmp 23) (.const (.bool false)),none⟩,⟨some 25,.move (.tmp 24),none⟩,⟨some 26,.move (.tmp 4),some (some 25,true)⟩,⟨some 27,.call ⟨.builtin .len,#[.tmp 26],#[33]⟩,some (some 25,true)⟩,⟨some 28,.binOp .eql 3 (.tmp 27) (.const (.int .i64 4)) 3,some (some 25,true)⟩,⟨some 29,.pick (.tmp 25) (.tmp 28) (.const (.bool false)),none⟩,⟨some 0,.assign (.tmp 29),none⟩]) (.ret))))
@[simp] theorem x7_s {C : WC} {e : AE} {s : Store} {K : KS} : type_of% (@X_at C e s K _ _ x7.eq_1) := X_at x7.eq_1
def an7 : Ann := ⟨[(3, .mix 2)], [], []⟩
def cx7 (P : Program) (m : Nat) : WC := ⟨P, m, an7⟩
@[simp] theorem cx7_a {P : Program} {m : Nat} : (cx7 P m).P = P ∧ (cx7 P m).m = m ∧ (cx7 P m).A.clsOf 3 = .mix 2 ∧ (cx7 P m).A.frzOf 3 = [] := ⟨rfl, rfl, rfl, rfl⟩
instance {P : Program} {m f : Nat} [h : EnT P f] : EnT (cx7 P m).P f := h
theorem chk7 : ∀ c, Try.f7.body = some c → chkC Try.f7.ntmps an7 c = true := by intro c h; obtain rfl := Option.some.inj h; decide +kernel
theorem op7 {args : List PV} {v : PV} (h : X (cx7 Try.prog 0) x7 (argsA 0 args) [] (.fin [.tmp 0] fun v1 s1 => deref s1 6 v1 = v)) (hl : args.length ≤ Try.f7.ntmps := by rw [Try.ntmps7]; simp) : CallOK Try.prog 7 args [] v [] :=
  callX (m := 0) (cx7 Try.prog 0) x7 rfl rfl (by kernel_rfl) Try.func7 rfl rfl hl mixed (chk7 _ rfl) (by rw [Try.results7]; exact h)

theorem algebraBegun_law : CallOK Try.prog 7 [] [] (.bool true) [] := by
  have h1 := Lattice_algebra ⟨2, []⟩
  have h2 := Downs_algebra ⟨2, []⟩
  have e1 : latR ⟨2, []⟩ = .tuple [.list [], .list [], .agg [.int .i64 6, .int .i64 0]] := by
    unfold latR
    rw [ofault_two, if_pos rfl, leB_nil, if_neg (by decide)]
    rfl
  have e2 : downR ⟨2, []⟩ = .tuple [.list (([[], [0], [1], [0, 1]] : List (List Nat)).map numsRow), .agg [.int .i64 0, .int .i64 0]] := by
    unfold downR
    rw [ofault_two, if_pos rfl, leB_nil, if_neg (by decide), if_neg (by decide)]
    rfl
  rw [e1] at h1
  rw [e2] at h2
  simp only [ord, List.map_nil] at h1 h2
  have g1 := CallOK.soft h1 (args' := [.agg [.int .i64 2, .nilsl]]) (.cons (.agg (.cons .refl (.cons .nil .nil))) .nil)
  have g2 := CallOK.soft h2 (args' := [.agg [.int .i64 2, .nilsl]]) (.cons (.agg (.cons .refl (.cons .nil .nil))) .nil)
  refine op7 ?_
  (((try simp (implicitDefEqProofs := false)); (try simp (implicitDefEqProofs := false) (disch := first | assumption | (try simp only [lens]); omega -splitDisjunctions))); all_goals try (repeat' ((first | ((with_reducible first | refine And.intro ?_ ?_ | refine Exists.intro ?_ ?_); first | omega | (simp <;> omega)) | (with_reducible refine spl (And.intro ?_ ?_) <;> intro _) | (refine CL.clo (g1) ?_) | (refine CM.clo (g1) ?_) | (refine CD.clo (g1) ?_) | (refine CL.clo (g2) ?_) | (refine CM.clo (g2) ?_) | (refine CD.clo (g2) ?_) | (refine CL.clo (F_ref 6 0) ?_) | (refine CM.clo (F_ref 6 0) ?_) | (refine CD.clo (F_ref 6 0) ?_)) <;> ((try simp (implicitDefEqProofs := false)); (try simp (implicitDefEqProofs := false) (disch := first | assumption | (try simp only [lens]); omega -splitDisjunctions))))))
end Go.Proofs.Ythnobaacfjihcaa
