/-
  formula: Same; sequentref: Same, Has; law01: own.
-/
import Derived.Test.YtnoklmapofogeaaXPvQg
import Derived.Test.YtnoklmapofogeaaXTPa
namespace Go.Proofs.Ytnoklmapofogeaa
open Go Go.Pv
set_option linter.unusedVariables false
set_option linter.unusedSimpArgs false
set_option maxRecDepth 100000
set_option maxHeartbeats 4000000

def x139_L0 : XC := .seq (.reg [⟨some 18,.binOp .lss 3 (.tmp 17) (.tmp 16) 3,none⟩]) (.seq (.cond (.tmp 18) (.skip) (.exit 0)) (.seq (.block 1 (.seq (.reg [⟨some 19,.move (.tmp 17),none⟩,⟨some 20,.indexAddr 22 (.tmp 15) (.tmp 17),none⟩,⟨some 21,.load 24 (.tmp 20),none⟩,⟨some 8,.alloc 24,none⟩,⟨some 7,.assign (.tmp 19),none⟩,⟨none,.store 24 (.tmp 8) (.tmp 21),none⟩]) (.seq (.reg [⟨some 22,.move (.tmp 1),none⟩,⟨some 23,.move (.tmp 7),none⟩,⟨some 24,.indexAddr 22 (.tmp 22) (.tmp 23),none⟩,⟨some 25,.load 24 (.tmp 24),none⟩,⟨some 9,.alloc 24,none⟩,⟨none,.store 24 (.tmp 9) (.tmp 25),none⟩]) (.seq (.reg [⟨some 26,.move (.tmp 2),none⟩,⟨some 27,.load 24 (.tmp 8),none⟩,⟨some 28,.load 24 (.tmp 9),none⟩,⟨some 29,.call ⟨.value (.tmp 26),#[.tmp 27,.tmp 28],#[24,24]⟩,none⟩,⟨some 30,.unOp .not 4 (.tmp 29),none⟩]) (.cond (.tmp 30) (.seq (.reg [⟨some 6,.assign (.const (.bool false)),none⟩]) (.ret)) (.skip)))))) (.reg [⟨some 31,.binOp .add 3 (.tmp 17) (.const (.int .i64 1)) 3,none⟩,⟨some 17,.move (.tmp 31),none⟩])))
def x139 : XC := .seq (.reg [⟨some 6,.assign (.const (.bool false)),none⟩]) (.seq (.seq (.reg [⟨some 10,.move (.tmp 0),none⟩,⟨some 11,.call ⟨.builtin .len,#[.tmp 10],#[22]⟩,none⟩,⟨some 12,.move (.tmp 1),none⟩,⟨some 13,.call ⟨.builtin .len,#[.tmp 12],#[22]⟩,none⟩,⟨some 14,.binOp .neq 3 (.tmp 11) (.tmp 13) 3,none⟩]) (.cond (.tmp 14) (.seq (.reg [⟨some 6,.assign (.const (.bool false)),none⟩]) (.ret)) (.skip))) (.seq (.seq (.reg [⟨some 15,.move (.tmp 0),none⟩,⟨some 16,.call ⟨.builtin .len,#[.tmp 15],#[22]⟩,none⟩,⟨some 17,.move (.const (.int .i64 0)),none⟩]) (.bloop 0 x139_L0)) (.seq (.reg [⟨some 6,.assign (.const (.bool true)),none⟩]) (.ret))))
@[simp] theorem x139_s {C : WC} {e : AE} {s : Store} {K : KS} : type_of% (@X_at C e s K _ _ x139_L0.eq_1) ∧ type_of% (@X_at C e s K _ _ x139.eq_1) := ⟨X_at x139_L0.eq_1, X_at x139.eq_1⟩
def an139 : Ann := ⟨[], [(0, [], [1, 2, 15, 16, 17], [6])], []⟩
def cx139 (P : Program) (m : Nat) : WC := ⟨P, m, an139⟩
@[simp] theorem cx139_a {P : Program} {m : Nat} : (cx139 P m).P = P ∧ (cx139 P m).m = m ∧ (cx139 P m).A.loopOf 0 = ([], [1, 2, 15, 16, 17], [6]) := ⟨rfl, rfl, rfl⟩
instance {P : Program} {m f : Nat} [h : EnT P f] : EnT (cx139 P m).P f := h
theorem chk139 : ∀ c, Try.f139.body = some c → chkC Try.f139.ntmps an139 c = true := by intro c h; obtain rfl := Option.some.inj h; decide +kernel
theorem op139 {args : List PV} {v : PV} (h : X (cx139 Try.prog 0) x139 (argsA 0 args) [] (.fin [.tmp 6] fun v1 s1 => deref s1 6 v1 = v)) (hl : args.length ≤ Try.f139.ntmps := by rw [Try.ntmps139]; simp) : CallOK Try.prog 139 args [] v [] :=
  callX (m := 0) (cx139 Try.prog 0) x139 rfl rfl (by kernel_rfl) Try.func139 rfl rfl hl mixed (chk139 _ rfl) (by rw [Try.results139]; exact h)

theorem EqualFunc_formula (xs bs : List Fm) (fid : Nat) [EnT Try.prog fid] (r : Fm → Fm → Bool) (h : ∀ a ∈ xs, ∀ b ∈ bs, CallOK Try.prog fid [.agg (frm a), .agg (frm b)] [] (.bool (r a b)) []) :
    CallOK Try.prog 139 [.list (xs.map frm), .list (bs.map frm), .fn (.func fid) [] []] [] (.bool (eqL r xs bs)) [] := by
  refine op139 ?_
  ((try simp (implicitDefEqProofs := false) (disch := first | assumption | (try simp only [lens]); omega -splitDisjunctions)); all_goals try (repeat' ((first | ((with_reducible first | refine And.intro ?_ ?_ | refine Exists.intro ?_ ?_); first | omega | (simp <;> omega)) | (with_reducible refine spl (And.intro ?_ ?_) <;> intro _)) <;> (try simp (implicitDefEqProofs := false) (disch := first | assumption | (try simp only [lens]); omega -splitDisjunctions)))))
  · rw [eqL_len (by omega)]
  · refine W_of fun Q hQ => ?_
    have main : ∀ n i, i + n = xs.length → eqL r xs bs = eqL r (xs.drop i) (bs.drop i) → Q [(1, .list (bs.map frm)), (2, .fn (.func fid) [] []), (15, .list (xs.map frm)), (16, .int .i64 (xs.length : Int)), (17, .int .i64 (i : Int))] [] := by
      intro n
      induction n with
      | zero =>
        intro i hi he
        apply hQ
        ((try simp (implicitDefEqProofs := false) (disch := first | assumption | (try simp only [lens]); omega -splitDisjunctions)); all_goals try (repeat' ((first | ((with_reducible first | refine And.intro ?_ ?_ | refine Exists.intro ?_ ?_); first | omega | (simp <;> omega)) | (with_reducible refine spl (And.intro ?_ ?_) <;> intro _)) <;> (try simp (implicitDefEqProofs := false) (disch := first | assumption | (try simp only [lens]); omega -splitDisjunctions)))))
        rw [he, List.drop_of_length_le (by omega), List.drop_of_length_le (by omega)]; rfl
      | succ n ih =>
        intro i hi he
        apply hQ
        rw [eqL_drop (by omega) (by omega)] at he
        ((try simp (implicitDefEqProofs := false) (disch := first | assumption | (try simp only [lens]); omega -splitDisjunctions)); all_goals try (repeat' ((first | ((with_reducible first | refine And.intro ?_ ?_ | refine Exists.intro ?_ ?_); first | omega | (simp <;> omega)) | (with_reducible refine spl (And.intro ?_ ?_) <;> intro _) | (refine CL.clo (h _ (List.getElem_mem _) _ (List.getElem_mem _)) ?_) | (refine CM.clo (h _ (List.getElem_mem _) _ (List.getElem_mem _)) ?_) | (refine CD.clo (h _ (List.getElem_mem _) _ (List.getElem_mem _)) ?_)) <;> (try simp (implicitDefEqProofs := false) (disch := first | assumption | (try simp only [lens]); omega -splitDisjunctions)))))
        · rw [he]; simp_all
        · refine at2 (ih (i + 1) (by omega) ?_) ?_ ?_
          · rw [he]; simp_all
          · simp
          · rfl
    refine at2 (main _ 0 (Nat.zero_add _) rfl) ?_ ?_ <;> simp
def x106 : XC := .seq (.reg [⟨some 2,.box 24 (.tmp 0),none⟩,⟨some 3,.box 24 (.tmp 1),none⟩,⟨some 4,.assign (.const (.bool false)),none⟩]) (.seq (.reg [⟨some 5,.fieldAddr 24 (.tmp 2) 0,none⟩,⟨some 6,.load 3 (.tmp 5),none⟩,⟨some 7,.fieldAddr 24 (.tmp 3) 0,none⟩,⟨some 8,.load 3 (.tmp 7),none⟩,⟨some 9,.binOp .eql 3 (.tmp 6) (.tmp 8) 3,none⟩,⟨some 10,.move (.tmp 9),none⟩,⟨some 11,.fieldAddr 24 (.tmp 2) 1,some (some 10,true)⟩,⟨some 12,.load 9 (.tmp 11),some (some 10,true)⟩,⟨some 13,.fieldAddr 24 (.tmp 3) 1,some (some 10,true)⟩,⟨some 14,.load 9 (.tmp 13),some (some 10,true)⟩,⟨some 15,.binOp .eql 9 (.tmp 12) (.tmp 14) 9,some (some 10,true)⟩,⟨some 16,.pick (.tmp 10) (.tmp 15) (.const (.bool false)),none⟩,⟨some 17,.move (.tmp 16),none⟩,⟨some 18,.fieldAddr 24 (.tmp 2) 2,some (some 17,true)⟩,⟨some 19,.load 22 (.tmp 18),some (some 17,true)⟩,⟨some 20,.fieldAddr 24 (.tmp 3) 2,some (some 17,true)⟩,⟨some 21,.load 22 (.tmp 20),some (some 17,true)⟩,⟨some 22,.call ⟨.value (.func 139),#[.tmp 19,.tmp 21,.func 106],#[22,22,64]⟩,some (some 17,true)⟩,⟨some 23,.pick (.tmp 17) (.tmp 22) (.const (.bool false)),none⟩,⟨some 4,.assign (.tmp 23),none⟩]) (.ret))
@[simp] theorem x106_s {C : WC} {e : AE} {s : Store} {K : KS} : type_of% (@X_at C e s K _ _ x106.eq_1) := X_at x106.eq_1
def an106 : Ann := ⟨[], [], []⟩
def cx106 (P : Program) (m : Nat) : WC := ⟨P, m, an106⟩
@[simp] theorem cx106_a {P : Program} {m : Nat} : (cx106 P m).P = P ∧ (cx106 P m).m = m := ⟨rfl, rfl⟩
instance {P : Program} {m f : Nat} [h : EnT P f] : EnT (cx106 P m).P f := h
theorem chk106 : ∀ c, Try.f106.body = some c → chkC Try.f106.ntmps an106 c = true := by intro c h; obtain rfl := Option.some.inj h; decide +kernel
theorem op106 {args : List PV} {v : PV} (h : X (cx106 Try.prog 0) x106 (argsA 0 args) [] (.fin [.tmp 4] fun v1 s1 => deref s1 6 v1 = v)) (hl : args.length ≤ Try.f106.ntmps := by rw [Try.ntmps106]; simp) : CallOK Try.prog 106 args [] v [] :=
  callX (m := 0) (cx106 Try.prog 0) x106 rfl rfl (by kernel_rfl) Try.func106 rfl rfl hl mixed (chk106 _ rfl) (by rw [Try.results106]; exact h)

theorem Same_formula (f : Fm) : ∀ g : Fm, CallOK Try.prog 106 [.agg (frm f), .agg (frm g)] [] (.bool (sameB f g)) [] := by
  induction f using Fm.ind with
  | h f ih =>
    intro g
    refine op106 ?_
    ((try simp (implicitDefEqProofs := false) (disch := first | assumption | (try simp only [lens]); omega -splitDisjunctions)); all_goals try (repeat' ((first | ((with_reducible first | refine And.intro ?_ ?_ | refine Exists.intro ?_ ?_); first | omega | (simp <;> omega)) | (with_reducible refine spl (And.intro ?_ ?_) <;> intro _) | (refine CL.clo (EqualFunc_formula f.kids g.kids 106 sameB (fun a ha b _ => ih a ha b)) ?_) | (refine CM.clo (EqualFunc_formula f.kids g.kids 106 sameB (fun a ha b _ => ih a ha b)) ?_) | (refine CD.clo (EqualFunc_formula f.kids g.kids 106 sameB (fun a ha b _ => ih a ha b)) ?_)) <;> (try simp (implicitDefEqProofs := false) (disch := first | assumption | (try simp only [lens]); omega -splitDisjunctions)))))
    all_goals (rw [sameB_eq]; simp_all)
theorem vast_kids {f : Fm} {d : Int} (h : vastB f d = false) : f.kids.length ≤ 25000 ∧ ∀ g ∈ f.kids, vastB g (d + 1) = false := by
  rw [vastB_eq] at h
  simp only [Bool.or_eq_false_iff, decide_eq_false_iff_not] at h
  refine ⟨by omega, ?_⟩
  have h2 := h.2.2
  generalize f.kids = l at h2
  induction l with
  | nil => intro g hg; cases hg
  | cons a r ih =>
    intro g hg
    rw [vastsB, Bool.or_eq_false_iff] at h2
    cases hg with
    | head => exact h2.1
    | tail _ hg => exact ih h2.2 g hg
end Go.Proofs.Ytnoklmapofogeaa
