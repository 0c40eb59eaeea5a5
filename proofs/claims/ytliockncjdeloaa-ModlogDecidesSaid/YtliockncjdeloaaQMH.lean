/-
  modlog: the closures of newScene, IndexFunc on formulas.
-/
import Derived.Test.YtliockncjdeloaaQMG
namespace Go.Proofs.Ytliockncjdeloaa
open Go Go.Pv
set_option linter.unusedVariables false
set_option linter.unusedSimpArgs false
set_option maxRecDepth 100000
set_option maxHeartbeats 4000000

def indexF (p : Fm → Bool) (l : List Fm) : Int := match l.findIdx? p with | some i => i | none => -1
theorem indexF_at {p : Fm → Bool} {l : List Fm} {i : Nat} (h : i < l.length) (hp : p l[i] = true) (hb : ∀ j (hj : j < i), p (l[j]'(by omega)) = false) : indexF p l = i := by
  unfold indexF
  have : l.findIdx? p = some i := by
    rw [List.findIdx?_eq_some_iff_getElem]
    exact ⟨h, hp, fun j hj => by simp [hb j hj]⟩
  rw [this]
theorem indexF_none {p : Fm → Bool} {l : List Fm} (hb : ∀ j (hj : j < l.length), p l[j] = false) : indexF p l = -1 := by
  unfold indexF
  have : l.findIdx? p = none := by
    rw [List.findIdx?_eq_none_iff]
    intro x hx
    obtain ⟨j, hj, rfl⟩ := List.mem_iff_getElem.1 hx
    exact hb j hj
  rw [this]
def x49_L0 : XC := .seq (.reg [⟨some 9,.binOp .lss 3 (.tmp 8) (.tmp 7) 3,none⟩]) (.seq (.cond (.tmp 9) (.skip) (.exit 0)) (.seq (.block 1 (.seq (.reg [⟨some 10,.move (.tmp 8),none⟩,⟨some 5,.assign (.tmp 10),none⟩]) (.seq (.reg [⟨some 11,.move (.tmp 1),none⟩,⟨some 12,.move (.tmp 0),none⟩,⟨some 13,.move (.tmp 5),none⟩,⟨some 14,.indexAddr 22 (.tmp 12) (.tmp 13),none⟩,⟨some 15,.load 24 (.tmp 14),none⟩,⟨some 16,.call ⟨.value (.tmp 11),#[.tmp 15],#[24]⟩,none⟩]) (.cond (.tmp 16) (.seq (.reg [⟨some 17,.move (.tmp 5),none⟩,⟨some 4,.assign (.tmp 17),none⟩]) (.ret)) (.skip))))) (.reg [⟨some 18,.binOp .add 3 (.tmp 8) (.const (.int .i64 1)) 3,none⟩,⟨some 8,.move (.tmp 18),none⟩])))
def x49 : XC := .seq (.reg [⟨some 4,.assign (.const (.int .i64 0)),none⟩]) (.seq (.seq (.reg [⟨some 6,.move (.tmp 0),none⟩,⟨some 7,.call ⟨.builtin .len,#[.tmp 6],#[22]⟩,none⟩,⟨some 8,.move (.const (.int .i64 0)),none⟩]) (.bloop 0 x49_L0)) (.seq (.reg [⟨some 4,.assign (.const (.int .i64 (-1))),none⟩]) (.ret)))
@[simp] theorem x49_s {C : WC} {e : AE} {s : Store} {K : KS} : type_of% (@X_at C e s K _ _ x49_L0.eq_1) ∧ type_of% (@X_at C e s K _ _ x49.eq_1) := ⟨X_at x49_L0.eq_1, X_at x49.eq_1⟩
def an49 : Ann := ⟨[], [(0, [], [0, 1, 7, 8], [4])], []⟩
def cx49 (P : Program) (m : Nat) : WC := ⟨P, m, an49⟩
@[simp] theorem cx49_a {P : Program} {m : Nat} : (cx49 P m).P = P ∧ (cx49 P m).m = m ∧ (cx49 P m).A.loopOf 0 = ([], [0, 1, 7, 8], [4]) := ⟨rfl, rfl, rfl⟩
instance {P : Program} {m f : Nat} [h : EnT P f] : EnT (cx49 P m).P f := h
theorem chk49 : ∀ c, Try.f49.body = some c → chkC Try.f49.ntmps an49 c = true := by intro c h; obtain rfl := Option.some.inj h; decide +kernel
theorem op49 {args : List PV} {v : PV} (h : X (cx49 Try.prog 0) x49 (argsA 0 args) [] (.fin [.tmp 4] fun v1 s1 => deref s1 6 v1 = v)) (hl : args.length ≤ Try.f49.ntmps := by rw [Try.ntmps49]; simp) : CallOK Try.prog 49 args [] v [] :=
  callX (m := 0) (cx49 Try.prog 0) x49 rfl rfl (by kernel_rfl) Try.func49 rfl rfl hl mixed (chk49 _ rfl) (by rw [Try.results49]; exact h)

theorem IndexFunc_fm (l : List Fm) (fid : Nat) [EnT Try.prog fid] (xs ys : List PV) [hx : FlatL xs] [hy : FlatL ys] (p : Fm → Bool) (h : ∀ a ∈ l, CallOK Try.prog fid (xs ++ .agg (frm a) :: ys) [] (.bool (p a)) []) :
    CallOK Try.prog 49 [.list (l.map frm), .fn (.func fid) xs ys] [] (.int .i64 (indexF p l)) [] := by
  have hcl : ∀ a : Fm, ∀ v ∈ xs ++ .agg (frm a) :: ys, Closed v := by
    intro a v hv
    simp only [List.mem_append, List.mem_cons] at hv
    rcases hv with hv | rfl | hv
    · exact hx.closed v hv
    · exact cl_frm a
    · exact hy.closed v hv
  refine op49 ?_
  ((try simp (implicitDefEqProofs := false) (disch := first | assumption | (try simp only [lens]); omega -splitDisjunctions)); all_goals try (repeat' ((first | ((with_reducible first | refine And.intro ?_ ?_ | refine Exists.intro ?_ ?_); first | omega | (simp <;> omega)) | (with_reducible refine spl (And.intro ?_ ?_) <;> intro _)) <;> (try simp (implicitDefEqProofs := false) (disch := first | assumption | (try simp only [lens]); omega -splitDisjunctions)))))
  refine W_of fun Q hQ => ?_
  have main : ∀ n i, i + n = l.length → (∀ j (hj : j < i) (hl : j < l.length), p l[j] = false) → Q [(0, .list (l.map frm)), (1, .fn (.func fid) xs ys), (7, .int .i64 (l.length : Int)), (8, .int .i64 (i : Int))] [] := by
    intro n
    induction n with
    | zero =>
      intro i hi hb
      apply hQ
      ((try simp (implicitDefEqProofs := false) (disch := first | assumption | (try simp only [lens]); omega -splitDisjunctions)); all_goals try (repeat' ((first | ((with_reducible first | refine And.intro ?_ ?_ | refine Exists.intro ?_ ?_); first | omega | (simp <;> omega)) | (with_reducible refine spl (And.intro ?_ ?_) <;> intro _)) <;> (try simp (implicitDefEqProofs := false) (disch := first | assumption | (try simp only [lens]); omega -splitDisjunctions)))))
      rw [indexF_none fun j hj => hb j (by omega) hj]
    | succ n ih =>
      intro i hi hb
      apply hQ
      have hc := h _ (List.getElem_mem (show i < l.length by omega))
      ((try simp (implicitDefEqProofs := false) (disch := first | assumption | (try simp only [lens]); omega -splitDisjunctions)); all_goals try (repeat' ((first | ((with_reducible first | refine And.intro ?_ ?_ | refine Exists.intro ?_ ?_); first | omega | (simp <;> omega)) | (with_reducible refine spl (And.intro ?_ ?_) <;> intro _)) <;> (try simp (implicitDefEqProofs := false) (disch := first | assumption | (try simp only [lens]); omega -splitDisjunctions)))))
      refine CL.clo hc ?_ (hcl _)
      ((try simp (implicitDefEqProofs := false) (disch := first | assumption | (try simp only [lens]); omega -splitDisjunctions)); all_goals try (repeat' ((first | ((with_reducible first | refine And.intro ?_ ?_ | refine Exists.intro ?_ ?_); first | omega | (simp <;> omega)) | (with_reducible refine spl (And.intro ?_ ?_) <;> intro _)) <;> (try simp (implicitDefEqProofs := false) (disch := first | assumption | (try simp only [lens]); omega -splitDisjunctions)))))
      · rename_i hp
        rw [indexF_at (by omega) hp fun j hj => hb j hj (by omega)]
      · rename_i hp
        refine at2 (ih (i + 1) (by omega) fun j hj hl => ?_) ?_ ?_
        · rcases Nat.lt_or_ge j i with hji | hji
          · exact hb j hji hl
          · have : j = i := by omega
            subst this; exact hp
        · simp
        · rfl
  refine at2 (main _ 0 (Nat.zero_add _) (fun j hj => by omega)) ?_ ?_ <;> simp
def x50 : XC := .seq (.reg [⟨some 2,.box 24 (.tmp 0),none⟩,⟨some 3,.assign (.const (.bool false)),none⟩]) (.seq (.reg [⟨some 4,.load 24 (.tmp 1),none⟩,⟨some 5,.load 24 (.tmp 2),none⟩,⟨some 6,.call ⟨.value (.func 51),#[.tmp 4,.tmp 5],#[24,24]⟩,none⟩,⟨some 3,.assign (.tmp 6),none⟩]) (.ret))
@[simp] theorem x50_s {C : WC} {e : AE} {s : Store} {K : KS} : type_of% (@X_at C e s K _ _ x50.eq_1) := X_at x50.eq_1
def an50 : Ann := ⟨[], [], []⟩
def cx50 (P : Program) (m : Nat) : WC := ⟨P, m, an50⟩
@[simp] theorem cx50_a {P : Program} {m : Nat} : (cx50 P m).P = P ∧ (cx50 P m).m = m := ⟨rfl, rfl⟩
instance {P : Program} {m f : Nat} [h : EnT P f] : EnT (cx50 P m).P f := h
theorem chk50 : ∀ c, Try.f50.body = some c → chkC Try.f50.ntmps an50 c = true := by intro c h; obtain rfl := Option.some.inj h; decide +kernel
theorem op50 {args : List PV} {v : PV} (h : X (cx50 Try.prog 0) x50 (argsA 0 args) [] (.fin [.tmp 3] fun v1 s1 => deref s1 6 v1 = v)) (hl : args.length ≤ Try.f50.ntmps := by rw [Try.ntmps50]; simp) : CallOK Try.prog 50 args [] v [] :=
  callX (m := 0) (cx50 Try.prog 0) x50 rfl rfl (by kernel_rfl) Try.func50 rfl rfl hl mixed (chk50 _ rfl) (by rw [Try.results50]; exact h)

theorem newScene1_modlog (g h : Fm) : CallOK Try.prog 50 [.agg (frm h), .iptr (frm g)] [] (.bool (sameB g h)) [] := by
  refine op50 ?_
  ((try simp (implicitDefEqProofs := false) (disch := first | assumption | (try simp only [lens]); omega -splitDisjunctions)); all_goals try (repeat' ((first | ((with_reducible first | refine And.intro ?_ ?_ | refine Exists.intro ?_ ?_); first | omega | (simp <;> omega)) | (with_reducible refine spl (And.intro ?_ ?_) <;> intro _) | (refine CL.clo (Same_formula g h) ?_) | (refine CM.clo (Same_formula g h) ?_) | (refine CD.clo (Same_formula g h) ?_)) <;> (try simp (implicitDefEqProofs := false) (disch := first | assumption | (try simp only [lens]); omega -splitDisjunctions)))))
def x55 : XC := .seq (.reg [⟨some 3,.assign (.const (.bool false)),none⟩]) (.seq (.reg [⟨some 4,.load 56 (.tmp 1),none⟩,⟨some 5,.move (.tmp 0),none⟩,⟨some 6,.call ⟨.value (.func 56),#[.tmp 4,.tmp 5],#[56,3]⟩,none⟩,⟨some 7,.unOp .not 4 (.tmp 6),none⟩,⟨some 3,.assign (.tmp 7),none⟩]) (.ret))
@[simp] theorem x55_s {C : WC} {e : AE} {s : Store} {K : KS} : type_of% (@X_at C e s K _ _ x55.eq_1) := X_at x55.eq_1
def an55 : Ann := ⟨[], [], []⟩
def cx55 (P : Program) (m : Nat) : WC := ⟨P, m, an55⟩
@[simp] theorem cx55_a {P : Program} {m : Nat} : (cx55 P m).P = P ∧ (cx55 P m).m = m := ⟨rfl, rfl⟩
instance {P : Program} {m f : Nat} [h : EnT P f] : EnT (cx55 P m).P f := h
theorem chk55 : ∀ c, Try.f55.body = some c → chkC Try.f55.ntmps an55 c = true := by intro c h; obtain rfl := Option.some.inj h; decide +kernel
theorem op55 {args : List PV} {v : PV} (h : X (cx55 Try.prog 0) x55 (argsA 0 args) [] (.fin [.tmp 3] fun v1 s1 => deref s1 6 v1 = v)) (hl : args.length ≤ Try.f55.ntmps := by rw [Try.ntmps55]; simp) : CallOK Try.prog 55 args [] v [] :=
  callX (m := 0) (cx55 Try.prog 0) x55 rfl rfl (by kernel_rfl) Try.func55 rfl rfl hl mixed (chk55 _ rfl) (by rw [Try.results55]; exact h)

theorem newScene2_modlog (c : Sc) (hc : c.OK) (x : Nat) (hx : x < 1048576) : CallOK Try.prog 55 [.int .i64 (x : Int), .iptr [.iptr (scn c)]] [] (.bool (!c.whole x)) [] := by
  have hw := whole_modlog c hc x hx
  refine op55 ?_
  unfold scn at hw ⊢
  ((try simp (implicitDefEqProofs := false) (disch := first | assumption | (try simp only [lens]); omega -splitDisjunctions)); all_goals try (repeat' ((first | ((with_reducible first | refine And.intro ?_ ?_ | refine Exists.intro ?_ ?_); first | omega | (simp <;> omega)) | (with_reducible refine spl (And.intro ?_ ?_) <;> intro _) | (refine CL.clo (hw) ?_) | (refine CM.clo (hw) ?_) | (refine CD.clo (hw) ?_)) <;> (try simp (implicitDefEqProofs := false) (disch := first | assumption | (try simp only [lens]); omega -splitDisjunctions)))))
end Go.Proofs.Ytliockncjdeloaa
