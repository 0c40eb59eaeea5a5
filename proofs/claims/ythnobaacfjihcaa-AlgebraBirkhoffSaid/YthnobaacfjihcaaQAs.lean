/-
  sequentref: memberOf, Sub, OfSets.
-/
import Derived.Test.YthnobaacfjihcaaQAg
import Derived.Test.YthnobaacfjihcaaAlgB
namespace Go.Proofs.Ythnobaacfjihcaa
open Go Go.Pv
set_option linter.unusedVariables false
set_option linter.unusedSimpArgs false
set_option maxRecDepth 100000
set_option maxHeartbeats 4000000

def x36_L0 : XC := .seq (.seq (.reg [⟨some 6,.move (.tmp 5),none⟩,⟨some 7,.move (.tmp 0),none⟩,⟨some 8,.call ⟨.builtin .len,#[.tmp 7],#[37]⟩,none⟩,⟨some 9,.binOp .lss 3 (.tmp 6) (.tmp 8) 3,none⟩]) (.cond (.tmp 9) (.skip) (.exit 0))) (.seq (.block 1 (.seq (.reg [⟨some 12,.move (.tmp 0),none⟩,⟨some 13,.move (.tmp 5),none⟩,⟨some 14,.indexAddr 37 (.tmp 12) (.tmp 13),none⟩,⟨some 15,.load 3 (.tmp 14),none⟩,⟨some 16,.move (.tmp 1),none⟩,⟨some 17,.binOp .eql 3 (.tmp 15) (.tmp 16) 3,none⟩]) (.cond (.tmp 17) (.seq (.reg [⟨some 4,.assign (.const (.bool true)),none⟩]) (.ret)) (.skip)))) (.reg [⟨some 10,.move (.tmp 5),none⟩,⟨some 11,.binOp .add 3 (.tmp 10) (.const (.int .i64 1)) 3,none⟩,⟨some 5,.assign (.tmp 11),none⟩]))
def x36 : XC := .seq (.reg [⟨some 4,.assign (.const (.bool false)),none⟩]) (.seq (.seq (.reg [⟨some 5,.assign (.const (.int .i64 0)),none⟩]) (.bloop 0 x36_L0)) (.seq (.reg [⟨some 4,.assign (.const (.bool false)),none⟩]) (.ret)))
@[simp] theorem x36_s {C : WC} {e : AE} {s : Store} {K : KS} : type_of% (@X_at C e s K _ _ x36_L0.eq_1) ∧ type_of% (@X_at C e s K _ _ x36.eq_1) := ⟨X_at x36_L0.eq_1, X_at x36.eq_1⟩
def an36 : Ann := ⟨[], [(0, [], [0, 1, 5], [4])], []⟩
def cx36 (P : Program) (m : Nat) : WC := ⟨P, m, an36⟩
@[simp] theorem cx36_a {P : Program} {m : Nat} : (cx36 P m).P = P ∧ (cx36 P m).m = m ∧ (cx36 P m).A.loopOf 0 = ([], [0, 1, 5], [4]) := ⟨rfl, rfl, rfl⟩
instance {P : Program} {m f : Nat} [h : EnT P f] : EnT (cx36 P m).P f := h
theorem chk36 : ∀ c, Try.f36.body = some c → chkC Try.f36.ntmps an36 c = true := by intro c h; obtain rfl := Option.some.inj h; decide +kernel
theorem op36 {args : List PV} {v : PV} (h : X (cx36 Try.prog 0) x36 (argsA 0 args) [] (.fin [.tmp 4] fun v1 s1 => deref s1 6 v1 = v)) (hl : args.length ≤ Try.f36.ntmps := by rw [Try.ntmps36]; simp) : CallOK Try.prog 36 args [] v [] :=
  callX (m := 0) (cx36 Try.prog 0) x36 rfl rfl (by kernel_rfl) Try.func36 rfl rfl hl mixed (chk36 _ rfl) (by rw [Try.results36]; exact h)

theorem memberOf_ref (l : List Nat) (u : Nat) : CallOK Try.prog 36 [.list (l.map numRow), .int .i64 (u : Int)] [] (.bool (decide (u ∈ l))) [] := by
  refine op36 ?_
  (((try simp (implicitDefEqProofs := false)); (try simp (implicitDefEqProofs := false) (disch := first | assumption | (try simp only [lens]); omega -splitDisjunctions))); all_goals try (repeat' ((first | ((with_reducible first | refine And.intro ?_ ?_ | refine Exists.intro ?_ ?_); first | omega | (simp <;> omega)) | (with_reducible refine spl (And.intro ?_ ?_) <;> intro _)) <;> ((try simp (implicitDefEqProofs := false)); (try simp (implicitDefEqProofs := false) (disch := first | assumption | (try simp only [lens]); omega -splitDisjunctions))))))
  refine W_of fun Q hQ => ?_
  have main : ∀ n i, i + n = l.length → (∀ j (h : j < l.length), j < i → l[j] ≠ u) → Q [(0, .list (l.map numRow)), (1, .int .i64 (u : Int)), (5, .int .i64 (i : Int))] [] := by
    intro n
    induction n with
    | zero =>
      intro i hi hl
      have hno : ¬ u ∈ l := by
        intro h
        obtain ⟨j, hj, e⟩ := List.mem_iff_getElem.1 h
        exact hl j hj (by omega) e
      apply hQ
      (((try simp (implicitDefEqProofs := false)); (try simp (implicitDefEqProofs := false) (disch := first | assumption | (try simp only [lens]); omega -splitDisjunctions))); all_goals try (repeat' ((first | ((with_reducible first | refine And.intro ?_ ?_ | refine Exists.intro ?_ ?_); first | omega | (simp <;> omega)) | (with_reducible refine spl (And.intro ?_ ?_) <;> intro _)) <;> ((try simp (implicitDefEqProofs := false)); (try simp (implicitDefEqProofs := false) (disch := first | assumption | (try simp only [lens]); omega -splitDisjunctions))))))
      all_goals simp [hno]
    | succ n ih =>
      intro i hi hl
      have hlt : i < l.length := by omega
      by_cases hb : l[i] = u
      · have hyes : u ∈ l := hb ▸ List.getElem_mem hlt
        apply hQ
        (((try simp (implicitDefEqProofs := false)); (try simp (implicitDefEqProofs := false) (disch := first | assumption | (try simp only [lens]); omega -splitDisjunctions))); all_goals try (repeat' ((first | ((with_reducible first | refine And.intro ?_ ?_ | refine Exists.intro ?_ ?_); first | omega | (simp <;> omega)) | (with_reducible refine spl (And.intro ?_ ?_) <;> intro _)) <;> ((try simp (implicitDefEqProofs := false)); (try simp (implicitDefEqProofs := false) (disch := first | assumption | (try simp only [lens]); omega -splitDisjunctions))))))
        all_goals first | (exfalso; omega) | simp_all
      · have ih := ih (i + 1) (by omega) (fun j hj hji => by
          by_cases e : j = i
          · subst e; exact hb
          · exact hl j hj (by omega))
        apply hQ
        (((try simp (implicitDefEqProofs := false)); (try simp (implicitDefEqProofs := false) (disch := first | assumption | (try simp only [lens]); omega -splitDisjunctions))); all_goals try (repeat' ((first | ((with_reducible first | refine And.intro ?_ ?_ | refine Exists.intro ?_ ?_); first | omega | (simp <;> omega)) | (with_reducible refine spl (And.intro ?_ ?_) <;> intro _)) <;> ((try simp (implicitDefEqProofs := false)); (try simp (implicitDefEqProofs := false) (disch := first | assumption | (try simp only [lens]); omega -splitDisjunctions))))))
        all_goals first | (exfalso; omega) | simpa using ih
  refine at2 (main _ 0 (Nat.zero_add _) (fun j h hj => by omega)) ?_ ?_ <;> simp
def subL (a b : List Nat) : Bool := a.all fun x => decide (x ∈ b)
theorem subL_drop {a b : List Nat} {i : Nat} (h : i < a.length) : subL (a.drop i) b = (decide (a[i] ∈ b) && subL (a.drop (i + 1)) b) := by
  unfold subL
  rw [List.drop_eq_getElem_cons h, List.all_cons]
def x25_L0 : XC := .seq (.seq (.reg [⟨some 6,.move (.tmp 5),none⟩,⟨some 7,.move (.tmp 0),none⟩,⟨some 8,.call ⟨.builtin .len,#[.tmp 7],#[37]⟩,none⟩,⟨some 9,.binOp .lss 3 (.tmp 6) (.tmp 8) 3,none⟩]) (.cond (.tmp 9) (.skip) (.exit 0))) (.seq (.block 1 (.seq (.reg [⟨some 12,.move (.tmp 1),none⟩,⟨some 13,.move (.tmp 0),none⟩,⟨some 14,.move (.tmp 5),none⟩,⟨some 15,.indexAddr 37 (.tmp 13) (.tmp 14),none⟩,⟨some 16,.load 3 (.tmp 15),none⟩,⟨some 17,.call ⟨.value (.func 36),#[.tmp 12,.tmp 16],#[37,3]⟩,none⟩,⟨some 18,.unOp .not 4 (.tmp 17),none⟩]) (.cond (.tmp 18) (.seq (.reg [⟨some 4,.assign (.const (.bool false)),none⟩]) (.ret)) (.skip)))) (.reg [⟨some 10,.move (.tmp 5),none⟩,⟨some 11,.binOp .add 3 (.tmp 10) (.const (.int .i64 1)) 3,none⟩,⟨some 5,.assign (.tmp 11),none⟩]))
def x25 : XC := .seq (.reg [⟨some 4,.assign (.const (.bool false)),none⟩]) (.seq (.seq (.reg [⟨some 5,.assign (.const (.int .i64 0)),none⟩]) (.bloop 0 x25_L0)) (.seq (.reg [⟨some 4,.assign (.const (.bool true)),none⟩]) (.ret)))
@[simp] theorem x25_s {C : WC} {e : AE} {s : Store} {K : KS} : type_of% (@X_at C e s K _ _ x25_L0.eq_1) ∧ type_of% (@X_at C e s K _ _ x25.eq_1) := ⟨X_at x25_L0.eq_1, X_at x25.eq_1⟩
def an25 : Ann := ⟨[], [(0, [], [0, 1, 5], [4])], []⟩
def cx25 (P : Program) (m : Nat) : WC := ⟨P, m, an25⟩
@[simp] theorem cx25_a {P : Program} {m : Nat} : (cx25 P m).P = P ∧ (cx25 P m).m = m ∧ (cx25 P m).A.loopOf 0 = ([], [0, 1, 5], [4]) := ⟨rfl, rfl, rfl⟩
instance {P : Program} {m f : Nat} [h : EnT P f] : EnT (cx25 P m).P f := h
theorem chk25 : ∀ c, Try.f25.body = some c → chkC Try.f25.ntmps an25 c = true := by intro c h; obtain rfl := Option.some.inj h; decide +kernel
theorem op25 {args : List PV} {v : PV} (h : X (cx25 Try.prog 0) x25 (argsA 0 args) [] (.fin [.tmp 4] fun v1 s1 => deref s1 6 v1 = v)) (hl : args.length ≤ Try.f25.ntmps := by rw [Try.ntmps25]; simp) : CallOK Try.prog 25 args [] v [] :=
  callX (m := 0) (cx25 Try.prog 0) x25 rfl rfl (by kernel_rfl) Try.func25 rfl rfl hl mixed (chk25 _ rfl) (by rw [Try.results25]; exact h)

theorem Sub_ref (a b : List Nat) (ha : a.length ≤ 5000) : CallOK Try.prog 25 [.list (a.map numRow), .list (b.map numRow)] [] (.bool (subL a b)) [] := by
  refine op25 ?_
  (((try simp (implicitDefEqProofs := false)); (try simp (implicitDefEqProofs := false) (disch := first | assumption | (try simp only [lens]); omega -splitDisjunctions))); all_goals try (repeat' ((first | ((with_reducible first | refine And.intro ?_ ?_ | refine Exists.intro ?_ ?_); first | omega | (simp <;> omega)) | (with_reducible refine spl (And.intro ?_ ?_) <;> intro _)) <;> ((try simp (implicitDefEqProofs := false)); (try simp (implicitDefEqProofs := false) (disch := first | assumption | (try simp only [lens]); omega -splitDisjunctions))))))
  refine W_of fun Q hQ => ?_
  have main : ∀ k i, i + k = a.length → subL a b = subL (a.drop i) b → Q [(0, .list (a.map numRow)), (1, .list (b.map numRow)), (5, .int .i64 (i : Int))] [] := by
    intro k
    induction k with
    | zero =>
      intro i hi hs
      obtain rfl : i = a.length := by omega
      rw [List.drop_length] at hs
      apply hQ
      clear hQ
      rw [hs]
      (((try simp (implicitDefEqProofs := false)); (try simp (implicitDefEqProofs := false) (disch := first | assumption | (try simp only [lens]); omega -splitDisjunctions))); all_goals try (repeat' ((first | ((with_reducible first | refine And.intro ?_ ?_ | refine Exists.intro ?_ ?_); first | omega | (simp <;> omega)) | (with_reducible refine spl (And.intro ?_ ?_) <;> intro _)) <;> ((try simp (implicitDefEqProofs := false)); (try simp (implicitDefEqProofs := false) (disch := first | assumption | (try simp only [lens]); omega -splitDisjunctions))))))
      all_goals rfl
    | succ k ih =>
      intro i hi hs
      have hia : i < a.length := by omega
      have ih := ih (i + 1) (by omega)
      rw [subL_drop hia] at hs
      have hm := memberOf_ref b a[i]
      apply hQ
      clear hQ
      generalize subL a b = r at *
      generalize hd : decide (a[i] ∈ b) = d at *
      cases d
      · subst hs
        (((try simp (implicitDefEqProofs := false)); (try simp (implicitDefEqProofs := false) (disch := first | assumption | (try simp only [lens]); omega -splitDisjunctions))); all_goals try (repeat' ((first | ((with_reducible first | refine And.intro ?_ ?_ | refine Exists.intro ?_ ?_); first | omega | (simp <;> omega)) | (with_reducible refine spl (And.intro ?_ ?_) <;> intro _) | (refine CL.clo (hm) ?_) | (refine CM.clo (hm) ?_) | (refine CD.clo (hm) ?_)) <;> ((try simp (implicitDefEqProofs := false)); (try simp (implicitDefEqProofs := false) (disch := first | assumption | (try simp only [lens]); omega -splitDisjunctions))))))
      · have ih := ih hs
        (((try simp (implicitDefEqProofs := false)); (try simp (implicitDefEqProofs := false) (disch := first | assumption | (try simp only [lens]); omega -splitDisjunctions))); all_goals try (repeat' ((first | ((with_reducible first | refine And.intro ?_ ?_ | refine Exists.intro ?_ ?_); first | omega | (simp <;> omega)) | (with_reducible refine spl (And.intro ?_ ?_) <;> intro _) | (refine CL.clo (hm) ?_) | (refine CM.clo (hm) ?_) | (refine CD.clo (hm) ?_)) <;> ((try simp (implicitDefEqProofs := false)); (try simp (implicitDefEqProofs := false) (disch := first | assumption | (try simp only [lens]); omega -splitDisjunctions))))))
        all_goals first | exact ih | (refine at2 ih ?_ ?_ <;> simp; done) | (exfalso; first | omega | (simp_all; done) | (simp_all; omega))
  refine at2 (main _ 0 (Nat.zero_add _) rfl) ?_ ?_ <;> simp
/-- sets, by what is a part of what -/
def osB (l : List (List Nat)) (a b : Nat) : List (Int × Int) := if a ≠ b ∧ subL (l.getD a []) (l.getD b []) = true then [((a : Int), (b : Int))] else []
def osA (l : List (List Nat)) (a : Nat) : List (Int × Int) := (List.range l.length).flatMap (osB l a)
def osP (l : List (List Nat)) : List (Int × Int) := (List.range l.length).flatMap (osA l)
theorem fm_succ' {α : Type} {f : Nat → List α} {k : Nat} : (List.range (k + 1)).flatMap f = (List.range k).flatMap f ++ f k := by
  rw [List.range_succ, List.flatMap_append, List.flatMap_cons, List.flatMap_nil, List.append_nil]
theorem fm_len' {α : Type} {f : Nat → List α} {z : Nat} (h : ∀ i, (f i).length ≤ z) : ∀ k, ((List.range k).flatMap f).length ≤ k * z
  | 0 => by simp
  | k + 1 => by
    rw [fm_succ', List.length_append, Nat.succ_mul]
    have := fm_len' h k
    have := h k
    omega
theorem osB_len {l : List (List Nat)} {a b : Nat} : (osB l a b).length ≤ 1 := by unfold osB; split <;> simp
theorem osA_len {l : List (List Nat)} {a : Nat} : (osA l a).length ≤ l.length := by have := fm_len' (f := osB l a) (fun i => osB_len) l.length; rwa [Nat.mul_one] at this
theorem osP_len {l : List (List Nat)} : (osP l).length ≤ l.length * l.length := fm_len' (fun i => osA_len) l.length
theorem osP_mem {l : List (List Nat)} {x y : Int} : (x, y) ∈ osP l ↔ ∃ a b, a < l.length ∧ b < l.length ∧ a ≠ b ∧ subL (l.getD a []) (l.getD b []) = true ∧ x = (a : Int) ∧ y = (b : Int) := by
  simp only [osP, osA, List.mem_flatMap, List.mem_range]
  constructor
  · rintro ⟨a, ha, b, hb, h⟩
    unfold osB at h
    split at h
    · rename_i g
      simp only [List.mem_singleton, Prod.mk.injEq] at h
      exact ⟨a, b, ha, hb, g.1, g.2, h.1, h.2⟩
    · cases h
  · rintro ⟨a, b, ha, hb, g1, g2, rfl, rfl⟩
    refine ⟨a, ha, b, hb, ?_⟩
    unfold osB
    rw [if_pos ⟨g1, g2⟩]
    exact List.mem_singleton_self _
def x24_T2 : XC := .seq (.reg [⟨some 43,.load 24 (.tmp 3),none⟩,⟨none,.store 24 (.tmp 2) (.tmp 43),none⟩]) (.ret)
def x24_L2 : XC := .seq (.seq (.reg [⟨some 15,.move (.tmp 5),none⟩,⟨some 16,.move (.tmp 0),none⟩,⟨some 17,.call ⟨.builtin .len,#[.tmp 16],#[33]⟩,none⟩,⟨some 18,.binOp .lss 3 (.tmp 15) (.tmp 17) 3,none⟩]) (.cond (.tmp 18) (.skip) (.exit 2))) (.seq (.block 3 (.seq (.drawn 8 [⟨some 21,.move (.tmp 4),none⟩,⟨some 22,.move (.tmp 5),none⟩,⟨some 23,.binOp .neq 3 (.tmp 21) (.tmp 22) 3,none⟩,⟨some 24,.move (.tmp 23),none⟩,⟨some 25,.move (.tmp 0),some (some 24,true)⟩,⟨some 26,.move (.tmp 4),some (some 24,true)⟩,⟨some 27,.indexAddr 33 (.tmp 25) (.tmp 26),some (some 24,true)⟩,⟨some 28,.load 37 (.tmp 27),some (some 24,true)⟩,⟨some 29,.move (.tmp 0),some (some 24,true)⟩,⟨some 30,.move (.tmp 5),some (some 24,true)⟩,⟨some 31,.indexAddr 33 (.tmp 29) (.tmp 30),some (some 24,true)⟩,⟨some 32,.load 37 (.tmp 31),some (some 24,true)⟩,⟨some 33,.call ⟨.value (.func 25),#[.tmp 28,.tmp 32],#[37,37]⟩,some (some 24,true)⟩,⟨some 34,.pick (.tmp 24) (.tmp 33) (.const (.bool false)),none⟩]) (.cond (.tmp 34) (.reg [⟨some 35,.fieldAddr 24 (.tmp 3) 1,none⟩,⟨some 36,.load 22 (.tmp 35),none⟩,⟨some 37,.move (.tmp 4),none⟩,⟨some 38,.move (.tmp 5),none⟩,⟨some 39,.build 29 #[(0,.tmp 37),(1,.tmp 38)],none⟩,⟨some 40,.buildSlice 22 1 #[(0,.tmp 39)],none⟩,⟨some 41,.call ⟨.builtin .append,#[.tmp 36,.tmp 40],#[22,22]⟩,none⟩,⟨some 42,.fieldAddr 24 (.tmp 3) 1,none⟩,⟨none,.store 22 (.tmp 42) (.tmp 41),none⟩]) (.skip)))) (.reg [⟨some 19,.move (.tmp 5),none⟩,⟨some 20,.binOp .add 3 (.tmp 19) (.const (.int .i64 1)) 3,none⟩,⟨some 5,.assign (.tmp 20),none⟩]))
def x24_L0 : XC := .seq (.seq (.reg [⟨some 9,.move (.tmp 4),none⟩,⟨some 10,.move (.tmp 0),none⟩,⟨some 11,.call ⟨.builtin .len,#[.tmp 10],#[33]⟩,none⟩,⟨some 12,.binOp .lss 3 (.tmp 9) (.tmp 11) 3,none⟩]) (.cond (.tmp 12) (.skip) (.exit 0))) (.seq (.block 1 (.seq (.reg [⟨some 5,.assign (.const (.int .i64 0)),none⟩]) (.bloop 2 x24_L2))) (.reg [⟨some 13,.move (.tmp 4),none⟩,⟨some 14,.binOp .add 3 (.tmp 13) (.const (.int .i64 1)) 3,none⟩,⟨some 4,.assign (.tmp 14),none⟩]))
def x24 : XC := .seq (.reg [⟨some 2,.alloc 24,none⟩]) (.seq (.reg [⟨some 6,.move (.tmp 0),none⟩,⟨some 7,.call ⟨.builtin .len,#[.tmp 6],#[33]⟩,none⟩,⟨some 8,.build 24 #[(0,.tmp 7)],none⟩,⟨some 3,.alloc 24,none⟩,⟨none,.store 24 (.tmp 3) (.tmp 8),none⟩]) (.seq (.seq (.reg [⟨some 4,.assign (.const (.int .i64 0)),none⟩]) (.bloop 0 x24_L0)) (x24_T2)))
@[simp] theorem x24_s {C : WC} {e : AE} {s : Store} {K : KS} : type_of% (@X_at C e s K _ _ x24_T2.eq_1) ∧ type_of% (@X_at C e s K _ _ x24_L2.eq_1) ∧ type_of% (@X_at C e s K _ _ x24_L0.eq_1) ∧ type_of% (@X_at C e s K _ _ x24.eq_1) := ⟨X_at x24_T2.eq_1, X_at x24_L2.eq_1, X_at x24_L0.eq_1, X_at x24.eq_1⟩
def an24 : Ann := ⟨[(8, .mix 12)], [(2, [(3, some 1, 2)], [0, 2, 3, 4, 5], [0, 2, 3, 4]), (0, [(3, some 1, 2)], [0, 2, 3, 4], [2, 3])], []⟩
def cx24 (P : Program) (m : Nat) : WC := ⟨P, m, an24⟩
@[simp] theorem cx24_a {P : Program} {m : Nat} : (cx24 P m).P = P ∧ (cx24 P m).m = m ∧ (cx24 P m).A.clsOf 8 = .mix 12 ∧ (cx24 P m).A.frzOf 8 = [] ∧ (cx24 P m).A.loopOf 2 = ([(3, some 1, 2)], [0, 2, 3, 4, 5], [0, 2, 3, 4]) ∧ (cx24 P m).A.loopOf 0 = ([(3, some 1, 2)], [0, 2, 3, 4], [2, 3]) := ⟨rfl, rfl, rfl, rfl, rfl, rfl⟩
instance {P : Program} {m f : Nat} [h : EnT P f] : EnT (cx24 P m).P f := h
theorem chk24 : ∀ c, Try.f24.body = some c → chkC Try.f24.ntmps an24 c = true := by intro c h; obtain rfl := Option.some.inj h; decide +kernel
theorem os24 {args : List PV} {v : PV} (h : X (cx24 Try.prog 0) x24 (argsA 0 args) [] (.fin [.cell 2 24] fun v1 s1 => softV (deref s1 6 v1) = v)) (hl : args.length ≤ Try.f24.ntmps := by rw [Try.ntmps24]; simp) : CallOK Try.prog 24 args [] v [] :=
  callXF (m := 0) (cx24 Try.prog 0) x24 rfl rfl (by kernel_rfl) Try.func24 rfl rfl hl mixed (chk24 _ rfl) (by rw [Try.results24]; exact h)

theorem OfSets_ref (l : List (List Nat)) (hl : l.length ≤ 20) (hl2' : ∀ x ∈ l, x.length ≤ 5000) : CallOK Try.prog 24 [.list (l.map numsRow)] [] (.agg [.int .i64 (l.length : Int), .list ((osP l).map relRow)]) [] := by
  refine os24 ?_
  (((try simp (implicitDefEqProofs := false)); (try simp (implicitDefEqProofs := false) (disch := first | assumption | (try simp only [lens]); omega -splitDisjunctions))); all_goals try (repeat' ((first | ((with_reducible first | refine And.intro ?_ ?_ | refine Exists.intro ?_ ?_); first | omega | (simp <;> omega)) | (with_reducible refine spl (And.intro ?_ ?_) <;> intro _)) <;> ((try simp (implicitDefEqProofs := false)); (try simp (implicitDefEqProofs := false) (disch := first | assumption | (try simp only [lens]); omega -splitDisjunctions))))))
  have hz1 : ∀ a, (osA l a).length ≤ 20 := fun a => Nat.le_trans osA_len hl
  have hget : ∀ a (h : a < l.length), l.getD a [] = l[a] := fun a h => by rw [List.getD_eq_getElem?_getD, List.getElem?_eq_getElem h]; rfl
  refine W_of fun Q hQ => ?_
  have main : ∀ k a, a + k = l.length → Q [(0, .list (l.map numsRow)), (2, .ptr 0 0 0), (3, .ptr 1 0 0), (4, .int .i64 (a : Int))] [.rows 2 [[.int .i64 0, .nilsl]], .rows 2 [[.int .i64 (l.length : Int), .sl 2 0 ((List.range a).flatMap (osA l)).length]], .rows 2 (((List.range a).flatMap (osA l)).map relRow)] := by
    intro k
    induction k with
    | zero =>
      intro a ha
      obtain rfl : a = l.length := by omega
      rw [show (List.range l.length).flatMap (osA l) = osP l from rfl]
      generalize osP l = P at *
      apply hQ
      clear hQ
      (((try simp (implicitDefEqProofs := false)); (try simp (implicitDefEqProofs := false) (disch := first | assumption | (try simp only [lens]); omega -splitDisjunctions))); all_goals try (repeat' ((first | ((with_reducible first | refine And.intro ?_ ?_ | refine Exists.intro ?_ ?_); first | omega | (simp <;> omega)) | (with_reducible refine spl (And.intro ?_ ?_) <;> intro _)) <;> ((try simp (implicitDefEqProofs := false)); (try simp (implicitDefEqProofs := false) (disch := first | assumption | (try simp only [lens]); omega -splitDisjunctions))))))
      all_goals trace_state
      all_goals sorry
    | succ k ih =>
      intro a ha
      have hal : a < l.length := by omega
      have ih := ih (a + 1) (by omega)
      have hl1 := fm_len' (f := osA l) (z := 20) hz1 a
      have hl1 : ((List.range a).flatMap (osA l)).length ≤ 400 := by omega
      rw [fm_succ'] at ih
      rw [show osA l a = (List.range l.length).flatMap (osB l a) from rfl] at ih
      generalize (List.range a).flatMap (osA l) = L1 at *
      apply hQ
      clear hQ
      (((try simp (implicitDefEqProofs := false)); (try simp (implicitDefEqProofs := false) (disch := first | assumption | (try simp only [lens]); omega -splitDisjunctions))); all_goals try (repeat' ((first | ((with_reducible first | refine And.intro ?_ ?_ | refine Exists.intro ?_ ?_); first | omega | (simp <;> omega)) | (with_reducible refine spl (And.intro ?_ ?_) <;> intro _)) <;> ((try simp (implicitDefEqProofs := false)); (try simp (implicitDefEqProofs := false) (disch := first | assumption | (try simp only [lens]); omega -splitDisjunctions))))))
      refine W_of fun Q hQ => ?_
      have main : ∀ k b, b + k = l.length → Q [(0, .list (l.map numsRow)), (2, .ptr 0 0 0), (3, .ptr 1 0 0), (4, .int .i64 (a : Int)), (5, .int .i64 (b : Int))] [.rows 2 [[.int .i64 0, .nilsl]], .rows 2 [[.int .i64 (l.length : Int), .sl 2 0 (L1 ++ (List.range b).flatMap (osB l a)).length]], .rows 2 ((L1 ++ (List.range b).flatMap (osB l a)).map relRow)] := by
        intro k
        induction k with
        | zero =>
          intro b hb
          obtain rfl : b = l.length := by omega
          generalize L1 ++ (List.range l.length).flatMap (osB l a) = L2 at *
          apply hQ
          clear hQ
          (((try simp (implicitDefEqProofs := false)); (try simp (implicitDefEqProofs := false) (disch := first | assumption | (try simp only [lens]); omega -splitDisjunctions))); all_goals try (repeat' ((first | ((with_reducible first | refine And.intro ?_ ?_ | refine Exists.intro ?_ ?_); first | omega | (simp <;> omega)) | (with_reducible refine spl (And.intro ?_ ?_) <;> intro _)) <;> ((try simp (implicitDefEqProofs := false)); (try simp (implicitDefEqProofs := false) (disch := first | assumption | (try simp only [lens]); omega -splitDisjunctions))))))
          all_goals first | exact ih | (refine at2 ih ?_ ?_ <;> simp; done) | (exfalso; first | omega | (simp_all; done) | (simp_all; omega))
        | succ k ih =>
          intro b hb
          have hbl : b < l.length := by omega
          have ih := ih (b + 1) (by omega)
          have hl2 := fm_len' (f := osB l a) (z := 1) (fun i => osB_len) b
          rw [fm_succ', ← List.append_assoc] at ih
          have hl2 : (L1 ++ (List.range b).flatMap (osB l a)).length ≤ 420 := by rw [List.length_append]; omega
          generalize L1 ++ (List.range b).flatMap (osB l a) = L2 at *
          rw [show osB l a b = if a ≠ b ∧ subL l[a] l[b] = true then [((a : Int), (b : Int))] else [] from by unfold osB; rw [hget a hal, hget b hbl]] at ih
          have hs := Sub_ref l[a] l[b] (hl2' _ (List.getElem_mem hal))
          apply hQ
          clear hQ
          by_cases hab : a = b
          · simp only [hab, ne_eq, not_true_eq_false, false_and, if_false, List.append_nil] at ih
            subst hab
            (((try simp (implicitDefEqProofs := false)); (try simp (implicitDefEqProofs := false) (disch := first | assumption | (try simp only [lens]); omega -splitDisjunctions))); all_goals try (repeat' ((first | ((with_reducible first | refine And.intro ?_ ?_ | refine Exists.intro ?_ ?_); first | omega | (simp <;> omega)) | (with_reducible refine spl (And.intro ?_ ?_) <;> intro _)) <;> ((try simp (implicitDefEqProofs := false)); (try simp (implicitDefEqProofs := false) (disch := first | assumption | (try simp only [lens]); omega -splitDisjunctions))))))
            all_goals first | exact ih | (refine at2 ih ?_ ?_ <;> simp; done) | (exfalso; first | omega | (simp_all; done) | (simp_all; omega))
          · cases hx : subL l[a] l[b]
            · rw [hx] at hs ih
              simp only [Bool.false_eq_true, and_false, if_false, List.append_nil] at ih
              (((try simp (implicitDefEqProofs := false) [hal, hbl, numsRow, hab]); (try simp (implicitDefEqProofs := false) (disch := first | assumption | (try simp only [lens]); omega -splitDisjunctions) [hal, hbl, numsRow, hab])); all_goals try (repeat' ((first | ((with_reducible first | refine And.intro ?_ ?_ | refine Exists.intro ?_ ?_); first | omega | (simp <;> omega)) | (with_reducible refine spl (And.intro ?_ ?_) <;> intro _) | (refine CL.clo (hs) ?_) | (refine CM.clo (hs) ?_) | (refine CD.clo (hs) ?_)) <;> ((try simp (implicitDefEqProofs := false) [hal, hbl, numsRow, hab]); (try simp (implicitDefEqProofs := false) (disch := first | assumption | (try simp only [lens]); omega -splitDisjunctions) [hal, hbl, numsRow, hab])))))
              all_goals first | exact ih | (refine at2 ih ?_ ?_ <;> simp; done) | (exfalso; first | omega | (simp_all; done) | (simp_all; omega))
            · rw [hx] at hs ih
              simp only [hab, ne_eq, not_false_eq_true, and_self, if_true] at ih
              (((try simp (implicitDefEqProofs := false) [hal, hbl, numsRow, hab]); (try simp (implicitDefEqProofs := false) (disch := first | assumption | (try simp only [lens]); omega -splitDisjunctions) [hal, hbl, numsRow, hab])); all_goals try (repeat' ((first | ((with_reducible first | refine And.intro ?_ ?_ | refine Exists.intro ?_ ?_); first | omega | (simp <;> omega)) | (with_reducible refine spl (And.intro ?_ ?_) <;> intro _) | (refine CL.clo (hs) ?_) | (refine CM.clo (hs) ?_) | (refine CD.clo (hs) ?_)) <;> ((try simp (implicitDefEqProofs := false) [hal, hbl, numsRow, hab]); (try simp (implicitDefEqProofs := false) (disch := first | assumption | (try simp only [lens]); omega -splitDisjunctions) [hal, hbl, numsRow, hab])))))
              all_goals first | exact ih | (refine at2 ih ?_ ?_ <;> simp [relRow]; done) | (exfalso; first | omega | (simp_all; done) | (simp_all; omega))
      refine at2 (main _ 0 (Nat.zero_add _)) ?_ ?_ <;> simp
  refine at2 (main _ 0 (Nat.zero_add _)) ?_ ?_ <;> simp
end Go.Proofs.Ythnobaacfjihcaa
