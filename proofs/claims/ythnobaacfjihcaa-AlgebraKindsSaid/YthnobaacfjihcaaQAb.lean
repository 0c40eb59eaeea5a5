/-
  algebra: best, join, meet.
-/
import Derived.Test.YthnobaacfjihcaaQAc
import Derived.Test.YthnobaacfjihcaaAlgL
namespace Go.Proofs.Ythnobaacfjihcaa
open Go Go.Pv
set_option linter.unusedVariables false
set_option linter.unusedSimpArgs false
set_option maxRecDepth 100000
set_option maxHeartbeats 4000000

def x44 : XC := .seq (.reg [⟨some 5,.assign (.const (.bool false)),none⟩]) (.seq (.reg [⟨some 6,.load 59 (.tmp 1),none⟩,⟨some 7,.load 3 (.tmp 2),none⟩,⟨some 8,.indexAddr 59 (.tmp 6) (.tmp 7),none⟩,⟨some 9,.load 41 (.tmp 8),none⟩,⟨some 10,.move (.tmp 0),none⟩,⟨some 11,.indexAddr 41 (.tmp 9) (.tmp 10),none⟩,⟨some 12,.load 4 (.tmp 11),none⟩,⟨some 13,.move (.tmp 12),none⟩,⟨some 14,.load 59 (.tmp 1),some (some 13,true)⟩,⟨some 15,.load 3 (.tmp 3),some (some 13,true)⟩,⟨some 16,.indexAddr 59 (.tmp 14) (.tmp 15),some (some 13,true)⟩,⟨some 17,.load 41 (.tmp 16),some (some 13,true)⟩,⟨some 18,.move (.tmp 0),some (some 13,true)⟩,⟨some 19,.indexAddr 41 (.tmp 17) (.tmp 18),some (some 13,true)⟩,⟨some 20,.load 4 (.tmp 19),some (some 13,true)⟩,⟨some 21,.pick (.tmp 13) (.tmp 20) (.const (.bool false)),none⟩,⟨some 5,.assign (.tmp 21),none⟩]) (.ret))
@[simp] theorem x44_s {C : WC} {e : AE} {s : Store} {K : KS} : type_of% (@X_at C e s K _ _ x44.eq_1) := X_at x44.eq_1
def an44 : Ann := ⟨[], [], []⟩
def cx44 (P : Program) (m : Nat) : WC := ⟨P, m, an44⟩
@[simp] theorem cx44_a {P : Program} {m : Nat} : (cx44 P m).P = P ∧ (cx44 P m).m = m := ⟨rfl, rfl⟩
instance {P : Program} {m f : Nat} [h : EnT P f] : EnT (cx44 P m).P f := h
theorem chk44 : ∀ c, Try.f44.body = some c → chkC Try.f44.ntmps an44 c = true := by intro c h; obtain rfl := Option.some.inj h; decide +kernel
theorem op44 {args : List PV} {v : PV} (h : X (cx44 Try.prog 0) x44 (argsA 0 args) [] (.fin [.tmp 5] fun v1 s1 => deref s1 6 v1 = v)) (hl : args.length ≤ Try.f44.ntmps := by rw [Try.ntmps44]; simp) : CallOK Try.prog 44 args [] v [] :=
  callX (m := 0) (cx44 Try.prog 0) x44 rfl rfl (by kernel_rfl) Try.func44 rfl rfl hl mixed (chk44 _ rfl) (by rw [Try.results44]; exact h)

theorem join1_algebra (n : Nat) (g : Nat → Nat → Bool) (a b c : Nat) (ha : a < n) (hb : b < n) (hc : c < n) :
    CallOK Try.prog 44 [.int .i64 (c : Int), .iptr [.list ((tabF n g).map tabRowF)], .iptr [.int .i64 (a : Int)], .iptr [.int .i64 (b : Int)]] [] (.bool (g a c && g b c)) [] := by
  refine op44 ?_
  (((try simp (implicitDefEqProofs := false) [ha, hb, hc, tabRowF, tabF_get, rowF_get]); (try simp (implicitDefEqProofs := false) (disch := first | assumption | (try simp only [lens]); omega -splitDisjunctions) [ha, hb, hc, tabRowF, tabF_get, rowF_get])); all_goals try (repeat' ((first | ((with_reducible first | refine And.intro ?_ ?_ | refine Exists.intro ?_ ?_); first | omega | (simp <;> omega)) | (with_reducible refine spl (And.intro ?_ ?_) <;> intro _)) <;> ((try simp (implicitDefEqProofs := false) [ha, hb, hc, tabRowF, tabF_get, rowF_get]); (try simp (implicitDefEqProofs := false) (disch := first | assumption | (try simp only [lens]); omega -splitDisjunctions) [ha, hb, hc, tabRowF, tabF_get, rowF_get])))))
  all_goals simp_all
def x43_T2 : XC := .seq (.reg [⟨some 38,.move (.tmp 8),none⟩]) (.cond (.tmp 38) (.seq (.reg [⟨some 39,.move (.tmp 7),none⟩,⟨some 6,.assign (.tmp 39),none⟩]) (.ret)) (.skip))
def x43_L2 : XC := .seq (.reg [⟨some 22,.binOp .lss 3 (.tmp 21) (.tmp 20) 3,none⟩]) (.seq (.cond (.tmp 22) (.skip) (.exit 2)) (.seq (.block 3 (.seq (.reg [⟨some 23,.move (.tmp 21),none⟩,⟨some 9,.assign (.tmp 23),none⟩]) (.reg [⟨some 24,.move (.tmp 8),none⟩,⟨some 25,.move (.tmp 24),none⟩,⟨some 26,.move (.tmp 1),some (some 25,true)⟩,⟨some 27,.move (.tmp 9),some (some 25,true)⟩,⟨some 28,.call ⟨.value (.tmp 26),#[.tmp 27],#[3]⟩,some (some 25,true)⟩,⟨some 29,.unOp .not 4 (.tmp 28),some (some 25,true)⟩,⟨some 30,.move (.tmp 29),some (some 25,true)⟩,⟨some 31,.move (.tmp 2),some (some 30,false)⟩,⟨some 32,.move (.tmp 7),some (some 30,false)⟩,⟨some 33,.move (.tmp 9),some (some 30,false)⟩,⟨some 34,.call ⟨.value (.tmp 31),#[.tmp 32,.tmp 33],#[3,3]⟩,some (some 30,false)⟩,⟨some 35,.pick (.tmp 30) (.const (.bool true)) (.tmp 34),some (some 25,true)⟩,⟨some 36,.pick (.tmp 25) (.tmp 35) (.const (.bool false)),none⟩,⟨some 8,.assign (.tmp 36),none⟩]))) (.reg [⟨some 37,.binOp .add 3 (.tmp 21) (.const (.int .i64 1)) 3,none⟩,⟨some 21,.move (.tmp 37),none⟩])))
def x43_L0 : XC := .seq (.reg [⟨some 13,.binOp .lss 3 (.tmp 12) (.tmp 11) 3,none⟩]) (.seq (.cond (.tmp 13) (.skip) (.exit 0)) (.seq (.block 1 (.seq (.reg [⟨some 14,.move (.tmp 12),none⟩,⟨some 7,.assign (.tmp 14),none⟩]) (.seq (.seq (.reg [⟨some 15,.move (.tmp 1),none⟩,⟨some 16,.move (.tmp 7),none⟩,⟨some 17,.call ⟨.value (.tmp 15),#[.tmp 16],#[3]⟩,none⟩,⟨some 18,.unOp .not 4 (.tmp 17),none⟩]) (.cond (.tmp 18) (.exit 1) (.skip))) (.seq (.reg [⟨some 8,.assign (.const (.bool true)),none⟩]) (.seq (.seq (.reg [⟨some 19,.move (.tmp 0),none⟩,⟨some 20,.call ⟨.builtin .len,#[.tmp 19],#[59]⟩,none⟩,⟨some 21,.move (.const (.int .i64 0)),none⟩]) (.bloop 2 x43_L2)) (x43_T2)))))) (.reg [⟨some 40,.binOp .add 3 (.tmp 12) (.const (.int .i64 1)) 3,none⟩,⟨some 12,.move (.tmp 40),none⟩])))
def x43 : XC := .seq (.reg [⟨some 6,.assign (.const (.int .i64 0)),none⟩]) (.seq (.seq (.reg [⟨some 10,.move (.tmp 0),none⟩,⟨some 11,.call ⟨.builtin .len,#[.tmp 10],#[59]⟩,none⟩,⟨some 12,.move (.const (.int .i64 0)),none⟩]) (.bloop 0 x43_L0)) (.seq (.reg [⟨some 6,.assign (.const (.int .i64 (-1))),none⟩]) (.ret)))
@[simp] theorem x43_s {C : WC} {e : AE} {s : Store} {K : KS} : type_of% (@X_at C e s K _ _ x43_T2.eq_1) ∧ type_of% (@X_at C e s K _ _ x43_L2.eq_1) ∧ type_of% (@X_at C e s K _ _ x43_L0.eq_1) ∧ type_of% (@X_at C e s K _ _ x43.eq_1) := ⟨X_at x43_T2.eq_1, X_at x43_L2.eq_1, X_at x43_L0.eq_1, X_at x43.eq_1⟩
def an43 : Ann := ⟨[], [(2, [], [0, 1, 2, 7, 8, 11, 12, 20, 21], [0, 1, 2, 7, 8, 11, 12]), (0, [], [0, 1, 2, 11, 12], [6])], []⟩
def cx43 (P : Program) (m : Nat) : WC := ⟨P, m, an43⟩
@[simp] theorem cx43_a {P : Program} {m : Nat} : (cx43 P m).P = P ∧ (cx43 P m).m = m ∧ (cx43 P m).A.loopOf 2 = ([], [0, 1, 2, 7, 8, 11, 12, 20, 21], [0, 1, 2, 7, 8, 11, 12]) ∧ (cx43 P m).A.loopOf 0 = ([], [0, 1, 2, 11, 12], [6]) := ⟨rfl, rfl, rfl, rfl⟩
instance {P : Program} {m f : Nat} [h : EnT P f] : EnT (cx43 P m).P f := h
theorem chk43 : ∀ c, Try.f43.body = some c → chkC Try.f43.ntmps an43 c = true := by intro c h; obtain rfl := Option.some.inj h; decide +kernel
theorem op43 {args : List PV} {v : PV} (h : X (cx43 Try.prog 0) x43 (argsA 0 args) [] (.fin [.tmp 6] fun v1 s1 => deref s1 6 v1 = v)) (hl : args.length ≤ Try.f43.ntmps := by rw [Try.ntmps43]; simp) : CallOK Try.prog 43 args [] v [] :=
  callX (m := 0) (cx43 Try.prog 0) x43 rfl rfl (by kernel_rfl) Try.func43 rfl rfl hl mixed (chk43 _ rfl) (by rw [Try.results43]; exact h)

theorem best_algebra (n : Nat) (h20 : n ≤ 20) (g : Nat → Nat → Bool) (f1 f2 : Nat) [EnT Try.prog f1] [EnT Try.prog f2] (y1 y2 : List PV) (fine : Nat → Bool) (first : Nat → Nat → Bool)
    (r1 : ∀ ρ, y1.map (renN ρ 3) = y1) (r2 : ∀ ρ, y2.map (renN ρ 3) = y2) (q1 : y1.flatMap (refsN 3) = []) (q2 : y2.flatMap (refsN 3) = [])
    (h1 : ∀ c, c < n → ∀ s, CallOK Try.prog f1 (.int .i64 (c : Int) :: y1) s (.bool (fine c)) s) (h2 : ∀ c d, c < n → d < n → ∀ s, CallOK Try.prog f2 (.int .i64 (c : Int) :: .int .i64 (d : Int) :: y2) s (.bool (first c d)) s) :
    CallOK Try.prog 43 [.list ((tabF n g).map tabRowF), .fn (.func f1) [] y1, .fn (.func f2) [] y2] [] (.int .i64 (bestI n fine first)) [] := by
  refine op43 ?_
  (((try simp (implicitDefEqProofs := false) [r1, r2, q1, q2]); (try simp (implicitDefEqProofs := false) (disch := first | assumption | (try simp only [lens]); omega -splitDisjunctions) [r1, r2, q1, q2])); all_goals try (repeat' ((first | ((with_reducible first | refine And.intro ?_ ?_ | refine Exists.intro ?_ ?_); first | omega | (simp <;> omega)) | (with_reducible refine spl (And.intro ?_ ?_) <;> intro _)) <;> ((try simp (implicitDefEqProofs := false) [r1, r2, q1, q2]); (try simp (implicitDefEqProofs := false) (disch := first | assumption | (try simp only [lens]); omega -splitDisjunctions) [r1, r2, q1, q2])))))
  refine W_of fun Q hQ => ?_
  have main : ∀ k c, c + k = n → (∀ j, j < c → (fine j && (List.range n).all fun d => !fine d || first j d) = false) → Q [(0, .list ((tabF n g).map tabRowF)), (1, .fn (.func f1) [] y1), (2, .fn (.func f2) [] y2), (11, .int .i64 (n : Int)), (12, .int .i64 (c : Int))] [] := by
    intro k
    induction k with
    | zero =>
      intro c hc hb
      have hbi : bestI n fine first = -1 := by
        unfold bestI
        rw [List.find?_eq_none.2]
        intro j hj
        rw [hb j (by rw [List.mem_range] at hj; omega)]; simp
      apply hQ
      (((try simp (implicitDefEqProofs := false) [r1, r2, q1, q2]); (try simp (implicitDefEqProofs := false) (disch := first | assumption | (try simp only [lens]); omega -splitDisjunctions) [r1, r2, q1, q2])); all_goals try (repeat' ((first | ((with_reducible first | refine And.intro ?_ ?_ | refine Exists.intro ?_ ?_); first | omega | (simp <;> omega)) | (with_reducible refine spl (And.intro ?_ ?_) <;> intro _)) <;> ((try simp (implicitDefEqProofs := false) [r1, r2, q1, q2]); (try simp (implicitDefEqProofs := false) (disch := first | assumption | (try simp only [lens]); omega -splitDisjunctions) [r1, r2, q1, q2])))))
      all_goals simp [hbi]
    | succ k ih =>
      intro c hc hb
      have hcn : c < n := by omega
      have ih := ih (c + 1) (by omega)
      have hfc := h1 c hcn
      cases hf : fine c with
      | false =>
        rw [hf] at hfc
        have ih := ih (fun j hj => by
          by_cases e : j = c
          · subst e; simp [hf]
          · exact hb j (by omega))
        apply hQ
        clear hQ
        (((try simp (implicitDefEqProofs := false) [hcn, r1, r2, q1, q2]); (try simp (implicitDefEqProofs := false) (disch := first | assumption | (try simp only [lens]); omega -splitDisjunctions) [hcn, r1, r2, q1, q2])); all_goals try (repeat' ((first | ((with_reducible first | refine And.intro ?_ ?_ | refine Exists.intro ?_ ?_); first | omega | (simp <;> omega)) | (with_reducible refine spl (And.intro ?_ ?_) <;> intro _) | (refine CL.of (hfc _) ?_) | (refine CD.of (hfc _) ?_) | (refine CM.of (hfc) ?_)) <;> ((try simp (implicitDefEqProofs := false) [hcn, r1, r2, q1, q2]); (try simp (implicitDefEqProofs := false) (disch := first | assumption | (try simp only [lens]); omega -splitDisjunctions) [hcn, r1, r2, q1, q2])))))
        all_goals simpa using ih
      | true =>
        rw [hf] at hfc
        apply hQ
        clear hQ
        (((try simp (implicitDefEqProofs := false) [hcn, r1, r2, q1, q2]); (try simp (implicitDefEqProofs := false) (disch := first | assumption | (try simp only [lens]); omega -splitDisjunctions) [hcn, r1, r2, q1, q2])); all_goals try (repeat' ((first | ((with_reducible first | refine And.intro ?_ ?_ | refine Exists.intro ?_ ?_); first | omega | (simp <;> omega)) | (with_reducible refine spl (And.intro ?_ ?_) <;> intro _) | (refine CL.of (hfc _) ?_) | (refine CD.of (hfc _) ?_) | (refine CM.of (hfc) ?_)) <;> ((try simp (implicitDefEqProofs := false) [hcn, r1, r2, q1, q2]); (try simp (implicitDefEqProofs := false) (disch := first | assumption | (try simp only [lens]); omega -splitDisjunctions) [hcn, r1, r2, q1, q2])))))
        refine W_of fun Q2 hQ2 => ?_
        have main2 : ∀ k d, d + k = n → Q2 [(0, .list ((tabF n g).map tabRowF)), (1, .fn (.func f1) [] y1), (2, .fn (.func f2) [] y2), (7, .int .i64 (c : Int)), (8, .bool ((List.range d).all fun d => !fine d || first c d)), (11, .int .i64 (n : Int)), (12, .int .i64 (c : Int)), (20, .int .i64 (n : Int)), (21, .int .i64 (d : Int))] [] := by
          intro k
          induction k with
          | zero =>
            intro d hd
            have e : d = n := by omega
            rw [e]
            apply hQ2
            clear hQ2
            cases hal : (List.range n).all fun d => !fine d || first c d with
            | false =>
              have ih := ih (fun j hj => by
                by_cases e : j = c
                · subst e; rw [hal]; simp
                · exact hb j (by omega))
              (((try simp (implicitDefEqProofs := false) [hcn, r1, r2, q1, q2]); (try simp (implicitDefEqProofs := false) (disch := first | assumption | (try simp only [lens]); omega -splitDisjunctions) [hcn, r1, r2, q1, q2])); all_goals try (repeat' ((first | ((with_reducible first | refine And.intro ?_ ?_ | refine Exists.intro ?_ ?_); first | omega | (simp <;> omega)) | (with_reducible refine spl (And.intro ?_ ?_) <;> intro _)) <;> ((try simp (implicitDefEqProofs := false) [hcn, r1, r2, q1, q2]); (try simp (implicitDefEqProofs := false) (disch := first | assumption | (try simp only [lens]); omega -splitDisjunctions) [hcn, r1, r2, q1, q2])))))
              all_goals simpa using ih
            | true =>
              have hbi : bestI n fine first = c := by
                unfold bestI
                have : (List.range n).find? (fun c => fine c && (List.range n).all fun d => !fine d || first c d) = some c := by
                  rw [List.find?_range_eq_some]
                  exact ⟨by rw [hf, hal]; rfl, List.mem_range.2 hcn, fun j hj => by rw [hb j hj]; rfl⟩
                rw [this]
              (((try simp (implicitDefEqProofs := false) [hcn, r1, r2, q1, q2]); (try simp (implicitDefEqProofs := false) (disch := first | assumption | (try simp only [lens]); omega -splitDisjunctions) [hcn, r1, r2, q1, q2])); all_goals try (repeat' ((first | ((with_reducible first | refine And.intro ?_ ?_ | refine Exists.intro ?_ ?_); first | omega | (simp <;> omega)) | (with_reducible refine spl (And.intro ?_ ?_) <;> intro _)) <;> ((try simp (implicitDefEqProofs := false) [hcn, r1, r2, q1, q2]); (try simp (implicitDefEqProofs := false) (disch := first | assumption | (try simp only [lens]); omega -splitDisjunctions) [hcn, r1, r2, q1, q2])))))
              all_goals simp [hbi]
          | succ k ih2 =>
            intro d hd
            have hdn : d < n := by omega
            have ih2 := ih2 (d + 1) (by omega)
            have hfd := h1 d hdn
            have hsd := h2 c d hcn hdn
            have hsn : ((List.range (d + 1)).all fun d => !fine d || first c d) = (((List.range d).all fun d => !fine d || first c d) && (!fine d || first c d)) := by simp [List.range_succ]
            rw [hsn] at ih2
            generalize ((List.range d).all fun d => !fine d || first c d) = A at ih2 ⊢
            generalize fine d = x at hfd ih2
            generalize first c d = y at hsd ih2
            apply hQ2
            clear hQ2
            (((try simp (implicitDefEqProofs := false) [hcn, hdn, r1, r2, q1, q2]); (try simp (implicitDefEqProofs := false) (disch := first | assumption | (try simp only [lens]); omega -splitDisjunctions) [hcn, hdn, r1, r2, q1, q2])); all_goals try (repeat' ((first | ((with_reducible first | refine And.intro ?_ ?_ | refine Exists.intro ?_ ?_); first | omega | (simp <;> omega)) | (with_reducible refine spl (And.intro ?_ ?_) <;> intro _) | (refine CL.of (hfd _) ?_) | (refine CD.of (hfd _) ?_) | (refine CM.of (hfd) ?_) | (refine CL.of (hsd _) ?_) | (refine CD.of (hsd _) ?_) | (refine CM.of (hsd) ?_)) <;> ((try simp (implicitDefEqProofs := false) [hcn, hdn, r1, r2, q1, q2]); (try simp (implicitDefEqProofs := false) (disch := first | assumption | (try simp only [lens]); omega -splitDisjunctions) [hcn, hdn, r1, r2, q1, q2])))))
            all_goals simp_all
        have m2 := main2 n 0 (by omega)
        simpa [r1, r2, q1, q2] using m2
  refine at2 (main _ 0 (Nat.zero_add _) (fun j h => by omega)) ?_ ?_ <;> simp
def x45 : XC := .seq (.reg [⟨some 5,.assign (.const (.bool false)),none⟩]) (.seq (.reg [⟨some 6,.load 59 (.tmp 2),none⟩,⟨some 7,.move (.tmp 0),none⟩,⟨some 8,.indexAddr 59 (.tmp 6) (.tmp 7),none⟩,⟨some 9,.load 41 (.tmp 8),none⟩,⟨some 10,.move (.tmp 1),none⟩,⟨some 11,.indexAddr 41 (.tmp 9) (.tmp 10),none⟩,⟨some 12,.load 4 (.tmp 11),none⟩,⟨some 5,.assign (.tmp 12),none⟩]) (.ret))
@[simp] theorem x45_s {C : WC} {e : AE} {s : Store} {K : KS} : type_of% (@X_at C e s K _ _ x45.eq_1) := X_at x45.eq_1
def an45 : Ann := ⟨[], [], []⟩
def cx45 (P : Program) (m : Nat) : WC := ⟨P, m, an45⟩
@[simp] theorem cx45_a {P : Program} {m : Nat} : (cx45 P m).P = P ∧ (cx45 P m).m = m := ⟨rfl, rfl⟩
instance {P : Program} {m f : Nat} [h : EnT P f] : EnT (cx45 P m).P f := h
theorem chk45 : ∀ c, Try.f45.body = some c → chkC Try.f45.ntmps an45 c = true := by intro c h; obtain rfl := Option.some.inj h; decide +kernel
theorem op45 {args : List PV} {v : PV} (h : X (cx45 Try.prog 0) x45 (argsA 0 args) [] (.fin [.tmp 5] fun v1 s1 => deref s1 6 v1 = v)) (hl : args.length ≤ Try.f45.ntmps := by rw [Try.ntmps45]; simp) : CallOK Try.prog 45 args [] v [] :=
  callX (m := 0) (cx45 Try.prog 0) x45 rfl rfl (by kernel_rfl) Try.func45 rfl rfl hl mixed (chk45 _ rfl) (by rw [Try.results45]; exact h)

theorem join2_algebra (n : Nat) (g : Nat → Nat → Bool) (c d : Nat) (hc : c < n) (hd : d < n) :
    CallOK Try.prog 45 [.int .i64 (c : Int), .int .i64 (d : Int), .iptr [.list ((tabF n g).map tabRowF)]] [] (.bool (g c d)) [] := by
  refine op45 ?_
  (((try simp (implicitDefEqProofs := false) [hc, hd, tabRowF, tabF_get, rowF_get]); (try simp (implicitDefEqProofs := false) (disch := first | assumption | (try simp only [lens]); omega -splitDisjunctions) [hc, hd, tabRowF, tabF_get, rowF_get])); all_goals try (repeat' ((first | ((with_reducible first | refine And.intro ?_ ?_ | refine Exists.intro ?_ ?_); first | omega | (simp <;> omega)) | (with_reducible refine spl (And.intro ?_ ?_) <;> intro _)) <;> ((try simp (implicitDefEqProofs := false) [hc, hd, tabRowF, tabF_get, rowF_get]); (try simp (implicitDefEqProofs := false) (disch := first | assumption | (try simp only [lens]); omega -splitDisjunctions) [hc, hd, tabRowF, tabF_get, rowF_get])))))
  all_goals simp_all
def x46 : XC := .seq (.reg [⟨some 5,.assign (.const (.bool false)),none⟩]) (.seq (.drawn 1 [⟨some 6,.load 59 (.tmp 1),none⟩,⟨some 7,.move (.tmp 0),none⟩,⟨some 8,.indexAddr 59 (.tmp 6) (.tmp 7),none⟩,⟨some 9,.load 41 (.tmp 8),none⟩,⟨some 10,.load 3 (.tmp 2),none⟩,⟨some 11,.indexAddr 41 (.tmp 9) (.tmp 10),none⟩,⟨some 12,.load 4 (.tmp 11),none⟩,⟨some 13,.move (.tmp 12),none⟩,⟨some 14,.load 59 (.tmp 1),some (some 13,true)⟩,⟨some 15,.move (.tmp 0),some (some 13,true)⟩,⟨some 16,.indexAddr 59 (.tmp 14) (.tmp 15),some (some 13,true)⟩,⟨some 17,.load 41 (.tmp 16),some (some 13,true)⟩,⟨some 18,.load 3 (.tmp 3),some (some 13,true)⟩,⟨some 19,.indexAddr 41 (.tmp 17) (.tmp 18),some (some 13,true)⟩,⟨some 20,.load 4 (.tmp 19),some (some 13,true)⟩,⟨some 21,.pick (.tmp 13) (.tmp 20) (.const (.bool false)),none⟩,⟨some 5,.assign (.tmp 21),none⟩]) (.ret))
@[simp] theorem x46_s {C : WC} {e : AE} {s : Store} {K : KS} : type_of% (@X_at C e s K _ _ x46.eq_1) := X_at x46.eq_1
def an46 : Ann := ⟨[(1, .mix 13)], [], []⟩
def cx46 (P : Program) (m : Nat) : WC := ⟨P, m, an46⟩
@[simp] theorem cx46_a {P : Program} {m : Nat} : (cx46 P m).P = P ∧ (cx46 P m).m = m ∧ (cx46 P m).A.clsOf 1 = .mix 13 ∧ (cx46 P m).A.frzOf 1 = [] := ⟨rfl, rfl, rfl, rfl⟩
instance {P : Program} {m f : Nat} [h : EnT P f] : EnT (cx46 P m).P f := h
theorem chk46 : ∀ c, Try.f46.body = some c → chkC Try.f46.ntmps an46 c = true := by intro c h; obtain rfl := Option.some.inj h; decide +kernel
theorem op46 {args : List PV} {v : PV} (h : X (cx46 Try.prog 0) x46 (argsA 0 args) [] (.fin [.tmp 5] fun v1 s1 => deref s1 6 v1 = v)) (hl : args.length ≤ Try.f46.ntmps := by rw [Try.ntmps46]; simp) : CallOK Try.prog 46 args [] v [] :=
  callX (m := 0) (cx46 Try.prog 0) x46 rfl rfl (by kernel_rfl) Try.func46 rfl rfl hl mixed (chk46 _ rfl) (by rw [Try.results46]; exact h)

theorem meet1_algebra (n : Nat) (g : Nat → Nat → Bool) (a b c : Nat) (ha : a < n) (hb : b < n) (hc : c < n) :
    CallOK Try.prog 46 [.int .i64 (c : Int), .iptr [.list ((tabF n g).map tabRowF)], .iptr [.int .i64 (a : Int)], .iptr [.int .i64 (b : Int)]] [] (.bool (g c a && g c b)) [] := by
  refine op46 ?_
  (((try simp (implicitDefEqProofs := false) [ha, hb, hc, tabRowF, tabF_get, rowF_get]); (try simp (implicitDefEqProofs := false) (disch := first | assumption | (try simp only [lens]); omega -splitDisjunctions) [ha, hb, hc, tabRowF, tabF_get, rowF_get])); all_goals try (repeat' ((first | ((with_reducible first | refine And.intro ?_ ?_ | refine Exists.intro ?_ ?_); first | omega | (simp <;> omega)) | (with_reducible refine spl (And.intro ?_ ?_) <;> intro _)) <;> ((try simp (implicitDefEqProofs := false) [ha, hb, hc, tabRowF, tabF_get, rowF_get]); (try simp (implicitDefEqProofs := false) (disch := first | assumption | (try simp only [lens]); omega -splitDisjunctions) [ha, hb, hc, tabRowF, tabF_get, rowF_get])))))
  all_goals simp_all
def x47 : XC := .seq (.reg [⟨some 5,.assign (.const (.bool false)),none⟩]) (.seq (.reg [⟨some 6,.load 59 (.tmp 2),none⟩,⟨some 7,.move (.tmp 1),none⟩,⟨some 8,.indexAddr 59 (.tmp 6) (.tmp 7),none⟩,⟨some 9,.load 41 (.tmp 8),none⟩,⟨some 10,.move (.tmp 0),none⟩,⟨some 11,.indexAddr 41 (.tmp 9) (.tmp 10),none⟩,⟨some 12,.load 4 (.tmp 11),none⟩,⟨some 5,.assign (.tmp 12),none⟩]) (.ret))
@[simp] theorem x47_s {C : WC} {e : AE} {s : Store} {K : KS} : type_of% (@X_at C e s K _ _ x47.eq_1) := X_at x47.eq_1
def an47 : Ann := ⟨[], [], []⟩
def cx47 (P : Program) (m : Nat) : WC := ⟨P, m, an47⟩
@[simp] theorem cx47_a {P : Program} {m : Nat} : (cx47 P m).P = P ∧ (cx47 P m).m = m := ⟨rfl, rfl⟩
instance {P : Program} {m f : Nat} [h : EnT P f] : EnT (cx47 P m).P f := h
theorem chk47 : ∀ c, Try.f47.body = some c → chkC Try.f47.ntmps an47 c = true := by intro c h; obtain rfl := Option.some.inj h; decide +kernel
theorem op47 {args : List PV} {v : PV} (h : X (cx47 Try.prog 0) x47 (argsA 0 args) [] (.fin [.tmp 5] fun v1 s1 => deref s1 6 v1 = v)) (hl : args.length ≤ Try.f47.ntmps := by rw [Try.ntmps47]; simp) : CallOK Try.prog 47 args [] v [] :=
  callX (m := 0) (cx47 Try.prog 0) x47 rfl rfl (by kernel_rfl) Try.func47 rfl rfl hl mixed (chk47 _ rfl) (by rw [Try.results47]; exact h)

theorem meet2_algebra (n : Nat) (g : Nat → Nat → Bool) (c d : Nat) (hc : c < n) (hd : d < n) :
    CallOK Try.prog 47 [.int .i64 (c : Int), .int .i64 (d : Int), .iptr [.list ((tabF n g).map tabRowF)]] [] (.bool (g d c)) [] := by
  refine op47 ?_
  (((try simp (implicitDefEqProofs := false) [hc, hd, tabRowF, tabF_get, rowF_get]); (try simp (implicitDefEqProofs := false) (disch := first | assumption | (try simp only [lens]); omega -splitDisjunctions) [hc, hd, tabRowF, tabF_get, rowF_get])); all_goals try (repeat' ((first | ((with_reducible first | refine And.intro ?_ ?_ | refine Exists.intro ?_ ?_); first | omega | (simp <;> omega)) | (with_reducible refine spl (And.intro ?_ ?_) <;> intro _)) <;> ((try simp (implicitDefEqProofs := false) [hc, hd, tabRowF, tabF_get, rowF_get]); (try simp (implicitDefEqProofs := false) (disch := first | assumption | (try simp only [lens]); omega -splitDisjunctions) [hc, hd, tabRowF, tabF_get, rowF_get])))))
  all_goals simp_all
def x37 : XC := .seq (.reg [⟨some 3,.box 59 (.tmp 0),none⟩,⟨some 4,.box 3 (.tmp 1),none⟩,⟨some 5,.box 3 (.tmp 2),none⟩,⟨some 6,.assign (.const (.int .i64 0)),none⟩]) (.seq (.reg [⟨some 7,.load 59 (.tmp 3),none⟩,⟨some 8,.makeFunc (.func 44) #[] #[.tmp 3,.tmp 4,.tmp 5],none⟩,⟨some 9,.makeFunc (.func 45) #[] #[.tmp 3],none⟩,⟨some 10,.call ⟨.value (.func 43),#[.tmp 7,.tmp 8,.tmp 9],#[59,74,72]⟩,none⟩,⟨some 6,.assign (.tmp 10),none⟩]) (.ret))
@[simp] theorem x37_s {C : WC} {e : AE} {s : Store} {K : KS} : type_of% (@X_at C e s K _ _ x37.eq_1) := X_at x37.eq_1
def an37 : Ann := ⟨[], [], []⟩
def cx37 (P : Program) (m : Nat) : WC := ⟨P, m, an37⟩
@[simp] theorem cx37_a {P : Program} {m : Nat} : (cx37 P m).P = P ∧ (cx37 P m).m = m := ⟨rfl, rfl⟩
instance {P : Program} {m f : Nat} [h : EnT P f] : EnT (cx37 P m).P f := h
theorem chk37 : ∀ c, Try.f37.body = some c → chkC Try.f37.ntmps an37 c = true := by intro c h; obtain rfl := Option.some.inj h; decide +kernel
theorem op37 {args : List PV} {v : PV} (h : X (cx37 Try.prog 0) x37 (argsA 0 args) [] (.fin [.tmp 6] fun v1 s1 => deref s1 6 v1 = v)) (hl : args.length ≤ Try.f37.ntmps := by rw [Try.ntmps37]; simp) : CallOK Try.prog 37 args [] v [] :=
  callX (m := 0) (cx37 Try.prog 0) x37 rfl rfl (by kernel_rfl) Try.func37 rfl rfl hl mixed (chk37 _ rfl) (by rw [Try.results37]; exact h)

theorem join_algebra (n : Nat) (h20 : n ≤ 20) (g : Nat → Nat → Bool) (a b : Nat) (ha : a < n) (hb : b < n) :
    CallOK Try.prog 37 [.list ((tabF n g).map tabRowF), .int .i64 (a : Int), .int .i64 (b : Int)] [] (.int .i64 (joinI n g a b)) [] := by
  have hbest := best_algebra n h20 g 44 45 [.iptr [.list ((tabF n g).map tabRowF)], .iptr [.int .i64 (a : Int)], .iptr [.int .i64 (b : Int)]] [.iptr [.list ((tabF n g).map tabRowF)]] (fun c => g a c && g b c) (fun c d => g c d) (fun ρ => by simp) (fun ρ => by simp) (by simp) (by simp)
    (fun c hc s => CallOK.frame (join1_algebra n g a b c ha hb hc) (by simp [closed_agg, closed_fn, flatL_fn])) (fun c d hc hd s => CallOK.frame (join2_algebra n g c d hc hd) (by simp [closed_agg, closed_fn, flatL_fn]))
  refine op37 ?_
  (((try simp (implicitDefEqProofs := false)); (try simp (implicitDefEqProofs := false) (disch := first | assumption | (try simp only [lens]); omega -splitDisjunctions))); all_goals try (repeat' ((first | ((with_reducible first | refine And.intro ?_ ?_ | refine Exists.intro ?_ ?_); first | omega | (simp <;> omega)) | (with_reducible refine spl (And.intro ?_ ?_) <;> intro _) | (refine CL.see (hbest) ?_ ?_ ?_; (focus (first | (simp; done) | (simp [scn]; done))); (focus (simp [flats]; done))) | (refine CD.see (hbest) ?_ ?_ ?_; (focus (first | (simp; done) | (simp [scn]; done))); (focus (simp [flats]; done)))) <;> ((try simp (implicitDefEqProofs := false)); (try simp (implicitDefEqProofs := false) (disch := first | assumption | (try simp only [lens]); omega -splitDisjunctions))))))
  all_goals rfl
def x38 : XC := .seq (.reg [⟨some 3,.box 59 (.tmp 0),none⟩,⟨some 4,.box 3 (.tmp 1),none⟩,⟨some 5,.box 3 (.tmp 2),none⟩,⟨some 6,.assign (.const (.int .i64 0)),none⟩]) (.seq (.reg [⟨some 7,.load 59 (.tmp 3),none⟩,⟨some 8,.makeFunc (.func 46) #[] #[.tmp 3,.tmp 4,.tmp 5],none⟩,⟨some 9,.makeFunc (.func 47) #[] #[.tmp 3],none⟩,⟨some 10,.call ⟨.value (.func 43),#[.tmp 7,.tmp 8,.tmp 9],#[59,74,72]⟩,none⟩,⟨some 6,.assign (.tmp 10),none⟩]) (.ret))
@[simp] theorem x38_s {C : WC} {e : AE} {s : Store} {K : KS} : type_of% (@X_at C e s K _ _ x38.eq_1) := X_at x38.eq_1
def an38 : Ann := ⟨[], [], []⟩
def cx38 (P : Program) (m : Nat) : WC := ⟨P, m, an38⟩
@[simp] theorem cx38_a {P : Program} {m : Nat} : (cx38 P m).P = P ∧ (cx38 P m).m = m := ⟨rfl, rfl⟩
instance {P : Program} {m f : Nat} [h : EnT P f] : EnT (cx38 P m).P f := h
theorem chk38 : ∀ c, Try.f38.body = some c → chkC Try.f38.ntmps an38 c = true := by intro c h; obtain rfl := Option.some.inj h; decide +kernel
theorem op38 {args : List PV} {v : PV} (h : X (cx38 Try.prog 0) x38 (argsA 0 args) [] (.fin [.tmp 6] fun v1 s1 => deref s1 6 v1 = v)) (hl : args.length ≤ Try.f38.ntmps := by rw [Try.ntmps38]; simp) : CallOK Try.prog 38 args [] v [] :=
  callX (m := 0) (cx38 Try.prog 0) x38 rfl rfl (by kernel_rfl) Try.func38 rfl rfl hl mixed (chk38 _ rfl) (by rw [Try.results38]; exact h)

theorem meet_algebra (n : Nat) (h20 : n ≤ 20) (g : Nat → Nat → Bool) (a b : Nat) (ha : a < n) (hb : b < n) :
    CallOK Try.prog 38 [.list ((tabF n g).map tabRowF), .int .i64 (a : Int), .int .i64 (b : Int)] [] (.int .i64 (meetI n g a b)) [] := by
  have hbest := best_algebra n h20 g 46 47 [.iptr [.list ((tabF n g).map tabRowF)], .iptr [.int .i64 (a : Int)], .iptr [.int .i64 (b : Int)]] [.iptr [.list ((tabF n g).map tabRowF)]] (fun c => g c a && g c b) (fun c d => g d c) (fun ρ => by simp) (fun ρ => by simp) (by simp) (by simp)
    (fun c hc s => CallOK.frame (meet1_algebra n g a b c ha hb hc) (by simp [closed_agg, closed_fn, flatL_fn])) (fun c d hc hd s => CallOK.frame (meet2_algebra n g c d hc hd) (by simp [closed_agg, closed_fn, flatL_fn]))
  refine op38 ?_
  (((try simp (implicitDefEqProofs := false)); (try simp (implicitDefEqProofs := false) (disch := first | assumption | (try simp only [lens]); omega -splitDisjunctions))); all_goals try (repeat' ((first | ((with_reducible first | refine And.intro ?_ ?_ | refine Exists.intro ?_ ?_); first | omega | (simp <;> omega)) | (with_reducible refine spl (And.intro ?_ ?_) <;> intro _) | (refine CL.see (hbest) ?_ ?_ ?_; (focus (first | (simp; done) | (simp [scn]; done))); (focus (simp [flats]; done))) | (refine CD.see (hbest) ?_ ?_ ?_; (focus (first | (simp; done) | (simp [scn]; done))); (focus (simp [flats]; done)))) <;> ((try simp (implicitDefEqProofs := false)); (try simp (implicitDefEqProofs := false) (disch := first | assumption | (try simp only [lens]); omega -splitDisjunctions))))))
  all_goals rfl
end Go.Proofs.Ythnobaacfjihcaa
