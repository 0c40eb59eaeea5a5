/-
  modal: (frame).all, Shape.
-/
import Derived.Test.YtbmpmmbcfabeeaaQTm
namespace Go.Proofs.Ytbmpmmbcfabeeaa
open Go Go.Pv
set_option linter.unusedVariables false
set_option linter.unusedSimpArgs false
set_option maxRecDepth 100000
set_option maxHeartbeats 4000000

def rowF (n : Nat) (g : Nat → Nat → Bool) (u : Nat) : List Bool := (List.range n).map (g u)
@[simp] theorem rowF_length {n u : Nat} {g : Nat → Nat → Bool} : (rowF n g u).length = n := by simp [rowF]
theorem rowF_get {n u v : Nat} {g : Nat → Nat → Bool} (h : v < (rowF n g u).length) : (rowF n g u)[v] = g u v := by simp [rowF]
def tabF (n : Nat) (g : Nat → Nat → Bool) : List (List Bool) := (List.range n).map (rowF n g)
@[simp] theorem tabF_length {n : Nat} {g : Nat → Nat → Bool} : (tabF n g).length = n := by simp [tabF]
theorem tabF_get {n u : Nat} {g : Nat → Nat → Bool} (h : u < (tabF n g).length) : (tabF n g)[u] = rowF n g u := by simp [tabF]
def frV (n : Nat) (g : Nat → Nat → Bool) : PV := .list ((tabF n g).map tabRow)
def x96_L0 : XC := .seq (.reg [⟨some 9,.binOp .lss 3 (.tmp 8) (.tmp 7) 3,none⟩]) (.seq (.cond (.tmp 9) (.skip) (.exit 0)) (.seq (.block 1 (.seq (.reg [⟨some 10,.move (.tmp 8),none⟩,⟨some 5,.assign (.tmp 10),none⟩]) (.seq (.reg [⟨some 11,.move (.tmp 1),none⟩,⟨some 12,.move (.tmp 5),none⟩,⟨some 13,.call ⟨.value (.tmp 11),#[.tmp 12],#[3]⟩,none⟩,⟨some 14,.unOp .not 4 (.tmp 13),none⟩]) (.cond (.tmp 14) (.seq (.reg [⟨some 4,.assign (.const (.bool false)),none⟩]) (.ret)) (.skip))))) (.reg [⟨some 15,.binOp .add 3 (.tmp 8) (.const (.int .i64 1)) 3,none⟩,⟨some 8,.move (.tmp 15),none⟩])))
def x96 : XC := .seq (.reg [⟨some 4,.assign (.const (.bool false)),none⟩]) (.seq (.seq (.reg [⟨some 6,.move (.tmp 0),none⟩,⟨some 7,.call ⟨.builtin .len,#[.tmp 6],#[121]⟩,none⟩,⟨some 8,.move (.const (.int .i64 0)),none⟩]) (.bloop 0 x96_L0)) (.seq (.reg [⟨some 4,.assign (.const (.bool true)),none⟩]) (.ret)))
@[simp] theorem x96_s {C : WC} {e : AE} {s : Store} {K : KS} : type_of% (@X_at C e s K _ _ x96_L0.eq_1) ∧ type_of% (@X_at C e s K _ _ x96.eq_1) := ⟨X_at x96_L0.eq_1, X_at x96.eq_1⟩
def an96 : Ann := ⟨[], [(0, [], [1, 7, 8], [4])], []⟩
def cx96 (P : Program) (m : Nat) : WC := ⟨P, m, an96⟩
@[simp] theorem cx96_a {P : Program} {m : Nat} : (cx96 P m).P = P ∧ (cx96 P m).m = m ∧ (cx96 P m).A.loopOf 0 = ([], [1, 7, 8], [4]) := ⟨rfl, rfl, rfl⟩
instance {P : Program} {m f : Nat} [h : EnT P f] : EnT (cx96 P m).P f := h
theorem chk96 : ∀ c, Try.f96.body = some c → chkC Try.f96.ntmps an96 c = true := by intro c h; obtain rfl := Option.some.inj h; decide +kernel
theorem op96 {args : List PV} {v : PV} (h : X (cx96 Try.prog 0) x96 (argsA 0 args) [] (.fin [.tmp 4] fun v1 s1 => deref s1 6 v1 = v)) (hl : args.length ≤ Try.f96.ntmps := by rw [Try.ntmps96]; simp) : CallOK Try.prog 96 args [] v [] :=
  callX (m := 0) (cx96 Try.prog 0) x96 rfl rfl (by kernel_rfl) Try.func96 rfl rfl hl mixed (chk96 _ rfl) (by rw [Try.results96]; exact h)

theorem all_modal (n : Nat) (hn : n ≤ 1000) (g : Nat → Nat → Bool) (f1 : Nat) [EnT Try.prog f1] (y1 : List PV) (is : Nat → Bool)
    (r1 : ∀ ρ, y1.map (renN ρ 3) = y1) (q1 : y1.flatMap (refsN 3) = [])
    (h1 : ∀ u, u < n → ∀ s, CallOK Try.prog f1 (.int .i64 (u : Int) :: y1) s (.bool (is u)) s) :
    CallOK Try.prog 96 [frV n g, .fn (.func f1) [] y1] [] (.bool ((List.range n).all is)) [] := by
  unfold frV
  refine op96 ?_
  (((try simp (implicitDefEqProofs := false) [r1, q1]); (try simp (implicitDefEqProofs := false) (disch := first | assumption | (try simp only [lens]); omega -splitDisjunctions) [r1, q1])); all_goals try (repeat' ((first | ((with_reducible first | refine And.intro ?_ ?_ | refine Exists.intro ?_ ?_); first | omega | (simp <;> omega)) | (with_reducible refine spl (And.intro ?_ ?_) <;> intro _)) <;> ((try simp (implicitDefEqProofs := false) [r1, q1]); (try simp (implicitDefEqProofs := false) (disch := first | assumption | (try simp only [lens]); omega -splitDisjunctions) [r1, q1])))))
  refine W_of fun Q hQ => ?_
  have main : ∀ k a, a + k = n → (List.range n).all is = ((List.range n).drop a).all is → Q [(1, .fn (.func f1) [] y1), (7, .int .i64 (n : Int)), (8, .int .i64 (a : Int))] [] := by
    intro k
    induction k with
    | zero =>
      intro a ha hb
      rw [List.drop_of_length_le (by simp; omega)] at hb
      apply hQ
      rw [hb]
      (((try simp (implicitDefEqProofs := false) [r1, q1]); (try simp (implicitDefEqProofs := false) (disch := first | assumption | (try simp only [lens]); omega -splitDisjunctions) [r1, q1])); all_goals try (repeat' ((first | ((with_reducible first | refine And.intro ?_ ?_ | refine Exists.intro ?_ ?_); first | omega | (simp <;> omega)) | (with_reducible refine spl (And.intro ?_ ?_) <;> intro _)) <;> ((try simp (implicitDefEqProofs := false) [r1, q1]); (try simp (implicitDefEqProofs := false) (disch := first | assumption | (try simp only [lens]); omega -splitDisjunctions) [r1, q1])))))
    | succ k ih =>
      intro a ha hb
      have han : a < n := by omega
      have ih := ih (a + 1) (by omega)
      rw [List.drop_eq_getElem_cons (by simpa using han), List.all_cons, List.getElem_range] at hb
      generalize ((List.range n).drop (a + 1)).all is = A at ih hb
      have hc := h1 a han
      generalize is a = x at hb hc
      apply hQ
      clear hQ
      cases x with
      | false =>
        rw [Bool.false_and] at hb
        rw [hb]
        (((try simp (implicitDefEqProofs := false) [r1, q1]); (try simp (implicitDefEqProofs := false) (disch := first | assumption | (try simp only [lens]); omega -splitDisjunctions) [r1, q1])); all_goals try (repeat' ((first | ((with_reducible first | refine And.intro ?_ ?_ | refine Exists.intro ?_ ?_); first | omega | (simp <;> omega)) | (with_reducible refine spl (And.intro ?_ ?_) <;> intro _) | (refine CL.of (hc _) ?_) | (refine CD.of (hc _) ?_) | (refine CM.of (hc) ?_) | (refine CT.ev (hc) ?_)) <;> ((try simp (implicitDefEqProofs := false) [r1, q1]); (try simp (implicitDefEqProofs := false) (disch := first | assumption | (try simp only [lens]); omega -splitDisjunctions) [r1, q1])))))
      | true =>
        rw [Bool.true_and] at hb
        have ih := ih hb
        (((try simp (implicitDefEqProofs := false) [r1, q1]); (try simp (implicitDefEqProofs := false) (disch := first | assumption | (try simp only [lens]); omega -splitDisjunctions) [r1, q1])); all_goals try (repeat' ((first | ((with_reducible first | refine And.intro ?_ ?_ | refine Exists.intro ?_ ?_); first | omega | (simp <;> omega)) | (with_reducible refine spl (And.intro ?_ ?_) <;> intro _) | (refine CL.of (hc _) ?_) | (refine CD.of (hc _) ?_) | (refine CM.of (hc) ?_) | (refine CT.ev (hc) ?_)) <;> ((try simp (implicitDefEqProofs := false) [r1, q1]); (try simp (implicitDefEqProofs := false) (disch := first | assumption | (try simp only [lens]); omega -splitDisjunctions) [r1, q1])))))
        all_goals first | exact ih | (refine at2 ih ?_ ?_ <;> simp; done) | (exfalso; first | omega | (simp_all; done) | (simp_all; omega))
  refine at2 (main _ 0 (Nat.zero_add _) rfl) ?_ ?_ <;> simp [r1]
def x99 : XC := .seq (.reg [⟨some 5,.assign (.const (.bool false)),none⟩]) (.seq (.reg [⟨some 6,.load 126 (.tmp 1),none⟩,⟨some 7,.load 3 (.tmp 2),none⟩,⟨some 8,.load 3 (.tmp 3),none⟩,⟨some 9,.move (.tmp 0),none⟩,⟨some 10,.call ⟨.value (.tmp 6),#[.tmp 7,.tmp 8,.tmp 9],#[3,3,3]⟩,none⟩,⟨some 5,.assign (.tmp 10),none⟩]) (.ret))
@[simp] theorem x99_s {C : WC} {e : AE} {s : Store} {K : KS} : type_of% (@X_at C e s K _ _ x99.eq_1) := X_at x99.eq_1
def an99 : Ann := ⟨[], [], []⟩
def cx99 (P : Program) (m : Nat) : WC := ⟨P, m, an99⟩
@[simp] theorem cx99_a {P : Program} {m : Nat} : (cx99 P m).P = P ∧ (cx99 P m).m = m := ⟨rfl, rfl⟩
instance {P : Program} {m f : Nat} [h : EnT P f] : EnT (cx99 P m).P f := h
theorem chk99 : ∀ c, Try.f99.body = some c → chkC Try.f99.ntmps an99 c = true := by intro c h; obtain rfl := Option.some.inj h; decide +kernel
theorem op99 {args : List PV} {v : PV} (h : X (cx99 Try.prog 0) x99 (argsA 0 args) [] (.fin [.tmp 5] fun v1 s1 => deref s1 6 v1 = v)) (hl : args.length ≤ Try.f99.ntmps := by rw [Try.ntmps99]; simp) : CallOK Try.prog 99 args [] v [] :=
  callX (m := 0) (cx99 Try.prog 0) x99 rfl rfl (by kernel_rfl) Try.func99 rfl rfl hl mixed (chk99 _ rfl) (by rw [Try.results99]; exact h)

theorem Shape1111_modal (n : Nat) (g : Nat → Nat → Bool) (f1 : Nat) [EnT Try.prog f1] (y1 : List PV) (is : Nat → Nat → Nat → Bool) (u v w : Nat)
    (r1 : ∀ ρ, y1.map (renN ρ 3) = y1) (q1 : y1.flatMap (refsN 3) = [])
    (h1 : ∀ s, CallOK Try.prog f1 (.int .i64 (u : Int) :: .int .i64 (v : Int) :: .int .i64 (w : Int) :: y1) s (.bool (is u v w)) s) :
    CallOK Try.prog 99 [.int .i64 (w : Int), .iptr [.fn (.func f1) [] y1], .iptr [.int .i64 (u : Int)], .iptr [.int .i64 (v : Int)]] [] (.bool (is u v w)) [] := by
  refine op99 ?_
  (((try simp (implicitDefEqProofs := false) [r1, q1]); (try simp (implicitDefEqProofs := false) (disch := first | assumption | (try simp only [lens]); omega -splitDisjunctions) [r1, q1])); all_goals try (repeat' ((first | ((with_reducible first | refine And.intro ?_ ?_ | refine Exists.intro ?_ ?_); first | omega | (simp <;> omega)) | (with_reducible refine spl (And.intro ?_ ?_) <;> intro _) | (refine CL.of (h1 _) ?_) | (refine CD.of (h1 _) ?_) | (refine CM.of (h1) ?_) | (refine CT.ev (h1) ?_)) <;> ((try simp (implicitDefEqProofs := false) [r1, q1]); (try simp (implicitDefEqProofs := false) (disch := first | assumption | (try simp only [lens]); omega -splitDisjunctions) [r1, q1])))))
def x98 : XC := .seq (.reg [⟨some 4,.box 3 (.tmp 0),none⟩,⟨some 5,.assign (.const (.bool false)),none⟩]) (.seq (.drawn 1 [⟨some 6,.load 121 (.tmp 1),none⟩,⟨some 7,.load 3 (.tmp 2),none⟩,⟨some 8,.indexAddr 121 (.tmp 6) (.tmp 7),none⟩,⟨some 9,.load 46 (.tmp 8),none⟩,⟨some 10,.load 3 (.tmp 4),none⟩,⟨some 11,.indexAddr 46 (.tmp 9) (.tmp 10),none⟩,⟨some 12,.load 4 (.tmp 11),none⟩,⟨some 13,.unOp .not 4 (.tmp 12),none⟩,⟨some 14,.move (.tmp 13),none⟩,⟨some 15,.load 121 (.tmp 1),some (some 14,false)⟩,⟨some 16,.makeFunc (.func 99) #[] #[.tmp 3,.tmp 2,.tmp 4],some (some 14,false)⟩,⟨some 17,.call ⟨.value (.func 96),#[.tmp 15,.tmp 16],#[121,128]⟩,some (some 14,false)⟩,⟨some 18,.pick (.tmp 14) (.const (.bool true)) (.tmp 17),none⟩,⟨some 5,.assign (.tmp 18),none⟩]) (.ret))
@[simp] theorem x98_s {C : WC} {e : AE} {s : Store} {K : KS} : type_of% (@X_at C e s K _ _ x98.eq_1) := X_at x98.eq_1
def an98 : Ann := ⟨[(1, .mix 11)], [], []⟩
def cx98 (P : Program) (m : Nat) : WC := ⟨P, m, an98⟩
@[simp] theorem cx98_a {P : Program} {m : Nat} : (cx98 P m).P = P ∧ (cx98 P m).m = m ∧ (cx98 P m).A.clsOf 1 = .mix 11 ∧ (cx98 P m).A.frzOf 1 = [] := ⟨rfl, rfl, rfl, rfl⟩
instance {P : Program} {m f : Nat} [h : EnT P f] : EnT (cx98 P m).P f := h
theorem chk98 : ∀ c, Try.f98.body = some c → chkC Try.f98.ntmps an98 c = true := by intro c h; obtain rfl := Option.some.inj h; decide +kernel
theorem op98 {args : List PV} {v : PV} (h : X (cx98 Try.prog 0) x98 (argsA 0 args) [] (.fin [.tmp 5] fun v1 s1 => deref s1 6 v1 = v)) (hl : args.length ≤ Try.f98.ntmps := by rw [Try.ntmps98]; simp) : CallOK Try.prog 98 args [] v [] :=
  callX (m := 0) (cx98 Try.prog 0) x98 rfl rfl (by kernel_rfl) Try.func98 rfl rfl hl mixed (chk98 _ rfl) (by rw [Try.results98]; exact h)

theorem Shape111_modal (n : Nat) (hn : n ≤ 1000) (g : Nat → Nat → Bool) (f1 : Nat) [EnT Try.prog f1] (y1 : List PV) (is : Nat → Nat → Nat → Bool) (u v : Nat) (hu : u < n) (hv : v < n)
    (r1 : ∀ ρ, y1.map (renN ρ 3) = y1) (q1 : y1.flatMap (refsN 3) = [])
    (h1 : ∀ u v w, u < n → v < n → w < n → ∀ s, CallOK Try.prog f1 (.int .i64 (u : Int) :: .int .i64 (v : Int) :: .int .i64 (w : Int) :: y1) s (.bool (is u v w)) s) :
    CallOK Try.prog 98 [.int .i64 (v : Int), .iptr [frV n g], .iptr [.int .i64 (u : Int)], .iptr [.fn (.func f1) [] y1]] [] (.bool (!g u v || (List.range n).all (is u v))) [] := by
  have ha := all_modal n hn g 99 [.iptr [.fn (.func f1) [] y1], .iptr [.int .i64 (u : Int)], .iptr [.int .i64 (v : Int)]] (is u v) (fun ρ => by simp [r1]) (by simp [q1])
    (fun w hw s => CallOK.frame (Shape1111_modal n g f1 y1 is u v w r1 q1 (h1 u v w hu hv hw)) (by simp [closed_agg, closed_fn, closed_iptr, flatL_fn]))
  generalize (List.range n).all (is u v) = x at ha ⊢
  simp only [frV] at ha
  refine op98 ?_
  cases hg : g u v with
  | false =>
    (((try simp (implicitDefEqProofs := false) [frV, hu, hv, hg, tabRow, tabF_get, rowF_get, r1, q1]); (try simp (implicitDefEqProofs := false) (disch := first | assumption | (try simp only [lens]); omega -splitDisjunctions) [frV, hu, hv, hg, tabRow, tabF_get, rowF_get, r1, q1])); all_goals try (repeat' ((first | ((with_reducible first | refine And.intro ?_ ?_ | refine Exists.intro ?_ ?_); first | omega | (simp <;> omega)) | (with_reducible refine spl (And.intro ?_ ?_) <;> intro _)) <;> ((try simp (implicitDefEqProofs := false) [frV, hu, hv, hg, tabRow, tabF_get, rowF_get, r1, q1]); (try simp (implicitDefEqProofs := false) (disch := first | assumption | (try simp only [lens]); omega -splitDisjunctions) [frV, hu, hv, hg, tabRow, tabF_get, rowF_get, r1, q1])))))
  | true =>
    (((try simp (implicitDefEqProofs := false) [frV, hu, hv, hg, tabRow, tabF_get, rowF_get, r1, q1]); (try simp (implicitDefEqProofs := false) (disch := first | assumption | (try simp only [lens]); omega -splitDisjunctions) [frV, hu, hv, hg, tabRow, tabF_get, rowF_get, r1, q1])); all_goals try (repeat' ((first | ((with_reducible first | refine And.intro ?_ ?_ | refine Exists.intro ?_ ?_); first | omega | (simp <;> omega)) | (with_reducible refine spl (And.intro ?_ ?_) <;> intro _) | (refine CL.see (ha) ?_ ?_ ?_; (focus (first | (simp; done) | (simp [scn]; done))); (focus (simp [flats]; done))) | (refine CD.see (ha) ?_ ?_ ?_; (focus (first | (simp; done) | (simp [scn]; done))); (focus (simp [flats]; done)))) <;> ((try simp (implicitDefEqProofs := false) [frV, hu, hv, hg, tabRow, tabF_get, rowF_get, r1, q1]); (try simp (implicitDefEqProofs := false) (disch := first | assumption | (try simp only [lens]); omega -splitDisjunctions) [frV, hu, hv, hg, tabRow, tabF_get, rowF_get, r1, q1])))))
def x97 : XC := .seq (.reg [⟨some 3,.box 3 (.tmp 0),none⟩,⟨some 4,.assign (.const (.bool false)),none⟩]) (.seq (.reg [⟨some 5,.load 121 (.tmp 1),none⟩,⟨some 6,.makeFunc (.func 98) #[] #[.tmp 1,.tmp 3,.tmp 2],none⟩,⟨some 7,.call ⟨.value (.func 96),#[.tmp 5,.tmp 6],#[121,128]⟩,none⟩,⟨some 4,.assign (.tmp 7),none⟩]) (.ret))
@[simp] theorem x97_s {C : WC} {e : AE} {s : Store} {K : KS} : type_of% (@X_at C e s K _ _ x97.eq_1) := X_at x97.eq_1
def an97 : Ann := ⟨[], [], []⟩
def cx97 (P : Program) (m : Nat) : WC := ⟨P, m, an97⟩
@[simp] theorem cx97_a {P : Program} {m : Nat} : (cx97 P m).P = P ∧ (cx97 P m).m = m := ⟨rfl, rfl⟩
instance {P : Program} {m f : Nat} [h : EnT P f] : EnT (cx97 P m).P f := h
theorem chk97 : ∀ c, Try.f97.body = some c → chkC Try.f97.ntmps an97 c = true := by intro c h; obtain rfl := Option.some.inj h; decide +kernel
theorem op97 {args : List PV} {v : PV} (h : X (cx97 Try.prog 0) x97 (argsA 0 args) [] (.fin [.tmp 4] fun v1 s1 => deref s1 6 v1 = v)) (hl : args.length ≤ Try.f97.ntmps := by rw [Try.ntmps97]; simp) : CallOK Try.prog 97 args [] v [] :=
  callX (m := 0) (cx97 Try.prog 0) x97 rfl rfl (by kernel_rfl) Try.func97 rfl rfl hl mixed (chk97 _ rfl) (by rw [Try.results97]; exact h)

theorem Shape11_modal (n : Nat) (hn : n ≤ 1000) (g : Nat → Nat → Bool) (f1 : Nat) [EnT Try.prog f1] (y1 : List PV) (is : Nat → Nat → Nat → Bool) (u : Nat) (hu : u < n)
    (r1 : ∀ ρ, y1.map (renN ρ 3) = y1) (q1 : y1.flatMap (refsN 3) = [])
    (h1 : ∀ u v w, u < n → v < n → w < n → ∀ s, CallOK Try.prog f1 (.int .i64 (u : Int) :: .int .i64 (v : Int) :: .int .i64 (w : Int) :: y1) s (.bool (is u v w)) s) :
    CallOK Try.prog 97 [.int .i64 (u : Int), .iptr [frV n g], .iptr [.fn (.func f1) [] y1]] [] (.bool ((List.range n).all fun v => !g u v || (List.range n).all (is u v))) [] := by
  have ha := all_modal n hn g 98 [.iptr [frV n g], .iptr [.int .i64 (u : Int)], .iptr [.fn (.func f1) [] y1]] (fun v => !g u v || (List.range n).all (is u v)) (fun ρ => by simp [r1]) (by simp [q1])
    (fun v hv s => CallOK.frame (Shape111_modal n hn g f1 y1 is u v hu hv r1 q1 h1) (by simp [closed_agg, closed_fn, closed_iptr, flatL_fn]))
  generalize ((List.range n).all fun v => !g u v || (List.range n).all (is u v)) = x at ha ⊢
  simp only [frV] at ha
  refine op97 ?_
  (((try simp (implicitDefEqProofs := false) [frV, r1, q1]); (try simp (implicitDefEqProofs := false) (disch := first | assumption | (try simp only [lens]); omega -splitDisjunctions) [frV, r1, q1])); all_goals try (repeat' ((first | ((with_reducible first | refine And.intro ?_ ?_ | refine Exists.intro ?_ ?_); first | omega | (simp <;> omega)) | (with_reducible refine spl (And.intro ?_ ?_) <;> intro _) | (refine CL.see (ha) ?_ ?_ ?_; (focus (first | (simp; done) | (simp [scn]; done))); (focus (simp [flats]; done))) | (refine CD.see (ha) ?_ ?_ ?_; (focus (first | (simp; done) | (simp [scn]; done))); (focus (simp [flats]; done)))) <;> ((try simp (implicitDefEqProofs := false) [frV, r1, q1]); (try simp (implicitDefEqProofs := false) (disch := first | assumption | (try simp only [lens]); omega -splitDisjunctions) [frV, r1, q1])))))
def steps (n : Nat) (g : Nat → Nat → Bool) (is : Nat → Nat → Nat → Bool) : Bool := (List.range n).all fun u => (List.range n).all fun v => !g u v || (List.range n).all (is u v)
def x95 : XC := .seq (.reg [⟨some 2,.box 126 (.tmp 0),none⟩,⟨some 3,.assign (.const (.bool false)),none⟩]) (.seq (.reg [⟨some 4,.load 121 (.tmp 1),none⟩,⟨some 5,.makeFunc (.func 97) #[] #[.tmp 1,.tmp 2],none⟩,⟨some 6,.call ⟨.value (.func 96),#[.tmp 4,.tmp 5],#[121,128]⟩,none⟩,⟨some 3,.assign (.tmp 6),none⟩]) (.ret))
@[simp] theorem x95_s {C : WC} {e : AE} {s : Store} {K : KS} : type_of% (@X_at C e s K _ _ x95.eq_1) := X_at x95.eq_1
def an95 : Ann := ⟨[], [], []⟩
def cx95 (P : Program) (m : Nat) : WC := ⟨P, m, an95⟩
@[simp] theorem cx95_a {P : Program} {m : Nat} : (cx95 P m).P = P ∧ (cx95 P m).m = m := ⟨rfl, rfl⟩
instance {P : Program} {m f : Nat} [h : EnT P f] : EnT (cx95 P m).P f := h
theorem chk95 : ∀ c, Try.f95.body = some c → chkC Try.f95.ntmps an95 c = true := by intro c h; obtain rfl := Option.some.inj h; decide +kernel
theorem op95 {args : List PV} {v : PV} (h : X (cx95 Try.prog 0) x95 (argsA 0 args) [] (.fin [.tmp 3] fun v1 s1 => deref s1 6 v1 = v)) (hl : args.length ≤ Try.f95.ntmps := by rw [Try.ntmps95]; simp) : CallOK Try.prog 95 args [] v [] :=
  callX (m := 0) (cx95 Try.prog 0) x95 rfl rfl (by kernel_rfl) Try.func95 rfl rfl hl mixed (chk95 _ rfl) (by rw [Try.results95]; exact h)

theorem Shape1_modal (n : Nat) (hn : n ≤ 1000) (g : Nat → Nat → Bool) (f1 : Nat) [EnT Try.prog f1] (y1 : List PV) (is : Nat → Nat → Nat → Bool)
    (r1 : ∀ ρ, y1.map (renN ρ 3) = y1) (q1 : y1.flatMap (refsN 3) = []) (d1 : ∀ s, y1.map (deref s 3) = y1)
    (h1 : ∀ u v w, u < n → v < n → w < n → ∀ s, CallOK Try.prog f1 (.int .i64 (u : Int) :: .int .i64 (v : Int) :: .int .i64 (w : Int) :: y1) s (.bool (is u v w)) s) :
    CallOK Try.prog 95 [.fn (.func f1) [] y1, .iptr [frV n g]] [] (.bool (steps n g is)) [] := by
  have ha := all_modal n hn g 97 [.iptr [frV n g], .iptr [.fn (.func f1) [] y1]] (fun u => (List.range n).all fun v => !g u v || (List.range n).all (is u v)) (fun ρ => by simp [r1]) (by simp [q1])
    (fun u hu s => CallOK.frame (Shape11_modal n hn g f1 y1 is u hu r1 q1 h1) (by simp [closed_agg, closed_fn, closed_iptr, flatL_fn]))
  unfold steps
  generalize ((List.range n).all fun u => (List.range n).all fun v => !g u v || (List.range n).all (is u v)) = x at ha ⊢
  simp only [frV] at ha
  refine op95 ?_
  (((try simp (implicitDefEqProofs := false) [frV, r1, q1, d1]); (try simp (implicitDefEqProofs := false) (disch := first | assumption | (try simp only [lens]); omega -splitDisjunctions) [frV, r1, q1, d1])); all_goals try (repeat' ((first | ((with_reducible first | refine And.intro ?_ ?_ | refine Exists.intro ?_ ?_); first | omega | (simp <;> omega)) | (with_reducible refine spl (And.intro ?_ ?_) <;> intro _)) <;> ((try simp (implicitDefEqProofs := false) [frV, r1, q1, d1]); (try simp (implicitDefEqProofs := false) (disch := first | assumption | (try simp only [lens]); omega -splitDisjunctions) [frV, r1, q1, d1])))))
  refine CL.see ha ?_ ?_ ?_
  · simp [d1]
  · exact flat_bool _
  (((try simp (implicitDefEqProofs := false) [frV, r1, q1, d1]); (try simp (implicitDefEqProofs := false) (disch := first | assumption | (try simp only [lens]); omega -splitDisjunctions) [frV, r1, q1, d1])); all_goals try (repeat' ((first | ((with_reducible first | refine And.intro ?_ ?_ | refine Exists.intro ?_ ?_); first | omega | (simp <;> omega)) | (with_reducible refine spl (And.intro ?_ ?_) <;> intro _)) <;> ((try simp (implicitDefEqProofs := false) [frV, r1, q1, d1]); (try simp (implicitDefEqProofs := false) (disch := first | assumption | (try simp only [lens]); omega -splitDisjunctions) [frV, r1, q1, d1])))))
def x100 : XC := .seq (.reg [⟨some 7,.assign (.const (.bool false)),none⟩]) (.seq (.reg [⟨some 8,.load 121 (.tmp 3),none⟩,⟨some 9,.move (.tmp 1),none⟩,⟨some 10,.indexAddr 121 (.tmp 8) (.tmp 9),none⟩,⟨some 11,.load 46 (.tmp 10),none⟩,⟨some 12,.move (.tmp 2),none⟩,⟨some 13,.indexAddr 46 (.tmp 11) (.tmp 12),none⟩,⟨some 14,.load 4 (.tmp 13),none⟩,⟨some 15,.unOp .not 4 (.tmp 14),none⟩,⟨some 16,.move (.tmp 15),none⟩,⟨some 17,.load 121 (.tmp 3),some (some 16,false)⟩,⟨some 18,.move (.tmp 0),some (some 16,false)⟩,⟨some 19,.indexAddr 121 (.tmp 17) (.tmp 18),some (some 16,false)⟩,⟨some 20,.load 46 (.tmp 19),some (some 16,false)⟩,⟨some 21,.move (.tmp 2),some (some 16,false)⟩,⟨some 22,.indexAddr 46 (.tmp 20) (.tmp 21),some (some 16,false)⟩,⟨some 23,.load 4 (.tmp 22),some (some 16,false)⟩,⟨some 24,.pick (.tmp 16) (.const (.bool true)) (.tmp 23),none⟩,⟨some 7,.assign (.tmp 24),none⟩]) (.ret))
@[simp] theorem x100_s {C : WC} {e : AE} {s : Store} {K : KS} : type_of% (@X_at C e s K _ _ x100.eq_1) := X_at x100.eq_1
def an100 : Ann := ⟨[], [], []⟩
def cx100 (P : Program) (m : Nat) : WC := ⟨P, m, an100⟩
@[simp] theorem cx100_a {P : Program} {m : Nat} : (cx100 P m).P = P ∧ (cx100 P m).m = m := ⟨rfl, rfl⟩
instance {P : Program} {m f : Nat} [h : EnT P f] : EnT (cx100 P m).P f := h
theorem chk100 : ∀ c, Try.f100.body = some c → chkC Try.f100.ntmps an100 c = true := by intro c h; obtain rfl := Option.some.inj h; decide +kernel
theorem op100 {args : List PV} {v : PV} (h : X (cx100 Try.prog 0) x100 (argsA 0 args) [] (.fin [.tmp 7] fun v1 s1 => deref s1 6 v1 = v)) (hl : args.length ≤ Try.f100.ntmps := by rw [Try.ntmps100]; simp) : CallOK Try.prog 100 args [] v [] :=
  callX (m := 0) (cx100 Try.prog 0) x100 rfl rfl (by kernel_rfl) Try.func100 rfl rfl hl mixed (chk100 _ rfl) (by rw [Try.results100]; exact h)

theorem Shape2_modal (n : Nat) (g : Nat → Nat → Bool) (u v w : Nat) (hu : u < n) (hv : v < n) (hw : w < n) :
    CallOK Try.prog 100 [.int .i64 (u : Int), .int .i64 (v : Int), .int .i64 (w : Int), .iptr [frV n g]] [] (.bool (!g v w || g u w)) [] := by
  refine op100 ?_
  cases hg : g v w with
  | false => (((try simp (implicitDefEqProofs := false) [frV, hu, hv, hw, hg, tabRow, tabF_get, rowF_get]); (try simp (implicitDefEqProofs := false) (disch := first | assumption | (try simp only [lens]); omega -splitDisjunctions) [frV, hu, hv, hw, hg, tabRow, tabF_get, rowF_get])); all_goals try (repeat' ((first | ((with_reducible first | refine And.intro ?_ ?_ | refine Exists.intro ?_ ?_); first | omega | (simp <;> omega)) | (with_reducible refine spl (And.intro ?_ ?_) <;> intro _)) <;> ((try simp (implicitDefEqProofs := false) [frV, hu, hv, hw, hg, tabRow, tabF_get, rowF_get]); (try simp (implicitDefEqProofs := false) (disch := first | assumption | (try simp only [lens]); omega -splitDisjunctions) [frV, hu, hv, hw, hg, tabRow, tabF_get, rowF_get])))))
  | true => (((try simp (implicitDefEqProofs := false) [frV, hu, hv, hw, hg, tabRow, tabF_get, rowF_get]); (try simp (implicitDefEqProofs := false) (disch := first | assumption | (try simp only [lens]); omega -splitDisjunctions) [frV, hu, hv, hw, hg, tabRow, tabF_get, rowF_get])); all_goals try (repeat' ((first | ((with_reducible first | refine And.intro ?_ ?_ | refine Exists.intro ?_ ?_); first | omega | (simp <;> omega)) | (with_reducible refine spl (And.intro ?_ ?_) <;> intro _)) <;> ((try simp (implicitDefEqProofs := false) [frV, hu, hv, hw, hg, tabRow, tabF_get, rowF_get]); (try simp (implicitDefEqProofs := false) (disch := first | assumption | (try simp only [lens]); omega -splitDisjunctions) [frV, hu, hv, hw, hg, tabRow, tabF_get, rowF_get])))))
def x101 : XC := .seq (.reg [⟨some 3,.assign (.const (.bool false)),none⟩]) (.seq (.reg [⟨some 4,.load 121 (.tmp 1),none⟩,⟨some 5,.move (.tmp 0),none⟩,⟨some 6,.indexAddr 121 (.tmp 4) (.tmp 5),none⟩,⟨some 7,.load 46 (.tmp 6),none⟩,⟨some 8,.move (.tmp 0),none⟩,⟨some 9,.indexAddr 46 (.tmp 7) (.tmp 8),none⟩,⟨some 10,.load 4 (.tmp 9),none⟩,⟨some 3,.assign (.tmp 10),none⟩]) (.ret))
@[simp] theorem x101_s {C : WC} {e : AE} {s : Store} {K : KS} : type_of% (@X_at C e s K _ _ x101.eq_1) := X_at x101.eq_1
def an101 : Ann := ⟨[], [], []⟩
def cx101 (P : Program) (m : Nat) : WC := ⟨P, m, an101⟩
@[simp] theorem cx101_a {P : Program} {m : Nat} : (cx101 P m).P = P ∧ (cx101 P m).m = m := ⟨rfl, rfl⟩
instance {P : Program} {m f : Nat} [h : EnT P f] : EnT (cx101 P m).P f := h
theorem chk101 : ∀ c, Try.f101.body = some c → chkC Try.f101.ntmps an101 c = true := by intro c h; obtain rfl := Option.some.inj h; decide +kernel
theorem op101 {args : List PV} {v : PV} (h : X (cx101 Try.prog 0) x101 (argsA 0 args) [] (.fin [.tmp 3] fun v1 s1 => deref s1 6 v1 = v)) (hl : args.length ≤ Try.f101.ntmps := by rw [Try.ntmps101]; simp) : CallOK Try.prog 101 args [] v [] :=
  callX (m := 0) (cx101 Try.prog 0) x101 rfl rfl (by kernel_rfl) Try.func101 rfl rfl hl mixed (chk101 _ rfl) (by rw [Try.results101]; exact h)

theorem Shape3_modal (n : Nat) (g : Nat → Nat → Bool) (u : Nat) (hu : u < n) :
    CallOK Try.prog 101 [.int .i64 (u : Int), .iptr [frV n g]] [] (.bool (g u u)) [] := by
  refine op101 ?_
  (((try simp (implicitDefEqProofs := false) [frV, hu, tabRow, tabF_get, rowF_get]); (try simp (implicitDefEqProofs := false) (disch := first | assumption | (try simp only [lens]); omega -splitDisjunctions) [frV, hu, tabRow, tabF_get, rowF_get])); all_goals try (repeat' ((first | ((with_reducible first | refine And.intro ?_ ?_ | refine Exists.intro ?_ ?_); first | omega | (simp <;> omega)) | (with_reducible refine spl (And.intro ?_ ?_) <;> intro _)) <;> ((try simp (implicitDefEqProofs := false) [frV, hu, tabRow, tabF_get, rowF_get]); (try simp (implicitDefEqProofs := false) (disch := first | assumption | (try simp only [lens]); omega -splitDisjunctions) [frV, hu, tabRow, tabF_get, rowF_get])))))
def x102 : XC := .seq (.reg [⟨some 7,.assign (.const (.bool false)),none⟩]) (.seq (.reg [⟨some 8,.load 121 (.tmp 3),none⟩,⟨some 9,.move (.tmp 1),none⟩,⟨some 10,.indexAddr 121 (.tmp 8) (.tmp 9),none⟩,⟨some 11,.load 46 (.tmp 10),none⟩,⟨some 12,.move (.tmp 0),none⟩,⟨some 13,.indexAddr 46 (.tmp 11) (.tmp 12),none⟩,⟨some 14,.load 4 (.tmp 13),none⟩,⟨some 7,.assign (.tmp 14),none⟩]) (.ret))
@[simp] theorem x102_s {C : WC} {e : AE} {s : Store} {K : KS} : type_of% (@X_at C e s K _ _ x102.eq_1) := X_at x102.eq_1
def an102 : Ann := ⟨[], [], []⟩
def cx102 (P : Program) (m : Nat) : WC := ⟨P, m, an102⟩
@[simp] theorem cx102_a {P : Program} {m : Nat} : (cx102 P m).P = P ∧ (cx102 P m).m = m := ⟨rfl, rfl⟩
instance {P : Program} {m f : Nat} [h : EnT P f] : EnT (cx102 P m).P f := h
theorem chk102 : ∀ c, Try.f102.body = some c → chkC Try.f102.ntmps an102 c = true := by intro c h; obtain rfl := Option.some.inj h; decide +kernel
theorem op102 {args : List PV} {v : PV} (h : X (cx102 Try.prog 0) x102 (argsA 0 args) [] (.fin [.tmp 7] fun v1 s1 => deref s1 6 v1 = v)) (hl : args.length ≤ Try.f102.ntmps := by rw [Try.ntmps102]; simp) : CallOK Try.prog 102 args [] v [] :=
  callX (m := 0) (cx102 Try.prog 0) x102 rfl rfl (by kernel_rfl) Try.func102 rfl rfl hl mixed (chk102 _ rfl) (by rw [Try.results102]; exact h)

theorem Shape4_modal (n : Nat) (g : Nat → Nat → Bool) (u v w : Nat) (hu : u < n) (hv : v < n) (hw : w < n) :
    CallOK Try.prog 102 [.int .i64 (u : Int), .int .i64 (v : Int), .int .i64 (w : Int), .iptr [frV n g]] [] (.bool (g v u)) [] := by
  refine op102 ?_
  (((try simp (implicitDefEqProofs := false) [frV, hu, hv, hw, tabRow, tabF_get, rowF_get]); (try simp (implicitDefEqProofs := false) (disch := first | assumption | (try simp only [lens]); omega -splitDisjunctions) [frV, hu, hv, hw, tabRow, tabF_get, rowF_get])); all_goals try (repeat' ((first | ((with_reducible first | refine And.intro ?_ ?_ | refine Exists.intro ?_ ?_); first | omega | (simp <;> omega)) | (with_reducible refine spl (And.intro ?_ ?_) <;> intro _)) <;> ((try simp (implicitDefEqProofs := false) [frV, hu, hv, hw, tabRow, tabF_get, rowF_get]); (try simp (implicitDefEqProofs := false) (disch := first | assumption | (try simp only [lens]); omega -splitDisjunctions) [frV, hu, hv, hw, tabRow, tabF_get, rowF_get])))))
def x103 : XC := .seq (.reg [⟨some 7,.assign (.const (.bool false)),none⟩]) (.seq (.reg [⟨some 8,.load 121 (.tmp 3),none⟩,⟨some 9,.move (.tmp 0),none⟩,⟨some 10,.indexAddr 121 (.tmp 8) (.tmp 9),none⟩,⟨some 11,.load 46 (.tmp 10),none⟩,⟨some 12,.move (.tmp 2),none⟩,⟨some 13,.indexAddr 46 (.tmp 11) (.tmp 12),none⟩,⟨some 14,.load 4 (.tmp 13),none⟩,⟨some 15,.unOp .not 4 (.tmp 14),none⟩,⟨some 16,.move (.tmp 15),none⟩,⟨some 17,.load 121 (.tmp 3),some (some 16,false)⟩,⟨some 18,.move (.tmp 1),some (some 16,false)⟩,⟨some 19,.indexAddr 121 (.tmp 17) (.tmp 18),some (some 16,false)⟩,⟨some 20,.load 46 (.tmp 19),some (some 16,false)⟩,⟨some 21,.move (.tmp 2),some (some 16,false)⟩,⟨some 22,.indexAddr 46 (.tmp 20) (.tmp 21),some (some 16,false)⟩,⟨some 23,.load 4 (.tmp 22),some (some 16,false)⟩,⟨some 24,.pick (.tmp 16) (.const (.bool true)) (.tmp 23),none⟩,⟨some 7,.assign (.tmp 24),none⟩]) (.ret))
@[simp] theorem x103_s {C : WC} {e : AE} {s : Store} {K : KS} : type_of% (@X_at C e s K _ _ x103.eq_1) := X_at x103.eq_1
def an103 : Ann := ⟨[], [], []⟩
def cx103 (P : Program) (m : Nat) : WC := ⟨P, m, an103⟩
@[simp] theorem cx103_a {P : Program} {m : Nat} : (cx103 P m).P = P ∧ (cx103 P m).m = m := ⟨rfl, rfl⟩
instance {P : Program} {m f : Nat} [h : EnT P f] : EnT (cx103 P m).P f := h
theorem chk103 : ∀ c, Try.f103.body = some c → chkC Try.f103.ntmps an103 c = true := by intro c h; obtain rfl := Option.some.inj h; decide +kernel
theorem op103 {args : List PV} {v : PV} (h : X (cx103 Try.prog 0) x103 (argsA 0 args) [] (.fin [.tmp 7] fun v1 s1 => deref s1 6 v1 = v)) (hl : args.length ≤ Try.f103.ntmps := by rw [Try.ntmps103]; simp) : CallOK Try.prog 103 args [] v [] :=
  callX (m := 0) (cx103 Try.prog 0) x103 rfl rfl (by kernel_rfl) Try.func103 rfl rfl hl mixed (chk103 _ rfl) (by rw [Try.results103]; exact h)

theorem Shape5_modal (n : Nat) (g : Nat → Nat → Bool) (u v w : Nat) (hu : u < n) (hv : v < n) (hw : w < n) :
    CallOK Try.prog 103 [.int .i64 (u : Int), .int .i64 (v : Int), .int .i64 (w : Int), .iptr [frV n g]] [] (.bool (!g u w || g v w)) [] := by
  refine op103 ?_
  cases hg : g u w with
  | false => (((try simp (implicitDefEqProofs := false) [frV, hu, hv, hw, hg, tabRow, tabF_get, rowF_get]); (try simp (implicitDefEqProofs := false) (disch := first | assumption | (try simp only [lens]); omega -splitDisjunctions) [frV, hu, hv, hw, hg, tabRow, tabF_get, rowF_get])); all_goals try (repeat' ((first | ((with_reducible first | refine And.intro ?_ ?_ | refine Exists.intro ?_ ?_); first | omega | (simp <;> omega)) | (with_reducible refine spl (And.intro ?_ ?_) <;> intro _)) <;> ((try simp (implicitDefEqProofs := false) [frV, hu, hv, hw, hg, tabRow, tabF_get, rowF_get]); (try simp (implicitDefEqProofs := false) (disch := first | assumption | (try simp only [lens]); omega -splitDisjunctions) [frV, hu, hv, hw, hg, tabRow, tabF_get, rowF_get])))))
  | true => (((try simp (implicitDefEqProofs := false) [frV, hu, hv, hw, hg, tabRow, tabF_get, rowF_get]); (try simp (implicitDefEqProofs := false) (disch := first | assumption | (try simp only [lens]); omega -splitDisjunctions) [frV, hu, hv, hw, hg, tabRow, tabF_get, rowF_get])); all_goals try (repeat' ((first | ((with_reducible first | refine And.intro ?_ ?_ | refine Exists.intro ?_ ?_); first | omega | (simp <;> omega)) | (with_reducible refine spl (And.intro ?_ ?_) <;> intro _)) <;> ((try simp (implicitDefEqProofs := false) [frV, hu, hv, hw, hg, tabRow, tabF_get, rowF_get]); (try simp (implicitDefEqProofs := false) (disch := first | assumption | (try simp only [lens]); omega -splitDisjunctions) [frV, hu, hv, hw, hg, tabRow, tabF_get, rowF_get])))))
def x104 : XC := .seq (.reg [⟨some 3,.assign (.const (.bool false)),none⟩]) (.seq (.reg [⟨some 4,.load 121 (.tmp 1),none⟩,⟨some 5,.move (.tmp 0),none⟩,⟨some 6,.indexAddr 121 (.tmp 4) (.tmp 5),none⟩,⟨some 7,.load 46 (.tmp 6),none⟩,⟨some 8,.call ⟨.value (.func 80),#[.tmp 7,.const (.bool true)],#[46,4]⟩,none⟩,⟨some 3,.assign (.tmp 8),none⟩]) (.ret))
@[simp] theorem x104_s {C : WC} {e : AE} {s : Store} {K : KS} : type_of% (@X_at C e s K _ _ x104.eq_1) := X_at x104.eq_1
def an104 : Ann := ⟨[], [], []⟩
def cx104 (P : Program) (m : Nat) : WC := ⟨P, m, an104⟩
@[simp] theorem cx104_a {P : Program} {m : Nat} : (cx104 P m).P = P ∧ (cx104 P m).m = m := ⟨rfl, rfl⟩
instance {P : Program} {m f : Nat} [h : EnT P f] : EnT (cx104 P m).P f := h
theorem chk104 : ∀ c, Try.f104.body = some c → chkC Try.f104.ntmps an104 c = true := by intro c h; obtain rfl := Option.some.inj h; decide +kernel
theorem op104 {args : List PV} {v : PV} (h : X (cx104 Try.prog 0) x104 (argsA 0 args) [] (.fin [.tmp 3] fun v1 s1 => deref s1 6 v1 = v)) (hl : args.length ≤ Try.f104.ntmps := by rw [Try.ntmps104]; simp) : CallOK Try.prog 104 args [] v [] :=
  callX (m := 0) (cx104 Try.prog 0) x104 rfl rfl (by kernel_rfl) Try.func104 rfl rfl hl mixed (chk104 _ rfl) (by rw [Try.results104]; exact h)

theorem Shape6_modal (n : Nat) (hn : n ≤ 1000) (g : Nat → Nat → Bool) (u : Nat) (hu : u < n) :
    CallOK Try.prog 104 [.int .i64 (u : Int), .iptr [frV n g]] [] (.bool ((List.range n).any (g u))) [] := by
  have hc := Contains_bools (rowF n g u) true (by simp; omega)
  rw [show decide (true ∈ rowF n g u) = (List.range n).any (g u) from by
    rw [Bool.eq_iff_iff]; simp [rowF]] at hc
  generalize (List.range n).any (g u) = x at hc ⊢
  refine op104 ?_
  (((try simp (implicitDefEqProofs := false) [frV, hu, tabRow, tabF_get]); (try simp (implicitDefEqProofs := false) (disch := first | assumption | (try simp only [lens]); omega -splitDisjunctions) [frV, hu, tabRow, tabF_get])); all_goals try (repeat' ((first | ((with_reducible first | refine And.intro ?_ ?_ | refine Exists.intro ?_ ?_); first | omega | (simp <;> omega)) | (with_reducible refine spl (And.intro ?_ ?_) <;> intro _) | (refine CL.clo (hc) ?_) | (refine CM.clo (hc) ?_) | (refine CD.clo (hc) ?_)) <;> ((try simp (implicitDefEqProofs := false) [frV, hu, tabRow, tabF_get]); (try simp (implicitDefEqProofs := false) (disch := first | assumption | (try simp only [lens]); omega -splitDisjunctions) [frV, hu, tabRow, tabF_get])))))
def x105 : XC := .seq (.reg [⟨some 3,.assign (.const (.bool false)),none⟩]) (.seq (.reg [⟨some 4,.load 121 (.tmp 1),none⟩,⟨some 5,.move (.tmp 0),none⟩,⟨some 6,.indexAddr 121 (.tmp 4) (.tmp 5),none⟩,⟨some 7,.load 46 (.tmp 6),none⟩,⟨some 8,.move (.tmp 0),none⟩,⟨some 9,.indexAddr 46 (.tmp 7) (.tmp 8),none⟩,⟨some 10,.load 4 (.tmp 9),none⟩,⟨some 11,.unOp .not 4 (.tmp 10),none⟩,⟨some 3,.assign (.tmp 11),none⟩]) (.ret))
@[simp] theorem x105_s {C : WC} {e : AE} {s : Store} {K : KS} : type_of% (@X_at C e s K _ _ x105.eq_1) := X_at x105.eq_1
def an105 : Ann := ⟨[], [], []⟩
def cx105 (P : Program) (m : Nat) : WC := ⟨P, m, an105⟩
@[simp] theorem cx105_a {P : Program} {m : Nat} : (cx105 P m).P = P ∧ (cx105 P m).m = m := ⟨rfl, rfl⟩
instance {P : Program} {m f : Nat} [h : EnT P f] : EnT (cx105 P m).P f := h
theorem chk105 : ∀ c, Try.f105.body = some c → chkC Try.f105.ntmps an105 c = true := by intro c h; obtain rfl := Option.some.inj h; decide +kernel
theorem op105 {args : List PV} {v : PV} (h : X (cx105 Try.prog 0) x105 (argsA 0 args) [] (.fin [.tmp 3] fun v1 s1 => deref s1 6 v1 = v)) (hl : args.length ≤ Try.f105.ntmps := by rw [Try.ntmps105]; simp) : CallOK Try.prog 105 args [] v [] :=
  callX (m := 0) (cx105 Try.prog 0) x105 rfl rfl (by kernel_rfl) Try.func105 rfl rfl hl mixed (chk105 _ rfl) (by rw [Try.results105]; exact h)

theorem Shape7_modal (n : Nat) (g : Nat → Nat → Bool) (u : Nat) (hu : u < n) :
    CallOK Try.prog 105 [.int .i64 (u : Int), .iptr [frV n g]] [] (.bool (!g u u)) [] := by
  refine op105 ?_
  (((try simp (implicitDefEqProofs := false) [frV, hu, tabRow, tabF_get, rowF_get]); (try simp (implicitDefEqProofs := false) (disch := first | assumption | (try simp only [lens]); omega -splitDisjunctions) [frV, hu, tabRow, tabF_get, rowF_get])); all_goals try (repeat' ((first | ((with_reducible first | refine And.intro ?_ ?_ | refine Exists.intro ?_ ?_); first | omega | (simp <;> omega)) | (with_reducible refine spl (And.intro ?_ ?_) <;> intro _)) <;> ((try simp (implicitDefEqProofs := false) [frV, hu, tabRow, tabF_get, rowF_get]); (try simp (implicitDefEqProofs := false) (disch := first | assumption | (try simp only [lens]); omega -splitDisjunctions) [frV, hu, tabRow, tabF_get, rowF_get])))))
def allN (n : Nat) (p : Nat → Bool) : Bool := (List.range n).all p
def transF (n : Nat) (g : Nat → Nat → Bool) : Bool := steps n g fun u v w => !g v w || g u w
def shapeL (n : Nat) (g : Nat → Nat → Bool) : List Bool :=
  [allN n fun u => g u u, transF n g, steps n g fun u v w => g v u, steps n g fun u v w => !g u w || g v w, allN n fun u => (List.range n).any (g u), transF n g && allN n fun u => !g u u]
def shapeR (m : Mdl) : List Bool := if (kripkeCheck m).1 = 0 then shapeL m.n.toNat (fun i j => sees m.rel i j) else [false, false, false, false, false, false]
def x41 : XC := .seq (.reg [⟨some 1,.box 61 (.tmp 0),none⟩,⟨some 2,.alloc 67,none⟩,⟨some 3,.alloc 29,none⟩]) (.seq (.seq (.reg [⟨some 8,.load 61 (.tmp 1),none⟩,⟨some 9,.call ⟨.value (.func 86),#[.tmp 8],#[61]⟩,none⟩,⟨some 4,.alloc 29,none⟩,⟨none,.store 29 (.tmp 4) (.tmp 9),none⟩]) (.seq (.reg [⟨some 10,.fieldAddr 29 (.tmp 4) 0,none⟩,⟨some 11,.load 3 (.tmp 10),none⟩,⟨some 12,.binOp .neq 3 (.tmp 11) (.const (.int .i64 0)) 3,none⟩]) (.cond (.tmp 12) (.seq (.drawn 3 [⟨some 13,.build 67 #[],none⟩,⟨some 14,.load 29 (.tmp 4),none⟩,⟨none,.store 67 (.tmp 2) (.tmp 13),none⟩,⟨none,.store 29 (.tmp 3) (.tmp 14),none⟩]) (.ret)) (.skip)))) (.seq (.reg [⟨some 15,.load 61 (.tmp 1),none⟩,⟨some 16,.call ⟨.value (.func 87),#[.tmp 15],#[61]⟩,none⟩,⟨some 5,.alloc 121,none⟩,⟨none,.store 121 (.tmp 5) (.tmp 16),none⟩]) (.seq (.reg [⟨some 17,.makeFunc (.func 95) #[] #[.tmp 5],none⟩,⟨some 6,.assign (.tmp 17),none⟩]) (.seq (.reg [⟨some 18,.move (.tmp 6),none⟩,⟨some 19,.makeFunc (.func 100) #[] #[.tmp 5],none⟩,⟨some 20,.call ⟨.value (.tmp 18),#[.tmp 19],#[126]⟩,none⟩,⟨some 7,.assign (.tmp 20),none⟩]) (.seq (.drawn 7 [⟨some 21,.load 121 (.tmp 5),none⟩,⟨some 22,.makeFunc (.func 101) #[] #[.tmp 5],none⟩,⟨some 23,.call ⟨.value (.func 96),#[.tmp 21,.tmp 22],#[121,128]⟩,none⟩,⟨some 24,.move (.tmp 7),none⟩,⟨some 25,.move (.tmp 6),none⟩,⟨some 26,.makeFunc (.func 102) #[] #[.tmp 5],none⟩,⟨some 27,.call ⟨.value (.tmp 25),#[.tmp 26],#[126]⟩,none⟩,⟨some 28,.move (.tmp 6),none⟩,⟨some 29,.makeFunc (.func 103) #[] #[.tmp 5],none⟩,⟨some 30,.call ⟨.value (.tmp 28),#[.tmp 29],#[126]⟩,none⟩,⟨some 31,.load 121 (.tmp 5),none⟩,⟨some 32,.makeFunc (.func 104) #[] #[.tmp 5],none⟩,⟨some 33,.call ⟨.value (.func 96),#[.tmp 31,.tmp 32],#[121,128]⟩,none⟩,⟨some 34,.move (.tmp 7),none⟩,⟨some 35,.move (.tmp 34),none⟩,⟨some 36,.load 121 (.tmp 5),some (some 35,true)⟩,⟨some 37,.makeFunc (.func 105) #[] #[.tmp 5],some (some 35,true)⟩,⟨some 38,.call ⟨.value (.func 96),#[.tmp 36,.tmp 37],#[121,128]⟩,some (some 35,true)⟩,⟨some 39,.pick (.tmp 35) (.tmp 38) (.const (.bool false)),none⟩,⟨some 40,.build 67 #[(0,.tmp 23),(1,.tmp 24),(2,.tmp 27),(3,.tmp 30),(4,.tmp 33),(5,.tmp 39)],none⟩,⟨some 41,.build 29 #[],none⟩,⟨none,.store 67 (.tmp 2) (.tmp 40),none⟩,⟨none,.store 29 (.tmp 3) (.tmp 41),none⟩]) (.ret))))))
@[simp] theorem x41_s {C : WC} {e : AE} {s : Store} {K : KS} : type_of% (@X_at C e s K _ _ x41.eq_1) := X_at x41.eq_1
def an41 : Ann := ⟨[(3, .mix3 2 1), (7, .mix3 21 20)], [], []⟩
def cx41 (P : Program) (m : Nat) : WC := ⟨P, m, an41⟩
@[simp] theorem cx41_a {P : Program} {m : Nat} : (cx41 P m).P = P ∧ (cx41 P m).m = m ∧ (cx41 P m).A.clsOf 3 = .mix3 2 1 ∧ (cx41 P m).A.clsOf 7 = .mix3 21 20 ∧ (cx41 P m).A.frzOf 3 = [] ∧ (cx41 P m).A.frzOf 7 = [] := ⟨rfl, rfl, rfl, rfl, rfl, rfl⟩
instance {P : Program} {m f : Nat} [h : EnT P f] : EnT (cx41 P m).P f := h
theorem chk41 : ∀ c, Try.f41.body = some c → chkC Try.f41.ntmps an41 c = true := by intro c h; obtain rfl := Option.some.inj h; decide +kernel
theorem op41 {args : List PV} {v : PV} (h : X (cx41 Try.prog 0) x41 (argsA 0 args) [] (.fin [.cell 2 67, .cell 3 29] fun v1 s1 => deref s1 6 v1 = v)) (hl : args.length ≤ Try.f41.ntmps := by rw [Try.ntmps41]; simp) : CallOK Try.prog 41 args [] v [] :=
  callX (m := 0) (cx41 Try.prog 0) x41 rfl rfl (by kernel_rfl) Try.func41 rfl rfl hl mixed (chk41 _ rfl) (by rw [Try.results41]; exact h)

theorem Shape_modal (m : Mdl) : CallOK Try.prog 41 [.agg (mdl m)] [] (.tuple [.agg ((shapeR m).map .bool), .agg [.int .i64 (kripkeCheck m).1, .int .i64 (kripkeCheck m).2]]) [] := by
  have hck := check_kripke m []
  unfold shapeR
  unfold flt at hck
  refine op41 ?_
  by_cases hz : (kripkeCheck m).1 = 0
  · have h0 := kripkeCheck_zero hz
    rw [if_pos hz]
    rw [h0] at hck ⊢
    obtain ⟨hm1, hm2, hm3, hm4⟩ := model_of_check m hz
    have hnf := newFrame_modal m (by omega) hm2 hm4 []
    obtain ⟨n, hmn⟩ : ∃ n : Nat, m.n = (n : Int) := ⟨m.n.toNat, by omega⟩
    have hfr : (.list ((frameOf m).map tabRow) : PV) = frV n (fun i j => sees m.rel i j) := by unfold frV frameOf tabF rowF; rw [hmn, Int.toNat_natCast]
    rw [hfr] at hnf
    rw [hmn] at hm1 hm2 ⊢
    rw [Int.toNat_natCast]
    have hmd : mdl m = [.int .i64 (n : Int), .list (m.rel.map relRow), .list (m.tr.map strsRow)] := by unfold mdl; rw [hmn]
    rw [hmd] at hck hnf ⊢
    generalize (fun i j => sees m.rel i j) = g at *
    have hn : n ≤ 1000 := by omega
    have hs := fun f1 => fun [EnT Try.prog f1] (is : Nat → Nat → Nat → Bool) (h : ∀ u v w, u < n → v < n → w < n → CallOK Try.prog f1 [.int .i64 (u : Int), .int .i64 (v : Int), .int .i64 (w : Int), .iptr [frV n g]] [] (.bool (is u v w)) []) =>
      Shape1_modal n hn g f1 [.iptr [frV n g]] is (fun ρ => by simp) (by simp) (fun s => by simp) (fun u v w hu hv hw s => CallOK.frame (h u v w hu hv hw) (by simp [closed_agg, closed_fn, closed_iptr, flatL_fn]))
    have ha := fun f1 => fun [EnT Try.prog f1] (is : Nat → Bool) (h : ∀ u, u < n → CallOK Try.prog f1 [.int .i64 (u : Int), .iptr [frV n g]] [] (.bool (is u)) []) =>
      all_modal n hn g f1 [.iptr [frV n g]] is (fun ρ => by simp) (by simp) (fun u hu s => CallOK.frame (h u hu) (by simp [closed_agg, closed_fn, closed_iptr, flatL_fn]))
    have hs2 := hs 100 _ fun u v w => Shape2_modal n g u v w
    have hs4 := hs 102 _ fun u v w => Shape4_modal n g u v w
    have hs5 := hs 103 _ fun u v w => Shape5_modal n g u v w
    have ha3 := ha 101 _ fun u => Shape3_modal n g u
    have ha6 := ha 104 _ fun u => Shape6_modal n hn g u
    have ha7 := ha 105 _ fun u => Shape7_modal n g u
    clear hs ha
    unfold shapeL allN transF
    generalize (steps n g fun u v w => !g v w || g u w) = x2 at *
    generalize (steps n g fun u v w => g v u) = x4 at *
    generalize (steps n g fun u v w => !g u w || g v w) = x5 at *
    generalize ((List.range n).all fun u => g u u) = x3 at *
    generalize ((List.range n).all fun u => (List.range n).any (g u)) = x6 at *
    generalize ((List.range n).all fun u => !g u u) = x7 at *
    simp only [frV] at *
    generalize (tabF n g).map tabRow = T at *
    (((try simp (implicitDefEqProofs := false)); (try simp (implicitDefEqProofs := false) (disch := first | assumption | (try simp only [lens]); omega -splitDisjunctions))); all_goals try (repeat' ((first | ((with_reducible first | refine And.intro ?_ ?_ | refine Exists.intro ?_ ?_); first | omega | (simp <;> omega)) | (with_reducible refine spl (And.intro ?_ ?_) <;> intro _) | (refine CL.clo (hck) ?_) | (refine CM.clo (hck) ?_) | (refine CD.clo (hck) ?_) | (refine CL.clo (hnf) ?_) | (refine CM.clo (hnf) ?_) | (refine CD.clo (hnf) ?_)) <;> ((try simp (implicitDefEqProofs := false)); (try simp (implicitDefEqProofs := false) (disch := first | assumption | (try simp only [lens]); omega -splitDisjunctions))))))
    refine CL.giv [4] ?_
    cases x2 with
    | false => (((try simp (implicitDefEqProofs := false)); (try simp (implicitDefEqProofs := false) (disch := first | assumption | (try simp only [lens]); omega -splitDisjunctions))); all_goals try (repeat' ((first | ((with_reducible first | refine And.intro ?_ ?_ | refine Exists.intro ?_ ?_); first | omega | (simp <;> omega)) | (with_reducible refine spl (And.intro ?_ ?_) <;> intro _) | (refine CL.clo (hs2) ?_) | (refine CM.clo (hs2) ?_) | (refine CD.clo (hs2) ?_) | (refine CL.clo (hs4) ?_) | (refine CM.clo (hs4) ?_) | (refine CD.clo (hs4) ?_) | (refine CL.clo (hs5) ?_) | (refine CM.clo (hs5) ?_) | (refine CD.clo (hs5) ?_) | (refine CL.clo (ha3) ?_) | (refine CM.clo (ha3) ?_) | (refine CD.clo (ha3) ?_) | (refine CL.clo (ha6) ?_) | (refine CM.clo (ha6) ?_) | (refine CD.clo (ha6) ?_)) <;> ((try simp (implicitDefEqProofs := false)); (try simp (implicitDefEqProofs := false) (disch := first | assumption | (try simp only [lens]); omega -splitDisjunctions))))))
    | true => (((try simp (implicitDefEqProofs := false)); (try simp (implicitDefEqProofs := false) (disch := first | assumption | (try simp only [lens]); omega -splitDisjunctions))); all_goals try (repeat' ((first | ((with_reducible first | refine And.intro ?_ ?_ | refine Exists.intro ?_ ?_); first | omega | (simp <;> omega)) | (with_reducible refine spl (And.intro ?_ ?_) <;> intro _) | (refine CL.clo (hs2) ?_) | (refine CM.clo (hs2) ?_) | (refine CD.clo (hs2) ?_) | (refine CL.clo (hs4) ?_) | (refine CM.clo (hs4) ?_) | (refine CD.clo (hs4) ?_) | (refine CL.clo (hs5) ?_) | (refine CM.clo (hs5) ?_) | (refine CD.clo (hs5) ?_) | (refine CL.clo (ha3) ?_) | (refine CM.clo (ha3) ?_) | (refine CD.clo (ha3) ?_) | (refine CL.clo (ha6) ?_) | (refine CM.clo (ha6) ?_) | (refine CD.clo (ha6) ?_) | (refine CL.clo (ha7) ?_) | (refine CM.clo (ha7) ?_) | (refine CD.clo (ha7) ?_)) <;> ((try simp (implicitDefEqProofs := false)); (try simp (implicitDefEqProofs := false) (disch := first | assumption | (try simp only [lens]); omega -splitDisjunctions))))))
  · rw [if_neg hz]
    generalize kripkeCheck m = w at hck hz ⊢
    (((try simp (implicitDefEqProofs := false) [hz]); (try simp (implicitDefEqProofs := false) (disch := first | assumption | (try simp only [lens]); omega -splitDisjunctions) [hz])); all_goals try (repeat' ((first | ((with_reducible first | refine And.intro ?_ ?_ | refine Exists.intro ?_ ?_); first | omega | (simp <;> omega)) | (with_reducible refine spl (And.intro ?_ ?_) <;> intro _) | (refine CL.clo (hck) ?_) | (refine CM.clo (hck) ?_) | (refine CD.clo (hck) ?_)) <;> ((try simp (implicitDefEqProofs := false) [hz]); (try simp (implicitDefEqProofs := false) (disch := first | assumption | (try simp only [lens]); omega -splitDisjunctions) [hz])))))
end Go.Proofs.Ytbmpmmbcfabeeaa
