/-
  sequentref: Bound, Bounds, Ends.
-/
import Derived.Test.YthnobaacfjihcaaPvQu
import Derived.Test.YthnobaacfjihcaaQAj
namespace Go.Proofs.Ythnobaacfjihcaa
open Go Go.Pv
set_option linter.unusedVariables false
set_option linter.unusedSimpArgs false
set_option maxRecDepth 100000
set_option maxHeartbeats 4000000

def mostB (g : Nat → Nat → Bool) (down : Bool) (x y : Nat) : Bool := if down = true then g y x else g x y
def x42 : XC := .seq (.reg [⟨some 6,.assign (.const (.bool false)),none⟩]) (.seq (.seq (.reg [⟨some 7,.load 4 (.tmp 2),none⟩]) (.cond (.tmp 7) (.seq (.reg [⟨some 8,.load 39 (.tmp 3),none⟩,⟨some 9,.move (.tmp 1),none⟩,⟨some 10,.indexAddr 39 (.tmp 8) (.tmp 9),none⟩,⟨some 11,.load 41 (.tmp 10),none⟩,⟨some 12,.move (.tmp 0),none⟩,⟨some 13,.indexAddr 41 (.tmp 11) (.tmp 12),none⟩,⟨some 14,.load 4 (.tmp 13),none⟩,⟨some 6,.assign (.tmp 14),none⟩]) (.ret)) (.skip))) (.seq (.reg [⟨some 15,.load 39 (.tmp 3),none⟩,⟨some 16,.move (.tmp 0),none⟩,⟨some 17,.indexAddr 39 (.tmp 15) (.tmp 16),none⟩,⟨some 18,.load 41 (.tmp 17),none⟩,⟨some 19,.move (.tmp 1),none⟩,⟨some 20,.indexAddr 41 (.tmp 18) (.tmp 19),none⟩,⟨some 21,.load 4 (.tmp 20),none⟩,⟨some 6,.assign (.tmp 21),none⟩]) (.ret)))
@[simp] theorem x42_s {C : WC} {e : AE} {s : Store} {K : KS} : type_of% (@X_at C e s K _ _ x42.eq_1) := X_at x42.eq_1
def an42 : Ann := ⟨[], [], []⟩
def cx42 (P : Program) (m : Nat) : WC := ⟨P, m, an42⟩
@[simp] theorem cx42_a {P : Program} {m : Nat} : (cx42 P m).P = P ∧ (cx42 P m).m = m := ⟨rfl, rfl⟩
instance {P : Program} {m f : Nat} [h : EnT P f] : EnT (cx42 P m).P f := h
theorem chk42 : ∀ c, Try.f42.body = some c → chkC Try.f42.ntmps an42 c = true := by intro c h; obtain rfl := Option.some.inj h; decide +kernel
theorem op42 {args : List PV} {v : PV} (h : X (cx42 Try.prog 0) x42 (argsA 0 args) [] (.fin [.tmp 6] fun v1 s1 => deref s1 6 v1 = v)) (hl : args.length ≤ Try.f42.ntmps := by rw [Try.ntmps42]; simp) : CallOK Try.prog 42 args [] v [] :=
  callX (m := 0) (cx42 Try.prog 0) x42 rfl rfl (by kernel_rfl) Try.func42 rfl rfl hl mixed (chk42 _ rfl) (by rw [Try.results42]; exact h)

theorem Bound1_ref (n : Nat) (g : Nat → Nat → Bool) (down : Bool) (x y : Nat) (hx : x < n) (hy : y < n) :
    CallOK Try.prog 42 [.int .i64 (x : Int), .int .i64 (y : Int), .iptr [.bool down], .iptr [.list ((tabF n g).map tabRowF)]] [] (.bool (mostB g down x y)) [] := by
  refine op42 ?_
  unfold mostB
  cases down
  · (((try simp (implicitDefEqProofs := false) [hx, hy, tabRowF, tabF_get, rowF_get]); (try simp (implicitDefEqProofs := false) (disch := first | assumption | (try simp only [lens]); omega -splitDisjunctions) [hx, hy, tabRowF, tabF_get, rowF_get])); all_goals try (repeat' ((first | ((with_reducible first | refine And.intro ?_ ?_ | refine Exists.intro ?_ ?_); first | omega | (simp <;> omega)) | (with_reducible refine spl (And.intro ?_ ?_) <;> intro _)) <;> ((try simp (implicitDefEqProofs := false) [hx, hy, tabRowF, tabF_get, rowF_get]); (try simp (implicitDefEqProofs := false) (disch := first | assumption | (try simp only [lens]); omega -splitDisjunctions) [hx, hy, tabRowF, tabF_get, rowF_get])))))
  · (((try simp (implicitDefEqProofs := false) [hx, hy, tabRowF, tabF_get, rowF_get]); (try simp (implicitDefEqProofs := false) (disch := first | assumption | (try simp only [lens]); omega -splitDisjunctions) [hx, hy, tabRowF, tabF_get, rowF_get])); all_goals try (repeat' ((first | ((with_reducible first | refine And.intro ?_ ?_ | refine Exists.intro ?_ ?_); first | omega | (simp <;> omega)) | (with_reducible refine spl (And.intro ?_ ?_) <;> intro _)) <;> ((try simp (implicitDefEqProofs := false) [hx, hy, tabRowF, tabF_get, rowF_get]); (try simp (implicitDefEqProofs := false) (disch := first | assumption | (try simp only [lens]); omega -splitDisjunctions) [hx, hy, tabRowF, tabF_get, rowF_get])))))
def bndF (g : Nat → Nat → Bool) (down : Bool) (a b c : Nat) : Bool := mostB g down a c && mostB g down b c
def bndI (n : Nat) (g : Nat → Nat → Bool) (down : Bool) (a b : Nat) : Int := bestI n (bndF g down a b) (mostB g down)
theorem bnd_join {n : Nat} {g : Nat → Nat → Bool} {a b : Nat} : bndI n g false a b = joinI n g a b := rfl
theorem bnd_meet {n : Nat} {g : Nat → Nat → Bool} {a b : Nat} : bndI n g true a b = meetI n g a b := rfl
def bndOk (n : Nat) (g : Nat → Nat → Bool) (down : Bool) (a b c : Nat) : Bool := bndF g down a b c && (List.range n).all fun d => !bndF g down a b d || mostB g down c d
def x34_T2 : XC := .seq (.reg [⟨some 55,.move (.tmp 11),none⟩]) (.cond (.tmp 55) (.seq (.reg [⟨some 56,.move (.tmp 10),none⟩,⟨some 8,.assign (.tmp 56),none⟩]) (.ret)) (.skip))
def x34_L2 : XC := .seq (.seq (.reg [⟨some 32,.move (.tmp 12),none⟩,⟨some 33,.load 39 (.tmp 4),none⟩,⟨some 34,.call ⟨.builtin .len,#[.tmp 33],#[39]⟩,none⟩,⟨some 35,.binOp .lss 3 (.tmp 32) (.tmp 34) 3,none⟩]) (.cond (.tmp 35) (.skip) (.exit 2))) (.seq (.block 3 (.seq (.reg [⟨some 38,.move (.tmp 9),none⟩,⟨some 39,.move (.tmp 1),none⟩,⟨some 40,.move (.tmp 12),none⟩,⟨some 41,.call ⟨.value (.tmp 38),#[.tmp 39,.tmp 40],#[3,3]⟩,none⟩,⟨some 42,.move (.tmp 41),none⟩,⟨some 43,.move (.tmp 9),some (some 42,true)⟩,⟨some 44,.move (.tmp 2),some (some 42,true)⟩,⟨some 45,.move (.tmp 12),some (some 42,true)⟩,⟨some 46,.call ⟨.value (.tmp 43),#[.tmp 44,.tmp 45],#[3,3]⟩,some (some 42,true)⟩,⟨some 47,.pick (.tmp 42) (.tmp 46) (.const (.bool false)),none⟩,⟨some 48,.move (.tmp 47),none⟩,⟨some 49,.move (.tmp 9),some (some 48,true)⟩,⟨some 50,.move (.tmp 10),some (some 48,true)⟩,⟨some 51,.move (.tmp 12),some (some 48,true)⟩,⟨some 52,.call ⟨.value (.tmp 49),#[.tmp 50,.tmp 51],#[3,3]⟩,some (some 48,true)⟩,⟨some 53,.unOp .not 4 (.tmp 52),some (some 48,true)⟩,⟨some 54,.pick (.tmp 48) (.tmp 53) (.const (.bool false)),none⟩]) (.cond (.tmp 54) (.reg [⟨some 11,.assign (.const (.bool false)),none⟩]) (.skip)))) (.reg [⟨some 36,.move (.tmp 12),none⟩,⟨some 37,.binOp .add 3 (.tmp 36) (.const (.int .i64 1)) 3,none⟩,⟨some 12,.assign (.tmp 37),none⟩]))
def x34_L0 : XC := .seq (.seq (.reg [⟨some 14,.move (.tmp 10),none⟩,⟨some 15,.load 39 (.tmp 4),none⟩,⟨some 16,.call ⟨.builtin .len,#[.tmp 15],#[39]⟩,none⟩,⟨some 17,.binOp .lss 3 (.tmp 14) (.tmp 16) 3,none⟩]) (.cond (.tmp 17) (.skip) (.exit 0))) (.seq (.block 1 (.seq (.seq (.reg [⟨some 20,.move (.tmp 9),none⟩,⟨some 21,.move (.tmp 1),none⟩,⟨some 22,.move (.tmp 10),none⟩,⟨some 23,.call ⟨.value (.tmp 20),#[.tmp 21,.tmp 22],#[3,3]⟩,none⟩,⟨some 24,.unOp .not 4 (.tmp 23),none⟩,⟨some 25,.move (.tmp 24),none⟩,⟨some 26,.move (.tmp 9),some (some 25,false)⟩,⟨some 27,.move (.tmp 2),some (some 25,false)⟩,⟨some 28,.move (.tmp 10),some (some 25,false)⟩,⟨some 29,.call ⟨.value (.tmp 26),#[.tmp 27,.tmp 28],#[3,3]⟩,some (some 25,false)⟩,⟨some 30,.unOp .not 4 (.tmp 29),some (some 25,false)⟩,⟨some 31,.pick (.tmp 25) (.const (.bool true)) (.tmp 30),none⟩]) (.cond (.tmp 31) (.exit 1) (.skip))) (.seq (.reg [⟨some 11,.assign (.const (.bool true)),none⟩]) (.seq (.seq (.reg [⟨some 12,.assign (.const (.int .i64 0)),none⟩]) (.bloop 2 x34_L2)) (x34_T2))))) (.reg [⟨some 18,.move (.tmp 10),none⟩,⟨some 19,.binOp .add 3 (.tmp 18) (.const (.int .i64 1)) 3,none⟩,⟨some 10,.assign (.tmp 19),none⟩]))
def x34 : XC := .seq (.reg [⟨some 4,.box 39 (.tmp 0),none⟩,⟨some 7,.box 4 (.tmp 3),none⟩,⟨some 8,.assign (.const (.int .i64 0)),none⟩]) (.seq (.reg [⟨some 13,.makeFunc (.func 42) #[] #[.tmp 7,.tmp 4],none⟩,⟨some 9,.assign (.tmp 13),none⟩]) (.seq (.seq (.reg [⟨some 10,.assign (.const (.int .i64 0)),none⟩]) (.bloop 0 x34_L0)) (.seq (.reg [⟨some 8,.assign (.const (.int .i64 (-1))),none⟩]) (.ret))))
@[simp] theorem x34_s {C : WC} {e : AE} {s : Store} {K : KS} : type_of% (@X_at C e s K _ _ x34_T2.eq_1) ∧ type_of% (@X_at C e s K _ _ x34_L2.eq_1) ∧ type_of% (@X_at C e s K _ _ x34_L0.eq_1) ∧ type_of% (@X_at C e s K _ _ x34.eq_1) := ⟨X_at x34_T2.eq_1, X_at x34_L2.eq_1, X_at x34_L0.eq_1, X_at x34.eq_1⟩
def an34 : Ann := ⟨[], [(2, [], [1, 2, 4, 9, 10, 11, 12], [1, 2, 4, 9, 10, 11]), (0, [], [1, 2, 4, 9, 10], [8])], []⟩
def cx34 (P : Program) (m : Nat) : WC := ⟨P, m, an34⟩
@[simp] theorem cx34_a {P : Program} {m : Nat} : (cx34 P m).P = P ∧ (cx34 P m).m = m ∧ (cx34 P m).A.loopOf 2 = ([], [1, 2, 4, 9, 10, 11, 12], [1, 2, 4, 9, 10, 11]) ∧ (cx34 P m).A.loopOf 0 = ([], [1, 2, 4, 9, 10], [8]) := ⟨rfl, rfl, rfl, rfl⟩
instance {P : Program} {m f : Nat} [h : EnT P f] : EnT (cx34 P m).P f := h
theorem chk34 : ∀ c, Try.f34.body = some c → chkC Try.f34.ntmps an34 c = true := by intro c h; obtain rfl := Option.some.inj h; decide +kernel
theorem op34 {args : List PV} {v : PV} (h : X (cx34 Try.prog 0) x34 (argsA 0 args) [] (.fin [.tmp 8] fun v1 s1 => deref s1 6 v1 = v)) (hl : args.length ≤ Try.f34.ntmps := by rw [Try.ntmps34]; simp) : CallOK Try.prog 34 args [] v [] :=
  callX (m := 0) (cx34 Try.prog 0) x34 rfl rfl (by kernel_rfl) Try.func34 rfl rfl hl mixed (chk34 _ rfl) (by rw [Try.results34]; exact h)

theorem Bound_ref (n : Nat) (h20 : n ≤ 20) (g : Nat → Nat → Bool) (down : Bool) (a b : Nat) (ha : a < n) (hb : b < n) :
    CallOK Try.prog 34 [.list ((tabF n g).map tabRowF), .int .i64 (a : Int), .int .i64 (b : Int), .bool down] [] (.int .i64 (bndI n g down a b)) [] := by
  have hm := fun x y hx hy => Bound1_ref n g down x y hx hy
  refine op34 ?_
  have hfind : bndI n g down a b = match (List.range n).find? (bndOk n g down a b) with
    | some c => (c : Int)
    | none => -1 := rfl
  have hokd : ∀ c, bndOk n g down a b c = (bndF g down a b c && (List.range n).all fun d => !bndF g down a b d || mostB g down c d) := fun c => rfl
  have hfd : ∀ c, bndF g down a b c = (mostB g down a c && mostB g down b c) := fun c => rfl
  generalize bndOk n g down a b = ok at *
  generalize bndF g down a b = fine at *
  generalize mostB g down = m at *
  generalize bndI n g down a b = v at *
  (((try simp (implicitDefEqProofs := false)); (try simp (implicitDefEqProofs := false) (disch := first | assumption | (try simp only [lens]); omega -splitDisjunctions))); all_goals try (repeat' ((first | ((with_reducible first | refine And.intro ?_ ?_ | refine Exists.intro ?_ ?_); first | omega | (simp <;> omega)) | (with_reducible refine spl (And.intro ?_ ?_) <;> intro _)) <;> ((try simp (implicitDefEqProofs := false)); (try simp (implicitDefEqProofs := false) (disch := first | assumption | (try simp only [lens]); omega -splitDisjunctions))))))
  refine W_of fun Q hQ => ?_
  have main : ∀ k c, c + k = n → (v = match ((List.range n).drop c).find? ok with
      | some c => (c : Int)
      | none => -1) → Q [(1, .int .i64 (a : Int)), (2, .int .i64 (b : Int)), (4, .ptr 0 0 0), (9, .fn (.func 42) [] [.ptr 1 0 0, .ptr 0 0 0]), (10, .int .i64 (c : Int))] [.rows 1 [[.list ((tabF n g).map tabRowF)]], .rows 1 [[.bool down]]] := by
    intro k
    induction k with
    | zero =>
      intro c hc hv
      obtain rfl : c = n := by omega
      rw [List.drop_of_length_le (by simp)] at hv
      subst hv
      apply hQ
      clear hQ
      (((try simp (implicitDefEqProofs := false)); (try simp (implicitDefEqProofs := false) (disch := first | assumption | (try simp only [lens]); omega -splitDisjunctions))); all_goals try (repeat' ((first | ((with_reducible first | refine And.intro ?_ ?_ | refine Exists.intro ?_ ?_); first | omega | (simp <;> omega)) | (with_reducible refine spl (And.intro ?_ ?_) <;> intro _)) <;> ((try simp (implicitDefEqProofs := false)); (try simp (implicitDefEqProofs := false) (disch := first | assumption | (try simp only [lens]); omega -splitDisjunctions))))))
    | succ k ih =>
      intro c hc hv
      have hcn : c < n := by omega
      have ih := ih (c + 1) (by omega)
      rw [List.drop_eq_getElem_cons (by simpa using hcn), List.getElem_range, List.find?_cons, hokd c] at hv
      have h1 := hm a c ha hcn
      have h2 := hm b c hb hcn
      have hf := hfd c
      clear hfind
      apply hQ
      clear hQ
      cases hmf : fine c
      · rw [hmf] at hv hf
        have ih := ih hv
        generalize m a c = x at *
        generalize m b c = y at *
        cases x
        · (((try simp (implicitDefEqProofs := false)); (try simp (implicitDefEqProofs := false) (disch := first | assumption | (try simp only [lens]); omega -splitDisjunctions))); all_goals try (repeat' ((first | ((with_reducible first | refine And.intro ?_ ?_ | refine Exists.intro ?_ ?_); first | omega | (simp <;> omega)) | (with_reducible refine spl (And.intro ?_ ?_) <;> intro _) | (refine CL.see (h1) ?_ ?_ ?_; (focus (first | (simp; done) | (simp [scn]; done))); (focus (simp [flats]; done))) | (refine CD.see (h1) ?_ ?_ ?_; (focus (first | (simp; done) | (simp [scn]; done))); (focus (simp [flats]; done)))) <;> ((try simp (implicitDefEqProofs := false)); (try simp (implicitDefEqProofs := false) (disch := first | assumption | (try simp only [lens]); omega -splitDisjunctions))))))
          all_goals first | exact ih | (refine at2 ih ?_ ?_ <;> simp; done) | (exfalso; first | omega | (simp_all; done) | (simp_all; omega))
        · cases y
          · (((try simp (implicitDefEqProofs := false)); (try simp (implicitDefEqProofs := false) (disch := first | assumption | (try simp only [lens]); omega -splitDisjunctions))); all_goals try (repeat' ((first | ((with_reducible first | refine And.intro ?_ ?_ | refine Exists.intro ?_ ?_); first | omega | (simp <;> omega)) | (with_reducible refine spl (And.intro ?_ ?_) <;> intro _) | (refine CL.see (h1) ?_ ?_ ?_; (focus (first | (simp; done) | (simp [scn]; done))); (focus (simp [flats]; done))) | (refine CD.see (h1) ?_ ?_ ?_; (focus (first | (simp; done) | (simp [scn]; done))); (focus (simp [flats]; done))) | (refine CL.see (h2) ?_ ?_ ?_; (focus (first | (simp; done) | (simp [scn]; done))); (focus (simp [flats]; done))) | (refine CD.see (h2) ?_ ?_ ?_; (focus (first | (simp; done) | (simp [scn]; done))); (focus (simp [flats]; done)))) <;> ((try simp (implicitDefEqProofs := false)); (try simp (implicitDefEqProofs := false) (disch := first | assumption | (try simp only [lens]); omega -splitDisjunctions))))))
            all_goals first | exact ih | (refine at2 ih ?_ ?_ <;> simp; done) | (exfalso; first | omega | (simp_all; done) | (simp_all; omega))
          · cases hf
      · rw [hmf] at hv hf
        rw [Bool.true_and] at hv
        have hxy : m a c = true ∧ m b c = true := by rwa [eq_comm, Bool.and_eq_true] at hf
        rw [hxy.1] at h1
        rw [hxy.2] at h2
        clear hf hxy
        (((try simp (implicitDefEqProofs := false)); (try simp (implicitDefEqProofs := false) (disch := first | assumption | (try simp only [lens]); omega -splitDisjunctions))); all_goals try (repeat' ((first | ((with_reducible first | refine And.intro ?_ ?_ | refine Exists.intro ?_ ?_); first | omega | (simp <;> omega)) | (with_reducible refine spl (And.intro ?_ ?_) <;> intro _) | (refine CL.see (h1) ?_ ?_ ?_; (focus (first | (simp; done) | (simp [scn]; done))); (focus (simp [flats]; done))) | (refine CD.see (h1) ?_ ?_ ?_; (focus (first | (simp; done) | (simp [scn]; done))); (focus (simp [flats]; done))) | (refine CL.see (h2) ?_ ?_ ?_; (focus (first | (simp; done) | (simp [scn]; done))); (focus (simp [flats]; done))) | (refine CD.see (h2) ?_ ?_ ?_; (focus (first | (simp; done) | (simp [scn]; done))); (focus (simp [flats]; done)))) <;> ((try simp (implicitDefEqProofs := false)); (try simp (implicitDefEqProofs := false) (disch := first | assumption | (try simp only [lens]); omega -splitDisjunctions))))))
        refine W_of fun Q hQ => ?_
        have main : ∀ k d, d + k = n → Q [(1, .int .i64 (a : Int)), (2, .int .i64 (b : Int)), (4, .ptr 0 0 0), (9, .fn (.func 42) [] [.ptr 1 0 0, .ptr 0 0 0]), (10, .int .i64 (c : Int)), (11, .bool ((List.range d).all fun d => !fine d || m c d)), (12, .int .i64 (d : Int))] [.rows 1 [[.list ((tabF n g).map tabRowF)]], .rows 1 [[.bool down]]] := by
          intro k
          induction k with
          | zero =>
            intro d hd
            obtain rfl : d = n := by omega
            generalize (List.range d).all (fun d => !fine d || m c d) = r at *
            apply hQ
            clear hQ
            cases r
            · have ih := ih hv
              (((try simp (implicitDefEqProofs := false)); (try simp (implicitDefEqProofs := false) (disch := first | assumption | (try simp only [lens]); omega -splitDisjunctions))); all_goals try (repeat' ((first | ((with_reducible first | refine And.intro ?_ ?_ | refine Exists.intro ?_ ?_); first | omega | (simp <;> omega)) | (with_reducible refine spl (And.intro ?_ ?_) <;> intro _)) <;> ((try simp (implicitDefEqProofs := false)); (try simp (implicitDefEqProofs := false) (disch := first | assumption | (try simp only [lens]); omega -splitDisjunctions))))))
              all_goals first | exact ih | (refine at2 ih ?_ ?_ <;> simp; done) | (exfalso; first | omega | (simp_all; done) | (simp_all; omega))
            · simp only [Bool.true_and] at hv
              subst hv
              (((try simp (implicitDefEqProofs := false)); (try simp (implicitDefEqProofs := false) (disch := first | assumption | (try simp only [lens]); omega -splitDisjunctions))); all_goals try (repeat' ((first | ((with_reducible first | refine And.intro ?_ ?_ | refine Exists.intro ?_ ?_); first | omega | (simp <;> omega)) | (with_reducible refine spl (And.intro ?_ ?_) <;> intro _)) <;> ((try simp (implicitDefEqProofs := false)); (try simp (implicitDefEqProofs := false) (disch := first | assumption | (try simp only [lens]); omega -splitDisjunctions))))))
          | succ k ih2 =>
            intro d hd
            have hdn : d < n := by omega
            have ih2 := ih2 (d + 1) (by omega)
            rw [List.range_succ, List.all_append, List.all_cons, List.all_nil, Bool.and_true, hfd d] at ih2
            have h3 := hm a d ha hdn
            have h4 := hm b d hb hdn
            have h5 := hm c d hcn hdn
            generalize (List.range d).all (fun d => !fine d || m c d) = r at *
            generalize m a d = x at *
            generalize m b d = y at *
            generalize m c d = z at *
            clear ih hv hm hfd hokd
            apply hQ
            clear hQ
            cases x
            · (((try simp (implicitDefEqProofs := false)); (try simp (implicitDefEqProofs := false) (disch := first | assumption | (try simp only [lens]); omega -splitDisjunctions))); all_goals try (repeat' ((first | ((with_reducible first | refine And.intro ?_ ?_ | refine Exists.intro ?_ ?_); first | omega | (simp <;> omega)) | (with_reducible refine spl (And.intro ?_ ?_) <;> intro _) | (refine CL.see (h3) ?_ ?_ ?_; (focus (first | (simp; done) | (simp [scn]; done))); (focus (simp [flats]; done))) | (refine CD.see (h3) ?_ ?_ ?_; (focus (first | (simp; done) | (simp [scn]; done))); (focus (simp [flats]; done)))) <;> ((try simp (implicitDefEqProofs := false)); (try simp (implicitDefEqProofs := false) (disch := first | assumption | (try simp only [lens]); omega -splitDisjunctions))))))
              all_goals first | exact ih2 | (refine at2 ih2 ?_ ?_ <;> simp; done) | (exfalso; first | omega | (simp_all; done) | (simp_all; omega))
            · cases y
              · (((try simp (implicitDefEqProofs := false)); (try simp (implicitDefEqProofs := false) (disch := first | assumption | (try simp only [lens]); omega -splitDisjunctions))); all_goals try (repeat' ((first | ((with_reducible first | refine And.intro ?_ ?_ | refine Exists.intro ?_ ?_); first | omega | (simp <;> omega)) | (with_reducible refine spl (And.intro ?_ ?_) <;> intro _) | (refine CL.see (h3) ?_ ?_ ?_; (focus (first | (simp; done) | (simp [scn]; done))); (focus (simp [flats]; done))) | (refine CD.see (h3) ?_ ?_ ?_; (focus (first | (simp; done) | (simp [scn]; done))); (focus (simp [flats]; done))) | (refine CL.see (h4) ?_ ?_ ?_; (focus (first | (simp; done) | (simp [scn]; done))); (focus (simp [flats]; done))) | (refine CD.see (h4) ?_ ?_ ?_; (focus (first | (simp; done) | (simp [scn]; done))); (focus (simp [flats]; done)))) <;> ((try simp (implicitDefEqProofs := false)); (try simp (implicitDefEqProofs := false) (disch := first | assumption | (try simp only [lens]); omega -splitDisjunctions))))))
                all_goals first | exact ih2 | (refine at2 ih2 ?_ ?_ <;> simp; done) | (exfalso; first | omega | (simp_all; done) | (simp_all; omega))
              · cases z
                · simp only [Bool.and_self, Bool.not_true, Bool.false_or, Bool.and_false] at ih2
                  (((try simp (implicitDefEqProofs := false)); (try simp (implicitDefEqProofs := false) (disch := first | assumption | (try simp only [lens]); omega -splitDisjunctions))); all_goals try (repeat' ((first | ((with_reducible first | refine And.intro ?_ ?_ | refine Exists.intro ?_ ?_); first | omega | (simp <;> omega)) | (with_reducible refine spl (And.intro ?_ ?_) <;> intro _) | (refine CL.see (h3) ?_ ?_ ?_; (focus (first | (simp; done) | (simp [scn]; done))); (focus (simp [flats]; done))) | (refine CD.see (h3) ?_ ?_ ?_; (focus (first | (simp; done) | (simp [scn]; done))); (focus (simp [flats]; done))) | (refine CL.see (h4) ?_ ?_ ?_; (focus (first | (simp; done) | (simp [scn]; done))); (focus (simp [flats]; done))) | (refine CD.see (h4) ?_ ?_ ?_; (focus (first | (simp; done) | (simp [scn]; done))); (focus (simp [flats]; done))) | (refine CL.see (h5) ?_ ?_ ?_; (focus (first | (simp; done) | (simp [scn]; done))); (focus (simp [flats]; done))) | (refine CD.see (h5) ?_ ?_ ?_; (focus (first | (simp; done) | (simp [scn]; done))); (focus (simp [flats]; done)))) <;> ((try simp (implicitDefEqProofs := false)); (try simp (implicitDefEqProofs := false) (disch := first | assumption | (try simp only [lens]); omega -splitDisjunctions))))))
                  all_goals first | exact ih2 | (refine at2 ih2 ?_ ?_ <;> simp; done) | (exfalso; first | omega | (simp_all; done) | (simp_all; omega))
                · simp only [Bool.and_self, Bool.or_true, Bool.and_true] at ih2
                  (((try simp (implicitDefEqProofs := false)); (try simp (implicitDefEqProofs := false) (disch := first | assumption | (try simp only [lens]); omega -splitDisjunctions))); all_goals try (repeat' ((first | ((with_reducible first | refine And.intro ?_ ?_ | refine Exists.intro ?_ ?_); first | omega | (simp <;> omega)) | (with_reducible refine spl (And.intro ?_ ?_) <;> intro _) | (refine CL.see (h3) ?_ ?_ ?_; (focus (first | (simp; done) | (simp [scn]; done))); (focus (simp [flats]; done))) | (refine CD.see (h3) ?_ ?_ ?_; (focus (first | (simp; done) | (simp [scn]; done))); (focus (simp [flats]; done))) | (refine CL.see (h4) ?_ ?_ ?_; (focus (first | (simp; done) | (simp [scn]; done))); (focus (simp [flats]; done))) | (refine CD.see (h4) ?_ ?_ ?_; (focus (first | (simp; done) | (simp [scn]; done))); (focus (simp [flats]; done))) | (refine CL.see (h5) ?_ ?_ ?_; (focus (first | (simp; done) | (simp [scn]; done))); (focus (simp [flats]; done))) | (refine CD.see (h5) ?_ ?_ ?_; (focus (first | (simp; done) | (simp [scn]; done))); (focus (simp [flats]; done)))) <;> ((try simp (implicitDefEqProofs := false)); (try simp (implicitDefEqProofs := false) (disch := first | assumption | (try simp only [lens]); omega -splitDisjunctions))))))
                  all_goals first | exact ih2 | (refine at2 ih2 ?_ ?_ <;> simp; done) | (exfalso; first | omega | (simp_all; done) | (simp_all; omega))
        refine at2 (main _ 0 (Nat.zero_add _)) ?_ ?_ <;> simp
  refine at2 (main _ 0 (Nat.zero_add _) (by rw [List.drop_zero]; exact hfind)) ?_ ?_ <;> simp
def okB (n : Nat) (g : Nat → Nat → Bool) (a b : Nat) : Bool := decide (0 ≤ joinI n g a b) && decide (0 ≤ meetI n g a b)
def okA2 (n : Nat) (g : Nat → Nat → Bool) (a : Nat) : Bool := (List.range n).all (okB n g a)
def x18_T2 : XC := .seq (.reg [⟨some 78,.move (.tmp 6),none⟩,⟨some 79,.move (.tmp 7),none⟩,⟨some 80,.move (.tmp 8),none⟩,⟨some 2,.assign (.tmp 78),none⟩,⟨some 3,.assign (.tmp 79),none⟩,⟨some 4,.assign (.tmp 80),none⟩]) (.ret)
def x18_L2 : XC := .seq (.seq (.reg [⟨some 25,.move (.tmp 10),none⟩,⟨some 26,.fieldAddr 24 (.tmp 1) 0,none⟩,⟨some 27,.load 3 (.tmp 26),none⟩,⟨some 28,.binOp .lss 3 (.tmp 25) (.tmp 27) 3,none⟩]) (.cond (.tmp 28) (.skip) (.exit 2))) (.seq (.block 3 (.seq (.drawn 11 [⟨some 31,.move (.tmp 6),none⟩,⟨some 32,.move (.tmp 9),none⟩,⟨some 33,.move (.tmp 6),none⟩,⟨some 34,.move (.tmp 9),none⟩,⟨some 35,.indexAddr 33 (.tmp 33) (.tmp 34),none⟩,⟨some 36,.load 37 (.tmp 35),none⟩,⟨some 37,.move (.tmp 5),none⟩,⟨some 38,.move (.tmp 9),none⟩,⟨some 39,.move (.tmp 10),none⟩,⟨some 40,.call ⟨.value (.func 34),#[.tmp 37,.tmp 38,.tmp 39,.const (.bool false)],#[39,3,3,4]⟩,none⟩,⟨some 41,.buildSlice 37 1 #[(0,.tmp 40)],none⟩,⟨some 42,.call ⟨.builtin .append,#[.tmp 36,.tmp 41],#[37,37]⟩,none⟩,⟨some 43,.indexAddr 33 (.tmp 31) (.tmp 32),none⟩,⟨none,.store 37 (.tmp 43) (.tmp 42),none⟩]) (.seq (.drawn 12 [⟨some 44,.move (.tmp 7),none⟩,⟨some 45,.move (.tmp 9),none⟩,⟨some 46,.move (.tmp 7),none⟩,⟨some 47,.move (.tmp 9),none⟩,⟨some 48,.indexAddr 33 (.tmp 46) (.tmp 47),none⟩,⟨some 49,.load 37 (.tmp 48),none⟩,⟨some 50,.move (.tmp 5),none⟩,⟨some 51,.move (.tmp 9),none⟩,⟨some 52,.move (.tmp 10),none⟩,⟨some 53,.call ⟨.value (.func 34),#[.tmp 50,.tmp 51,.tmp 52,.const (.bool true)],#[39,3,3,4]⟩,none⟩,⟨some 54,.buildSlice 37 1 #[(0,.tmp 53)],none⟩,⟨some 55,.call ⟨.builtin .append,#[.tmp 49,.tmp 54],#[37,37]⟩,none⟩,⟨some 56,.indexAddr 33 (.tmp 44) (.tmp 45),none⟩,⟨none,.store 37 (.tmp 56) (.tmp 55),none⟩]) (.reg [⟨some 57,.move (.tmp 8),none⟩,⟨some 58,.move (.tmp 57),none⟩,⟨some 59,.move (.tmp 6),some (some 58,true)⟩,⟨some 60,.move (.tmp 9),some (some 58,true)⟩,⟨some 61,.indexAddr 33 (.tmp 59) (.tmp 60),some (some 58,true)⟩,⟨some 62,.load 37 (.tmp 61),some (some 58,true)⟩,⟨some 63,.move (.tmp 10),some (some 58,true)⟩,⟨some 64,.indexAddr 37 (.tmp 62) (.tmp 63),some (some 58,true)⟩,⟨some 65,.load 3 (.tmp 64),some (some 58,true)⟩,⟨some 66,.binOp .geq 3 (.tmp 65) (.const (.int .i64 0)) 3,some (some 58,true)⟩,⟨some 67,.pick (.tmp 58) (.tmp 66) (.const (.bool false)),none⟩,⟨some 68,.move (.tmp 67),none⟩,⟨some 69,.move (.tmp 7),some (some 68,true)⟩,⟨some 70,.move (.tmp 9),some (some 68,true)⟩,⟨some 71,.indexAddr 33 (.tmp 69) (.tmp 70),some (some 68,true)⟩,⟨some 72,.load 37 (.tmp 71),some (some 68,true)⟩,⟨some 73,.move (.tmp 10),some (some 68,true)⟩,⟨some 74,.indexAddr 37 (.tmp 72) (.tmp 73),some (some 68,true)⟩,⟨some 75,.load 3 (.tmp 74),some (some 68,true)⟩,⟨some 76,.binOp .geq 3 (.tmp 75) (.const (.int .i64 0)) 3,some (some 68,true)⟩,⟨some 77,.pick (.tmp 68) (.tmp 76) (.const (.bool false)),none⟩,⟨some 8,.assign (.tmp 77),none⟩])))) (.reg [⟨some 29,.move (.tmp 10),none⟩,⟨some 30,.binOp .add 3 (.tmp 29) (.const (.int .i64 1)) 3,none⟩,⟨some 10,.assign (.tmp 30),none⟩]))
def x18_L0 : XC := .seq (.seq (.reg [⟨some 19,.move (.tmp 9),none⟩,⟨some 20,.fieldAddr 24 (.tmp 1) 0,none⟩,⟨some 21,.load 3 (.tmp 20),none⟩,⟨some 22,.binOp .lss 3 (.tmp 19) (.tmp 21) 3,none⟩]) (.cond (.tmp 22) (.skip) (.exit 0))) (.seq (.block 1 (.seq (.reg [⟨some 10,.assign (.const (.int .i64 0)),none⟩]) (.bloop 2 x18_L2))) (.reg [⟨some 23,.move (.tmp 9),none⟩,⟨some 24,.binOp .add 3 (.tmp 23) (.const (.int .i64 1)) 3,none⟩,⟨some 9,.assign (.tmp 24),none⟩]))
def x18 : XC := .seq (.reg [⟨some 1,.box 24 (.tmp 0),none⟩,⟨some 2,.assign (.const (.slice none 0 0)),none⟩,⟨some 3,.assign (.const (.slice none 0 0)),none⟩,⟨some 4,.assign (.const (.bool false)),none⟩]) (.seq (.reg [⟨some 11,.load 24 (.tmp 1),none⟩,⟨some 12,.call ⟨.value (.func 12),#[.tmp 11],#[24]⟩,none⟩,⟨some 5,.assign (.tmp 12),none⟩]) (.seq (.reg [⟨some 13,.fieldAddr 24 (.tmp 1) 0,none⟩,⟨some 14,.load 3 (.tmp 13),none⟩,⟨some 15,.makeSlice 33 (.tmp 14) (.tmp 14),none⟩,⟨some 6,.assign (.tmp 15),none⟩]) (.seq (.reg [⟨some 16,.fieldAddr 24 (.tmp 1) 0,none⟩,⟨some 17,.load 3 (.tmp 16),none⟩,⟨some 18,.makeSlice 33 (.tmp 17) (.tmp 17),none⟩,⟨some 7,.assign (.tmp 18),none⟩]) (.seq (.reg [⟨some 8,.assign (.const (.bool true)),none⟩]) (.seq (.seq (.reg [⟨some 9,.assign (.const (.int .i64 0)),none⟩]) (.bloop 0 x18_L0)) (x18_T2))))))
@[simp] theorem x18_s {C : WC} {e : AE} {s : Store} {K : KS} : type_of% (@X_at C e s K _ _ x18_T2.eq_1) ∧ type_of% (@X_at C e s K _ _ x18_L2.eq_1) ∧ type_of% (@X_at C e s K _ _ x18_L0.eq_1) ∧ type_of% (@X_at C e s K _ _ x18.eq_1) := ⟨X_at x18_T2.eq_1, X_at x18_L2.eq_1, X_at x18_L0.eq_1, X_at x18.eq_1⟩
def an18 : Ann := ⟨[(11, .tree (.op 0 (.op 1 (.op 2 (.op 3 (.op 4 (.op 5 (.op 6 (.op 7 (.op 8 (.op 9 (.ck 4 (.ck 5 (.op 10 (.ck 4 (.ck 5 (.op 11 (.op 12 (.op 13 .fin))))))))))))))))))), (12, .tree (.op 0 (.op 1 (.op 2 (.op 3 (.op 4 (.op 5 (.op 6 (.op 7 (.op 8 (.op 9 (.ck 4 (.ck 5 (.op 10 (.ck 4 (.ck 5 (.op 11 (.op 12 (.op 13 .fin)))))))))))))))))))], [(2, [(6, some 4000, 1), (7, some 4000, 1)], [1, 5, 6, 7, 8, 9, 10], [1, 5, 6, 7, 8, 9]), (0, [(6, some 4000, 1), (7, some 4000, 1)], [1, 5, 6, 7, 8, 9], [6, 7, 8])], []⟩
def cx18 (P : Program) (m : Nat) : WC := ⟨P, m, an18⟩
@[simp] theorem cx18_a {P : Program} {m : Nat} : (cx18 P m).P = P ∧ (cx18 P m).m = m ∧ (cx18 P m).A.clsOf 11 = .tree (.op 0 (.op 1 (.op 2 (.op 3 (.op 4 (.op 5 (.op 6 (.op 7 (.op 8 (.op 9 (.ck 4 (.ck 5 (.op 10 (.ck 4 (.ck 5 (.op 11 (.op 12 (.op 13 .fin)))))))))))))))))) ∧ (cx18 P m).A.clsOf 12 = .tree (.op 0 (.op 1 (.op 2 (.op 3 (.op 4 (.op 5 (.op 6 (.op 7 (.op 8 (.op 9 (.ck 4 (.ck 5 (.op 10 (.ck 4 (.ck 5 (.op 11 (.op 12 (.op 13 .fin)))))))))))))))))) ∧ (cx18 P m).A.frzOf 11 = [] ∧ (cx18 P m).A.frzOf 12 = [] ∧ (cx18 P m).A.loopOf 2 = ([(6, some 4000, 1), (7, some 4000, 1)], [1, 5, 6, 7, 8, 9, 10], [1, 5, 6, 7, 8, 9]) ∧ (cx18 P m).A.loopOf 0 = ([(6, some 4000, 1), (7, some 4000, 1)], [1, 5, 6, 7, 8, 9], [6, 7, 8]) := ⟨rfl, rfl, rfl, rfl, rfl, rfl, rfl, rfl⟩
instance {P : Program} {m f : Nat} [h : EnT P f] : EnT (cx18 P m).P f := h
theorem chk18 : ∀ c, Try.f18.body = some c → chkC Try.f18.ntmps an18 c = true := by intro c h; obtain rfl := Option.some.inj h; decide +kernel
theorem op18 {args : List PV} {v : PV} (h : X (cx18 Try.prog 0) x18 (argsA 0 args) [] (.fin [.tmp 2, .tmp 3, .tmp 4] fun v1 s1 => deref s1 6 v1 = v)) (hl : args.length ≤ Try.f18.ntmps := by rw [Try.ntmps18]; simp) : CallOK Try.prog 18 args [] v [] :=
  callX (m := 0) (cx18 Try.prog 0) x18 rfl rfl (by kernel_rfl) Try.func18 rfl rfl hl mixed (chk18 _ rfl) (by rw [Try.results18]; exact h)

theorem Bounds_ref (o : Ord) (n : Nat) (hn : o.n = n) (h20 : n ≤ 20) (hE : ∀ p ∈ o.ps, 0 ≤ p.1 ∧ p.1 < n ∧ 0 ≤ p.2 ∧ p.2 < n) (h5 : o.ps.length ≤ 500) : CallOK Try.prog 18 [.agg (ord o)] [] (.tuple [.list (((List.range n).map (jsI n (leB o.ps))).map intsRow), .list (((List.range n).map (msI n (leB o.ps))).map intsRow), .bool ((List.range n).all (okA2 n (leB o.ps)))]) [] := by
  have hs := AtMost_ref o n hn h20 hE h5
  have hbd := fun down a b ha hb => Bound_ref n h20 (leB o.ps) down a b ha hb
  obtain ⟨m, E⟩ := o
  simp only at hn hE hs hbd ⊢
  subst hn
  simp only [ord] at hs ⊢
  generalize leB E = g at *
  refine op18 ?_
  obtain ⟨T1, hT1⟩ : ∃ T, T = (List.range n).map (jsI n g) := ⟨_, rfl⟩
  obtain ⟨T2, hT2⟩ : ∃ T, T = (List.range n).map (msI n g) := ⟨_, rfl⟩
  have l1 : T1.length = n := by rw [hT1]; simp
  have l2 : T2.length = n := by rw [hT2]; simp
  rw [← hT1, ← hT2]
  (((try simp (implicitDefEqProofs := false)); (try simp (implicitDefEqProofs := false) (disch := first | assumption | (try simp only [lens]); omega -splitDisjunctions))); all_goals try (repeat' ((first | ((with_reducible first | refine And.intro ?_ ?_ | refine Exists.intro ?_ ?_); first | omega | (simp <;> omega)) | (with_reducible refine spl (And.intro ?_ ?_) <;> intro _) | (refine CL.clo (hs) ?_) | (refine CM.clo (hs) ?_) | (refine CD.clo (hs) ?_)) <;> ((try simp (implicitDefEqProofs := false)); (try simp (implicitDefEqProofs := false) (disch := first | assumption | (try simp only [lens]); omega -splitDisjunctions))))))
  refine HT_new2 (b := 3) (n := n) (n' := n) (ρ0 := [0, 1, 2]) rfl rfl rfl (by decide) rfl rfl rfl (by simp) (by simp) (by simp) ?_
  simp
  refine W_of fun Q hQ => ?_
  have main : ∀ k a, a + k = n → Q [(1, .ptr 0 0 0), (5, .list ((tabF n g).map tabRowF)), (6, .sl 1 0 n), (7, .sl 2 0 n), (8, .bool ((List.range a).all (okA2 n g))), (9, .int .i64 (a : Int))]
      (.rows 2 [[.int .i64 (n : Int), .list (E.map relRow)]] :: .rows 1 (tabRows 3 ((stG (jsI n g) n a []).map List.length)) :: .rows 1 (tabRows (3 + n) ((stG (msI n g) n a []).map List.length)) :: (tabObjs 1 ((stG (jsI n g) n a []).map (List.map intRow)) ++ tabObjs 1 ((stG (msI n g) n a []).map (List.map intRow)))) := by
    intro k
    induction k with
    | zero =>
      intro a ha
      obtain rfl : a = n := by omega
      generalize (List.range a).all (okA2 a g) = r at *
      rw [stG_all, stG_all, ← hT1, ← hT2]
      clear hT1 hT2
      apply hQ
      clear hQ
      (((try simp (implicitDefEqProofs := false)); (try simp (implicitDefEqProofs := false) (disch := first | assumption | (try simp only [lens]); omega -splitDisjunctions))); all_goals try (repeat' ((first | ((with_reducible first | refine And.intro ?_ ?_ | refine Exists.intro ?_ ?_); first | omega | (simp <;> omega)) | (with_reducible refine spl (And.intro ?_ ?_) <;> intro _)) <;> ((try simp (implicitDefEqProofs := false)); (try simp (implicitDefEqProofs := false) (disch := first | assumption | (try simp only [lens]); omega -splitDisjunctions))))))
      refine HT_keep2 (n := a) (n' := a) (pre := [_, _, _]) (post := []) (b := 3) (ρ0 := [1, 2]) (by rw [List.append_nil]; rfl) rfl rfl rfl rfl rfl (by simp [*]) (by simp [*]) (by simp [*]) (by simp [*]) flat_tab flat_tab (by simp) (by simp) (by simp) ?_
      (((try simp (implicitDefEqProofs := false)); (try simp (implicitDefEqProofs := false) (disch := first | assumption | (try simp only [lens]); omega -splitDisjunctions))); all_goals try (repeat' ((first | ((with_reducible first | refine And.intro ?_ ?_ | refine Exists.intro ?_ ?_); first | omega | (simp <;> omega)) | (with_reducible refine spl (And.intro ?_ ?_) <;> intro _)) <;> ((try simp (implicitDefEqProofs := false)); (try simp (implicitDefEqProofs := false) (disch := first | assumption | (try simp only [lens]); omega -splitDisjunctions))))))
      obtain ⟨d1, d2⟩ := deref_two (n := 3) (z := 1) (z' := 1) (o1 := .rows 1 (tabRows 2 (T1.map List.length))) (o2 := .rows 1 (tabRows (2 + a) (T2.map List.length))) (g := intRow) (g' := intRow) (T := T1) (T' := T2) (b := 2 + a) (by omega)
      rw [if_pos (by omega), if_pos (by omega), d1, d2]
      refine ⟨?_, ?_⟩
      · rw [List.take_of_length_le (by simp; omega)]; rfl
      · rw [List.take_of_length_le (by simp; omega)]; rfl
    | succ k ih =>
      intro a ha
      have han : a < n := by omega
      have ih := ih (a + 1) (by omega)
      rw [← stG_next, ← stG_next, List.range_succ, List.all_append, List.all_cons, List.all_nil, Bool.and_true] at ih
      rw [show okA2 n g a = (List.range n).all (okB n g a) from rfl] at ih
      generalize (List.range a).all (okA2 n g) = r at *
      apply hQ
      clear hQ
      (((try simp (implicitDefEqProofs := false)); (try simp (implicitDefEqProofs := false) (disch := first | assumption | (try simp only [lens]); omega -splitDisjunctions))); all_goals try (repeat' ((first | ((with_reducible first | refine And.intro ?_ ?_ | refine Exists.intro ?_ ?_); first | omega | (simp <;> omega)) | (with_reducible refine spl (And.intro ?_ ?_) <;> intro _)) <;> ((try simp (implicitDefEqProofs := false)); (try simp (implicitDefEqProofs := false) (disch := first | assumption | (try simp only [lens]); omega -splitDisjunctions))))))
      refine HT_keep2 (n := n) (n' := n) (pre := [_, _, _]) (post := []) (b := 3) (ρ0 := [0, 1, 2]) (by rw [List.append_nil]; rfl) rfl rfl rfl rfl rfl (by simp [*]) (by simp [*]) (by simp [*]) (by simp [*]) flat_tab flat_tab (by simp) (by simp) (by simp) ?_
      simp
      refine W_of fun Q hQ => ?_
      have main : ∀ k b, b + k = n → Q [(1, .ptr 0 0 0), (5, .list ((tabF n g).map tabRowF)), (6, .sl 1 0 n), (7, .sl 2 0 n), (8, .bool (r && (List.range b).all (okB n g a))), (9, .int .i64 (a : Int)), (10, .int .i64 (b : Int))]
          (.rows 2 [[.int .i64 (n : Int), .list (E.map relRow)]] :: .rows 1 (tabRows 3 ((stG (jsI n g) n a ((List.range b).map (joinI n g a))).map List.length)) :: .rows 1 (tabRows (3 + n) ((stG (msI n g) n a ((List.range b).map (meetI n g a))).map List.length)) :: (tabObjs 1 ((stG (jsI n g) n a ((List.range b).map (joinI n g a))).map (List.map intRow)) ++ tabObjs 1 ((stG (msI n g) n a ((List.range b).map (meetI n g a))).map (List.map intRow)))) := by
        intro k
        induction k with
        | zero =>
          intro b hb
          obtain rfl : b = n := by omega
          rw [show (List.range b).map (joinI b g a) = jsI b g a from rfl, show (List.range b).map (meetI b g a) = msI b g a from rfl]
          generalize (r && (List.range b).all (okB b g a)) = r2 at *
          apply hQ
          clear hQ
          (((try simp (implicitDefEqProofs := false)); (try simp (implicitDefEqProofs := false) (disch := first | assumption | (try simp only [lens]); omega -splitDisjunctions))); all_goals try (repeat' ((first | ((with_reducible first | refine And.intro ?_ ?_ | refine Exists.intro ?_ ?_); first | omega | (simp <;> omega)) | (with_reducible refine spl (And.intro ?_ ?_) <;> intro _)) <;> ((try simp (implicitDefEqProofs := false)); (try simp (implicitDefEqProofs := false) (disch := first | assumption | (try simp only [lens]); omega -splitDisjunctions))))))
          refine HT_keep2 (n := b) (n' := b) (pre := [_, _, _]) (post := []) (b := 3) (ρ0 := [0, 1, 2]) (by rw [List.append_nil]; rfl) rfl rfl rfl rfl rfl (by simp [*]) (by simp [*]) (by simp [*]) (by simp [*]) flat_tab flat_tab (by simp) (by simp) (by simp) ?_
          (((try simp (implicitDefEqProofs := false)); (try simp (implicitDefEqProofs := false) (disch := first | assumption | (try simp only [lens]); omega -splitDisjunctions))); all_goals try (repeat' ((first | ((with_reducible first | refine And.intro ?_ ?_ | refine Exists.intro ?_ ?_); first | omega | (simp <;> omega)) | (with_reducible refine spl (And.intro ?_ ?_) <;> intro _)) <;> ((try simp (implicitDefEqProofs := false)); (try simp (implicitDefEqProofs := false) (disch := first | assumption | (try simp only [lens]); omega -splitDisjunctions))))))
          refine HT_keep2 (n := b) (n' := b) (pre := [_, _, _]) (post := []) (b := 3) (ρ0 := [0, 1, 2]) (by rw [List.append_nil]; rfl) rfl rfl rfl rfl rfl (by simp [*]) (by simp [*]) (by simp [*]) (by simp [*]) flat_tab flat_tab (by simp) (by simp) (by simp) ?_
          simp
          all_goals first | exact ih | (refine at2 ih ?_ ?_ <;> simp; done) | (exfalso; first | omega | (simp_all; done) | (simp_all; omega))
        | succ k ih2 =>
          intro b hb
          have hbn : b < n := by omega
          have ih2 := ih2 (b + 1) (by omega)
          have hj := hbd false a b han hbn
          have hm := hbd true a b han hbn
          rw [bnd_join] at hj
          rw [bnd_meet] at hm
          rw [List.range_succ, List.all_append, List.all_cons, List.all_nil, Bool.and_true, List.map_append, List.map_append, List.map_cons, List.map_cons, List.map_nil, List.map_nil, ← Bool.and_assoc] at ih2
          generalize hr2 : (r && (List.range b).all (okB n g a)) = r2 at *
          rw [show okB n g a b = (decide (0 ≤ joinI n g a b) && decide (0 ≤ meetI n g a b)) from rfl] at ih2
          have hjl : ((List.range b).map (joinI n g a)).length = b := by simp
          have hml : ((List.range b).map (meetI n g a)).length = b := by simp
          generalize (List.range b).map (joinI n g a) = js at *
          generalize (List.range b).map (meetI n g a) = ms at *
          generalize joinI n g a b = jv at *
          generalize meetI n g a b = mv at *
          apply hQ
          clear hQ hbd ih hs
          have hix : a + (3 + n) = n + a + 3 := by omega
          clear l1 l2 hT1 hT2
          (((try simp (implicitDefEqProofs := false) [han, stG_getE, hix]); (try simp (implicitDefEqProofs := false) (disch := first | assumption | (try simp only [lens]); omega -splitDisjunctions) [han, stG_getE, hix])); all_goals try (repeat' ((first | ((with_reducible first | refine And.intro ?_ ?_ | refine Exists.intro ?_ ?_); first | omega | (simp <;> omega)) | (with_reducible refine spl (And.intro ?_ ?_) <;> intro _) | (refine CT.clo (hj) ?_) | (refine CT.clo (hm) ?_)) <;> ((try simp (implicitDefEqProofs := false) [han, stG_getE, hix]); (try simp (implicitDefEqProofs := false) (disch := first | assumption | (try simp only [lens]); omega -splitDisjunctions) [han, stG_getE, hix])))))
          all_goals (refine HT_putd2 (n := n) (n' := n) (pre := [_, _, _]) (b := 3) (ρ0 := [0, 1, 2]) (us := (js ++ [jv]).map intRow) (vs := (ms ++ [mv]).map intRow) rfl rfl rfl rfl rfl rfl (by simp) (by simp) han han (by simp) (by simp) (by first | omega | (simp; omega)) (by first | omega | (simp; omega)) (by first | omega | simp) (by simp [intRow]) (by simp [intRow]) flat_tab flat_tab flat_rows flat_rows (by simp) (by simp) (by simp) ?_)
          all_goals (rw [stG_rset, stG_rset, stG_lset (cur' := js ++ [jv]) (by simp), stG_lset (cur' := ms ++ [mv]) (by simp)]; simp)
          all_goals (clear ih hj hm; refine at2 ih2 ?_ ?_ <;> simp_all)
          all_goals (intros; omega)
      refine at2 (main _ 0 (Nat.zero_add _)) ?_ ?_ <;> simp
  refine at2 (main _ 0 (Nat.zero_add _)) ?_ ?_ <;> simp [stG_zero]
end Go.Proofs.Ythnobaacfjihcaa
