/-
  modlog: whole.
-/
import Derived.Test.YtliockncjdeloaaQMF
namespace Go.Proofs.Ytliockncjdeloaa
open Go Go.Pv
set_option linter.unusedVariables false
set_option linter.unusedSimpArgs false
set_option maxRecDepth 100000
set_option maxHeartbeats 4000000

/-- a world that shows what a box or a diamond asks for -/
def Sc.shows (c : Sc) (x i : Nat) (want : Bool) (y : Nat) : Bool := c.sees x y && (y.testBit (c.kid i 0) == want) && (!decide (c.lg = 8) || (y.testBit i != want))
def Sc.needs (c : Sc) (x i : Nat) : Bool := (decide (c.kind i = 8) || decide (c.kind i = 9)) && (x.testBit i == decide (c.kind i = 9))
def Sc.fine (c : Sc) (x i : Nat) : Bool := !c.needs x i || c.worlds.any (c.shows x i (decide (c.kind i = 9)))
def Sc.allFine (c : Sc) (x : Nat) : Bool := (List.range c.parts.length).all (c.fine x)
def Sc.some (c : Sc) (x n : Nat) : Bool := !decide (c.lg = 2) || (c.worlds.take n).any (c.sees x)
def Sc.whole (c : Sc) (x : Nat) : Bool := c.some x c.worlds.length && c.allFine x
def x65 : XC := .seq (.reg [⟨some 6,.assign (.const (.bool false)),none⟩]) (.seq (.drawn 1 [⟨some 7,.load 56 (.tmp 1),none⟩,⟨some 8,.load 3 (.tmp 2),none⟩,⟨some 9,.move (.tmp 0),none⟩,⟨some 10,.call ⟨.value (.func 57),#[.tmp 7,.tmp 8,.tmp 9],#[56,3,3]⟩,none⟩,⟨some 11,.move (.tmp 10),none⟩,⟨some 12,.move (.tmp 0),some (some 11,true)⟩,⟨some 13,.load 56 (.tmp 1),some (some 11,true)⟩,⟨some 14,.nilCheck (.tmp 13),some (some 11,true)⟩,⟨some 15,.fieldAddr 62 (.tmp 14) 2,some (some 11,true)⟩,⟨some 16,.load 60 (.tmp 15),some (some 11,true)⟩,⟨some 17,.load 3 (.tmp 3),some (some 11,true)⟩,⟨some 18,.indexAddr 60 (.tmp 16) (.tmp 17),some (some 11,true)⟩,⟨some 19,.load 59 (.tmp 18),some (some 11,true)⟩,⟨some 20,.indexAddr 59 (.tmp 19) (.const (.int .i64 0)),some (some 11,true)⟩,⟨some 21,.load 3 (.tmp 20),some (some 11,true)⟩,⟨some 22,.call ⟨.value (.func 31),#[.tmp 12,.tmp 21],#[3,3]⟩,some (some 11,true)⟩,⟨some 23,.load 4 (.tmp 4),some (some 11,true)⟩,⟨some 24,.binOp .eql 4 (.tmp 22) (.tmp 23) 4,some (some 11,true)⟩,⟨some 25,.pick (.tmp 11) (.tmp 24) (.const (.bool false)),none⟩,⟨some 26,.move (.tmp 25),none⟩,⟨some 27,.load 56 (.tmp 1),some (some 26,true)⟩,⟨some 28,.nilCheck (.tmp 27),some (some 26,true)⟩,⟨some 29,.fieldAddr 62 (.tmp 28) 0,some (some 26,true)⟩,⟨some 30,.load 3 (.tmp 29),some (some 26,true)⟩,⟨some 31,.binOp .neq 3 (.tmp 30) (.const (.int .i64 8)) 3,some (some 26,true)⟩,⟨some 32,.move (.tmp 31),some (some 26,true)⟩,⟨some 33,.move (.tmp 0),some (some 32,false)⟩,⟨some 34,.load 3 (.tmp 3),some (some 32,false)⟩,⟨some 35,.call ⟨.value (.func 31),#[.tmp 33,.tmp 34],#[3,3]⟩,some (some 32,false)⟩,⟨some 36,.load 4 (.tmp 4),some (some 32,false)⟩,⟨some 37,.binOp .neq 4 (.tmp 35) (.tmp 36) 4,some (some 32,false)⟩,⟨some 38,.pick (.tmp 32) (.const (.bool true)) (.tmp 37),some (some 26,true)⟩,⟨some 39,.pick (.tmp 26) (.tmp 38) (.const (.bool false)),none⟩,⟨some 6,.assign (.tmp 39),none⟩]) (.ret))
@[simp] theorem x65_s {C : WC} {e : AE} {s : Store} {K : KS} : type_of% (@X_at C e s K _ _ x65.eq_1) := X_at x65.eq_1
def an65 : Ann := ⟨[(1, .mix 30)], [], []⟩
def cx65 (P : Program) (m : Nat) : WC := ⟨P, m, an65⟩
@[simp] theorem cx65_a {P : Program} {m : Nat} : (cx65 P m).P = P ∧ (cx65 P m).m = m ∧ (cx65 P m).A.clsOf 1 = .mix 30 ∧ (cx65 P m).A.frzOf 1 = [] := ⟨rfl, rfl, rfl, rfl⟩
instance {P : Program} {m f : Nat} [h : EnT P f] : EnT (cx65 P m).P f := h
theorem chk65 : ∀ c, Try.f65.body = some c → chkC Try.f65.ntmps an65 c = true := by intro c h; obtain rfl := Option.some.inj h; decide +kernel
theorem op65 {args : List PV} {v : PV} (h : X (cx65 Try.prog 0) x65 (argsA 0 args) [] (.fin [.tmp 6] fun v1 s1 => deref s1 6 v1 = v)) (hl : args.length ≤ Try.f65.ntmps := by rw [Try.ntmps65]; simp) : CallOK Try.prog 65 args [] v [] :=
  callX (m := 0) (cx65 Try.prog 0) x65 rfl rfl (by kernel_rfl) Try.func65 rfl rfl hl mixed (chk65 _ rfl) (by rw [Try.results65]; exact h)

theorem whole1_modlog (c : Sc) (hc : c.OK) (x y i : Nat) (w : Bool) (hx : x < 1048576) (hy : y < 1048576) (hi : i < c.parts.length) (hn : 0 < c.parts[i].kids.length) :
    CallOK Try.prog 65 [.int .i64 (y : Int), .iptr [.iptr (scn c)], .iptr [.int .i64 (x : Int)], .iptr [.int .i64 (i : Int)], .iptr [.bool w]] [] (.bool (c.shows x i w y)) [] := by
  have hlen := hc.len
  have hfew := hc.few
  have hkl := hc.kl i hi
  have hkid : c.kid i 0 = (c.kids[i]'(by omega))[0]'(by omega) := by simp [Sc.kid, hlen, hi, hkl, hn]
  have hb := hc.kb _ (List.getElem_mem (show i < c.kids.length by omega)) _ (List.getElem_mem (show 0 < (c.kids[i]'(by omega)).length by omega))
  refine op65 ?_
  have hs := sees_modlog c hc x y hx hy
  unfold scn at hs ⊢
  ((try simp (implicitDefEqProofs := false) (disch := first | assumption | (try simp only [lens]); omega -splitDisjunctions)); all_goals try (repeat' ((first | ((with_reducible first | refine And.intro ?_ ?_ | refine Exists.intro ?_ ?_); first | omega | (simp <;> omega)) | (with_reducible refine spl (And.intro ?_ ?_) <;> intro _) | (refine CL.clo (hs) ?_) | (refine CM.clo (hs) ?_) | (refine CD.clo (hs) ?_) | (refine CL.clo (has_modlog y _ hy (Nat.lt_of_lt_of_le hb (by decide))) ?_) | (refine CM.clo (has_modlog y _ hy (Nat.lt_of_lt_of_le hb (by decide))) ?_) | (refine CD.clo (has_modlog y _ hy (Nat.lt_of_lt_of_le hb (by decide))) ?_) | (refine CL.clo (has_modlog y i hy (by omega)) ?_) | (refine CM.clo (has_modlog y i hy (by omega)) ?_) | (refine CD.clo (has_modlog y i hy (by omega)) ?_)) <;> (try simp (implicitDefEqProofs := false) (disch := first | assumption | (try simp only [lens]); omega -splitDisjunctions)))))
  all_goals (unfold Sc.shows; rw [hkid])
  all_goals (try simp only [Bool.not_eq_true', Bool.not_eq_false', decide_eq_true_eq, decide_eq_false_iff_not] at *)
  all_goals (try (rw [decide_eq_true (show c.lg = 8 by omega)]))
  all_goals (try (rw [decide_eq_false (show ¬ c.lg = 8 by omega)]))
  all_goals first
    | (simp [*]; done)
    | (simp [*]; cases y.testBit i <;> cases w <;> rfl)
def x56_L2 : XC := .seq (.reg [⟨some 41,.binOp .lss 3 (.tmp 40) (.tmp 39) 3,none⟩]) (.seq (.cond (.tmp 41) (.skip) (.exit 2)) (.seq (.block 3 (.seq (.reg [⟨some 42,.move (.tmp 40),none⟩,⟨some 43,.indexAddr 22 (.tmp 38) (.tmp 40),none⟩,⟨some 44,.load 24 (.tmp 43),none⟩,⟨some 8,.alloc 3,none⟩,⟨some 9,.alloc 24,none⟩,⟨none,.store 3 (.tmp 8) (.tmp 42),none⟩,⟨none,.store 24 (.tmp 9) (.tmp 44),none⟩]) (.seq (.reg [⟨some 45,.fieldAddr 24 (.tmp 9) 0,none⟩,⟨some 46,.load 3 (.tmp 45),none⟩,⟨some 47,.binOp .eql 3 (.tmp 46) (.const (.int .i64 9)) 3,none⟩,⟨some 10,.alloc 4,none⟩,⟨none,.store 4 (.tmp 10) (.tmp 47),none⟩]) (.seq (.seq (.drawn 13 [⟨some 48,.load 4 (.tmp 10),none⟩,⟨some 49,.unOp .not 4 (.tmp 48),none⟩,⟨some 50,.move (.tmp 49),none⟩,⟨some 51,.fieldAddr 24 (.tmp 9) 0,some (some 50,true)⟩,⟨some 52,.load 3 (.tmp 51),some (some 50,true)⟩,⟨some 53,.binOp .neq 3 (.tmp 52) (.const (.int .i64 8)) 3,some (some 50,true)⟩,⟨some 54,.pick (.tmp 50) (.tmp 53) (.const (.bool false)),none⟩,⟨some 55,.move (.tmp 54),none⟩,⟨some 56,.load 3 (.tmp 3),some (some 55,false)⟩,⟨some 57,.load 3 (.tmp 8),some (some 55,false)⟩,⟨some 58,.call ⟨.value (.func 31),#[.tmp 56,.tmp 57],#[3,3]⟩,some (some 55,false)⟩,⟨some 59,.load 4 (.tmp 10),some (some 55,false)⟩,⟨some 60,.binOp .neq 4 (.tmp 58) (.tmp 59) 4,some (some 55,false)⟩,⟨some 61,.pick (.tmp 55) (.const (.bool true)) (.tmp 60),none⟩]) (.cond (.tmp 61) (.exit 3) (.skip))) (.seq (.reg [⟨some 62,.load 56 (.tmp 2),none⟩,⟨some 63,.nilCheck (.tmp 62),none⟩,⟨some 64,.fieldAddr 62 (.tmp 63) 3,none⟩,⟨some 65,.load 59 (.tmp 64),none⟩,⟨some 66,.makeFunc (.func 65) #[] #[.tmp 2,.tmp 3,.tmp 8,.tmp 10],none⟩,⟨some 67,.call ⟨.value (.func 64),#[.tmp 65,.tmp 66],#[59,64]⟩,none⟩,⟨some 68,.unOp .not 4 (.tmp 67),none⟩]) (.cond (.tmp 68) (.seq (.reg [⟨some 4,.assign (.const (.bool false)),none⟩]) (.ret)) (.skip))))))) (.reg [⟨some 69,.binOp .add 3 (.tmp 40) (.const (.int .i64 1)) 3,none⟩,⟨some 40,.move (.tmp 69),none⟩])))
def x56_T1 : XC := .seq (.seq (.reg [⟨some 33,.move (.tmp 5),none⟩,⟨some 34,.unOp .not 4 (.tmp 33),none⟩]) (.cond (.tmp 34) (.seq (.reg [⟨some 4,.assign (.const (.bool false)),none⟩]) (.ret)) (.skip))) (.seq (.seq (.reg [⟨some 35,.load 56 (.tmp 2),none⟩,⟨some 36,.nilCheck (.tmp 35),none⟩,⟨some 37,.fieldAddr 62 (.tmp 36) 1,none⟩,⟨some 38,.load 22 (.tmp 37),none⟩,⟨some 39,.call ⟨.builtin .len,#[.tmp 38],#[22]⟩,none⟩,⟨some 40,.move (.const (.int .i64 0)),none⟩]) (.bloop 2 x56_L2)) (.seq (.reg [⟨some 4,.assign (.const (.bool true)),none⟩]) (.ret)))
def x56_L0 : XC := .seq (.reg [⟨some 22,.binOp .lss 3 (.tmp 21) (.tmp 20) 3,none⟩]) (.seq (.cond (.tmp 22) (.skip) (.exit 0)) (.seq (.block 1 (.seq (.reg [⟨some 23,.indexAddr 59 (.tmp 19) (.tmp 21),none⟩,⟨some 24,.load 3 (.tmp 23),none⟩,⟨some 7,.assign (.tmp 24),none⟩]) (.reg [⟨some 25,.move (.tmp 5),none⟩,⟨some 26,.move (.tmp 25),none⟩,⟨some 27,.load 56 (.tmp 2),some (some 26,false)⟩,⟨some 28,.load 3 (.tmp 3),some (some 26,false)⟩,⟨some 29,.move (.tmp 7),some (some 26,false)⟩,⟨some 30,.call ⟨.value (.func 57),#[.tmp 27,.tmp 28,.tmp 29],#[56,3,3]⟩,some (some 26,false)⟩,⟨some 31,.pick (.tmp 26) (.const (.bool true)) (.tmp 30),none⟩,⟨some 5,.assign (.tmp 31),none⟩]))) (.reg [⟨some 32,.binOp .add 3 (.tmp 21) (.const (.int .i64 1)) 3,none⟩,⟨some 21,.move (.tmp 32),none⟩])))
def x56 : XC := .seq (.reg [⟨some 2,.box 56 (.tmp 0),none⟩,⟨some 3,.box 3 (.tmp 1),none⟩,⟨some 4,.assign (.const (.bool false)),none⟩]) (.seq (.reg [⟨some 11,.load 56 (.tmp 2),none⟩,⟨some 12,.nilCheck (.tmp 11),none⟩,⟨some 13,.fieldAddr 62 (.tmp 12) 0,none⟩,⟨some 14,.load 3 (.tmp 13),none⟩,⟨some 15,.binOp .neq 3 (.tmp 14) (.const (.int .i64 2)) 3,none⟩,⟨some 5,.assign (.tmp 15),none⟩]) (.seq (.seq (.reg [⟨some 16,.load 56 (.tmp 2),none⟩,⟨some 17,.nilCheck (.tmp 16),none⟩,⟨some 18,.fieldAddr 62 (.tmp 17) 3,none⟩,⟨some 19,.load 59 (.tmp 18),none⟩,⟨some 20,.call ⟨.builtin .len,#[.tmp 19],#[59]⟩,none⟩,⟨some 21,.move (.const (.int .i64 0)),none⟩]) (.bloop 0 x56_L0)) (x56_T1)))
@[simp] theorem x56_s {C : WC} {e : AE} {s : Store} {K : KS} : type_of% (@X_at C e s K _ _ x56_L2.eq_1) ∧ type_of% (@X_at C e s K _ _ x56_T1.eq_1) ∧ type_of% (@X_at C e s K _ _ x56_L0.eq_1) ∧ type_of% (@X_at C e s K _ _ x56.eq_1) := ⟨X_at x56_L2.eq_1, X_at x56_T1.eq_1, X_at x56_L0.eq_1, X_at x56.eq_1⟩
def an56 : Ann := ⟨[(13, .mix 12)], [(2, [], [2, 3, 38, 39, 40], [4]), (0, [], [2, 3, 5, 19, 20, 21], [2, 3, 5])], []⟩
def cx56 (P : Program) (m : Nat) : WC := ⟨P, m, an56⟩
@[simp] theorem cx56_a {P : Program} {m : Nat} : (cx56 P m).P = P ∧ (cx56 P m).m = m ∧ (cx56 P m).A.clsOf 13 = .mix 12 ∧ (cx56 P m).A.frzOf 13 = [] ∧ (cx56 P m).A.loopOf 2 = ([], [2, 3, 38, 39, 40], [4]) ∧ (cx56 P m).A.loopOf 0 = ([], [2, 3, 5, 19, 20, 21], [2, 3, 5]) := ⟨rfl, rfl, rfl, rfl, rfl, rfl⟩
instance {P : Program} {m f : Nat} [h : EnT P f] : EnT (cx56 P m).P f := h
theorem chk56 : ∀ c, Try.f56.body = some c → chkC Try.f56.ntmps an56 c = true := by intro c h; obtain rfl := Option.some.inj h; decide +kernel
theorem op56 {args : List PV} {v : PV} (h : X (cx56 Try.prog 0) x56 (argsA 0 args) [] (.fin [.tmp 4] fun v1 s1 => deref s1 6 v1 = v)) (hl : args.length ≤ Try.f56.ntmps := by rw [Try.ntmps56]; simp) : CallOK Try.prog 56 args [] v [] :=
  callX (m := 0) (cx56 Try.prog 0) x56 rfl rfl (by kernel_rfl) Try.func56 rfl rfl hl mixed (chk56 _ rfl) (by rw [Try.results56]; exact h)

theorem whole_loop (c : Sc) (hc : c.OK) (x : Nat) (hx : x < 1048576) : W (cx56 Try.prog 0) 2 x56_L2
    (KS.seq ((XC.reg [{ d := some 4, op := Op.assign (Operand.const (Value.bool true)), g := none }]).seq XC.ret) (KS.fin [ResultVar.tmp 4] fun v1 s1 => deref s1 6 v1 = PV.bool (c.allFine x)))
    [(2, .ptr 0 0 0), (3, .ptr 1 0 0), (38, .list (c.parts.map frm)), (39, .int .i64 (c.parts.length : Int)), (40, .int .i64 0)] [.rows 1 [[.iptr (scn c)]], .rows 1 [[.int .i64 (x : Int)]]] := by
  have hfew := hc.few
  refine W_of fun Q hQ => ?_
  have main : ∀ n i, i + n = c.parts.length → (∀ j, j < i → c.fine x j = true) → Q [(2, .ptr 0 0 0), (3, .ptr 1 0 0), (38, .list (c.parts.map frm)), (39, .int .i64 (c.parts.length : Int)), (40, .int .i64 (i : Int))] [.rows 1 [[.iptr (scn c)]], .rows 1 [[.int .i64 (x : Int)]]] := by
    intro n
    induction n with
    | zero =>
      intro i hi hb
      apply hQ
      unfold scn
      ((try simp (implicitDefEqProofs := false) (disch := first | assumption | (try simp only [lens]); omega -splitDisjunctions)); all_goals try (repeat' ((first | ((with_reducible first | refine And.intro ?_ ?_ | refine Exists.intro ?_ ?_); first | omega | (simp <;> omega)) | (with_reducible refine spl (And.intro ?_ ?_) <;> intro _)) <;> (try simp (implicitDefEqProofs := false) (disch := first | assumption | (try simp only [lens]); omega -splitDisjunctions)))))
      rw [Sc.allFine, all_range_true fun j hj => hb j (by omega)]
    | succ n ih =>
      intro i hi hb
      have hil : i < c.parts.length := by omega
      have hki : c.kind i = c.parts[i].kind := by simp [Sc.kind, hil]
      have l8 := fun (h : 0 < c.parts[i].kids.length) => ContainsFunc_int c.worlds 65 [] [.iptr [.iptr (scn c)], .iptr [.int .i64 (x : Int)], .iptr [.int .i64 (i : Int)], .iptr [.bool false]] (c.shows x i false) (fun y hy => whole1_modlog c hc x y i false hx (hc.wb y hy) hil h)
      have l9 := fun (h : 0 < c.parts[i].kids.length) => ContainsFunc_int c.worlds 65 [] [.iptr [.iptr (scn c)], .iptr [.int .i64 (x : Int)], .iptr [.int .i64 (i : Int)], .iptr [.bool true]] (c.shows x i true) (fun y hy => whole1_modlog c hc x y i true hx (hc.wb y hy) hil h)
      have hh := has_modlog x i hx (by omega)
      apply hQ
      have hok := hc.ok _ (List.getElem_mem hil)
      unfold scn at l8 l9 ⊢
      generalize hw : c.parts[i] = f at hki hok l8 l9
      rcases hok.nine with ⟨nm, hn, rfl⟩ | ⟨nm, rfl⟩ | ⟨nm, rfl⟩ | ⟨nm, a, ha, rfl⟩ | ⟨nm, a, b, ha, hb', rfl⟩ | ⟨nm, a, b, ha, hb', rfl⟩ | ⟨nm, a, b, ha, hb', rfl⟩ | ⟨nm, a, ha, rfl⟩ | ⟨nm, a, ha, rfl⟩
      all_goals ((try simp (implicitDefEqProofs := false) (disch := first | assumption | (try simp only [lens]); omega -splitDisjunctions) [hw]); all_goals try (repeat' ((first | ((with_reducible first | refine And.intro ?_ ?_ | refine Exists.intro ?_ ?_); first | omega | (simp <;> omega)) | (with_reducible refine spl (And.intro ?_ ?_) <;> intro _) | (refine CL.clo (hh) ?_) | (refine CM.clo (hh) ?_) | (refine CD.clo (hh) ?_) | (refine CL.see (l8 (by simp)) ?_ ?_ ?_; (focus (simp [scn]; done)); (focus (simp [flats]; done))) | (refine CD.see (l8 (by simp)) ?_ ?_ ?_; (focus (simp [scn]; done)); (focus (simp [flats]; done))) | (refine CL.see (l9 (by simp)) ?_ ?_ ?_; (focus (simp [scn]; done)); (focus (simp [flats]; done))) | (refine CD.see (l9 (by simp)) ?_ ?_ ?_; (focus (simp [scn]; done)); (focus (simp [flats]; done)))) <;> (try simp (implicitDefEqProofs := false) (disch := first | assumption | (try simp only [lens]); omega -splitDisjunctions) [hw]))))
      all_goals clear l8 l9
      all_goals first
        | refine at2 (ih (i + 1) (by omega) (fun j hj => ?_)) ?_ ?_
        | (rw [Sc.allFine]; refine all_range_false hil ?_)
      all_goals first
        | (simp; done)
        | (simp [scn]; done)
        | (rcases Nat.lt_or_ge j i with h | h
           · exact hb j h
           obtain rfl : j = i := by omega)
        | skip
      all_goals clear ih hb
      all_goals (simp only [Sc.fine, Sc.needs, hki, fm_kind]; first | (simp [*]; done) | (simp_all; done))
  exact main _ 0 (Nat.zero_add _) (fun j hj => by omega)
theorem whole_modlog (c : Sc) (hc : c.OK) (x : Nat) (hx : x < 1048576) : CallOK Try.prog 56 [.iptr (scn c), .int .i64 (x : Int)] [] (.bool (c.whole x)) [] := by
  have hl := whole_loop c hc x hx
  refine op56 ?_
  unfold scn at hl ⊢
  ((try simp (implicitDefEqProofs := false) (disch := first | assumption | (try simp only [lens]); omega -splitDisjunctions)); all_goals try (repeat' ((first | ((with_reducible first | refine And.intro ?_ ?_ | refine Exists.intro ?_ ?_); first | omega | (simp <;> omega)) | (with_reducible refine spl (And.intro ?_ ?_) <;> intro _)) <;> (try simp (implicitDefEqProofs := false) (disch := first | assumption | (try simp only [lens]); omega -splitDisjunctions)))))
  refine W_of fun Q hQ => ?_
  have main : ∀ n i, i + n = c.worlds.length → Q [(2, .ptr 0 0 0), (3, .ptr 1 0 0), (5, .bool (c.some x i)), (19, .list (c.worlds.map numRow)), (20, .int .i64 (c.worlds.length : Int)), (21, .int .i64 (i : Int))] [.rows 1 [[.iptr (scn c)]], .rows 1 [[.int .i64 (x : Int)]]] := by
    intro n
    induction n with
    | zero =>
      intro i hi
      apply hQ
      unfold scn
      have he : i = c.worlds.length := by omega
      subst he
      ((try simp (implicitDefEqProofs := false) (disch := first | assumption | (try simp only [lens]); omega -splitDisjunctions)); all_goals try (repeat' ((first | ((with_reducible first | refine And.intro ?_ ?_ | refine Exists.intro ?_ ?_); first | omega | (simp <;> omega)) | (with_reducible refine spl (And.intro ?_ ?_) <;> intro _)) <;> (try simp (implicitDefEqProofs := false) (disch := first | assumption | (try simp only [lens]); omega -splitDisjunctions)))))
      · rename_i hsome
        simp only [Bool.not_eq_true'] at hsome
        simp [Sc.whole, hsome]
      · rename_i hsome _
        simp only [Bool.not_eq_false'] at hsome
        rw [show c.whole x = c.allFine x by simp [Sc.whole, hsome]]
        exact hl
    | succ n ih =>
      intro i hi
      have hil : i < c.worlds.length := by omega
      have hs := sees_modlog c hc x c.worlds[i] hx (hc.wb _ (List.getElem_mem hil))
      have hst : c.some x (i + 1) = (c.some x i || c.sees x c.worlds[i]) := by
        rw [Sc.some, Sc.some, take_snoc hil]; simp only [List.any_append, List.any_cons, List.any_nil, Bool.or_false, Bool.or_assoc]
      have ih := ih (i + 1) (by omega)
      rw [hst] at ih
      apply hQ
      unfold scn at hs ih ⊢
      ((try simp (implicitDefEqProofs := false) (disch := first | assumption | (try simp only [lens]); omega -splitDisjunctions)); all_goals try (repeat' ((first | ((with_reducible first | refine And.intro ?_ ?_ | refine Exists.intro ?_ ?_); first | omega | (simp <;> omega)) | (with_reducible refine spl (And.intro ?_ ?_) <;> intro _) | (refine CL.clo (hs) ?_) | (refine CM.clo (hs) ?_) | (refine CD.clo (hs) ?_)) <;> (try simp (implicitDefEqProofs := false) (disch := first | assumption | (try simp only [lens]); omega -splitDisjunctions)))))
      all_goals (refine at2 ih ?_ ?_ <;> simp [*])
  refine at2 (main _ 0 (Nat.zero_add _)) ?_ ?_
  · simp [Sc.some]
    omega
  · simp [scn]
end Go.Proofs.Ytliockncjdeloaa
