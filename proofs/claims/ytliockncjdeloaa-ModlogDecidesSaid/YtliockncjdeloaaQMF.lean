/-
  modlog: local.
-/
import Derived.Test.YtliockncjdeloaaQME
namespace Go.Proofs.Ytliockncjdeloaa
open Go Go.Pv
set_option linter.unusedVariables false
set_option linter.unusedSimpArgs false
set_option maxRecDepth 100000
set_option maxHeartbeats 4000000

def Sc.refl (c : Sc) : Bool := decide (c.lg = 3 ∨ c.lg = 5 ∨ c.lg = 6 ∨ c.lg = 7)
/-- what a part must be where its own parts are as the set says -/
def Sc.want (c : Sc) (x i : Nat) : Bool :=
  let a := x.testBit (c.kid i 0)
  let b := x.testBit (c.kid i 1)
  if c.kind i = 2 then true else if c.kind i = 3 then false else if c.kind i = 4 then !a else if c.kind i = 5 then a && b else if c.kind i = 6 then a || b else if c.kind i = 7 then !a || b
  else if c.kind i = 8 then x.testBit i && (a || !c.refl) else if c.kind i = 9 then x.testBit i || (a && c.refl) else x.testBit i
def Sc.locl (c : Sc) (x : Nat) : Bool := (List.range c.parts.length).all fun i => x.testBit i == c.want x i
def x63 : XC := .seq (.reg [⟨some 5,.assign (.const (.bool false)),none⟩]) (.seq (.drawn 1 [⟨some 6,.load 3 (.tmp 1),none⟩,⟨some 7,.load 56 (.tmp 2),none⟩,⟨some 8,.nilCheck (.tmp 7),none⟩,⟨some 9,.fieldAddr 62 (.tmp 8) 2,none⟩,⟨some 10,.load 60 (.tmp 9),none⟩,⟨some 11,.load 3 (.tmp 3),none⟩,⟨some 12,.indexAddr 60 (.tmp 10) (.tmp 11),none⟩,⟨some 13,.load 59 (.tmp 12),none⟩,⟨some 14,.move (.tmp 0),none⟩,⟨some 15,.indexAddr 59 (.tmp 13) (.tmp 14),none⟩,⟨some 16,.load 3 (.tmp 15),none⟩,⟨some 17,.call ⟨.value (.func 31),#[.tmp 6,.tmp 16],#[3,3]⟩,none⟩,⟨some 5,.assign (.tmp 17),none⟩]) (.ret))
@[simp] theorem x63_s {C : WC} {e : AE} {s : Store} {K : KS} : type_of% (@X_at C e s K _ _ x63.eq_1) := X_at x63.eq_1
def an63 : Ann := ⟨[(1, .mix 11)], [], []⟩
def cx63 (P : Program) (m : Nat) : WC := ⟨P, m, an63⟩
@[simp] theorem cx63_a {P : Program} {m : Nat} : (cx63 P m).P = P ∧ (cx63 P m).m = m ∧ (cx63 P m).A.clsOf 1 = .mix 11 ∧ (cx63 P m).A.frzOf 1 = [] := ⟨rfl, rfl, rfl, rfl⟩
instance {P : Program} {m f : Nat} [h : EnT P f] : EnT (cx63 P m).P f := h
theorem chk63 : ∀ c, Try.f63.body = some c → chkC Try.f63.ntmps an63 c = true := by intro c h; obtain rfl := Option.some.inj h; decide +kernel
theorem op63 {args : List PV} {v : PV} (h : X (cx63 Try.prog 0) x63 (argsA 0 args) [] (.fin [.tmp 5] fun v1 s1 => deref s1 6 v1 = v)) (hl : args.length ≤ Try.f63.ntmps := by rw [Try.ntmps63]; simp) : CallOK Try.prog 63 args [] v [] :=
  callX (m := 0) (cx63 Try.prog 0) x63 rfl rfl (by kernel_rfl) Try.func63 rfl rfl hl mixed (chk63 _ rfl) (by rw [Try.results63]; exact h)

theorem local1_modlog (c : Sc) (hc : c.OK) (x i n : Nat) (hx : x < 1048576) (hi : i < c.parts.length) (hn : n < c.parts[i].kids.length) :
    CallOK Try.prog 63 [.int .i64 (n : Int), .iptr [.int .i64 (x : Int)], .iptr [.iptr (scn c)], .iptr [.int .i64 (i : Int)]] [] (.bool (x.testBit (c.kid i n))) [] := by
  have hlen := hc.len
  have hkl := hc.kl i hi
  have hkid : c.kid i n = (c.kids[i]'(by omega))[n]'(by omega) := by simp [Sc.kid, hlen, hi, hkl, hn]
  have hb := hc.kb _ (List.getElem_mem (show i < c.kids.length by omega)) _ (List.getElem_mem (show n < (c.kids[i]'(by omega)).length by omega))
  refine op63 ?_
  unfold scn
  ((try simp (implicitDefEqProofs := false) (disch := first | assumption | (try simp only [lens]); omega -splitDisjunctions)); all_goals try (repeat' ((first | ((with_reducible first | refine And.intro ?_ ?_ | refine Exists.intro ?_ ?_); first | omega | (simp <;> omega)) | (with_reducible refine spl (And.intro ?_ ?_) <;> intro _) | (refine CL.clo (has_modlog x _ hx (Nat.lt_of_lt_of_le hb (by decide))) ?_) | (refine CM.clo (has_modlog x _ hx (Nat.lt_of_lt_of_le hb (by decide))) ?_) | (refine CD.clo (has_modlog x _ hx (Nat.lt_of_lt_of_le hb (by decide))) ?_)) <;> (try simp (implicitDefEqProofs := false) (disch := first | assumption | (try simp only [lens]); omega -splitDisjunctions)))))
  all_goals rw [hkid]
def x52_L0 : XC := .seq (.reg [⟨some 43,.binOp .lss 3 (.tmp 42) (.tmp 41) 3,none⟩]) (.seq (.cond (.tmp 43) (.skip) (.exit 0)) (.seq (.block 1 (.seq (.reg [⟨some 44,.move (.tmp 42),none⟩,⟨some 45,.indexAddr 22 (.tmp 40) (.tmp 42),none⟩,⟨some 46,.load 24 (.tmp 45),none⟩,⟨some 6,.alloc 3,none⟩,⟨some 7,.alloc 24,none⟩,⟨none,.store 3 (.tmp 6) (.tmp 44),none⟩,⟨none,.store 24 (.tmp 7) (.tmp 46),none⟩]) (.seq (.reg [⟨some 47,.load 3 (.tmp 3),none⟩,⟨some 48,.load 3 (.tmp 6),none⟩,⟨some 49,.call ⟨.value (.func 31),#[.tmp 47,.tmp 48],#[3,3]⟩,none⟩,⟨some 50,.makeFunc (.func 63) #[] #[.tmp 3,.tmp 2,.tmp 6],none⟩,⟨some 8,.assign (.tmp 49),none⟩,⟨some 9,.assign (.tmp 50),none⟩]) (.seq (.reg [⟨some 51,.move (.tmp 8),none⟩,⟨some 10,.assign (.tmp 51),none⟩]) (.seq (.seq (.reg [⟨some 52,.fieldAddr 24 (.tmp 7) 0,none⟩,⟨some 53,.load 3 (.tmp 52),none⟩]) (.block 2 (.seq (.reg [⟨some 55,.binOp .eql 3 (.tmp 53) (.const (.int .i64 2)) 3,none⟩,⟨some 54,.assign (.tmp 55),none⟩]) (.cond (.tmp 54) (.reg [⟨some 10,.assign (.const (.bool true)),none⟩]) (.seq (.reg [⟨some 57,.binOp .eql 3 (.tmp 53) (.const (.int .i64 3)) 3,none⟩,⟨some 56,.assign (.tmp 57),none⟩]) (.cond (.tmp 56) (.reg [⟨some 10,.assign (.const (.bool false)),none⟩]) (.seq (.reg [⟨some 59,.binOp .eql 3 (.tmp 53) (.const (.int .i64 4)) 3,none⟩,⟨some 58,.assign (.tmp 59),none⟩]) (.cond (.tmp 58) (.reg [⟨some 60,.move (.tmp 9),none⟩,⟨some 61,.call ⟨.value (.tmp 60),#[.const (.int .i64 0)],#[3]⟩,none⟩,⟨some 62,.unOp .not 4 (.tmp 61),none⟩,⟨some 10,.assign (.tmp 62),none⟩]) (.seq (.reg [⟨some 64,.binOp .eql 3 (.tmp 53) (.const (.int .i64 5)) 3,none⟩,⟨some 63,.assign (.tmp 64),none⟩]) (.cond (.tmp 63) (.reg [⟨some 65,.move (.tmp 9),none⟩,⟨some 66,.call ⟨.value (.tmp 65),#[.const (.int .i64 0)],#[3]⟩,none⟩,⟨some 67,.move (.tmp 66),none⟩,⟨some 68,.move (.tmp 9),some (some 67,true)⟩,⟨some 69,.call ⟨.value (.tmp 68),#[.const (.int .i64 1)],#[3]⟩,some (some 67,true)⟩,⟨some 70,.pick (.tmp 67) (.tmp 69) (.const (.bool false)),none⟩,⟨some 10,.assign (.tmp 70),none⟩]) (.seq (.reg [⟨some 72,.binOp .eql 3 (.tmp 53) (.const (.int .i64 6)) 3,none⟩,⟨some 71,.assign (.tmp 72),none⟩]) (.cond (.tmp 71) (.reg [⟨some 73,.move (.tmp 9),none⟩,⟨some 74,.call ⟨.value (.tmp 73),#[.const (.int .i64 0)],#[3]⟩,none⟩,⟨some 75,.move (.tmp 74),none⟩,⟨some 76,.move (.tmp 9),some (some 75,false)⟩,⟨some 77,.call ⟨.value (.tmp 76),#[.const (.int .i64 1)],#[3]⟩,some (some 75,false)⟩,⟨some 78,.pick (.tmp 75) (.const (.bool true)) (.tmp 77),none⟩,⟨some 10,.assign (.tmp 78),none⟩]) (.seq (.reg [⟨some 80,.binOp .eql 3 (.tmp 53) (.const (.int .i64 7)) 3,none⟩,⟨some 79,.assign (.tmp 80),none⟩]) (.cond (.tmp 79) (.reg [⟨some 81,.move (.tmp 9),none⟩,⟨some 82,.call ⟨.value (.tmp 81),#[.const (.int .i64 0)],#[3]⟩,none⟩,⟨some 83,.unOp .not 4 (.tmp 82),none⟩,⟨some 84,.move (.tmp 83),none⟩,⟨some 85,.move (.tmp 9),some (some 84,false)⟩,⟨some 86,.call ⟨.value (.tmp 85),#[.const (.int .i64 1)],#[3]⟩,some (some 84,false)⟩,⟨some 87,.pick (.tmp 84) (.const (.bool true)) (.tmp 86),none⟩,⟨some 10,.assign (.tmp 87),none⟩]) (.seq (.reg [⟨some 89,.binOp .eql 3 (.tmp 53) (.const (.int .i64 8)) 3,none⟩,⟨some 88,.assign (.tmp 89),none⟩]) (.cond (.tmp 88) (.reg [⟨some 90,.move (.tmp 8),none⟩,⟨some 91,.move (.tmp 90),none⟩,⟨some 92,.move (.tmp 9),some (some 91,true)⟩,⟨some 93,.call ⟨.value (.tmp 92),#[.const (.int .i64 0)],#[3]⟩,some (some 91,true)⟩,⟨some 94,.move (.tmp 93),some (some 91,true)⟩,⟨some 95,.move (.tmp 5),some (some 94,false)⟩,⟨some 96,.unOp .not 4 (.tmp 95),some (some 94,false)⟩,⟨some 97,.pick (.tmp 94) (.const (.bool true)) (.tmp 96),some (some 91,true)⟩,⟨some 98,.pick (.tmp 91) (.tmp 97) (.const (.bool false)),none⟩,⟨some 10,.assign (.tmp 98),none⟩]) (.seq (.reg [⟨some 100,.binOp .eql 3 (.tmp 53) (.const (.int .i64 9)) 3,none⟩,⟨some 99,.assign (.tmp 100),none⟩]) (.cond (.tmp 99) (.reg [⟨some 101,.move (.tmp 8),none⟩,⟨some 102,.move (.tmp 101),none⟩,⟨some 103,.move (.tmp 9),some (some 102,false)⟩,⟨some 104,.call ⟨.value (.tmp 103),#[.const (.int .i64 0)],#[3]⟩,some (some 102,false)⟩,⟨some 105,.move (.tmp 104),some (some 102,false)⟩,⟨some 106,.move (.tmp 5),some (some 105,true)⟩,⟨some 107,.pick (.tmp 105) (.tmp 106) (.const (.bool false)),some (some 102,false)⟩,⟨some 108,.pick (.tmp 102) (.const (.bool true)) (.tmp 107),none⟩,⟨some 10,.assign (.tmp 108),none⟩]) (.skip))))))))))))))))))) (.seq (.reg [⟨some 109,.move (.tmp 8),none⟩,⟨some 110,.move (.tmp 10),none⟩,⟨some 111,.binOp .neq 4 (.tmp 109) (.tmp 110) 4,none⟩]) (.cond (.tmp 111) (.seq (.reg [⟨some 4,.assign (.const (.bool false)),none⟩]) (.ret)) (.skip)))))))) (.reg [⟨some 112,.binOp .add 3 (.tmp 42) (.const (.int .i64 1)) 3,none⟩,⟨some 42,.move (.tmp 112),none⟩])))
def x52 : XC := .seq (.reg [⟨some 2,.box 56 (.tmp 0),none⟩,⟨some 3,.box 3 (.tmp 1),none⟩,⟨some 4,.assign (.const (.bool false)),none⟩]) (.seq (.reg [⟨some 11,.load 56 (.tmp 2),none⟩,⟨some 12,.nilCheck (.tmp 11),none⟩,⟨some 13,.fieldAddr 62 (.tmp 12) 0,none⟩,⟨some 14,.load 3 (.tmp 13),none⟩,⟨some 15,.binOp .eql 3 (.tmp 14) (.const (.int .i64 3)) 3,none⟩,⟨some 16,.move (.tmp 15),none⟩,⟨some 17,.load 56 (.tmp 2),some (some 16,false)⟩,⟨some 18,.nilCheck (.tmp 17),some (some 16,false)⟩,⟨some 19,.fieldAddr 62 (.tmp 18) 0,some (some 16,false)⟩,⟨some 20,.load 3 (.tmp 19),some (some 16,false)⟩,⟨some 21,.binOp .eql 3 (.tmp 20) (.const (.int .i64 5)) 3,some (some 16,false)⟩,⟨some 22,.pick (.tmp 16) (.const (.bool true)) (.tmp 21),none⟩,⟨some 23,.move (.tmp 22),none⟩,⟨some 24,.load 56 (.tmp 2),some (some 23,false)⟩,⟨some 25,.nilCheck (.tmp 24),some (some 23,false)⟩,⟨some 26,.fieldAddr 62 (.tmp 25) 0,some (some 23,false)⟩,⟨some 27,.load 3 (.tmp 26),some (some 23,false)⟩,⟨some 28,.binOp .eql 3 (.tmp 27) (.const (.int .i64 6)) 3,some (some 23,false)⟩,⟨some 29,.pick (.tmp 23) (.const (.bool true)) (.tmp 28),none⟩,⟨some 30,.move (.tmp 29),none⟩,⟨some 31,.load 56 (.tmp 2),some (some 30,false)⟩,⟨some 32,.nilCheck (.tmp 31),some (some 30,false)⟩,⟨some 33,.fieldAddr 62 (.tmp 32) 0,some (some 30,false)⟩,⟨some 34,.load 3 (.tmp 33),some (some 30,false)⟩,⟨some 35,.binOp .eql 3 (.tmp 34) (.const (.int .i64 7)) 3,some (some 30,false)⟩,⟨some 36,.pick (.tmp 30) (.const (.bool true)) (.tmp 35),none⟩,⟨some 5,.assign (.tmp 36),none⟩]) (.seq (.seq (.reg [⟨some 37,.load 56 (.tmp 2),none⟩,⟨some 38,.nilCheck (.tmp 37),none⟩,⟨some 39,.fieldAddr 62 (.tmp 38) 1,none⟩,⟨some 40,.load 22 (.tmp 39),none⟩,⟨some 41,.call ⟨.builtin .len,#[.tmp 40],#[22]⟩,none⟩,⟨some 42,.move (.const (.int .i64 0)),none⟩]) (.bloop 0 x52_L0)) (.seq (.reg [⟨some 4,.assign (.const (.bool true)),none⟩]) (.ret))))
@[simp] theorem x52_s {C : WC} {e : AE} {s : Store} {K : KS} : type_of% (@X_at C e s K _ _ x52_L0.eq_1) ∧ type_of% (@X_at C e s K _ _ x52.eq_1) := ⟨X_at x52_L0.eq_1, X_at x52.eq_1⟩
def an52 : Ann := ⟨[], [(0, [], [2, 3, 5, 40, 41, 42], [4])], []⟩
def cx52 (P : Program) (m : Nat) : WC := ⟨P, m, an52⟩
@[simp] theorem cx52_a {P : Program} {m : Nat} : (cx52 P m).P = P ∧ (cx52 P m).m = m ∧ (cx52 P m).A.loopOf 0 = ([], [2, 3, 5, 40, 41, 42], [4]) := ⟨rfl, rfl, rfl⟩
instance {P : Program} {m f : Nat} [h : EnT P f] : EnT (cx52 P m).P f := h
theorem chk52 : ∀ c, Try.f52.body = some c → chkC Try.f52.ntmps an52 c = true := by intro c h; obtain rfl := Option.some.inj h; decide +kernel
theorem op52 {args : List PV} {v : PV} (h : X (cx52 Try.prog 0) x52 (argsA 0 args) [] (.fin [.tmp 4] fun v1 s1 => deref s1 6 v1 = v)) (hl : args.length ≤ Try.f52.ntmps := by rw [Try.ntmps52]; simp) : CallOK Try.prog 52 args [] v [] :=
  callX (m := 0) (cx52 Try.prog 0) x52 rfl rfl (by kernel_rfl) Try.func52 rfl rfl hl mixed (chk52 _ rfl) (by rw [Try.results52]; exact h)

theorem local_loop (c : Sc) (hc : c.OK) (x : Nat) (hx : x < 1048576) (r : Bool) (hr : r = c.refl) : W (cx52 Try.prog 0) 0 x52_L0
    (KS.seq ((XC.reg [{ d := some 4, op := Op.assign (Operand.const (Value.bool true)), g := none }]).seq XC.ret) (KS.fin [ResultVar.tmp 4] fun v1 s1 => deref s1 6 v1 = PV.bool (c.locl x)))
    [(2, .ptr 0 0 0), (3, .ptr 1 0 0), (5, .bool r), (40, .list (c.parts.map frm)), (41, .int .i64 (c.parts.length : Int)), (42, .int .i64 0)] [.rows 1 [[.iptr (scn c)]], .rows 1 [[.int .i64 (x : Int)]]] := by
  have hfew := hc.few
  subst hr
  refine W_of fun Q hQ => ?_
  have main : ∀ n i, i + n = c.parts.length → (∀ j, j < i → (x.testBit j == c.want x j) = true) → Q [(2, .ptr 0 0 0), (3, .ptr 1 0 0), (5, .bool c.refl), (40, .list (c.parts.map frm)), (41, .int .i64 (c.parts.length : Int)), (42, .int .i64 (i : Int))] [.rows 1 [[.iptr (scn c)]], .rows 1 [[.int .i64 (x : Int)]]] := by
    intro n
    induction n with
    | zero =>
      intro i hi hb
      apply hQ
      unfold scn
      ((try simp (implicitDefEqProofs := false) (disch := first | assumption | (try simp only [lens]); omega -splitDisjunctions)); all_goals try (repeat' ((first | ((with_reducible first | refine And.intro ?_ ?_ | refine Exists.intro ?_ ?_); first | omega | (simp <;> omega)) | (with_reducible refine spl (And.intro ?_ ?_) <;> intro _)) <;> (try simp (implicitDefEqProofs := false) (disch := first | assumption | (try simp only [lens]); omega -splitDisjunctions)))))
      rw [Sc.locl, all_range_true fun j hj => hb j (by omega)]
    | succ n ih =>
      intro i hi hb
      have hil : i < c.parts.length := by omega
      have hki : c.kind i = c.parts[i].kind := by simp [Sc.kind, hil]
      have l0 := fun h => local1_modlog c hc x i 0 hx hil h
      have l1 := fun h => local1_modlog c hc x i 1 hx hil h
      apply hQ
      have hok := hc.ok _ (List.getElem_mem hil)
      unfold scn at l0 l1 ⊢
      generalize hw : c.parts[i] = f at hki hok l0 l1
      rcases hok.nine with ⟨nm, hn, rfl⟩ | ⟨nm, rfl⟩ | ⟨nm, rfl⟩ | ⟨nm, a, ha, rfl⟩ | ⟨nm, a, b, ha, hb', rfl⟩ | ⟨nm, a, b, ha, hb', rfl⟩ | ⟨nm, a, b, ha, hb', rfl⟩ | ⟨nm, a, ha, rfl⟩ | ⟨nm, a, ha, rfl⟩
      all_goals ((try simp (implicitDefEqProofs := false) (disch := first | assumption | (try simp only [lens]); omega -splitDisjunctions) [hw]); all_goals try (repeat' ((first | ((with_reducible first | refine And.intro ?_ ?_ | refine Exists.intro ?_ ?_); first | omega | (simp <;> omega)) | (with_reducible refine spl (And.intro ?_ ?_) <;> intro _) | (refine CL.clo (has_modlog x i hx (by omega)) ?_) | (refine CM.clo (has_modlog x i hx (by omega)) ?_) | (refine CD.clo (has_modlog x i hx (by omega)) ?_) | (refine CL.see (l0 (by simp)) ?_ ?_ ?_; (focus (simp [scn]; done)); (focus (simp [flats]; done))) | (refine CD.see (l0 (by simp)) ?_ ?_ ?_; (focus (simp [scn]; done)); (focus (simp [flats]; done))) | (refine CL.see (l1 (by simp)) ?_ ?_ ?_; (focus (simp [scn]; done)); (focus (simp [flats]; done))) | (refine CD.see (l1 (by simp)) ?_ ?_ ?_; (focus (simp [scn]; done)); (focus (simp [flats]; done)))) <;> (try simp (implicitDefEqProofs := false) (disch := first | assumption | (try simp only [lens]); omega -splitDisjunctions) [hw]))))
      all_goals clear l0 l1
      all_goals first
        | refine at2 (ih (i + 1) (by omega) (fun j hj => ?_)) ?_ ?_
        | (rw [Sc.locl]; refine all_range_false hil ?_)
      all_goals first
        | (simp; done)
        | (simp [scn]; done)
        | (rcases Nat.lt_or_ge j i with h | h
           · exact hb j h
           obtain rfl : j = i := by omega)
        | skip
      all_goals clear ih hb
      all_goals simp only [Sc.want, hki, fm_kind]
      all_goals first
        | (simp [*]; done)
        | (cases h1 : x.testBit i <;> cases h2 : x.testBit (c.kid i 0) <;> cases h3 : x.testBit (c.kid i 1) <;> cases h4 : c.refl <;> simp_all; done)
        | (cases h1 : x.testBit j <;> cases h2 : x.testBit (c.kid j 0) <;> cases h3 : x.testBit (c.kid j 1) <;> cases h4 : c.refl <;> simp_all; done)
  exact main _ 0 (Nat.zero_add _) (fun j hj => by omega)
theorem local_modlog (c : Sc) (hc : c.OK) (x : Nat) (hx : x < 1048576) : CallOK Try.prog 52 [.iptr (scn c), .int .i64 (x : Int)] [] (.bool (c.locl x)) [] := by
  have hl := fun r hr => local_loop c hc x hx r hr
  refine op52 ?_
  unfold scn at hl ⊢
  ((try simp (implicitDefEqProofs := false) (disch := first | assumption | (try simp only [lens]); omega -splitDisjunctions)); all_goals try (repeat' ((first | ((with_reducible first | refine And.intro ?_ ?_ | refine Exists.intro ?_ ?_); first | omega | (simp <;> omega)) | (with_reducible refine spl (And.intro ?_ ?_) <;> intro _)) <;> (try simp (implicitDefEqProofs := false) (disch := first | assumption | (try simp only [lens]); omega -splitDisjunctions)))))
  all_goals
    refine hl _ ?_
    unfold Sc.refl
    first
      | (rw [decide_eq_true (show c.lg = 3 ∨ c.lg = 5 ∨ c.lg = 6 ∨ c.lg = 7 by omega)]; done)
      | (congr 1; apply propext; omega)
end Go.Proofs.Ytliockncjdeloaa
