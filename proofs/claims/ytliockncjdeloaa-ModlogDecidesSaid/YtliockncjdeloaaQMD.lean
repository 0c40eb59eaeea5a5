/-
  modlog: the scene; which sets may see which.
-/
import Derived.Test.YtliockncjdeloaaQMC
namespace Go.Proofs.Ytliockncjdeloaa
open Go Go.Pv
set_option linter.unusedVariables false
set_option linter.unusedSimpArgs false
set_option maxRecDepth 100000
set_option maxHeartbeats 4000000

structure Sc where
  lg : Nat
  parts : List Fm
  kids : List (List Nat)
  worlds : List Nat
  boxes : Nat
  dias : Nat
def scn (c : Sc) : List PV := [.int .i64 (c.lg : Int), .list (c.parts.map frm), .list (c.kids.map numsRow), .list (c.worlds.map numRow), .int .i64 (c.boxes : Int), .int .i64 (c.dias : Int)]
def Sc.kid (c : Sc) (i n : Nat) : Nat := (((c.kids[i]?).getD [])[n]?).getD 0
def Sc.kind (c : Sc) (i : Nat) : Int := ((c.parts[i]?).map Fm.kind).getD 0
/-- a scene as newScene leaves it -/
structure Sc.OK (c : Sc) : Prop where
  ok : ∀ f ∈ c.parts, OkF (fun n => isNameB n = true) f
  few : c.parts.length ≤ 20
  len : c.kids.length = c.parts.length
  kl : ∀ i (h : i < c.parts.length), (c.kids[i]'(by omega)).length = c.parts[i].kids.length
  kb : ∀ l ∈ c.kids, ∀ k ∈ l, k < 100
  wb : ∀ x ∈ c.worlds, x < 1048576
  bb : c.boxes < 1048576
  db : c.dias < 1048576
def Sc.step (c : Sc) (x y i : Nat) : Bool := !((decide (c.kind i = 8) && x.testBit i && !y.testBit (c.kid i 0)) || (decide (c.kind i = 9) && !x.testBit i && y.testBit (c.kid i 0)))
def Sc.ahead (c : Sc) (x y : Nat) : Bool := (List.range c.parts.length).all (c.step x y)
theorem all_range_succ {p : Nat → Bool} {n : Nat} : (List.range (n + 1)).all p = ((List.range n).all p && p n) := by simp [List.range_succ]
theorem all_range_false {p : Nat → Bool} {n i : Nat} (h : i < n) (hp : p i = false) : (List.range n).all p = false := by
  rw [List.all_eq_false]; exact ⟨i, by simpa using h, by simp [hp]⟩
theorem all_range_true {p : Nat → Bool} {n : Nat} (h : ∀ i, i < n → p i = true) : (List.range n).all p = true := by
  rw [List.all_eq_true]; intro i hi; exact h i (by simpa using hi)

def x66_L0 : XC := .seq (.reg [⟨some 15,.binOp .lss 3 (.tmp 14) (.tmp 13) 3,none⟩]) (.seq (.cond (.tmp 15) (.skip) (.exit 0)) (.seq (.block 1 (.seq (.reg [⟨some 16,.move (.tmp 14),none⟩,⟨some 17,.indexAddr 22 (.tmp 12) (.tmp 14),none⟩,⟨some 18,.load 24 (.tmp 17),none⟩,⟨some 8,.alloc 24,none⟩,⟨some 7,.assign (.tmp 16),none⟩,⟨none,.store 24 (.tmp 8) (.tmp 18),none⟩]) (.seq (.reg [⟨some 19,.fieldAddr 24 (.tmp 8) 0,none⟩,⟨some 20,.load 3 (.tmp 19),none⟩,⟨some 21,.binOp .eql 3 (.tmp 20) (.const (.int .i64 8)) 3,none⟩,⟨some 22,.move (.tmp 21),none⟩,⟨some 23,.move (.tmp 1),some (some 22,true)⟩,⟨some 24,.move (.tmp 7),some (some 22,true)⟩,⟨some 25,.call ⟨.value (.func 31),#[.tmp 23,.tmp 24],#[3,3]⟩,some (some 22,true)⟩,⟨some 26,.pick (.tmp 22) (.tmp 25) (.const (.bool false)),none⟩,⟨some 27,.move (.tmp 26),none⟩,⟨some 28,.move (.tmp 2),some (some 27,true)⟩,⟨some 29,.move (.tmp 0),some (some 27,true)⟩,⟨some 30,.nilCheck (.tmp 29),some (some 27,true)⟩,⟨some 31,.fieldAddr 62 (.tmp 30) 2,some (some 27,true)⟩,⟨some 32,.load 60 (.tmp 31),some (some 27,true)⟩,⟨some 33,.move (.tmp 7),some (some 27,true)⟩,⟨some 34,.indexAddr 60 (.tmp 32) (.tmp 33),some (some 27,true)⟩,⟨some 35,.load 59 (.tmp 34),some (some 27,true)⟩,⟨some 36,.indexAddr 59 (.tmp 35) (.const (.int .i64 0)),some (some 27,true)⟩,⟨some 37,.load 3 (.tmp 36),some (some 27,true)⟩,⟨some 38,.call ⟨.value (.func 31),#[.tmp 28,.tmp 37],#[3,3]⟩,some (some 27,true)⟩,⟨some 39,.unOp .not 4 (.tmp 38),some (some 27,true)⟩,⟨some 40,.pick (.tmp 27) (.tmp 39) (.const (.bool false)),none⟩,⟨some 41,.move (.tmp 40),none⟩,⟨some 42,.fieldAddr 24 (.tmp 8) 0,some (some 41,false)⟩,⟨some 43,.load 3 (.tmp 42),some (some 41,false)⟩,⟨some 44,.binOp .eql 3 (.tmp 43) (.const (.int .i64 9)) 3,some (some 41,false)⟩,⟨some 45,.move (.tmp 44),some (some 41,false)⟩,⟨some 46,.move (.tmp 1),some (some 45,true)⟩,⟨some 47,.move (.tmp 7),some (some 45,true)⟩,⟨some 48,.call ⟨.value (.func 31),#[.tmp 46,.tmp 47],#[3,3]⟩,some (some 45,true)⟩,⟨some 49,.unOp .not 4 (.tmp 48),some (some 45,true)⟩,⟨some 50,.pick (.tmp 45) (.tmp 49) (.const (.bool false)),some (some 41,false)⟩,⟨some 51,.move (.tmp 50),some (some 41,false)⟩,⟨some 52,.move (.tmp 2),some (some 51,true)⟩,⟨some 53,.move (.tmp 0),some (some 51,true)⟩,⟨some 54,.nilCheck (.tmp 53),some (some 51,true)⟩,⟨some 55,.fieldAddr 62 (.tmp 54) 2,some (some 51,true)⟩,⟨some 56,.load 60 (.tmp 55),some (some 51,true)⟩,⟨some 57,.move (.tmp 7),some (some 51,true)⟩,⟨some 58,.indexAddr 60 (.tmp 56) (.tmp 57),some (some 51,true)⟩,⟨some 59,.load 59 (.tmp 58),some (some 51,true)⟩,⟨some 60,.indexAddr 59 (.tmp 59) (.const (.int .i64 0)),some (some 51,true)⟩,⟨some 61,.load 3 (.tmp 60),some (some 51,true)⟩,⟨some 62,.call ⟨.value (.func 31),#[.tmp 52,.tmp 61],#[3,3]⟩,some (some 51,true)⟩,⟨some 63,.pick (.tmp 51) (.tmp 62) (.const (.bool false)),some (some 41,false)⟩,⟨some 64,.pick (.tmp 41) (.const (.bool true)) (.tmp 63),none⟩]) (.cond (.tmp 64) (.seq (.reg [⟨some 6,.assign (.const (.bool false)),none⟩]) (.ret)) (.skip))))) (.reg [⟨some 65,.binOp .add 3 (.tmp 14) (.const (.int .i64 1)) 3,none⟩,⟨some 14,.move (.tmp 65),none⟩])))
def x66 : XC := .seq (.reg [⟨some 6,.assign (.const (.bool false)),none⟩]) (.seq (.seq (.reg [⟨some 9,.move (.tmp 0),none⟩,⟨some 10,.nilCheck (.tmp 9),none⟩,⟨some 11,.fieldAddr 62 (.tmp 10) 1,none⟩,⟨some 12,.load 22 (.tmp 11),none⟩,⟨some 13,.call ⟨.builtin .len,#[.tmp 12],#[22]⟩,none⟩,⟨some 14,.move (.const (.int .i64 0)),none⟩]) (.bloop 0 x66_L0)) (.seq (.reg [⟨some 6,.assign (.const (.bool true)),none⟩]) (.ret)))
@[simp] theorem x66_s {C : WC} {e : AE} {s : Store} {K : KS} : type_of% (@X_at C e s K _ _ x66_L0.eq_1) ∧ type_of% (@X_at C e s K _ _ x66.eq_1) := ⟨X_at x66_L0.eq_1, X_at x66.eq_1⟩
def an66 : Ann := ⟨[], [(0, [], [0, 1, 2, 12, 13, 14], [6])], []⟩
def cx66 (P : Program) (m : Nat) : WC := ⟨P, m, an66⟩
@[simp] theorem cx66_a {P : Program} {m : Nat} : (cx66 P m).P = P ∧ (cx66 P m).m = m ∧ (cx66 P m).A.loopOf 0 = ([], [0, 1, 2, 12, 13, 14], [6]) := ⟨rfl, rfl, rfl⟩
instance {P : Program} {m f : Nat} [h : EnT P f] : EnT (cx66 P m).P f := h
theorem chk66 : ∀ c, Try.f66.body = some c → chkC Try.f66.ntmps an66 c = true := by intro c h; obtain rfl := Option.some.inj h; decide +kernel
theorem op66 {args : List PV} {v : PV} (h : X (cx66 Try.prog 0) x66 (argsA 0 args) [] (.fin [.tmp 6] fun v1 s1 => deref s1 6 v1 = v)) (hl : args.length ≤ Try.f66.ntmps := by rw [Try.ntmps66]; simp) : CallOK Try.prog 66 args [] v [] :=
  callX (m := 0) (cx66 Try.prog 0) x66 rfl rfl (by kernel_rfl) Try.func66 rfl rfl hl mixed (chk66 _ rfl) (by rw [Try.results66]; exact h)

theorem ahead_modlog (c : Sc) (hc : c.OK) (x y : Nat) (hx : x < 1048576) (hy : y < 1048576) : CallOK Try.prog 66 [.iptr (scn c), .int .i64 (x : Int), .int .i64 (y : Int)] [] (.bool (c.ahead x y)) [] := by
  have hfew := hc.few
  have hlen := hc.len
  refine op66 ?_
  unfold scn
  ((try simp (implicitDefEqProofs := false) (disch := first | assumption | (try simp only [lens]); omega -splitDisjunctions)); all_goals try (repeat' ((first | ((with_reducible first | refine And.intro ?_ ?_ | refine Exists.intro ?_ ?_); first | omega | (simp <;> omega)) | (with_reducible refine spl (And.intro ?_ ?_) <;> intro _)) <;> (try simp (implicitDefEqProofs := false) (disch := first | assumption | (try simp only [lens]); omega -splitDisjunctions)))))
  refine W_of fun Q hQ => ?_
  have main : ∀ n i, i + n = c.parts.length → (∀ j, j < i → c.step x y j = true) → Q [(0, .iptr (scn c)), (1, .int .i64 (x : Int)), (2, .int .i64 (y : Int)), (12, .list (c.parts.map frm)), (13, .int .i64 (c.parts.length : Int)), (14, .int .i64 (i : Int))] [] := by
    intro n
    induction n with
    | zero =>
      intro i hi hb
      apply hQ
      unfold scn
      ((try simp (implicitDefEqProofs := false) (disch := first | assumption | (try simp only [lens]); omega -splitDisjunctions)); all_goals try (repeat' ((first | ((with_reducible first | refine And.intro ?_ ?_ | refine Exists.intro ?_ ?_); first | omega | (simp <;> omega)) | (with_reducible refine spl (And.intro ?_ ?_) <;> intro _)) <;> (try simp (implicitDefEqProofs := false) (disch := first | assumption | (try simp only [lens]); omega -splitDisjunctions)))))
      rw [Sc.ahead, all_range_true fun j hj => hb j (by omega)]
    | succ n ih =>
      intro i hi hb
      have hil : i < c.parts.length := by omega
      have hkl := hc.kl i hil
      have hki : c.kind i = c.parts[i].kind := by simp [Sc.kind, hil]
      have hk1 : c.parts[i].kind = 8 ∨ c.parts[i].kind = 9 → 0 < (c.kids[i]'(by omega)).length := by
        intro h
        rw [hkl]
        have := hc.ok _ (List.getElem_mem hil)
        rcases this.nine with ⟨nm, hn, e⟩ | ⟨nm, e⟩ | ⟨nm, e⟩ | ⟨nm, a, ha, e⟩ | ⟨nm, a, b, ha, hb, e⟩ | ⟨nm, a, b, ha, hb, e⟩ | ⟨nm, a, b, ha, hb, e⟩ | ⟨nm, a, ha, e⟩ | ⟨nm, a, ha, e⟩ <;> rw [e] at h ⊢ <;> simp at h ⊢
      have hkid : ∀ h : 0 < (c.kids[i]'(by omega)).length, c.kid i 0 = (c.kids[i]'(by omega))[0] := fun h => by simp [Sc.kid, hlen, hil, h]
      apply hQ
      unfold scn
      ((try simp (implicitDefEqProofs := false) (disch := first | assumption | (try simp only [lens]); omega -splitDisjunctions)); all_goals try (repeat' ((first | ((with_reducible first | refine And.intro ?_ ?_ | refine Exists.intro ?_ ?_); first | omega | (simp <;> omega)) | (with_reducible refine spl (And.intro ?_ ?_) <;> intro _) | (refine CL.clo (has_modlog x i hx (by omega)) ?_) | (refine CM.clo (has_modlog x i hx (by omega)) ?_) | (refine CD.clo (has_modlog x i hx (by omega)) ?_) | (refine CL.clo (has_modlog y _ hy (Nat.lt_of_lt_of_le (hc.kb _ (List.getElem_mem _) _ (List.getElem_mem _)) (by decide))) ?_) | (refine CM.clo (has_modlog y _ hy (Nat.lt_of_lt_of_le (hc.kb _ (List.getElem_mem _) _ (List.getElem_mem _)) (by decide))) ?_) | (refine CD.clo (has_modlog y _ hy (Nat.lt_of_lt_of_le (hc.kb _ (List.getElem_mem _) _ (List.getElem_mem _)) (by decide))) ?_)) <;> (try simp (implicitDefEqProofs := false) (disch := first | assumption | (try simp only [lens]); omega -splitDisjunctions)))))
      all_goals (try have hkd := hkid (hk1 (by first | exact .inl ‹_› | exact .inr ‹_›)))
      all_goals first
        | (refine at2 (ih (i + 1) (by omega) (fun j hj => ?_)) ?_ ?_
           · rcases Nat.lt_or_ge j i with h | h
             · exact hb j h
             · obtain rfl : j = i := by omega
               simp only [Sc.step, hki]
               first | (simp [*]; done) | (simp_all; done)
           · simp [scn]
           · rfl)
        | (rw [Sc.ahead, all_range_false hil (by simp only [Sc.step, hki]; first | (simp [*]; done) | (simp_all; done))])
  refine at2 (main _ 0 (Nat.zero_add _) (fun j hj => by omega)) ?_ ?_ <;> simp [scn]
end Go.Proofs.Ytliockncjdeloaa
