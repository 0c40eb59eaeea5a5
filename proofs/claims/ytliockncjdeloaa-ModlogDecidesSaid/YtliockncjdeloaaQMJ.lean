/-
  modlog: the counter-model.
-/
import Derived.Test.YtliockncjdeloaaQMI
namespace Go.Proofs.Ytliockncjdeloaa
open Go Go.Pv
set_option linter.unusedVariables false
set_option linter.unusedSimpArgs false
set_option maxRecDepth 100000
set_option maxHeartbeats 4000000

theorem nodup_le : ∀ (l m : List Nat), l.Nodup → (∀ x ∈ l, x ∈ m) → l.length ≤ m.length
  | [], m, _, _ => Nat.zero_le _
  | a :: l, m, hn, hs => by
    have ha := hs a List.mem_cons_self
    rw [List.nodup_cons] at hn
    have := nodup_le l (m.erase a) hn.2 fun x hx => (List.mem_erase_of_ne (by rintro rfl; exact hn.1 hx)).2 (hs x (List.mem_cons_of_mem _ hx))
    rw [List.length_erase_of_mem ha] at this
    have := List.length_pos_of_mem ha
    simp; omega
def Sc.add (c : Sc) (x : Nat) (l : List Nat) (y : Nat) : List Nat := if (c.sees x y && !(l.any fun z => decide (y = z))) = true then l ++ [y] else l
def Sc.adds (c : Sc) (x j : Nat) (l : List Nat) : List Nat := (c.worlds.take j).foldl (c.add x) l
theorem Sc.adds_succ (c : Sc) (x j : Nat) (l : List Nat) (h : j < c.worlds.length) : c.adds x (j + 1) l = c.add x (c.adds x j l) c.worlds[j] := by
  unfold Sc.adds; rw [take_snoc h, List.foldl_append]; rfl
structure Sc.In (c : Sc) (l : List Nat) : Prop where
  nd : l.Nodup
  sub : ∀ x ∈ l, x ∈ c.worlds
theorem Sc.In.le {c : Sc} {l : List Nat} (h : c.In l) : l.length ≤ c.worlds.length := nodup_le l _ h.nd h.sub
theorem Sc.In.add {c : Sc} {l : List Nat} (h : c.In l) (x : Nat) {y : Nat} (hy : y ∈ c.worlds) : c.In (c.add x l y) := by
  unfold Sc.add
  split
  · rename_i hc
    simp only [Bool.and_eq_true, Bool.not_eq_true', List.any_eq_false, decide_eq_true_eq] at hc
    refine ⟨?_, fun z hz => ?_⟩
    · rw [List.nodup_append]
      refine ⟨h.nd, by simp, fun a ha b hb => ?_⟩
      simp only [List.mem_singleton] at hb
      subst hb
      exact fun e => hc.2 a ha e.symm
    · simp only [List.mem_append, List.mem_singleton] at hz
      rcases hz with hz | rfl
      · exact h.sub z hz
      · exact hy
  · exact h
theorem Sc.add_get (c : Sc) (x y : Nat) {l : List Nat} {i : Nat} (h : i < l.length) : ∃ h2 : i < (c.add x l y).length, (c.add x l y)[i] = l[i] := by
  unfold Sc.add
  split
  · refine ⟨by simp; omega, ?_⟩
    rw [List.getElem_append_left h]
  · exact ⟨h, rfl⟩
theorem Sc.adds_get (c : Sc) (x : Nat) {l : List Nat} {i : Nat} (h : i < l.length) : ∀ j, ∃ h2 : i < (c.adds x j l).length, (c.adds x j l)[i] = l[i] := by
  intro j
  unfold Sc.adds
  generalize c.worlds.take j = w
  induction w generalizing l with
  | nil => exact ⟨h, rfl⟩
  | cons y r ih =>
    obtain ⟨h1, e1⟩ := c.add_get x y h
    obtain ⟨h2, e2⟩ := ih h1
    refine ⟨h2, ?_⟩
    rw [← e1, ← e2]; rfl
theorem Sc.In.adds {c : Sc} {l : List Nat} (h : c.In l) (x : Nat) : ∀ j, c.In (c.adds x j l) := by
  intro j
  unfold Sc.adds
  have : ∀ y ∈ c.worlds.take j, y ∈ c.worlds := fun y hy => List.mem_of_mem_take hy
  generalize c.worlds.take j = w at this
  induction w generalizing l with
  | nil => exact h
  | cons y r ih => exact ih (h.add x (this y List.mem_cons_self)) fun z hz => this z (List.mem_cons_of_mem _ hz)
/-- what is reached -/
def Sc.reach (c : Sc) : Nat → Nat → List Nat → List Nat
  | 0, i, l => l
  | n + 1, i, l => if h : i < l.length then c.reach n (i + 1) (c.adds l[i] c.worlds.length l) else l
def Sc.nameOf (c : Sc) (k : Nat) : ByteArray := ((c.parts[k]?).map Fm.name).getD default
def Sc.names (c : Sc) (x : Nat) : Nat → List ByteArray
  | 0 => []
  | k + 1 => if (decide (c.kind k = 1) && x.testBit k) = true then c.names x k ++ [c.nameOf k] else c.names x k
def Sc.relsJ (c : Sc) (x i : Nat) (l : List Nat) : Nat → List (Int × Int)
  | 0 => []
  | j + 1 => if c.sees x ((l[j]?).getD 0) = true then c.relsJ x i l j ++ [((i : Int), (j : Int))] else c.relsJ x i l j
def Sc.rels (c : Sc) (l : List Nat) : Nat → List (Int × Int)
  | 0 => []
  | i + 1 => c.rels l i ++ c.relsJ ((l[i]?).getD 0) i l l.length
def Sc.mdl (c : Sc) (l : List Nat) : Mdl := ⟨l.length, c.rels l l.length, l.map fun x => c.names x c.parts.length⟩
theorem Sc.relsJ_len (c : Sc) (x i : Nat) (l : List Nat) : ∀ j, (c.relsJ x i l j).length ≤ j
  | 0 => Nat.le_refl _
  | j + 1 => by
    have := c.relsJ_len x i l j
    rw [relsJ]; split <;> simp <;> omega
theorem Sc.rels_len (c : Sc) (l : List Nat) : ∀ i, (c.rels l i).length ≤ i * l.length
  | 0 => by simp [rels]
  | i + 1 => by
    have h1 := c.rels_len l i
    have h2 := c.relsJ_len ((l[i]?).getD 0) i l l.length
    rw [rels, List.length_append, Nat.add_mul]; omega
theorem Sc.names_len (c : Sc) (x : Nat) : ∀ k, (c.names x k).length ≤ k
  | 0 => Nat.le_refl _
  | k + 1 => by
    have := c.names_len x k
    rw [names]; split <;> simp <;> omega
def Sc.nmRow (c : Sc) (x : Nat) : List PV := strsRow (c.names x c.parts.length)
instance (c : Sc) : FlatRow c.nmRow := ⟨fun x => FlatRow.flat (g := strsRow) _⟩
def x30 : XC := .seq (.reg [⟨some 2,.assign (.const (.bool false)),none⟩]) (.seq (.reg [⟨some 3,.move (.tmp 0),none⟩,⟨some 4,.call ⟨.value (.func 31),#[.tmp 3,.const (.int .i64 0)],#[3,3]⟩,none⟩,⟨some 5,.unOp .not 4 (.tmp 4),none⟩,⟨some 2,.assign (.tmp 5),none⟩]) (.ret))
@[simp] theorem x30_s {C : WC} {e : AE} {s : Store} {K : KS} : type_of% (@X_at C e s K _ _ x30.eq_1) := X_at x30.eq_1
def an30 : Ann := ⟨[], [], []⟩
def cx30 (P : Program) (m : Nat) : WC := ⟨P, m, an30⟩
@[simp] theorem cx30_a {P : Program} {m : Nat} : (cx30 P m).P = P ∧ (cx30 P m).m = m := ⟨rfl, rfl⟩
instance {P : Program} {m f : Nat} [h : EnT P f] : EnT (cx30 P m).P f := h
theorem chk30 : ∀ c, Try.f30.body = some c → chkC Try.f30.ntmps an30 c = true := by intro c h; obtain rfl := Option.some.inj h; decide +kernel
theorem op30 {args : List PV} {v : PV} (h : X (cx30 Try.prog 0) x30 (argsA 0 args) [] (.fin [.tmp 2] fun v1 s1 => deref s1 6 v1 = v)) (hl : args.length ≤ Try.f30.ntmps := by rw [Try.ntmps30]; simp) : CallOK Try.prog 30 args [] v [] :=
  callX (m := 0) (cx30 Try.prog 0) x30 rfl rfl (by kernel_rfl) Try.func30 rfl rfl hl mixed (chk30 _ rfl) (by rw [Try.results30]; exact h)

theorem Decide1_modlog (x : Nat) (hx : x < 1048576) : CallOK Try.prog 30 [.int .i64 (x : Int)] [] (.bool (!x.testBit 0)) [] := by
  have h := has_modlog x 0 hx (by decide)
  refine op30 ?_
  ((try simp (implicitDefEqProofs := false) (disch := first | assumption | (try simp only [lens]); omega -splitDisjunctions)); all_goals try (repeat' ((first | ((with_reducible first | refine And.intro ?_ ?_ | refine Exists.intro ?_ ?_); first | omega | (simp <;> omega)) | (with_reducible refine spl (And.intro ?_ ?_) <;> intro _) | (refine CL.clo (h) ?_) | (refine CM.clo (h) ?_) | (refine CD.clo (h) ?_)) <;> (try simp (implicitDefEqProofs := false) (disch := first | assumption | (try simp only [lens]); omega -splitDisjunctions)))))
def x32_T7 : XC := .seq (.reg [⟨some 113,.load 31 (.tmp 9),none⟩,⟨none,.store 31 (.tmp 4) (.tmp 113),none⟩]) (.ret)
def x32_L8 : XC := .seq (.reg [⟨some 95,.binOp .lss 3 (.tmp 94) (.tmp 93) 3,none⟩]) (.seq (.cond (.tmp 95) (.skip) (.exit 8)) (.seq (.block 9 (.seq (.reg [⟨some 96,.move (.tmp 94),none⟩,⟨some 97,.indexAddr 59 (.tmp 92) (.tmp 94),none⟩,⟨some 98,.load 3 (.tmp 97),none⟩,⟨some 15,.assign (.tmp 96),none⟩,⟨some 16,.assign (.tmp 98),none⟩]) (.seq (.reg [⟨some 99,.move (.tmp 0),none⟩,⟨some 100,.move (.tmp 11),none⟩,⟨some 101,.move (.tmp 16),none⟩,⟨some 102,.call ⟨.value (.func 57),#[.tmp 99,.tmp 100,.tmp 101],#[56,3,3]⟩,none⟩]) (.cond (.tmp 102) (.reg [⟨some 103,.fieldAddr 31 (.tmp 9) 1,none⟩,⟨some 104,.load 28 (.tmp 103),none⟩,⟨some 105,.move (.tmp 10),none⟩,⟨some 106,.move (.tmp 15),none⟩,⟨some 107,.build 53 #[(0,.tmp 105),(1,.tmp 106)],none⟩,⟨some 108,.buildSlice 28 1 #[(0,.tmp 107)],none⟩,⟨some 109,.call ⟨.builtin .append,#[.tmp 104,.tmp 108],#[28,28]⟩,none⟩,⟨some 110,.fieldAddr 31 (.tmp 9) 1,none⟩,⟨none,.store 28 (.tmp 110) (.tmp 109),none⟩]) (.skip))))) (.reg [⟨some 111,.binOp .add 3 (.tmp 94) (.const (.int .i64 1)) 3,none⟩,⟨some 94,.move (.tmp 111),none⟩])))
def x32_T5 : XC := .seq (.reg [⟨some 86,.fieldAddr 31 (.tmp 9) 2,none⟩,⟨some 87,.load 29 (.tmp 86),none⟩,⟨some 88,.move (.tmp 12),none⟩,⟨some 89,.buildSlice 29 1 #[(0,.tmp 88)],none⟩,⟨some 90,.call ⟨.builtin .append,#[.tmp 87,.tmp 89],#[29,29]⟩,none⟩,⟨some 91,.fieldAddr 31 (.tmp 9) 2,none⟩,⟨none,.store 29 (.tmp 91) (.tmp 90),none⟩]) (.seq (.reg [⟨some 92,.move (.tmp 5),none⟩,⟨some 93,.call ⟨.builtin .len,#[.tmp 92],#[59]⟩,none⟩,⟨some 94,.move (.const (.int .i64 0)),none⟩]) (.bloop 8 x32_L8))
def x32_L6 : XC := .seq (.reg [⟨some 68,.binOp .lss 3 (.tmp 67) (.tmp 66) 3,none⟩]) (.seq (.cond (.tmp 68) (.skip) (.exit 6)) (.seq (.block 7 (.seq (.reg [⟨some 69,.move (.tmp 67),none⟩,⟨some 70,.indexAddr 22 (.tmp 65) (.tmp 67),none⟩,⟨some 71,.load 24 (.tmp 70),none⟩,⟨some 14,.alloc 24,none⟩,⟨some 13,.assign (.tmp 69),none⟩,⟨none,.store 24 (.tmp 14) (.tmp 71),none⟩]) (.seq (.reg [⟨some 72,.fieldAddr 24 (.tmp 14) 0,none⟩,⟨some 73,.load 3 (.tmp 72),none⟩,⟨some 74,.binOp .eql 3 (.tmp 73) (.const (.int .i64 1)) 3,none⟩,⟨some 75,.move (.tmp 74),none⟩,⟨some 76,.move (.tmp 11),some (some 75,true)⟩,⟨some 77,.move (.tmp 13),some (some 75,true)⟩,⟨some 78,.call ⟨.value (.func 31),#[.tmp 76,.tmp 77],#[3,3]⟩,some (some 75,true)⟩,⟨some 79,.pick (.tmp 75) (.tmp 78) (.const (.bool false)),none⟩]) (.cond (.tmp 79) (.reg [⟨some 80,.move (.tmp 12),none⟩,⟨some 81,.fieldAddr 24 (.tmp 14) 1,none⟩,⟨some 82,.load 9 (.tmp 81),none⟩,⟨some 83,.buildSlice 74 1 #[(0,.tmp 82)],none⟩,⟨some 84,.call ⟨.builtin .append,#[.tmp 80,.tmp 83],#[74,74]⟩,none⟩,⟨some 12,.assign (.tmp 84),none⟩]) (.skip))))) (.reg [⟨some 85,.binOp .add 3 (.tmp 67) (.const (.int .i64 1)) 3,none⟩,⟨some 67,.move (.tmp 85),none⟩])))
def x32_L4 : XC := .seq (.reg [⟨some 58,.binOp .lss 3 (.tmp 57) (.tmp 56) 3,none⟩]) (.seq (.cond (.tmp 58) (.skip) (.exit 4)) (.seq (.block 5 (.seq (.reg [⟨some 59,.move (.tmp 57),none⟩,⟨some 60,.indexAddr 59 (.tmp 55) (.tmp 57),none⟩,⟨some 61,.load 3 (.tmp 60),none⟩,⟨some 10,.assign (.tmp 59),none⟩,⟨some 11,.assign (.tmp 61),none⟩]) (.seq (.reg [⟨some 12,.assign (.const (.slice none 0 0)),none⟩]) (.seq (.seq (.reg [⟨some 62,.move (.tmp 0),none⟩,⟨some 63,.nilCheck (.tmp 62),none⟩,⟨some 64,.fieldAddr 62 (.tmp 63) 1,none⟩,⟨some 65,.load 22 (.tmp 64),none⟩,⟨some 66,.call ⟨.builtin .len,#[.tmp 65],#[22]⟩,none⟩,⟨some 67,.move (.const (.int .i64 0)),none⟩]) (.bloop 6 x32_L6)) (x32_T5))))) (.reg [⟨some 112,.binOp .add 3 (.tmp 57) (.const (.int .i64 1)) 3,none⟩,⟨some 57,.move (.tmp 112),none⟩])))
def x32_T2 : XC := .seq (.reg [⟨some 52,.move (.tmp 5),none⟩,⟨some 53,.call ⟨.builtin .len,#[.tmp 52],#[59]⟩,none⟩,⟨some 54,.build 31 #[(0,.tmp 53)],none⟩,⟨some 9,.alloc 31,none⟩,⟨none,.store 31 (.tmp 9) (.tmp 54),none⟩]) (.seq (.seq (.reg [⟨some 55,.move (.tmp 5),none⟩,⟨some 56,.call ⟨.builtin .len,#[.tmp 55],#[59]⟩,none⟩,⟨some 57,.move (.const (.int .i64 0)),none⟩]) (.bloop 4 x32_L4)) (x32_T7))
def x32_L2 : XC := .seq (.reg [⟨some 31,.binOp .lss 3 (.tmp 30) (.tmp 29) 3,none⟩]) (.seq (.cond (.tmp 31) (.skip) (.exit 2)) (.seq (.block 3 (.seq (.reg [⟨some 32,.indexAddr 59 (.tmp 28) (.tmp 30),none⟩,⟨some 33,.load 3 (.tmp 32),none⟩,⟨some 8,.assign (.tmp 33),none⟩]) (.seq (.reg [⟨some 34,.move (.tmp 0),none⟩,⟨some 35,.move (.tmp 5),none⟩,⟨some 36,.move (.tmp 6),none⟩,⟨some 37,.indexAddr 59 (.tmp 35) (.tmp 36),none⟩,⟨some 38,.load 3 (.tmp 37),none⟩,⟨some 39,.move (.tmp 8),none⟩,⟨some 40,.call ⟨.value (.func 57),#[.tmp 34,.tmp 38,.tmp 39],#[56,3,3]⟩,none⟩,⟨some 41,.move (.tmp 40),none⟩,⟨some 42,.move (.tmp 5),some (some 41,true)⟩,⟨some 43,.move (.tmp 8),some (some 41,true)⟩,⟨some 44,.call ⟨.value (.func 58),#[.tmp 42,.tmp 43],#[59,3]⟩,some (some 41,true)⟩,⟨some 45,.unOp .not 4 (.tmp 44),some (some 41,true)⟩,⟨some 46,.pick (.tmp 41) (.tmp 45) (.const (.bool false)),none⟩]) (.cond (.tmp 46) (.reg [⟨some 47,.move (.tmp 5),none⟩,⟨some 48,.move (.tmp 8),none⟩,⟨some 49,.buildSlice 59 1 #[(0,.tmp 48)],none⟩,⟨some 50,.call ⟨.builtin .append,#[.tmp 47,.tmp 49],#[59,59]⟩,none⟩,⟨some 5,.assign (.tmp 50),none⟩]) (.skip))))) (.reg [⟨some 51,.binOp .add 3 (.tmp 30) (.const (.int .i64 1)) 3,none⟩,⟨some 30,.move (.tmp 51),none⟩])))
def x32_L0 : XC := .seq (.seq (.reg [⟨some 19,.move (.tmp 6),none⟩,⟨some 20,.move (.tmp 5),none⟩,⟨some 21,.call ⟨.builtin .len,#[.tmp 20],#[59]⟩,none⟩,⟨some 22,.binOp .lss 3 (.tmp 19) (.tmp 21) 3,none⟩]) (.cond (.tmp 22) (.skip) (.exit 0))) (.seq (.block 1 (.seq (.reg [⟨some 25,.move (.tmp 0),none⟩,⟨some 26,.nilCheck (.tmp 25),none⟩,⟨some 27,.fieldAddr 62 (.tmp 26) 3,none⟩,⟨some 28,.load 59 (.tmp 27),none⟩,⟨some 29,.call ⟨.builtin .len,#[.tmp 28],#[59]⟩,none⟩,⟨some 30,.move (.const (.int .i64 0)),none⟩]) (.bloop 2 x32_L2))) (.reg [⟨some 23,.move (.tmp 6),none⟩,⟨some 24,.binOp .add 3 (.tmp 23) (.const (.int .i64 1)) 3,none⟩,⟨some 6,.assign (.tmp 24),none⟩]))
def x32 : XC := .seq (.reg [⟨some 4,.alloc 31,none⟩]) (.seq (.reg [⟨some 17,.move (.tmp 1),none⟩,⟨some 18,.buildSlice 59 1 #[(0,.tmp 17)],none⟩,⟨some 5,.assign (.tmp 18),none⟩]) (.seq (.seq (.reg [⟨some 6,.assign (.const (.int .i64 0)),none⟩]) (.bloop 0 x32_L0)) (x32_T2)))
@[simp] theorem x32_s {C : WC} {e : AE} {s : Store} {K : KS} : type_of% (@X_at C e s K _ _ x32_T7.eq_1) ∧ type_of% (@X_at C e s K _ _ x32_L8.eq_1) ∧ type_of% (@X_at C e s K _ _ x32_T5.eq_1) ∧ type_of% (@X_at C e s K _ _ x32_L6.eq_1) ∧ type_of% (@X_at C e s K _ _ x32_L4.eq_1) ∧ type_of% (@X_at C e s K _ _ x32_T2.eq_1) ∧ type_of% (@X_at C e s K _ _ x32_L2.eq_1) ∧ type_of% (@X_at C e s K _ _ x32_L0.eq_1) ∧ type_of% (@X_at C e s K _ _ x32.eq_1) := ⟨X_at x32_T7.eq_1, X_at x32_L8.eq_1, X_at x32_T5.eq_1, X_at x32_L6.eq_1, X_at x32_L4.eq_1, X_at x32_T2.eq_1, X_at x32_L2.eq_1, X_at x32_L0.eq_1, X_at x32.eq_1⟩
def an32 : Ann := ⟨[], [(8, [], [0, 4, 5, 9, 10, 11, 55, 56, 57, 92, 93, 94], [0, 4, 5, 9, 55, 56, 57]), (6, [(12, none, 1)], [0, 4, 5, 9, 10, 11, 12, 55, 56, 57, 65, 66, 67], [0, 4, 5, 9, 10, 11, 12, 55, 56, 57]), (4, [(9, some 1, 2), (9, some 2, 1)], [0, 4, 5, 9, 55, 56, 57], [4, 9]), (2, [(5, none, 1)], [0, 4, 5, 6, 28, 29, 30], [0, 4, 5, 6]), (0, [(5, none, 1)], [0, 4, 5, 6], [0, 4, 5])], []⟩
def cx32 (P : Program) (m : Nat) : WC := ⟨P, m, an32⟩
@[simp] theorem cx32_a {P : Program} {m : Nat} : (cx32 P m).P = P ∧ (cx32 P m).m = m ∧ (cx32 P m).A.loopOf 8 = ([], [0, 4, 5, 9, 10, 11, 55, 56, 57, 92, 93, 94], [0, 4, 5, 9, 55, 56, 57]) ∧ (cx32 P m).A.loopOf 6 = ([(12, none, 1)], [0, 4, 5, 9, 10, 11, 12, 55, 56, 57, 65, 66, 67], [0, 4, 5, 9, 10, 11, 12, 55, 56, 57]) ∧ (cx32 P m).A.loopOf 4 = ([(9, some 1, 2), (9, some 2, 1)], [0, 4, 5, 9, 55, 56, 57], [4, 9]) ∧ (cx32 P m).A.loopOf 2 = ([(5, none, 1)], [0, 4, 5, 6, 28, 29, 30], [0, 4, 5, 6]) ∧ (cx32 P m).A.loopOf 0 = ([(5, none, 1)], [0, 4, 5, 6], [0, 4, 5]) := ⟨rfl, rfl, rfl, rfl, rfl, rfl, rfl⟩
instance {P : Program} {m f : Nat} [h : EnT P f] : EnT (cx32 P m).P f := h
theorem chk32 : ∀ c, Try.f32.body = some c → chkC Try.f32.ntmps an32 c = true := by intro c h; obtain rfl := Option.some.inj h; decide +kernel
theorem os32 {args : List PV} {v : PV} (h : X (cx32 Try.prog 0) x32 (argsA 0 args) [] (.fin [.cell 4 31] fun v1 s1 => softV (deref s1 6 v1) = v)) (hl : args.length ≤ Try.f32.ntmps := by rw [Try.ntmps32]; simp) : CallOK Try.prog 32 args [] v [] :=
  callXF (m := 0) (cx32 Try.prog 0) x32 rfl rfl (by kernel_rfl) Try.func32 rfl rfl hl mixed (chk32 _ rfl) (by rw [Try.results32]; exact h)

theorem model_modlog (c : Sc) (hc : c.OK) (x0 : Nat) (hx0 : x0 ∈ c.worlds) (hw : c.worlds.length ≤ 1024) : CallOK Try.prog 32 [.iptr (scn c), .int .i64 (x0 : Int)] [] (.agg (mdl (c.mdl (c.reach (c.worlds.length + 1) 0 [x0])))) [] := by
  refine os32 ?_
  unfold scn
  ((try simp (implicitDefEqProofs := false) (disch := first | assumption | (try simp only [lens]); omega -splitDisjunctions)); all_goals try (repeat' ((first | ((with_reducible first | refine And.intro ?_ ?_ | refine Exists.intro ?_ ?_); first | omega | (simp <;> omega)) | (with_reducible refine spl (And.intro ?_ ?_) <;> intro _)) <;> (try simp (implicitDefEqProofs := false) (disch := first | assumption | (try simp only [lens]); omega -splitDisjunctions)))))
  refine W_of fun Q hQ => ?_
  have main : ∀ n i l, i + n = c.worlds.length + 1 → i ≤ l.length → c.In l → c.reach n i l = c.reach (c.worlds.length + 1) 0 [x0] → Q [(0, .iptr (scn c)), (4, .ptr 0 0 0), (5, .sl 1 0 l.length), (6, .int .i64 (i : Int))] [.rows 3 [[.int .i64 0, .nilsl, .nilsl]], .rows 1 (l.map numRow)] := by
    intro n
    induction n with
    | zero => intro i l h1 h2 h3; have := h3.le; omega
    | succ n ih =>
      intro i l h1 h2 h3 hR
      have h3l := h3.le
      rw [Sc.reach] at hR
      by_cases hil : i < l.length
      · rw [dif_pos hil] at hR
        apply hQ
        unfold scn
        ((try simp (implicitDefEqProofs := false) (disch := first | assumption | (try simp only [lens]); omega -splitDisjunctions)); all_goals try (repeat' ((first | ((with_reducible first | refine And.intro ?_ ?_ | refine Exists.intro ?_ ?_); first | omega | (simp <;> omega)) | (with_reducible refine spl (And.intro ?_ ?_) <;> intro _)) <;> (try simp (implicitDefEqProofs := false) (disch := first | assumption | (try simp only [lens]); omega -splitDisjunctions)))))
        refine W_of fun Q2 hQ2 => ?_
        have main2 : ∀ n2 j, j + n2 = c.worlds.length → Q2 [(0, .iptr (scn c)), (4, .ptr 0 0 0), (5, .sl 1 0 (c.adds l[i] j l).length), (6, .int .i64 (i : Int)), (28, .list (c.worlds.map numRow)), (29, .int .i64 (c.worlds.length : Int)), (30, .int .i64 (j : Int))] [.rows 3 [[.int .i64 0, .nilsl, .nilsl]], .rows 1 ((c.adds l[i] j l).map numRow)] := by
          intro n2
          induction n2 with
          | zero =>
            intro j hj
            obtain rfl : j = c.worlds.length := by omega
            have ih := ih (i + 1) _ (by omega) (by obtain ⟨h2, _⟩ := c.adds_get l[i] hil c.worlds.length; omega) (h3.adds _ _) hR
            obtain ⟨h2, _⟩ := c.adds_get l[i] hil c.worlds.length
            have h4 := (h3.adds l[i] c.worlds.length).le
            generalize c.adds l[i] c.worlds.length l = l2 at ih h2 h4
            apply hQ2
            unfold scn at ih ⊢
            ((try simp (implicitDefEqProofs := false) (disch := first | assumption | (try simp only [lens]); omega -splitDisjunctions)); all_goals try (repeat' ((first | ((with_reducible first | refine And.intro ?_ ?_ | refine Exists.intro ?_ ?_); first | omega | (simp <;> omega)) | (with_reducible refine spl (And.intro ?_ ?_) <;> intro _)) <;> (try simp (implicitDefEqProofs := false) (disch := first | assumption | (try simp only [lens]); omega -splitDisjunctions)))))
            refine at2 ih ?_ ?_ <;> simp
          | succ n2 ih2 =>
            intro j hj
            have hjl : j < c.worlds.length := by omega
            have ih2 := ih2 (j + 1) (by omega)
            rw [Sc.adds_succ _ _ _ _ hjl] at ih2
            obtain ⟨h2, h2e⟩ := c.adds_get l[i] hil j
            have h4 := (h3.adds l[i] j).le
            have hs := sees_modlog c hc l[i] c.worlds[j] (hc.wb _ (h3.sub _ (List.getElem_mem hil))) (hc.wb _ (List.getElem_mem hjl))
            generalize c.adds l[i] j l = l2 at ih2 h2 h4 h2e
            have hct := Contains_int l2 c.worlds[j]
            rw [← h2e] at hs
            rw [← h2e, Sc.add] at ih2
            apply hQ2
            unfold scn at hs ih2 ⊢
            cases hse : c.sees l2[i] c.worlds[j]
            · rw [hse] at hs ih2
              rw [if_neg (by simp)] at ih2
              ((try simp (implicitDefEqProofs := false) (disch := first | assumption | (try simp only [lens]); omega -splitDisjunctions)); all_goals try (repeat' ((first | ((with_reducible first | refine And.intro ?_ ?_ | refine Exists.intro ?_ ?_); first | omega | (simp <;> omega)) | (with_reducible refine spl (And.intro ?_ ?_) <;> intro _) | (refine CL.clo (hs) ?_) | (refine CM.clo (hs) ?_) | (refine CD.clo (hs) ?_) | (refine CL.see (hct) ?_ ?_ ?_; (focus (simp [scn]; done)); (focus (simp [flats]; done))) | (refine CD.see (hct) ?_ ?_ ?_; (focus (simp [scn]; done)); (focus (simp [flats]; done)))) <;> (try simp (implicitDefEqProofs := false) (disch := first | assumption | (try simp only [lens]); omega -splitDisjunctions)))))
              refine at2 ih2 ?_ ?_ <;> simp
            · rw [hse] at hs ih2
              cases hany : l2.any fun z => decide (c.worlds[j] = z)
              · rw [hany] at hct ih2
                rw [if_pos (by simp), List.map_append, List.map_cons, List.map_nil] at ih2
                ((try simp (implicitDefEqProofs := false) (disch := first | assumption | (try simp only [lens]); omega -splitDisjunctions)); all_goals try (repeat' ((first | ((with_reducible first | refine And.intro ?_ ?_ | refine Exists.intro ?_ ?_); first | omega | (simp <;> omega)) | (with_reducible refine spl (And.intro ?_ ?_) <;> intro _) | (refine CL.clo (hs) ?_) | (refine CM.clo (hs) ?_) | (refine CD.clo (hs) ?_) | (refine CL.see (hct) ?_ ?_ ?_; (focus (simp [scn]; done)); (focus (simp [flats]; done))) | (refine CD.see (hct) ?_ ?_ ?_; (focus (simp [scn]; done)); (focus (simp [flats]; done)))) <;> (try simp (implicitDefEqProofs := false) (disch := first | assumption | (try simp only [lens]); omega -splitDisjunctions)))))
                refine at2 ih2 ?_ ?_ <;> simp
              · rw [hany] at hct ih2
                rw [if_neg (by simp)] at ih2
                ((try simp (implicitDefEqProofs := false) (disch := first | assumption | (try simp only [lens]); omega -splitDisjunctions)); all_goals try (repeat' ((first | ((with_reducible first | refine And.intro ?_ ?_ | refine Exists.intro ?_ ?_); first | omega | (simp <;> omega)) | (with_reducible refine spl (And.intro ?_ ?_) <;> intro _) | (refine CL.clo (hs) ?_) | (refine CM.clo (hs) ?_) | (refine CD.clo (hs) ?_) | (refine CL.see (hct) ?_ ?_ ?_; (focus (simp [scn]; done)); (focus (simp [flats]; done))) | (refine CD.see (hct) ?_ ?_ ?_; (focus (simp [scn]; done)); (focus (simp [flats]; done)))) <;> (try simp (implicitDefEqProofs := false) (disch := first | assumption | (try simp only [lens]); omega -splitDisjunctions)))))
                refine at2 ih2 ?_ ?_ <;> simp
        refine at2 (main2 _ 0 (Nat.zero_add _)) ?_ ?_ <;> simp [Sc.adds, scn]
      · rw [dif_neg hil] at hR
        apply hQ
        unfold scn
        ((try simp (implicitDefEqProofs := false) (disch := first | assumption | (try simp only [lens]); omega -splitDisjunctions)); all_goals try (repeat' ((first | ((with_reducible first | refine And.intro ?_ ?_ | refine Exists.intro ?_ ?_); first | omega | (simp <;> omega)) | (with_reducible refine spl (And.intro ?_ ?_) <;> intro _)) <;> (try simp (implicitDefEqProofs := false) (disch := first | assumption | (try simp only [lens]); omega -splitDisjunctions)))))
        generalize c.reach (c.worlds.length + 1) 0 [x0] = R at hR ⊢
        subst hR
        refine W_of fun Q4 hQ4 => ?_
        have main4 : ∀ n4 i, i + n4 = l.length → Q4 [(0, .iptr (scn c)), (4, .ptr 0 0 0), (5, .sl 1 0 l.length), (9, .ptr 2 0 0), (55, .sl 1 0 l.length), (56, .int .i64 (l.length : Int)), (57, .int .i64 (i : Int))] [.rows 3 [[.int .i64 0, .nilsl, .nilsl]], .rows 1 (l.map numRow), .rows 3 [[.int .i64 (l.length : Int), .sl 3 0 (c.rels l i).length, .sl 4 0 i]], .rows 2 ((c.rels l i).map relRow), .rows 1 ((l.take i).map c.nmRow)] := by
          intro n4
          induction n4 with
          | zero =>
            intro i hi
            obtain rfl : i = l.length := by omega
            apply hQ4
            unfold scn
            ((try simp (implicitDefEqProofs := false) (disch := first | assumption | (try simp only [lens]); omega -splitDisjunctions)); all_goals try (repeat' ((first | ((with_reducible first | refine And.intro ?_ ?_ | refine Exists.intro ?_ ?_); first | omega | (simp <;> omega)) | (with_reducible refine spl (And.intro ?_ ?_) <;> intro _)) <;> (try simp (implicitDefEqProofs := false) (disch := first | assumption | (try simp only [lens]); omega -splitDisjunctions)))))
            exact ⟨rfl, rfl, by simp [Sc.mdl]; intro a _; rfl⟩
          | succ n4 ih4 =>
            intro i hi
            have ih4 := ih4 (i + 1) (by omega)
            have hil : i < l.length := by omega
            have hrl := c.rels_len l i
            have hrl2 : i * l.length ≤ 1048576 := Nat.le_trans (Nat.mul_le_mul (show i ≤ 1024 by omega) (show l.length ≤ 1024 by omega)) (by decide)
            have hfew := hc.few
            apply hQ4
            unfold scn
            ((try simp (implicitDefEqProofs := false) (disch := first | assumption | (try simp only [lens]); omega -splitDisjunctions)); all_goals try (repeat' ((first | ((with_reducible first | refine And.intro ?_ ?_ | refine Exists.intro ?_ ?_); first | omega | (simp <;> omega)) | (with_reducible refine spl (And.intro ?_ ?_) <;> intro _)) <;> (try simp (implicitDefEqProofs := false) (disch := first | assumption | (try simp only [lens]); omega -splitDisjunctions)))))
            refine W_of fun Q6 hQ6 => ?_
            have hxb := hc.wb _ (h3.sub _ (List.getElem_mem hil))
            have hrs : c.rels l (i + 1) = c.rels l i ++ c.relsJ l[i] i l l.length := by rw [Sc.rels]; simp [hil]
            rw [hrs, take_snoc hil, List.map_append, List.map_append, List.map_cons, List.map_nil] at ih4
            have hnrow : c.nmRow l[i] = [.list ((c.names l[i] c.parts.length).map strRow)] := rfl
            rw [hnrow] at ih4
            have hll : l.length ≤ 1024 := by omega
            generalize hrr : c.rels l i = rr at hrl ih4 ⊢
            generalize hxx : l[i] = x at ih4 hxb ⊢
            have main6 : ∀ n6 k, k + n6 = c.parts.length → Q6 [(0, .iptr (scn c)), (4, .ptr 0 0 0), (5, .sl 1 0 l.length), (9, .ptr 2 0 0), (10, .int .i64 (i : Int)), (11, .int .i64 (x : Int)), (12, .sl 3 0 (c.names x k).length), (55, .sl 1 0 l.length), (56, .int .i64 (l.length : Int)), (57, .int .i64 (i : Int)), (65, .list (c.parts.map frm)), (66, .int .i64 (c.parts.length : Int)), (67, .int .i64 (k : Int))]
                [.rows 3 [[.int .i64 0, .nilsl, .nilsl]], .rows 1 (l.map numRow), .rows 3 [[.int .i64 (l.length : Int), .sl 4 0 rr.length, .sl 5 0 i]], .rows 1 ((c.names x k).map strRow), .rows 2 (rr.map relRow), .rows 1 ((l.take i).map c.nmRow)] := by
              intro n6
              induction n6 with
              | zero =>
                intro k hk
                obtain rfl : k = c.parts.length := by omega
                have hnl := c.names_len x c.parts.length
                generalize c.names x c.parts.length = nm at ih4 hnl ⊢
                apply hQ6
                unfold scn at ih4 ⊢
                ((try simp (implicitDefEqProofs := false) (disch := first | assumption | (try simp only [lens]); omega -splitDisjunctions)); all_goals try (repeat' ((first | ((with_reducible first | refine And.intro ?_ ?_ | refine Exists.intro ?_ ?_); first | omega | (simp <;> omega)) | (with_reducible refine spl (And.intro ?_ ?_) <;> intro _)) <;> (try simp (implicitDefEqProofs := false) (disch := first | assumption | (try simp only [lens]); omega -splitDisjunctions)))))
                refine W_of fun Q8 hQ8 => ?_
                have main8 : ∀ n8 j, j + n8 = l.length → Q8 [(0, .iptr (scn c)), (4, .ptr 0 0 0), (5, .sl 1 0 l.length), (9, .ptr 2 0 0), (10, .int .i64 (i : Int)), (11, .int .i64 (x : Int)), (55, .sl 1 0 l.length), (56, .int .i64 (l.length : Int)), (57, .int .i64 (i : Int)), (92, .sl 1 0 l.length), (93, .int .i64 (l.length : Int)), (94, .int .i64 (j : Int))]
                    [.rows 3 [[.int .i64 0, .nilsl, .nilsl]], .rows 1 (l.map numRow), .rows 3 [[.int .i64 (l.length : Int), .sl 3 0 (rr ++ c.relsJ x i l j).length, .sl 4 0 (i + 1)]], .rows 2 ((rr ++ c.relsJ x i l j).map relRow), .rows 1 ((l.take i).map c.nmRow ++ [[.list (nm.map strRow)]])] := by
                  intro n8
                  induction n8 with
                  | zero =>
                    intro j hj
                    obtain rfl : j = l.length := by omega
                    apply hQ8
                    unfold scn
                    ((try simp (implicitDefEqProofs := false) (disch := first | assumption | (try simp only [lens]); omega -splitDisjunctions)); all_goals try (repeat' ((first | ((with_reducible first | refine And.intro ?_ ?_ | refine Exists.intro ?_ ?_); first | omega | (simp <;> omega)) | (with_reducible refine spl (And.intro ?_ ?_) <;> intro _)) <;> (try simp (implicitDefEqProofs := false) (disch := first | assumption | (try simp only [lens]); omega -splitDisjunctions)))))
                    refine at2 ih4 ?_ ?_ <;> simp
                  | succ n8 ih8 =>
                    intro j hj
                    have hjl : j < l.length := by omega
                    have ih8 := ih8 (j + 1) (by omega)
                    have hjj := c.relsJ_len x i l j
                    have hgj : (l[j]?).getD 0 = l[j] := by simp [hjl]
                    rw [Sc.relsJ, hgj] at ih8
                    have hs := sees_modlog c hc x l[j] hxb (hc.wb _ (h3.sub _ (List.getElem_mem hjl)))
                    have hqq : (rr ++ c.relsJ x i l j).length ≤ 2000000 := by rw [List.length_append]; omega
                    rw [show (rr ++ if c.sees x l[j] = true then c.relsJ x i l j ++ [((i : Int), (j : Int))] else c.relsJ x i l j) = if c.sees x l[j] = true then (rr ++ c.relsJ x i l j) ++ [((i : Int), (j : Int))] else rr ++ c.relsJ x i l j by split <;> simp] at ih8
                    generalize rr ++ c.relsJ x i l j = rj at ih8 hqq ⊢
                    apply hQ8
                    unfold scn at ih8 hs ⊢
                    cases hse : c.sees x l[j]
                    · rw [hse] at hs ih8
                      rw [if_neg (by simp)] at ih8
                      ((try simp (implicitDefEqProofs := false) (disch := first | assumption | (try simp only [lens]); omega -splitDisjunctions)); all_goals try (repeat' ((first | ((with_reducible first | refine And.intro ?_ ?_ | refine Exists.intro ?_ ?_); first | omega | (simp <;> omega)) | (with_reducible refine spl (And.intro ?_ ?_) <;> intro _) | (refine CL.clo (hs) ?_) | (refine CM.clo (hs) ?_) | (refine CD.clo (hs) ?_)) <;> (try simp (implicitDefEqProofs := false) (disch := first | assumption | (try simp only [lens]); omega -splitDisjunctions)))))
                      refine at2 ih8 ?_ ?_ <;> simp
                    · rw [hse] at hs ih8
                      rw [if_pos rfl] at ih8
                      ((try simp (implicitDefEqProofs := false) (disch := first | assumption | (try simp only [lens]); omega -splitDisjunctions)); all_goals try (repeat' ((first | ((with_reducible first | refine And.intro ?_ ?_ | refine Exists.intro ?_ ?_); first | omega | (simp <;> omega)) | (with_reducible refine spl (And.intro ?_ ?_) <;> intro _) | (refine CL.clo (hs) ?_) | (refine CM.clo (hs) ?_) | (refine CD.clo (hs) ?_)) <;> (try simp (implicitDefEqProofs := false) (disch := first | assumption | (try simp only [lens]); omega -splitDisjunctions)))))
                      refine at2 ih8 ?_ ?_ <;> simp
                refine at2 (main8 _ 0 (Nat.zero_add _)) ?_ ?_ <;> simp [Sc.relsJ, scn]
              | succ n6 ih6 =>
                intro k hk
                have hkl : k < c.parts.length := by omega
                have ih6 := ih6 (k + 1) (by omega)
                have hkn : c.kind k = c.parts[k].kind := by simp [Sc.kind, hkl]
                have hkm : c.nameOf k = c.parts[k].name := by simp [Sc.nameOf, hkl]
                rw [Sc.names, hkn, hkm] at ih6
                have hh := has_modlog x k hxb (by omega)
                have hnl := c.names_len x k
                generalize c.names x k = nm at ih6 hnl ⊢
                apply hQ6
                unfold scn at ih6 ⊢
                by_cases h1 : c.parts[k].kind = 1
                · cases hb : x.testBit k
                  · rw [hb] at hh ih6
                    rw [if_neg (by simp)] at ih6
                    ((try simp (implicitDefEqProofs := false) (disch := first | assumption | (try simp only [lens]); omega -splitDisjunctions) [h1]); all_goals try (repeat' ((first | ((with_reducible first | refine And.intro ?_ ?_ | refine Exists.intro ?_ ?_); first | omega | (simp <;> omega)) | (with_reducible refine spl (And.intro ?_ ?_) <;> intro _) | (refine CL.clo (hh) ?_) | (refine CM.clo (hh) ?_) | (refine CD.clo (hh) ?_)) <;> (try simp (implicitDefEqProofs := false) (disch := first | assumption | (try simp only [lens]); omega -splitDisjunctions) [h1]))))
                    refine at2 ih6 ?_ ?_ <;> simp
                  · rw [hb] at hh ih6
                    rw [if_pos (by simp [h1]), List.map_append, List.map_cons, List.map_nil] at ih6
                    ((try simp (implicitDefEqProofs := false) (disch := first | assumption | (try simp only [lens]); omega -splitDisjunctions) [h1]); all_goals try (repeat' ((first | ((with_reducible first | refine And.intro ?_ ?_ | refine Exists.intro ?_ ?_); first | omega | (simp <;> omega)) | (with_reducible refine spl (And.intro ?_ ?_) <;> intro _) | (refine CL.clo (hh) ?_) | (refine CM.clo (hh) ?_) | (refine CD.clo (hh) ?_)) <;> (try simp (implicitDefEqProofs := false) (disch := first | assumption | (try simp only [lens]); omega -splitDisjunctions) [h1]))))
                    refine at2 ih6 ?_ ?_ <;> simp
                · rw [if_neg (by simp [h1])] at ih6
                  ((try simp (implicitDefEqProofs := false) (disch := first | assumption | (try simp only [lens]); omega -splitDisjunctions) [h1]); all_goals try (repeat' ((first | ((with_reducible first | refine And.intro ?_ ?_ | refine Exists.intro ?_ ?_); first | omega | (simp <;> omega)) | (with_reducible refine spl (And.intro ?_ ?_) <;> intro _) | (refine CL.clo (hh) ?_) | (refine CM.clo (hh) ?_) | (refine CD.clo (hh) ?_)) <;> (try simp (implicitDefEqProofs := false) (disch := first | assumption | (try simp only [lens]); omega -splitDisjunctions) [h1]))))
                  refine at2 ih6 ?_ ?_ <;> simp
            refine at2 (main6 _ 0 (Nat.zero_add _)) ?_ ?_ <;> simp [Sc.names, scn]
        refine at2 (main4 _ 0 (Nat.zero_add _)) ?_ ?_ <;> simp [Sc.rels, scn]
  refine at2 (main _ 0 [x0] (Nat.zero_add _) (Nat.zero_le _) ⟨by simp, by simpa using hx0⟩ rfl) ?_ ?_ <;> simp [scn]
end Go.Proofs.Ytliockncjdeloaa
