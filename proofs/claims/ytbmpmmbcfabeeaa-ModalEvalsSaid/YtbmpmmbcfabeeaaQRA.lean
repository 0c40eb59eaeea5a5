/-
  sequentref: Seen, memberOf, HasText.
-/
import Derived.Test.YtbmpmmbcfabeeaaPvQt
import Derived.Test.YtbmpmmbcfabeeaaQTh
namespace Go.Proofs.Ytbmpmmbcfabeeaa
open Go Go.Pv
set_option linter.unusedVariables false
set_option linter.unusedSimpArgs false
set_option maxRecDepth 100000
set_option maxHeartbeats 4000000

/-- a model whose pairs are of its worlds -/
structure MdOK (m : Mdl) (n : Nat) : Prop where
  n_eq : m.n = n
  small : n ≤ 1024
  rel : ∀ p ∈ m.rel, 0 ≤ p.1 ∧ p.1 < n ∧ 0 ≤ p.2 ∧ p.2 < n
def seeT (m : Mdl) (u v : Nat) : Bool := decide (((u : Int), (v : Int)) ∈ m.rel)
def seenL (m : Mdl) (n u : Nat) : List Nat := (List.range n).filter (seeT m u)
def seenRow (l : List Nat) : List (List PV) := l.map numRow
/-- which worlds each world sees, so far -/
def seenTo (m : Mdl) (n u v : Nat) : List (List Nat) := (List.range n).map fun w => if w < u then seenL m n w else if w = u then (List.range v).filter (seeT m u) else []
@[simp] theorem seenTo_length {m : Mdl} {n u v : Nat} : (seenTo m n u v).length = n := by simp [seenTo]
theorem seenTo_get {m : Mdl} {n u v w : Nat} (h : w < (seenTo m n u v).length) : (seenTo m n u v)[w] = if w < u then seenL m n w else if w = u then (List.range v).filter (seeT m u) else [] := by simp [seenTo]
theorem seenTo_next {m : Mdl} {n u : Nat} : seenTo m n u n = seenTo m n (u + 1) 0 := by
  unfold seenTo
  apply List.map_congr_left
  intro w hw
  by_cases h : w < u
  · rw [if_pos h, if_pos (by omega)]
  · rw [if_neg h]
    by_cases h2 : w = u
    · subst h2; rw [if_pos rfl, if_pos (by omega)]; rfl
    · rw [if_neg h2, if_neg (by omega)]; split <;> simp
theorem seenTo_no {m : Mdl} {n u v : Nat} (h : seeT m u v = false) : seenTo m n u (v + 1) = seenTo m n u v := by
  unfold seenTo
  apply List.map_congr_left
  intro w hw
  rw [List.range_succ, List.filter_append]; simp [h]
theorem seenTo_yes {m : Mdl} {n u v : Nat} (hu : u < n) (h : seeT m u v = true) : seenTo m n u (v + 1) = (seenTo m n u v).set u ((List.range v).filter (seeT m u) ++ [v]) := by
  apply List.ext_getElem (by simp)
  intro w h1 h2
  rw [List.getElem_set, seenTo_get]
  by_cases hw : u = w
  · subst hw; rw [if_neg (by omega), if_pos rfl, if_pos rfl, List.range_succ, List.filter_append]; simp [h]
  · rw [if_neg hw, seenTo_get]
    by_cases h3 : w < u
    · rw [if_pos h3, if_pos h3]
    · rw [if_neg h3, if_neg h3, if_neg (by omega), if_neg (by omega)]
/-- the pairs, as one row of truth values -/
def isB (n : Nat) (l : List (Int × Int)) : List Bool := l.foldl (fun bs p => bs.set (p.1.toNat * n + p.2.toNat) true) (List.replicate (n * n) false)
theorem isB_snoc (n : Nat) (l : List (Int × Int)) (p : Int × Int) : isB n (l ++ [p]) = (isB n l).set (p.1.toNat * n + p.2.toNat) true := by simp [isB]
theorem isB_length (n : Nat) (l : List (Int × Int)) : (isB n l).length = n * n := by
  unfold isB
  suffices h : ∀ (l : List (Int × Int)) (bs : List Bool), (l.foldl (fun bs p => bs.set (p.1.toNat * n + p.2.toNat) true) bs).length = bs.length by rw [h]; simp
  intro l
  induction l with
  | nil => intro bs; rfl
  | cons p r ih => intro bs; rw [List.foldl_cons, ih]; simp
theorem pair_ix {n a b c d : Nat} (hb : b < n) (hd : d < n) (h : a * n + b = c * n + d) : a = c ∧ b = d := by
  have h1 : a = c := by
    have e1 : (a * n + b) / n = a := by rw [Nat.mul_comm, Nat.mul_add_div (by omega), Nat.div_eq_of_lt hb, Nat.add_zero]
    have e2 : (c * n + d) / n = c := by rw [Nat.mul_comm, Nat.mul_add_div (by omega), Nat.div_eq_of_lt hd, Nat.add_zero]
    rw [← e1, ← e2, h]
  subst h1; exact ⟨rfl, by omega⟩
theorem isB_get {n : Nat} (l : List (Int × Int)) (hl : ∀ p ∈ l, 0 ≤ p.1 ∧ p.1 < n ∧ 0 ≤ p.2 ∧ p.2 < n) {u v : Nat} (hu : u < n) (hv : v < n) : (isB n l)[u * n + v]? = some (decide (((u : Int), (v : Int)) ∈ l)) := by
  have hlt : u * n + v < n * n := by
    have : u * n + n ≤ n * n := by rw [← Nat.succ_mul]; exact Nat.mul_le_mul_right n hu
    omega
  suffices h : ∀ (k : List (Int × Int)) (bs : List Bool) (b0 : Bool), bs.length = n * n → bs[u * n + v]? = some b0 → (∀ p ∈ k, 0 ≤ p.1 ∧ p.1 < n ∧ 0 ≤ p.2 ∧ p.2 < n) →
      (k.foldl (fun bs p => bs.set (p.1.toNat * n + p.2.toNat) true) bs)[u * n + v]? = some (b0 || decide (((u : Int), (v : Int)) ∈ k)) by
    have := h l (List.replicate (n * n) false) false (by simp) (by simp [hlt]) hl
    simpa [isB] using this
  intro k
  induction k with
  | nil => intro bs b0 hb hg _; simpa using hg
  | cons p r ih =>
    intro bs b0 hb hg hk
    rw [List.foldl_cons]
    obtain ⟨p1, p2, p3, p4⟩ := hk p (by simp)
    have hr := fun q hq => hk q (List.mem_cons_of_mem _ hq)
    by_cases he : p.1.toNat * n + p.2.toNat = u * n + v
    · obtain ⟨e1, e2⟩ := pair_ix (by omega) hv he
      have : ((u : Int), (v : Int)) = p := by
        obtain ⟨a, b⟩ := p
        simp only at *
        rw [← e1, ← e2, Int.toNat_of_nonneg p1, Int.toNat_of_nonneg p3]
      rw [ih _ true (by simp [hb]) (by rw [List.getElem?_set, if_pos he, if_pos (by omega)]) hr]
      simp [this]
    · have : ¬ ((u : Int), (v : Int)) = p := by
        rintro rfl
        simp at he
      rw [ih _ b0 (by simp [hb]) (by rw [List.getElem?_set, if_neg he]; exact hg) hr]
      simp [this]

def x107_L0 : XC := .seq (.seq (.reg [⟨some 6,.move (.tmp 5),none⟩,⟨some 7,.move (.tmp 0),none⟩,⟨some 8,.call ⟨.builtin .len,#[.tmp 7],#[112]⟩,none⟩,⟨some 9,.binOp .lss 3 (.tmp 6) (.tmp 8) 3,none⟩]) (.cond (.tmp 9) (.skip) (.exit 0))) (.seq (.block 1 (.seq (.reg [⟨some 12,.move (.tmp 0),none⟩,⟨some 13,.move (.tmp 5),none⟩,⟨some 14,.indexAddr 112 (.tmp 12) (.tmp 13),none⟩,⟨some 15,.load 3 (.tmp 14),none⟩,⟨some 16,.move (.tmp 1),none⟩,⟨some 17,.binOp .eql 3 (.tmp 15) (.tmp 16) 3,none⟩]) (.cond (.tmp 17) (.seq (.reg [⟨some 4,.assign (.const (.bool true)),none⟩]) (.ret)) (.skip)))) (.reg [⟨some 10,.move (.tmp 5),none⟩,⟨some 11,.binOp .add 3 (.tmp 10) (.const (.int .i64 1)) 3,none⟩,⟨some 5,.assign (.tmp 11),none⟩]))
def x107 : XC := .seq (.reg [⟨some 4,.assign (.const (.bool false)),none⟩]) (.seq (.seq (.reg [⟨some 5,.assign (.const (.int .i64 0)),none⟩]) (.bloop 0 x107_L0)) (.seq (.reg [⟨some 4,.assign (.const (.bool false)),none⟩]) (.ret)))
@[simp] theorem x107_s {C : WC} {e : AE} {s : Store} {K : KS} : type_of% (@X_at C e s K _ _ x107_L0.eq_1) ∧ type_of% (@X_at C e s K _ _ x107.eq_1) := ⟨X_at x107_L0.eq_1, X_at x107.eq_1⟩
def an107 : Ann := ⟨[], [(0, [], [0, 1, 5], [4])], []⟩
def cx107 (P : Program) (m : Nat) : WC := ⟨P, m, an107⟩
@[simp] theorem cx107_a {P : Program} {m : Nat} : (cx107 P m).P = P ∧ (cx107 P m).m = m ∧ (cx107 P m).A.loopOf 0 = ([], [0, 1, 5], [4]) := ⟨rfl, rfl, rfl⟩
instance {P : Program} {m f : Nat} [h : EnT P f] : EnT (cx107 P m).P f := h
theorem chk107 : ∀ c, Try.f107.body = some c → chkC Try.f107.ntmps an107 c = true := by intro c h; obtain rfl := Option.some.inj h; decide +kernel
theorem op107 {args : List PV} {v : PV} (h : X (cx107 Try.prog 0) x107 (argsA 0 args) [] (.fin [.tmp 4] fun v1 s1 => deref s1 6 v1 = v)) (hl : args.length ≤ Try.f107.ntmps := by rw [Try.ntmps107]; simp) : CallOK Try.prog 107 args [] v [] :=
  callX (m := 0) (cx107 Try.prog 0) x107 rfl rfl (by kernel_rfl) Try.func107 rfl rfl hl mixed (chk107 _ rfl) (by rw [Try.results107]; exact h)

theorem memberOf_ref (l : List Nat) (u : Nat) : CallOK Try.prog 107 [.list (l.map numRow), .int .i64 (u : Int)] [] (.bool (decide (u ∈ l))) [] := by
  refine op107 ?_
  (((try simp (implicitDefEqProofs := false)); (try simp (implicitDefEqProofs := false) (disch := first | assumption | (try simp only [lens]); omega -splitDisjunctions))); all_goals try (repeat' ((first | ((with_reducible first | refine And.intro ?_ ?_ | refine Exists.intro ?_ ?_); first | omega | (simp <;> omega)) | (with_reducible refine spl (And.intro ?_ ?_) <;> intro _)) <;> ((try simp (implicitDefEqProofs := false)); (try simp (implicitDefEqProofs := false) (disch := first | assumption | (try simp only [lens]); omega -splitDisjunctions))))))
  refine W_of fun Q hQ => ?_
  have main : ∀ n i, i + n = l.length → (∀ j (h : j < l.length), j < i → l[j] ≠ u) → Q [(0, .list (l.map numRow)), (1, .int .i64 (u : Int)), (5, .int .i64 (i : Int))] [] := by
    intro n
    induction n with
    | zero =>
      intro i hi hl
      have hno : ¬ u ∈ l := by
        intro h
        obtain ⟨j, hj, e⟩ := List.mem_iff_getElem.1 h
        exact hl j hj (by omega) e
      apply hQ
      (((try simp (implicitDefEqProofs := false)); (try simp (implicitDefEqProofs := false) (disch := first | assumption | (try simp only [lens]); omega -splitDisjunctions))); all_goals try (repeat' ((first | ((with_reducible first | refine And.intro ?_ ?_ | refine Exists.intro ?_ ?_); first | omega | (simp <;> omega)) | (with_reducible refine spl (And.intro ?_ ?_) <;> intro _)) <;> ((try simp (implicitDefEqProofs := false)); (try simp (implicitDefEqProofs := false) (disch := first | assumption | (try simp only [lens]); omega -splitDisjunctions))))))
      all_goals simp [hno]
    | succ n ih =>
      intro i hi hl
      have hlt : i < l.length := by omega
      by_cases hb : l[i] = u
      · have hyes : u ∈ l := hb ▸ List.getElem_mem hlt
        apply hQ
        (((try simp (implicitDefEqProofs := false)); (try simp (implicitDefEqProofs := false) (disch := first | assumption | (try simp only [lens]); omega -splitDisjunctions))); all_goals try (repeat' ((first | ((with_reducible first | refine And.intro ?_ ?_ | refine Exists.intro ?_ ?_); first | omega | (simp <;> omega)) | (with_reducible refine spl (And.intro ?_ ?_) <;> intro _)) <;> ((try simp (implicitDefEqProofs := false)); (try simp (implicitDefEqProofs := false) (disch := first | assumption | (try simp only [lens]); omega -splitDisjunctions))))))
        all_goals first | (exfalso; omega) | simp_all
      · have ih := ih (i + 1) (by omega) (fun j hj hji => by
          by_cases e : j = i
          · subst e; exact hb
          · exact hl j hj (by omega))
        apply hQ
        (((try simp (implicitDefEqProofs := false)); (try simp (implicitDefEqProofs := false) (disch := first | assumption | (try simp only [lens]); omega -splitDisjunctions))); all_goals try (repeat' ((first | ((with_reducible first | refine And.intro ?_ ?_ | refine Exists.intro ?_ ?_); first | omega | (simp <;> omega)) | (with_reducible refine spl (And.intro ?_ ?_) <;> intro _)) <;> ((try simp (implicitDefEqProofs := false)); (try simp (implicitDefEqProofs := false) (disch := first | assumption | (try simp only [lens]); omega -splitDisjunctions))))))
        all_goals first | (exfalso; omega) | simpa using ih
  refine at2 (main _ 0 (Nat.zero_add _) (fun j h hj => by omega)) ?_ ?_ <;> simp
def x106_T4 : XC := .seq (.reg [⟨some 73,.move (.tmp 3),none⟩,⟨some 2,.assign (.tmp 73),none⟩]) (.ret)
def x106_L4 : XC := .seq (.seq (.reg [⟨some 48,.move (.tmp 7),none⟩,⟨some 49,.fieldAddr 61 (.tmp 1) 0,none⟩,⟨some 50,.load 3 (.tmp 49),none⟩,⟨some 51,.binOp .lss 3 (.tmp 48) (.tmp 50) 3,none⟩]) (.cond (.tmp 51) (.skip) (.exit 4))) (.seq (.block 5 (.seq (.reg [⟨some 54,.move (.tmp 4),none⟩,⟨some 55,.move (.tmp 6),none⟩,⟨some 56,.fieldAddr 61 (.tmp 1) 0,none⟩,⟨some 57,.load 3 (.tmp 56),none⟩,⟨some 58,.binOp .mul 3 (.tmp 55) (.tmp 57) 3,none⟩,⟨some 59,.move (.tmp 7),none⟩,⟨some 60,.binOp .add 3 (.tmp 58) (.tmp 59) 3,none⟩,⟨some 61,.indexAddr 46 (.tmp 54) (.tmp 60),none⟩,⟨some 62,.load 4 (.tmp 61),none⟩]) (.cond (.tmp 62) (.reg [⟨some 63,.move (.tmp 3),none⟩,⟨some 64,.move (.tmp 6),none⟩,⟨some 65,.move (.tmp 3),none⟩,⟨some 66,.move (.tmp 6),none⟩,⟨some 67,.indexAddr 131 (.tmp 65) (.tmp 66),none⟩,⟨some 68,.load 112 (.tmp 67),none⟩,⟨some 69,.move (.tmp 7),none⟩,⟨some 70,.buildSlice 112 1 #[(0,.tmp 69)],none⟩,⟨some 71,.call ⟨.builtin .append,#[.tmp 68,.tmp 70],#[112,112]⟩,none⟩,⟨some 72,.indexAddr 131 (.tmp 63) (.tmp 64),none⟩,⟨none,.store 112 (.tmp 72) (.tmp 71),none⟩]) (.skip)))) (.reg [⟨some 52,.move (.tmp 7),none⟩,⟨some 53,.binOp .add 3 (.tmp 52) (.const (.int .i64 1)) 3,none⟩,⟨some 7,.assign (.tmp 53),none⟩]))
def x106_L2 : XC := .seq (.seq (.reg [⟨some 42,.move (.tmp 6),none⟩,⟨some 43,.fieldAddr 61 (.tmp 1) 0,none⟩,⟨some 44,.load 3 (.tmp 43),none⟩,⟨some 45,.binOp .lss 3 (.tmp 42) (.tmp 44) 3,none⟩]) (.cond (.tmp 45) (.skip) (.exit 2))) (.seq (.block 3 (.seq (.reg [⟨some 7,.assign (.const (.int .i64 0)),none⟩]) (.bloop 4 x106_L4))) (.reg [⟨some 46,.move (.tmp 6),none⟩,⟨some 47,.binOp .add 3 (.tmp 46) (.const (.int .i64 1)) 3,none⟩,⟨some 6,.assign (.tmp 47),none⟩]))
def x106_T1 : XC := .seq (.seq (.reg [⟨some 6,.assign (.const (.int .i64 0)),none⟩]) (.bloop 2 x106_L2)) (x106_T4)
def x106_L0 : XC := .seq (.seq (.reg [⟨some 17,.move (.tmp 5),none⟩,⟨some 18,.fieldAddr 61 (.tmp 1) 1,none⟩,⟨some 19,.load 58 (.tmp 18),none⟩,⟨some 20,.call ⟨.builtin .len,#[.tmp 19],#[58]⟩,none⟩,⟨some 21,.binOp .lss 3 (.tmp 17) (.tmp 20) 3,none⟩]) (.cond (.tmp 21) (.skip) (.exit 0))) (.seq (.block 1 (.drawn 6 [⟨some 24,.move (.tmp 4),none⟩,⟨some 25,.fieldAddr 61 (.tmp 1) 1,none⟩,⟨some 26,.load 58 (.tmp 25),none⟩,⟨some 27,.move (.tmp 5),none⟩,⟨some 28,.indexAddr 58 (.tmp 26) (.tmp 27),none⟩,⟨some 29,.indexAddr 130 (.tmp 28) (.const (.int .i64 0)),none⟩,⟨some 30,.load 3 (.tmp 29),none⟩,⟨some 31,.fieldAddr 61 (.tmp 1) 0,none⟩,⟨some 32,.load 3 (.tmp 31),none⟩,⟨some 33,.binOp .mul 3 (.tmp 30) (.tmp 32) 3,none⟩,⟨some 34,.fieldAddr 61 (.tmp 1) 1,none⟩,⟨some 35,.load 58 (.tmp 34),none⟩,⟨some 36,.move (.tmp 5),none⟩,⟨some 37,.indexAddr 58 (.tmp 35) (.tmp 36),none⟩,⟨some 38,.indexAddr 130 (.tmp 37) (.const (.int .i64 1)),none⟩,⟨some 39,.load 3 (.tmp 38),none⟩,⟨some 40,.binOp .add 3 (.tmp 33) (.tmp 39) 3,none⟩,⟨some 41,.indexAddr 46 (.tmp 24) (.tmp 40),none⟩,⟨none,.store 4 (.tmp 41) (.const (.bool true)),none⟩])) (.reg [⟨some 22,.move (.tmp 5),none⟩,⟨some 23,.binOp .add 3 (.tmp 22) (.const (.int .i64 1)) 3,none⟩,⟨some 5,.assign (.tmp 23),none⟩]))
def x106 : XC := .seq (.reg [⟨some 1,.box 61 (.tmp 0),none⟩,⟨some 2,.assign (.const (.slice none 0 0)),none⟩]) (.seq (.reg [⟨some 8,.fieldAddr 61 (.tmp 1) 0,none⟩,⟨some 9,.load 3 (.tmp 8),none⟩,⟨some 10,.makeSlice 131 (.tmp 9) (.tmp 9),none⟩,⟨some 3,.assign (.tmp 10),none⟩]) (.seq (.reg [⟨some 11,.fieldAddr 61 (.tmp 1) 0,none⟩,⟨some 12,.load 3 (.tmp 11),none⟩,⟨some 13,.fieldAddr 61 (.tmp 1) 0,none⟩,⟨some 14,.load 3 (.tmp 13),none⟩,⟨some 15,.binOp .mul 3 (.tmp 12) (.tmp 14) 3,none⟩,⟨some 16,.makeSlice 46 (.tmp 15) (.tmp 15),none⟩,⟨some 4,.assign (.tmp 16),none⟩]) (.seq (.seq (.reg [⟨some 5,.assign (.const (.int .i64 0)),none⟩]) (.bloop 0 x106_L0)) (x106_T1))))
@[simp] theorem x106_s {C : WC} {e : AE} {s : Store} {K : KS} : type_of% (@X_at C e s K _ _ x106_T4.eq_1) ∧ type_of% (@X_at C e s K _ _ x106_L4.eq_1) ∧ type_of% (@X_at C e s K _ _ x106_L2.eq_1) ∧ type_of% (@X_at C e s K _ _ x106_T1.eq_1) ∧ type_of% (@X_at C e s K _ _ x106_L0.eq_1) ∧ type_of% (@X_at C e s K _ _ x106.eq_1) := ⟨X_at x106_T4.eq_1, X_at x106_L4.eq_1, X_at x106_L2.eq_1, X_at x106_T1.eq_1, X_at x106_L0.eq_1, X_at x106.eq_1⟩
def an106 : Ann := ⟨[], [(4, [(3, some 4000, 1)], [1, 3, 4, 6, 7], [1, 3, 4, 6]), (2, [(3, some 4000, 1)], [1, 3, 4, 6], [3]), (0, [], [1, 3, 4, 5], [1, 3, 4])], []⟩
def cx106 (P : Program) (m : Nat) : WC := ⟨P, m, an106⟩
@[simp] theorem cx106_a {P : Program} {m : Nat} : (cx106 P m).P = P ∧ (cx106 P m).m = m ∧ (cx106 P m).A.clsOf 6 = .draw ∧ (cx106 P m).A.frzOf 6 = [] ∧ (cx106 P m).A.loopOf 4 = ([(3, some 4000, 1)], [1, 3, 4, 6, 7], [1, 3, 4, 6]) ∧ (cx106 P m).A.loopOf 2 = ([(3, some 4000, 1)], [1, 3, 4, 6], [3]) ∧ (cx106 P m).A.loopOf 0 = ([], [1, 3, 4, 5], [1, 3, 4]) := ⟨rfl, rfl, rfl, rfl, rfl, rfl, rfl⟩
instance {P : Program} {m f : Nat} [h : EnT P f] : EnT (cx106 P m).P f := h
theorem chk106 : ∀ c, Try.f106.body = some c → chkC Try.f106.ntmps an106 c = true := by intro c h; obtain rfl := Option.some.inj h; decide +kernel
theorem op106 {args : List PV} {v : PV} (h : X (cx106 Try.prog 0) x106 (argsA 0 args) [] (.fin [.tmp 2] fun v1 s1 => deref s1 6 v1 = v)) (hl : args.length ≤ Try.f106.ntmps := by rw [Try.ntmps106]; simp) : CallOK Try.prog 106 args [] v [] :=
  callX (m := 0) (cx106 Try.prog 0) x106 rfl rfl (by kernel_rfl) Try.func106 rfl rfl hl mixed (chk106 _ rfl) (by rw [Try.results106]; exact h)

theorem ix_int {n a b : Nat} (hn : n ≤ 1024) (ha : a < n) (hb : b < n) : IntKind.i64.wrap (IntKind.i64.wrap ((a : Int) * (n : Int)) + (b : Int)) = ((a * n + b : Nat) : Int) ∧ a * n + b < n * n := by
  have h1 : a * n + n ≤ n * n := by rw [← Nat.succ_mul]; exact Nat.mul_le_mul_right n ha
  have h2 : n * n ≤ 1048576 := Nat.le_trans (Nat.mul_le_mul hn hn) (by decide)
  have e : (a : Int) * (n : Int) = ((a * n : Nat) : Int) := by simp
  rw [e]
  generalize a * n = x at *
  generalize n * n = y at *
  refine ⟨?_, by omega⟩
  rw [wrap64 (n := (x : Int)) (by omega) (by omega), wrap64 (by omega) (by omega)]; simp
theorem Seen_ref (m : Mdl) (n : Nat) (hm : MdOK m n) : CallOK Try.prog 106 [.agg (mdl m)] [] (.list ((List.range n).map fun u => [.list ((seenL m n u).map numRow)])) [] := by
  obtain ⟨mn, rel, tr⟩ := m
  obtain ⟨hn, hs, hrel⟩ := hm
  simp only at hn hrel
  subst hn
  have hnn : n * n ≤ 1048576 := Nat.le_trans (Nat.mul_le_mul hs hs) (by decide)
  have hw : IntKind.i64.wrap ((n : Int) * n) = ((n * n : Nat) : Int) := by
    have e : (n : Int) * (n : Int) = ((n * n : Nat) : Int) := by simp
    rw [e]
    generalize n * n = y at *
    rw [wrap64 (by omega) (by omega)]
  refine op106 ?_
  (((try simp (implicitDefEqProofs := false) [hw]); (try simp (implicitDefEqProofs := false) (disch := first | assumption | (try simp only [lens]); omega -splitDisjunctions) [hw])); all_goals try (repeat' ((first | ((with_reducible first | refine And.intro ?_ ?_ | refine Exists.intro ?_ ?_); first | omega | (simp <;> omega)) | (with_reducible refine spl (And.intro ?_ ?_) <;> intro _) | (refine CL.clo (hn) ?_) | (refine CM.clo (hn) ?_) | (refine CD.clo (hn) ?_)) <;> ((try simp (implicitDefEqProofs := false) [hw]); (try simp (implicitDefEqProofs := false) (disch := first | assumption | (try simp only [lens]); omega -splitDisjunctions) [hw])))))
  refine W_of fun Q hQ => ?_
  have main : ∀ k i, i + k = rel.length → Q [(1, .ptr 0 0 0), (3, .sl 1 0 n), (4, .sl 2 0 (n * n)), (5, .int .i64 (i : Int))] [.rows 3 [mdl ⟨n, rel, tr⟩], .rows 1 (List.replicate n [.nilsl]), .rows 1 ((isB n (rel.take i)).map boolRow)] := by
    intro k
    induction k with
    | zero =>
      intro i hi
      rw [List.take_of_length_le (by omega)]
      apply hQ
      (((try simp (implicitDefEqProofs := false) [hw]); (try simp (implicitDefEqProofs := false) (disch := first | assumption | (try simp only [lens]); omega -splitDisjunctions) [hw])); all_goals try (repeat' ((first | ((with_reducible first | refine And.intro ?_ ?_ | refine Exists.intro ?_ ?_); first | omega | (simp <;> omega)) | (with_reducible refine spl (And.intro ?_ ?_) <;> intro _) | (refine CL.clo (hn) ?_) | (refine CM.clo (hn) ?_) | (refine CD.clo (hn) ?_)) <;> ((try simp (implicitDefEqProofs := false) [hw]); (try simp (implicitDefEqProofs := false) (disch := first | assumption | (try simp only [lens]); omega -splitDisjunctions) [hw])))))
      refine HT_new (b := 3) (n := n) (ρ0 := [0, 1, 2]) rfl rfl rfl rfl rfl (by simp) (by simp) (by simp) ?_
      simp
      refine W_of fun Q2 hQ2 => ?_
      have hbl := isB_length n rel
      have main2 : ∀ k u, u + k = n → Q2 [(1, .ptr 0 0 0), (3, .sl 1 0 n), (4, .sl 2 0 (n * n)), (6, .int .i64 (u : Int))]
          (.rows 3 [mdl ⟨n, rel, tr⟩] :: .rows 1 (tabRows 3 ((seenTo ⟨n, rel, tr⟩ n u 0).map List.length)) :: .rows 1 ((isB n rel).map boolRow) :: tabObjs 1 ((seenTo ⟨n, rel, tr⟩ n u 0).map (List.map numRow))) := by
        intro k
        induction k with
        | zero =>
          intro u hu
          apply hQ2
          (((try simp (implicitDefEqProofs := false) [hbl]); (try simp (implicitDefEqProofs := false) (disch := first | assumption | (try simp only [lens]); omega -splitDisjunctions) [hbl])); all_goals try (repeat' ((first | ((with_reducible first | refine And.intro ?_ ?_ | refine Exists.intro ?_ ?_); first | omega | (simp <;> omega)) | (with_reducible refine spl (And.intro ?_ ?_) <;> intro _) | (refine CL.clo (hn) ?_) | (refine CM.clo (hn) ?_) | (refine CD.clo (hn) ?_)) <;> ((try simp (implicitDefEqProofs := false) [hbl]); (try simp (implicitDefEqProofs := false) (disch := first | assumption | (try simp only [lens]); omega -splitDisjunctions) [hbl])))))
          refine HT_keep0 (pre := [_, _, _]) (b := 3) (ρ0 := [1]) rfl rfl rfl rfl (by simp) flat_tab (by simp) (by simp) (by simp) ?_
          simp
          rw [deref_tab1' (g := numRow)]
          rw [List.take_of_length_le (by simp)]
          unfold seenTo
          rw [List.map_map]
          apply List.map_congr_left
          intro w hw
          rw [List.mem_range] at hw
          simp [show w < u by omega]
        | succ k ih2 =>
          intro u hu
          have ih2 := ih2 (u + 1) (by omega)
          apply hQ2
          (((try simp (implicitDefEqProofs := false) [hbl]); (try simp (implicitDefEqProofs := false) (disch := first | assumption | (try simp only [lens]); omega -splitDisjunctions) [hbl])); all_goals try (repeat' ((first | ((with_reducible first | refine And.intro ?_ ?_ | refine Exists.intro ?_ ?_); first | omega | (simp <;> omega)) | (with_reducible refine spl (And.intro ?_ ?_) <;> intro _) | (refine CL.clo (hn) ?_) | (refine CM.clo (hn) ?_) | (refine CD.clo (hn) ?_)) <;> ((try simp (implicitDefEqProofs := false) [hbl]); (try simp (implicitDefEqProofs := false) (disch := first | assumption | (try simp only [lens]); omega -splitDisjunctions) [hbl])))))
          refine HT_keep0 (pre := [_, _, _]) (b := 3) (ρ0 := [0, 1, 2]) rfl rfl rfl rfl (by simp) flat_tab (by simp) (by simp) (by simp) ?_
          simp
          refine W_of fun Q3 hQ3 => ?_
          have main3 : ∀ k v, v + k = n → Q3 [(1, .ptr 0 0 0), (3, .sl 1 0 n), (4, .sl 2 0 (n * n)), (6, .int .i64 (u : Int)), (7, .int .i64 (v : Int))]
              (.rows 3 [mdl ⟨n, rel, tr⟩] :: .rows 1 (tabRows 3 ((seenTo ⟨n, rel, tr⟩ n u v).map List.length)) :: .rows 1 ((isB n rel).map boolRow) :: tabObjs 1 ((seenTo ⟨n, rel, tr⟩ n u v).map (List.map numRow))) := by
            intro k
            induction k with
            | zero =>
              intro v hv
              apply hQ3
              (((try simp (implicitDefEqProofs := false) [hbl]); (try simp (implicitDefEqProofs := false) (disch := first | assumption | (try simp only [lens]); omega -splitDisjunctions) [hbl])); all_goals try (repeat' ((first | ((with_reducible first | refine And.intro ?_ ?_ | refine Exists.intro ?_ ?_); first | omega | (simp <;> omega)) | (with_reducible refine spl (And.intro ?_ ?_) <;> intro _) | (refine CL.clo (hn) ?_) | (refine CM.clo (hn) ?_) | (refine CD.clo (hn) ?_)) <;> ((try simp (implicitDefEqProofs := false) [hbl]); (try simp (implicitDefEqProofs := false) (disch := first | assumption | (try simp only [lens]); omega -splitDisjunctions) [hbl])))))
              refine HT_keep0 (pre := [_, _, _]) (b := 3) (ρ0 := [0, 1, 2]) rfl rfl rfl rfl (by simp) flat_tab (by simp) (by simp) (by simp) ?_
              (((try simp (implicitDefEqProofs := false) [hbl]); (try simp (implicitDefEqProofs := false) (disch := first | assumption | (try simp only [lens]); omega -splitDisjunctions) [hbl])); all_goals try (repeat' ((first | ((with_reducible first | refine And.intro ?_ ?_ | refine Exists.intro ?_ ?_); first | omega | (simp <;> omega)) | (with_reducible refine spl (And.intro ?_ ?_) <;> intro _) | (refine CL.clo (hn) ?_) | (refine CM.clo (hn) ?_) | (refine CD.clo (hn) ?_)) <;> ((try simp (implicitDefEqProofs := false) [hbl]); (try simp (implicitDefEqProofs := false) (disch := first | assumption | (try simp only [lens]); omega -splitDisjunctions) [hbl])))))
              refine HT_keep0 (pre := [_, _, _]) (b := 3) (ρ0 := [0, 1, 2]) rfl rfl rfl rfl (by simp) flat_tab (by simp) (by simp) (by simp) ?_
              rw [← seenTo_next] at ih2
              simpa [show v = n by omega] using ih2
            | succ k ih3 =>
              intro v hv
              obtain ⟨hx1, hx2⟩ := ix_int (n := n) (a := u) (b := v) hs (by omega) (by omega)
              have hb := isB_get rel hrel (u := u) (v := v) (by omega) (by omega)
              obtain ⟨x, hx⟩ : ∃ x, x = u * n + v := ⟨_, rfl⟩
              rw [← hx] at hx1 hx2 hb
              have hb2 : (isB n rel)[x]'(by omega) = seeT ⟨n, rel, tr⟩ u v := by
                rw [List.getElem?_eq_getElem (by omega)] at hb; exact Option.some.inj hb
              have hx3 : (u : Int) * n + v = (x : Int) := by rw [hx]; simp
              have hun : u < n := by omega
              have ih3 := ih3 (v + 1) (by omega)
              apply hQ3
              have hfl : ((List.range v).filter (seeT ⟨n, rel, tr⟩ u)).length ≤ v := Nat.le_trans (List.length_filter_le _ _) (by simp)
              (((try simp (implicitDefEqProofs := false) [hbl, hx3, hb2, hun, seenTo_get]); (try simp (implicitDefEqProofs := false) (disch := first | assumption | (try simp only [lens]); omega -splitDisjunctions) [hbl, hx3, hb2, hun, seenTo_get])); all_goals try (repeat' ((first | ((with_reducible first | refine And.intro ?_ ?_ | refine Exists.intro ?_ ?_); first | omega | (simp <;> omega)) | (with_reducible refine spl (And.intro ?_ ?_) <;> intro _) | (refine CL.clo (hn) ?_) | (refine CM.clo (hn) ?_) | (refine CD.clo (hn) ?_)) <;> ((try simp (implicitDefEqProofs := false) [hbl, hx3, hb2, hun, seenTo_get]); (try simp (implicitDefEqProofs := false) (disch := first | assumption | (try simp only [lens]); omega -splitDisjunctions) [hbl, hx3, hb2, hun, seenTo_get])))))
              · skip
                refine HT_putd (pre := [_, _, _]) (b := 3) (ρ0 := [0, 1, 2]) (ys := ((List.range v).filter (seeT ⟨n, rel, tr⟩ u) ++ [v]).map numRow) rfl rfl rfl rfl (by simpa using hun) (by simp) (by simp; omega) (by simp) flat_tab flat_rows (by simp) (by simp) (by simp) ?_
                rw [seenTo_yes hun ‹_›] at ih3
                (((try simp (implicitDefEqProofs := false)); (try simp (implicitDefEqProofs := false) (disch := first | assumption | (try simp only [lens]); omega -splitDisjunctions))); all_goals try (repeat' ((first | ((with_reducible first | refine And.intro ?_ ?_ | refine Exists.intro ?_ ?_); first | omega | (simp <;> omega)) | (with_reducible refine spl (And.intro ?_ ?_) <;> intro _)) <;> ((try simp (implicitDefEqProofs := false)); (try simp (implicitDefEqProofs := false) (disch := first | assumption | (try simp only [lens]); omega -splitDisjunctions))))))
                simpa [List.map_set] using ih3
              · refine HT_keep0 (pre := [_, _, _]) (b := 3) (ρ0 := [0, 1, 2]) rfl rfl rfl rfl (by simp) flat_tab (by simp) (by simp) (by simp) ?_
                rw [seenTo_no ‹_›] at ih3
                simpa using ih3
          simpa using main3 n 0 (by omega)
      refine at2 (main2 n 0 (by omega)) ?_ ?_
      all_goals simp [seenTo, Function.comp_def, List.map_const']
    | succ k ih =>
      intro i hi
      have hlt : i < rel.length := by omega
      obtain ⟨p1, p2, p3, p4⟩ := hrel rel[i] (List.getElem_mem hlt)
      obtain ⟨hx1, hx2⟩ := ix_int (n := n) (a := rel[i].1.toNat) (b := rel[i].2.toNat) hs (by omega) (by omega)
      rw [Int.toNat_of_nonneg p1, Int.toNat_of_nonneg p3] at hx1
      have hl := isB_length n (rel.take i)
      have ih := ih (i + 1) (by omega)
      rw [take_snoc hlt, isB_snoc] at ih
      obtain ⟨x, hx⟩ : ∃ x, x = rel[i].1.toNat * n + rel[i].2.toNat := ⟨_, rfl⟩
      rw [← hx] at hx1 hx2 ih
      apply hQ
      (((try simp (implicitDefEqProofs := false) [hx1, hx2, hl]); (try simp (implicitDefEqProofs := false) (disch := first | assumption | (try simp only [lens]); omega -splitDisjunctions) [hx1, hx2, hl])); all_goals try (repeat' ((first | ((with_reducible first | refine And.intro ?_ ?_ | refine Exists.intro ?_ ?_); first | omega | (simp <;> omega)) | (with_reducible refine spl (And.intro ?_ ?_) <;> intro _) | (refine CL.clo (hn) ?_) | (refine CM.clo (hn) ?_) | (refine CD.clo (hn) ?_)) <;> ((try simp (implicitDefEqProofs := false) [hx1, hx2, hl]); (try simp (implicitDefEqProofs := false) (disch := first | assumption | (try simp only [lens]); omega -splitDisjunctions) [hx1, hx2, hl])))))
      refine at2 ih ?_ ?_ <;> simp [List.map_set]
  have e2 : ((n : Int) * (n : Int)).toNat = n * n := by
    have e : (n : Int) * (n : Int) = ((n * n : Nat) : Int) := by simp
    rw [e, Int.toNat_natCast]
  refine at2 (main _ 0 (Nat.zero_add _)) ?_ ?_ <;> simp [isB, e2]
end Go.Proofs.Ytbmpmmbcfabeeaa
