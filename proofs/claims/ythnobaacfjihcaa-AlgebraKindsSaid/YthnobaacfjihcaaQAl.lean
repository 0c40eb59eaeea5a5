/-
  algebra: the lattice of an order.
-/
import Derived.Test.YthnobaacfjihcaaQAb
namespace Go.Proofs.Ythnobaacfjihcaa
open Go Go.Pv
set_option linter.unusedVariables false
set_option linter.unusedSimpArgs false
set_option maxRecDepth 100000
set_option maxHeartbeats 4000000

@[simp] theorem take_range_map {α : Type} {f : Nat → α} {b : Nat} : List.take b (List.map f (List.range b)) = List.map f (List.range b) := List.take_of_length_le (by simp)
def intsRow (l : List Int) : List PV := [.list (l.map intRow)]
instance : FlatRow intsRow := ⟨fun x => by simp [intsRow, flatV]⟩
def indexI (l : List Int) (v : Int) : Int := match l.findIdx? (fun x => decide (v = x)) with
  | some i => i
  | none => -1
theorem indexI_mem (l : List Int) (v : Int) : decide (indexI l v ≥ 0) = decide (v ∈ l) := by
  unfold indexI
  cases hf : l.findIdx? (fun x => decide (v = x)) with
  | none =>
    rw [List.findIdx?_eq_none_iff] at hf
    have : v ∉ l := fun h => by have := hf v h; simp at this
    simp [this]
  | some i =>
    rw [List.findIdx?_eq_some_iff_getElem] at hf
    obtain ⟨h, h2, _⟩ := hf
    have : v ∈ l := by
      have h3 : v = l[i] := by simpa using h2
      rw [h3]; exact List.getElem_mem h
    simp [this]
def x48_L0 : XC := .seq (.reg [⟨some 9,.binOp .lss 3 (.tmp 8) (.tmp 7) 3,none⟩]) (.seq (.cond (.tmp 9) (.skip) (.exit 0)) (.seq (.block 1 (.seq (.reg [⟨some 10,.move (.tmp 8),none⟩,⟨some 5,.assign (.tmp 10),none⟩]) (.seq (.reg [⟨some 11,.move (.tmp 1),none⟩,⟨some 12,.move (.tmp 0),none⟩,⟨some 13,.move (.tmp 5),none⟩,⟨some 14,.indexAddr 37 (.tmp 12) (.tmp 13),none⟩,⟨some 15,.load 3 (.tmp 14),none⟩,⟨some 16,.binOp .eql 3 (.tmp 11) (.tmp 15) 3,none⟩]) (.cond (.tmp 16) (.seq (.reg [⟨some 17,.move (.tmp 5),none⟩,⟨some 4,.assign (.tmp 17),none⟩]) (.ret)) (.skip))))) (.reg [⟨some 18,.binOp .add 3 (.tmp 8) (.const (.int .i64 1)) 3,none⟩,⟨some 8,.move (.tmp 18),none⟩])))
def x48 : XC := .seq (.reg [⟨some 4,.assign (.const (.int .i64 0)),none⟩]) (.seq (.seq (.reg [⟨some 6,.move (.tmp 0),none⟩,⟨some 7,.call ⟨.builtin .len,#[.tmp 6],#[37]⟩,none⟩,⟨some 8,.move (.const (.int .i64 0)),none⟩]) (.bloop 0 x48_L0)) (.seq (.reg [⟨some 4,.assign (.const (.int .i64 (-1))),none⟩]) (.ret)))
@[simp] theorem x48_s {C : WC} {e : AE} {s : Store} {K : KS} : type_of% (@X_at C e s K _ _ x48_L0.eq_1) ∧ type_of% (@X_at C e s K _ _ x48.eq_1) := ⟨X_at x48_L0.eq_1, X_at x48.eq_1⟩
def an48 : Ann := ⟨[], [(0, [], [0, 1, 7, 8], [4])], []⟩
def cx48 (P : Program) (m : Nat) : WC := ⟨P, m, an48⟩
@[simp] theorem cx48_a {P : Program} {m : Nat} : (cx48 P m).P = P ∧ (cx48 P m).m = m ∧ (cx48 P m).A.loopOf 0 = ([], [0, 1, 7, 8], [4]) := ⟨rfl, rfl, rfl⟩
instance {P : Program} {m f : Nat} [h : EnT P f] : EnT (cx48 P m).P f := h
theorem chk48 : ∀ c, Try.f48.body = some c → chkC Try.f48.ntmps an48 c = true := by intro c h; obtain rfl := Option.some.inj h; decide +kernel
theorem op48 {args : List PV} {v : PV} (h : X (cx48 Try.prog 0) x48 (argsA 0 args) [] (.fin [.tmp 4] fun v1 s1 => deref s1 6 v1 = v)) (hl : args.length ≤ Try.f48.ntmps := by rw [Try.ntmps48]; simp) : CallOK Try.prog 48 args [] v [] :=
  callX (m := 0) (cx48 Try.prog 0) x48 rfl rfl (by kernel_rfl) Try.func48 rfl rfl hl mixed (chk48 _ rfl) (by rw [Try.results48]; exact h)

theorem Index_ints (l : List Int) (v : Int) (hl : l.length ≤ 1000) : CallOK Try.prog 48 [.list (l.map intRow), .int .i64 v] [] (.int .i64 (indexI l v)) [] := by
  refine op48 ?_
  (((try simp (implicitDefEqProofs := false)); (try simp (implicitDefEqProofs := false) (disch := first | assumption | (try simp only [lens]); omega -splitDisjunctions))); all_goals try (repeat' ((first | ((with_reducible first | refine And.intro ?_ ?_ | refine Exists.intro ?_ ?_); first | omega | (simp <;> omega)) | (with_reducible refine spl (And.intro ?_ ?_) <;> intro _)) <;> ((try simp (implicitDefEqProofs := false)); (try simp (implicitDefEqProofs := false) (disch := first | assumption | (try simp only [lens]); omega -splitDisjunctions))))))
  refine W_of fun Q hQ => ?_
  have main : ∀ k i, i + k = l.length → (∀ j (h : j < l.length), j < i → v ≠ l[j]) → Q [(0, .list (l.map intRow)), (1, .int .i64 v), (7, .int .i64 (l.length : Int)), (8, .int .i64 (i : Int))] [] := by
    intro k
    induction k with
    | zero =>
      intro i hi hb
      have hx : indexI l v = -1 := by
        unfold indexI
        rw [List.findIdx?_eq_none_iff.2]
        intro x hx
        obtain ⟨j, hj, rfl⟩ := List.mem_iff_getElem.1 hx
        simpa using hb j hj (by omega)
      apply hQ
      (((try simp (implicitDefEqProofs := false)); (try simp (implicitDefEqProofs := false) (disch := first | assumption | (try simp only [lens]); omega -splitDisjunctions))); all_goals try (repeat' ((first | ((with_reducible first | refine And.intro ?_ ?_ | refine Exists.intro ?_ ?_); first | omega | (simp <;> omega)) | (with_reducible refine spl (And.intro ?_ ?_) <;> intro _)) <;> ((try simp (implicitDefEqProofs := false)); (try simp (implicitDefEqProofs := false) (disch := first | assumption | (try simp only [lens]); omega -splitDisjunctions))))))
      all_goals simp [hx]
    | succ k ih =>
      intro i hi hb
      have hil : i < l.length := by omega
      have ih := ih (i + 1) (by omega)
      by_cases hv : v = l[i]
      · have hx : indexI l v = i := by
          unfold indexI
          have : l.findIdx? (fun x => decide (v = x)) = some i := by
            rw [List.findIdx?_eq_some_iff_getElem]
            exact ⟨hil, by simpa using hv, fun j hj => by simpa using hb j (by omega) hj⟩
          rw [this]
        apply hQ
        clear hQ ih
        (((try simp (implicitDefEqProofs := false) [hil]); (try simp (implicitDefEqProofs := false) (disch := first | assumption | (try simp only [lens]); omega -splitDisjunctions) [hil])); all_goals try (repeat' ((first | ((with_reducible first | refine And.intro ?_ ?_ | refine Exists.intro ?_ ?_); first | omega | (simp <;> omega)) | (with_reducible refine spl (And.intro ?_ ?_) <;> intro _)) <;> ((try simp (implicitDefEqProofs := false) [hil]); (try simp (implicitDefEqProofs := false) (disch := first | assumption | (try simp only [lens]); omega -splitDisjunctions) [hil])))))
        all_goals simp_all
      · have ih := ih (fun j h hj => by
          by_cases e : j = i
          · subst e; exact hv
          · exact hb j h (by omega))
        apply hQ
        clear hQ
        (((try simp (implicitDefEqProofs := false) [hil, hv]); (try simp (implicitDefEqProofs := false) (disch := first | assumption | (try simp only [lens]); omega -splitDisjunctions) [hil, hv])); all_goals try (repeat' ((first | ((with_reducible first | refine And.intro ?_ ?_ | refine Exists.intro ?_ ?_); first | omega | (simp <;> omega)) | (with_reducible refine spl (And.intro ?_ ?_) <;> intro _)) <;> ((try simp (implicitDefEqProofs := false) [hil, hv]); (try simp (implicitDefEqProofs := false) (disch := first | assumption | (try simp only [lens]); omega -splitDisjunctions) [hil, hv])))))
        all_goals simp_all
  refine at2 (main _ 0 (Nat.zero_add _) (fun j h hj => by omega)) ?_ ?_ <;> simp
def x39 : XC := .seq (.reg [⟨some 4,.assign (.const (.bool false)),none⟩]) (.seq (.reg [⟨some 5,.move (.tmp 0),none⟩,⟨some 6,.move (.tmp 1),none⟩,⟨some 7,.call ⟨.value (.func 48),#[.tmp 5,.tmp 6],#[37,3]⟩,none⟩,⟨some 8,.binOp .geq 3 (.tmp 7) (.const (.int .i64 0)) 3,none⟩,⟨some 4,.assign (.tmp 8),none⟩]) (.ret))
@[simp] theorem x39_s {C : WC} {e : AE} {s : Store} {K : KS} : type_of% (@X_at C e s K _ _ x39.eq_1) := X_at x39.eq_1
def an39 : Ann := ⟨[], [], []⟩
def cx39 (P : Program) (m : Nat) : WC := ⟨P, m, an39⟩
@[simp] theorem cx39_a {P : Program} {m : Nat} : (cx39 P m).P = P ∧ (cx39 P m).m = m := ⟨rfl, rfl⟩
instance {P : Program} {m f : Nat} [h : EnT P f] : EnT (cx39 P m).P f := h
theorem chk39 : ∀ c, Try.f39.body = some c → chkC Try.f39.ntmps an39 c = true := by intro c h; obtain rfl := Option.some.inj h; decide +kernel
theorem op39 {args : List PV} {v : PV} (h : X (cx39 Try.prog 0) x39 (argsA 0 args) [] (.fin [.tmp 4] fun v1 s1 => deref s1 6 v1 = v)) (hl : args.length ≤ Try.f39.ntmps := by rw [Try.ntmps39]; simp) : CallOK Try.prog 39 args [] v [] :=
  callX (m := 0) (cx39 Try.prog 0) x39 rfl rfl (by kernel_rfl) Try.func39 rfl rfl hl mixed (chk39 _ rfl) (by rw [Try.results39]; exact h)

theorem Contains_ints (l : List Int) (v : Int) (hl : l.length ≤ 1000) : CallOK Try.prog 39 [.list (l.map intRow), .int .i64 v] [] (.bool (decide (v ∈ l))) [] := by
  have h := Index_ints l v hl
  rw [← indexI_mem]
  refine op39 ?_
  (((try simp (implicitDefEqProofs := false)); (try simp (implicitDefEqProofs := false) (disch := first | assumption | (try simp only [lens]); omega -splitDisjunctions))); all_goals try (repeat' ((first | ((with_reducible first | refine And.intro ?_ ?_ | refine Exists.intro ?_ ?_); first | omega | (simp <;> omega)) | (with_reducible refine spl (And.intro ?_ ?_) <;> intro _) | (refine CL.see (h) ?_ ?_ ?_; (focus (first | (simp; done) | (simp [scn]; done))); (focus (simp [flats]; done))) | (refine CD.see (h) ?_ ?_ ?_; (focus (first | (simp; done) | (simp [scn]; done))); (focus (simp [flats]; done)))) <;> ((try simp (implicitDefEqProofs := false)); (try simp (implicitDefEqProofs := false) (disch := first | assumption | (try simp only [lens]); omega -splitDisjunctions))))))
  all_goals rfl
def jsI (n : Nat) (g : Nat → Nat → Bool) (a : Nat) : List Int := (List.range n).map (joinI n g a)
def msI (n : Nat) (g : Nat → Nat → Bool) (a : Nat) : List Int := (List.range n).map (meetI n g a)
def jCell (n : Nat) (g : Nat → Nat → Bool) (a b : Nat) : List PV := [.int .i64 (joinI n g a b)]
def mCell (n : Nat) (g : Nat → Nat → Bool) (a b : Nat) : List PV := [.int .i64 (meetI n g a b)]
instance (n : Nat) (g : Nat → Nat → Bool) (a : Nat) : FlatRow (jCell n g a) := ⟨fun x => by simp [jCell, flatV]⟩
instance (n : Nat) (g : Nat → Nat → Bool) (a : Nat) : FlatRow (mCell n g a) := ⟨fun x => by simp [mCell, flatV]⟩
theorem jsI_cell {n : Nat} {g : Nat → Nat → Bool} {a : Nat} : (jsI n g a).map intRow = (List.range n).map (jCell n g a) := by unfold jsI; rw [List.map_map]; rfl
theorem msI_cell {n : Nat} {g : Nat → Nat → Bool} {a : Nat} : (msI n g a).map intRow = (List.range n).map (mCell n g a) := by unfold msI; rw [List.map_map]; rfl
def jRow (n : Nat) (g : Nat → Nat → Bool) (a : Nat) : List PV := [.list ((List.range n).map (jCell n g a))]
def mRow (n : Nat) (g : Nat → Nat → Bool) (a : Nat) : List PV := [.list ((List.range n).map (mCell n g a))]
instance (n : Nat) (g : Nat → Nat → Bool) : FlatRow (jRow n g) := ⟨fun x => by simp [jRow, flatV]⟩
instance (n : Nat) (g : Nat → Nat → Bool) : FlatRow (mRow n g) := ⟨fun x => by simp [mRow, flatV]⟩
/-- a lattice as the program holds it -/
def latC (n : Nat) (g : Nat → Nat → Bool) : List PV := [.list ((tabF n g).map tabRowF), .list ((List.range n).map (jRow n g)), .list ((List.range n).map (mRow n g))]
def latV (n : Nat) (g : Nat → Nat → Bool) : PV := if isLat n g = true then .tuple [.iptr (latC n g), .bool true] else .tuple [.nilptr, .bool false]
def okA (n : Nat) (g : Nat → Nat → Bool) (a : Nat) : Bool := !decide ((-1 : Int) ∈ jsI n g a) && !decide ((-1 : Int) ∈ msI n g a)
theorem isLat_ok {n : Nat} {g : Nat → Nat → Bool} : isLat n g = (List.range n).all (okA n g) := by
  unfold isLat okA jsI msI
  congr 1; funext a
  congr 1
  · congr 1; rw [Bool.eq_iff_iff]; simp only [List.any_eq_true, decide_eq_true_eq, List.mem_map]
  · congr 1; rw [Bool.eq_iff_iff]; simp only [List.any_eq_true, decide_eq_true_eq, List.mem_map]
def x27_T3 : XC := .seq (.reg [⟨some 64,.move (.tmp 4),none⟩,⟨some 2,.assign (.tmp 64),none⟩,⟨some 3,.assign (.const (.bool true)),none⟩]) (.ret)
def x27_T2 : XC := .seq (.seq (.reg [⟨some 37,.move (.tmp 6),none⟩,⟨some 38,.call ⟨.value (.func 39),#[.tmp 37,.const (.int .i64 (-1))],#[37,3]⟩,none⟩,⟨some 39,.move (.tmp 38),none⟩,⟨some 40,.move (.tmp 7),some (some 39,false)⟩,⟨some 41,.call ⟨.value (.func 39),#[.tmp 40,.const (.int .i64 (-1))],#[37,3]⟩,some (some 39,false)⟩,⟨some 42,.pick (.tmp 39) (.const (.bool true)) (.tmp 41),none⟩]) (.cond (.tmp 42) (.seq (.reg [⟨some 2,.assign (.const (.pointer none)),none⟩,⟨some 3,.assign (.const (.bool false)),none⟩]) (.ret)) (.skip))) (.drawn 13 [⟨some 43,.move (.tmp 4),none⟩,⟨some 44,.move (.tmp 4),none⟩,⟨some 45,.move (.tmp 4),none⟩,⟨some 46,.nilCheck (.tmp 45),none⟩,⟨some 47,.fieldAddr 64 (.tmp 46) 1,none⟩,⟨some 48,.load 33 (.tmp 47),none⟩,⟨some 49,.move (.tmp 6),none⟩,⟨some 50,.buildSlice 33 1 #[(0,.tmp 49)],none⟩,⟨some 51,.call ⟨.builtin .append,#[.tmp 48,.tmp 50],#[33,33]⟩,none⟩,⟨some 52,.move (.tmp 4),none⟩,⟨some 53,.nilCheck (.tmp 52),none⟩,⟨some 54,.fieldAddr 64 (.tmp 53) 2,none⟩,⟨some 55,.load 33 (.tmp 54),none⟩,⟨some 56,.move (.tmp 7),none⟩,⟨some 57,.buildSlice 33 1 #[(0,.tmp 56)],none⟩,⟨some 58,.call ⟨.builtin .append,#[.tmp 55,.tmp 57],#[33,33]⟩,none⟩,⟨some 59,.nilCheck (.tmp 43),none⟩,⟨some 60,.fieldAddr 64 (.tmp 59) 1,none⟩,⟨none,.store 33 (.tmp 60) (.tmp 51),none⟩,⟨some 61,.nilCheck (.tmp 44),none⟩,⟨some 62,.fieldAddr 64 (.tmp 61) 2,none⟩,⟨none,.store 33 (.tmp 62) (.tmp 58),none⟩])
def x27_L2 : XC := .seq (.reg [⟨some 20,.binOp .lss 3 (.tmp 19) (.tmp 18) 3,none⟩]) (.seq (.cond (.tmp 20) (.skip) (.exit 2)) (.seq (.block 3 (.seq (.reg [⟨some 21,.move (.tmp 19),none⟩,⟨some 8,.assign (.tmp 21),none⟩]) (.reg [⟨some 22,.move (.tmp 6),none⟩,⟨some 23,.move (.tmp 0),none⟩,⟨some 24,.move (.tmp 5),none⟩,⟨some 25,.move (.tmp 8),none⟩,⟨some 26,.call ⟨.value (.func 37),#[.tmp 23,.tmp 24,.tmp 25],#[59,3,3]⟩,none⟩,⟨some 27,.buildSlice 37 1 #[(0,.tmp 26)],none⟩,⟨some 28,.call ⟨.builtin .append,#[.tmp 22,.tmp 27],#[37,37]⟩,none⟩,⟨some 29,.move (.tmp 7),none⟩,⟨some 30,.move (.tmp 0),none⟩,⟨some 31,.move (.tmp 5),none⟩,⟨some 32,.move (.tmp 8),none⟩,⟨some 33,.call ⟨.value (.func 38),#[.tmp 30,.tmp 31,.tmp 32],#[59,3,3]⟩,none⟩,⟨some 34,.buildSlice 37 1 #[(0,.tmp 33)],none⟩,⟨some 35,.call ⟨.builtin .append,#[.tmp 29,.tmp 34],#[37,37]⟩,none⟩,⟨some 6,.assign (.tmp 28),none⟩,⟨some 7,.assign (.tmp 35),none⟩]))) (.reg [⟨some 36,.binOp .add 3 (.tmp 19) (.const (.int .i64 1)) 3,none⟩,⟨some 19,.move (.tmp 36),none⟩])))
def x27_L0 : XC := .seq (.reg [⟨some 15,.binOp .lss 3 (.tmp 14) (.tmp 13) 3,none⟩]) (.seq (.cond (.tmp 15) (.skip) (.exit 0)) (.seq (.block 1 (.seq (.reg [⟨some 16,.move (.tmp 14),none⟩,⟨some 5,.assign (.tmp 16),none⟩]) (.seq (.reg [⟨some 6,.assign (.const (.slice none 0 0)),none⟩,⟨some 7,.assign (.const (.slice none 0 0)),none⟩]) (.seq (.seq (.reg [⟨some 17,.move (.tmp 0),none⟩,⟨some 18,.call ⟨.builtin .len,#[.tmp 17],#[59]⟩,none⟩,⟨some 19,.move (.const (.int .i64 0)),none⟩]) (.bloop 2 x27_L2)) (x27_T2))))) (.reg [⟨some 63,.binOp .add 3 (.tmp 14) (.const (.int .i64 1)) 3,none⟩,⟨some 14,.move (.tmp 63),none⟩])))
def x27 : XC := .seq (.reg [⟨some 2,.assign (.const (.pointer none)),none⟩,⟨some 3,.assign (.const (.bool false)),none⟩]) (.seq (.reg [⟨some 9,.move (.tmp 0),none⟩,⟨some 10,.build 64 #[(0,.tmp 9)],none⟩,⟨some 11,.box 64 (.tmp 10),none⟩,⟨some 4,.assign (.tmp 11),none⟩]) (.seq (.seq (.reg [⟨some 12,.move (.tmp 0),none⟩,⟨some 13,.call ⟨.builtin .len,#[.tmp 12],#[59]⟩,none⟩,⟨some 14,.move (.const (.int .i64 0)),none⟩]) (.bloop 0 x27_L0)) (x27_T3)))
@[simp] theorem x27_s {C : WC} {e : AE} {s : Store} {K : KS} : type_of% (@X_at C e s K _ _ x27_T3.eq_1) ∧ type_of% (@X_at C e s K _ _ x27_T2.eq_1) ∧ type_of% (@X_at C e s K _ _ x27_L2.eq_1) ∧ type_of% (@X_at C e s K _ _ x27_L0.eq_1) ∧ type_of% (@X_at C e s K _ _ x27.eq_1) := ⟨X_at x27_T3.eq_1, X_at x27_T2.eq_1, X_at x27_L2.eq_1, X_at x27_L0.eq_1, X_at x27.eq_1⟩
def an27 : Ann := ⟨[(13, .tree (.op 0 (.op 1 (.op 2 (.op 3 (.op 4 (.op 5 (.op 6 (.op 9 (.op 10 (.op 11 (.op 12 (.op 13 (.br (.op 7 (.ck 5 (.ck 12 (.br (.op 8 (.ck 12 (.op 14 (.ck 12 (.op 15 (.op 16 (.op 17 (.op 18 (.op 19 (.op 20 (.op 21 .fin))))))))))) (.op 14 (.ck 5 (.ck 12 (.op 8 (.ck 12 (.op 15 (.op 16 (.op 17 (.op 18 (.op 19 (.op 20 (.op 21 .fin)))))))))))))))) (.op 14 (.ck 5 (.ck 12 (.op 7 (.ck 5 (.ck 12 (.op 8 (.ck 12 (.op 15 (.op 16 (.op 17 (.op 18 (.op 19 (.op 20 (.op 21 .fin)))))))))))))))))))))))))))))], [(2, [(6, none, 1), (7, none, 1)], [0, 4, 5, 6, 7, 13, 14, 18, 19], [0, 4, 6, 7, 13, 14]), (0, [(4, some 1, 1), (4, some 2, 1)], [0, 4, 13, 14], [2, 3, 4])], [(13, [6, 7])]⟩
def cx27 (P : Program) (m : Nat) : WC := ⟨P, m, an27⟩
@[simp] theorem cx27_a {P : Program} {m : Nat} : (cx27 P m).P = P ∧ (cx27 P m).m = m ∧ (cx27 P m).A.clsOf 13 = .tree (.op 0 (.op 1 (.op 2 (.op 3 (.op 4 (.op 5 (.op 6 (.op 9 (.op 10 (.op 11 (.op 12 (.op 13 (.br (.op 7 (.ck 5 (.ck 12 (.br (.op 8 (.ck 12 (.op 14 (.ck 12 (.op 15 (.op 16 (.op 17 (.op 18 (.op 19 (.op 20 (.op 21 .fin))))))))))) (.op 14 (.ck 5 (.ck 12 (.op 8 (.ck 12 (.op 15 (.op 16 (.op 17 (.op 18 (.op 19 (.op 20 (.op 21 .fin)))))))))))))))) (.op 14 (.ck 5 (.ck 12 (.op 7 (.ck 5 (.ck 12 (.op 8 (.ck 12 (.op 15 (.op 16 (.op 17 (.op 18 (.op 19 (.op 20 (.op 21 .fin)))))))))))))))))))))))))))) ∧ (cx27 P m).A.frzOf 13 = [6, 7] ∧ (cx27 P m).A.loopOf 2 = ([(6, none, 1), (7, none, 1)], [0, 4, 5, 6, 7, 13, 14, 18, 19], [0, 4, 6, 7, 13, 14]) ∧ (cx27 P m).A.loopOf 0 = ([(4, some 1, 1), (4, some 2, 1)], [0, 4, 13, 14], [2, 3, 4]) := ⟨rfl, rfl, rfl, rfl, rfl, rfl⟩
instance {P : Program} {m f : Nat} [h : EnT P f] : EnT (cx27 P m).P f := h
theorem chk27 : ∀ c, Try.f27.body = some c → chkC Try.f27.ntmps an27 c = true := by intro c h; obtain rfl := Option.some.inj h; decide +kernel
theorem op27 {args : List PV} {v : PV} (h : X (cx27 Try.prog 0) x27 (argsA 0 args) [] (.fin [.tmp 2, .tmp 3] fun v1 s1 => deref s1 6 v1 = v)) (hl : args.length ≤ Try.f27.ntmps := by rw [Try.ntmps27]; simp) : CallOK Try.prog 27 args [] v [] :=
  callX (m := 0) (cx27 Try.prog 0) x27 rfl rfl (by kernel_rfl) Try.func27 rfl rfl hl mixed (chk27 _ rfl) (by rw [Try.results27]; exact h)

theorem lattice_algebra (n : Nat) (h20 : n ≤ 20) (g : Nat → Nat → Bool) : CallOK Try.prog 27 [.list ((tabF n g).map tabRowF)] [] (latV n g) [] := by
  refine op27 ?_
  unfold latV
  (((try simp (implicitDefEqProofs := false)); (try simp (implicitDefEqProofs := false) (disch := first | assumption | (try simp only [lens]); omega -splitDisjunctions))); all_goals try (repeat' ((first | ((with_reducible first | refine And.intro ?_ ?_ | refine Exists.intro ?_ ?_); first | omega | (simp <;> omega)) | (with_reducible refine spl (And.intro ?_ ?_) <;> intro _)) <;> ((try simp (implicitDefEqProofs := false)); (try simp (implicitDefEqProofs := false) (disch := first | assumption | (try simp only [lens]); omega -splitDisjunctions))))))
  refine W_of fun Q hQ => ?_
  have main : ∀ k a, a + k = n → (∀ j, j < a → okA n g j = true) → Q [(0, .list ((tabF n g).map tabRowF)), (4, .ptr 0 0 0), (13, .int .i64 (n : Int)), (14, .int .i64 (a : Int))]
      [.rows 3 [[.list ((tabF n g).map tabRowF), .sl 1 0 a, .sl 2 0 a]], .rows 1 ((List.range a).map (jRow n g)), .rows 1 ((List.range a).map (mRow n g))] := by
    intro k
    induction k with
    | zero =>
      intro a ha hb
      obtain rfl : a = n := by omega
      have hl : isLat a g = true := by
        rw [isLat_ok, List.all_eq_true]
        intro j hj; exact hb j (List.mem_range.1 hj)
      apply hQ
      clear hQ
      rw [hl]
      (((try simp (implicitDefEqProofs := false)); (try simp (implicitDefEqProofs := false) (disch := first | assumption | (try simp only [lens]); omega -splitDisjunctions))); all_goals try (repeat' ((first | ((with_reducible first | refine And.intro ?_ ?_ | refine Exists.intro ?_ ?_); first | omega | (simp <;> omega)) | (with_reducible refine spl (And.intro ?_ ?_) <;> intro _)) <;> ((try simp (implicitDefEqProofs := false)); (try simp (implicitDefEqProofs := false) (disch := first | assumption | (try simp only [lens]); omega -splitDisjunctions))))))
      all_goals simp [latC]
    | succ k ih =>
      intro a ha hb
      have han : a < n := by omega
      have ih := ih (a + 1) (by omega)
      apply hQ
      clear hQ
      (((try simp (implicitDefEqProofs := false)); (try simp (implicitDefEqProofs := false) (disch := first | assumption | (try simp only [lens]); omega -splitDisjunctions))); all_goals try (repeat' ((first | ((with_reducible first | refine And.intro ?_ ?_ | refine Exists.intro ?_ ?_); first | omega | (simp <;> omega)) | (with_reducible refine spl (And.intro ?_ ?_) <;> intro _)) <;> ((try simp (implicitDefEqProofs := false)); (try simp (implicitDefEqProofs := false) (disch := first | assumption | (try simp only [lens]); omega -splitDisjunctions))))))
      refine W_of fun Q2 hQ2 => ?_
      have main2 : ∀ k b, b + k = n → Q2 [(0, .list ((tabF n g).map tabRowF)), (4, .ptr 0 0 0), (5, .int .i64 (a : Int)), (6, .sl 1 0 b), (7, .sl 2 0 b), (13, .int .i64 (n : Int)), (14, .int .i64 (a : Int)), (18, .int .i64 (n : Int)), (19, .int .i64 (b : Int))]
          [.rows 3 [[.list ((tabF n g).map tabRowF), .sl 3 0 a, .sl 4 0 a]], .rows 1 ((List.range b).map (jCell n g a)), .rows 1 ((List.range b).map (mCell n g a)), .rows 1 ((List.range a).map (jRow n g)), .rows 1 ((List.range a).map (mRow n g))] := by
        intro k
        induction k with
        | zero =>
          intro b hb2
          obtain rfl : b = n := by omega
          have hj := Contains_ints (jsI b g a) (-1) (by simp [jsI]; omega)
          have hm := Contains_ints (msI b g a) (-1) (by simp [msI]; omega)
          have hok : okA b g a = (!decide ((-1 : Int) ∈ jsI b g a) && !decide ((-1 : Int) ∈ msI b g a)) := rfl
          apply hQ2
          clear hQ2
          cases h1 : decide ((-1 : Int) ∈ jsI b g a) with
          | true =>
            have hl : isLat b g = false := by
              rw [isLat_ok, List.all_eq_false]
              exact ⟨a, List.mem_range.2 han, by rw [hok, h1]; simp⟩
            rw [h1, jsI_cell] at hj
            rw [hl]
            clear ih hm hok
            (((try simp (implicitDefEqProofs := false)); (try simp (implicitDefEqProofs := false) (disch := first | assumption | (try simp only [lens]); omega -splitDisjunctions))); all_goals try (repeat' ((first | ((with_reducible first | refine And.intro ?_ ?_ | refine Exists.intro ?_ ?_); first | omega | (simp <;> omega)) | (with_reducible refine spl (And.intro ?_ ?_) <;> intro _) | (refine CL.see (hj) ?_ ?_ ?_; (focus (first | (simp; done) | (simp [scn]; done))); (focus (simp [flats]; done))) | (refine CD.see (hj) ?_ ?_ ?_; (focus (first | (simp; done) | (simp [scn]; done))); (focus (simp [flats]; done)))) <;> ((try simp (implicitDefEqProofs := false)); (try simp (implicitDefEqProofs := false) (disch := first | assumption | (try simp only [lens]); omega -splitDisjunctions))))))
            all_goals rfl
          | false =>
            rw [h1, jsI_cell] at hj
            rw [h1] at hok
            cases h2 : decide ((-1 : Int) ∈ msI b g a) with
            | true =>
              have hl : isLat b g = false := by
                rw [isLat_ok, List.all_eq_false]
                exact ⟨a, List.mem_range.2 han, by rw [hok, h2]; simp⟩
              rw [h2, msI_cell] at hm
              rw [hl]
              clear ih hok
              (((try simp (implicitDefEqProofs := false)); (try simp (implicitDefEqProofs := false) (disch := first | assumption | (try simp only [lens]); omega -splitDisjunctions))); all_goals try (repeat' ((first | ((with_reducible first | refine And.intro ?_ ?_ | refine Exists.intro ?_ ?_); first | omega | (simp <;> omega)) | (with_reducible refine spl (And.intro ?_ ?_) <;> intro _) | (refine CL.see (hj) ?_ ?_ ?_; (focus (first | (simp; done) | (simp [scn]; done))); (focus (simp [flats]; done))) | (refine CD.see (hj) ?_ ?_ ?_; (focus (first | (simp; done) | (simp [scn]; done))); (focus (simp [flats]; done))) | (refine CL.see (hm) ?_ ?_ ?_; (focus (first | (simp; done) | (simp [scn]; done))); (focus (simp [flats]; done))) | (refine CD.see (hm) ?_ ?_ ?_; (focus (first | (simp; done) | (simp [scn]; done))); (focus (simp [flats]; done)))) <;> ((try simp (implicitDefEqProofs := false)); (try simp (implicitDefEqProofs := false) (disch := first | assumption | (try simp only [lens]); omega -splitDisjunctions))))))
              all_goals rfl
            | false =>
              rw [h2, msI_cell] at hm
              rw [h2] at hok
              have ih := ih (fun j hj => by
                by_cases e : j = a
                · subst e; rw [hok]; rfl
                · exact hb j (by omega))
              (((try simp (implicitDefEqProofs := false) [jRow, mRow]); (try simp (implicitDefEqProofs := false) (disch := first | assumption | (try simp only [lens]); omega -splitDisjunctions) [jRow, mRow])); all_goals try (repeat' ((first | ((with_reducible first | refine And.intro ?_ ?_ | refine Exists.intro ?_ ?_); first | omega | (simp <;> omega)) | (with_reducible refine spl (And.intro ?_ ?_) <;> intro _) | (refine CL.see (hj) ?_ ?_ ?_; (focus (first | (simp; done) | (simp [scn]; done))); (focus (simp [flats]; done))) | (refine CD.see (hj) ?_ ?_ ?_; (focus (first | (simp; done) | (simp [scn]; done))); (focus (simp [flats]; done))) | (refine CL.see (hm) ?_ ?_ ?_; (focus (first | (simp; done) | (simp [scn]; done))); (focus (simp [flats]; done))) | (refine CD.see (hm) ?_ ?_ ?_; (focus (first | (simp; done) | (simp [scn]; done))); (focus (simp [flats]; done)))) <;> ((try simp (implicitDefEqProofs := false) [jRow, mRow]); (try simp (implicitDefEqProofs := false) (disch := first | assumption | (try simp only [lens]); omega -splitDisjunctions) [jRow, mRow])))))
              refine at2 ih ?_ ?_ <;> simp [List.range_succ, jRow, mRow]
        | succ k ih2 =>
          intro b hb2
          have hbn : b < n := by omega
          have ih2 := ih2 (b + 1) (by omega)
          have hj := join_algebra n h20 g a b han hbn
          have hm := meet_algebra n h20 g a b han hbn
          apply hQ2
          clear hQ2
          (((try simp (implicitDefEqProofs := false) [han, hbn]); (try simp (implicitDefEqProofs := false) (disch := first | assumption | (try simp only [lens]); omega -splitDisjunctions) [han, hbn])); all_goals try (repeat' ((first | ((with_reducible first | refine And.intro ?_ ?_ | refine Exists.intro ?_ ?_); first | omega | (simp <;> omega)) | (with_reducible refine spl (And.intro ?_ ?_) <;> intro _) | (refine CL.see (hj) ?_ ?_ ?_; (focus (first | (simp; done) | (simp [scn]; done))); (focus (simp [flats]; done))) | (refine CD.see (hj) ?_ ?_ ?_; (focus (first | (simp; done) | (simp [scn]; done))); (focus (simp [flats]; done))) | (refine CL.see (hm) ?_ ?_ ?_; (focus (first | (simp; done) | (simp [scn]; done))); (focus (simp [flats]; done))) | (refine CD.see (hm) ?_ ?_ ?_; (focus (first | (simp; done) | (simp [scn]; done))); (focus (simp [flats]; done)))) <;> ((try simp (implicitDefEqProofs := false) [han, hbn]); (try simp (implicitDefEqProofs := false) (disch := first | assumption | (try simp only [lens]); omega -splitDisjunctions) [han, hbn])))))
          refine at2 ih2 ?_ ?_ <;> simp [List.range_succ, jCell, mCell]
      refine at2 (main2 _ 0 (Nat.zero_add _)) ?_ ?_ <;> simp
  refine at2 (main _ 0 (Nat.zero_add _) (fun j h => by omega)) ?_ ?_ <;> simp
end Go.Proofs.Ythnobaacfjihcaa
