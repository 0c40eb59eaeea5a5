/-
  formula.PartsOf.
-/
import Derived.Test.YtliockncjdeloaaQMA
namespace Go.Proofs.Ytliockncjdeloaa
open Go Go.Pv
set_option linter.unusedVariables false
set_option linter.unusedSimpArgs false
set_option maxRecDepth 100000
set_option maxHeartbeats 4000000

theorem pres_mem {x g : Fm} (hx : x ∈ pre g) : ∀ l : List Fm, g ∈ l → x ∈ pres l
  | a :: r, h => by
    rw [pres_cons, List.mem_append]
    cases h with
    | head => exact .inl hx
    | tail _ h => exact .inr (pres_mem hx r h)
theorem mem_pres {x : Fm} : ∀ l : List Fm, x ∈ pres l → ∃ g ∈ l, x ∈ pre g
  | [], h => by rw [pres_nil] at h; cases h
  | a :: r, h => by
    rw [pres_cons, List.mem_append] at h
    rcases h with h | h
    · exact ⟨a, by simp, h⟩
    · obtain ⟨g, h1, h2⟩ := mem_pres r h; exact ⟨g, by simp [h1], h2⟩
theorem pres_len {g : Fm} : ∀ l : List Fm, g ∈ l → (pre g).length ≤ (pres l).length
  | a :: r, h => by
    rw [pres_cons, List.length_append]
    cases h with
    | head => omega
    | tail _ h => have := pres_len r h; omega
theorem pre_sub {N : ByteArray → Prop} (f : Fm) (hf : OkF N f) : ∀ x ∈ pre f, OkF N x ∧ (pre x).length ≤ (pre f).length ∧ ∀ y ∈ pre x, y ∈ pre f := by
  induction f using Fm.ind with
  | h f ih =>
    intro x hx
    rw [pre_eq] at hx
    cases hx with
    | head => exact ⟨hf, Nat.le_refl _, fun y h => h⟩
    | tail _ hx =>
      obtain ⟨g, h1, h2⟩ := mem_pres _ hx
      obtain ⟨h3, h4, h5⟩ := ih g h1 (hf.kid h1) x h2
      refine ⟨h3, ?_, fun y hy => ?_⟩
      · have := pres_len _ h1
        rw [pre_eq f]; simp; omega
      · rw [pre_eq f]; exact List.mem_cons_of_mem _ (pres_mem (h5 y hy) _ h1)

def memB (s : ByteArray) (L : List ByteArray) : Bool := L.any fun t => decide (s = t)
theorem memB_iff {s : ByteArray} {L : List ByteArray} : memB s L = true ↔ s ∈ L := by
  simp only [memB, List.any_eq_true, decide_eq_true_iff]
  exact ⟨fun ⟨t, h, e⟩ => e ▸ h, fun h => ⟨s, h, rfl⟩⟩
/-- those that are printed otherwise than all before them -/
def partsS (had : List ByteArray) : List Fm → List Fm
  | [] => []
  | x :: r => if memB (said x 1) had = true then partsS had r else x :: partsS (had ++ [said x 1]) r
def mapS (L : List ByteArray) : List (PV × PV) := L.map fun t => (.str t, .bool true)
theorem findP_set (s : ByteArray) : ∀ (L : List ByteArray) (i : Nat), ∃ j, findP (.str s) (mapS L) i = some (if memB s L = true then some (j, .bool true) else none)
  | [], i => ⟨0, rfl⟩
  | t :: r, i => by
    by_cases h : s = t
    · subst h; exact ⟨i, by simp [mapS, findP, keyEq, memB]⟩
    · obtain ⟨j, hj⟩ := findP_set s r (i + 1)
      have e : memB s (t :: r) = memB s r := by simp [memB, h]
      refine ⟨j, ?_⟩
      rw [e, ← hj]
      simp only [mapS, List.map_cons, findP, keyEq, h, decide_false]
@[simp] theorem mapS_ren {ρ : List Nat} (L : List ByteArray) : (mapS L).map (fun p => (renN ρ 4 p.1, renN ρ 4 p.2)) = mapS L := by simp [mapS]
@[simp] theorem mapS_refs (L : List ByteArray) : ((mapS L).flatMap fun p => refsN 4 p.2) = [] := by simp [mapS]
@[simp] theorem mapS_snoc (L : List ByteArray) (s : ByteArray) : mapS L ++ [(.str s, .bool true)] = mapS (L ++ [s]) := by simp [mapS]
theorem mapS_nil : mapS [] = [] := rfl
theorem partsS_drop {had : List ByteArray} {l : List Fm} {i : Nat} (h : i < l.length) : partsS had (l.drop i) = if memB (said l[i] 1) had = true then partsS had (l.drop (i + 1)) else l[i] :: partsS (had ++ [said l[i] 1]) (l.drop (i + 1)) := by
  rw [List.drop_eq_getElem_cons h, partsS]

def x27_T2 : XC := .seq (.reg [⟨some 39,.move (.tmp 3),none⟩,⟨some 2,.assign (.tmp 39),none⟩]) (.ret)
def x27_L2 : XC := .seq (.reg [⟨some 21,.binOp .lss 3 (.tmp 20) (.tmp 19) 3,none⟩]) (.seq (.cond (.tmp 21) (.skip) (.exit 2)) (.seq (.block 3 (.seq (.reg [⟨some 22,.indexAddr 22 (.tmp 18) (.tmp 20),none⟩,⟨some 23,.load 24 (.tmp 22),none⟩,⟨some 8,.alloc 24,none⟩,⟨none,.store 24 (.tmp 8) (.tmp 23),none⟩]) (.seq (.reg [⟨some 24,.load 24 (.tmp 8),none⟩,⟨some 25,.call ⟨.value (.func 47),#[.tmp 24],#[24]⟩,none⟩,⟨some 9,.assign (.tmp 25),none⟩]) (.seq (.reg [⟨some 26,.move (.tmp 4),none⟩,⟨some 27,.move (.tmp 9),none⟩,⟨some 28,.lookup 79 (.tmp 26) (.tmp 27) false,none⟩,⟨some 29,.unOp .not 4 (.tmp 28),none⟩]) (.cond (.tmp 29) (.seq (.reg [⟨some 30,.move (.tmp 4),none⟩,⟨some 31,.move (.tmp 9),none⟩,⟨none,.mapUpdate 79 (.tmp 30) (.tmp 31) (.const (.bool true)),none⟩]) (.reg [⟨some 32,.move (.tmp 3),none⟩,⟨some 33,.load 24 (.tmp 8),none⟩,⟨some 34,.call ⟨.value (.func 48),#[.tmp 33],#[24]⟩,none⟩,⟨some 35,.buildSlice 22 1 #[(0,.tmp 34)],none⟩,⟨some 36,.call ⟨.builtin .append,#[.tmp 32,.tmp 35],#[22,22]⟩,none⟩,⟨some 3,.assign (.tmp 36),none⟩])) (.skip)))))) (.reg [⟨some 37,.binOp .add 3 (.tmp 20) (.const (.int .i64 1)) 3,none⟩,⟨some 20,.move (.tmp 37),none⟩])))
def x27_L0 : XC := .seq (.reg [⟨some 14,.binOp .lss 3 (.tmp 13) (.tmp 12) 3,none⟩]) (.seq (.cond (.tmp 14) (.skip) (.exit 0)) (.seq (.block 1 (.seq (.reg [⟨some 15,.indexAddr 22 (.tmp 11) (.tmp 13),none⟩,⟨some 16,.load 24 (.tmp 15),none⟩,⟨some 6,.alloc 24,none⟩,⟨none,.store 24 (.tmp 6) (.tmp 16),none⟩]) (.seq (.reg [⟨some 17,.load 24 (.tmp 6),none⟩,⟨some 18,.call ⟨.value (.func 43),#[.tmp 17,.const (.int .i64 200)],#[24,3]⟩,none⟩,⟨some 19,.call ⟨.builtin .len,#[.tmp 18],#[22]⟩,none⟩,⟨some 20,.move (.const (.int .i64 0)),none⟩]) (.bloop 2 x27_L2)))) (.reg [⟨some 38,.binOp .add 3 (.tmp 13) (.const (.int .i64 1)) 3,none⟩,⟨some 13,.move (.tmp 38),none⟩])))
def x27 : XC := .seq (.reg [⟨some 2,.assign (.const (.slice none 0 0)),none⟩]) (.seq (.reg [⟨some 3,.assign (.const (.slice none 0 0)),none⟩]) (.seq (.reg [⟨some 10,.makeMap 79 none,none⟩,⟨some 4,.assign (.tmp 10),none⟩]) (.seq (.seq (.reg [⟨some 11,.move (.tmp 0),none⟩,⟨some 12,.call ⟨.builtin .len,#[.tmp 11],#[22]⟩,none⟩,⟨some 13,.move (.const (.int .i64 0)),none⟩]) (.bloop 0 x27_L0)) (x27_T2))))
@[simp] theorem x27_s {C : WC} {e : AE} {s : Store} {K : KS} : type_of% (@X_at C e s K _ _ x27_T2.eq_1) ∧ type_of% (@X_at C e s K _ _ x27_L2.eq_1) ∧ type_of% (@X_at C e s K _ _ x27_L0.eq_1) ∧ type_of% (@X_at C e s K _ _ x27.eq_1) := ⟨X_at x27_T2.eq_1, X_at x27_L2.eq_1, X_at x27_L0.eq_1, X_at x27.eq_1⟩
def an27 : Ann := ⟨[], [(2, [(3, none, 3)], [3, 4, 11, 12, 13, 18, 19, 20], [3, 4, 11, 12, 13]), (0, [(3, none, 3)], [3, 4, 11, 12, 13], [3])], []⟩
def cx27 (P : Program) (m : Nat) : WC := ⟨P, m, an27⟩
@[simp] theorem cx27_a {P : Program} {m : Nat} : (cx27 P m).P = P ∧ (cx27 P m).m = m ∧ (cx27 P m).A.loopOf 2 = ([(3, none, 3)], [3, 4, 11, 12, 13, 18, 19, 20], [3, 4, 11, 12, 13]) ∧ (cx27 P m).A.loopOf 0 = ([(3, none, 3)], [3, 4, 11, 12, 13], [3]) := ⟨rfl, rfl, rfl, rfl⟩
instance {P : Program} {m f : Nat} [h : EnT P f] : EnT (cx27 P m).P f := h
theorem chk27 : ∀ c, Try.f27.body = some c → chkC Try.f27.ntmps an27 c = true := by intro c h; obtain rfl := Option.some.inj h; decide +kernel
theorem op27 {args : List PV} {v : PV} (h : X (cx27 Try.prog 0) x27 (argsA 0 args) [] (.fin [.tmp 2] fun v1 s1 => deref s1 6 v1 = v)) (hl : args.length ≤ Try.f27.ntmps := by rw [Try.ntmps27]; simp) : CallOK Try.prog 27 args [] v [] :=
  callX (m := 0) (cx27 Try.prog 0) x27 rfl rfl (by kernel_rfl) Try.func27 rfl rfl hl mixed (chk27 _ rfl) (by rw [Try.results27]; exact h)

theorem PartsOf_formula (f : Fm) (hf : OkF (fun n => isNameB n = true) f) (hl : (pre f).length ≤ 200) : CallOK Try.prog 27 [.list [frm f]] [] (.list ((partsS [] (pre f)).map frm)) [] := by
  have hp : pres [f] = pre f := by rw [pres_cons, pres_nil, List.append_nil]
  have hn := nodes_formula f 200 (by omega) []
  rw [nodesGo_long 200 200 [f] (by rw [hp]; omega) (by rw [hp]; intro x hx; have := (pre_sub f hf x hx).1.kids_le; omega), hp] at hn
  refine op27 ?_
  ((try simp (implicitDefEqProofs := false) (disch := first | assumption | (try simp only [lens]); omega -splitDisjunctions)); all_goals try (repeat' ((first | ((with_reducible first | refine And.intro ?_ ?_ | refine Exists.intro ?_ ?_); first | omega | (simp <;> omega)) | (with_reducible refine spl (And.intro ?_ ?_) <;> intro _)) <;> (try simp (implicitDefEqProofs := false) (disch := first | assumption | (try simp only [lens]); omega -splitDisjunctions)))))
  refine W_of fun Q hQ => ?_
  apply hQ
  ((try simp (implicitDefEqProofs := false) (disch := first | assumption | (try simp only [lens]); omega -splitDisjunctions)); all_goals try (repeat' ((first | ((with_reducible first | refine And.intro ?_ ?_ | refine Exists.intro ?_ ?_); first | omega | (simp <;> omega)) | (with_reducible refine spl (And.intro ?_ ?_) <;> intro _) | (refine CL.clo (hn) ?_) | (refine CM.clo (hn) ?_) | (refine CD.clo (hn) ?_)) <;> (try simp (implicitDefEqProofs := false) (disch := first | assumption | (try simp only [lens]); omega -splitDisjunctions)))))
  refine W_of fun Q2 hQ2 => ?_
  generalize hw : pre f = l at hn hl ⊢
  have hin : ∀ x ∈ l, OkF (fun n => isNameB n = true) x ∧ (pre x).length ≤ 1000 := by
    intro x hx
    subst hw
    have := pre_sub f hf x hx
    exact ⟨this.1, by omega⟩
  have main : ∀ n i had out, i + n = l.length → out.length ≤ i → partsS [] l = out ++ partsS had (l.drop i) → Q2 [(3, .sl 0 0 out.length), (4, .mapv 1), (11, .list [frm f]), (12, .int .i64 1), (13, .int .i64 0), (18, .list (l.map frm)), (19, .int .i64 (l.length : Int)), (20, .int .i64 (i : Int))] [.rows 3 (out.map frm), .map (mapS had)] := by
    intro n
    induction n with
    | zero =>
      intro i had out hi ho he
      apply hQ2
      ((try simp (implicitDefEqProofs := false) (disch := first | assumption | (try simp only [lens]); omega -splitDisjunctions)); all_goals try (repeat' ((first | ((with_reducible first | refine And.intro ?_ ?_ | refine Exists.intro ?_ ?_); first | omega | (simp <;> omega)) | (with_reducible refine spl (And.intro ?_ ?_) <;> intro _)) <;> (try simp (implicitDefEqProofs := false) (disch := first | assumption | (try simp only [lens]); omega -splitDisjunctions)))))
      apply hQ
      ((try simp (implicitDefEqProofs := false) (disch := first | assumption | (try simp only [lens]); omega -splitDisjunctions)); all_goals try (repeat' ((first | ((with_reducible first | refine And.intro ?_ ?_ | refine Exists.intro ?_ ?_); first | omega | (simp <;> omega)) | (with_reducible refine spl (And.intro ?_ ?_) <;> intro _)) <;> (try simp (implicitDefEqProofs := false) (disch := first | assumption | (try simp only [lens]); omega -splitDisjunctions)))))
      rw [hw, he, List.drop_of_length_le (by omega)]; simp [partsS]
    | succ n ih =>
      intro i had out hi ho he
      rw [partsS_drop (by omega)] at he
      apply hQ2
      obtain ⟨hok, hln⟩ := hin _ (List.getElem_mem (show i < l.length by omega))
      obtain ⟨j, hj⟩ := findP_set (said (l[i]'(by omega)) 1) had 0
      by_cases hm : memB (said (l[i]'(by omega)) 1) had = true
      · rw [if_pos hm] at hj he
        ((try simp (implicitDefEqProofs := false) (disch := first | assumption | (try simp only [lens]); omega -splitDisjunctions) [hj]); all_goals try (repeat' ((first | ((with_reducible first | refine And.intro ?_ ?_ | refine Exists.intro ?_ ?_); first | omega | (simp <;> omega)) | (with_reducible refine spl (And.intro ?_ ?_) <;> intro _) | (refine CL.clo (Said_formula _ hok hln) ?_) | (refine CM.clo (Said_formula _ hok hln) ?_) | (refine CD.clo (Said_formula _ hok hln) ?_)) <;> (try simp (implicitDefEqProofs := false) (disch := first | assumption | (try simp only [lens]); omega -splitDisjunctions) [hj]))))
        refine at2 (ih (i + 1) had out (by omega) (by omega) he) ?_ ?_ <;> simp
      · rw [if_neg hm] at hj he
        ((try simp (implicitDefEqProofs := false) (disch := first | assumption | (try simp only [lens]); omega -splitDisjunctions) [hj]); all_goals try (repeat' ((first | ((with_reducible first | refine And.intro ?_ ?_ | refine Exists.intro ?_ ?_); first | omega | (simp <;> omega)) | (with_reducible refine spl (And.intro ?_ ?_) <;> intro _) | (refine CL.clo (Said_formula _ hok hln) ?_) | (refine CM.clo (Said_formula _ hok hln) ?_) | (refine CD.clo (Said_formula _ hok hln) ?_) | (refine CL.clo (Copy_formula _ hok) ?_) | (refine CM.clo (Copy_formula _ hok) ?_) | (refine CD.clo (Copy_formula _ hok) ?_)) <;> (try simp (implicitDefEqProofs := false) (disch := first | assumption | (try simp only [lens]); omega -splitDisjunctions) [hj]))))
        refine at2 (ih (i + 1) (had ++ [said (l[i]'(by omega)) 1]) (out ++ [l[i]'(by omega)]) (by omega) (by simp; omega) (by rw [he]; simp)) ?_ ?_ <;> simp
  refine at2 (main _ 0 [] [] (Nat.zero_add _) (Nat.le_refl _) rfl) ?_ ?_ <;> simp [mapS]
end Go.Proofs.Ytliockncjdeloaa
