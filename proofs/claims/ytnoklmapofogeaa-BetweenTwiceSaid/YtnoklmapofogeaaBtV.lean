/-
  truth: Value.
-/
import Derived.Test.YtnoklmapofogeaaTrB
namespace Go.Proofs.Ytnoklmapofogeaa
open Go Go.Pv
set_option linter.unusedVariables false
set_option linter.unusedSimpArgs false
set_option maxRecDepth 100000
set_option maxHeartbeats 4000000

@[simp] theorem entsB_snoc (a : List (ByteArray × Bool)) (x : ByteArray) (b : Bool) : entsB a ++ [(.str x, .bool b)] = entsB (a ++ [(x, b)]) := by simp [entsB]
/-- the first that is no name -/
def nameBad : List ByteArray → Nat → Option (Int × Int)
  | [], _ => none
  | x :: r, i => if isNameB x = true then nameBad r (i + 1) else some (8, (i : Int))
theorem nameBad_drop {l : List ByteArray} {i : Nat} (h : i < l.length) : nameBad (l.drop i) i = if isNameB l[i] = true then nameBad (l.drop (i + 1)) (i + 1) else some (8, (i : Int)) := by
  rw [List.drop_eq_getElem_cons h, nameBad]
theorem nameBad_code : ∀ (l : List ByteArray) (i : Nat) x, nameBad l i = some x → x.1 = 8
  | [], _, x, h => by cases h
  | a :: r, i, x, h => by
    unfold nameBad at h
    split at h
    · exact nameBad_code r _ x h
    · cases h; rfl
/-- a set, as a map -/
def setB (L : List ByteArray) : List (ByteArray × Bool) := L.map fun x => (x, true)
theorem lk_set (L : List ByteArray) : lkB (setB L) = fun x => memB x L := by
  funext x
  induction L with
  | nil => rfl
  | cons a r ih =>
    have e : lkB (setB (a :: r)) x = if x = a then true else lkB (setB r) x := by
      unfold lkB setB; rw [List.map_cons, List.find?_cons]
      by_cases h : x = a <;> simp [h]
    rw [e, ih]
    by_cases h : x = a <;> simp [memB, h]
theorem memB_congr {L M : List ByteArray} (h : ∀ x, x ∈ L ↔ x ∈ M) : (fun x => memB x L) = fun x => memB x M := by
  funext x; rw [Bool.eq_iff_iff, memB_iff, memB_iff]; exact h x
theorem setB_same {L : List ByteArray} {x : ByteArray} {j : Nat} {b : Bool} (h : (setB L)[j]? = some (x, b)) : (entsB (setB L)).set j (.str x, .bool true) = entsB (setB L) := by
  have hb : b = true := by
    unfold setB at h
    rw [List.getElem?_map, Option.map_eq_some_iff] at h
    obtain ⟨y, _, e⟩ := h
    cases e; rfl
  subst hb
  have h2 : (entsB (setB L))[j]? = some (.str x, .bool true) := by unfold entsB; rw [List.getElem?_map, h]; rfl
  obtain ⟨h3, h4⟩ := List.getElem?_eq_some_iff.1 h2
  rw [← h4, List.set_getElem_self]
def valueV (f : Fm) (hs : List ByteArray) : Bool × (Int × Int) :=
  if (plainF f).1 ≠ 0 then (false, plainF f) else if 1000 < hs.length then (false, (2, 0)) else match nameBad hs 0 with
  | some w => (false, w)
  | none => (tv (fun x => memB x hs) f, (0, 0))
def x92_T1 : XC := .seq (.reg [⟨some 37,.load 24 (.tmp 2),none⟩,⟨some 38,.move (.tmp 7),none⟩,⟨some 39,.call ⟨.value (.func 126),#[.tmp 37,.tmp 38],#[24,127]⟩,none⟩,⟨some 40,.build 33 #[],none⟩,⟨some 4,.assign (.tmp 39),none⟩,⟨none,.store 33 (.tmp 5) (.tmp 40),none⟩]) (.ret)
def x92_L0 : XC := .seq (.reg [⟨some 25,.binOp .lss 3 (.tmp 24) (.tmp 23) 3,none⟩]) (.seq (.cond (.tmp 25) (.skip) (.exit 0)) (.seq (.block 1 (.seq (.reg [⟨some 26,.move (.tmp 24),none⟩,⟨some 27,.indexAddr 35 (.tmp 22) (.tmp 24),none⟩,⟨some 28,.load 9 (.tmp 27),none⟩,⟨some 8,.assign (.tmp 26),none⟩,⟨some 9,.assign (.tmp 28),none⟩]) (.seq (.seq (.reg [⟨some 29,.move (.tmp 9),none⟩,⟨some 30,.call ⟨.value (.func 80),#[.tmp 29],#[9]⟩,none⟩,⟨some 31,.unOp .not 4 (.tmp 30),none⟩]) (.cond (.tmp 31) (.seq (.reg [⟨some 32,.move (.tmp 8),none⟩,⟨some 33,.call ⟨.value (.func 100),#[.const (.int .i64 8),.tmp 32],#[3,3]⟩,none⟩,⟨some 4,.assign (.const (.bool false)),none⟩,⟨none,.store 33 (.tmp 5) (.tmp 33),none⟩]) (.ret)) (.skip))) (.reg [⟨some 34,.move (.tmp 7),none⟩,⟨some 35,.move (.tmp 9),none⟩,⟨none,.mapUpdate 127 (.tmp 34) (.tmp 35) (.const (.bool true)),none⟩])))) (.reg [⟨some 36,.binOp .add 3 (.tmp 24) (.const (.int .i64 1)) 3,none⟩,⟨some 24,.move (.tmp 36),none⟩])))
def x92 : XC := .seq (.reg [⟨some 2,.box 24 (.tmp 0),none⟩,⟨some 4,.assign (.const (.bool false)),none⟩,⟨some 5,.alloc 33,none⟩]) (.seq (.seq (.reg [⟨some 10,.load 24 (.tmp 2),none⟩,⟨some 11,.buildSlice 22 1 #[(0,.tmp 10)],none⟩,⟨some 12,.call ⟨.value (.func 70),#[.tmp 11],#[22]⟩,none⟩,⟨some 6,.alloc 33,none⟩,⟨none,.store 33 (.tmp 6) (.tmp 12),none⟩]) (.seq (.reg [⟨some 13,.fieldAddr 33 (.tmp 6) 0,none⟩,⟨some 14,.load 3 (.tmp 13),none⟩,⟨some 15,.binOp .neq 3 (.tmp 14) (.const (.int .i64 0)) 3,none⟩]) (.cond (.tmp 15) (.seq (.drawn 3 [⟨some 16,.load 33 (.tmp 6),none⟩,⟨some 4,.assign (.const (.bool false)),none⟩,⟨none,.store 33 (.tmp 5) (.tmp 16),none⟩]) (.ret)) (.skip)))) (.seq (.seq (.reg [⟨some 17,.move (.tmp 1),none⟩,⟨some 18,.call ⟨.builtin .len,#[.tmp 17],#[35]⟩,none⟩,⟨some 19,.binOp .gtr 3 (.tmp 18) (.const (.int .i64 1000)) 3,none⟩]) (.cond (.tmp 19) (.seq (.reg [⟨some 20,.call ⟨.value (.func 100),#[.const (.int .i64 2),.const (.int .i64 0)],#[3,3]⟩,none⟩,⟨some 4,.assign (.const (.bool false)),none⟩,⟨none,.store 33 (.tmp 5) (.tmp 20),none⟩]) (.ret)) (.skip))) (.seq (.reg [⟨some 21,.makeMap 127 none,none⟩,⟨some 7,.assign (.tmp 21),none⟩]) (.seq (.seq (.reg [⟨some 22,.move (.tmp 1),none⟩,⟨some 23,.call ⟨.builtin .len,#[.tmp 22],#[35]⟩,none⟩,⟨some 24,.move (.const (.int .i64 0)),none⟩]) (.bloop 0 x92_L0)) (x92_T1)))))
@[simp] theorem x92_s {C : WC} {e : AE} {s : Store} {K : KS} : type_of% (@X_at C e s K _ _ x92_T1.eq_1) ∧ type_of% (@X_at C e s K _ _ x92_L0.eq_1) ∧ type_of% (@X_at C e s K _ _ x92.eq_1) := ⟨X_at x92_T1.eq_1, X_at x92_L0.eq_1, X_at x92.eq_1⟩
def an92 : Ann := ⟨[], [(0, [], [2, 5, 7, 22, 23, 24], [2, 4, 5, 7])], []⟩
def cx92 (P : Program) (m : Nat) : WC := ⟨P, m, an92⟩
@[simp] theorem cx92_a {P : Program} {m : Nat} : (cx92 P m).P = P ∧ (cx92 P m).m = m ∧ (cx92 P m).A.clsOf 3 = .draw ∧ (cx92 P m).A.frzOf 3 = [] ∧ (cx92 P m).A.loopOf 0 = ([], [2, 5, 7, 22, 23, 24], [2, 4, 5, 7]) := ⟨rfl, rfl, rfl, rfl, rfl⟩
instance {P : Program} {m f : Nat} [h : EnT P f] : EnT (cx92 P m).P f := h
theorem chk92 : ∀ c, Try.f92.body = some c → chkC Try.f92.ntmps an92 c = true := by intro c h; obtain rfl := Option.some.inj h; decide +kernel
theorem op92 {args : List PV} {v : PV} (h : X (cx92 Try.prog 0) x92 (argsA 0 args) [] (.fin [.tmp 4, .cell 5 33] fun v1 s1 => deref s1 6 v1 = v)) (hl : args.length ≤ Try.f92.ntmps := by rw [Try.ntmps92]; simp) : CallOK Try.prog 92 args [] v [] :=
  callX (m := 0) (cx92 Try.prog 0) x92 rfl rfl (by kernel_rfl) Try.func92 rfl rfl hl mixed (chk92 _ rfl) (by rw [Try.results92]; exact h)

theorem Value_truth (f : Fm) (hs : List ByteArray) : CallOK Try.prog 92 [.agg (frm f), .list (hs.map strRow)] [] (.tuple [.bool (valueV f hs).1, .agg [.int .i64 (valueV f hs).2.1, .int .i64 (valueV f hs).2.2]]) [] := by
  have hp := Plain_truth [f] (by simp)
  rw [plainL_one] at hp
  refine op92 ?_
  by_cases h1 : (plainF f).1 = 0
  · have hz := plainF_zero h1
    by_cases hl : 1000 < hs.length
    · rw [show valueV f hs = (false, (2, 0)) from by unfold valueV; rw [if_neg (by simpa using h1), if_pos hl]]
      have hli : (1000 : Int) < (hs.length : Int) := by omega
      rw [hz] at hp
      (((try simp (implicitDefEqProofs := false)); (try simp (implicitDefEqProofs := false) (disch := first | assumption | (try simp only [lens]); omega -splitDisjunctions))); all_goals try (repeat' ((first | ((with_reducible first | refine And.intro ?_ ?_ | refine Exists.intro ?_ ?_); first | omega | (simp <;> omega)) | (with_reducible refine spl (And.intro ?_ ?_) <;> intro _)) <;> ((try simp (implicitDefEqProofs := false)); (try simp (implicitDefEqProofs := false) (disch := first | assumption | (try simp only [lens]); omega -splitDisjunctions))))))
      refine CL.giv [2] ?_
      (((try simp (implicitDefEqProofs := false) [hli]); (try simp (implicitDefEqProofs := false) (disch := first | assumption | (try simp only [lens]); omega -splitDisjunctions) [hli])); all_goals try (repeat' ((first | ((with_reducible first | refine And.intro ?_ ?_ | refine Exists.intro ?_ ?_); first | omega | (simp <;> omega)) | (with_reducible refine spl (And.intro ?_ ?_) <;> intro _) | (refine CL.clo (hp) ?_) | (refine CM.clo (hp) ?_) | (refine CD.clo (hp) ?_) | (refine CL.clo (fault_truth 2 0) ?_) | (refine CM.clo (fault_truth 2 0) ?_) | (refine CD.clo (fault_truth 2 0) ?_)) <;> ((try simp (implicitDefEqProofs := false) [hli]); (try simp (implicitDefEqProofs := false) (disch := first | assumption | (try simp only [lens]); omega -splitDisjunctions) [hli])))))
    · have hli : ¬ (1000 : Int) < (hs.length : Int) := by omega
      have hv0 : valueV f hs = match nameBad hs 0 with
        | some w => (false, w)
        | none => (tv (fun x => memB x hs) f, (0, 0)) := by unfold valueV; rw [if_neg (by simpa using h1), if_neg hl]
      generalize valueV f hs = V at *
      rw [hz] at hp
      have hpl := ((plainF_iff f).1 h1).1
      clear hz h1 hl
      (((try simp (implicitDefEqProofs := false)); (try simp (implicitDefEqProofs := false) (disch := first | assumption | (try simp only [lens]); omega -splitDisjunctions))); all_goals try (repeat' ((first | ((with_reducible first | refine And.intro ?_ ?_ | refine Exists.intro ?_ ?_); first | omega | (simp <;> omega)) | (with_reducible refine spl (And.intro ?_ ?_) <;> intro _)) <;> ((try simp (implicitDefEqProofs := false)); (try simp (implicitDefEqProofs := false) (disch := first | assumption | (try simp only [lens]); omega -splitDisjunctions))))))
      refine CL.giv [2] ?_
      (((try simp (implicitDefEqProofs := false) [hli]); (try simp (implicitDefEqProofs := false) (disch := first | assumption | (try simp only [lens]); omega -splitDisjunctions) [hli])); all_goals try (repeat' ((first | ((with_reducible first | refine And.intro ?_ ?_ | refine Exists.intro ?_ ?_); first | omega | (simp <;> omega)) | (with_reducible refine spl (And.intro ?_ ?_) <;> intro _) | (refine CL.clo (hp) ?_) | (refine CM.clo (hp) ?_) | (refine CD.clo (hp) ?_)) <;> ((try simp (implicitDefEqProofs := false) [hli]); (try simp (implicitDefEqProofs := false) (disch := first | assumption | (try simp only [lens]); omega -splitDisjunctions) [hli])))))
      refine W_of fun Q hQ => ?_
      have main : ∀ r i L, i + r = hs.length → nameBad hs 0 = nameBad (hs.drop i) i → (∀ x, x ∈ L ↔ x ∈ hs.take i) → Q [(2, .ptr 0 0 0), (5, .ptr 1 0 0), (7, .mapv 2), (22, .list (hs.map strRow)), (23, .int .i64 (hs.length : Int)), (24, .int .i64 (i : Int))] [.rows 3 [frm f], .rows 2 [[.int .i64 0, .int .i64 0]], .map (entsB (setB L))] := by
        intro r
        induction r with
        | zero =>
          intro i L hi hb hL
          rw [List.drop_of_length_le (by omega), nameBad] at hb
          rw [hb] at hv0
          dsimp only at hv0
          rw [List.take_of_length_le (by omega)] at hL
          have hva := value_truth (setB L) f hpl
          rw [lk_set, memB_congr hL] at hva
          subst hv0
          generalize tv (fun x => memB x hs) f = t at *
          generalize setB L = S at *
          apply hQ
          clear hQ
          (((try simp (implicitDefEqProofs := false)); (try simp (implicitDefEqProofs := false) (disch := first | assumption | (try simp only [lens]); omega -splitDisjunctions))); all_goals try (repeat' ((first | ((with_reducible first | refine And.intro ?_ ?_ | refine Exists.intro ?_ ?_); first | omega | (simp <;> omega)) | (with_reducible refine spl (And.intro ?_ ?_) <;> intro _)) <;> ((try simp (implicitDefEqProofs := false)); (try simp (implicitDefEqProofs := false) (disch := first | assumption | (try simp only [lens]); omega -splitDisjunctions))))))
          (first | refine CL.see (hva) (by simp) (by simp [flats]) ?_ | refine CD.see (hva) (by simp) (by simp [flats]) ?_ | refine CM.see (hva) (fun _ => by simp) (by simp [flats]) ?_)
          (((try simp (implicitDefEqProofs := false)); (try simp (implicitDefEqProofs := false) (disch := first | assumption | (try simp only [lens]); omega -splitDisjunctions))); all_goals try (repeat' ((first | ((with_reducible first | refine And.intro ?_ ?_ | refine Exists.intro ?_ ?_); first | omega | (simp <;> omega)) | (with_reducible refine spl (And.intro ?_ ?_) <;> intro _)) <;> ((try simp (implicitDefEqProofs := false)); (try simp (implicitDefEqProofs := false) (disch := first | assumption | (try simp only [lens]); omega -splitDisjunctions))))))
        | succ r ih =>
          intro i L hi hb hL
          have hih : i < hs.length := by omega
          have ih := fun L => ih (i + 1) L (by omega)
          have hn := isName_formula hs[i] []
          rw [nameBad_drop hih] at hb
          rw [take_snoc hih] at ih
          apply hQ
          clear hQ
          cases hx : isNameB hs[i] with
          | false =>
            rw [hx] at hb hn
            rw [if_neg (by simp)] at hb
            rw [hb] at hv0
            dsimp only at hv0
            subst hv0
            generalize setB L = S at *
            (((try simp (implicitDefEqProofs := false) [hih]); (try simp (implicitDefEqProofs := false) (disch := first | assumption | (try simp only [lens]); omega -splitDisjunctions) [hih])); all_goals try (repeat' ((first | ((with_reducible first | refine And.intro ?_ ?_ | refine Exists.intro ?_ ?_); first | omega | (simp <;> omega)) | (with_reducible refine spl (And.intro ?_ ?_) <;> intro _) | (refine CL.clo (hn) ?_) | (refine CM.clo (hn) ?_) | (refine CD.clo (hn) ?_) | (refine CL.clo (fault_truth 8 _) ?_) | (refine CM.clo (fault_truth 8 _) ?_) | (refine CD.clo (fault_truth 8 _) ?_)) <;> ((try simp (implicitDefEqProofs := false) [hih]); (try simp (implicitDefEqProofs := false) (disch := first | assumption | (try simp only [lens]); omega -splitDisjunctions) [hih])))))
          | true =>
            rw [hx] at hb hn
            rw [if_pos rfl] at hb
            rcases find_ents hs[i] (setB L) 0 with ⟨h1, _⟩ | ⟨j, b, h1, _, h3⟩
            · have ih := ih (L ++ [hs[i]]) hb (fun x => by rw [List.mem_append, List.mem_append, hL])
              rw [show setB (L ++ [hs[i]]) = setB L ++ [(hs[i], true)] from by simp [setB]] at ih
              generalize setB L = S at *
              (((try simp (implicitDefEqProofs := false) [hih, h1]); (try simp (implicitDefEqProofs := false) (disch := first | assumption | (try simp only [lens]); omega -splitDisjunctions) [hih, h1])); all_goals try (repeat' ((first | ((with_reducible first | refine And.intro ?_ ?_ | refine Exists.intro ?_ ?_); first | omega | (simp <;> omega)) | (with_reducible refine spl (And.intro ?_ ?_) <;> intro _) | (refine CL.clo (hn) ?_) | (refine CM.clo (hn) ?_) | (refine CD.clo (hn) ?_)) <;> ((try simp (implicitDefEqProofs := false) [hih, h1]); (try simp (implicitDefEqProofs := false) (disch := first | assumption | (try simp only [lens]); omega -splitDisjunctions) [hih, h1])))))
              all_goals first | exact ih | (refine at2 ih ?_ ?_ <;> simp; done) | (exfalso; first | omega | (simp_all; done) | (simp_all; omega))
            · have hmem : hs[i] ∈ L := by
                have := List.mem_of_getElem? h3
                unfold setB at this
                obtain ⟨y, hy, e⟩ := List.mem_map.1 this
                cases e; exact hy
              have ih := ih L hb (fun x => by
                rw [List.mem_append, ← hL]
                constructor
                · exact .inl
                · rintro (h | h)
                  · exact h
                  · simp at h; subst h; exact hmem)
              have hst := setB_same h3
              rw [Nat.zero_add] at h1
              generalize setB L = S at *
              (((try simp (implicitDefEqProofs := false) [hih, h1, hst]); (try simp (implicitDefEqProofs := false) (disch := first | assumption | (try simp only [lens]); omega -splitDisjunctions) [hih, h1, hst])); all_goals try (repeat' ((first | ((with_reducible first | refine And.intro ?_ ?_ | refine Exists.intro ?_ ?_); first | omega | (simp <;> omega)) | (with_reducible refine spl (And.intro ?_ ?_) <;> intro _) | (refine CL.clo (hn) ?_) | (refine CM.clo (hn) ?_) | (refine CD.clo (hn) ?_)) <;> ((try simp (implicitDefEqProofs := false) [hih, h1, hst]); (try simp (implicitDefEqProofs := false) (disch := first | assumption | (try simp only [lens]); omega -splitDisjunctions) [hih, h1, hst])))))
              all_goals first | exact ih | (refine at2 ih ?_ ?_ <;> simp; done) | (exfalso; first | omega | (simp_all; done) | (simp_all; omega))
      all_goals first | exact main _ 0 [] (Nat.zero_add _) rfl (by simp) | (refine at2 main _ 0 [] (Nat.zero_add _) rfl (by simp) ?_ ?_ <;> simp; done) | (exfalso; first | omega | (simp_all; done) | (simp_all; omega))
  · rw [show valueV f hs = (false, plainF f) from by unfold valueV; rw [if_pos (by simpa using h1)]]
    generalize plainF f = w at *
    (((try simp (implicitDefEqProofs := false)); (try simp (implicitDefEqProofs := false) (disch := first | assumption | (try simp only [lens]); omega -splitDisjunctions))); all_goals try (repeat' ((first | ((with_reducible first | refine And.intro ?_ ?_ | refine Exists.intro ?_ ?_); first | omega | (simp <;> omega)) | (with_reducible refine spl (And.intro ?_ ?_) <;> intro _)) <;> ((try simp (implicitDefEqProofs := false)); (try simp (implicitDefEqProofs := false) (disch := first | assumption | (try simp only [lens]); omega -splitDisjunctions))))))
    refine CL.giv [2] ?_
    (((try simp (implicitDefEqProofs := false) [h1]); (try simp (implicitDefEqProofs := false) (disch := first | assumption | (try simp only [lens]); omega -splitDisjunctions) [h1])); all_goals try (repeat' ((first | ((with_reducible first | refine And.intro ?_ ?_ | refine Exists.intro ?_ ?_); first | omega | (simp <;> omega)) | (with_reducible refine spl (And.intro ?_ ?_) <;> intro _) | (refine CL.clo (hp) ?_) | (refine CM.clo (hp) ?_) | (refine CD.clo (hp) ?_)) <;> ((try simp (implicitDefEqProofs := false) [h1]); (try simp (implicitDefEqProofs := false) (disch := first | assumption | (try simp only [lens]); omega -splitDisjunctions) [h1])))))
end Go.Proofs.Ytnoklmapofogeaa
