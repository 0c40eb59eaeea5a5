/-
  truth: Made.
-/
import Derived.Test.YtbmpmmbcfabeeaaTrF
import Derived.Test.YtbmpmmbcfabeeaaModA
namespace Go.Proofs.Ytbmpmmbcfabeeaa
open Go Go.Pv
set_option linter.unusedVariables false
set_option linter.unusedSimpArgs false
set_option maxRecDepth 100000
set_option maxHeartbeats 4000000

/-- the first that is no name, or stood already -/
def mdBad (P : List ByteArray) : List ByteArray → Nat → Option (Int × Int)
  | [], _ => none
  | x :: r, i => if isNameB x = true ∧ memB x P = false then mdBad (P ++ [x]) r (i + 1) else some (8, (i : Int))
theorem mdBad_code : ∀ (l P : List ByteArray) (i : Nat) x, mdBad P l i = some x → x.1 = 8
  | [], _, _, x, h => by cases h
  | a :: r, P, i, x, h => by
    unfold mdBad at h
    split at h
    · exact mdBad_code r _ _ x h
    · cases h; rfl
theorem mdBad_nodup : ∀ (l P : List ByteArray) (i : Nat), mdBad P l i = none → l.Nodup ∧ ∀ x ∈ l, x ∉ P
  | [], P, i, _ => ⟨List.nodup_nil, fun x h => by cases h⟩
  | a :: r, P, i, h => by
    unfold mdBad at h
    split at h
    · rename_i hc
      obtain ⟨h1, h2⟩ := mdBad_nodup r _ _ h
      have ha : a ∉ P := fun g => by have := memB_iff.2 g; rw [hc.2] at this; cases this
      refine ⟨List.nodup_cons.2 ⟨fun g => h2 a g (by simp), h1⟩, fun x hx => ?_⟩
      rcases List.mem_cons.1 hx with rfl | hx
      · exact ha
      · exact fun g => h2 x hx (by simp [g])
    · cases h
theorem mdBad_drop {l : List ByteArray} {i : Nat} (h : i < l.length) : mdBad (l.take i) (l.drop i) i = if isNameB l[i] = true ∧ memB l[i] (l.take i) = false then mdBad (l.take (i + 1)) (l.drop (i + 1)) (i + 1) else some (8, (i : Int)) := by
  rw [List.drop_eq_getElem_cons h, mdBad, take_snoc h]
def subB (l M : List ByteArray) : Bool := l.all fun x => memB x M
theorem subB_drop {l M : List ByteArray} {i : Nat} (h : i < l.length) : subB (l.drop i) M = (memB l[i] M && subB (l.drop (i + 1)) M) := by
  rw [List.drop_eq_getElem_cons h]; rfl
def madeV (f : Fm) (ns : List ByteArray) : List Bool × (Int × Int) :=
  if (plainF f).1 ≠ 0 then ([], plainF f) else if 4 < ns.length then ([], (2, 0)) else match mdBad [] ns 0 with
  | some w => ([], w)
  | none => if subB (namesF f) ns = true then (rowsB ns f, (0, 0)) else ([], (6, 0))
def madeN (f : Fm) (ns : List ByteArray) : Int := if (madeV f ns).2.1 = 0 then (ns.length : Int) else 0
theorem has_mem (l : List ByteArray) (x : ByteArray) : hasStr l x = memB x l := rfl
def x54_T3 : XC := .seq (.reg [⟨some 61,.move (.tmp 1),none⟩,⟨some 62,.call ⟨.builtin .len,#[.tmp 61],#[53]⟩,none⟩,⟨some 63,.build 48 #[(0,.tmp 62)],none⟩,⟨some 11,.alloc 48,none⟩,⟨none,.store 48 (.tmp 11) (.tmp 63),none⟩]) (.seq (.reg [⟨some 64,.move (.tmp 1),none⟩,⟨some 65,.makeFunc (.func 110) #[] #[.tmp 11,.tmp 2],none⟩,⟨some 66,.call ⟨.value (.func 83),#[.tmp 64,.tmp 65],#[53,118]⟩,none⟩]) (.seq (.reg [⟨some 67,.load 48 (.tmp 11),none⟩,⟨some 68,.build 29 #[],none⟩,⟨none,.store 48 (.tmp 4) (.tmp 67),none⟩,⟨none,.store 29 (.tmp 5) (.tmp 68),none⟩]) (.ret)))
def x54_L2 : XC := .seq (.reg [⟨some 51,.binOp .lss 3 (.tmp 50) (.tmp 49) 3,none⟩]) (.seq (.cond (.tmp 51) (.skip) (.exit 2)) (.seq (.block 3 (.seq (.reg [⟨some 52,.indexAddr 53 (.tmp 48) (.tmp 50),none⟩,⟨some 53,.load 9 (.tmp 52),none⟩,⟨some 10,.assign (.tmp 53),none⟩]) (.seq (.reg [⟨some 54,.move (.tmp 1),none⟩,⟨some 55,.move (.tmp 10),none⟩,⟨some 56,.call ⟨.value (.func 90),#[.tmp 54,.tmp 55],#[53,9]⟩,none⟩,⟨some 57,.unOp .not 4 (.tmp 56),none⟩]) (.cond (.tmp 57) (.seq (.reg [⟨some 58,.build 48 #[],none⟩,⟨some 59,.call ⟨.value (.func 109),#[.const (.int .i64 6),.const (.int .i64 0)],#[3,3]⟩,none⟩,⟨none,.store 48 (.tmp 4) (.tmp 58),none⟩,⟨none,.store 29 (.tmp 5) (.tmp 59),none⟩]) (.ret)) (.skip))))) (.reg [⟨some 60,.binOp .add 3 (.tmp 50) (.const (.int .i64 1)) 3,none⟩,⟨some 50,.move (.tmp 60),none⟩])))
def x54_T1 : XC := .seq (.seq (.reg [⟨some 46,.load 24 (.tmp 2),none⟩,⟨some 47,.buildSlice 22 1 #[(0,.tmp 46)],none⟩,⟨some 48,.call ⟨.value (.func 91),#[.tmp 47],#[22]⟩,none⟩,⟨some 49,.call ⟨.builtin .len,#[.tmp 48],#[53]⟩,none⟩,⟨some 50,.move (.const (.int .i64 0)),none⟩]) (.bloop 2 x54_L2)) (x54_T3)
def x54_L0 : XC := .seq (.reg [⟨some 28,.binOp .lss 3 (.tmp 27) (.tmp 26) 3,none⟩]) (.seq (.cond (.tmp 28) (.skip) (.exit 0)) (.seq (.block 1 (.seq (.reg [⟨some 29,.move (.tmp 27),none⟩,⟨some 30,.indexAddr 53 (.tmp 25) (.tmp 27),none⟩,⟨some 31,.load 9 (.tmp 30),none⟩,⟨some 7,.assign (.tmp 29),none⟩,⟨some 8,.assign (.tmp 31),none⟩]) (.seq (.reg [⟨some 32,.move (.tmp 8),none⟩,⟨some 33,.call ⟨.value (.func 68),#[.tmp 32],#[9]⟩,none⟩,⟨some 34,.unOp .not 4 (.tmp 33),none⟩,⟨some 35,.move (.tmp 34),none⟩,⟨some 36,.move (.tmp 1),some (some 35,false)⟩,⟨some 37,.move (.tmp 7),some (some 35,false)⟩,⟨some 38,.slice 53 (.tmp 36) none (some (.tmp 37)) none,some (some 35,false)⟩,⟨some 39,.move (.tmp 8),some (some 35,false)⟩,⟨some 40,.call ⟨.value (.func 90),#[.tmp 38,.tmp 39],#[53,9]⟩,some (some 35,false)⟩,⟨some 41,.pick (.tmp 35) (.const (.bool true)) (.tmp 40),none⟩]) (.cond (.tmp 41) (.seq (.reg [⟨some 42,.build 48 #[],none⟩,⟨some 43,.move (.tmp 7),none⟩,⟨some 44,.call ⟨.value (.func 109),#[.const (.int .i64 8),.tmp 43],#[3,3]⟩,none⟩,⟨none,.store 48 (.tmp 4) (.tmp 42),none⟩,⟨none,.store 29 (.tmp 5) (.tmp 44),none⟩]) (.ret)) (.skip))))) (.reg [⟨some 45,.binOp .add 3 (.tmp 27) (.const (.int .i64 1)) 3,none⟩,⟨some 27,.move (.tmp 45),none⟩])))
def x54 : XC := .seq (.reg [⟨some 2,.box 24 (.tmp 0),none⟩,⟨some 4,.alloc 48,none⟩,⟨some 5,.alloc 29,none⟩]) (.seq (.seq (.reg [⟨some 12,.load 24 (.tmp 2),none⟩,⟨some 13,.buildSlice 22 1 #[(0,.tmp 12)],none⟩,⟨some 14,.call ⟨.value (.func 108),#[.tmp 13],#[22]⟩,none⟩,⟨some 6,.alloc 29,none⟩,⟨none,.store 29 (.tmp 6) (.tmp 14),none⟩]) (.seq (.reg [⟨some 15,.fieldAddr 29 (.tmp 6) 0,none⟩,⟨some 16,.load 3 (.tmp 15),none⟩,⟨some 17,.binOp .neq 3 (.tmp 16) (.const (.int .i64 0)) 3,none⟩]) (.cond (.tmp 17) (.seq (.drawn 3 [⟨some 18,.build 48 #[],none⟩,⟨some 19,.load 29 (.tmp 6),none⟩,⟨none,.store 48 (.tmp 4) (.tmp 18),none⟩,⟨none,.store 29 (.tmp 5) (.tmp 19),none⟩]) (.ret)) (.skip)))) (.seq (.seq (.reg [⟨some 20,.move (.tmp 1),none⟩,⟨some 21,.call ⟨.builtin .len,#[.tmp 20],#[53]⟩,none⟩,⟨some 22,.binOp .gtr 3 (.tmp 21) (.const (.int .i64 4)) 3,none⟩]) (.cond (.tmp 22) (.seq (.reg [⟨some 23,.build 48 #[],none⟩,⟨some 24,.call ⟨.value (.func 109),#[.const (.int .i64 2),.const (.int .i64 0)],#[3,3]⟩,none⟩,⟨none,.store 48 (.tmp 4) (.tmp 23),none⟩,⟨none,.store 29 (.tmp 5) (.tmp 24),none⟩]) (.ret)) (.skip))) (.seq (.seq (.reg [⟨some 25,.move (.tmp 1),none⟩,⟨some 26,.call ⟨.builtin .len,#[.tmp 25],#[53]⟩,none⟩,⟨some 27,.move (.const (.int .i64 0)),none⟩]) (.bloop 0 x54_L0)) (x54_T1))))
@[simp] theorem x54_s {C : WC} {e : AE} {s : Store} {K : KS} : type_of% (@X_at C e s K _ _ x54_T3.eq_1) ∧ type_of% (@X_at C e s K _ _ x54_L2.eq_1) ∧ type_of% (@X_at C e s K _ _ x54_T1.eq_1) ∧ type_of% (@X_at C e s K _ _ x54_L0.eq_1) ∧ type_of% (@X_at C e s K _ _ x54.eq_1) := ⟨X_at x54_T3.eq_1, X_at x54_L2.eq_1, X_at x54_T1.eq_1, X_at x54_L0.eq_1, X_at x54.eq_1⟩
def an54 : Ann := ⟨[(3, .mix3 2 1)], [(2, [], [1, 2, 4, 5, 48, 49, 50], [1, 2, 4, 5]), (0, [], [1, 2, 4, 5, 25, 26, 27], [1, 2, 4, 5])], []⟩
def cx54 (P : Program) (m : Nat) : WC := ⟨P, m, an54⟩
@[simp] theorem cx54_a {P : Program} {m : Nat} : (cx54 P m).P = P ∧ (cx54 P m).m = m ∧ (cx54 P m).A.clsOf 3 = .mix3 2 1 ∧ (cx54 P m).A.frzOf 3 = [] ∧ (cx54 P m).A.loopOf 2 = ([], [1, 2, 4, 5, 48, 49, 50], [1, 2, 4, 5]) ∧ (cx54 P m).A.loopOf 0 = ([], [1, 2, 4, 5, 25, 26, 27], [1, 2, 4, 5]) := ⟨rfl, rfl, rfl, rfl, rfl, rfl⟩
instance {P : Program} {m f : Nat} [h : EnT P f] : EnT (cx54 P m).P f := h
theorem chk54 : ∀ c, Try.f54.body = some c → chkC Try.f54.ntmps an54 c = true := by intro c h; obtain rfl := Option.some.inj h; decide +kernel
theorem os54 {args : List PV} {v : PV} (h : X (cx54 Try.prog 0) x54 (argsA 0 args) [] (.fin [.cell 4 48, .cell 5 29] fun v1 s1 => softV (deref s1 6 v1) = v)) (hl : args.length ≤ Try.f54.ntmps := by rw [Try.ntmps54]; simp) : CallOK Try.prog 54 args [] v [] :=
  callXF (m := 0) (cx54 Try.prog 0) x54 rfl rfl (by kernel_rfl) Try.func54 rfl rfl hl mixed (chk54 _ rfl) (by rw [Try.results54]; exact h)

theorem Made_truth (f : Fm) (ns : List ByteArray) : CallOK Try.prog 54 [.agg (frm f), .list (ns.map strRow)] [] (.tuple [.agg [.int .i64 (madeN f ns), .list ((madeV f ns).1.map boolRow)], .agg [.int .i64 (madeV f ns).2.1, .int .i64 (madeV f ns).2.2]]) [] := by
  have hp := Plain_truth [f] (by simp)
  rw [plainL_one] at hp
  unfold madeN
  refine os54 ?_
  by_cases h1 : (plainF f).1 = 0
  · have hz := plainF_zero h1
    by_cases hl : 4 < ns.length
    · rw [show madeV f ns = ([], (2, 0)) from by unfold madeV; rw [if_neg (by simpa using h1), if_pos hl]]
      have hli : (4 : Int) < (ns.length : Int) := by omega
      rw [hz] at hp
      (((try simp (implicitDefEqProofs := false)); (try simp (implicitDefEqProofs := false) (disch := first | assumption | (try simp only [lens]); omega -splitDisjunctions))); all_goals try (repeat' ((first | ((with_reducible first | refine And.intro ?_ ?_ | refine Exists.intro ?_ ?_); first | omega | (simp <;> omega)) | (with_reducible refine spl (And.intro ?_ ?_) <;> intro _)) <;> ((try simp (implicitDefEqProofs := false)); (try simp (implicitDefEqProofs := false) (disch := first | assumption | (try simp only [lens]); omega -splitDisjunctions))))))
      refine CL.giv [3] ?_
      (((try simp (implicitDefEqProofs := false) [hli]); (try simp (implicitDefEqProofs := false) (disch := first | assumption | (try simp only [lens]); omega -splitDisjunctions) [hli])); all_goals try (repeat' ((first | ((with_reducible first | refine And.intro ?_ ?_ | refine Exists.intro ?_ ?_); first | omega | (simp <;> omega)) | (with_reducible refine spl (And.intro ?_ ?_) <;> intro _) | (refine CL.clo (hp) ?_) | (refine CM.clo (hp) ?_) | (refine CD.clo (hp) ?_) | (refine CL.clo (fault_truth 2 0) ?_) | (refine CM.clo (fault_truth 2 0) ?_) | (refine CD.clo (fault_truth 2 0) ?_)) <;> ((try simp (implicitDefEqProofs := false) [hli]); (try simp (implicitDefEqProofs := false) (disch := first | assumption | (try simp only [lens]); omega -splitDisjunctions) [hli])))))
    · have hli : ¬ (4 : Int) < (ns.length : Int) := by omega
      have hv0 : madeV f ns = match mdBad [] ns 0 with
        | some w => ([], w)
        | none => if subB (namesF f) ns = true then (rowsB ns f, (0, 0)) else ([], (6, 0)) := by unfold madeV; rw [if_neg (by simpa using h1), if_neg hl]
      generalize madeV f ns = V at *
      rw [hz] at hp
      have hpl := ((plainF_iff f).1 h1).1
      have hnn := NamesOf_formula f
      rw [show compL (sortL (varsL (nodesGo 200 200 [f]))) = namesF f from rfl] at hnn
      have hnl := namesF_len f
      clear hz h1
      (((try simp (implicitDefEqProofs := false)); (try simp (implicitDefEqProofs := false) (disch := first | assumption | (try simp only [lens]); omega -splitDisjunctions))); all_goals try (repeat' ((first | ((with_reducible first | refine And.intro ?_ ?_ | refine Exists.intro ?_ ?_); first | omega | (simp <;> omega)) | (with_reducible refine spl (And.intro ?_ ?_) <;> intro _)) <;> ((try simp (implicitDefEqProofs := false)); (try simp (implicitDefEqProofs := false) (disch := first | assumption | (try simp only [lens]); omega -splitDisjunctions))))))
      refine CL.giv [3] ?_
      (((try simp (implicitDefEqProofs := false) [hli]); (try simp (implicitDefEqProofs := false) (disch := first | assumption | (try simp only [lens]); omega -splitDisjunctions) [hli])); all_goals try (repeat' ((first | ((with_reducible first | refine And.intro ?_ ?_ | refine Exists.intro ?_ ?_); first | omega | (simp <;> omega)) | (with_reducible refine spl (And.intro ?_ ?_) <;> intro _) | (refine CL.clo (hp) ?_) | (refine CM.clo (hp) ?_) | (refine CD.clo (hp) ?_)) <;> ((try simp (implicitDefEqProofs := false) [hli]); (try simp (implicitDefEqProofs := false) (disch := first | assumption | (try simp only [lens]); omega -splitDisjunctions) [hli])))))
      refine W_of fun Q hQ => ?_
      have main : ∀ r i, i + r = ns.length → mdBad [] ns 0 = mdBad (ns.take i) (ns.drop i) i → Q [(1, .list (ns.map strRow)), (2, .ptr 0 0 0), (4, .ptr 1 0 0), (5, .ptr 2 0 0), (25, .list (ns.map strRow)), (26, .int .i64 (ns.length : Int)), (27, .int .i64 (i : Int))] [.rows 3 [frm f], .rows 2 [[.int .i64 0, .nilsl]], .rows 2 [[.int .i64 0, .int .i64 0]]] := by
        intro r
        induction r with
        | zero =>
          intro i hi hb
          rw [List.drop_of_length_le (by omega), mdBad] at hb
          have hnd := (mdBad_nodup _ _ _ hb).1
          rw [hb] at hv0
          dsimp only at hv0
          have hrm := rows_Made (ns.length : Int) ns hnd (by omega) f hpl
          have hbl : (rowsB ns f).length = 2 ^ ns.length := by simp [rowsB]
          rw [← hbl] at hrm
          generalize rowsB ns f = B at *
          generalize namesF f = M at *
          apply hQ
          clear hQ
          (((try simp (implicitDefEqProofs := false)); (try simp (implicitDefEqProofs := false) (disch := first | assumption | (try simp only [lens]); omega -splitDisjunctions))); all_goals try (repeat' ((first | ((with_reducible first | refine And.intro ?_ ?_ | refine Exists.intro ?_ ?_); first | omega | (simp <;> omega)) | (with_reducible refine spl (And.intro ?_ ?_) <;> intro _)) <;> ((try simp (implicitDefEqProofs := false)); (try simp (implicitDefEqProofs := false) (disch := first | assumption | (try simp only [lens]); omega -splitDisjunctions))))))
          refine CL.giv [3] ?_
          (((try simp (implicitDefEqProofs := false)); (try simp (implicitDefEqProofs := false) (disch := first | assumption | (try simp only [lens]); omega -splitDisjunctions))); all_goals try (repeat' ((first | ((with_reducible first | refine And.intro ?_ ?_ | refine Exists.intro ?_ ?_); first | omega | (simp <;> omega)) | (with_reducible refine spl (And.intro ?_ ?_) <;> intro _) | (refine CL.clo (hnn) ?_) | (refine CM.clo (hnn) ?_) | (refine CD.clo (hnn) ?_)) <;> ((try simp (implicitDefEqProofs := false)); (try simp (implicitDefEqProofs := false) (disch := first | assumption | (try simp only [lens]); omega -splitDisjunctions))))))
          refine W_of fun Q2 hQ2 => ?_
          have main2 : ∀ r j, j + r = M.length → subB M ns = subB (M.drop j) ns → Q2 [(1, .list (ns.map strRow)), (2, .ptr 0 0 0), (4, .ptr 1 0 0), (5, .ptr 2 0 0), (48, .list (M.map strRow)), (49, .int .i64 (M.length : Int)), (50, .int .i64 (j : Int))] [.rows 3 [frm f], .rows 2 [[.int .i64 0, .nilsl]], .rows 2 [[.int .i64 0, .int .i64 0]]] := by
            intro r
            induction r with
            | zero =>
              intro j hj hs
              rw [List.drop_of_length_le (by omega)] at hs
              rw [show subB M ns = true from hs, if_pos rfl] at hv0
              subst hv0
              apply hQ2
              clear hQ2
              (((try simp (implicitDefEqProofs := false)); (try simp (implicitDefEqProofs := false) (disch := first | assumption | (try simp only [lens]); omega -splitDisjunctions))); all_goals try (repeat' ((first | ((with_reducible first | refine And.intro ?_ ?_ | refine Exists.intro ?_ ?_); first | omega | (simp <;> omega)) | (with_reducible refine spl (And.intro ?_ ?_) <;> intro _)) <;> ((try simp (implicitDefEqProofs := false)); (try simp (implicitDefEqProofs := false) (disch := first | assumption | (try simp only [lens]); omega -splitDisjunctions))))))
              refine CL.sub [3, 0] (hc := by simpa using hrm) ?_
              (((try simp (implicitDefEqProofs := false)); (try simp (implicitDefEqProofs := false) (disch := first | assumption | (try simp only [lens]); omega -splitDisjunctions))); all_goals try (repeat' ((first | ((with_reducible first | refine And.intro ?_ ?_ | refine Exists.intro ?_ ?_); first | omega | (simp <;> omega)) | (with_reducible refine spl (And.intro ?_ ?_) <;> intro _)) <;> ((try simp (implicitDefEqProofs := false)); (try simp (implicitDefEqProofs := false) (disch := first | assumption | (try simp only [lens]); omega -splitDisjunctions))))))
            | succ r ih2 =>
              intro j hj hs
              have hjl : j < M.length := by omega
              have ih2 := ih2 (j + 1) (by omega)
              have hct := contains_strs ns M[j] []
              rw [has_mem] at hct
              rw [subB_drop hjl] at hs
              apply hQ2
              clear hQ2
              cases hx : memB M[j] ns with
              | false =>
                rw [hx] at hct
                rw [hx, Bool.false_and] at hs
                rw [hs, if_neg (by simp)] at hv0
                subst hv0
                (((try simp (implicitDefEqProofs := false) [hjl]); (try simp (implicitDefEqProofs := false) (disch := first | assumption | (try simp only [lens]); omega -splitDisjunctions) [hjl])); all_goals try (repeat' ((first | ((with_reducible first | refine And.intro ?_ ?_ | refine Exists.intro ?_ ?_); first | omega | (simp <;> omega)) | (with_reducible refine spl (And.intro ?_ ?_) <;> intro _) | (refine CL.clo (hct) ?_) | (refine CM.clo (hct) ?_) | (refine CD.clo (hct) ?_) | (refine CL.clo (fault_truth 6 0) ?_) | (refine CM.clo (fault_truth 6 0) ?_) | (refine CD.clo (fault_truth 6 0) ?_)) <;> ((try simp (implicitDefEqProofs := false) [hjl]); (try simp (implicitDefEqProofs := false) (disch := first | assumption | (try simp only [lens]); omega -splitDisjunctions) [hjl])))))
              | true =>
                rw [hx] at hct
                rw [hx, Bool.true_and] at hs
                have ih2 := ih2 hs
                (((try simp (implicitDefEqProofs := false) [hjl]); (try simp (implicitDefEqProofs := false) (disch := first | assumption | (try simp only [lens]); omega -splitDisjunctions) [hjl])); all_goals try (repeat' ((first | ((with_reducible first | refine And.intro ?_ ?_ | refine Exists.intro ?_ ?_); first | omega | (simp <;> omega)) | (with_reducible refine spl (And.intro ?_ ?_) <;> intro _) | (refine CL.clo (hct) ?_) | (refine CM.clo (hct) ?_) | (refine CD.clo (hct) ?_)) <;> ((try simp (implicitDefEqProofs := false) [hjl]); (try simp (implicitDefEqProofs := false) (disch := first | assumption | (try simp only [lens]); omega -splitDisjunctions) [hjl])))))
                all_goals first | exact ih2 | (refine at2 ih2 ?_ ?_ <;> simp; done) | (exfalso; first | omega | (simp_all; done) | (simp_all; omega))
          all_goals first | exact main2 _ 0 (Nat.zero_add _) rfl | (refine at2 main2 _ 0 (Nat.zero_add _) rfl ?_ ?_ <;> simp; done) | (exfalso; first | omega | (simp_all; done) | (simp_all; omega))
        | succ r ih =>
          intro i hi hb
          have hih : i < ns.length := by omega
          have ih := ih (i + 1) (by omega)
          have hn := isName_formula ns[i] []
          have hct := contains_strs (ns.take i) ns[i] []
          rw [has_mem, List.map_take] at hct
          rw [mdBad_drop hih] at hb
          apply hQ
          clear hQ
          cases hx : isNameB ns[i] with
          | false =>
            rw [hx] at hb hn
            rw [if_neg (by simp)] at hb
            rw [hb] at hv0
            dsimp only at hv0
            subst hv0
            (((try simp (implicitDefEqProofs := false) [hih]); (try simp (implicitDefEqProofs := false) (disch := first | assumption | (try simp only [lens]); omega -splitDisjunctions) [hih])); all_goals try (repeat' ((first | ((with_reducible first | refine And.intro ?_ ?_ | refine Exists.intro ?_ ?_); first | omega | (simp <;> omega)) | (with_reducible refine spl (And.intro ?_ ?_) <;> intro _) | (refine CL.clo (hn) ?_) | (refine CM.clo (hn) ?_) | (refine CD.clo (hn) ?_) | (refine CL.clo (fault_truth 8 _) ?_) | (refine CM.clo (fault_truth 8 _) ?_) | (refine CD.clo (fault_truth 8 _) ?_)) <;> ((try simp (implicitDefEqProofs := false) [hih]); (try simp (implicitDefEqProofs := false) (disch := first | assumption | (try simp only [lens]); omega -splitDisjunctions) [hih])))))
          | true =>
            rw [hx] at hb hn
            cases hy : memB ns[i] (ns.take i) with
            | true =>
              rw [hy] at hb hct
              rw [if_neg (by simp)] at hb
              rw [hb] at hv0
              dsimp only at hv0
              subst hv0
              (((try simp (implicitDefEqProofs := false) [hih]); (try simp (implicitDefEqProofs := false) (disch := first | assumption | (try simp only [lens]); omega -splitDisjunctions) [hih])); all_goals try (repeat' ((first | ((with_reducible first | refine And.intro ?_ ?_ | refine Exists.intro ?_ ?_); first | omega | (simp <;> omega)) | (with_reducible refine spl (And.intro ?_ ?_) <;> intro _) | (refine CL.clo (hn) ?_) | (refine CM.clo (hn) ?_) | (refine CD.clo (hn) ?_) | (refine CL.clo (hct) ?_) | (refine CM.clo (hct) ?_) | (refine CD.clo (hct) ?_) | (refine CL.clo (fault_truth 8 _) ?_) | (refine CM.clo (fault_truth 8 _) ?_) | (refine CD.clo (fault_truth 8 _) ?_)) <;> ((try simp (implicitDefEqProofs := false) [hih]); (try simp (implicitDefEqProofs := false) (disch := first | assumption | (try simp only [lens]); omega -splitDisjunctions) [hih])))))
            | false =>
              rw [hy] at hb hct
              rw [if_pos (by simp)] at hb
              have ih := ih hb
              (((try simp (implicitDefEqProofs := false) [hih]); (try simp (implicitDefEqProofs := false) (disch := first | assumption | (try simp only [lens]); omega -splitDisjunctions) [hih])); all_goals try (repeat' ((first | ((with_reducible first | refine And.intro ?_ ?_ | refine Exists.intro ?_ ?_); first | omega | (simp <;> omega)) | (with_reducible refine spl (And.intro ?_ ?_) <;> intro _) | (refine CL.clo (hn) ?_) | (refine CM.clo (hn) ?_) | (refine CD.clo (hn) ?_) | (refine CL.clo (hct) ?_) | (refine CM.clo (hct) ?_) | (refine CD.clo (hct) ?_)) <;> ((try simp (implicitDefEqProofs := false) [hih]); (try simp (implicitDefEqProofs := false) (disch := first | assumption | (try simp only [lens]); omega -splitDisjunctions) [hih])))))
              all_goals first | exact ih | (refine at2 ih ?_ ?_ <;> simp; done) | (exfalso; first | omega | (simp_all; done) | (simp_all; omega))
      all_goals first | exact main _ 0 (Nat.zero_add _) rfl | (refine at2 main _ 0 (Nat.zero_add _) rfl ?_ ?_ <;> simp; done) | (exfalso; first | omega | (simp_all; done) | (simp_all; omega))
  · rw [show madeV f ns = ([], plainF f) from by unfold madeV; rw [if_pos (by simpa using h1)]]
    generalize plainF f = w at *
    (((try simp (implicitDefEqProofs := false)); (try simp (implicitDefEqProofs := false) (disch := first | assumption | (try simp only [lens]); omega -splitDisjunctions))); all_goals try (repeat' ((first | ((with_reducible first | refine And.intro ?_ ?_ | refine Exists.intro ?_ ?_); first | omega | (simp <;> omega)) | (with_reducible refine spl (And.intro ?_ ?_) <;> intro _)) <;> ((try simp (implicitDefEqProofs := false)); (try simp (implicitDefEqProofs := false) (disch := first | assumption | (try simp only [lens]); omega -splitDisjunctions))))))
    refine CL.giv [3] ?_
    (((try simp (implicitDefEqProofs := false) [h1]); (try simp (implicitDefEqProofs := false) (disch := first | assumption | (try simp only [lens]); omega -splitDisjunctions) [h1])); all_goals try (repeat' ((first | ((with_reducible first | refine And.intro ?_ ?_ | refine Exists.intro ?_ ?_); first | omega | (simp <;> omega)) | (with_reducible refine spl (And.intro ?_ ?_) <;> intro _) | (refine CL.clo (hp) ?_) | (refine CM.clo (hp) ?_) | (refine CD.clo (hp) ?_)) <;> ((try simp (implicitDefEqProofs := false) [h1]); (try simp (implicitDefEqProofs := false) (disch := first | assumption | (try simp only [lens]); omega -splitDisjunctions) [h1])))))
end Go.Proofs.Ytbmpmmbcfabeeaa
