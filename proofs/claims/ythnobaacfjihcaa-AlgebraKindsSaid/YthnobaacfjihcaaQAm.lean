/-
  sequentref: AtMost.
-/
import Derived.Test.YthnobaacfjihcaaQAn
namespace Go.Proofs.Ythnobaacfjihcaa
open Go Go.Pv
set_option linter.unusedVariables false
set_option linter.unusedSimpArgs false
set_option maxRecDepth 100000
set_option maxHeartbeats 4000000

/-- the rows that are done -/
noncomputable def amT (E : List (Int × Int)) (n i : Nat) (cur : List Bool) : List (List Bool) := (List.range n).map fun u => if u < i then rowF n (leB E) u else if u = i then cur else []
@[simp] theorem amT_length {E : List (Int × Int)} {n i : Nat} {cur : List Bool} : (amT E n i cur).length = n := by simp [amT]
theorem amT_get {E : List (Int × Int)} {n i : Nat} {cur : List Bool} (h : i < (amT E n i cur).length) : (amT E n i cur)[i] = cur := by simp [amT]
theorem amT_set {E : List (Int × Int)} {n i : Nat} {cur cur' : List Bool} : (amT E n i cur).set i cur' = amT E n i cur' := by
  apply List.ext_getElem (by simp)
  intro u h1 h2
  rw [List.getElem_set]
  simp only [amT, List.getElem_map, List.getElem_range]
  by_cases e : i = u
  · subst e; simp
  · rw [if_neg e]
    by_cases h : u < i
    · rw [if_pos h, if_pos h]
    · rw [if_neg h, if_neg h, if_neg (fun g => e g.symm), if_neg (fun g => e g.symm)]
theorem amT_zero {E : List (Int × Int)} {n : Nat} : amT E n 0 [] = List.replicate n [] := by simp [amT, List.map_const']
theorem amT_all {E : List (Int × Int)} {n : Nat} : amT E n n [] = tabF n (leB E) := by
  unfold amT tabF
  apply List.map_congr_left
  intro u hu
  rw [if_pos (List.mem_range.1 hu)]; rfl
theorem amT_next {E : List (Int × Int)} {n i : Nat} : amT E n i (rowF n (leB E) i) = amT E n (i + 1) [] := by
  unfold amT
  apply List.map_congr_left
  intro u hu
  by_cases h : u < i
  · rw [if_pos h, if_pos (by omega)]
  · rw [if_neg h]
    by_cases e : u = i
    · subst e; rw [if_pos rfl, if_pos (by omega)]
    · rw [if_neg e, if_neg (by omega)]; simp
theorem amT_lens {E : List (Int × Int)} {n i : Nat} {cur cur' : List Bool} (h : cur.length = cur'.length) : (amT E n i cur).map List.length = (amT E n i cur').map List.length := by
  unfold amT
  rw [List.map_map, List.map_map]
  apply List.map_congr_left
  intro u hu
  simp only [Function.comp]
  by_cases h1 : u < i
  · rw [if_pos h1, if_pos h1]
  · rw [if_neg h1, if_neg h1]
    by_cases e : u = i
    · rw [if_pos e, if_pos e, h]
    · rw [if_neg e, if_neg e]
theorem amT_put {E : List (Int × Int)} {n i b : Nat} {cur : List Bool} {v : Bool} : ((amT E n i cur).map (List.map boolRow)).set i ((cur.map boolRow).set b [.bool v]) = (amT E n i (cur.set b v)).map (List.map boolRow) := by
  rw [← amT_set (cur := cur) (cur' := cur.set b v), List.map_set, List.map_set]; rfl
theorem amT_lset {E : List (Int × Int)} {n i k : Nat} {cur vis : List Bool} (h : vis.length = k) : ((amT E n i cur).map List.length).set i k = (amT E n i vis).map List.length := by
  rw [← amT_set (cur := cur) (cur' := vis), List.map_set, h]
theorem amT_rset {E : List (Int × Int)} {n i : Nat} {cur vis : List Bool} : ((amT E n i cur).map (List.map boolRow)).set i (vis.map boolRow) = (amT E n i vis).map (List.map boolRow) := by
  rw [← amT_set (cur := cur) (cur' := vis), List.map_set]
def x12_T3 : XC := .seq (.reg [⟨some 89,.move (.tmp 3),none⟩,⟨some 2,.assign (.tmp 89),none⟩]) (.ret)
def x12_L4 : XC := .seq (.seq (.reg [⟨some 39,.move (.tmp 7),none⟩,⟨some 40,.fieldAddr 24 (.tmp 1) 1,none⟩,⟨some 41,.load 22 (.tmp 40),none⟩,⟨some 42,.call ⟨.builtin .len,#[.tmp 41],#[22]⟩,none⟩,⟨some 43,.binOp .lss 3 (.tmp 39) (.tmp 42) 3,none⟩]) (.cond (.tmp 43) (.skip) (.exit 4))) (.seq (.block 5 (.seq (.drawn 14 [⟨some 46,.fieldAddr 24 (.tmp 1) 1,none⟩,⟨some 47,.load 22 (.tmp 46),none⟩,⟨some 48,.move (.tmp 7),none⟩,⟨some 49,.indexAddr 22 (.tmp 47) (.tmp 48),none⟩,⟨some 50,.indexAddr 29 (.tmp 49) (.const (.int .i64 0)),none⟩,⟨some 51,.load 3 (.tmp 50),none⟩,⟨some 52,.move (.tmp 6),none⟩,⟨some 53,.binOp .eql 3 (.tmp 51) (.tmp 52) 3,none⟩,⟨some 54,.move (.tmp 53),none⟩,⟨some 55,.move (.tmp 3),some (some 54,true)⟩,⟨some 56,.move (.tmp 4),some (some 54,true)⟩,⟨some 57,.indexAddr 39 (.tmp 55) (.tmp 56),some (some 54,true)⟩,⟨some 58,.load 41 (.tmp 57),some (some 54,true)⟩,⟨some 59,.fieldAddr 24 (.tmp 1) 1,some (some 54,true)⟩,⟨some 60,.load 22 (.tmp 59),some (some 54,true)⟩,⟨some 61,.move (.tmp 7),some (some 54,true)⟩,⟨some 62,.indexAddr 22 (.tmp 60) (.tmp 61),some (some 54,true)⟩,⟨some 63,.indexAddr 29 (.tmp 62) (.const (.int .i64 1)),some (some 54,true)⟩,⟨some 64,.load 3 (.tmp 63),some (some 54,true)⟩,⟨some 65,.indexAddr 41 (.tmp 58) (.tmp 64),some (some 54,true)⟩,⟨some 66,.load 4 (.tmp 65),some (some 54,true)⟩,⟨some 67,.unOp .not 4 (.tmp 66),some (some 54,true)⟩,⟨some 68,.pick (.tmp 54) (.tmp 67) (.const (.bool false)),none⟩]) (.cond (.tmp 68) (.seq (.drawn 15 [⟨some 69,.move (.tmp 3),none⟩,⟨some 70,.move (.tmp 4),none⟩,⟨some 71,.indexAddr 39 (.tmp 69) (.tmp 70),none⟩,⟨some 72,.load 41 (.tmp 71),none⟩,⟨some 73,.fieldAddr 24 (.tmp 1) 1,none⟩,⟨some 74,.load 22 (.tmp 73),none⟩,⟨some 75,.move (.tmp 7),none⟩,⟨some 76,.indexAddr 22 (.tmp 74) (.tmp 75),none⟩,⟨some 77,.indexAddr 29 (.tmp 76) (.const (.int .i64 1)),none⟩,⟨some 78,.load 3 (.tmp 77),none⟩,⟨some 79,.indexAddr 41 (.tmp 72) (.tmp 78),none⟩,⟨none,.store 4 (.tmp 79) (.const (.bool true)),none⟩]) (.reg [⟨some 80,.move (.tmp 5),none⟩,⟨some 81,.fieldAddr 24 (.tmp 1) 1,none⟩,⟨some 82,.load 22 (.tmp 81),none⟩,⟨some 83,.move (.tmp 7),none⟩,⟨some 84,.indexAddr 22 (.tmp 82) (.tmp 83),none⟩,⟨some 85,.indexAddr 29 (.tmp 84) (.const (.int .i64 1)),none⟩,⟨some 86,.load 3 (.tmp 85),none⟩,⟨some 87,.buildSlice 37 1 #[(0,.tmp 86)],none⟩,⟨some 88,.call ⟨.builtin .append,#[.tmp 80,.tmp 87],#[37,37]⟩,none⟩,⟨some 5,.assign (.tmp 88),none⟩])) (.skip)))) (.reg [⟨some 44,.move (.tmp 7),none⟩,⟨some 45,.binOp .add 3 (.tmp 44) (.const (.int .i64 1)) 3,none⟩,⟨some 7,.assign (.tmp 45),none⟩]))
def x12_L2 : XC := .seq (.seq (.reg [⟨some 31,.move (.tmp 5),none⟩,⟨some 32,.call ⟨.builtin .len,#[.tmp 31],#[37]⟩,none⟩,⟨some 33,.binOp .gtr 3 (.tmp 32) (.const (.int .i64 0)) 3,none⟩]) (.cond (.tmp 33) (.skip) (.exit 2))) (.block 3 (.seq (.reg [⟨some 34,.move (.tmp 5),none⟩,⟨some 35,.indexAddr 37 (.tmp 34) (.const (.int .i64 0)),none⟩,⟨some 36,.load 3 (.tmp 35),none⟩,⟨some 6,.assign (.tmp 36),none⟩]) (.seq (.reg [⟨some 37,.move (.tmp 5),none⟩,⟨some 38,.slice 37 (.tmp 37) (some (.const (.int .i64 1))) none none,none⟩,⟨some 5,.assign (.tmp 38),none⟩]) (.seq (.reg [⟨some 7,.assign (.const (.int .i64 0)),none⟩]) (.bloop 4 x12_L4)))))
def x12_L0 : XC := .seq (.seq (.reg [⟨some 11,.move (.tmp 4),none⟩,⟨some 12,.fieldAddr 24 (.tmp 1) 0,none⟩,⟨some 13,.load 3 (.tmp 12),none⟩,⟨some 14,.binOp .lss 3 (.tmp 11) (.tmp 13) 3,none⟩]) (.cond (.tmp 14) (.skip) (.exit 0))) (.seq (.block 1 (.seq (.reg [⟨some 17,.move (.tmp 3),none⟩,⟨some 18,.move (.tmp 4),none⟩,⟨some 19,.fieldAddr 24 (.tmp 1) 0,none⟩,⟨some 20,.load 3 (.tmp 19),none⟩,⟨some 21,.makeSlice 41 (.tmp 20) (.tmp 20),none⟩,⟨some 22,.indexAddr 39 (.tmp 17) (.tmp 18),none⟩,⟨none,.store 41 (.tmp 22) (.tmp 21),none⟩]) (.seq (.reg [⟨some 23,.move (.tmp 4),none⟩,⟨some 24,.buildSlice 37 1 #[(0,.tmp 23)],none⟩,⟨some 5,.assign (.tmp 24),none⟩]) (.seq (.reg [⟨some 25,.move (.tmp 3),none⟩,⟨some 26,.move (.tmp 4),none⟩,⟨some 27,.indexAddr 39 (.tmp 25) (.tmp 26),none⟩,⟨some 28,.load 41 (.tmp 27),none⟩,⟨some 29,.move (.tmp 4),none⟩,⟨some 30,.indexAddr 41 (.tmp 28) (.tmp 29),none⟩,⟨none,.store 4 (.tmp 30) (.const (.bool true)),none⟩]) (.bloop 2 x12_L2))))) (.reg [⟨some 15,.move (.tmp 4),none⟩,⟨some 16,.binOp .add 3 (.tmp 15) (.const (.int .i64 1)) 3,none⟩,⟨some 4,.assign (.tmp 16),none⟩]))
def x12 : XC := .seq (.reg [⟨some 1,.box 24 (.tmp 0),none⟩,⟨some 2,.assign (.const (.slice none 0 0)),none⟩]) (.seq (.reg [⟨some 8,.fieldAddr 24 (.tmp 1) 0,none⟩,⟨some 9,.load 3 (.tmp 8),none⟩,⟨some 10,.makeSlice 39 (.tmp 9) (.tmp 9),none⟩,⟨some 3,.assign (.tmp 10),none⟩]) (.seq (.seq (.reg [⟨some 4,.assign (.const (.int .i64 0)),none⟩]) (.bloop 0 x12_L0)) (x12_T3)))
@[simp] theorem x12_s {C : WC} {e : AE} {s : Store} {K : KS} : type_of% (@X_at C e s K _ _ x12_T3.eq_1) ∧ type_of% (@X_at C e s K _ _ x12_L4.eq_1) ∧ type_of% (@X_at C e s K _ _ x12_L2.eq_1) ∧ type_of% (@X_at C e s K _ _ x12_L0.eq_1) ∧ type_of% (@X_at C e s K _ _ x12.eq_1) := ⟨X_at x12_T3.eq_1, X_at x12_L4.eq_1, X_at x12_L2.eq_1, X_at x12_L0.eq_1, X_at x12.eq_1⟩
def an12 : Ann := ⟨[(14, .mix 19)], [(4, [(5, none, 1), (3, some 4000, 1)], [1, 3, 4, 5, 6, 7], [1, 3, 4, 5]), (2, [(5, none, 1), (3, some 4000, 1)], [1, 3, 4, 5], [1, 3, 4]), (0, [(3, some 4000, 1)], [1, 3, 4], [3])], []⟩
def cx12 (P : Program) (m : Nat) : WC := ⟨P, m, an12⟩
@[simp] theorem cx12_a {P : Program} {m : Nat} : (cx12 P m).P = P ∧ (cx12 P m).m = m ∧ (cx12 P m).A.clsOf 14 = .mix 19 ∧ (cx12 P m).A.clsOf 15 = .draw ∧ (cx12 P m).A.frzOf 14 = [] ∧ (cx12 P m).A.frzOf 15 = [] ∧ (cx12 P m).A.loopOf 4 = ([(5, none, 1), (3, some 4000, 1)], [1, 3, 4, 5, 6, 7], [1, 3, 4, 5]) ∧ (cx12 P m).A.loopOf 2 = ([(5, none, 1), (3, some 4000, 1)], [1, 3, 4, 5], [1, 3, 4]) ∧ (cx12 P m).A.loopOf 0 = ([(3, some 4000, 1)], [1, 3, 4], [3]) := ⟨rfl, rfl, rfl, rfl, rfl, rfl, rfl, rfl, rfl⟩
instance {P : Program} {m f : Nat} [h : EnT P f] : EnT (cx12 P m).P f := h
theorem chk12 : ∀ c, Try.f12.body = some c → chkC Try.f12.ntmps an12 c = true := by intro c h; obtain rfl := Option.some.inj h; decide +kernel
theorem op12 {args : List PV} {v : PV} (h : X (cx12 Try.prog 0) x12 (argsA 0 args) [] (.fin [.tmp 2] fun v1 s1 => deref s1 6 v1 = v)) (hl : args.length ≤ Try.f12.ntmps := by rw [Try.ntmps12]; simp) : CallOK Try.prog 12 args [] v [] :=
  callX (m := 0) (cx12 Try.prog 0) x12 rfl rfl (by kernel_rfl) Try.func12 rfl rfl hl mixed (chk12 _ rfl) (by rw [Try.results12]; exact h)

theorem AtMost_ref (o : Ord) (n : Nat) (hn : o.n = n) (h20 : n ≤ 20) (hE : ∀ p ∈ o.ps, 0 ≤ p.1 ∧ p.1 < n ∧ 0 ≤ p.2 ∧ p.2 < n) (h5 : o.ps.length ≤ 500) : CallOK Try.prog 12 [.agg (ord o)] [] (.list ((tabF n (leB o.ps)).map tabRowF)) [] := by
  obtain ⟨on, E⟩ := o
  simp only at hn hE h5
  subst hn
  refine op12 ?_
  simp only [ord]
  (((try simp (implicitDefEqProofs := false)); (try simp (implicitDefEqProofs := false) (disch := first | assumption | (try simp only [lens]); omega -splitDisjunctions))); all_goals try (repeat' ((first | ((with_reducible first | refine And.intro ?_ ?_ | refine Exists.intro ?_ ?_); first | omega | (simp <;> omega)) | (with_reducible refine spl (And.intro ?_ ?_) <;> intro _)) <;> ((try simp (implicitDefEqProofs := false)); (try simp (implicitDefEqProofs := false) (disch := first | assumption | (try simp only [lens]); omega -splitDisjunctions))))))
  refine HT_new (b := 2) (n := n) (ρ0 := [0, 1]) rfl rfl rfl rfl rfl (by simp) (by simp) (by simp) ?_
  simp
  refine W_of fun Q hQ => ?_
  have main : ∀ k i, i + k = n → Q [(1, .ptr 0 0 0), (3, .sl 1 0 n), (4, .int .i64 (i : Int))]
      (.rows 2 [[.int .i64 (n : Int), .list (E.map relRow)]] :: .rows 1 (tabRows 2 ((amT E n i []).map List.length)) :: tabObjs 1 ((amT E n i []).map (List.map boolRow))) := by
    intro k
    induction k with
    | zero =>
      intro i hi
      have e : i = n := by omega
      rw [e, amT_all]
      apply hQ
      (((try simp (implicitDefEqProofs := false)); (try simp (implicitDefEqProofs := false) (disch := first | assumption | (try simp only [lens]); omega -splitDisjunctions))); all_goals try (repeat' ((first | ((with_reducible first | refine And.intro ?_ ?_ | refine Exists.intro ?_ ?_); first | omega | (simp <;> omega)) | (with_reducible refine spl (And.intro ?_ ?_) <;> intro _)) <;> ((try simp (implicitDefEqProofs := false)); (try simp (implicitDefEqProofs := false) (disch := first | assumption | (try simp only [lens]); omega -splitDisjunctions))))))
      refine HT_keep0 (pre := [_, _]) (b := 2) (ρ0 := [1]) rfl rfl rfl rfl (by simp) flat_tab (by simp) (by simp) (by simp) ?_
      simp
      rw [deref_tab1' (g := boolRow), List.take_of_length_le (by simp)]
      rfl
    | succ k ih =>
      intro i hi
      have hin : i < n := by omega
      have ih := ih (i + 1) (by omega)
      apply hQ
      clear hQ
      (((try simp (implicitDefEqProofs := false) [hin]); (try simp (implicitDefEqProofs := false) (disch := first | assumption | (try simp only [lens]); omega -splitDisjunctions) [hin])); all_goals try (repeat' ((first | ((with_reducible first | refine And.intro ?_ ?_ | refine Exists.intro ?_ ?_); first | omega | (simp <;> omega)) | (with_reducible refine spl (And.intro ?_ ?_) <;> intro _)) <;> ((try simp (implicitDefEqProofs := false) [hin]); (try simp (implicitDefEqProofs := false) (disch := first | assumption | (try simp only [lens]); omega -splitDisjunctions) [hin])))))
      refine HT_put0 (pre := [_, _]) (b := 2) (ρ0 := [0, 1, n + 1 + 1 + 1]) (ys := ((List.replicate n false).set i true).map boolRow) rfl rfl rfl rfl (by simpa using hin) (by simp) (by simp; omega) (by simp [List.map_set]) flat_tab flat_rows (by simp) (by simp) (by simp; omega) ?_
      simp
      refine W_of fun Q2 hQ2 => ?_
      have fin : ∀ vis J, BInv E n i vis [] → Q2 [(1, .ptr 0 0 0), (3, .sl 1 0 n), (4, .int .i64 (i : Int)), (5, .sl 2 J.length 0)]
          (.rows 2 [[.int .i64 (n : Int), .list (E.map relRow)]] :: .rows 1 (tabRows 3 ((amT E n i vis).map List.length)) :: .rows 1 ((J ++ []).map numRow) :: tabObjs 1 ((amT E n i vis).map (List.map boolRow))) := by
        intro vis J I
        have hv := I.end
        apply hQ2
        (((try simp (implicitDefEqProofs := false)); (try simp (implicitDefEqProofs := false) (disch := first | assumption | (try simp only [lens]); omega -splitDisjunctions))); all_goals try (repeat' ((first | ((with_reducible first | refine And.intro ?_ ?_ | refine Exists.intro ?_ ?_); first | omega | (simp <;> omega)) | (with_reducible refine spl (And.intro ?_ ?_) <;> intro _)) <;> ((try simp (implicitDefEqProofs := false)); (try simp (implicitDefEqProofs := false) (disch := first | assumption | (try simp only [lens]); omega -splitDisjunctions))))))
        refine HT_keep0 (pre := [_, _, _]) (b := 3) (ρ0 := [0, 1]) rfl rfl rfl rfl (by simp) flat_tab (by simp) (by simp) (by simp) ?_
        (((try simp (implicitDefEqProofs := false) [hin]); (try simp (implicitDefEqProofs := false) (disch := first | assumption | (try simp only [lens]); omega -splitDisjunctions) [hin])); all_goals try (repeat' ((first | ((with_reducible first | refine And.intro ?_ ?_ | refine Exists.intro ?_ ?_); first | omega | (simp <;> omega)) | (with_reducible refine spl (And.intro ?_ ?_) <;> intro _)) <;> ((try simp (implicitDefEqProofs := false) [hin]); (try simp (implicitDefEqProofs := false) (disch := first | assumption | (try simp only [lens]); omega -splitDisjunctions) [hin])))))
        refine HT_keep0 (pre := [_, _]) (b := 2) (ρ0 := [0, 1]) rfl rfl rfl rfl (by simp) flat_tab (by simp) (by simp) (by simp) ?_
        rw [hv, show (List.range n).map (leB E i) = rowF n (leB E) i from rfl, amT_next]
        simpa using ih
      have main2 : ∀ N vis todo J, 2 * cntF vis + todo.length ≤ N → N ≤ 100 → BInv E n i vis todo → Q2 [(1, .ptr 0 0 0), (3, .sl 1 0 n), (4, .int .i64 (i : Int)), (5, .sl 2 J.length todo.length)]
          (.rows 2 [[.int .i64 (n : Int), .list (E.map relRow)]] :: .rows 1 (tabRows 3 ((amT E n i vis).map List.length)) :: .rows 1 ((J ++ todo).map numRow) :: tabObjs 1 ((amT E n i vis).map (List.map boolRow))) := by
        intro N
        induction N with
        | zero =>
          intro vis todo J hN hN1 I
          have : todo = [] := List.length_eq_zero_iff.1 (by omega)
          subst this
          exact fin vis J I
        | succ N ihN =>
          intro vis todo J hN hN1 I
          cases todo with
          | nil => exact fin vis J I
          | cons x rest =>
            obtain ⟨I2, hdec⟩ := I.next hE
            have hvn := I.len
            apply hQ2
            clear hQ2
            (((try simp (implicitDefEqProofs := false) [hin]); (try simp (implicitDefEqProofs := false) (disch := first | assumption | (try simp only [lens]); omega -splitDisjunctions) [hin])); all_goals try (repeat' ((first | ((with_reducible first | refine And.intro ?_ ?_ | refine Exists.intro ?_ ?_); first | omega | (simp <;> omega)) | (with_reducible refine spl (And.intro ?_ ?_) <;> intro _)) <;> ((try simp (implicitDefEqProofs := false) [hin]); (try simp (implicitDefEqProofs := false) (disch := first | assumption | (try simp only [lens]); omega -splitDisjunctions) [hin])))))
            refine HT_keep0 (pre := [_, _, _]) (b := 3) (ρ0 := [0, 1, 2]) rfl rfl rfl rfl (by simp) flat_tab (by simp) (by simp) (by simp) ?_
            simp
            refine W_of fun Q4 hQ4 => ?_
            have main4 : ∀ r k J, k + r = E.length → Q4 [(1, .ptr 0 0 0), (3, .sl 1 0 n), (4, .int .i64 (i : Int)), (5, .sl 2 J.length ((E.take k).foldl (bPut x) (vis, rest)).2.length), (6, .int .i64 (x : Int)), (7, .int .i64 (k : Int))]
                (.rows 2 [[.int .i64 (n : Int), .list (E.map relRow)]] :: .rows 1 (tabRows 3 ((amT E n i ((E.take k).foldl (bPut x) (vis, rest)).1).map List.length)) :: .rows 1 ((J ++ ((E.take k).foldl (bPut x) (vis, rest)).2).map numRow) :: tabObjs 1 ((amT E n i ((E.take k).foldl (bPut x) (vis, rest)).1).map (List.map boolRow))) := by
              intro r
              induction r with
              | zero =>
                intro k J hk
                rw [List.take_of_length_le (by omega)]
                have ihN := ihN _ _ J (by simp only [List.length_cons] at hN hdec; omega) (by omega) I2
                generalize E.foldl (bPut x) (vis, rest) = st at ihN ⊢
                apply hQ4
                (((try simp (implicitDefEqProofs := false)); (try simp (implicitDefEqProofs := false) (disch := first | assumption | (try simp only [lens]); omega -splitDisjunctions))); all_goals try (repeat' ((first | ((with_reducible first | refine And.intro ?_ ?_ | refine Exists.intro ?_ ?_); first | omega | (simp <;> omega)) | (with_reducible refine spl (And.intro ?_ ?_) <;> intro _)) <;> ((try simp (implicitDefEqProofs := false)); (try simp (implicitDefEqProofs := false) (disch := first | assumption | (try simp only [lens]); omega -splitDisjunctions))))))
                refine HT_keep0 (pre := [_, _, _]) (b := 3) (ρ0 := [0, 1, 2]) rfl rfl rfl rfl (by simp) flat_tab (by simp) (by simp) (by simp) ?_
                simp
                refine HT_keep0 (pre := [_, _, _]) (b := 3) (ρ0 := [0, 1, 2]) rfl rfl rfl rfl (by simp) flat_tab (by simp) (by simp) (by simp) ?_
                simpa using ihN
              | succ r ih4 =>
                intro k J hk
                have hkl : k < E.length := by omega
                have ih4 := fun J => ih4 (k + 1) J (by omega)
                simp only [take_snoc2 hkl, List.foldl_append, List.foldl_cons, List.foldl_nil] at ih4
                have B := bPut_all x (E.take k) vis rest (fun p hp => (hE p (List.mem_of_mem_take hp)).2.2.1)
                obtain ⟨t, ht, _, hcc⟩ := B.more
                have hlen := B.len
                obtain ⟨p1, p2, p3, p4⟩ := hE E[k] (List.getElem_mem hkl)
                obtain ⟨a, ha⟩ : ∃ a : Nat, E[k].1 = a := ⟨E[k].1.toNat, by omega⟩
                obtain ⟨b, hb⟩ : ∃ b : Nat, E[k].2 = b := ⟨E[k].2.toNat, by omega⟩
                have hbn : b < n := by omega
                have htl : ((E.take k).foldl (bPut x) (vis, rest)).2.length ≤ 400 := by
                  rw [ht]; simp only [List.length_append, List.length_cons] at hN ⊢; omega
                generalize (E.take k).foldl (bPut x) (vis, rest) = st at ih4 hlen htl ⊢
                obtain ⟨vs, td⟩ := st
                simp only at hlen htl ih4 ⊢
                have hvl : vs.length = n := by omega
                have hbl : b < vs.length := by omega
                have hst : bPut x (vs, td) E[k] = if a = x ∧ vs[b] = false then (vs.set b true, td ++ [b]) else (vs, td) := by
                  unfold bPut
                  rw [ha, hb, Int.toNat_natCast, List.getElem?_eq_getElem hbl]
                  simp only [Int.natCast_inj, Option.some.injEq]
                rw [hst] at ih4
                have hap : ∀ (L : List Bool) (o : PObj), (tabObjs 1 (List.map (List.map boolRow) (amT E n i L)) ++ [o])[n]? = some o := by
                  intro L o
                  rw [List.getElem?_append_right (by simp)]; simp
                have htd : List.take td.length (List.drop J.length (J.map numRow ++ td.map numRow)) = td.map numRow := by
                  rw [List.drop_left' (by simp), List.take_of_length_le (by simp)]
                have hgs : (amT E n i vs)[i]? = some vs := by rw [List.getElem?_eq_getElem (by simpa using hin), amT_get]
                apply hQ4
                clear hQ4
                by_cases hax : a = x
                · cases hvb : vs[b] with
                  | false =>
                    rw [if_pos ⟨hax, hvb⟩] at ih4
                    have ih4 := ih4 []
                    (((try simp (implicitDefEqProofs := false) [hin, hkl, ha, hb, hax, hbl, hvb, hgs, hap, amT_get, amT_put, hvl, hbn]); (try simp (implicitDefEqProofs := false) (disch := first | assumption | (try simp only [lens]); omega -splitDisjunctions) [hin, hkl, ha, hb, hax, hbl, hvb, hgs, hap, amT_get, amT_put, hvl, hbn])); all_goals try (repeat' ((first | ((with_reducible first | refine And.intro ?_ ?_ | refine Exists.intro ?_ ?_); first | omega | (simp <;> omega)) | (with_reducible refine spl (And.intro ?_ ?_) <;> intro _)) <;> ((try simp (implicitDefEqProofs := false) [hin, hkl, ha, hb, hax, hbl, hvb, hgs, hap, amT_get, amT_put, hvl, hbn]); (try simp (implicitDefEqProofs := false) (disch := first | assumption | (try simp only [lens]); omega -splitDisjunctions) [hin, hkl, ha, hb, hax, hbl, hvb, hgs, hap, amT_get, amT_put, hvl, hbn])))))
                    refine HT_keep (pre := [_, _, _]) (post := [_, _]) (b := 3) (ρ0 := [0, 1, n + 1 + 1 + 1 + 1]) rfl rfl rfl rfl (by simp) flat_tab (by simp) (by simp) (by simp; omega) ?_
                    rw [amT_lens (cur := vs.set b true) (cur' := vs) (by simp)] at ih4
                    simp [htd]
                    simpa using ih4
                  | true =>
                    rw [if_neg (by simp [hvb])] at ih4
                    have ih4 := ih4 J
                    (((try simp (implicitDefEqProofs := false) [hin, hkl, ha, hb, hax, hbl, hvb, hgs, amT_get, hvl, hbn]); (try simp (implicitDefEqProofs := false) (disch := first | assumption | (try simp only [lens]); omega -splitDisjunctions) [hin, hkl, ha, hb, hax, hbl, hvb, hgs, amT_get, hvl, hbn])); all_goals try (repeat' ((first | ((with_reducible first | refine And.intro ?_ ?_ | refine Exists.intro ?_ ?_); first | omega | (simp <;> omega)) | (with_reducible refine spl (And.intro ?_ ?_) <;> intro _)) <;> ((try simp (implicitDefEqProofs := false) [hin, hkl, ha, hb, hax, hbl, hvb, hgs, amT_get, hvl, hbn]); (try simp (implicitDefEqProofs := false) (disch := first | assumption | (try simp only [lens]); omega -splitDisjunctions) [hin, hkl, ha, hb, hax, hbl, hvb, hgs, amT_get, hvl, hbn])))))
                    refine HT_keep0 (pre := [_, _, _]) (b := 3) (ρ0 := [0, 1, 2]) rfl rfl rfl rfl (by simp) flat_tab (by simp) (by simp) (by simp) ?_
                    simpa using ih4
                · rw [if_neg (fun h => hax h.1)] at ih4
                  have ih4 := ih4 J
                  have hai : ¬ ((a : Int) = (x : Int)) := by omega
                  (((try simp (implicitDefEqProofs := false) [hin, hkl, ha, hb, hai]); (try simp (implicitDefEqProofs := false) (disch := first | assumption | (try simp only [lens]); omega -splitDisjunctions) [hin, hkl, ha, hb, hai])); all_goals try (repeat' ((first | ((with_reducible first | refine And.intro ?_ ?_ | refine Exists.intro ?_ ?_); first | omega | (simp <;> omega)) | (with_reducible refine spl (And.intro ?_ ?_) <;> intro _)) <;> ((try simp (implicitDefEqProofs := false) [hin, hkl, ha, hb, hai]); (try simp (implicitDefEqProofs := false) (disch := first | assumption | (try simp only [lens]); omega -splitDisjunctions) [hin, hkl, ha, hb, hai])))))
                  all_goals try (exfalso; omega)
                  all_goals refine HT_keep0 (pre := [_, _, _]) (b := 3) (ρ0 := [0, 1, 2]) rfl rfl rfl rfl (by simp) flat_tab (by simp) (by simp) (by simp) ?_
                  all_goals simpa using ih4
            have m4 := main4 E.length 0 (J ++ [x]) (by omega)
            simpa using m4
      have hv0 : ((List.replicate n false).set i true).length = n := by simp
      have I0 : BInv E n i ((List.replicate n false).set i true) [i] := by
        refine ⟨by simp, by simp [hin], fun v hv => ?_, fun v hv => ?_, fun v hv hnot w hw => ?_⟩
        · by_cases e : i = v
          · subst e; exact .refl _
          · rw [List.getElem?_set, if_neg e, List.getElem?_replicate] at hv
            split at hv <;> cases hv
        · rw [List.mem_singleton] at hv; subst hv; simp [hin]
        · by_cases e : i = v
          · exact absurd (by simp [e]) hnot
          · rw [List.getElem?_set, if_neg e, List.getElem?_replicate] at hv
            split at hv <;> cases hv
      have hc0 : cntF ((List.replicate n false).set i true) ≤ 20 := Nat.le_trans List.countP_le_length (by simp; omega)
      have m2 := main2 100 _ [i] [] (by simp; omega) (by omega) I0
      rw [← amT_lset (cur := []) hv0, ← amT_rset (cur := [])] at m2
      simpa [List.map_set] using m2
  refine at2 (main _ 0 (Nat.zero_add _)) ?_ ?_ <;> simp [amT_zero]
end Go.Proofs.Ythnobaacfjihcaa
