/-
  algebra.newTable.
-/
import Derived.Test.YthnobaacfjihcaaQAt
import Derived.Test.YthnobaacfjihcaaTy
namespace Go.Proofs.Ythnobaacfjihcaa
open Go Go.Pv
set_option linter.unusedVariables false
set_option linter.unusedSimpArgs false
set_option maxRecDepth 100000
set_option maxHeartbeats 4000000

theorem take_snoc2 {α : Type} {l : List α} {i : Nat} (h : i < l.length) : l.take (i + 1) = l.take i ++ [l[i]] := by
  rw [List.take_add_one, List.getElem?_eq_getElem h]; rfl
/-- the table's rows as they are made -/
def iniT (n i : Nat) : List (List Bool) := (List.range n).map fun u => if u < i then (List.range n).map fun v => decide (u = v) else []
@[simp] theorem iniT_length {n i : Nat} : (iniT n i).length = n := by simp [iniT]
theorem iniT_zero {n : Nat} : iniT n 0 = List.replicate n [] := by simp [iniT, List.map_const']
theorem iniT_all {n : Nat} {E : List (Int × Int)} : iniT n n = tabF n (fun u v => decide (u = v)) := by
  unfold iniT tabF
  apply List.map_congr_left
  intro u hu
  rw [if_pos (List.mem_range.1 hu)]
theorem iniT_next {n i : Nat} (hi : i < n) : (iniT n i).set i ((List.replicate n false).set i true) = iniT n (i + 1) := by
  apply List.ext_getElem (by simp)
  intro u h1 h2
  rw [List.getElem_set]
  simp only [iniT, List.getElem_map, List.getElem_range]
  by_cases e : i = u
  · subst e
    rw [if_pos rfl, if_pos (by omega)]
    apply List.ext_getElem (by simp)
    intro v h3 h4
    rw [List.getElem_set]
    simp only [List.getElem_map, List.getElem_range]
    by_cases e2 : i = v
    · subst e2; simp
    · simp [e2]
  · rw [if_neg e]
    by_cases h : u < i
    · rw [if_pos h, if_pos (by omega)]
    · rw [if_neg h, if_neg (by omega)]
/-- so many pairs laid in -/
def memT (E : List (Int × Int)) (u v : Nat) : Bool := decide (u = v) || decide (((u : Int), (v : Int)) ∈ E)
theorem memT_next {E : List (Int × Int)} {a b : Nat} {p : Int × Int} (h : p = ((a : Int), (b : Int))) : updF (memT E) a b true = memT (E ++ [p]) := by
  funext u v
  unfold updF memT
  subst h
  by_cases e : u = a ∧ v = b
  · obtain ⟨rfl, rfl⟩ := e; simp
  · rw [if_neg e]
    congr 1
    rw [decide_eq_decide, List.mem_append, List.mem_singleton, Prod.mk.injEq]
    constructor
    · exact .inl
    · rintro (h | h)
      · exact h
      · exfalso; apply e; omega
def x26_T7 : XC := .seq (.reg [⟨some 96,.move (.tmp 3),none⟩,⟨some 2,.assign (.tmp 96),none⟩]) (.ret)
def x26_L8 : XC := .seq (.reg [⟨some 60,.binOp .lss 3 (.tmp 59) (.tmp 58) 3,none⟩]) (.seq (.cond (.tmp 60) (.skip) (.exit 8)) (.seq (.block 9 (.seq (.reg [⟨some 61,.move (.tmp 59),none⟩,⟨some 9,.assign (.tmp 61),none⟩]) (.drawn 22 [⟨some 62,.move (.tmp 3),none⟩,⟨some 63,.move (.tmp 8),none⟩,⟨some 64,.indexAddr 59 (.tmp 62) (.tmp 63),none⟩,⟨some 65,.load 41 (.tmp 64),none⟩,⟨some 66,.move (.tmp 9),none⟩,⟨some 67,.move (.tmp 3),none⟩,⟨some 68,.move (.tmp 8),none⟩,⟨some 69,.indexAddr 59 (.tmp 67) (.tmp 68),none⟩,⟨some 70,.load 41 (.tmp 69),none⟩,⟨some 71,.move (.tmp 9),none⟩,⟨some 72,.indexAddr 41 (.tmp 70) (.tmp 71),none⟩,⟨some 73,.load 4 (.tmp 72),none⟩,⟨some 74,.move (.tmp 73),none⟩,⟨some 75,.move (.tmp 3),some (some 74,false)⟩,⟨some 76,.move (.tmp 8),some (some 74,false)⟩,⟨some 77,.indexAddr 59 (.tmp 75) (.tmp 76),some (some 74,false)⟩,⟨some 78,.load 41 (.tmp 77),some (some 74,false)⟩,⟨some 79,.move (.tmp 7),some (some 74,false)⟩,⟨some 80,.indexAddr 41 (.tmp 78) (.tmp 79),some (some 74,false)⟩,⟨some 81,.load 4 (.tmp 80),some (some 74,false)⟩,⟨some 82,.move (.tmp 81),some (some 74,false)⟩,⟨some 83,.move (.tmp 3),some (some 82,true)⟩,⟨some 84,.move (.tmp 7),some (some 82,true)⟩,⟨some 85,.indexAddr 59 (.tmp 83) (.tmp 84),some (some 82,true)⟩,⟨some 86,.load 41 (.tmp 85),some (some 82,true)⟩,⟨some 87,.move (.tmp 9),some (some 82,true)⟩,⟨some 88,.indexAddr 41 (.tmp 86) (.tmp 87),some (some 82,true)⟩,⟨some 89,.load 4 (.tmp 88),some (some 82,true)⟩,⟨some 90,.pick (.tmp 82) (.tmp 89) (.const (.bool false)),some (some 74,false)⟩,⟨some 91,.pick (.tmp 74) (.const (.bool true)) (.tmp 90),none⟩,⟨some 92,.indexAddr 41 (.tmp 65) (.tmp 66),none⟩,⟨none,.store 4 (.tmp 92) (.tmp 91),none⟩]))) (.reg [⟨some 93,.binOp .add 3 (.tmp 59) (.const (.int .i64 1)) 3,none⟩,⟨some 59,.move (.tmp 93),none⟩])))
def x26_L6 : XC := .seq (.reg [⟨some 55,.binOp .lss 3 (.tmp 54) (.tmp 53) 3,none⟩]) (.seq (.cond (.tmp 55) (.skip) (.exit 6)) (.seq (.block 7 (.seq (.reg [⟨some 56,.move (.tmp 54),none⟩,⟨some 8,.assign (.tmp 56),none⟩]) (.seq (.reg [⟨some 57,.move (.tmp 3),none⟩,⟨some 58,.call ⟨.builtin .len,#[.tmp 57],#[59]⟩,none⟩,⟨some 59,.move (.const (.int .i64 0)),none⟩]) (.bloop 8 x26_L8)))) (.reg [⟨some 94,.binOp .add 3 (.tmp 54) (.const (.int .i64 1)) 3,none⟩,⟨some 54,.move (.tmp 94),none⟩])))
def x26_L4 : XC := .seq (.reg [⟨some 50,.binOp .lss 3 (.tmp 49) (.tmp 48) 3,none⟩]) (.seq (.cond (.tmp 50) (.skip) (.exit 4)) (.seq (.block 5 (.seq (.reg [⟨some 51,.move (.tmp 49),none⟩,⟨some 7,.assign (.tmp 51),none⟩]) (.seq (.reg [⟨some 52,.move (.tmp 3),none⟩,⟨some 53,.call ⟨.builtin .len,#[.tmp 52],#[59]⟩,none⟩,⟨some 54,.move (.const (.int .i64 0)),none⟩]) (.bloop 6 x26_L6)))) (.reg [⟨some 95,.binOp .add 3 (.tmp 49) (.const (.int .i64 1)) 3,none⟩,⟨some 49,.move (.tmp 95),none⟩])))
def x26_T3 : XC := .seq (.seq (.reg [⟨some 47,.move (.tmp 3),none⟩,⟨some 48,.call ⟨.builtin .len,#[.tmp 47],#[59]⟩,none⟩,⟨some 49,.move (.const (.int .i64 0)),none⟩]) (.bloop 4 x26_L4)) (x26_T7)
def x26_L2 : XC := .seq (.reg [⟨some 35,.binOp .lss 3 (.tmp 34) (.tmp 33) 3,none⟩]) (.seq (.cond (.tmp 35) (.skip) (.exit 2)) (.seq (.block 3 (.seq (.reg [⟨some 36,.indexAddr 22 (.tmp 32) (.tmp 34),none⟩,⟨some 37,.load 29 (.tmp 36),none⟩,⟨some 6,.alloc 29,none⟩,⟨none,.store 29 (.tmp 6) (.tmp 37),none⟩]) (.drawn 11 [⟨some 38,.move (.tmp 3),none⟩,⟨some 39,.indexAddr 29 (.tmp 6) (.const (.int .i64 0)),none⟩,⟨some 40,.load 3 (.tmp 39),none⟩,⟨some 41,.indexAddr 59 (.tmp 38) (.tmp 40),none⟩,⟨some 42,.load 41 (.tmp 41),none⟩,⟨some 43,.indexAddr 29 (.tmp 6) (.const (.int .i64 1)),none⟩,⟨some 44,.load 3 (.tmp 43),none⟩,⟨some 45,.indexAddr 41 (.tmp 42) (.tmp 44),none⟩,⟨none,.store 4 (.tmp 45) (.const (.bool true)),none⟩]))) (.reg [⟨some 46,.binOp .add 3 (.tmp 34) (.const (.int .i64 1)) 3,none⟩,⟨some 34,.move (.tmp 46),none⟩])))
def x26_T1 : XC := .seq (.seq (.reg [⟨some 31,.fieldAddr 24 (.tmp 1) 1,none⟩,⟨some 32,.load 22 (.tmp 31),none⟩,⟨some 33,.call ⟨.builtin .len,#[.tmp 32],#[22]⟩,none⟩,⟨some 34,.move (.const (.int .i64 0)),none⟩]) (.bloop 2 x26_L2)) (x26_T3)
def x26_L0 : XC := .seq (.reg [⟨some 16,.binOp .lss 3 (.tmp 15) (.tmp 14) 3,none⟩]) (.seq (.cond (.tmp 16) (.skip) (.exit 0)) (.seq (.block 1 (.seq (.reg [⟨some 17,.move (.tmp 15),none⟩,⟨some 4,.assign (.tmp 17),none⟩]) (.seq (.reg [⟨some 18,.move (.tmp 3),none⟩,⟨some 19,.move (.tmp 4),none⟩,⟨some 20,.fieldAddr 24 (.tmp 1) 0,none⟩,⟨some 21,.load 3 (.tmp 20),none⟩,⟨some 22,.makeSlice 41 (.tmp 21) (.tmp 21),none⟩,⟨some 23,.indexAddr 59 (.tmp 18) (.tmp 19),none⟩,⟨none,.store 41 (.tmp 23) (.tmp 22),none⟩]) (.reg [⟨some 24,.move (.tmp 3),none⟩,⟨some 25,.move (.tmp 4),none⟩,⟨some 26,.indexAddr 59 (.tmp 24) (.tmp 25),none⟩,⟨some 27,.load 41 (.tmp 26),none⟩,⟨some 28,.move (.tmp 4),none⟩,⟨some 29,.indexAddr 41 (.tmp 27) (.tmp 28),none⟩,⟨none,.store 4 (.tmp 29) (.const (.bool true)),none⟩])))) (.reg [⟨some 30,.binOp .add 3 (.tmp 15) (.const (.int .i64 1)) 3,none⟩,⟨some 15,.move (.tmp 30),none⟩])))
def x26 : XC := .seq (.reg [⟨some 1,.box 24 (.tmp 0),none⟩,⟨some 2,.assign (.const (.slice none 0 0)),none⟩]) (.seq (.reg [⟨some 10,.fieldAddr 24 (.tmp 1) 0,none⟩,⟨some 11,.load 3 (.tmp 10),none⟩,⟨some 12,.makeSlice 59 (.tmp 11) (.tmp 11),none⟩,⟨some 3,.assign (.tmp 12),none⟩]) (.seq (.seq (.reg [⟨some 13,.move (.tmp 3),none⟩,⟨some 14,.call ⟨.builtin .len,#[.tmp 13],#[59]⟩,none⟩,⟨some 15,.move (.const (.int .i64 0)),none⟩]) (.bloop 0 x26_L0)) (x26_T1)))
@[simp] theorem x26_s {C : WC} {e : AE} {s : Store} {K : KS} : type_of% (@X_at C e s K _ _ x26_T7.eq_1) ∧ type_of% (@X_at C e s K _ _ x26_L8.eq_1) ∧ type_of% (@X_at C e s K _ _ x26_L6.eq_1) ∧ type_of% (@X_at C e s K _ _ x26_L4.eq_1) ∧ type_of% (@X_at C e s K _ _ x26_T3.eq_1) ∧ type_of% (@X_at C e s K _ _ x26_L2.eq_1) ∧ type_of% (@X_at C e s K _ _ x26_T1.eq_1) ∧ type_of% (@X_at C e s K _ _ x26_L0.eq_1) ∧ type_of% (@X_at C e s K _ _ x26.eq_1) := ⟨X_at x26_T7.eq_1, X_at x26_L8.eq_1, X_at x26_L6.eq_1, X_at x26_L4.eq_1, X_at x26_T3.eq_1, X_at x26_L2.eq_1, X_at x26_T1.eq_1, X_at x26_L0.eq_1, X_at x26.eq_1⟩
def an26 : Ann := ⟨[(22, .mix 30)], [(8, [(3, some 4000, 1)], [3, 7, 8, 48, 49, 53, 54, 58, 59], [3, 7, 48, 49, 53, 54]), (6, [(3, some 4000, 1)], [3, 7, 48, 49, 53, 54], [3, 48, 49]), (4, [(3, some 4000, 1)], [3, 48, 49], [3]), (2, [(3, some 4000, 1)], [3, 32, 33, 34], [3]), (0, [(3, some 4000, 1)], [1, 3, 14, 15], [1, 3])], []⟩
def cx26 (P : Program) (m : Nat) : WC := ⟨P, m, an26⟩
@[simp] theorem cx26_a {P : Program} {m : Nat} : (cx26 P m).P = P ∧ (cx26 P m).m = m ∧ (cx26 P m).A.clsOf 11 = .draw ∧ (cx26 P m).A.clsOf 22 = .mix 30 ∧ (cx26 P m).A.frzOf 11 = [] ∧ (cx26 P m).A.frzOf 22 = [] ∧ (cx26 P m).A.loopOf 8 = ([(3, some 4000, 1)], [3, 7, 8, 48, 49, 53, 54, 58, 59], [3, 7, 48, 49, 53, 54]) ∧ (cx26 P m).A.loopOf 6 = ([(3, some 4000, 1)], [3, 7, 48, 49, 53, 54], [3, 48, 49]) ∧ (cx26 P m).A.loopOf 4 = ([(3, some 4000, 1)], [3, 48, 49], [3]) ∧ (cx26 P m).A.loopOf 2 = ([(3, some 4000, 1)], [3, 32, 33, 34], [3]) ∧ (cx26 P m).A.loopOf 0 = ([(3, some 4000, 1)], [1, 3, 14, 15], [1, 3]) := ⟨rfl, rfl, rfl, rfl, rfl, rfl, rfl, rfl, rfl, rfl, rfl⟩
instance {P : Program} {m f : Nat} [h : EnT P f] : EnT (cx26 P m).P f := h
theorem chk26 : ∀ c, Try.f26.body = some c → chkC Try.f26.ntmps an26 c = true := by intro c h; obtain rfl := Option.some.inj h; decide +kernel
theorem op26 {args : List PV} {v : PV} (h : X (cx26 Try.prog 0) x26 (argsA 0 args) [] (.fin [.tmp 2] fun v1 s1 => deref s1 6 v1 = v)) (hl : args.length ≤ Try.f26.ntmps := by rw [Try.ntmps26]; simp) : CallOK Try.prog 26 args [] v [] :=
  callX (m := 0) (cx26 Try.prog 0) x26 rfl rfl (by kernel_rfl) Try.func26 rfl rfl hl mixed (chk26 _ rfl) (by rw [Try.results26]; exact h)

theorem newTable_algebra (o : Ord) (n : Nat) (hn : o.n = n) (h20 : n ≤ 20) (hE : ∀ p ∈ o.ps, 0 ≤ p.1 ∧ p.1 < n ∧ 0 ≤ p.2 ∧ p.2 < n) : CallOK Try.prog 26 [.agg (ord o)] [] (.list ((tabF n (leB o.ps)).map tabRowF)) [] := by
  obtain ⟨on, E⟩ := o
  simp only at hn hE
  subst hn
  refine op26 ?_
  simp only [ord]
  (((try simp (implicitDefEqProofs := false)); (try simp (implicitDefEqProofs := false) (disch := first | assumption | (try simp only [lens]); omega -splitDisjunctions))); all_goals try (repeat' ((first | ((with_reducible first | refine And.intro ?_ ?_ | refine Exists.intro ?_ ?_); first | omega | (simp <;> omega)) | (with_reducible refine spl (And.intro ?_ ?_) <;> intro _)) <;> ((try simp (implicitDefEqProofs := false)); (try simp (implicitDefEqProofs := false) (disch := first | assumption | (try simp only [lens]); omega -splitDisjunctions))))))
  refine HT_new (b := 2) (n := n) (ρ0 := [0, 1]) rfl rfl rfl rfl rfl (by simp) (by simp) (by simp) ?_
  simp
  refine W_of fun Q hQ => ?_
  have main : ∀ k i, i + k = n → Q [(1, .ptr 0 0 0), (3, .sl 1 0 n), (14, .int .i64 (n : Int)), (15, .int .i64 (i : Int))]
      (.rows 2 [[.int .i64 (n : Int), .list (E.map relRow)]] :: .rows 1 (tabRows 2 ((iniT n i).map List.length)) :: tabObjs 1 ((iniT n i).map (List.map boolRow))) := by
    intro k
    induction k with
    | zero =>
      intro i hi
      have e : i = n := by omega
      rw [e, iniT_all (E := E)]
      apply hQ
      (((try simp (implicitDefEqProofs := false)); (try simp (implicitDefEqProofs := false) (disch := first | assumption | (try simp only [lens]); omega -splitDisjunctions))); all_goals try (repeat' ((first | ((with_reducible first | refine And.intro ?_ ?_ | refine Exists.intro ?_ ?_); first | omega | (simp <;> omega)) | (with_reducible refine spl (And.intro ?_ ?_) <;> intro _)) <;> ((try simp (implicitDefEqProofs := false)); (try simp (implicitDefEqProofs := false) (disch := first | assumption | (try simp only [lens]); omega -splitDisjunctions))))))
      refine HT_keep0 (pre := [_, _]) (b := 2) (ρ0 := [0, 1]) rfl rfl rfl rfl (by simp) flat_tab (by simp) (by simp) (by simp) ?_
      (((try simp (implicitDefEqProofs := false)); (try simp (implicitDefEqProofs := false) (disch := first | assumption | (try simp only [lens]); omega -splitDisjunctions))); all_goals try (repeat' ((first | ((with_reducible first | refine And.intro ?_ ?_ | refine Exists.intro ?_ ?_); first | omega | (simp <;> omega)) | (with_reducible refine spl (And.intro ?_ ?_) <;> intro _)) <;> ((try simp (implicitDefEqProofs := false)); (try simp (implicitDefEqProofs := false) (disch := first | assumption | (try simp only [lens]); omega -splitDisjunctions))))))
      refine HT_keep0 (pre := [_, _]) (b := 2) (ρ0 := [1]) rfl rfl rfl rfl (by simp) flat_tab (by simp) (by simp) (by simp) ?_
      simp
      refine W_of fun Q2 hQ2 => ?_
      have hm0 : (fun u v : Nat => decide (u = v)) = memT [] := by funext u v; simp [memT]
      rw [hm0]
      have main2 : ∀ k j, j + k = E.length → Q2 [(3, .sl 0 0 n), (32, .list (E.map relRow)), (33, .int .i64 (E.length : Int)), (34, .int .i64 (j : Int))]
          (.rows 1 (tabRows 1 (List.replicate n n)) :: tabObjs 1 ((tabF n (memT (E.take j))).map (List.map boolRow))) := by
        intro k
        induction k with
        | zero =>
          intro j hj
          have hw0 : tabF n (memT E) = tabF n (wsh E 0) := rfl
          rw [List.take_of_length_le (by omega), hw0]
          apply hQ2
          (((try simp (implicitDefEqProofs := false)); (try simp (implicitDefEqProofs := false) (disch := first | assumption | (try simp only [lens]); omega -splitDisjunctions))); all_goals try (repeat' ((first | ((with_reducible first | refine And.intro ?_ ?_ | refine Exists.intro ?_ ?_); first | omega | (simp <;> omega)) | (with_reducible refine spl (And.intro ?_ ?_) <;> intro _)) <;> ((try simp (implicitDefEqProofs := false)); (try simp (implicitDefEqProofs := false) (disch := first | assumption | (try simp only [lens]); omega -splitDisjunctions))))))
          refine HT_keep0 (pre := [_]) (b := 1) (ρ0 := [0]) rfl rfl rfl rfl (by simp) flat_tab (by simp) (by simp) (by simp) ?_
          (((try simp (implicitDefEqProofs := false)); (try simp (implicitDefEqProofs := false) (disch := first | assumption | (try simp only [lens]); omega -splitDisjunctions))); all_goals try (repeat' ((first | ((with_reducible first | refine And.intro ?_ ?_ | refine Exists.intro ?_ ?_); first | omega | (simp <;> omega)) | (with_reducible refine spl (And.intro ?_ ?_) <;> intro _)) <;> ((try simp (implicitDefEqProofs := false)); (try simp (implicitDefEqProofs := false) (disch := first | assumption | (try simp only [lens]); omega -splitDisjunctions))))))
          refine HT_keep0 (pre := [_]) (b := 1) (ρ0 := [0]) rfl rfl rfl rfl (by simp) flat_tab (by simp) (by simp) (by simp) ?_
          simp
          refine W_of fun Q4 hQ4 => ?_
          have main4 : ∀ r k, k + r = n → Q4 [(3, .sl 0 0 n), (48, .int .i64 (n : Int)), (49, .int .i64 (k : Int))]
              (.rows 1 (tabRows 1 (List.replicate n n)) :: tabObjs 1 ((tabF n (wsh E k)).map (List.map boolRow))) := by
            intro r
            induction r with
            | zero =>
              intro k hk
              have e : k = n := by omega
              rw [e]
              have hfin : tabF n (wsh E n) = tabF n (leB E) := tabF_congr fun a b _ _ => wsh_all hE
              rw [hfin]
              apply hQ4
              (((try simp (implicitDefEqProofs := false)); (try simp (implicitDefEqProofs := false) (disch := first | assumption | (try simp only [lens]); omega -splitDisjunctions))); all_goals try (repeat' ((first | ((with_reducible first | refine And.intro ?_ ?_ | refine Exists.intro ?_ ?_); first | omega | (simp <;> omega)) | (with_reducible refine spl (And.intro ?_ ?_) <;> intro _)) <;> ((try simp (implicitDefEqProofs := false)); (try simp (implicitDefEqProofs := false) (disch := first | assumption | (try simp only [lens]); omega -splitDisjunctions))))))
              refine HT_keep0 (pre := [_]) (b := 1) (ρ0 := [0]) rfl rfl rfl rfl (by simp) flat_tab (by simp) (by simp) (by simp) ?_
              simp
              rw [← tabF_lens (g := leB E), deref_tab1' (g := boolRow)]
              rw [List.take_of_length_le (by simp)]
              rfl
            | succ r ih4 =>
              intro k hk
              have hkn : k < n := by omega
              have ih4 := ih4 (k + 1) (by omega)
              apply hQ4
              clear hQ4
              rw [← atW_zero]
              (((try simp (implicitDefEqProofs := false) [hkn]); (try simp (implicitDefEqProofs := false) (disch := first | assumption | (try simp only [lens]); omega -splitDisjunctions) [hkn])); all_goals try (repeat' ((first | ((with_reducible first | refine And.intro ?_ ?_ | refine Exists.intro ?_ ?_); first | omega | (simp <;> omega)) | (with_reducible refine spl (And.intro ?_ ?_) <;> intro _)) <;> ((try simp (implicitDefEqProofs := false) [hkn]); (try simp (implicitDefEqProofs := false) (disch := first | assumption | (try simp only [lens]); omega -splitDisjunctions) [hkn])))))
              refine HT_keep0 (pre := [_]) (b := 1) (ρ0 := [0]) rfl rfl rfl rfl (by simp) flat_tab (by simp) (by simp) (by simp) ?_
              simp
              refine W_of fun Q6 hQ6 => ?_
              have main6 : ∀ r i, i + r = n → Q6 [(3, .sl 0 0 n), (7, .int .i64 (k : Int)), (48, .int .i64 (n : Int)), (49, .int .i64 (k : Int)), (53, .int .i64 (n : Int)), (54, .int .i64 (i : Int))]
                  (.rows 1 (tabRows 1 (List.replicate n n)) :: tabObjs 1 ((tabF n (atW E k i 0)).map (List.map boolRow))) := by
                intro r
                induction r with
                | zero =>
                  intro i hi
                  have e : i = n := by omega
                  rw [e, atW_all]
                  apply hQ6
                  (((try simp (implicitDefEqProofs := false)); (try simp (implicitDefEqProofs := false) (disch := first | assumption | (try simp only [lens]); omega -splitDisjunctions))); all_goals try (repeat' ((first | ((with_reducible first | refine And.intro ?_ ?_ | refine Exists.intro ?_ ?_); first | omega | (simp <;> omega)) | (with_reducible refine spl (And.intro ?_ ?_) <;> intro _)) <;> ((try simp (implicitDefEqProofs := false)); (try simp (implicitDefEqProofs := false) (disch := first | assumption | (try simp only [lens]); omega -splitDisjunctions))))))
                  refine HT_keep0 (pre := [_]) (b := 1) (ρ0 := [0]) rfl rfl rfl rfl (by simp) flat_tab (by simp) (by simp) (by simp) ?_
                  (((try simp (implicitDefEqProofs := false) [hkn]); (try simp (implicitDefEqProofs := false) (disch := first | assumption | (try simp only [lens]); omega -splitDisjunctions) [hkn])); all_goals try (repeat' ((first | ((with_reducible first | refine And.intro ?_ ?_ | refine Exists.intro ?_ ?_); first | omega | (simp <;> omega)) | (with_reducible refine spl (And.intro ?_ ?_) <;> intro _)) <;> ((try simp (implicitDefEqProofs := false) [hkn]); (try simp (implicitDefEqProofs := false) (disch := first | assumption | (try simp only [lens]); omega -splitDisjunctions) [hkn])))))
                  refine HT_keep0 (pre := [_]) (b := 1) (ρ0 := [0]) rfl rfl rfl rfl (by simp) flat_tab (by simp) (by simp) (by simp) ?_
                  simpa using ih4
                | succ r ih6 =>
                  intro i hi
                  have hin : i < n := by omega
                  have ih6 := ih6 (i + 1) (by omega)
                  apply hQ6
                  clear hQ6
                  (((try simp (implicitDefEqProofs := false) [hin]); (try simp (implicitDefEqProofs := false) (disch := first | assumption | (try simp only [lens]); omega -splitDisjunctions) [hin])); all_goals try (repeat' ((first | ((with_reducible first | refine And.intro ?_ ?_ | refine Exists.intro ?_ ?_); first | omega | (simp <;> omega)) | (with_reducible refine spl (And.intro ?_ ?_) <;> intro _)) <;> ((try simp (implicitDefEqProofs := false) [hin]); (try simp (implicitDefEqProofs := false) (disch := first | assumption | (try simp only [lens]); omega -splitDisjunctions) [hin])))))
                  refine HT_keep0 (pre := [_]) (b := 1) (ρ0 := [0]) rfl rfl rfl rfl (by simp) flat_tab (by simp) (by simp) (by simp) ?_
                  simp
                  refine W_of fun Q8 hQ8 => ?_
                  have main8 : ∀ r j, j + r = n → Q8 [(3, .sl 0 0 n), (7, .int .i64 (k : Int)), (8, .int .i64 (i : Int)), (48, .int .i64 (n : Int)), (49, .int .i64 (k : Int)), (53, .int .i64 (n : Int)), (54, .int .i64 (i : Int)), (58, .int .i64 (n : Int)), (59, .int .i64 (j : Int))]
                      (.rows 1 (tabRows 1 (List.replicate n n)) :: tabObjs 1 ((tabF n (atW E k i j)).map (List.map boolRow))) := by
                    intro r
                    induction r with
                    | zero =>
                      intro j hj
                      have e : j = n := by omega
                      rw [e, atW_row]
                      apply hQ8
                      (((try simp (implicitDefEqProofs := false)); (try simp (implicitDefEqProofs := false) (disch := first | assumption | (try simp only [lens]); omega -splitDisjunctions))); all_goals try (repeat' ((first | ((with_reducible first | refine And.intro ?_ ?_ | refine Exists.intro ?_ ?_); first | omega | (simp <;> omega)) | (with_reducible refine spl (And.intro ?_ ?_) <;> intro _)) <;> ((try simp (implicitDefEqProofs := false)); (try simp (implicitDefEqProofs := false) (disch := first | assumption | (try simp only [lens]); omega -splitDisjunctions))))))
                      refine HT_keep0 (pre := [_]) (b := 1) (ρ0 := [0]) rfl rfl rfl rfl (by simp) flat_tab (by simp) (by simp) (by simp) ?_
                      (((try simp (implicitDefEqProofs := false) [hin]); (try simp (implicitDefEqProofs := false) (disch := first | assumption | (try simp only [lens]); omega -splitDisjunctions) [hin])); all_goals try (repeat' ((first | ((with_reducible first | refine And.intro ?_ ?_ | refine Exists.intro ?_ ?_); first | omega | (simp <;> omega)) | (with_reducible refine spl (And.intro ?_ ?_) <;> intro _)) <;> ((try simp (implicitDefEqProofs := false) [hin]); (try simp (implicitDefEqProofs := false) (disch := first | assumption | (try simp only [lens]); omega -splitDisjunctions) [hin])))))
                      refine HT_keep0 (pre := [_]) (b := 1) (ρ0 := [0]) rfl rfl rfl rfl (by simp) flat_tab (by simp) (by simp) (by simp) ?_
                      simpa using ih6
                    | succ r ih8 =>
                      intro j hj
                      have hjn : j < n := by omega
                      have ih8 := ih8 (j + 1) (by omega)
                      rw [← atW_next] at ih8
                      generalize atW E k i j = g at ih8 ⊢
                      apply hQ8
                      clear hQ8
                      (((try simp (implicitDefEqProofs := false) [hin, hjn, hkn, tabF_get, rowF_get, tabF_put]); (try simp (implicitDefEqProofs := false) (disch := first | assumption | (try simp only [lens]); omega -splitDisjunctions) [hin, hjn, hkn, tabF_get, rowF_get, tabF_put])); all_goals try (repeat' ((first | ((with_reducible first | refine And.intro ?_ ?_ | refine Exists.intro ?_ ?_); first | omega | (simp <;> omega)) | (with_reducible refine spl (And.intro ?_ ?_) <;> intro _)) <;> ((try simp (implicitDefEqProofs := false) [hin, hjn, hkn, tabF_get, rowF_get, tabF_put]); (try simp (implicitDefEqProofs := false) (disch := first | assumption | (try simp only [lens]); omega -splitDisjunctions) [hin, hjn, hkn, tabF_get, rowF_get, tabF_put])))))
                      all_goals refine HT_keep0 (pre := [_]) (b := 1) (ρ0 := [0]) rfl rfl rfl rfl (by simp) flat_tab (by simp) (by simp) (by simp) ?_
                      all_goals simpa [*] using ih8
                  simpa using main8 n 0 (by omega)
              simpa using main6 n 0 (by omega)
          simpa using main4 n 0 (by omega)
        | succ k ih2 =>
          intro j hj
          have hjl : j < E.length := by omega
          have ih2 := ih2 (j + 1) (by omega)
          obtain ⟨p1, p2, p3, p4⟩ := hE E[j] (List.getElem_mem hjl)
          obtain ⟨a, ha⟩ : ∃ a : Nat, E[j].1 = a := ⟨E[j].1.toNat, by omega⟩
          obtain ⟨b, hb⟩ : ∃ b : Nat, E[j].2 = b := ⟨E[j].2.toNat, by omega⟩
          have hai : a < n := by omega
          have hbi : b < n := by omega
          rw [take_snoc2 hjl, ← memT_next (a := a) (b := b) (by rw [← ha, ← hb])] at ih2
          apply hQ2
          clear hQ2
          (((try simp (implicitDefEqProofs := false) [hjl, ha, hb, hai, hbi, tabF_get, rowF_get, tabF_put]); (try simp (implicitDefEqProofs := false) (disch := first | assumption | (try simp only [lens]); omega -splitDisjunctions) [hjl, ha, hb, hai, hbi, tabF_get, rowF_get, tabF_put])); all_goals try (repeat' ((first | ((with_reducible first | refine And.intro ?_ ?_ | refine Exists.intro ?_ ?_); first | omega | (simp <;> omega)) | (with_reducible refine spl (And.intro ?_ ?_) <;> intro _)) <;> ((try simp (implicitDefEqProofs := false) [hjl, ha, hb, hai, hbi, tabF_get, rowF_get, tabF_put]); (try simp (implicitDefEqProofs := false) (disch := first | assumption | (try simp only [lens]); omega -splitDisjunctions) [hjl, ha, hb, hai, hbi, tabF_get, rowF_get, tabF_put])))))
          refine HT_keep (pre := [_]) (post := [_]) (b := 1) (ρ0 := [0]) rfl rfl rfl rfl (by simp) flat_tab (by simp) (by simp) (by simp) ?_
          simpa using ih2
      simpa [tabF_lens] using main2 E.length 0 (by omega)
    | succ k ih =>
      intro i hi
      have hin : i < n := by omega
      have ih := ih (i + 1) (by omega)
      rw [← iniT_next hin] at ih
      apply hQ
      (((try simp (implicitDefEqProofs := false) [hin]); (try simp (implicitDefEqProofs := false) (disch := first | assumption | (try simp only [lens]); omega -splitDisjunctions) [hin])); all_goals try (repeat' ((first | ((with_reducible first | refine And.intro ?_ ?_ | refine Exists.intro ?_ ?_); first | omega | (simp <;> omega)) | (with_reducible refine spl (And.intro ?_ ?_) <;> intro _)) <;> ((try simp (implicitDefEqProofs := false) [hin]); (try simp (implicitDefEqProofs := false) (disch := first | assumption | (try simp only [lens]); omega -splitDisjunctions) [hin])))))
      refine HT_put0 (pre := [_, _]) (b := 2) (ρ0 := [0, 1]) (ys := ((List.replicate n false).set i true).map boolRow) rfl rfl rfl rfl (by simpa using hin) (by simp) (by simp; omega) (by simp [List.map_set]) flat_tab flat_rows (by simp) (by simp) (by simp) ?_
      simpa [List.map_set] using ih
  refine at2 (main _ 0 (Nat.zero_add _)) ?_ ?_ <;> simp [iniT_zero]
end Go.Proofs.Ythnobaacfjihcaa
