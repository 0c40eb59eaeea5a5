/-
  sequentlaw: AlgebraTurns.
-/
import Derived.Test.YthnobaacfjihcaaQAg
namespace Go.Proofs.Ythnobaacfjihcaa
open Go Go.Pv
set_option linter.unusedVariables false
set_option linter.unusedSimpArgs false
set_option maxRecDepth 100000
set_option maxHeartbeats 4000000

def sw (p : Int × Int) : Int × Int := (p.2, p.1)
theorem Rch.head {E : List (Int × Int)} {i j k : Nat} (h : ((i : Int), (j : Int)) ∈ E) (g : Rch E j k) : Rch E i k := (Rch.step (.refl i) h).trans g
theorem Rch.swap {E : List (Int × Int)} {i j : Nat} (h : Rch E i j) : Rch (E.map sw) j i := by
  induction h with
  | refl => exact .refl _
  | step _ g ih => exact .head (List.mem_map.2 ⟨_, g, rfl⟩) ih
theorem sw_sw {E : List (Int × Int)} : (E.map sw).map sw = E := by
  rw [List.map_map, show sw ∘ sw = id from rfl, List.map_id]
theorem leB_sw {E : List (Int × Int)} : leB (E.map sw) = flipT (leB E) := by
  funext i j
  unfold flipT
  rw [Bool.eq_iff_iff, leB_iff, leB_iff]
  exact ⟨fun h => by have := h.swap; rwa [sw_sw] at this, fun h => h.swap⟩
theorem ofault_intro {n : Nat} {E : List (Int × Int)} (h1 : 1 ≤ n) (h2 : n ≤ 20) (h3 : E.length ≤ 500) (h4 : ∀ p ∈ E, 0 ≤ p.1 ∧ p.1 < n ∧ 0 ≤ p.2 ∧ p.2 < n) (h5 : ∀ i j, i < n → j < n → leB E i j = true → leB E j i = true → i = j) : ofault ⟨n, E⟩ = (0, 0) := by
  unfold ofault
  rw [if_neg (by simp only; omega)]
  have hr : ∀ (l : List (Int × Int)) i, (∀ p ∈ l, 0 ≤ p.1 ∧ p.1 < n ∧ 0 ≤ p.2 ∧ p.2 < n) → relBad n l i = none := by
    intro l
    induction l with
    | nil => intro i _; rfl
    | cons a r ih =>
      intro i h
      have ha := h a List.mem_cons_self
      unfold relBad
      rw [if_pos (by unfold relOK; rw [Bool.and_eq_true, decide_eq_true_eq, decide_eq_true_eq]; omega)]
      exact ih _ fun p hp => h p (List.mem_cons_of_mem _ hp)
  simp only
  rw [hr E 0 h4, Option.none_or, List.find?_eq_none.2]
  · rfl
  intro i hi
  rw [List.mem_range] at hi
  unfold cyc
  rw [Bool.not_eq_true, List.any_eq_false]
  intro k hk
  rw [List.mem_range] at hk
  simp only [Int.toNat_natCast] at hi
  intro h
  rw [Bool.and_eq_true] at h
  have := h5 i k hi (by omega) h.1 h.2
  omega
def swRow (p : Int × Int) : List PV := [.int .i64 p.2, .int .i64 p.1]
instance : FlatRow swRow := ⟨fun x => by simp [swRow, flatV]⟩
theorem swRow_map {E : List (Int × Int)} : (E.map sw).map relRow = E.map swRow := by rw [List.map_map]; rfl
/-- the tables of an order, none if it is no lattice -/
noncomputable def lnO (o : Ord) : Nat := if isLat o.n.toNat (leB o.ps) = true then o.n.toNat else 0
noncomputable def lcO (o : Ord) : Int := if isLat o.n.toNat (leB o.ps) = true then 0 else 6
theorem nRow_nums {n L : Nat} {f : Nat → Nat → Nat} : (List.range L).map (nRow n f) = ((List.range L).map fun a => (List.range n).map (f a)).map numsRow := by
  rw [List.map_map]
  apply List.map_congr_left
  intro a _
  simp only [nRow, numsRow, Function.comp, List.map_map]
  rfl
theorem Lattice_law (o : Ord) (hz : (ofault o).1 = 0) : CallOK Try.prog 10 [.agg (ord o)] [] (.tuple [.list ((List.range (lnO o)).map (nRow o.n.toNat (jn o.n.toNat (leB o.ps)))), .list ((List.range (lnO o)).map (nRow o.n.toNat (mt o.n.toNat (leB o.ps)))), .agg [.int .i64 (lcO o), .int .i64 0]]) [] := by
  have h := Lattice_algebra o
  unfold latR at h
  rw [if_pos hz] at h
  unfold lnO lcO
  split at h
  · rename_i hl; rw [if_pos hl, if_pos hl]; exact h
  · rename_i hl; rw [if_neg hl, if_neg hl]; exact h
theorem kindL_four {n : Nat} {g : Nat → Nat → Bool} : ∃ b0 b1 b2 b3, kindL n g = [b0, b1, b2, b3] := by
  unfold kindL; split <;> exact ⟨_, _, _, _, rfl⟩
def x3_L6 : XC := .seq (.seq (.reg [⟨some 139,.move (.tmp 15),none⟩,⟨some 140,.move (.tmp 9),none⟩,⟨some 141,.call ⟨.builtin .len,#[.tmp 140],#[33]⟩,none⟩,⟨some 142,.binOp .lss 3 (.tmp 139) (.tmp 141) 3,none⟩]) (.cond (.tmp 142) (.skip) (.exit 6))) (.seq (.block 7 (.seq (.drawn 29 [⟨some 145,.move (.tmp 9),none⟩,⟨some 146,.move (.tmp 14),none⟩,⟨some 147,.indexAddr 33 (.tmp 145) (.tmp 146),none⟩,⟨some 148,.load 37 (.tmp 147),none⟩,⟨some 149,.move (.tmp 15),none⟩,⟨some 150,.indexAddr 37 (.tmp 148) (.tmp 149),none⟩,⟨some 151,.load 3 (.tmp 150),none⟩,⟨some 152,.move (.tmp 10),none⟩,⟨some 153,.move (.tmp 14),none⟩,⟨some 154,.indexAddr 33 (.tmp 152) (.tmp 153),none⟩,⟨some 155,.load 37 (.tmp 154),none⟩,⟨some 156,.move (.tmp 15),none⟩,⟨some 157,.indexAddr 37 (.tmp 155) (.tmp 156),none⟩,⟨some 158,.load 3 (.tmp 157),none⟩,⟨some 16,.assign (.tmp 151),none⟩,⟨some 17,.assign (.tmp 158),none⟩]) (.seq (.reg [⟨some 159,.move (.tmp 16),none⟩,⟨some 160,.binOp .lss 3 (.tmp 159) (.const (.int .i64 0)) 3,none⟩,⟨some 161,.move (.tmp 160),none⟩,⟨some 162,.move (.tmp 16),some (some 161,false)⟩,⟨some 163,.fieldAddr 24 (.tmp 1) 0,some (some 161,false)⟩,⟨some 164,.load 3 (.tmp 163),some (some 161,false)⟩,⟨some 165,.binOp .geq 3 (.tmp 162) (.tmp 164) 3,some (some 161,false)⟩,⟨some 166,.pick (.tmp 161) (.const (.bool true)) (.tmp 165),none⟩,⟨some 167,.move (.tmp 166),none⟩,⟨some 168,.move (.tmp 17),some (some 167,false)⟩,⟨some 169,.binOp .lss 3 (.tmp 168) (.const (.int .i64 0)) 3,some (some 167,false)⟩,⟨some 170,.pick (.tmp 167) (.const (.bool true)) (.tmp 169),none⟩,⟨some 171,.move (.tmp 170),none⟩,⟨some 172,.move (.tmp 17),some (some 171,false)⟩,⟨some 173,.fieldAddr 24 (.tmp 1) 0,some (some 171,false)⟩,⟨some 174,.load 3 (.tmp 173),some (some 171,false)⟩,⟨some 175,.binOp .geq 3 (.tmp 172) (.tmp 174) 3,some (some 171,false)⟩,⟨some 176,.pick (.tmp 171) (.const (.bool true)) (.tmp 175),none⟩,⟨some 177,.move (.tmp 176),none⟩,⟨some 178,.move (.tmp 10),some (some 177,false)⟩,⟨some 179,.move (.tmp 14),some (some 177,false)⟩,⟨some 180,.indexAddr 33 (.tmp 178) (.tmp 179),some (some 177,false)⟩,⟨some 181,.load 37 (.tmp 180),some (some 177,false)⟩,⟨some 182,.move (.tmp 16),some (some 177,false)⟩,⟨some 183,.indexAddr 37 (.tmp 181) (.tmp 182),some (some 177,false)⟩,⟨some 184,.load 3 (.tmp 183),some (some 177,false)⟩,⟨some 185,.move (.tmp 14),some (some 177,false)⟩,⟨some 186,.binOp .neq 3 (.tmp 184) (.tmp 185) 3,some (some 177,false)⟩,⟨some 187,.pick (.tmp 177) (.const (.bool true)) (.tmp 186),none⟩,⟨some 188,.move (.tmp 187),none⟩,⟨some 189,.move (.tmp 9),some (some 188,false)⟩,⟨some 190,.move (.tmp 14),some (some 188,false)⟩,⟨some 191,.indexAddr 33 (.tmp 189) (.tmp 190),some (some 188,false)⟩,⟨some 192,.load 37 (.tmp 191),some (some 188,false)⟩,⟨some 193,.move (.tmp 17),some (some 188,false)⟩,⟨some 194,.indexAddr 37 (.tmp 192) (.tmp 193),some (some 188,false)⟩,⟨some 195,.load 3 (.tmp 194),some (some 188,false)⟩,⟨some 196,.move (.tmp 14),some (some 188,false)⟩,⟨some 197,.binOp .neq 3 (.tmp 195) (.tmp 196) 3,some (some 188,false)⟩,⟨some 198,.pick (.tmp 188) (.const (.bool true)) (.tmp 197),none⟩,⟨some 199,.move (.tmp 198),none⟩,⟨some 200,.move (.tmp 9),some (some 199,false)⟩,⟨some 201,.move (.tmp 15),some (some 199,false)⟩,⟨some 202,.indexAddr 33 (.tmp 200) (.tmp 201),some (some 199,false)⟩,⟨some 203,.load 37 (.tmp 202),some (some 199,false)⟩,⟨some 204,.move (.tmp 14),some (some 199,false)⟩,⟨some 205,.indexAddr 37 (.tmp 203) (.tmp 204),some (some 199,false)⟩,⟨some 206,.load 3 (.tmp 205),some (some 199,false)⟩,⟨some 207,.move (.tmp 16),some (some 199,false)⟩,⟨some 208,.binOp .neq 3 (.tmp 206) (.tmp 207) 3,some (some 199,false)⟩,⟨some 209,.pick (.tmp 199) (.const (.bool true)) (.tmp 208),none⟩,⟨some 210,.move (.tmp 209),none⟩,⟨some 211,.move (.tmp 10),some (some 210,false)⟩,⟨some 212,.move (.tmp 15),some (some 210,false)⟩,⟨some 213,.indexAddr 33 (.tmp 211) (.tmp 212),some (some 210,false)⟩,⟨some 214,.load 37 (.tmp 213),some (some 210,false)⟩,⟨some 215,.move (.tmp 14),some (some 210,false)⟩,⟨some 216,.indexAddr 37 (.tmp 214) (.tmp 215),some (some 210,false)⟩,⟨some 217,.load 3 (.tmp 216),some (some 210,false)⟩,⟨some 218,.move (.tmp 17),some (some 210,false)⟩,⟨some 219,.binOp .neq 3 (.tmp 217) (.tmp 218) 3,some (some 210,false)⟩,⟨some 220,.pick (.tmp 210) (.const (.bool true)) (.tmp 219),none⟩]) (.cond (.tmp 220) (.seq (.reg [⟨some 2,.assign (.const (.bool false)),none⟩]) (.ret)) (.skip))))) (.reg [⟨some 143,.move (.tmp 15),none⟩,⟨some 144,.binOp .add 3 (.tmp 143) (.const (.int .i64 1)) 3,none⟩,⟨some 15,.assign (.tmp 144),none⟩]))
def x3_L4 : XC := .seq (.seq (.reg [⟨some 133,.move (.tmp 14),none⟩,⟨some 134,.move (.tmp 9),none⟩,⟨some 135,.call ⟨.builtin .len,#[.tmp 134],#[33]⟩,none⟩,⟨some 136,.binOp .lss 3 (.tmp 133) (.tmp 135) 3,none⟩]) (.cond (.tmp 136) (.skip) (.exit 4))) (.seq (.block 5 (.seq (.reg [⟨some 15,.assign (.const (.int .i64 0)),none⟩]) (.bloop 6 x3_L6))) (.reg [⟨some 137,.move (.tmp 14),none⟩,⟨some 138,.binOp .add 3 (.tmp 137) (.const (.int .i64 1)) 3,none⟩,⟨some 14,.assign (.tmp 138),none⟩]))
def x3_T3 : XC := .seq (.seq (.reg [⟨some 14,.assign (.const (.int .i64 0)),none⟩]) (.bloop 4 x3_L4)) (.seq (.reg [⟨some 2,.assign (.const (.bool true)),none⟩]) (.ret))
def x3_L2 : XC := .seq (.seq (.reg [⟨some 109,.move (.tmp 13),none⟩,⟨some 110,.move (.tmp 9),none⟩,⟨some 111,.call ⟨.builtin .len,#[.tmp 110],#[33]⟩,none⟩,⟨some 112,.binOp .lss 3 (.tmp 109) (.tmp 111) 3,none⟩]) (.cond (.tmp 112) (.skip) (.exit 2))) (.seq (.block 3 (.seq (.drawn 21 [⟨some 115,.move (.tmp 9),none⟩,⟨some 116,.move (.tmp 13),none⟩,⟨some 117,.indexAddr 33 (.tmp 115) (.tmp 116),none⟩,⟨some 118,.load 37 (.tmp 117),none⟩,⟨some 119,.call ⟨.builtin .len,#[.tmp 118],#[37]⟩,none⟩,⟨some 120,.fieldAddr 24 (.tmp 1) 0,none⟩,⟨some 121,.load 3 (.tmp 120),none⟩,⟨some 122,.binOp .neq 3 (.tmp 119) (.tmp 121) 3,none⟩,⟨some 123,.move (.tmp 122),none⟩,⟨some 124,.move (.tmp 10),some (some 123,false)⟩,⟨some 125,.move (.tmp 13),some (some 123,false)⟩,⟨some 126,.indexAddr 33 (.tmp 124) (.tmp 125),some (some 123,false)⟩,⟨some 127,.load 37 (.tmp 126),some (some 123,false)⟩,⟨some 128,.call ⟨.builtin .len,#[.tmp 127],#[37]⟩,some (some 123,false)⟩,⟨some 129,.fieldAddr 24 (.tmp 1) 0,some (some 123,false)⟩,⟨some 130,.load 3 (.tmp 129),some (some 123,false)⟩,⟨some 131,.binOp .neq 3 (.tmp 128) (.tmp 130) 3,some (some 123,false)⟩,⟨some 132,.pick (.tmp 123) (.const (.bool true)) (.tmp 131),none⟩]) (.cond (.tmp 132) (.seq (.reg [⟨some 2,.assign (.const (.bool false)),none⟩]) (.ret)) (.skip)))) (.reg [⟨some 113,.move (.tmp 13),none⟩,⟨some 114,.binOp .add 3 (.tmp 113) (.const (.int .i64 1)) 3,none⟩,⟨some 13,.assign (.tmp 114),none⟩]))
def x3_T1 : XC := .seq (.reg [⟨some 53,.load 24 (.tmp 1),none⟩,⟨some 54,.call ⟨.value (.func 9),#[.tmp 53],#[24]⟩,none⟩,⟨some 52,.move (.tmp 54),none⟩,⟨some 55,.extract (.tmp 52) 0,none⟩,⟨some 56,.extract (.tmp 52) 1,none⟩,⟨some 5,.alloc 30,none⟩,⟨some 6,.alloc 27,none⟩,⟨none,.store 30 (.tmp 5) (.tmp 55),none⟩,⟨none,.store 27 (.tmp 6) (.tmp 56),none⟩]) (.seq (.reg [⟨some 58,.load 24 (.tmp 3),none⟩,⟨some 59,.call ⟨.value (.func 9),#[.tmp 58],#[24]⟩,none⟩,⟨some 57,.move (.tmp 59),none⟩,⟨some 60,.extract (.tmp 57) 0,none⟩,⟨some 61,.extract (.tmp 57) 1,none⟩,⟨some 7,.alloc 30,none⟩,⟨some 8,.alloc 27,none⟩,⟨none,.store 30 (.tmp 7) (.tmp 60),none⟩,⟨none,.store 27 (.tmp 8) (.tmp 61),none⟩]) (.seq (.seq (.reg [⟨some 62,.fieldAddr 27 (.tmp 6) 0,none⟩,⟨some 63,.load 3 (.tmp 62),none⟩,⟨some 64,.binOp .neq 3 (.tmp 63) (.const (.int .i64 0)) 3,none⟩,⟨some 65,.move (.tmp 64),none⟩,⟨some 66,.fieldAddr 27 (.tmp 8) 0,some (some 65,false)⟩,⟨some 67,.load 3 (.tmp 66),some (some 65,false)⟩,⟨some 68,.binOp .neq 3 (.tmp 67) (.const (.int .i64 0)) 3,some (some 65,false)⟩,⟨some 69,.pick (.tmp 65) (.const (.bool true)) (.tmp 68),none⟩,⟨some 70,.move (.tmp 69),none⟩,⟨some 71,.load 30 (.tmp 5),some (some 70,false)⟩,⟨some 72,.load 30 (.tmp 7),some (some 70,false)⟩,⟨some 73,.binOp .neq 30 (.tmp 71) (.tmp 72) 30,some (some 70,false)⟩,⟨some 74,.pick (.tmp 70) (.const (.bool true)) (.tmp 73),none⟩]) (.cond (.tmp 74) (.seq (.reg [⟨some 2,.assign (.const (.bool false)),none⟩]) (.ret)) (.skip))) (.seq (.reg [⟨some 76,.load 24 (.tmp 1),none⟩,⟨some 77,.call ⟨.value (.func 10),#[.tmp 76],#[24]⟩,none⟩,⟨some 75,.move (.tmp 77),none⟩,⟨some 78,.extract (.tmp 75) 0,none⟩,⟨some 79,.extract (.tmp 75) 1,none⟩,⟨some 80,.extract (.tmp 75) 2,none⟩,⟨some 9,.assign (.tmp 78),none⟩,⟨some 10,.assign (.tmp 79),none⟩,⟨none,.store 27 (.tmp 6) (.tmp 80),none⟩]) (.seq (.reg [⟨some 82,.load 24 (.tmp 3),none⟩,⟨some 83,.call ⟨.value (.func 10),#[.tmp 82],#[24]⟩,none⟩,⟨some 81,.move (.tmp 83),none⟩,⟨some 84,.extract (.tmp 81) 0,none⟩,⟨some 85,.extract (.tmp 81) 1,none⟩,⟨some 86,.extract (.tmp 81) 2,none⟩,⟨some 11,.assign (.tmp 84),none⟩,⟨some 12,.assign (.tmp 85),none⟩,⟨none,.store 27 (.tmp 8) (.tmp 86),none⟩]) (.seq (.seq (.reg [⟨some 87,.load 27 (.tmp 6),none⟩,⟨some 88,.load 27 (.tmp 8),none⟩,⟨some 89,.binOp .neq 27 (.tmp 87) (.tmp 88) 27,none⟩,⟨some 90,.move (.tmp 89),none⟩,⟨some 91,.move (.tmp 9),some (some 90,false)⟩,⟨some 92,.move (.tmp 12),some (some 90,false)⟩,⟨some 93,.call ⟨.value (.func 11),#[.tmp 91,.tmp 92],#[33,33]⟩,some (some 90,false)⟩,⟨some 94,.unOp .not 4 (.tmp 93),some (some 90,false)⟩,⟨some 95,.pick (.tmp 90) (.const (.bool true)) (.tmp 94),none⟩,⟨some 96,.move (.tmp 95),none⟩,⟨some 97,.move (.tmp 10),some (some 96,false)⟩,⟨some 98,.move (.tmp 11),some (some 96,false)⟩,⟨some 99,.call ⟨.value (.func 11),#[.tmp 97,.tmp 98],#[33,33]⟩,some (some 96,false)⟩,⟨some 100,.unOp .not 4 (.tmp 99),some (some 96,false)⟩,⟨some 101,.pick (.tmp 96) (.const (.bool true)) (.tmp 100),none⟩,⟨some 102,.move (.tmp 101),none⟩,⟨some 103,.move (.tmp 9),some (some 102,false)⟩,⟨some 104,.call ⟨.builtin .len,#[.tmp 103],#[33]⟩,some (some 102,false)⟩,⟨some 105,.move (.tmp 10),some (some 102,false)⟩,⟨some 106,.call ⟨.builtin .len,#[.tmp 105],#[33]⟩,some (some 102,false)⟩,⟨some 107,.binOp .neq 3 (.tmp 104) (.tmp 106) 3,some (some 102,false)⟩,⟨some 108,.pick (.tmp 102) (.const (.bool true)) (.tmp 107),none⟩]) (.cond (.tmp 108) (.seq (.reg [⟨some 2,.assign (.const (.bool false)),none⟩]) (.ret)) (.skip))) (.seq (.seq (.reg [⟨some 13,.assign (.const (.int .i64 0)),none⟩]) (.bloop 2 x3_L2)) (x3_T3)))))))
def x3_L0 : XC := .seq (.seq (.reg [⟨some 27,.move (.tmp 4),none⟩,⟨some 28,.fieldAddr 24 (.tmp 1) 1,none⟩,⟨some 29,.load 22 (.tmp 28),none⟩,⟨some 30,.call ⟨.builtin .len,#[.tmp 29],#[22]⟩,none⟩,⟨some 31,.binOp .lss 3 (.tmp 27) (.tmp 30) 3,none⟩]) (.cond (.tmp 31) (.skip) (.exit 0))) (.seq (.block 1 (.drawn 9 [⟨some 34,.fieldAddr 24 (.tmp 3) 1,none⟩,⟨some 35,.load 22 (.tmp 34),none⟩,⟨some 36,.fieldAddr 24 (.tmp 1) 1,none⟩,⟨some 37,.load 22 (.tmp 36),none⟩,⟨some 38,.move (.tmp 4),none⟩,⟨some 39,.indexAddr 22 (.tmp 37) (.tmp 38),none⟩,⟨some 40,.indexAddr 29 (.tmp 39) (.const (.int .i64 1)),none⟩,⟨some 41,.load 3 (.tmp 40),none⟩,⟨some 42,.fieldAddr 24 (.tmp 1) 1,none⟩,⟨some 43,.load 22 (.tmp 42),none⟩,⟨some 44,.move (.tmp 4),none⟩,⟨some 45,.indexAddr 22 (.tmp 43) (.tmp 44),none⟩,⟨some 46,.indexAddr 29 (.tmp 45) (.const (.int .i64 0)),none⟩,⟨some 47,.load 3 (.tmp 46),none⟩,⟨some 48,.build 29 #[(0,.tmp 41),(1,.tmp 47)],none⟩,⟨some 49,.buildSlice 22 1 #[(0,.tmp 48)],none⟩,⟨some 50,.call ⟨.builtin .append,#[.tmp 35,.tmp 49],#[22,22]⟩,none⟩,⟨some 51,.fieldAddr 24 (.tmp 3) 1,none⟩,⟨none,.store 22 (.tmp 51) (.tmp 50),none⟩])) (.reg [⟨some 32,.move (.tmp 4),none⟩,⟨some 33,.binOp .add 3 (.tmp 32) (.const (.int .i64 1)) 3,none⟩,⟨some 4,.assign (.tmp 33),none⟩]))
def x3 : XC := .seq (.reg [⟨some 1,.box 24 (.tmp 0),none⟩,⟨some 2,.assign (.const (.bool false)),none⟩]) (.seq (.seq (.reg [⟨some 18,.call ⟨.value (.func 7),#[],#[]⟩,none⟩,⟨some 19,.unOp .not 4 (.tmp 18),none⟩]) (.cond (.tmp 19) (.seq (.reg [⟨some 2,.assign (.const (.bool false)),none⟩]) (.ret)) (.skip))) (.seq (.seq (.reg [⟨some 20,.load 24 (.tmp 1),none⟩,⟨some 21,.call ⟨.value (.func 8),#[.tmp 20],#[24]⟩,none⟩,⟨some 22,.field 27 (.tmp 21) 0,none⟩,⟨some 23,.binOp .neq 3 (.tmp 22) (.const (.int .i64 0)) 3,none⟩]) (.cond (.tmp 23) (.seq (.reg [⟨some 2,.assign (.const (.bool true)),none⟩]) (.ret)) (.skip))) (.seq (.reg [⟨some 24,.fieldAddr 24 (.tmp 1) 0,none⟩,⟨some 25,.load 3 (.tmp 24),none⟩,⟨some 26,.build 24 #[(0,.tmp 25)],none⟩,⟨some 3,.alloc 24,none⟩,⟨none,.store 24 (.tmp 3) (.tmp 26),none⟩]) (.seq (.seq (.reg [⟨some 4,.assign (.const (.int .i64 0)),none⟩]) (.bloop 0 x3_L0)) (x3_T1)))))
@[simp] theorem x3_s {C : WC} {e : AE} {s : Store} {K : KS} : type_of% (@X_at C e s K _ _ x3_L6.eq_1) ∧ type_of% (@X_at C e s K _ _ x3_L4.eq_1) ∧ type_of% (@X_at C e s K _ _ x3_T3.eq_1) ∧ type_of% (@X_at C e s K _ _ x3_L2.eq_1) ∧ type_of% (@X_at C e s K _ _ x3_T1.eq_1) ∧ type_of% (@X_at C e s K _ _ x3_L0.eq_1) ∧ type_of% (@X_at C e s K _ _ x3.eq_1) := ⟨X_at x3_L6.eq_1, X_at x3_L4.eq_1, X_at x3_T3.eq_1, X_at x3_L2.eq_1, X_at x3_T1.eq_1, X_at x3_L0.eq_1, X_at x3.eq_1⟩
def an3 : Ann := ⟨[(9, .mix 16), (21, .mix 16)], [(6, [], [1, 9, 10, 14, 15], [1, 2, 9, 10, 14]), (4, [], [1, 9, 10, 14], [2]), (2, [], [1, 9, 10, 13], [1, 2, 9, 10]), (0, [(3, some 1, 2)], [1, 3, 4], [1, 3])], []⟩
def cx3 (P : Program) (m : Nat) : WC := ⟨P, m, an3⟩
@[simp] theorem cx3_a {P : Program} {m : Nat} : (cx3 P m).P = P ∧ (cx3 P m).m = m ∧ (cx3 P m).A.clsOf 9 = .mix 16 ∧ (cx3 P m).A.clsOf 21 = .mix 16 ∧ (cx3 P m).A.clsOf 29 = .draw ∧ (cx3 P m).A.frzOf 9 = [] ∧ (cx3 P m).A.frzOf 21 = [] ∧ (cx3 P m).A.frzOf 29 = [] ∧ (cx3 P m).A.loopOf 6 = ([], [1, 9, 10, 14, 15], [1, 2, 9, 10, 14]) ∧ (cx3 P m).A.loopOf 4 = ([], [1, 9, 10, 14], [2]) ∧ (cx3 P m).A.loopOf 2 = ([], [1, 9, 10, 13], [1, 2, 9, 10]) ∧ (cx3 P m).A.loopOf 0 = ([(3, some 1, 2)], [1, 3, 4], [1, 3]) := ⟨rfl, rfl, rfl, rfl, rfl, rfl, rfl, rfl, rfl, rfl, rfl, rfl⟩
instance {P : Program} {m f : Nat} [h : EnT P f] : EnT (cx3 P m).P f := h
theorem chk3 : ∀ c, Try.f3.body = some c → chkC Try.f3.ntmps an3 c = true := by intro c h; obtain rfl := Option.some.inj h; decide +kernel
theorem op3 {args : List PV} {v : PV} (h : X (cx3 Try.prog 0) x3 (argsA 0 args) [] (.fin [.tmp 2] fun v1 s1 => deref s1 6 v1 = v)) (hl : args.length ≤ Try.f3.ntmps := by rw [Try.ntmps3]; simp) : CallOK Try.prog 3 args [] v [] :=
  callX (m := 0) (cx3 Try.prog 0) x3 rfl rfl (by kernel_rfl) Try.func3 rfl rfl hl mixed (chk3 _ rfl) (by rw [Try.results3]; exact h)

theorem AlgebraTurns_law (o : Ord) : CallOK Try.prog 3 [.agg (ord o)] [] (.bool true) [] := by
  have hbg := algebraBegun_law
  have hf := OrderFault_ref o
  refine op3 ?_
  by_cases hz : (ofault o).1 = 0
  · obtain ⟨h0, h1, h2, h3, h4, h5⟩ := ofault_ok hz
    have hPO := leB_PO hz
    have hk1 := Kind_algebra o
    have hl1 := Lattice_law o hz
    unfold kindR at hk1
    rw [if_pos hz] at hk1
    rw [h0] at hf hk1
    obtain ⟨n, E⟩ := o
    simp only at h1 h2 h3 h4 h5 hPO
    obtain ⟨n, rfl⟩ : ∃ k : Nat, n = (k : Int) := ⟨n.toNat, by omega⟩
    simp only [Int.toNat_natCast] at hPO
    have hPO2 := hPO.flip
    have hz2 : ofault ⟨(n : Int), E.map sw⟩ = (0, 0) := ofault_intro (by omega) (by omega) (by simpa using h3) (fun p hp => by
      obtain ⟨q, hq, rfl⟩ := List.mem_map.1 hp
      have := h4 q hq
      simp only [sw]; omega) (fun i j hi hj ha hb => by
      rw [leB_sw] at ha hb
      exact hPO2.anti i j hi hj ha hb)
    have hk2 := Kind_algebra ⟨(n : Int), E.map sw⟩
    have hl2 := Lattice_law ⟨(n : Int), E.map sw⟩ (by rw [hz2])
    unfold kindR at hk2
    rw [hz2, if_pos rfl] at hk2
    simp only [lnO, lcO, leB_sw, Int.toNat_natCast, kind_flip hPO, isLat_flip] at hk1 hk2 hl1 hl2
    rw [show jn n (flipT (leB E)) = mt n (leB E) from rfl, show mt n (flipT (leB E)) = jn n (leB E) from rfl] at hl2
    obtain ⟨b0, b1, b2, b3, hk⟩ := kindL_four (n := n) (g := leB E)
    rw [hk] at hk1 hk2
    have hfacts : ∃ L, (if isLat n (leB E) = true then n else 0) = L ∧ L ≤ n ∧ ∀ x y, x < L → y < L → jn n (leB E) x y < n ∧ mt n (leB E) x y < n ∧ mt n (leB E) x (jn n (leB E) x y) = x ∧ jn n (leB E) x (mt n (leB E) x y) = x ∧ jn n (leB E) y x = jn n (leB E) x y ∧ mt n (leB E) y x = mt n (leB E) x y := by
      refine ⟨_, rfl, ?_, ?_⟩
      · split <;> omega
      · intro x y hx hy
        split at hx
        · rename_i hl
          rw [if_pos hl] at hy
          have hLa : La n (leB E) := ⟨hPO, hl⟩
          exact ⟨hLa.jlt hx hy, hLa.mlt hx hy, hLa.mj hx hy, hLa.jm hx hy, hLa.jcomm hy hx, hLa.mcomm hy hx⟩
        · omega
    obtain ⟨L, hL, hLn, hfact⟩ := hfacts
    rw [hL] at hl1 hl2
    generalize (if isLat n (leB E) = true then (0 : Int) else 6) = cd at hl1 hl2
    generalize jn n (leB E) = J at hl1 hl2 hfact
    generalize mt n (leB E) = M at hl1 hl2 hfact
    clear hPO hPO2 h5 hz2 hk hL
    simp only [ord, faultA, swRow_map] at *
    have hs := fun f : Nat → Nat → Nat => sameTables_law ((List.range L).map fun a => (List.range n).map (f a)) ((List.range L).map fun a => (List.range n).map (f a)) (by simp; omega) (by simp; omega) (fun x hx => by
      obtain ⟨a, _, rfl⟩ := List.mem_map.1 hx; simp; omega) (fun x hx => by
      obtain ⟨a, _, rfl⟩ := List.mem_map.1 hx; simp; omega)
    simp only [← nRow_nums, decide_true] at hs
    have hsJ := hs J
    have hsM := hs M
    clear hs
    (((try simp (implicitDefEqProofs := false)); (try simp (implicitDefEqProofs := false) (disch := first | assumption | (try simp only [lens]); omega -splitDisjunctions))); all_goals try (repeat' ((first | ((with_reducible first | refine And.intro ?_ ?_ | refine Exists.intro ?_ ?_); first | omega | (simp <;> omega)) | (with_reducible refine spl (And.intro ?_ ?_) <;> intro _) | (refine CL.clo (hbg) ?_) | (refine CM.clo (hbg) ?_) | (refine CD.clo (hbg) ?_) | (refine CL.clo (hf) ?_) | (refine CM.clo (hf) ?_) | (refine CD.clo (hf) ?_)) <;> ((try simp (implicitDefEqProofs := false)); (try simp (implicitDefEqProofs := false) (disch := first | assumption | (try simp only [lens]); omega -splitDisjunctions))))))
    refine W_of fun Q hQ => ?_
    have main : ∀ k i, i + k = E.length → Q [(1, .ptr 0 0 0), (3, .ptr 1 0 0), (4, .int .i64 (i : Int))] [.rows 2 [[.int .i64 (n : Int), .list (E.map relRow)]], .rows 2 [[.int .i64 (n : Int), .sl 2 0 i]], .rows 2 ((E.take i).map swRow)] := by
      intro k
      induction k with
      | succ k ih =>
        intro i hi
        have hil : i < E.length := by omega
        have ih := ih (i + 1) (by omega)
        rw [take_snoc2 hil, List.map_append, List.map_cons, List.map_nil] at ih
        simp only [swRow] at ih
        apply hQ
        clear hQ
        (((try simp (implicitDefEqProofs := false) [hil]); (try simp (implicitDefEqProofs := false) (disch := first | assumption | (try simp only [lens]); omega -splitDisjunctions) [hil])); all_goals try (repeat' ((first | ((with_reducible first | refine And.intro ?_ ?_ | refine Exists.intro ?_ ?_); first | omega | (simp <;> omega)) | (with_reducible refine spl (And.intro ?_ ?_) <;> intro _)) <;> ((try simp (implicitDefEqProofs := false) [hil]); (try simp (implicitDefEqProofs := false) (disch := first | assumption | (try simp only [lens]); omega -splitDisjunctions) [hil])))))
        refine at2 ih ?_ ?_ <;> simp [swRow]
      | zero =>
        intro i hi
        obtain rfl : i = E.length := by omega
        rw [List.take_length]
        apply hQ
        clear hQ
        (((try simp (implicitDefEqProofs := false)); (try simp (implicitDefEqProofs := false) (disch := first | assumption | (try simp only [lens]); omega -splitDisjunctions))); all_goals try (repeat' ((first | ((with_reducible first | refine And.intro ?_ ?_ | refine Exists.intro ?_ ?_); first | omega | (simp <;> omega)) | (with_reducible refine spl (And.intro ?_ ?_) <;> intro _) | (refine CL.clo (hk1) ?_) | (refine CM.clo (hk1) ?_) | (refine CD.clo (hk1) ?_)) <;> ((try simp (implicitDefEqProofs := false)); (try simp (implicitDefEqProofs := false) (disch := first | assumption | (try simp only [lens]); omega -splitDisjunctions))))))
        refine CL.giv [2] ?_
        (((try simp (implicitDefEqProofs := false)); (try simp (implicitDefEqProofs := false) (disch := first | assumption | (try simp only [lens]); omega -splitDisjunctions))); all_goals try (repeat' ((first | ((with_reducible first | refine And.intro ?_ ?_ | refine Exists.intro ?_ ?_); first | omega | (simp <;> omega)) | (with_reducible refine spl (And.intro ?_ ?_) <;> intro _) | (refine CL.clo (hk2) ?_) | (refine CM.clo (hk2) ?_) | (refine CD.clo (hk2) ?_) | (refine CL.clo (hl1) ?_) | (refine CM.clo (hl1) ?_) | (refine CD.clo (hl1) ?_) | (refine CL.clo (hl2) ?_) | (refine CM.clo (hl2) ?_) | (refine CD.clo (hl2) ?_) | (refine CL.clo (hsJ) ?_) | (refine CM.clo (hsJ) ?_) | (refine CD.clo (hsJ) ?_) | (refine CL.clo (hsM) ?_) | (refine CM.clo (hsM) ?_) | (refine CD.clo (hsM) ?_)) <;> ((try simp (implicitDefEqProofs := false)); (try simp (implicitDefEqProofs := false) (disch := first | assumption | (try simp only [lens]); omega -splitDisjunctions))))))
        clear hsJ hsM hf hbg
        have hrow : ∀ (f : Nat → Nat → Nat) (x : Nat), x < L → ((List.range L).map (nRow n f))[x]? = some (nRow n f x) := by
          intro f x hx
          rw [List.getElem?_map, List.getElem?_range hx]; rfl
        have hcell : ∀ (f : Nat → Nat → Nat) (x y : Nat), y < n → (nRow n f x) = [.list ((List.range n).map fun b => [.int .i64 (f x b : Int)])] := fun f x y hy => rfl
        refine W_of fun Q hQ => ?_
        have main : ∀ k x, x + k = L → Q [(1, .ptr 0 0 0), (9, .list ((List.range L).map (nRow n J))), (10, .list ((List.range L).map (nRow n M))), (13, .int .i64 (x : Int))] [.rows 2 [[.int .i64 (n : Int), .list (E.map relRow)]]] := by
          intro k
          induction k with
          | succ k ih =>
            intro x hx
            have ih := ih (x + 1) (by omega)
            have hxl : x < L := by omega
            apply hQ
            clear hQ
            (((try simp (implicitDefEqProofs := false) [hxl, hrow, nRow]); (try simp (implicitDefEqProofs := false) (disch := first | assumption | (try simp only [lens]); omega -splitDisjunctions) [hxl, hrow, nRow])); all_goals try (repeat' ((first | ((with_reducible first | refine And.intro ?_ ?_ | refine Exists.intro ?_ ?_); first | omega | (simp <;> omega)) | (with_reducible refine spl (And.intro ?_ ?_) <;> intro _)) <;> ((try simp (implicitDefEqProofs := false) [hxl, hrow, nRow]); (try simp (implicitDefEqProofs := false) (disch := first | assumption | (try simp only [lens]); omega -splitDisjunctions) [hxl, hrow, nRow])))))
            exact ih
          | zero =>
            intro x hx
            obtain rfl : x = L := by omega
            apply hQ
            clear hQ
            (((try simp (implicitDefEqProofs := false)); (try simp (implicitDefEqProofs := false) (disch := first | assumption | (try simp only [lens]); omega -splitDisjunctions))); all_goals try (repeat' ((first | ((with_reducible first | refine And.intro ?_ ?_ | refine Exists.intro ?_ ?_); first | omega | (simp <;> omega)) | (with_reducible refine spl (And.intro ?_ ?_) <;> intro _)) <;> ((try simp (implicitDefEqProofs := false)); (try simp (implicitDefEqProofs := false) (disch := first | assumption | (try simp only [lens]); omega -splitDisjunctions))))))
            have hcl : ∀ (f : Nat → Nat → Nat) (a y : Nat), y < n → ((List.range n).map (nCell f a))[y]? = some (nCell f a y) := by
              intro f a y hy
              rw [List.getElem?_map, List.getElem?_range hy]; rfl
            refine W_of fun Q hQ => ?_
            have main : ∀ k a, a + k = x → Q [(1, .ptr 0 0 0), (9, .list ((List.range x).map (nRow n J))), (10, .list ((List.range x).map (nRow n M))), (14, .int .i64 (a : Int))] [.rows 2 [[.int .i64 (n : Int), .list (E.map relRow)]]] := by
              intro k
              induction k with
              | zero =>
                intro a ha
                obtain rfl : a = x := by omega
                apply hQ
                clear hQ
                (((try simp (implicitDefEqProofs := false)); (try simp (implicitDefEqProofs := false) (disch := first | assumption | (try simp only [lens]); omega -splitDisjunctions))); all_goals try (repeat' ((first | ((with_reducible first | refine And.intro ?_ ?_ | refine Exists.intro ?_ ?_); first | omega | (simp <;> omega)) | (with_reducible refine spl (And.intro ?_ ?_) <;> intro _)) <;> ((try simp (implicitDefEqProofs := false)); (try simp (implicitDefEqProofs := false) (disch := first | assumption | (try simp only [lens]); omega -splitDisjunctions))))))
              | succ k ih =>
                intro a ha
                have ih := ih (a + 1) (by omega)
                have hax : a < x := by omega
                apply hQ
                clear hQ
                (((try simp (implicitDefEqProofs := false) [hax]); (try simp (implicitDefEqProofs := false) (disch := first | assumption | (try simp only [lens]); omega -splitDisjunctions) [hax])); all_goals try (repeat' ((first | ((with_reducible first | refine And.intro ?_ ?_ | refine Exists.intro ?_ ?_); first | omega | (simp <;> omega)) | (with_reducible refine spl (And.intro ?_ ?_) <;> intro _)) <;> ((try simp (implicitDefEqProofs := false) [hax]); (try simp (implicitDefEqProofs := false) (disch := first | assumption | (try simp only [lens]); omega -splitDisjunctions) [hax])))))
                refine W_of fun Q hQ => ?_
                have main : ∀ k b, b + k = x → Q [(1, .ptr 0 0 0), (9, .list ((List.range x).map (nRow n J))), (10, .list ((List.range x).map (nRow n M))), (14, .int .i64 (a : Int)), (15, .int .i64 (b : Int))] [.rows 2 [[.int .i64 (n : Int), .list (E.map relRow)]]] := by
                  intro k
                  induction k with
                  | zero =>
                    intro b hb
                    obtain rfl : b = x := by omega
                    apply hQ
                    clear hQ
                    (((try simp (implicitDefEqProofs := false)); (try simp (implicitDefEqProofs := false) (disch := first | assumption | (try simp only [lens]); omega -splitDisjunctions))); all_goals try (repeat' ((first | ((with_reducible first | refine And.intro ?_ ?_ | refine Exists.intro ?_ ?_); first | omega | (simp <;> omega)) | (with_reducible refine spl (And.intro ?_ ?_) <;> intro _)) <;> ((try simp (implicitDefEqProofs := false)); (try simp (implicitDefEqProofs := false) (disch := first | assumption | (try simp only [lens]); omega -splitDisjunctions))))))
                    exact ih
                  | succ k ih =>
                    intro b hb
                    have ih := ih (b + 1) (by omega)
                    have hbx : b < x := by omega
                    have hfa := hfact a b hax hbx
                    obtain ⟨f1, f2, f3, f4, f5, f6⟩ := hfa
                    have hbn : b < n := by omega
                    have han : a < n := by omega
                    apply hQ
                    clear hQ
                    (((try simp (implicitDefEqProofs := false) [hax, hbx, hrow, nRow, nCell, hcl, hbn, han, f1, f2, f3, f4, f5, f6]); (try simp (implicitDefEqProofs := false) (disch := first | assumption | (try simp only [lens]); omega -splitDisjunctions) [hax, hbx, hrow, nRow, nCell, hcl, hbn, han, f1, f2, f3, f4, f5, f6])); all_goals try (repeat' ((first | ((with_reducible first | refine And.intro ?_ ?_ | refine Exists.intro ?_ ?_); first | omega | (simp <;> omega)) | (with_reducible refine spl (And.intro ?_ ?_) <;> intro _)) <;> ((try simp (implicitDefEqProofs := false) [hax, hbx, hrow, nRow, nCell, hcl, hbn, han, f1, f2, f3, f4, f5, f6]); (try simp (implicitDefEqProofs := false) (disch := first | assumption | (try simp only [lens]); omega -splitDisjunctions) [hax, hbx, hrow, nRow, nCell, hcl, hbn, han, f1, f2, f3, f4, f5, f6])))))
                    exact ih
                refine at2 (main _ 0 (Nat.zero_add _)) ?_ ?_ <;> simp
            refine at2 (main _ 0 (Nat.zero_add _)) ?_ ?_ <;> simp
        refine at2 (main _ 0 (Nat.zero_add _)) ?_ ?_ <;> simp
    refine at2 (main _ 0 (Nat.zero_add _)) ?_ ?_ <;> simp
  · generalize ofault o = w at hf hz ⊢
    obtain ⟨n, E⟩ := o
    simp only [ord] at hf ⊢
    (((try simp (implicitDefEqProofs := false) [hz]); (try simp (implicitDefEqProofs := false) (disch := first | assumption | (try simp only [lens]); omega -splitDisjunctions) [hz])); all_goals try (repeat' ((first | ((with_reducible first | refine And.intro ?_ ?_ | refine Exists.intro ?_ ?_); first | omega | (simp <;> omega)) | (with_reducible refine spl (And.intro ?_ ?_) <;> intro _) | (refine CL.clo (hbg) ?_) | (refine CM.clo (hbg) ?_) | (refine CD.clo (hbg) ?_) | (refine CL.clo (hf) ?_) | (refine CM.clo (hf) ?_) | (refine CD.clo (hf) ?_)) <;> ((try simp (implicitDefEqProofs := false) [hz]); (try simp (implicitDefEqProofs := false) (disch := first | assumption | (try simp only [lens]); omega -splitDisjunctions) [hz])))))
end Go.Proofs.Ythnobaacfjihcaa
