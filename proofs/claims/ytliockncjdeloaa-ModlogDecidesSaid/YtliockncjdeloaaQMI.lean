/-
  modlog: newScene.
-/
import Derived.Test.YtliockncjdeloaaQMH
namespace Go.Proofs.Ytliockncjdeloaa
open Go Go.Pv
set_option linter.unusedVariables false
set_option linter.unusedSimpArgs false
set_option maxRecDepth 100000
set_option maxHeartbeats 4000000

def bitsN (p : Nat → Bool) : Nat → Nat
  | 0 => 0
  | i + 1 => if p i = true then bitsN p i ||| 2 ^ i else bitsN p i
theorem bitsN_lt (p : Nat → Bool) : ∀ n, bitsN p n < 2 ^ n
  | 0 => by simp [bitsN]
  | n + 1 => by
    have h := bitsN_lt p n
    have h2 : bitsN p n < 2 ^ (n + 1) := Nat.lt_of_lt_of_le h (Nat.pow_le_pow_right (by decide) (by omega))
    rw [bitsN]; split
    · exact Nat.or_lt_two_pow h2 (Nat.pow_lt_pow_right (by decide) (by omega))
    · exact h2
theorem bitsN_bit (p : Nat → Bool) (j : Nat) : ∀ n, (bitsN p n).testBit j = (decide (j < n) && p j)
  | 0 => by simp [bitsN]
  | n + 1 => by
    rw [bitsN]; split
    · rename_i h
      rw [Nat.testBit_or, bitsN_bit p j n, Nat.testBit_two_pow]
      by_cases e : n = j
      · subst e; simp [h]
      · have : (j < n + 1) = (j < n) := by apply propext; omega
        simp [e, this]
    · rename_i h
      rw [bitsN_bit p j n]
      by_cases e : n = j
      · subst e; simp [h]
      · have : (j < n + 1) = (j < n) := by apply propext; omega
        simp [this]
theorem shl_nat (i : Nat) (hi : i ≤ 20) : shlI .i64 1 (i : Int) = ((2 ^ i : Nat) : Int) := by
  have h0 : shlI .i64 1 (i : Int) = IntKind.i64.wrap (1 * 2 ^ (min i 64)) := rfl
  have h : 2 ^ i ≤ 2 ^ 20 := Nat.pow_le_pow_right (by decide) hi
  rw [h0, Nat.min_eq_left (by omega), Int.one_mul, show ((2 : Int) ^ i) = ((2 ^ i : Nat) : Int) by simp]
  generalize 2 ^ i = x at h ⊢
  rw [wrap64 (by omega) (by omega)]
def kindB (l : List Fm) (k : Int) (j : Nat) : Bool := match l[j]? with | some g => decide (g.kind = k) | none => false
/-- where the parts of a part stand -/
noncomputable def idxF (l : List Fm) (k : Fm) : Nat := (indexF (sameB k) l).toNat
noncomputable def idxRow (l : List Fm) (k : Fm) : List PV := numRow (idxF l k)
instance (l : List Fm) : FlatRow (idxRow l) := ⟨fun x => FlatRow.flat (g := numRow) _⟩
noncomputable def kidsL (l : List Fm) (g : Fm) : List Nat := g.kids.map (idxF l)
noncomputable def kidRow (l : List Fm) (g : Fm) : List PV := numsRow (kidsL l g)
instance (l : List Fm) : FlatRow (kidRow l) := ⟨fun x => FlatRow.flat (g := numsRow) _⟩
theorem indexF_mem {l : List Fm} {k : Fm} (h : k ∈ l) : ∃ i : Nat, ∃ h : i < l.length, indexF (sameB k) l = i ∧ l[i] = k := by
  unfold indexF
  cases hf : l.findIdx? (sameB k) with
  | none =>
    rw [List.findIdx?_eq_none_iff] at hf
    have := hf k h
    rw [(sameB_iff).2 rfl] at this
    cases this
  | some i =>
    rw [List.findIdx?_eq_some_iff_getElem] at hf
    obtain ⟨h1, h2, _⟩ := hf
    exact ⟨i, h1, rfl, (sameB_iff.1 h2).symm⟩
theorem partsS_mem {x : Fm} : ∀ {had : List ByteArray} {l : List Fm}, x ∈ partsS had l → x ∈ l
  | had, [], h => by cases h
  | had, y :: r, h => by
    rw [partsS] at h
    split at h
    · exact List.mem_cons_of_mem _ (partsS_mem h)
    · rcases List.mem_cons.1 h with rfl | h
      · exact List.mem_cons_self
      · exact List.mem_cons_of_mem _ (partsS_mem h)
noncomputable def sceneOf (lg : Nat) (l : List Fm) (ws : List Nat) : Sc := ⟨lg, l, l.map (kidsL l), ws, bitsN (kindB l 8) l.length, bitsN (kindB l 9) l.length⟩
theorem scene_scn (lg : Nat) (l : List Fm) (ws : List Nat) : scn (sceneOf lg l ws) = [.int .i64 (lg : Int), .list (l.map frm), .list (l.map (kidRow l)), .list (ws.map numRow), .int .i64 (bitsN (kindB l 8) l.length : Int), .int .i64 (bitsN (kindB l 9) l.length : Int)] := by
  unfold scn sceneOf
  simp only [List.map_map]
  rfl
theorem scene_locl (lg : Nat) (l : List Fm) (ws : List Nat) (x : Nat) : (sceneOf lg l ws).locl x = (sceneOf lg l []).locl x := rfl
theorem scene_ok (lg : Nat) (l : List Fm) (ws : List Nat) (hok : ∀ f ∈ l, OkF (fun n => isNameB n = true) f) (hl : l.length ≤ 10) (hkid : ∀ g ∈ l, ∀ k ∈ g.kids, k ∈ l) (hw : ∀ x ∈ ws, x < 1048576) : (sceneOf lg l ws).OK where
  ok := hok
  few := by show l.length ≤ 20; omega
  len := by simp [sceneOf]
  kl := fun i h => by simp [sceneOf, kidsL]
  kb := fun r hr k hk => by
    simp only [sceneOf, List.mem_map] at hr
    obtain ⟨g, hg, rfl⟩ := hr
    simp only [kidsL, List.mem_map] at hk
    obtain ⟨k0, hk0, rfl⟩ := hk
    obtain ⟨j, hj, h, _⟩ := indexF_mem (hkid g hg k0 hk0)
    unfold idxF
    omega
  wb := hw
  bb := Nat.lt_of_lt_of_le (bitsN_lt _ _) (Nat.le_trans (Nat.pow_le_pow_right (by decide) (show l.length ≤ 20 by omega)) (by decide))
  db := Nat.lt_of_lt_of_le (bitsN_lt _ _) (Nat.le_trans (Nat.pow_le_pow_right (by decide) (show l.length ≤ 20 by omega)) (by decide))
/-- what is left when nothing goes any more -/
noncomputable def elim (lg : Nat) (l : List Fm) : Nat → List Nat → List Nat
  | 0, ws => ws
  | n + 1, ws => if (ws.filter (sceneOf lg l ws).whole).length = ws.length then ws else elim lg l n (ws.filter (sceneOf lg l ws).whole)
theorem elim_inv {lg : Nat} {l : List Fm} (P : List Nat → Prop) (hs : ∀ ws, P ws → P (ws.filter (sceneOf lg l ws).whole)) : ∀ n ws, P ws → P (elim lg l n ws)
  | 0, ws, h => h
  | n + 1, ws, h => by
    rw [elim]; split
    · exact h
    · exact elim_inv P hs n _ (hs _ h)
theorem elim_fix {lg : Nat} {l : List Fm} : ∀ n ws, ws.length ≤ n → ∀ x ∈ elim lg l n ws, (sceneOf lg l (elim lg l n ws)).whole x = true
  | 0, ws, h, x, hx => by
    have : ws = [] := List.eq_nil_of_length_eq_zero (by omega)
    rw [elim, this] at hx; cases hx
  | n + 1, ws, h, x, hx => by
    rw [elim] at hx ⊢
    split at hx
    · rename_i h1
      rw [if_pos h1]
      have h2 : ws.filter (sceneOf lg l ws).whole = ws := (List.filter_sublist).eq_of_length h1
      rw [← h2] at hx
      exact (List.mem_filter.1 hx).2
    · rename_i h1
      rw [if_neg h1]
      have := List.length_filter_le (sceneOf lg l ws).whole ws
      exact elim_fix n _ (by omega) x hx
def x28_L7 : XC := .block 8 (.seq (.reg [⟨some 104,.load 56 (.tmp 5),none⟩,⟨some 105,.nilCheck (.tmp 104),none⟩,⟨some 106,.fieldAddr 62 (.tmp 105) 3,none⟩,⟨some 107,.load 59 (.tmp 106),none⟩,⟨some 108,.call ⟨.value (.func 54),#[.tmp 107],#[59]⟩,none⟩,⟨some 109,.makeFunc (.func 55) #[] #[.tmp 5],none⟩,⟨some 110,.call ⟨.value (.func 53),#[.tmp 108,.tmp 109],#[59,64]⟩,none⟩,⟨some 12,.assign (.tmp 110),none⟩]) (.seq (.seq (.reg [⟨some 111,.move (.tmp 12),none⟩,⟨some 112,.call ⟨.builtin .len,#[.tmp 111],#[59]⟩,none⟩,⟨some 113,.load 56 (.tmp 5),none⟩,⟨some 114,.nilCheck (.tmp 113),none⟩,⟨some 115,.fieldAddr 62 (.tmp 114) 3,none⟩,⟨some 116,.load 59 (.tmp 115),none⟩,⟨some 117,.call ⟨.builtin .len,#[.tmp 116],#[59]⟩,none⟩,⟨some 118,.binOp .eql 3 (.tmp 112) (.tmp 117) 3,none⟩]) (.cond (.tmp 118) (.seq (.reg [⟨some 119,.load 56 (.tmp 5),none⟩,⟨some 4,.assign (.tmp 119),none⟩]) (.ret)) (.skip))) (.reg [⟨some 120,.load 56 (.tmp 5),none⟩,⟨some 121,.move (.tmp 12),none⟩,⟨some 122,.nilCheck (.tmp 120),none⟩,⟨some 123,.fieldAddr 62 (.tmp 122) 3,none⟩,⟨none,.store 59 (.tmp 123) (.tmp 121),none⟩])))
def x28_T5 : XC := .bloop 7 x28_L7
def x28_L5 : XC := .seq (.reg [⟨some 88,.binOp .lss 3 (.tmp 87) (.tmp 86) 3,none⟩]) (.seq (.cond (.tmp 88) (.skip) (.exit 5)) (.seq (.block 6 (.seq (.reg [⟨some 89,.move (.tmp 87),none⟩,⟨some 11,.assign (.tmp 89),none⟩]) (.seq (.reg [⟨some 90,.load 56 (.tmp 5),none⟩,⟨some 91,.move (.tmp 11),none⟩,⟨some 92,.call ⟨.value (.func 52),#[.tmp 90,.tmp 91],#[56,3]⟩,none⟩]) (.cond (.tmp 92) (.drawn 22 [⟨some 93,.load 56 (.tmp 5),none⟩,⟨some 94,.load 56 (.tmp 5),none⟩,⟨some 95,.nilCheck (.tmp 94),none⟩,⟨some 96,.fieldAddr 62 (.tmp 95) 3,none⟩,⟨some 97,.load 59 (.tmp 96),none⟩,⟨some 98,.move (.tmp 11),none⟩,⟨some 99,.buildSlice 59 1 #[(0,.tmp 98)],none⟩,⟨some 100,.call ⟨.builtin .append,#[.tmp 97,.tmp 99],#[59,59]⟩,none⟩,⟨some 101,.nilCheck (.tmp 93),none⟩,⟨some 102,.fieldAddr 62 (.tmp 101) 3,none⟩,⟨none,.store 59 (.tmp 102) (.tmp 100),none⟩]) (.skip))))) (.reg [⟨some 103,.binOp .add 3 (.tmp 87) (.const (.int .i64 1)) 3,none⟩,⟨some 87,.move (.tmp 103),none⟩])))
def x28_T3 : XC := .seq (.seq (.reg [⟨some 81,.load 56 (.tmp 5),none⟩,⟨some 82,.nilCheck (.tmp 81),none⟩,⟨some 83,.fieldAddr 62 (.tmp 82) 1,none⟩,⟨some 84,.load 22 (.tmp 83),none⟩,⟨some 85,.call ⟨.builtin .len,#[.tmp 84],#[22]⟩,none⟩,⟨some 86,.binOp .shl 3 (.const (.int .i64 1)) (.tmp 85) 3,none⟩,⟨some 87,.move (.const (.int .i64 0)),none⟩]) (.bloop 5 x28_L5)) (x28_T5)
def x28_T2 : XC := .seq (.drawn 11 [⟨some 46,.load 56 (.tmp 5),none⟩,⟨some 47,.load 56 (.tmp 5),none⟩,⟨some 48,.nilCheck (.tmp 47),none⟩,⟨some 49,.fieldAddr 62 (.tmp 48) 2,none⟩,⟨some 50,.load 60 (.tmp 49),none⟩,⟨some 51,.move (.tmp 8),none⟩,⟨some 52,.buildSlice 60 1 #[(0,.tmp 51)],none⟩,⟨some 53,.call ⟨.builtin .append,#[.tmp 50,.tmp 52],#[60,60]⟩,none⟩,⟨some 54,.nilCheck (.tmp 46),none⟩,⟨some 55,.fieldAddr 62 (.tmp 54) 2,none⟩,⟨none,.store 60 (.tmp 55) (.tmp 53),none⟩]) (.seq (.reg [⟨some 56,.fieldAddr 24 (.tmp 7) 0,none⟩,⟨some 57,.load 3 (.tmp 56),none⟩]) (.block 4 (.seq (.reg [⟨some 59,.binOp .eql 3 (.tmp 57) (.const (.int .i64 8)) 3,none⟩,⟨some 58,.assign (.tmp 59),none⟩]) (.cond (.tmp 58) (.drawn 14 [⟨some 60,.load 56 (.tmp 5),none⟩,⟨some 61,.nilCheck (.tmp 60),none⟩,⟨some 62,.fieldAddr 62 (.tmp 61) 4,none⟩,⟨some 63,.load 3 (.tmp 62),none⟩,⟨some 64,.move (.tmp 6),none⟩,⟨some 65,.binOp .shl 3 (.const (.int .i64 1)) (.tmp 64) 3,none⟩,⟨some 66,.binOp .or 3 (.tmp 63) (.tmp 65) 3,none⟩,⟨some 67,.nilCheck (.tmp 60),none⟩,⟨some 68,.fieldAddr 62 (.tmp 67) 4,none⟩,⟨none,.store 3 (.tmp 68) (.tmp 66),none⟩]) (.seq (.reg [⟨some 70,.binOp .eql 3 (.tmp 57) (.const (.int .i64 9)) 3,none⟩,⟨some 69,.assign (.tmp 70),none⟩]) (.cond (.tmp 69) (.drawn 16 [⟨some 71,.load 56 (.tmp 5),none⟩,⟨some 72,.nilCheck (.tmp 71),none⟩,⟨some 73,.fieldAddr 62 (.tmp 72) 5,none⟩,⟨some 74,.load 3 (.tmp 73),none⟩,⟨some 75,.move (.tmp 6),none⟩,⟨some 76,.binOp .shl 3 (.const (.int .i64 1)) (.tmp 75) 3,none⟩,⟨some 77,.binOp .or 3 (.tmp 74) (.tmp 76) 3,none⟩,⟨some 78,.nilCheck (.tmp 71),none⟩,⟨some 79,.fieldAddr 62 (.tmp 78) 5,none⟩,⟨none,.store 3 (.tmp 79) (.tmp 77),none⟩]) (.skip)))))))
def x28_L2 : XC := .seq (.reg [⟨some 33,.binOp .lss 3 (.tmp 32) (.tmp 31) 3,none⟩]) (.seq (.cond (.tmp 33) (.skip) (.exit 2)) (.seq (.block 3 (.seq (.reg [⟨some 34,.indexAddr 22 (.tmp 30) (.tmp 32),none⟩,⟨some 35,.load 24 (.tmp 34),none⟩,⟨some 10,.alloc 24,none⟩,⟨none,.store 24 (.tmp 10) (.tmp 35),none⟩]) (.reg [⟨some 36,.move (.tmp 8),none⟩,⟨some 37,.load 56 (.tmp 5),none⟩,⟨some 38,.nilCheck (.tmp 37),none⟩,⟨some 39,.fieldAddr 62 (.tmp 38) 1,none⟩,⟨some 40,.load 22 (.tmp 39),none⟩,⟨some 41,.makeFunc (.func 50) #[] #[.tmp 10],none⟩,⟨some 42,.call ⟨.value (.func 49),#[.tmp 40,.tmp 41],#[22,54]⟩,none⟩,⟨some 43,.buildSlice 59 1 #[(0,.tmp 42)],none⟩,⟨some 44,.call ⟨.builtin .append,#[.tmp 36,.tmp 43],#[59,59]⟩,none⟩,⟨some 8,.assign (.tmp 44),none⟩]))) (.reg [⟨some 45,.binOp .add 3 (.tmp 32) (.const (.int .i64 1)) 3,none⟩,⟨some 32,.move (.tmp 45),none⟩])))
def x28_L0 : XC := .seq (.reg [⟨some 25,.binOp .lss 3 (.tmp 24) (.tmp 23) 3,none⟩]) (.seq (.cond (.tmp 25) (.skip) (.exit 0)) (.seq (.block 1 (.seq (.reg [⟨some 26,.move (.tmp 24),none⟩,⟨some 27,.indexAddr 22 (.tmp 22) (.tmp 24),none⟩,⟨some 28,.load 24 (.tmp 27),none⟩,⟨some 7,.alloc 24,none⟩,⟨some 6,.assign (.tmp 26),none⟩,⟨none,.store 24 (.tmp 7) (.tmp 28),none⟩]) (.seq (.reg [⟨some 8,.assign (.const (.slice none 0 0)),none⟩]) (.seq (.seq (.reg [⟨some 29,.fieldAddr 24 (.tmp 7) 2,none⟩,⟨some 30,.load 22 (.tmp 29),none⟩,⟨some 31,.call ⟨.builtin .len,#[.tmp 30],#[22]⟩,none⟩,⟨some 32,.move (.const (.int .i64 0)),none⟩]) (.bloop 2 x28_L2)) (x28_T2))))) (.reg [⟨some 80,.binOp .add 3 (.tmp 24) (.const (.int .i64 1)) 3,none⟩,⟨some 24,.move (.tmp 80),none⟩])))
def x28 : XC := .seq (.reg [⟨some 3,.box 24 (.tmp 1),none⟩,⟨some 4,.assign (.const (.pointer none)),none⟩]) (.seq (.reg [⟨some 13,.move (.tmp 0),none⟩,⟨some 14,.load 24 (.tmp 3),none⟩,⟨some 15,.buildSlice 22 1 #[(0,.tmp 14)],none⟩,⟨some 16,.call ⟨.value (.func 27),#[.tmp 15],#[22]⟩,none⟩,⟨some 17,.build 62 #[(0,.tmp 13),(1,.tmp 16)],none⟩,⟨some 18,.box 62 (.tmp 17),none⟩,⟨some 5,.alloc 56,none⟩,⟨none,.store 56 (.tmp 5) (.tmp 18),none⟩]) (.seq (.seq (.reg [⟨some 19,.load 56 (.tmp 5),none⟩,⟨some 20,.nilCheck (.tmp 19),none⟩,⟨some 21,.fieldAddr 62 (.tmp 20) 1,none⟩,⟨some 22,.load 22 (.tmp 21),none⟩,⟨some 23,.call ⟨.builtin .len,#[.tmp 22],#[22]⟩,none⟩,⟨some 24,.move (.const (.int .i64 0)),none⟩]) (.bloop 0 x28_L0)) (x28_T3)))
@[simp] theorem x28_s {C : WC} {e : AE} {s : Store} {K : KS} : type_of% (@X_at C e s K _ _ x28_L7.eq_1) ∧ type_of% (@X_at C e s K _ _ x28_T5.eq_1) ∧ type_of% (@X_at C e s K _ _ x28_L5.eq_1) ∧ type_of% (@X_at C e s K _ _ x28_T3.eq_1) ∧ type_of% (@X_at C e s K _ _ x28_T2.eq_1) ∧ type_of% (@X_at C e s K _ _ x28_L2.eq_1) ∧ type_of% (@X_at C e s K _ _ x28_L0.eq_1) ∧ type_of% (@X_at C e s K _ _ x28.eq_1) := ⟨X_at x28_L7.eq_1, X_at x28_T5.eq_1, X_at x28_L5.eq_1, X_at x28_T3.eq_1, X_at x28_T2.eq_1, X_at x28_L2.eq_1, X_at x28_L0.eq_1, X_at x28.eq_1⟩
def an28 : Ann := ⟨[(11, .mix3 7 0), (22, .mix3 7 0)], [(7, [], [5], [4]), (5, [(5, some 1003, 1)], [5, 86, 87], [5]), (2, [(8, none, 1), (5, some 1002, 1)], [5, 6, 7, 8, 22, 23, 24, 30, 31, 32], [5, 6, 7, 8, 22, 23, 24]), (0, [(5, some 1002, 1)], [5, 22, 23, 24], [5])], [(11, [8]), (22, [11])]⟩
def cx28 (P : Program) (m : Nat) : WC := ⟨P, m, an28⟩
@[simp] theorem cx28_a {P : Program} {m : Nat} : (cx28 P m).P = P ∧ (cx28 P m).m = m ∧ (cx28 P m).A.clsOf 11 = .mix3 7 0 ∧ (cx28 P m).A.clsOf 14 = .draw ∧ (cx28 P m).A.clsOf 16 = .draw ∧ (cx28 P m).A.clsOf 22 = .mix3 7 0 ∧ (cx28 P m).A.frzOf 11 = [8] ∧ (cx28 P m).A.frzOf 14 = [] ∧ (cx28 P m).A.frzOf 16 = [] ∧ (cx28 P m).A.frzOf 22 = [11] ∧ (cx28 P m).A.loopOf 7 = ([], [5], [4]) ∧ (cx28 P m).A.loopOf 5 = ([(5, some 1003, 1)], [5, 86, 87], [5]) ∧ (cx28 P m).A.loopOf 2 = ([(8, none, 1), (5, some 1002, 1)], [5, 6, 7, 8, 22, 23, 24, 30, 31, 32], [5, 6, 7, 8, 22, 23, 24]) ∧ (cx28 P m).A.loopOf 0 = ([(5, some 1002, 1)], [5, 22, 23, 24], [5]) := ⟨rfl, rfl, rfl, rfl, rfl, rfl, rfl, rfl, rfl, rfl, rfl, rfl, rfl, rfl⟩
instance {P : Program} {m f : Nat} [h : EnT P f] : EnT (cx28 P m).P f := h
theorem chk28 : ∀ c, Try.f28.body = some c → chkC Try.f28.ntmps an28 c = true := by intro c h; obtain rfl := Option.some.inj h; decide +kernel
theorem op28 {args : List PV} {v : PV} (h : X (cx28 Try.prog 0) x28 (argsA 0 args) [] (.fin [.tmp 4] fun v1 s1 => deref s1 6 v1 = v)) (hl : args.length ≤ Try.f28.ntmps := by rw [Try.ntmps28]; simp) : CallOK Try.prog 28 args [] v [] :=
  callX (m := 0) (cx28 Try.prog 0) x28 rfl rfl (by kernel_rfl) Try.func28 rfl rfl hl mixed (chk28 _ rfl) (by rw [Try.results28]; exact h)

theorem newScene_modlog (lg : Nat) (f : Fm) (hf : OkF (fun n => isNameB n = true) f) (hl : (pre f).length ≤ 200) (hp : (partsS [] (pre f)).length ≤ 10) (hkid : ∀ g ∈ partsS [] (pre f), ∀ k ∈ g.kids, k ∈ partsS [] (pre f))
    (Inv : List Nat → Prop) (hI0 : Inv ((List.range (2 ^ (partsS [] (pre f)).length)).filter (sceneOf lg (partsS [] (pre f)) []).locl)) (hIs : ∀ ws, Inv ws → Inv (ws.filter (sceneOf lg (partsS [] (pre f)) ws).whole)) (hIn : ∀ ws, Inv ws → 0 < ws.length) : CallOK Try.prog 28 [.int .i64 (lg : Int), .agg (frm f)] [] (.iptr (scn (sceneOf lg (partsS [] (pre f)) (elim lg (partsS [] (pre f)) (2 ^ (partsS [] (pre f)).length) ((List.range (2 ^ (partsS [] (pre f)).length)).filter (sceneOf lg (partsS [] (pre f)) []).locl))))) [] := by
  have hq := PartsOf_formula f hf hl
  refine op28 ?_
  ((try simp (implicitDefEqProofs := false) (disch := first | assumption | (try simp only [lens]); omega -splitDisjunctions)); all_goals try (repeat' ((first | ((with_reducible first | refine And.intro ?_ ?_ | refine Exists.intro ?_ ?_); first | omega | (simp <;> omega)) | (with_reducible refine spl (And.intro ?_ ?_) <;> intro _)) <;> (try simp (implicitDefEqProofs := false) (disch := first | assumption | (try simp only [lens]); omega -splitDisjunctions)))))
  refine CL.giv [1] ?_
  ((try simp (implicitDefEqProofs := false) (disch := first | assumption | (try simp only [lens]); omega -splitDisjunctions)); all_goals try (repeat' ((first | ((with_reducible first | refine And.intro ?_ ?_ | refine Exists.intro ?_ ?_); first | omega | (simp <;> omega)) | (with_reducible refine spl (And.intro ?_ ?_) <;> intro _) | (refine CL.clo (hq) ?_) | (refine CM.clo (hq) ?_) | (refine CD.clo (hq) ?_)) <;> (try simp (implicitDefEqProofs := false) (disch := first | assumption | (try simp only [lens]); omega -splitDisjunctions)))))
  generalize hw : partsS [] (pre f) = l at hp hq hkid hI0 hIs ⊢
  generalize hR : elim lg l (2 ^ l.length) ((List.range (2 ^ l.length)).filter (sceneOf lg l []).locl) = R
  rw [scene_scn]
  have hOK := fun ws h => scene_ok lg l ws (fun x hx => (pre_sub f hf x (partsS_mem (hw ▸ hx))).1) hp hkid h
  refine W_of fun Q hQ => ?_
  have hbits : ∀ k i, i ≤ l.length → bitsN (kindB l k) i < 1048576 := fun k i hi => Nat.lt_of_lt_of_le (bitsN_lt _ i) (Nat.le_trans (Nat.pow_le_pow_right (by decide) (show i ≤ 20 by omega)) (by decide))
  have main : ∀ n i, i + n = l.length → Q [(5, .ptr 0 0 0), (22, .list (l.map frm)), (23, .int .i64 (l.length : Int)), (24, .int .i64 (i : Int))] [.rows 1 [[.ptr 1 0 0]], .rows 6 [[.int .i64 (lg : Int), .list (l.map frm), .sl 2 0 i, .nilsl, .int .i64 (bitsN (kindB l 8) i : Int), .int .i64 (bitsN (kindB l 9) i : Int)]], .rows 1 ((l.take i).map (kidRow l))] := by
    intro n
    induction n with
    | zero =>
      intro i hi
      obtain rfl : i = l.length := by omega
      have hsh := shl_nat l.length (by omega)
      generalize hM : 2 ^ l.length = M at hsh hI0 hR
      have hM2 : M ≤ 1024 := by rw [← hM]; exact Nat.le_trans (Nat.pow_le_pow_right (by decide) (show l.length ≤ 10 by omega)) (by decide)
      apply hQ
      ((try simp (implicitDefEqProofs := false) (disch := first | assumption | (try simp only [lens]); omega -splitDisjunctions) [hsh]); all_goals try (repeat' ((first | ((with_reducible first | refine And.intro ?_ ?_ | refine Exists.intro ?_ ?_); first | omega | (simp <;> omega)) | (with_reducible refine spl (And.intro ?_ ?_) <;> intro _)) <;> (try simp (implicitDefEqProofs := false) (disch := first | assumption | (try simp only [lens]); omega -splitDisjunctions) [hsh]))))
      have hscn := fun ws => scene_scn lg l ws
      generalize hbb : bitsN (kindB l 8) l.length = bb at hscn ⊢
      generalize hdd : bitsN (kindB l 9) l.length = dd at hscn ⊢
      refine W_of fun Q3 hQ3 => ?_
      have main3 : ∀ n3 x, x + n3 = M → Q3 [(5, .ptr 0 0 0), (86, .int .i64 (M : Int)), (87, .int .i64 (x : Int))] [.rows 1 [[.ptr 1 0 0]], .rows 6 [[.int .i64 (lg : Int), .list (l.map frm), .sl 2 0 l.length, .sl 3 0 ((List.range x).filter (sceneOf lg l []).locl).length, .int .i64 (bb : Int), .int .i64 (dd : Int)]], .rows 1 (l.map (kidRow l)), .rows 1 (((List.range x).filter (sceneOf lg l []).locl).map numRow)] := by
        intro n3
        induction n3 with
        | zero =>
          intro x hx
          obtain rfl : x = M := by omega
          apply hQ3
          ((try simp (implicitDefEqProofs := false) (disch := first | assumption | (try simp only [lens]); omega -splitDisjunctions)); all_goals try (repeat' ((first | ((with_reducible first | refine And.intro ?_ ?_ | refine Exists.intro ?_ ?_); first | omega | (simp <;> omega)) | (with_reducible refine spl (And.intro ?_ ?_) <;> intro _)) <;> (try simp (implicitDefEqProofs := false) (disch := first | assumption | (try simp only [lens]); omega -splitDisjunctions)))))
          refine W_of fun Q7 hQ7 => ?_
          have main7 : ∀ n ws z, ws.length ≤ 1024 → ws.length ≤ n → Inv ws → (∀ y ∈ ws, y < 1024) → elim lg l n ws = R → Q7 [(5, .ptr 0 0 0)] [.rows 1 [[.ptr 1 0 0]], .rows 6 [[.int .i64 (lg : Int), .list (l.map frm), .sl 2 0 l.length, .sl 3 0 ws.length, .int .i64 (bb : Int), .int .i64 (dd : Int)]], .rows 1 (l.map (kidRow l)), .rows 1 (ws.map numRow ++ List.replicate z [.int .i64 0])] := by
            intro n
            induction n with
            | zero => intro ws z h0 h1 h2; have := hIn _ h2; omega
            | succ n ih7 =>
              intro ws z h0 h1 hI hb hE
              have hc := Clone_int ws (hIn _ hI)
              have hd := DeleteFunc_int ws (hIn _ hI)
              apply hQ7
              ((try simp (implicitDefEqProofs := false) (disch := first | assumption | (try simp only [lens]); omega -splitDisjunctions)); all_goals try (repeat' ((first | ((with_reducible first | refine And.intro ?_ ?_ | refine Exists.intro ?_ ?_); first | omega | (simp <;> omega)) | (with_reducible refine spl (And.intro ?_ ?_) <;> intro _)) <;> (try simp (implicitDefEqProofs := false) (disch := first | assumption | (try simp only [lens]); omega -splitDisjunctions)))))
              refine CL.lend [3] [] (v := .sl 0 0 ws.length) (s2 := [.rows 1 (ws.map numRow)]) ?_ ?_
              · simpa using hc (by omega)
              ((try simp (implicitDefEqProofs := false) (disch := first | assumption | (try simp only [lens]); omega -splitDisjunctions)); all_goals try (repeat' ((first | ((with_reducible first | refine And.intro ?_ ?_ | refine Exists.intro ?_ ?_); first | omega | (simp <;> omega)) | (with_reducible refine spl (And.intro ?_ ?_) <;> intro _)) <;> (try simp (implicitDefEqProofs := false) (disch := first | assumption | (try simp only [lens]); omega -splitDisjunctions)))))
              have hd := hd (by omega) 55 [] [.iptr [.iptr (scn (sceneOf lg l ws))]] (fun x => !(sceneOf lg l ws).whole x) (fun x hx => newScene2_modlog (sceneOf lg l ws) (hOK ws (fun y hy => by have := hb y hy; omega)) x (by have := hb x hx; omega))
              rw [hscn] at hd
              simp only [Bool.not_not] at hd
              have hsc : (sceneOf lg l ws).whole = (sceneOf lg l ws).whole := rfl
              have hE := hE
              rw [elim] at hE
              have hI' := hIs ws hI
              have hbl : ∀ y ∈ ws.filter (sceneOf lg l ws).whole, y < 1024 := fun y hy => hb y (List.mem_filter.1 hy).1
              have hfl := List.length_filter_le (sceneOf lg l ws).whole ws
              generalize ws.filter (sceneOf lg l ws).whole = left at hd hE hI' hbl hfl
              refine CL.lend [0, 1, 2, 3] [4] (v := .sl 0 0 left.length) (s2 := [.rows 1 (left.map numRow ++ List.replicate (ws.length - left.length) [.int .i64 0])]) ?_ ?_
              · simpa using hd
              ((try simp (implicitDefEqProofs := false) (disch := first | assumption | (try simp only [lens]); omega -splitDisjunctions)); all_goals try (repeat' ((first | ((with_reducible first | refine And.intro ?_ ?_ | refine Exists.intro ?_ ?_); first | omega | (simp <;> omega)) | (with_reducible refine spl (And.intro ?_ ?_) <;> intro _)) <;> (try simp (implicitDefEqProofs := false) (disch := first | assumption | (try simp only [lens]); omega -splitDisjunctions)))))
              · rename_i heq
                rw [if_pos (by omega)] at hE
                rw [List.take_left' (by simp), hE]
              · rename_i hne
                rw [if_neg (by omega)] at hE
                refine at2 (ih7 left (ws.length - left.length) (by omega) (by omega) hI' hbl hE) ?_ ?_ <;> simp
          refine at2 (main7 x _ 0 ?_ ?_ hI0 ?_ hR) ?_ ?_
          · have := List.length_filter_le (sceneOf lg l []).locl (List.range x)
            rw [List.length_range] at this
            omega
          · have := List.length_filter_le (sceneOf lg l []).locl (List.range x)
            rwa [List.length_range] at this
          · intro y hy
            have := List.mem_range.1 (List.mem_filter.1 hy).1
            omega
          · simp
          · simp
        | succ n3 ih3 =>
          intro x hx
          have ih3 := ih3 (x + 1) (by omega)
          rw [List.range_succ, List.filter_append, List.filter_cons, List.filter_nil] at ih3
          have hloc := local_modlog (sceneOf lg l ((List.range x).filter (sceneOf lg l []).locl)) (hOK _ (fun y hy => by have := List.mem_range.1 (List.mem_filter.1 hy).1; omega)) x (by omega)
          rw [scene_scn, scene_locl, hbb, hdd] at hloc
          have hfl := List.length_filter_le (sceneOf lg l []).locl (List.range x)
          rw [List.length_range] at hfl
          generalize (List.range x).filter (sceneOf lg l []).locl = ws at hloc ih3 hfl
          apply hQ3
          by_cases hx1 : (sceneOf lg l []).locl x = true
          · rw [hx1] at hloc
            rw [if_pos hx1, List.map_append, List.map_cons, List.map_nil] at ih3
            ((try simp (implicitDefEqProofs := false) (disch := first | assumption | (try simp only [lens]); omega -splitDisjunctions)); all_goals try (repeat' ((first | ((with_reducible first | refine And.intro ?_ ?_ | refine Exists.intro ?_ ?_); first | omega | (simp <;> omega)) | (with_reducible refine spl (And.intro ?_ ?_) <;> intro _) | (refine CL.see (hloc) ?_ ?_ ?_; (focus (simp [scn]; done)); (focus (simp [flats]; done))) | (refine CD.see (hloc) ?_ ?_ ?_; (focus (simp [scn]; done)); (focus (simp [flats]; done)))) <;> (try simp (implicitDefEqProofs := false) (disch := first | assumption | (try simp only [lens]); omega -splitDisjunctions)))))
            refine at2 ih3 ?_ ?_ <;> simp
          · rw [Bool.not_eq_true] at hx1
            rw [hx1] at hloc
            rw [if_neg (by simp [hx1]), List.append_nil] at ih3
            ((try simp (implicitDefEqProofs := false) (disch := first | assumption | (try simp only [lens]); omega -splitDisjunctions)); all_goals try (repeat' ((first | ((with_reducible first | refine And.intro ?_ ?_ | refine Exists.intro ?_ ?_); first | omega | (simp <;> omega)) | (with_reducible refine spl (And.intro ?_ ?_) <;> intro _) | (refine CL.see (hloc) ?_ ?_ ?_; (focus (simp [scn]; done)); (focus (simp [flats]; done))) | (refine CD.see (hloc) ?_ ?_ ?_; (focus (simp [scn]; done)); (focus (simp [flats]; done)))) <;> (try simp (implicitDefEqProofs := false) (disch := first | assumption | (try simp only [lens]); omega -splitDisjunctions)))))
            refine at2 ih3 ?_ ?_ <;> simp
      refine at2 (main3 _ 0 (Nat.zero_add _)) ?_ ?_ <;> simp
    | succ n ih =>
      intro i hi
      have ih := ih (i + 1) (by omega)
      apply hQ
      ((try simp (implicitDefEqProofs := false) (disch := first | assumption | (try simp only [lens]); omega -splitDisjunctions)); all_goals try (repeat' ((first | ((with_reducible first | refine And.intro ?_ ?_ | refine Exists.intro ?_ ?_); first | omega | (simp <;> omega)) | (with_reducible refine spl (And.intro ?_ ?_) <;> intro _)) <;> (try simp (implicitDefEqProofs := false) (disch := first | assumption | (try simp only [lens]); omega -splitDisjunctions)))))
      refine W_of fun Q2 hQ2 => ?_
      have hil : i < l.length := by omega
      have hk2 := (pre_sub f hf _ (partsS_mem (show l[i] ∈ partsS [] (pre f) by rw [hw]; exact List.getElem_mem hil))).1.kids_le
      have hin := hkid _ (List.getElem_mem hil)
      generalize hg : l[i] = g at hin hk2
      have hidx : ∀ k ∈ g.kids, indexF (sameB k) l = (idxF l k : Int) := fun k hk => by
        obtain ⟨j, _, h, _⟩ := indexF_mem (hin k hk)
        unfold idxF
        omega
      have main2 : ∀ n2 j, j + n2 = g.kids.length → Q2 [(5, .ptr 0 0 0), (6, .int .i64 (i : Int)), (7, .ptr 1 0 0), (8, .sl 2 0 j), (22, .list (l.map frm)), (23, .int .i64 (l.length : Int)), (24, .int .i64 (i : Int)), (30, .list (g.kids.map frm)), (31, .int .i64 (g.kids.length : Int)), (32, .int .i64 (j : Int))]
          [.rows 1 [[.ptr 3 0 0]], .rows 3 [frm g], .rows 1 ((g.kids.take j).map (idxRow l)), .rows 6 [[.int .i64 (lg : Int), .list (l.map frm), .sl 4 0 i, .nilsl, .int .i64 (bitsN (kindB l 8) i : Int), .int .i64 (bitsN (kindB l 9) i : Int)]], .rows 1 ((l.take i).map (kidRow l))] := by
        intro n2
        induction n2 with
        | zero =>
          intro j hj
          obtain rfl : j = g.kids.length := by omega
          have hk8 : kindB l 8 i = decide (g.kind = 8) := by simp [kindB, hil, hg]
          have hk9 : kindB l 9 i = decide (g.kind = 9) := by simp [kindB, hil, hg]
          have hs8 : bitsN (kindB l 8) (i + 1) = if kindB l 8 i = true then bitsN (kindB l 8) i ||| 2 ^ i else bitsN (kindB l 8) i := rfl
          have hs9 : bitsN (kindB l 9) (i + 1) = if kindB l 9 i = true then bitsN (kindB l 9) i ||| 2 ^ i else bitsN (kindB l 9) i := rfl
          have hp2 : 2 ^ i < 1048576 := Nat.lt_of_lt_of_le (Nat.pow_lt_pow_right (by decide) (show i < 20 by omega)) (by decide)
          have hsh := shl_nat i (by omega)
          have ho8 := or_nat _ _ (hbits 8 i (by omega)) hp2
          have ho9 := or_nat _ _ (hbits 9 i (by omega)) hp2
          have hrow : [PV.list (g.kids.map (idxRow l))] = kidRow l g := by simp [kidRow, kidsL, idxRow]
          have htk := take_snoc hil
          rw [hs8, hs9, hk8, hk9, htk, hg, List.map_append, List.map_cons, List.map_nil, ← hrow] at ih
          generalize 2 ^ i = p2 at ih hp2 hsh ho8 ho9
          apply hQ2
          by_cases h8 : g.kind = 8
          · have h9 : g.kind ≠ 9 := by omega
            simp only [h8, decide_true, if_true, show ¬ ((8 : Int) = 9) by decide, decide_false, Bool.false_eq_true, if_false] at ih
            ((try simp (implicitDefEqProofs := false) (disch := first | assumption | (try simp only [lens]); omega -splitDisjunctions) [h8, hsh, ho8]); all_goals try (repeat' ((first | ((with_reducible first | refine And.intro ?_ ?_ | refine Exists.intro ?_ ?_); first | omega | (simp <;> omega)) | (with_reducible refine spl (And.intro ?_ ?_) <;> intro _)) <;> (try simp (implicitDefEqProofs := false) (disch := first | assumption | (try simp only [lens]); omega -splitDisjunctions) [h8, hsh, ho8]))))
            refine at2 ih ?_ ?_ <;> simp
          · by_cases h9 : g.kind = 9
            · simp only [h9, decide_true, if_true, show ¬ ((9 : Int) = 8) by decide, decide_false, Bool.false_eq_true, if_false] at ih
              ((try simp (implicitDefEqProofs := false) (disch := first | assumption | (try simp only [lens]); omega -splitDisjunctions) [h9, hsh, ho9]); all_goals try (repeat' ((first | ((with_reducible first | refine And.intro ?_ ?_ | refine Exists.intro ?_ ?_); first | omega | (simp <;> omega)) | (with_reducible refine spl (And.intro ?_ ?_) <;> intro _)) <;> (try simp (implicitDefEqProofs := false) (disch := first | assumption | (try simp only [lens]); omega -splitDisjunctions) [h9, hsh, ho9]))))
              refine at2 ih ?_ ?_ <;> simp
            · simp only [h8, h9, decide_false, Bool.false_eq_true, if_false] at ih
              ((try simp (implicitDefEqProofs := false) (disch := first | assumption | (try simp only [lens]); omega -splitDisjunctions) [h8, h9]); all_goals try (repeat' ((first | ((with_reducible first | refine And.intro ?_ ?_ | refine Exists.intro ?_ ?_); first | omega | (simp <;> omega)) | (with_reducible refine spl (And.intro ?_ ?_) <;> intro _)) <;> (try simp (implicitDefEqProofs := false) (disch := first | assumption | (try simp only [lens]); omega -splitDisjunctions) [h8, h9]))))
              refine at2 ih ?_ ?_ <;> simp
        | succ n2 ih2 =>
          intro j hj
          have ih2 := ih2 (j + 1) (by omega)
          have hjl : j < g.kids.length := by omega
          rw [take_snoc hjl, List.map_append, List.map_cons, List.map_nil, show idxRow l g.kids[j] = [PV.int .i64 (idxF l g.kids[j] : Int)] from rfl] at ih2
          have hfi := IndexFunc_fm l 50 [] [.iptr (frm g.kids[j])] (sameB g.kids[j]) (fun h _ => newScene1_modlog g.kids[j] h)
          rw [hidx _ (List.getElem_mem hjl)] at hfi
          apply hQ2
          ((try simp (implicitDefEqProofs := false) (disch := first | assumption | (try simp only [lens]); omega -splitDisjunctions)); all_goals try (repeat' ((first | ((with_reducible first | refine And.intro ?_ ?_ | refine Exists.intro ?_ ?_); first | omega | (simp <;> omega)) | (with_reducible refine spl (And.intro ?_ ?_) <;> intro _) | (refine CL.see (hfi) ?_ ?_ ?_; (focus (simp [scn]; done)); (focus (simp [flats]; done))) | (refine CD.see (hfi) ?_ ?_ ?_; (focus (simp [scn]; done)); (focus (simp [flats]; done)))) <;> (try simp (implicitDefEqProofs := false) (disch := first | assumption | (try simp only [lens]); omega -splitDisjunctions)))))
          refine at2 ih2 ?_ ?_ <;> simp
      refine at2 (main2 _ 0 (Nat.zero_add _)) ?_ ?_ <;> simp
  refine at2 (main _ 0 (Nat.zero_add _)) ?_ ?_ <;> simp [bitsN]
end Go.Proofs.Ytliockncjdeloaa
