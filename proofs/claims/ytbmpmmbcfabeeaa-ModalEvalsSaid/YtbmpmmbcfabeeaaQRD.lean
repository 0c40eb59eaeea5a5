/-
  sequentref: OfLogic, AllAt.
-/
import Derived.Test.YtbmpmmbcfabeeaaQRC
import Derived.Test.YtbmpmmbcfabeeaaTPa
namespace Go.Proofs.Ytbmpmmbcfabeeaa
open Go Go.Pv
set_option linter.unusedVariables false
set_option linter.unusedSimpArgs false
set_option maxRecDepth 100000
set_option maxHeartbeats 4000000

theorem mem_seenL {m : Mdl} {n u v : Nat} : v ∈ seenL m n u ↔ v < n ∧ seeT m u v = true := by simp [seenL]
def holdM (m : Mdl) (w : Nat) (nm : ByteArray) : Bool := memB nm ((m.tr[w]?).getD [])
def atB (m : Mdl) (n : Nat) (f : Fm) : List Bool := (List.range n).map fun w => ev n (seeT m) (holdM m) f w
def kidB (m : Mdl) (n : Nat) (g : Fm) : List PV := [.list ((atB m n g).map boolRow)]
instance (m : Mdl) (n : Nat) : FlatRow (kidB m n) := ⟨fun x => by simp [kidB, flatV]⟩
def outW (m : Mdl) (n : Nat) (f : Fm) (w : Nat) : List Bool := (List.range n).map fun x => if x < w then ev n (seeT m) (holdM m) f x else false
@[simp] theorem atB_length {m : Mdl} {n : Nat} {f : Fm} : (atB m n f).length = n := by simp [atB]
theorem atB_get {m : Mdl} {n w : Nat} {f : Fm} (h : w < (atB m n f).length) : (atB m n f)[w] = ev n (seeT m) (holdM m) f w := by simp [atB]
@[simp] theorem outW_length {m : Mdl} {n w : Nat} {f : Fm} : (outW m n f w).length = n := by simp [outW]
theorem outW_zero {m : Mdl} {n : Nat} {f : Fm} : outW m n f 0 = List.replicate n false := by simp [outW, List.map_const']
theorem outW_all {m : Mdl} {n : Nat} {f : Fm} : outW m n f n = atB m n f := by
  unfold outW atB
  apply List.map_congr_left
  intro x hx
  rw [List.mem_range] at hx
  rw [if_pos hx]
theorem outW_succ {m : Mdl} {n w : Nat} {f : Fm} (hw : w < n) : outW m n f (w + 1) = (outW m n f w).set w (ev n (seeT m) (holdM m) f w) := by
  apply List.ext_getElem (by simp)
  intro x h1 h2
  rw [List.getElem_set]
  simp only [outW, List.getElem_map, List.getElem_range]
  by_cases e : w = x
  · subst e; rw [if_pos rfl, if_pos (by omega)]
  · rw [if_neg e]
    by_cases h : x < w
    · rw [if_pos h, if_pos (by omega)]
    · rw [if_neg h, if_neg (by omega)]
theorem outW_same {m : Mdl} {n w : Nat} {f : Fm} (hw : w < n) (h : ev n (seeT m) (holdM m) f w = false) : outW m n f (w + 1) = outW m n f w := by
  rw [outW_succ hw, h]
  apply List.ext_getElem (by simp)
  intro x h1 h2
  rw [List.getElem_set]
  split
  · rename_i e; subst e; simp [outW]
  · rfl
theorem outW_setf {m : Mdl} {n w : Nat} {f : Fm} : (outW m n f w).set w false = outW m n f w := by
  apply List.ext_getElem (by simp)
  intro x h1 h2
  rw [List.getElem_set]
  split
  · rename_i e; subst e; simp [outW]
  · rfl
theorem outW_setr {m : Mdl} {n w : Nat} {f : Fm} : ((outW m n f w).map boolRow).set w [.bool false] = (outW m n f w).map boolRow := by
  have e := congrArg (List.map boolRow) (outW_setf (m := m) (n := n) (w := w) (f := f))
  rw [List.map_set] at e; exact e
theorem ev_box {m : Mdl} {n w : Nat} {nm : ByteArray} {a : Fm} : ev n (seeT m) (holdM m) (.mk 8 nm [a]) w = (seenL m n w).all (ev n (seeT m) (holdM m) a) := by
  rw [Bool.eq_iff_iff, ev_8]
  simp [mem_seenL]
theorem ev_dia {m : Mdl} {n w : Nat} {nm : ByteArray} {a : Fm} : ev n (seeT m) (holdM m) (.mk 9 nm [a]) w = (seenL m n w).any (ev n (seeT m) (holdM m) a) := by
  rw [Bool.eq_iff_iff, ev_9]
  simp [mem_seenL, and_assoc]
def x46_T5 : XC := .seq (.reg [⟨some 197,.move (.tmp 6),none⟩,⟨some 4,.assign (.tmp 197),none⟩]) (.ret)
def x46_L7 : XC := .seq (.seq (.reg [⟨some 167,.move (.tmp 11),none⟩,⟨some 168,.move (.tmp 5),none⟩,⟨some 169,.move (.tmp 9),none⟩,⟨some 170,.indexAddr 131 (.tmp 168) (.tmp 169),none⟩,⟨some 171,.load 112 (.tmp 170),none⟩,⟨some 172,.call ⟨.builtin .len,#[.tmp 171],#[112]⟩,none⟩,⟨some 173,.binOp .lss 3 (.tmp 167) (.tmp 172) 3,none⟩]) (.cond (.tmp 173) (.skip) (.exit 7))) (.seq (.block 8 (.drawn 34 [⟨some 176,.move (.tmp 6),none⟩,⟨some 177,.move (.tmp 9),none⟩,⟨some 178,.move (.tmp 6),none⟩,⟨some 179,.move (.tmp 9),none⟩,⟨some 180,.indexAddr 46 (.tmp 178) (.tmp 179),none⟩,⟨some 181,.load 4 (.tmp 180),none⟩,⟨some 182,.move (.tmp 181),none⟩,⟨some 183,.move (.tmp 7),some (some 182,false)⟩,⟨some 184,.indexAddr 120 (.tmp 183) (.const (.int .i64 0)),some (some 182,false)⟩,⟨some 185,.load 46 (.tmp 184),some (some 182,false)⟩,⟨some 186,.move (.tmp 5),some (some 182,false)⟩,⟨some 187,.move (.tmp 9),some (some 182,false)⟩,⟨some 188,.indexAddr 131 (.tmp 186) (.tmp 187),some (some 182,false)⟩,⟨some 189,.load 112 (.tmp 188),some (some 182,false)⟩,⟨some 190,.move (.tmp 11),some (some 182,false)⟩,⟨some 191,.indexAddr 112 (.tmp 189) (.tmp 190),some (some 182,false)⟩,⟨some 192,.load 3 (.tmp 191),some (some 182,false)⟩,⟨some 193,.indexAddr 46 (.tmp 185) (.tmp 192),some (some 182,false)⟩,⟨some 194,.load 4 (.tmp 193),some (some 182,false)⟩,⟨some 195,.pick (.tmp 182) (.const (.bool true)) (.tmp 194),none⟩,⟨some 196,.indexAddr 46 (.tmp 176) (.tmp 177),none⟩,⟨none,.store 4 (.tmp 196) (.tmp 195),none⟩])) (.reg [⟨some 174,.move (.tmp 11),none⟩,⟨some 175,.binOp .add 3 (.tmp 174) (.const (.int .i64 1)) 3,none⟩,⟨some 11,.assign (.tmp 175),none⟩]))
def x46_L5 : XC := .seq (.seq (.reg [⟨some 135,.move (.tmp 10),none⟩,⟨some 136,.move (.tmp 5),none⟩,⟨some 137,.move (.tmp 9),none⟩,⟨some 138,.indexAddr 131 (.tmp 136) (.tmp 137),none⟩,⟨some 139,.load 112 (.tmp 138),none⟩,⟨some 140,.call ⟨.builtin .len,#[.tmp 139],#[112]⟩,none⟩,⟨some 141,.binOp .lss 3 (.tmp 135) (.tmp 140) 3,none⟩]) (.cond (.tmp 141) (.skip) (.exit 5))) (.seq (.block 6 (.drawn 29 [⟨some 144,.move (.tmp 6),none⟩,⟨some 145,.move (.tmp 9),none⟩,⟨some 146,.move (.tmp 6),none⟩,⟨some 147,.move (.tmp 9),none⟩,⟨some 148,.indexAddr 46 (.tmp 146) (.tmp 147),none⟩,⟨some 149,.load 4 (.tmp 148),none⟩,⟨some 150,.move (.tmp 149),none⟩,⟨some 151,.move (.tmp 7),some (some 150,true)⟩,⟨some 152,.indexAddr 120 (.tmp 151) (.const (.int .i64 0)),some (some 150,true)⟩,⟨some 153,.load 46 (.tmp 152),some (some 150,true)⟩,⟨some 154,.move (.tmp 5),some (some 150,true)⟩,⟨some 155,.move (.tmp 9),some (some 150,true)⟩,⟨some 156,.indexAddr 131 (.tmp 154) (.tmp 155),some (some 150,true)⟩,⟨some 157,.load 112 (.tmp 156),some (some 150,true)⟩,⟨some 158,.move (.tmp 10),some (some 150,true)⟩,⟨some 159,.indexAddr 112 (.tmp 157) (.tmp 158),some (some 150,true)⟩,⟨some 160,.load 3 (.tmp 159),some (some 150,true)⟩,⟨some 161,.indexAddr 46 (.tmp 153) (.tmp 160),some (some 150,true)⟩,⟨some 162,.load 4 (.tmp 161),some (some 150,true)⟩,⟨some 163,.pick (.tmp 150) (.tmp 162) (.const (.bool false)),none⟩,⟨some 164,.indexAddr 46 (.tmp 144) (.tmp 145),none⟩,⟨none,.store 4 (.tmp 164) (.tmp 163),none⟩])) (.reg [⟨some 142,.move (.tmp 10),none⟩,⟨some 143,.binOp .add 3 (.tmp 142) (.const (.int .i64 1)) 3,none⟩,⟨some 10,.assign (.tmp 143),none⟩]))
def x46_L2 : XC := .seq (.seq (.reg [⟨some 34,.move (.tmp 9),none⟩,⟨some 35,.fieldAddr 61 (.tmp 2) 0,none⟩,⟨some 36,.load 3 (.tmp 35),none⟩,⟨some 37,.binOp .lss 3 (.tmp 34) (.tmp 36) 3,none⟩]) (.cond (.tmp 37) (.skip) (.exit 2))) (.seq (.block 3 (.seq (.reg [⟨some 40,.fieldAddr 24 (.tmp 3) 0,none⟩,⟨some 41,.load 3 (.tmp 40),none⟩]) (.block 4 (.seq (.reg [⟨some 43,.binOp .eql 3 (.tmp 41) (.const (.int .i64 1)) 3,none⟩,⟨some 42,.assign (.tmp 43),none⟩]) (.cond (.tmp 42) (.drawn 13 [⟨some 44,.move (.tmp 6),none⟩,⟨some 45,.move (.tmp 9),none⟩,⟨some 46,.fieldAddr 61 (.tmp 2) 2,none⟩,⟨some 47,.load 59 (.tmp 46),none⟩,⟨some 48,.move (.tmp 9),none⟩,⟨some 49,.indexAddr 59 (.tmp 47) (.tmp 48),none⟩,⟨some 50,.load 53 (.tmp 49),none⟩,⟨some 51,.fieldAddr 24 (.tmp 3) 1,none⟩,⟨some 52,.load 9 (.tmp 51),none⟩,⟨some 53,.call ⟨.value (.func 55),#[.tmp 50,.tmp 52],#[53,9]⟩,none⟩,⟨some 54,.indexAddr 46 (.tmp 44) (.tmp 45),none⟩,⟨none,.store 4 (.tmp 54) (.tmp 53),none⟩]) (.seq (.reg [⟨some 56,.binOp .eql 3 (.tmp 41) (.const (.int .i64 2)) 3,none⟩,⟨some 55,.assign (.tmp 56),none⟩]) (.cond (.tmp 55) (.reg [⟨some 57,.move (.tmp 6),none⟩,⟨some 58,.move (.tmp 9),none⟩,⟨some 59,.indexAddr 46 (.tmp 57) (.tmp 58),none⟩,⟨none,.store 4 (.tmp 59) (.const (.bool true)),none⟩]) (.seq (.reg [⟨some 61,.binOp .eql 3 (.tmp 41) (.const (.int .i64 4)) 3,none⟩,⟨some 60,.assign (.tmp 61),none⟩]) (.cond (.tmp 60) (.reg [⟨some 62,.move (.tmp 6),none⟩,⟨some 63,.move (.tmp 9),none⟩,⟨some 64,.move (.tmp 7),none⟩,⟨some 65,.indexAddr 120 (.tmp 64) (.const (.int .i64 0)),none⟩,⟨some 66,.load 46 (.tmp 65),none⟩,⟨some 67,.move (.tmp 9),none⟩,⟨some 68,.indexAddr 46 (.tmp 66) (.tmp 67),none⟩,⟨some 69,.load 4 (.tmp 68),none⟩,⟨some 70,.unOp .not 4 (.tmp 69),none⟩,⟨some 71,.indexAddr 46 (.tmp 62) (.tmp 63),none⟩,⟨none,.store 4 (.tmp 71) (.tmp 70),none⟩]) (.seq (.reg [⟨some 73,.binOp .eql 3 (.tmp 41) (.const (.int .i64 5)) 3,none⟩,⟨some 72,.assign (.tmp 73),none⟩]) (.cond (.tmp 72) (.reg [⟨some 74,.move (.tmp 6),none⟩,⟨some 75,.move (.tmp 9),none⟩,⟨some 76,.move (.tmp 7),none⟩,⟨some 77,.indexAddr 120 (.tmp 76) (.const (.int .i64 0)),none⟩,⟨some 78,.load 46 (.tmp 77),none⟩,⟨some 79,.move (.tmp 9),none⟩,⟨some 80,.indexAddr 46 (.tmp 78) (.tmp 79),none⟩,⟨some 81,.load 4 (.tmp 80),none⟩,⟨some 82,.move (.tmp 81),none⟩,⟨some 83,.move (.tmp 7),some (some 82,true)⟩,⟨some 84,.indexAddr 120 (.tmp 83) (.const (.int .i64 1)),some (some 82,true)⟩,⟨some 85,.load 46 (.tmp 84),some (some 82,true)⟩,⟨some 86,.move (.tmp 9),some (some 82,true)⟩,⟨some 87,.indexAddr 46 (.tmp 85) (.tmp 86),some (some 82,true)⟩,⟨some 88,.load 4 (.tmp 87),some (some 82,true)⟩,⟨some 89,.pick (.tmp 82) (.tmp 88) (.const (.bool false)),none⟩,⟨some 90,.indexAddr 46 (.tmp 74) (.tmp 75),none⟩,⟨none,.store 4 (.tmp 90) (.tmp 89),none⟩]) (.seq (.reg [⟨some 92,.binOp .eql 3 (.tmp 41) (.const (.int .i64 6)) 3,none⟩,⟨some 91,.assign (.tmp 92),none⟩]) (.cond (.tmp 91) (.reg [⟨some 93,.move (.tmp 6),none⟩,⟨some 94,.move (.tmp 9),none⟩,⟨some 95,.move (.tmp 7),none⟩,⟨some 96,.indexAddr 120 (.tmp 95) (.const (.int .i64 0)),none⟩,⟨some 97,.load 46 (.tmp 96),none⟩,⟨some 98,.move (.tmp 9),none⟩,⟨some 99,.indexAddr 46 (.tmp 97) (.tmp 98),none⟩,⟨some 100,.load 4 (.tmp 99),none⟩,⟨some 101,.move (.tmp 100),none⟩,⟨some 102,.move (.tmp 7),some (some 101,false)⟩,⟨some 103,.indexAddr 120 (.tmp 102) (.const (.int .i64 1)),some (some 101,false)⟩,⟨some 104,.load 46 (.tmp 103),some (some 101,false)⟩,⟨some 105,.move (.tmp 9),some (some 101,false)⟩,⟨some 106,.indexAddr 46 (.tmp 104) (.tmp 105),some (some 101,false)⟩,⟨some 107,.load 4 (.tmp 106),some (some 101,false)⟩,⟨some 108,.pick (.tmp 101) (.const (.bool true)) (.tmp 107),none⟩,⟨some 109,.indexAddr 46 (.tmp 93) (.tmp 94),none⟩,⟨none,.store 4 (.tmp 109) (.tmp 108),none⟩]) (.seq (.reg [⟨some 111,.binOp .eql 3 (.tmp 41) (.const (.int .i64 7)) 3,none⟩,⟨some 110,.assign (.tmp 111),none⟩]) (.cond (.tmp 110) (.reg [⟨some 112,.move (.tmp 6),none⟩,⟨some 113,.move (.tmp 9),none⟩,⟨some 114,.move (.tmp 7),none⟩,⟨some 115,.indexAddr 120 (.tmp 114) (.const (.int .i64 0)),none⟩,⟨some 116,.load 46 (.tmp 115),none⟩,⟨some 117,.move (.tmp 9),none⟩,⟨some 118,.indexAddr 46 (.tmp 116) (.tmp 117),none⟩,⟨some 119,.load 4 (.tmp 118),none⟩,⟨some 120,.unOp .not 4 (.tmp 119),none⟩,⟨some 121,.move (.tmp 120),none⟩,⟨some 122,.move (.tmp 7),some (some 121,false)⟩,⟨some 123,.indexAddr 120 (.tmp 122) (.const (.int .i64 1)),some (some 121,false)⟩,⟨some 124,.load 46 (.tmp 123),some (some 121,false)⟩,⟨some 125,.move (.tmp 9),some (some 121,false)⟩,⟨some 126,.indexAddr 46 (.tmp 124) (.tmp 125),some (some 121,false)⟩,⟨some 127,.load 4 (.tmp 126),some (some 121,false)⟩,⟨some 128,.pick (.tmp 121) (.const (.bool true)) (.tmp 127),none⟩,⟨some 129,.indexAddr 46 (.tmp 112) (.tmp 113),none⟩,⟨none,.store 4 (.tmp 129) (.tmp 128),none⟩]) (.seq (.reg [⟨some 131,.binOp .eql 3 (.tmp 41) (.const (.int .i64 8)) 3,none⟩,⟨some 130,.assign (.tmp 131),none⟩]) (.cond (.tmp 130) (.seq (.reg [⟨some 132,.move (.tmp 6),none⟩,⟨some 133,.move (.tmp 9),none⟩,⟨some 134,.indexAddr 46 (.tmp 132) (.tmp 133),none⟩,⟨none,.store 4 (.tmp 134) (.const (.bool true)),none⟩]) (.seq (.reg [⟨some 10,.assign (.const (.int .i64 0)),none⟩]) (.bloop 5 x46_L5))) (.seq (.reg [⟨some 166,.binOp .eql 3 (.tmp 41) (.const (.int .i64 9)) 3,none⟩,⟨some 165,.assign (.tmp 166),none⟩]) (.cond (.tmp 165) (.seq (.reg [⟨some 11,.assign (.const (.int .i64 0)),none⟩]) (.bloop 7 x46_L7)) (.skip)))))))))))))))))))) (.reg [⟨some 38,.move (.tmp 9),none⟩,⟨some 39,.binOp .add 3 (.tmp 38) (.const (.int .i64 1)) 3,none⟩,⟨some 9,.assign (.tmp 39),none⟩]))
def x46_T1 : XC := .seq (.seq (.reg [⟨some 9,.assign (.const (.int .i64 0)),none⟩]) (.bloop 2 x46_L2)) (x46_T5)
def x46_L0 : XC := .seq (.seq (.reg [⟨some 17,.move (.tmp 8),none⟩,⟨some 18,.fieldAddr 24 (.tmp 3) 2,none⟩,⟨some 19,.load 22 (.tmp 18),none⟩,⟨some 20,.call ⟨.builtin .len,#[.tmp 19],#[22]⟩,none⟩,⟨some 21,.binOp .lss 3 (.tmp 17) (.tmp 20) 3,none⟩]) (.cond (.tmp 21) (.skip) (.exit 0))) (.seq (.block 1 (.drawn 7 [⟨some 24,.move (.tmp 7),none⟩,⟨some 25,.load 61 (.tmp 2),none⟩,⟨some 26,.fieldAddr 24 (.tmp 3) 2,none⟩,⟨some 27,.load 22 (.tmp 26),none⟩,⟨some 28,.move (.tmp 8),none⟩,⟨some 29,.indexAddr 22 (.tmp 27) (.tmp 28),none⟩,⟨some 30,.load 24 (.tmp 29),none⟩,⟨some 31,.call ⟨.value (.func 46),#[.tmp 25,.tmp 30],#[61,24]⟩,none⟩,⟨some 32,.buildSlice 120 1 #[(0,.tmp 31)],none⟩,⟨some 33,.call ⟨.builtin .append,#[.tmp 24,.tmp 32],#[120,120]⟩,none⟩,⟨some 7,.assign (.tmp 33),none⟩])) (.reg [⟨some 22,.move (.tmp 8),none⟩,⟨some 23,.binOp .add 3 (.tmp 22) (.const (.int .i64 1)) 3,none⟩,⟨some 8,.assign (.tmp 23),none⟩]))
def x46 : XC := .seq (.reg [⟨some 2,.box 61 (.tmp 0),none⟩,⟨some 3,.box 24 (.tmp 1),none⟩,⟨some 4,.assign (.const (.slice none 0 0)),none⟩]) (.seq (.reg [⟨some 12,.load 61 (.tmp 2),none⟩,⟨some 13,.call ⟨.value (.func 106),#[.tmp 12],#[61]⟩,none⟩,⟨some 5,.assign (.tmp 13),none⟩]) (.seq (.reg [⟨some 14,.fieldAddr 61 (.tmp 2) 0,none⟩,⟨some 15,.load 3 (.tmp 14),none⟩,⟨some 16,.makeSlice 46 (.tmp 15) (.tmp 15),none⟩,⟨some 6,.assign (.tmp 16),none⟩]) (.seq (.reg [⟨some 7,.assign (.const (.slice none 0 0)),none⟩]) (.seq (.seq (.reg [⟨some 8,.assign (.const (.int .i64 0)),none⟩]) (.bloop 0 x46_L0)) (x46_T1)))))
@[simp] theorem x46_s {C : WC} {e : AE} {s : Store} {K : KS} : type_of% (@X_at C e s K _ _ x46_T5.eq_1) ∧ type_of% (@X_at C e s K _ _ x46_L7.eq_1) ∧ type_of% (@X_at C e s K _ _ x46_L5.eq_1) ∧ type_of% (@X_at C e s K _ _ x46_L2.eq_1) ∧ type_of% (@X_at C e s K _ _ x46_T1.eq_1) ∧ type_of% (@X_at C e s K _ _ x46_L0.eq_1) ∧ type_of% (@X_at C e s K _ _ x46.eq_1) := ⟨X_at x46_T5.eq_1, X_at x46_L7.eq_1, X_at x46_L5.eq_1, X_at x46_L2.eq_1, X_at x46_T1.eq_1, X_at x46_L0.eq_1, X_at x46.eq_1⟩
def an46 : Ann := ⟨[(7, .mix 9), (13, .mix 10), (29, .mix 20), (34, .mix 20)], [(5, [], [2, 3, 5, 6, 7, 9, 10], [2, 3, 5, 6, 7, 9]), (7, [], [2, 3, 5, 6, 7, 9, 11], [2, 3, 5, 6, 7, 9]), (2, [], [2, 3, 5, 6, 7, 9], [6]), (0, [(7, none, 1)], [2, 3, 5, 6, 7, 8], [2, 3, 5, 6, 7])], []⟩
def cx46 (P : Program) (m : Nat) : WC := ⟨P, m, an46⟩
@[simp] theorem cx46_a {P : Program} {m : Nat} : (cx46 P m).P = P ∧ (cx46 P m).m = m ∧ (cx46 P m).A.clsOf 7 = .mix 9 ∧ (cx46 P m).A.clsOf 13 = .mix 10 ∧ (cx46 P m).A.clsOf 29 = .mix 20 ∧ (cx46 P m).A.clsOf 34 = .mix 20 ∧ (cx46 P m).A.frzOf 7 = [] ∧ (cx46 P m).A.frzOf 13 = [] ∧ (cx46 P m).A.frzOf 29 = [] ∧ (cx46 P m).A.frzOf 34 = [] ∧ (cx46 P m).A.loopOf 5 = ([], [2, 3, 5, 6, 7, 9, 10], [2, 3, 5, 6, 7, 9]) ∧ (cx46 P m).A.loopOf 7 = ([], [2, 3, 5, 6, 7, 9, 11], [2, 3, 5, 6, 7, 9]) ∧ (cx46 P m).A.loopOf 2 = ([], [2, 3, 5, 6, 7, 9], [6]) ∧ (cx46 P m).A.loopOf 0 = ([(7, none, 1)], [2, 3, 5, 6, 7, 8], [2, 3, 5, 6, 7]) := ⟨rfl, rfl, rfl, rfl, rfl, rfl, rfl, rfl, rfl, rfl, rfl, rfl, rfl, rfl⟩
instance {P : Program} {m f : Nat} [h : EnT P f] : EnT (cx46 P m).P f := h
theorem chk46 : ∀ c, Try.f46.body = some c → chkC Try.f46.ntmps an46 c = true := by intro c h; obtain rfl := Option.some.inj h; decide +kernel
theorem op46 {args : List PV} {v : PV} (h : X (cx46 Try.prog 0) x46 (argsA 0 args) [] (.fin [.tmp 4] fun v1 s1 => deref s1 6 v1 = v)) (hl : args.length ≤ Try.f46.ntmps := by rw [Try.ntmps46]; simp) : CallOK Try.prog 46 args [] v [] :=
  callX (m := 0) (cx46 Try.prog 0) x46 rfl rfl (by kernel_rfl) Try.func46 rfl rfl hl mixed (chk46 _ rfl) (by rw [Try.results46]; exact h)

theorem AllAt_ref (m : Mdl) (n : Nat) (hm : MdOK m n) (ht : m.tr.length = n) (f : Fm) (hf : OkF (fun n => isNameB n = true) f) : CallOK Try.prog 46 [.agg (mdl m), .agg (frm f)] [] (.list ((atB m n f).map boolRow)) [] := by
  induction f using Fm.ind with
  | h f ih =>
    have hseen := Seen_ref m n hm
    obtain ⟨mn, rel, tr⟩ := m
    obtain ⟨hn, hs, hrel⟩ := hm
    simp only at hn hrel ht
    subst hn
    refine op46 ?_
    (((try simp (implicitDefEqProofs := false)); (try simp (implicitDefEqProofs := false) (disch := first | assumption | (try simp only [lens]); omega -splitDisjunctions))); all_goals try (repeat' ((first | ((with_reducible first | refine And.intro ?_ ?_ | refine Exists.intro ?_ ?_); first | omega | (simp <;> omega)) | (with_reducible refine spl (And.intro ?_ ?_) <;> intro _) | (refine CL.clo (hseen) ?_) | (refine CM.clo (hseen) ?_) | (refine CD.clo (hseen) ?_)) <;> ((try simp (implicitDefEqProofs := false)); (try simp (implicitDefEqProofs := false) (disch := first | assumption | (try simp only [lens]); omega -splitDisjunctions))))))
    refine W_of fun Q hQ => ?_
    have main : ∀ k i, i + k = f.kids.length → Q [(2, .ptr 0 0 0), (3, .ptr 1 0 0), (5, .list ((List.range n).map fun u => [.list ((seenL ⟨n, rel, tr⟩ n u).map numRow)])), (6, .sl 2 0 n), (7, .sl 3 0 i), (8, .int .i64 (i : Int))]
        [.rows 3 [mdl ⟨n, rel, tr⟩], .rows 3 [frm f], .rows 1 ((outW ⟨n, rel, tr⟩ n f 0).map boolRow), .rows 1 ((f.kids.take i).map (kidB ⟨n, rel, tr⟩ n))] := by
      intro k
      induction k with
      | zero =>
        intro i hi
        rw [List.take_of_length_le (by omega)]
        obtain rfl : i = f.kids.length := by omega
        apply hQ
        (((try simp (implicitDefEqProofs := false)); (try simp (implicitDefEqProofs := false) (disch := first | assumption | (try simp only [lens]); omega -splitDisjunctions))); all_goals try (repeat' ((first | ((with_reducible first | refine And.intro ?_ ?_ | refine Exists.intro ?_ ?_); first | omega | (simp <;> omega)) | (with_reducible refine spl (And.intro ?_ ?_) <;> intro _)) <;> ((try simp (implicitDefEqProofs := false)); (try simp (implicitDefEqProofs := false) (disch := first | assumption | (try simp only [lens]); omega -splitDisjunctions))))))
        refine W_of fun Q2 hQ2 => ?_
        have main2 : ∀ k w, w + k = n → Q2 [(2, .ptr 0 0 0), (3, .ptr 1 0 0), (5, .list ((List.range n).map fun u => [.list ((seenL ⟨n, rel, tr⟩ n u).map numRow)])), (6, .sl 2 0 n), (7, .sl 3 0 f.kids.length), (9, .int .i64 (w : Int))]
            [.rows 3 [mdl ⟨n, rel, tr⟩], .rows 3 [frm f], .rows 1 ((outW ⟨n, rel, tr⟩ n f w).map boolRow), .rows 1 (f.kids.map (kidB ⟨n, rel, tr⟩ n))] := by
          intro k
          induction k with
          | zero =>
            intro w hw
            obtain rfl : w = n := by omega
            apply hQ2
            (((try simp (implicitDefEqProofs := false)); (try simp (implicitDefEqProofs := false) (disch := first | assumption | (try simp only [lens]); omega -splitDisjunctions))); all_goals try (repeat' ((first | ((with_reducible first | refine And.intro ?_ ?_ | refine Exists.intro ?_ ?_); first | omega | (simp <;> omega)) | (with_reducible refine spl (And.intro ?_ ?_) <;> intro _)) <;> ((try simp (implicitDefEqProofs := false)); (try simp (implicitDefEqProofs := false) (disch := first | assumption | (try simp only [lens]); omega -splitDisjunctions))))))
            all_goals (rw [List.take_of_length_le (by simp)]; simp [outW_all])
          | succ k ih2 =>
            intro w hw
            have hwn : w < n := by omega
            have ih2 := ih2 (w + 1) (by omega)
            apply hQ2
            clear hQ2 hQ ih hseen
            rcases hf.nine with ⟨nm, hn, rfl⟩ | ⟨nm, rfl⟩ | ⟨nm, rfl⟩ | ⟨nm, a, ha, rfl⟩ | ⟨nm, a, b, ha, hb, rfl⟩ | ⟨nm, a, b, ha, hb, rfl⟩ | ⟨nm, a, b, ha, hb, rfl⟩ | ⟨nm, a, ha, rfl⟩ | ⟨nm, a, ha, rfl⟩
            · (((try simp (implicitDefEqProofs := false)); (try simp (implicitDefEqProofs := false) (disch := first | assumption | (try simp only [lens]); omega -splitDisjunctions))); all_goals try (repeat' ((first | ((with_reducible first | refine And.intro ?_ ?_ | refine Exists.intro ?_ ?_); first | omega | (simp <;> omega)) | (with_reducible refine spl (And.intro ?_ ?_) <;> intro _) | (refine CL.clo (HasText_ref _ _) ?_) | (refine CM.clo (HasText_ref _ _) ?_) | (refine CD.clo (HasText_ref _ _) ?_)) <;> ((try simp (implicitDefEqProofs := false)); (try simp (implicitDefEqProofs := false) (disch := first | assumption | (try simp only [lens]); omega -splitDisjunctions))))))
              rw [outW_succ hwn, ev_1] at ih2
              simpa [List.map_set, holdM, ht, hwn] using ih2
            · (((try simp (implicitDefEqProofs := false)); (try simp (implicitDefEqProofs := false) (disch := first | assumption | (try simp only [lens]); omega -splitDisjunctions))); all_goals try (repeat' ((first | ((with_reducible first | refine And.intro ?_ ?_ | refine Exists.intro ?_ ?_); first | omega | (simp <;> omega)) | (with_reducible refine spl (And.intro ?_ ?_) <;> intro _)) <;> ((try simp (implicitDefEqProofs := false)); (try simp (implicitDefEqProofs := false) (disch := first | assumption | (try simp only [lens]); omega -splitDisjunctions))))))
              rw [outW_succ hwn, ev_2] at ih2
              simpa [List.map_set] using ih2
            · (((try simp (implicitDefEqProofs := false)); (try simp (implicitDefEqProofs := false) (disch := first | assumption | (try simp only [lens]); omega -splitDisjunctions))); all_goals try (repeat' ((first | ((with_reducible first | refine And.intro ?_ ?_ | refine Exists.intro ?_ ?_); first | omega | (simp <;> omega)) | (with_reducible refine spl (And.intro ?_ ?_) <;> intro _)) <;> ((try simp (implicitDefEqProofs := false)); (try simp (implicitDefEqProofs := false) (disch := first | assumption | (try simp only [lens]); omega -splitDisjunctions))))))
              rw [outW_same hwn ev_3] at ih2
              simpa using ih2
            · (((try simp (implicitDefEqProofs := false) [kidB, atB_get]); (try simp (implicitDefEqProofs := false) (disch := first | assumption | (try simp only [lens]); omega -splitDisjunctions) [kidB, atB_get])); all_goals try (repeat' ((first | ((with_reducible first | refine And.intro ?_ ?_ | refine Exists.intro ?_ ?_); first | omega | (simp <;> omega)) | (with_reducible refine spl (And.intro ?_ ?_) <;> intro _)) <;> ((try simp (implicitDefEqProofs := false) [kidB, atB_get]); (try simp (implicitDefEqProofs := false) (disch := first | assumption | (try simp only [lens]); omega -splitDisjunctions) [kidB, atB_get])))))
              rw [outW_succ hwn, ev_4] at ih2
              simpa [List.map_set, kidB] using ih2
            · (((try simp (implicitDefEqProofs := false) [kidB, atB_get]); (try simp (implicitDefEqProofs := false) (disch := first | assumption | (try simp only [lens]); omega -splitDisjunctions) [kidB, atB_get])); all_goals try (repeat' ((first | ((with_reducible first | refine And.intro ?_ ?_ | refine Exists.intro ?_ ?_); first | omega | (simp <;> omega)) | (with_reducible refine spl (And.intro ?_ ?_) <;> intro _)) <;> ((try simp (implicitDefEqProofs := false) [kidB, atB_get]); (try simp (implicitDefEqProofs := false) (disch := first | assumption | (try simp only [lens]); omega -splitDisjunctions) [kidB, atB_get])))))
              all_goals (rw [outW_succ hwn, ev_5] at ih2; simp_all [List.map_set, kidB])
            · (((try simp (implicitDefEqProofs := false) [kidB, atB_get]); (try simp (implicitDefEqProofs := false) (disch := first | assumption | (try simp only [lens]); omega -splitDisjunctions) [kidB, atB_get])); all_goals try (repeat' ((first | ((with_reducible first | refine And.intro ?_ ?_ | refine Exists.intro ?_ ?_); first | omega | (simp <;> omega)) | (with_reducible refine spl (And.intro ?_ ?_) <;> intro _)) <;> ((try simp (implicitDefEqProofs := false) [kidB, atB_get]); (try simp (implicitDefEqProofs := false) (disch := first | assumption | (try simp only [lens]); omega -splitDisjunctions) [kidB, atB_get])))))
              all_goals (rw [outW_succ hwn, ev_6] at ih2; simp_all [List.map_set, kidB])
            · (((try simp (implicitDefEqProofs := false) [kidB, atB_get]); (try simp (implicitDefEqProofs := false) (disch := first | assumption | (try simp only [lens]); omega -splitDisjunctions) [kidB, atB_get])); all_goals try (repeat' ((first | ((with_reducible first | refine And.intro ?_ ?_ | refine Exists.intro ?_ ?_); first | omega | (simp <;> omega)) | (with_reducible refine spl (And.intro ?_ ?_) <;> intro _)) <;> ((try simp (implicitDefEqProofs := false) [kidB, atB_get]); (try simp (implicitDefEqProofs := false) (disch := first | assumption | (try simp only [lens]); omega -splitDisjunctions) [kidB, atB_get])))))
              all_goals (rw [outW_succ hwn, ev_7] at ih2; simp_all [List.map_set, kidB])
            · (((try simp (implicitDefEqProofs := false) [kidB, atB_get]); (try simp (implicitDefEqProofs := false) (disch := first | assumption | (try simp only [lens]); omega -splitDisjunctions) [kidB, atB_get])); all_goals try (repeat' ((first | ((with_reducible first | refine And.intro ?_ ?_ | refine Exists.intro ?_ ?_); first | omega | (simp <;> omega)) | (with_reducible refine spl (And.intro ?_ ?_) <;> intro _)) <;> ((try simp (implicitDefEqProofs := false) [kidB, atB_get]); (try simp (implicitDefEqProofs := false) (disch := first | assumption | (try simp only [lens]); omega -splitDisjunctions) [kidB, atB_get])))))
              refine W_of fun Q5 hQ5 => ?_
              have main5 : ∀ k i, i + k = (seenL ⟨n, rel, tr⟩ n w).length → Q5 [(2, .ptr 0 0 0), (3, .ptr 1 0 0), (5, .list ((List.range n).map fun u => [.list ((seenL ⟨n, rel, tr⟩ n u).map numRow)])), (6, .sl 2 0 n), (7, .sl 3 0 1), (9, .int .i64 (w : Int)), (10, .int .i64 (i : Int))]
                  [.rows 3 [mdl ⟨n, rel, tr⟩], .rows 3 [frm (.mk 8 nm [a])], .rows 1 (((outW ⟨n, rel, tr⟩ n (.mk 8 nm [a]) w).set w (((seenL ⟨n, rel, tr⟩ n w).take i).all (ev n (seeT ⟨n, rel, tr⟩) (holdM ⟨n, rel, tr⟩) a))).map boolRow), .rows 1 [kidB ⟨n, rel, tr⟩ n a]] := by
                intro k
                induction k with
                | zero =>
                  intro i hi
                  rw [List.take_of_length_le (by omega)]
                  apply hQ5
                  rw [outW_succ hwn, ev_box] at ih2
                  (((try simp (implicitDefEqProofs := false) [kidB]); (try simp (implicitDefEqProofs := false) (disch := first | assumption | (try simp only [lens]); omega -splitDisjunctions) [kidB])); all_goals try (repeat' ((first | ((with_reducible first | refine And.intro ?_ ?_ | refine Exists.intro ?_ ?_); first | omega | (simp <;> omega)) | (with_reducible refine spl (And.intro ?_ ?_) <;> intro _)) <;> ((try simp (implicitDefEqProofs := false) [kidB]); (try simp (implicitDefEqProofs := false) (disch := first | assumption | (try simp only [lens]); omega -splitDisjunctions) [kidB])))))
                  simpa [List.map_set, kidB] using ih2
                | succ k ih5 =>
                  intro i hi
                  have hil : i < (seenL ⟨n, rel, tr⟩ n w).length := by omega
                  have hvn := seen_lt hil
                  have ih5 := ih5 (i + 1) (by omega)
                  rw [take_snoc hil, List.all_append] at ih5
                  apply hQ5
                  clear hQ5 ih2
                  (((try simp (implicitDefEqProofs := false) [kidB, atB_get, hvn, hwn]); (try simp (implicitDefEqProofs := false) (disch := first | assumption | (try simp only [lens]); omega -splitDisjunctions) [kidB, atB_get, hvn, hwn])); all_goals try (repeat' ((first | ((with_reducible first | refine And.intro ?_ ?_ | refine Exists.intro ?_ ?_); first | omega | (simp <;> omega)) | (with_reducible refine spl (And.intro ?_ ?_) <;> intro _)) <;> ((try simp (implicitDefEqProofs := false) [kidB, atB_get, hvn, hwn]); (try simp (implicitDefEqProofs := false) (disch := first | assumption | (try simp only [lens]); omega -splitDisjunctions) [kidB, atB_get, hvn, hwn])))))
                  all_goals simp_all [List.map_set, kidB]
              refine at2 (main5 _ 0 (Nat.zero_add _)) ?_ ?_ <;> simp [List.map_set, kidB, outW_setr]
            · (((try simp (implicitDefEqProofs := false) [kidB, atB_get]); (try simp (implicitDefEqProofs := false) (disch := first | assumption | (try simp only [lens]); omega -splitDisjunctions) [kidB, atB_get])); all_goals try (repeat' ((first | ((with_reducible first | refine And.intro ?_ ?_ | refine Exists.intro ?_ ?_); first | omega | (simp <;> omega)) | (with_reducible refine spl (And.intro ?_ ?_) <;> intro _)) <;> ((try simp (implicitDefEqProofs := false) [kidB, atB_get]); (try simp (implicitDefEqProofs := false) (disch := first | assumption | (try simp only [lens]); omega -splitDisjunctions) [kidB, atB_get])))))
              refine W_of fun Q5 hQ5 => ?_
              have main5 : ∀ k i, i + k = (seenL ⟨n, rel, tr⟩ n w).length → Q5 [(2, .ptr 0 0 0), (3, .ptr 1 0 0), (5, .list ((List.range n).map fun u => [.list ((seenL ⟨n, rel, tr⟩ n u).map numRow)])), (6, .sl 2 0 n), (7, .sl 3 0 1), (9, .int .i64 (w : Int)), (11, .int .i64 (i : Int))]
                  [.rows 3 [mdl ⟨n, rel, tr⟩], .rows 3 [frm (.mk 9 nm [a])], .rows 1 (((outW ⟨n, rel, tr⟩ n (.mk 9 nm [a]) w).set w (((seenL ⟨n, rel, tr⟩ n w).take i).any (ev n (seeT ⟨n, rel, tr⟩) (holdM ⟨n, rel, tr⟩) a))).map boolRow), .rows 1 [kidB ⟨n, rel, tr⟩ n a]] := by
                intro k
                induction k with
                | zero =>
                  intro i hi
                  rw [List.take_of_length_le (by omega)]
                  apply hQ5
                  rw [outW_succ hwn, ev_dia] at ih2
                  (((try simp (implicitDefEqProofs := false) [kidB]); (try simp (implicitDefEqProofs := false) (disch := first | assumption | (try simp only [lens]); omega -splitDisjunctions) [kidB])); all_goals try (repeat' ((first | ((with_reducible first | refine And.intro ?_ ?_ | refine Exists.intro ?_ ?_); first | omega | (simp <;> omega)) | (with_reducible refine spl (And.intro ?_ ?_) <;> intro _)) <;> ((try simp (implicitDefEqProofs := false) [kidB]); (try simp (implicitDefEqProofs := false) (disch := first | assumption | (try simp only [lens]); omega -splitDisjunctions) [kidB])))))
                  simpa [List.map_set, kidB] using ih2
                | succ k ih5 =>
                  intro i hi
                  have hil : i < (seenL ⟨n, rel, tr⟩ n w).length := by omega
                  have hvn := seen_lt hil
                  have ih5 := ih5 (i + 1) (by omega)
                  rw [take_snoc hil, List.any_append] at ih5
                  apply hQ5
                  clear hQ5 ih2
                  (((try simp (implicitDefEqProofs := false) [kidB, atB_get, hvn, hwn]); (try simp (implicitDefEqProofs := false) (disch := first | assumption | (try simp only [lens]); omega -splitDisjunctions) [kidB, atB_get, hvn, hwn])); all_goals try (repeat' ((first | ((with_reducible first | refine And.intro ?_ ?_ | refine Exists.intro ?_ ?_); first | omega | (simp <;> omega)) | (with_reducible refine spl (And.intro ?_ ?_) <;> intro _)) <;> ((try simp (implicitDefEqProofs := false) [kidB, atB_get, hvn, hwn]); (try simp (implicitDefEqProofs := false) (disch := first | assumption | (try simp only [lens]); omega -splitDisjunctions) [kidB, atB_get, hvn, hwn])))))
                  all_goals simp_all [List.map_set, kidB]
              refine at2 (main5 _ 0 (Nat.zero_add _)) ?_ ?_ <;> simp [List.map_set, kidB, outW_setr]
        refine at2 (main2 _ 0 (Nat.zero_add _)) ?_ ?_ <;> simp
      | succ k ihk =>
        intro i hi
        have hil : i < f.kids.length := by omega
        have ihk := ihk (i + 1) (by omega)
        have hk2 := hf.kids_le
        apply hQ
        (((try simp (implicitDefEqProofs := false)); (try simp (implicitDefEqProofs := false) (disch := first | assumption | (try simp only [lens]); omega -splitDisjunctions))); all_goals try (repeat' ((first | ((with_reducible first | refine And.intro ?_ ?_ | refine Exists.intro ?_ ?_); first | omega | (simp <;> omega)) | (with_reducible refine spl (And.intro ?_ ?_) <;> intro _) | (refine CL.clo (ih _ (List.getElem_mem _) (hf.kid (List.getElem_mem _))) ?_) | (refine CM.clo (ih _ (List.getElem_mem _) (hf.kid (List.getElem_mem _))) ?_) | (refine CD.clo (ih _ (List.getElem_mem _) (hf.kid (List.getElem_mem _))) ?_)) <;> ((try simp (implicitDefEqProofs := false)); (try simp (implicitDefEqProofs := false) (disch := first | assumption | (try simp only [lens]); omega -splitDisjunctions))))))
        refine at2 ihk (by simp) ?_
        simp only [List.map_take]
        rw [take_snoc (l := f.kids.map (kidB ⟨n, rel, tr⟩ n)) (i := i) (by simp; omega)]
        simp only [List.getElem_map]; rfl
    refine at2 (main _ 0 (Nat.zero_add _)) ?_ ?_ <;> simp [outW_zero]
end Go.Proofs.Ytbmpmmbcfabeeaa
