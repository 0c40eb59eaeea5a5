/-
  sequentlaw: AlgebraBirkhoff.
-/
import Derived.Test.YthnobaacfjihcaaAlgD
namespace Go.Proofs.Ythnobaacfjihcaa
open Go Go.Pv
set_option linter.unusedVariables false
set_option linter.unusedSimpArgs false
set_option maxRecDepth 100000
set_option maxHeartbeats 4000000

/-- a table that is made row by row -/
def stT (S : Nat → List Nat) (n x : Nat) (cur : List Nat) : List (List Nat) := (List.range n).map fun u => if u < x then S u else if u = x then cur else []
section
variable {S : Nat → List Nat} {n x : Nat} {cur cur' : List Nat}
@[simp] theorem stT_length : (stT S n x cur).length = n := by simp [stT]
theorem stT_get (h : x < n) : (stT S n x cur)[x]? = some cur := by
  unfold stT
  rw [List.getElem?_map, List.getElem?_range h]; simp
theorem stT_getE (h : x < (stT S n x cur).length) : (stT S n x cur)[x] = cur := by simp [stT]
theorem stT_zero : stT S n 0 [] = List.replicate n [] := by simp [stT, List.map_const']
theorem stT_all : stT S n n [] = (List.range n).map S := List.map_congr_left fun u hu => by
  rw [if_pos (List.mem_range.1 hu)]
theorem stT_next : stT S n x (S x) = stT S n (x + 1) [] := List.map_congr_left fun u hu => by
  by_cases h : u < x
  · rw [if_pos h, if_pos (by omega)]
  · by_cases h2 : u = x
    · subst h2; simp
    · rw [if_neg h, if_neg h2, if_neg (by omega)]; split <;> rfl
theorem stT_set : (stT S n x cur).set x cur' = stT S n x cur' := by
  apply List.ext_getElem (by simp [stT])
  intro i h1 h2
  rw [List.getElem_set]
  simp only [stT, List.getElem_map, List.getElem_range]
  split
  · rename_i e; subst e; simp
  · rename_i e
    have e2 : ¬ i = x := fun h => e h.symm
    simp only [if_neg e2]
theorem stT_lset {k : Nat} (h : cur'.length = k) : ((stT S n x cur).map List.length).set x k = (stT S n x cur').map List.length := by
  rw [← stT_set (cur := cur) (cur' := cur'), List.map_set, h]
theorem stT_rset : ((stT S n x cur).map (List.map numRow)).set x (cur'.map numRow) = (stT S n x cur').map (List.map numRow) := by
  rw [← stT_set (cur := cur) (cur' := cur'), List.map_set]
end
def x6_L18 : XC := .seq (.seq (.reg [⟨some 286,.move (.tmp 28),none⟩,⟨some 287,.fieldAddr 24 (.tmp 1) 0,none⟩,⟨some 288,.load 3 (.tmp 287),none⟩,⟨some 289,.binOp .lss 3 (.tmp 286) (.tmp 288) 3,none⟩]) (.cond (.tmp 289) (.skip) (.exit 18))) (.seq (.block 19 (.seq (.drawn 73 [⟨some 292,.move (.tmp 3),none⟩,⟨some 293,.move (.tmp 27),none⟩,⟨some 294,.indexAddr 39 (.tmp 292) (.tmp 293),none⟩,⟨some 295,.load 41 (.tmp 294),none⟩,⟨some 296,.move (.tmp 28),none⟩,⟨some 297,.indexAddr 41 (.tmp 295) (.tmp 296),none⟩,⟨some 298,.load 4 (.tmp 297),none⟩,⟨some 299,.move (.tmp 22),none⟩,⟨some 300,.move (.tmp 27),none⟩,⟨some 301,.indexAddr 33 (.tmp 299) (.tmp 300),none⟩,⟨some 302,.load 37 (.tmp 301),none⟩,⟨some 303,.move (.tmp 22),none⟩,⟨some 304,.move (.tmp 28),none⟩,⟨some 305,.indexAddr 33 (.tmp 303) (.tmp 304),none⟩,⟨some 306,.load 37 (.tmp 305),none⟩,⟨some 307,.call ⟨.value (.func 25),#[.tmp 302,.tmp 306],#[37,37]⟩,none⟩,⟨some 308,.binOp .neq 4 (.tmp 298) (.tmp 307) 4,none⟩]) (.cond (.tmp 308) (.seq (.reg [⟨some 2,.assign (.const (.bool false)),none⟩]) (.ret)) (.skip)))) (.reg [⟨some 290,.move (.tmp 28),none⟩,⟨some 291,.binOp .add 3 (.tmp 290) (.const (.int .i64 1)) 3,none⟩,⟨some 28,.assign (.tmp 291),none⟩]))
def x6_L16 : XC := .seq (.seq (.reg [⟨some 280,.move (.tmp 27),none⟩,⟨some 281,.fieldAddr 24 (.tmp 1) 0,none⟩,⟨some 282,.load 3 (.tmp 281),none⟩,⟨some 283,.binOp .lss 3 (.tmp 280) (.tmp 282) 3,none⟩]) (.cond (.tmp 283) (.skip) (.exit 16))) (.seq (.block 17 (.seq (.reg [⟨some 28,.assign (.const (.int .i64 0)),none⟩]) (.bloop 18 x6_L18))) (.reg [⟨some 284,.move (.tmp 27),none⟩,⟨some 285,.binOp .add 3 (.tmp 284) (.const (.int .i64 1)) 3,none⟩,⟨some 27,.assign (.tmp 285),none⟩]))
def x6_T14 : XC := .seq (.seq (.reg [⟨some 27,.assign (.const (.int .i64 0)),none⟩]) (.bloop 16 x6_L16)) (.seq (.reg [⟨some 2,.assign (.const (.bool true)),none⟩]) (.ret))
def x6_T13 : XC := .seq (.reg [⟨some 278,.move (.tmp 25),none⟩,⟨some 279,.unOp .not 4 (.tmp 278),none⟩]) (.cond (.tmp 279) (.seq (.reg [⟨some 2,.assign (.const (.bool false)),none⟩]) (.ret)) (.skip))
def x6_L14 : XC := .seq (.seq (.reg [⟨some 260,.move (.tmp 26),none⟩,⟨some 261,.move (.tmp 21),none⟩,⟨some 262,.call ⟨.builtin .len,#[.tmp 261],#[33]⟩,none⟩,⟨some 263,.binOp .lss 3 (.tmp 260) (.tmp 262) 3,none⟩]) (.cond (.tmp 263) (.skip) (.exit 14))) (.seq (.block 15 (.drawn 64 [⟨some 266,.move (.tmp 25),none⟩,⟨some 267,.move (.tmp 266),none⟩,⟨some 268,.move (.tmp 21),some (some 267,false)⟩,⟨some 269,.move (.tmp 26),some (some 267,false)⟩,⟨some 270,.indexAddr 33 (.tmp 268) (.tmp 269),some (some 267,false)⟩,⟨some 271,.load 37 (.tmp 270),some (some 267,false)⟩,⟨some 272,.move (.tmp 22),some (some 267,false)⟩,⟨some 273,.move (.tmp 23),some (some 267,false)⟩,⟨some 274,.indexAddr 33 (.tmp 272) (.tmp 273),some (some 267,false)⟩,⟨some 275,.load 37 (.tmp 274),some (some 267,false)⟩,⟨some 276,.call ⟨.value (.func 21),#[.tmp 271,.tmp 275],#[37,37]⟩,some (some 267,false)⟩,⟨some 277,.pick (.tmp 267) (.const (.bool true)) (.tmp 276),none⟩,⟨some 25,.assign (.tmp 277),none⟩])) (.reg [⟨some 264,.move (.tmp 26),none⟩,⟨some 265,.binOp .add 3 (.tmp 264) (.const (.int .i64 1)) 3,none⟩,⟨some 26,.assign (.tmp 265),none⟩]))
def x6_T11 : XC := .seq (.reg [⟨some 25,.assign (.const (.bool false)),none⟩]) (.seq (.seq (.reg [⟨some 26,.assign (.const (.int .i64 0)),none⟩]) (.bloop 14 x6_L14)) (x6_T13))
def x6_L12 : XC := .seq (.seq (.reg [⟨some 234,.move (.tmp 24),none⟩,⟨some 235,.move (.tmp 17),none⟩,⟨some 236,.call ⟨.builtin .len,#[.tmp 235],#[37]⟩,none⟩,⟨some 237,.binOp .lss 3 (.tmp 234) (.tmp 236) 3,none⟩]) (.cond (.tmp 237) (.skip) (.exit 12))) (.seq (.block 13 (.seq (.reg [⟨some 240,.move (.tmp 3),none⟩,⟨some 241,.move (.tmp 17),none⟩,⟨some 242,.move (.tmp 24),none⟩,⟨some 243,.indexAddr 37 (.tmp 241) (.tmp 242),none⟩,⟨some 244,.load 3 (.tmp 243),none⟩,⟨some 245,.indexAddr 39 (.tmp 240) (.tmp 244),none⟩,⟨some 246,.load 41 (.tmp 245),none⟩,⟨some 247,.move (.tmp 23),none⟩,⟨some 248,.indexAddr 41 (.tmp 246) (.tmp 247),none⟩,⟨some 249,.load 4 (.tmp 248),none⟩]) (.cond (.tmp 249) (.reg [⟨some 250,.move (.tmp 22),none⟩,⟨some 251,.move (.tmp 23),none⟩,⟨some 252,.move (.tmp 22),none⟩,⟨some 253,.move (.tmp 23),none⟩,⟨some 254,.indexAddr 33 (.tmp 252) (.tmp 253),none⟩,⟨some 255,.load 37 (.tmp 254),none⟩,⟨some 256,.move (.tmp 24),none⟩,⟨some 257,.buildSlice 37 1 #[(0,.tmp 256)],none⟩,⟨some 258,.call ⟨.builtin .append,#[.tmp 255,.tmp 257],#[37,37]⟩,none⟩,⟨some 259,.indexAddr 33 (.tmp 250) (.tmp 251),none⟩,⟨none,.store 37 (.tmp 259) (.tmp 258),none⟩]) (.skip)))) (.reg [⟨some 238,.move (.tmp 24),none⟩,⟨some 239,.binOp .add 3 (.tmp 238) (.const (.int .i64 1)) 3,none⟩,⟨some 24,.assign (.tmp 239),none⟩]))
def x6_L10 : XC := .seq (.seq (.reg [⟨some 228,.move (.tmp 23),none⟩,⟨some 229,.fieldAddr 24 (.tmp 1) 0,none⟩,⟨some 230,.load 3 (.tmp 229),none⟩,⟨some 231,.binOp .lss 3 (.tmp 228) (.tmp 230) 3,none⟩]) (.cond (.tmp 231) (.skip) (.exit 10))) (.seq (.block 11 (.seq (.seq (.reg [⟨some 24,.assign (.const (.int .i64 0)),none⟩]) (.bloop 12 x6_L12)) (x6_T11))) (.reg [⟨some 232,.move (.tmp 23),none⟩,⟨some 233,.binOp .add 3 (.tmp 232) (.const (.int .i64 1)) 3,none⟩,⟨some 23,.assign (.tmp 233),none⟩]))
def x6_T8 : XC := .seq (.reg [⟨some 211,.load 24 (.tmp 18),none⟩,⟨some 212,.call ⟨.value (.func 15),#[.tmp 211],#[24]⟩,none⟩,⟨some 210,.move (.tmp 212),none⟩,⟨some 213,.extract (.tmp 210) 0,none⟩,⟨some 214,.extract (.tmp 210) 1,none⟩,⟨some 21,.assign (.tmp 213),none⟩,⟨none,.store 27 (.tmp 5) (.tmp 214),none⟩]) (.seq (.seq (.reg [⟨some 215,.fieldAddr 27 (.tmp 5) 0,none⟩,⟨some 216,.load 3 (.tmp 215),none⟩,⟨some 217,.binOp .neq 3 (.tmp 216) (.const (.int .i64 0)) 3,none⟩,⟨some 218,.move (.tmp 217),none⟩,⟨some 219,.move (.tmp 21),some (some 218,false)⟩,⟨some 220,.call ⟨.builtin .len,#[.tmp 219],#[33]⟩,some (some 218,false)⟩,⟨some 221,.fieldAddr 24 (.tmp 1) 0,some (some 218,false)⟩,⟨some 222,.load 3 (.tmp 221),some (some 218,false)⟩,⟨some 223,.binOp .neq 3 (.tmp 220) (.tmp 222) 3,some (some 218,false)⟩,⟨some 224,.pick (.tmp 218) (.const (.bool true)) (.tmp 223),none⟩]) (.cond (.tmp 224) (.seq (.reg [⟨some 2,.assign (.const (.bool false)),none⟩]) (.ret)) (.skip))) (.seq (.reg [⟨some 225,.fieldAddr 24 (.tmp 1) 0,none⟩,⟨some 226,.load 3 (.tmp 225),none⟩,⟨some 227,.makeSlice 33 (.tmp 226) (.tmp 226),none⟩,⟨some 22,.assign (.tmp 227),none⟩]) (.seq (.seq (.reg [⟨some 23,.assign (.const (.int .i64 0)),none⟩]) (.bloop 10 x6_L10)) (x6_T14))))
def x6_L8 : XC := .seq (.seq (.reg [⟨some 178,.move (.tmp 20),none⟩,⟨some 179,.move (.tmp 17),none⟩,⟨some 180,.call ⟨.builtin .len,#[.tmp 179],#[37]⟩,none⟩,⟨some 181,.binOp .lss 3 (.tmp 178) (.tmp 180) 3,none⟩]) (.cond (.tmp 181) (.skip) (.exit 8))) (.seq (.block 9 (.seq (.drawn 46 [⟨some 184,.move (.tmp 19),none⟩,⟨some 185,.move (.tmp 20),none⟩,⟨some 186,.binOp .neq 3 (.tmp 184) (.tmp 185) 3,none⟩,⟨some 187,.move (.tmp 186),none⟩,⟨some 188,.move (.tmp 3),some (some 187,true)⟩,⟨some 189,.move (.tmp 17),some (some 187,true)⟩,⟨some 190,.move (.tmp 19),some (some 187,true)⟩,⟨some 191,.indexAddr 37 (.tmp 189) (.tmp 190),some (some 187,true)⟩,⟨some 192,.load 3 (.tmp 191),some (some 187,true)⟩,⟨some 193,.indexAddr 39 (.tmp 188) (.tmp 192),some (some 187,true)⟩,⟨some 194,.load 41 (.tmp 193),some (some 187,true)⟩,⟨some 195,.move (.tmp 17),some (some 187,true)⟩,⟨some 196,.move (.tmp 20),some (some 187,true)⟩,⟨some 197,.indexAddr 37 (.tmp 195) (.tmp 196),some (some 187,true)⟩,⟨some 198,.load 3 (.tmp 197),some (some 187,true)⟩,⟨some 199,.indexAddr 41 (.tmp 194) (.tmp 198),some (some 187,true)⟩,⟨some 200,.load 4 (.tmp 199),some (some 187,true)⟩,⟨some 201,.pick (.tmp 187) (.tmp 200) (.const (.bool false)),none⟩]) (.cond (.tmp 201) (.reg [⟨some 202,.fieldAddr 24 (.tmp 18) 1,none⟩,⟨some 203,.load 22 (.tmp 202),none⟩,⟨some 204,.move (.tmp 19),none⟩,⟨some 205,.move (.tmp 20),none⟩,⟨some 206,.build 29 #[(0,.tmp 204),(1,.tmp 205)],none⟩,⟨some 207,.buildSlice 22 1 #[(0,.tmp 206)],none⟩,⟨some 208,.call ⟨.builtin .append,#[.tmp 203,.tmp 207],#[22,22]⟩,none⟩,⟨some 209,.fieldAddr 24 (.tmp 18) 1,none⟩,⟨none,.store 22 (.tmp 209) (.tmp 208),none⟩]) (.skip)))) (.reg [⟨some 182,.move (.tmp 20),none⟩,⟨some 183,.binOp .add 3 (.tmp 182) (.const (.int .i64 1)) 3,none⟩,⟨some 20,.assign (.tmp 183),none⟩]))
def x6_L6 : XC := .seq (.seq (.reg [⟨some 172,.move (.tmp 19),none⟩,⟨some 173,.move (.tmp 17),none⟩,⟨some 174,.call ⟨.builtin .len,#[.tmp 173],#[37]⟩,none⟩,⟨some 175,.binOp .lss 3 (.tmp 172) (.tmp 174) 3,none⟩]) (.cond (.tmp 175) (.skip) (.exit 6))) (.seq (.block 7 (.seq (.reg [⟨some 20,.assign (.const (.int .i64 0)),none⟩]) (.bloop 8 x6_L8))) (.reg [⟨some 176,.move (.tmp 19),none⟩,⟨some 177,.binOp .add 3 (.tmp 176) (.const (.int .i64 1)) 3,none⟩,⟨some 19,.assign (.tmp 177),none⟩]))
def x6_T5 : XC := .seq (.reg [⟨some 135,.load 24 (.tmp 1),none⟩,⟨some 136,.call ⟨.value (.func 9),#[.tmp 135],#[24]⟩,none⟩,⟨some 134,.move (.tmp 136),none⟩,⟨some 137,.extract (.tmp 134) 0,none⟩,⟨some 138,.extract (.tmp 134) 1,none⟩,⟨some 16,.alloc 30,none⟩,⟨none,.store 30 (.tmp 16) (.tmp 137),none⟩,⟨none,.store 27 (.tmp 5) (.tmp 138),none⟩]) (.seq (.seq (.reg [⟨some 139,.fieldAddr 27 (.tmp 5) 0,none⟩,⟨some 140,.load 3 (.tmp 139),none⟩,⟨some 141,.binOp .neq 3 (.tmp 140) (.const (.int .i64 0)) 3,none⟩,⟨some 142,.move (.tmp 141),none⟩,⟨some 143,.indexAddr 30 (.tmp 16) (.const (.int .i64 2)),some (some 142,false)⟩,⟨some 144,.load 4 (.tmp 143),some (some 142,false)⟩,⟨some 145,.unOp .not 4 (.tmp 144),some (some 142,false)⟩,⟨some 146,.pick (.tmp 142) (.const (.bool true)) (.tmp 145),none⟩]) (.cond (.tmp 146) (.seq (.reg [⟨some 2,.assign (.const (.bool true)),none⟩]) (.ret)) (.skip))) (.seq (.reg [⟨some 148,.load 24 (.tmp 1),none⟩,⟨some 149,.call ⟨.value (.func 16),#[.tmp 148],#[24]⟩,none⟩,⟨some 147,.move (.tmp 149),none⟩,⟨some 150,.extract (.tmp 147) 0,none⟩,⟨some 151,.extract (.tmp 147) 1,none⟩,⟨some 17,.assign (.tmp 150),none⟩,⟨none,.store 27 (.tmp 5) (.tmp 151),none⟩]) (.seq (.seq (.reg [⟨some 152,.fieldAddr 27 (.tmp 5) 0,none⟩,⟨some 153,.load 3 (.tmp 152),none⟩,⟨some 154,.binOp .neq 3 (.tmp 153) (.const (.int .i64 0)) 3,none⟩,⟨some 155,.move (.tmp 154),none⟩,⟨some 156,.move (.tmp 17),some (some 155,false)⟩,⟨some 157,.call ⟨.builtin .len,#[.tmp 156],#[37]⟩,some (some 155,false)⟩,⟨some 158,.binOp .gtr 3 (.tmp 157) (.const (.int .i64 10)) 3,some (some 155,false)⟩,⟨some 159,.pick (.tmp 155) (.const (.bool true)) (.tmp 158),none⟩]) (.cond (.tmp 159) (.seq (.reg [⟨some 160,.fieldAddr 27 (.tmp 5) 0,none⟩,⟨some 161,.load 3 (.tmp 160),none⟩,⟨some 162,.binOp .eql 3 (.tmp 161) (.const (.int .i64 0)) 3,none⟩,⟨some 2,.assign (.tmp 162),none⟩]) (.ret)) (.skip))) (.seq (.seq (.reg [⟨some 163,.move (.tmp 17),none⟩,⟨some 164,.call ⟨.builtin .len,#[.tmp 163],#[37]⟩,none⟩,⟨some 165,.binOp .eql 3 (.tmp 164) (.const (.int .i64 0)) 3,none⟩]) (.cond (.tmp 165) (.seq (.reg [⟨some 166,.fieldAddr 24 (.tmp 1) 0,none⟩,⟨some 167,.load 3 (.tmp 166),none⟩,⟨some 168,.binOp .eql 3 (.tmp 167) (.const (.int .i64 1)) 3,none⟩,⟨some 2,.assign (.tmp 168),none⟩]) (.ret)) (.skip))) (.seq (.reg [⟨some 169,.move (.tmp 17),none⟩,⟨some 170,.call ⟨.builtin .len,#[.tmp 169],#[37]⟩,none⟩,⟨some 171,.build 24 #[(0,.tmp 170)],none⟩,⟨some 18,.alloc 24,none⟩,⟨none,.store 24 (.tmp 18) (.tmp 171),none⟩]) (.seq (.seq (.reg [⟨some 19,.assign (.const (.int .i64 0)),none⟩]) (.bloop 6 x6_L6)) (x6_T8)))))))
def x6_T4 : XC := .seq (.reg [⟨some 132,.move (.tmp 14),none⟩,⟨some 133,.unOp .not 4 (.tmp 132),none⟩]) (.cond (.tmp 133) (.seq (.reg [⟨some 2,.assign (.const (.bool false)),none⟩]) (.ret)) (.skip))
def x6_L4 : XC := .seq (.seq (.reg [⟨some 114,.move (.tmp 15),none⟩,⟨some 115,.move (.tmp 9),none⟩,⟨some 116,.call ⟨.builtin .len,#[.tmp 115],#[37]⟩,none⟩,⟨some 117,.binOp .lss 3 (.tmp 114) (.tmp 116) 3,none⟩]) (.cond (.tmp 117) (.skip) (.exit 4))) (.seq (.block 5 (.reg [⟨some 120,.move (.tmp 14),none⟩,⟨some 121,.move (.tmp 120),none⟩,⟨some 122,.move (.tmp 4),some (some 121,false)⟩,⟨some 123,.move (.tmp 9),some (some 121,false)⟩,⟨some 124,.move (.tmp 15),some (some 121,false)⟩,⟨some 125,.indexAddr 37 (.tmp 123) (.tmp 124),some (some 121,false)⟩,⟨some 126,.load 3 (.tmp 125),some (some 121,false)⟩,⟨some 127,.indexAddr 33 (.tmp 122) (.tmp 126),some (some 121,false)⟩,⟨some 128,.load 37 (.tmp 127),some (some 121,false)⟩,⟨some 129,.move (.tmp 12),some (some 121,false)⟩,⟨some 130,.call ⟨.value (.func 21),#[.tmp 128,.tmp 129],#[37,37]⟩,some (some 121,false)⟩,⟨some 131,.pick (.tmp 121) (.const (.bool true)) (.tmp 130),none⟩,⟨some 14,.assign (.tmp 131),none⟩])) (.reg [⟨some 118,.move (.tmp 15),none⟩,⟨some 119,.binOp .add 3 (.tmp 118) (.const (.int .i64 1)) 3,none⟩,⟨some 15,.assign (.tmp 119),none⟩]))
def x6_T2 : XC := .seq (.reg [⟨some 14,.assign (.const (.bool false)),none⟩]) (.seq (.seq (.reg [⟨some 15,.assign (.const (.int .i64 0)),none⟩]) (.bloop 4 x6_L4)) (x6_T4))
def x6_L2 : XC := .seq (.seq (.reg [⟨some 97,.move (.tmp 13),none⟩,⟨some 98,.fieldAddr 24 (.tmp 1) 0,none⟩,⟨some 99,.load 3 (.tmp 98),none⟩,⟨some 100,.binOp .lss 3 (.tmp 97) (.tmp 99) 3,none⟩]) (.cond (.tmp 100) (.skip) (.exit 2))) (.seq (.block 3 (.seq (.reg [⟨some 103,.move (.tmp 3),none⟩,⟨some 104,.move (.tmp 13),none⟩,⟨some 105,.indexAddr 39 (.tmp 103) (.tmp 104),none⟩,⟨some 106,.load 41 (.tmp 105),none⟩,⟨some 107,.move (.tmp 11),none⟩,⟨some 108,.indexAddr 41 (.tmp 106) (.tmp 107),none⟩,⟨some 109,.load 4 (.tmp 108),none⟩]) (.cond (.tmp 109) (.reg [⟨some 110,.move (.tmp 12),none⟩,⟨some 111,.move (.tmp 13),none⟩,⟨some 112,.buildSlice 37 1 #[(0,.tmp 111)],none⟩,⟨some 113,.call ⟨.builtin .append,#[.tmp 110,.tmp 112],#[37,37]⟩,none⟩,⟨some 12,.assign (.tmp 113),none⟩]) (.skip)))) (.reg [⟨some 101,.move (.tmp 13),none⟩,⟨some 102,.binOp .add 3 (.tmp 101) (.const (.int .i64 1)) 3,none⟩,⟨some 13,.assign (.tmp 102),none⟩]))
def x6_L0 : XC := .seq (.seq (.reg [⟨some 91,.move (.tmp 11),none⟩,⟨some 92,.fieldAddr 24 (.tmp 1) 0,none⟩,⟨some 93,.load 3 (.tmp 92),none⟩,⟨some 94,.binOp .lss 3 (.tmp 91) (.tmp 93) 3,none⟩]) (.cond (.tmp 94) (.skip) (.exit 0))) (.seq (.block 1 (.seq (.reg [⟨some 12,.assign (.const (.slice none 0 0)),none⟩]) (.seq (.seq (.reg [⟨some 13,.assign (.const (.int .i64 0)),none⟩]) (.bloop 2 x6_L2)) (x6_T2)))) (.reg [⟨some 95,.move (.tmp 11),none⟩,⟨some 96,.binOp .add 3 (.tmp 95) (.const (.int .i64 1)) 3,none⟩,⟨some 11,.assign (.tmp 96),none⟩]))
def x6 : XC := .seq (.reg [⟨some 1,.box 24 (.tmp 0),none⟩,⟨some 2,.assign (.const (.bool false)),none⟩]) (.seq (.seq (.reg [⟨some 29,.call ⟨.value (.func 7),#[],#[]⟩,none⟩,⟨some 30,.unOp .not 4 (.tmp 29),none⟩]) (.cond (.tmp 30) (.seq (.reg [⟨some 2,.assign (.const (.bool false)),none⟩]) (.ret)) (.skip))) (.seq (.seq (.reg [⟨some 31,.load 24 (.tmp 1),none⟩,⟨some 32,.call ⟨.value (.func 8),#[.tmp 31],#[24]⟩,none⟩,⟨some 33,.field 27 (.tmp 32) 0,none⟩,⟨some 34,.binOp .neq 3 (.tmp 33) (.const (.int .i64 0)) 3,none⟩]) (.cond (.tmp 34) (.seq (.reg [⟨some 2,.assign (.const (.bool true)),none⟩]) (.ret)) (.skip))) (.seq (.reg [⟨some 35,.load 24 (.tmp 1),none⟩,⟨some 36,.call ⟨.value (.func 12),#[.tmp 35],#[24]⟩,none⟩,⟨some 3,.assign (.tmp 36),none⟩]) (.seq (.reg [⟨some 38,.load 24 (.tmp 1),none⟩,⟨some 39,.call ⟨.value (.func 15),#[.tmp 38],#[24]⟩,none⟩,⟨some 37,.move (.tmp 39),none⟩,⟨some 40,.extract (.tmp 37) 0,none⟩,⟨some 41,.extract (.tmp 37) 1,none⟩,⟨some 5,.alloc 27,none⟩,⟨some 4,.assign (.tmp 40),none⟩,⟨none,.store 27 (.tmp 5) (.tmp 41),none⟩]) (.seq (.seq (.reg [⟨some 42,.fieldAddr 27 (.tmp 5) 0,none⟩,⟨some 43,.load 3 (.tmp 42),none⟩,⟨some 44,.binOp .eql 3 (.tmp 43) (.const (.int .i64 0)) 3,none⟩,⟨some 45,.move (.tmp 44),none⟩,⟨some 46,.move (.tmp 4),some (some 45,true)⟩,⟨some 47,.call ⟨.builtin .len,#[.tmp 46],#[33]⟩,some (some 45,true)⟩,⟨some 48,.binOp .leq 3 (.tmp 47) (.const (.int .i64 20)) 3,some (some 45,true)⟩,⟨some 49,.pick (.tmp 45) (.tmp 48) (.const (.bool false)),none⟩]) (.cond (.tmp 49) (.seq (.reg [⟨some 50,.move (.tmp 4),none⟩,⟨some 51,.call ⟨.value (.func 24),#[.tmp 50],#[33]⟩,none⟩,⟨some 6,.alloc 24,none⟩,⟨none,.store 24 (.tmp 6) (.tmp 51),none⟩]) (.seq (.seq (.reg [⟨some 52,.load 24 (.tmp 6),none⟩,⟨some 53,.call ⟨.value (.func 8),#[.tmp 52],#[24]⟩,none⟩,⟨some 54,.field 27 (.tmp 53) 0,none⟩,⟨some 55,.binOp .neq 3 (.tmp 54) (.const (.int .i64 0)) 3,none⟩]) (.cond (.tmp 55) (.seq (.reg [⟨some 2,.assign (.const (.bool true)),none⟩]) (.ret)) (.skip))) (.seq (.reg [⟨some 57,.load 24 (.tmp 6),none⟩,⟨some 58,.call ⟨.value (.func 9),#[.tmp 57],#[24]⟩,none⟩,⟨some 56,.move (.tmp 58),none⟩,⟨some 59,.extract (.tmp 56) 0,none⟩,⟨some 60,.extract (.tmp 56) 1,none⟩,⟨some 7,.alloc 30,none⟩,⟨some 8,.alloc 27,none⟩,⟨none,.store 30 (.tmp 7) (.tmp 59),none⟩,⟨none,.store 27 (.tmp 8) (.tmp 60),none⟩]) (.seq (.reg [⟨some 62,.load 24 (.tmp 6),none⟩,⟨some 63,.call ⟨.value (.func 16),#[.tmp 62],#[24]⟩,none⟩,⟨some 61,.move (.tmp 63),none⟩,⟨some 64,.extract (.tmp 61) 0,none⟩,⟨some 65,.extract (.tmp 61) 1,none⟩,⟨some 10,.alloc 27,none⟩,⟨some 9,.assign (.tmp 64),none⟩,⟨none,.store 27 (.tmp 10) (.tmp 65),none⟩]) (.seq (.seq (.reg [⟨some 66,.fieldAddr 27 (.tmp 8) 0,none⟩,⟨some 67,.load 3 (.tmp 66),none⟩,⟨some 68,.binOp .neq 3 (.tmp 67) (.const (.int .i64 0)) 3,none⟩,⟨some 69,.move (.tmp 68),none⟩,⟨some 70,.fieldAddr 27 (.tmp 10) 0,some (some 69,false)⟩,⟨some 71,.load 3 (.tmp 70),some (some 69,false)⟩,⟨some 72,.binOp .neq 3 (.tmp 71) (.const (.int .i64 0)) 3,some (some 69,false)⟩,⟨some 73,.pick (.tmp 69) (.const (.bool true)) (.tmp 72),none⟩,⟨some 74,.move (.tmp 73),none⟩,⟨some 75,.indexAddr 30 (.tmp 7) (.const (.int .i64 0)),some (some 74,false)⟩,⟨some 76,.load 4 (.tmp 75),some (some 74,false)⟩,⟨some 77,.unOp .not 4 (.tmp 76),some (some 74,false)⟩,⟨some 78,.pick (.tmp 74) (.const (.bool true)) (.tmp 77),none⟩,⟨some 79,.move (.tmp 78),none⟩,⟨some 80,.indexAddr 30 (.tmp 7) (.const (.int .i64 2)),some (some 79,false)⟩,⟨some 81,.load 4 (.tmp 80),some (some 79,false)⟩,⟨some 82,.unOp .not 4 (.tmp 81),some (some 79,false)⟩,⟨some 83,.pick (.tmp 79) (.const (.bool true)) (.tmp 82),none⟩,⟨some 84,.move (.tmp 83),none⟩,⟨some 85,.move (.tmp 9),some (some 84,false)⟩,⟨some 86,.call ⟨.builtin .len,#[.tmp 85],#[37]⟩,some (some 84,false)⟩,⟨some 87,.fieldAddr 24 (.tmp 1) 0,some (some 84,false)⟩,⟨some 88,.load 3 (.tmp 87),some (some 84,false)⟩,⟨some 89,.binOp .neq 3 (.tmp 86) (.tmp 88) 3,some (some 84,false)⟩,⟨some 90,.pick (.tmp 84) (.const (.bool true)) (.tmp 89),none⟩]) (.cond (.tmp 90) (.seq (.reg [⟨some 2,.assign (.const (.bool false)),none⟩]) (.ret)) (.skip))) (.seq (.reg [⟨some 11,.assign (.const (.int .i64 0)),none⟩]) (.bloop 0 x6_L0))))))) (.skip))) (x6_T5))))))
@[simp] theorem x6_s {C : WC} {e : AE} {s : Store} {K : KS} : type_of% (@X_at C e s K _ _ x6_L18.eq_1) ∧ type_of% (@X_at C e s K _ _ x6_L16.eq_1) ∧ type_of% (@X_at C e s K _ _ x6_T14.eq_1) ∧ type_of% (@X_at C e s K _ _ x6_T13.eq_1) ∧ type_of% (@X_at C e s K _ _ x6_L14.eq_1) ∧ type_of% (@X_at C e s K _ _ x6_T11.eq_1) ∧ type_of% (@X_at C e s K _ _ x6_L12.eq_1) ∧ type_of% (@X_at C e s K _ _ x6_L10.eq_1) ∧ type_of% (@X_at C e s K _ _ x6_T8.eq_1) ∧ type_of% (@X_at C e s K _ _ x6_L8.eq_1) ∧ type_of% (@X_at C e s K _ _ x6_L6.eq_1) ∧ type_of% (@X_at C e s K _ _ x6_T5.eq_1) ∧ type_of% (@X_at C e s K _ _ x6_T4.eq_1) ∧ type_of% (@X_at C e s K _ _ x6_L4.eq_1) ∧ type_of% (@X_at C e s K _ _ x6_T2.eq_1) ∧ type_of% (@X_at C e s K _ _ x6_L2.eq_1) ∧ type_of% (@X_at C e s K _ _ x6_L0.eq_1) ∧ type_of% (@X_at C e s K _ _ x6.eq_1) := ⟨X_at x6_L18.eq_1, X_at x6_L16.eq_1, X_at x6_T14.eq_1, X_at x6_T13.eq_1, X_at x6_L14.eq_1, X_at x6_T11.eq_1, X_at x6_L12.eq_1, X_at x6_L10.eq_1, X_at x6_T8.eq_1, X_at x6_L8.eq_1, X_at x6_L6.eq_1, X_at x6_T5.eq_1, X_at x6_T4.eq_1, X_at x6_L4.eq_1, X_at x6_T2.eq_1, X_at x6_L2.eq_1, X_at x6_L0.eq_1, X_at x6.eq_1⟩
def an6 : Ann := ⟨[(46, .mix 15), (64, .mix 10), (73, .mix 16)], [(18, [(22, some 4000, 1)], [1, 3, 22, 27, 28], [1, 2, 3, 22, 27]), (16, [(22, some 4000, 1)], [1, 3, 22, 27], [2]), (14, [(22, some 4000, 1)], [1, 3, 17, 21, 22, 23, 25, 26], [1, 3, 17, 21, 22, 23, 25]), (12, [(22, some 4000, 1)], [1, 3, 17, 21, 22, 23, 24], [1, 3, 17, 21, 22, 23]), (10, [(22, some 4000, 1)], [1, 3, 17, 21, 22, 23], [1, 2, 3, 22]), (8, [(18, some 1, 2)], [1, 3, 5, 17, 18, 19, 20], [1, 3, 5, 17, 18, 19]), (6, [(18, some 1, 2)], [1, 3, 5, 17, 18, 19], [1, 3, 5, 17, 18]), (4, [], [1, 3, 4, 5, 9, 11, 12, 14, 15], [1, 3, 4, 5, 9, 11, 14]), (2, [(12, none, 1)], [1, 3, 4, 5, 9, 11, 12, 13], [1, 3, 4, 5, 9, 11, 12]), (0, [], [1, 3, 4, 5, 9, 11], [1, 2, 3, 5])], []⟩
def cx6 (P : Program) (m : Nat) : WC := ⟨P, m, an6⟩
@[simp] theorem cx6_a {P : Program} {m : Nat} : (cx6 P m).P = P ∧ (cx6 P m).m = m ∧ (cx6 P m).A.clsOf 46 = .mix 15 ∧ (cx6 P m).A.clsOf 64 = .mix 10 ∧ (cx6 P m).A.clsOf 73 = .mix 16 ∧ (cx6 P m).A.frzOf 46 = [] ∧ (cx6 P m).A.frzOf 64 = [] ∧ (cx6 P m).A.frzOf 73 = [] ∧ (cx6 P m).A.loopOf 18 = ([(22, some 4000, 1)], [1, 3, 22, 27, 28], [1, 2, 3, 22, 27]) ∧ (cx6 P m).A.loopOf 16 = ([(22, some 4000, 1)], [1, 3, 22, 27], [2]) ∧ (cx6 P m).A.loopOf 14 = ([(22, some 4000, 1)], [1, 3, 17, 21, 22, 23, 25, 26], [1, 3, 17, 21, 22, 23, 25]) ∧ (cx6 P m).A.loopOf 12 = ([(22, some 4000, 1)], [1, 3, 17, 21, 22, 23, 24], [1, 3, 17, 21, 22, 23]) ∧ (cx6 P m).A.loopOf 10 = ([(22, some 4000, 1)], [1, 3, 17, 21, 22, 23], [1, 2, 3, 22]) ∧ (cx6 P m).A.loopOf 8 = ([(18, some 1, 2)], [1, 3, 5, 17, 18, 19, 20], [1, 3, 5, 17, 18, 19]) ∧ (cx6 P m).A.loopOf 6 = ([(18, some 1, 2)], [1, 3, 5, 17, 18, 19], [1, 3, 5, 17, 18]) ∧ (cx6 P m).A.loopOf 4 = ([], [1, 3, 4, 5, 9, 11, 12, 14, 15], [1, 3, 4, 5, 9, 11, 14]) ∧ (cx6 P m).A.loopOf 2 = ([(12, none, 1)], [1, 3, 4, 5, 9, 11, 12, 13], [1, 3, 4, 5, 9, 11, 12]) ∧ (cx6 P m).A.loopOf 0 = ([], [1, 3, 4, 5, 9, 11], [1, 2, 3, 5]) := ⟨rfl, rfl, rfl, rfl, rfl, rfl, rfl, rfl, rfl, rfl, rfl, rfl, rfl, rfl, rfl, rfl, rfl, rfl⟩
instance {P : Program} {m f : Nat} [h : EnT P f] : EnT (cx6 P m).P f := h
theorem chk6 : ∀ c, Try.f6.body = some c → chkC Try.f6.ntmps an6 c = true := by intro c h; obtain rfl := Option.some.inj h; decide +kernel
theorem op6 {args : List PV} {v : PV} (h : X (cx6 Try.prog 0) x6 (argsA 0 args) [] (.fin [.tmp 2] fun v1 s1 => deref s1 6 v1 = v)) (hl : args.length ≤ Try.f6.ntmps := by rw [Try.ntmps6]; simp) : CallOK Try.prog 6 args [] v [] :=
  callX (m := 0) (cx6 Try.prog 0) x6 rfl rfl (by kernel_rfl) Try.func6 rfl rfl hl mixed (chk6 _ rfl) (by rw [Try.results6]; exact h)

/-- a distributive lattice is that of its Joins' Downs -/
theorem Birk_two (o : Ord) (hz : (ofault o).1 = 0) (c1 c2 : Int) : X (cx6 Try.prog 0) x6_T5 [(1, .ptr 0 0 0), (3, .list ((tabF o.n.toNat (leB o.ps)).map tabRowF)), (5, .ptr 1 0 0)]
    [.rows 2 [ord o], .rows 2 [[.int .i64 c1, .int .i64 c2]]] (.fin [.tmp 2] fun v1 s1 => deref s1 6 v1 = .bool true) := by
  obtain ⟨h0, h1, h2, h3, h4, h5⟩ := ofault_ok hz
  have hPO := leB_PO hz
  have hk := Kind_algebra o
  have hjs := Joins_algebra o
  unfold kindR at hk
  unfold joinsR at hjs
  rw [if_pos hz] at hk hjs
  rw [h0] at hk
  obtain ⟨n, E⟩ := o
  simp only at h1 h2 h3 h4 h5 hPO hk hjs ⊢
  obtain ⟨n, rfl⟩ : ∃ k : Nat, n = (k : Int) := ⟨n.toNat, by omega⟩
  simp only [Int.toNat_natCast, ord, faultA] at hPO hk hjs ⊢
  generalize leB E = g at hPO hk hjs ⊢
  unfold kindL at hk
  clear h0 h4 h5 hz
  cases hL : isLat n g with
  | false =>
    rw [hL] at hk
    simp only [Bool.false_eq_true, if_false, List.map_cons, List.map_nil] at hk
    (((try simp (implicitDefEqProofs := false)); (try simp (implicitDefEqProofs := false) (disch := first | assumption | (try simp only [lens]); omega -splitDisjunctions))); all_goals try (repeat' ((first | ((with_reducible first | refine And.intro ?_ ?_ | refine Exists.intro ?_ ?_); first | omega | (simp <;> omega)) | (with_reducible refine spl (And.intro ?_ ?_) <;> intro _) | (refine CL.clo (hk) ?_) | (refine CM.clo (hk) ?_) | (refine CD.clo (hk) ?_)) <;> ((try simp (implicitDefEqProofs := false)); (try simp (implicitDefEqProofs := false) (disch := first | assumption | (try simp only [lens]); omega -splitDisjunctions))))))
  | true =>
    simp only [hL, if_true, List.map_cons, List.map_nil] at hk hjs
    have hLa : La n g := ⟨hPO, hL⟩
    generalize modL n g = b1 at hk
    generalize compL n g = b3 at hk
    cases hD : distL n g with
    | false =>
      rw [hD] at hk
      (((try simp (implicitDefEqProofs := false)); (try simp (implicitDefEqProofs := false) (disch := first | assumption | (try simp only [lens]); omega -splitDisjunctions))); all_goals try (repeat' ((first | ((with_reducible first | refine And.intro ?_ ?_ | refine Exists.intro ?_ ?_); first | omega | (simp <;> omega)) | (with_reducible refine spl (And.intro ?_ ?_) <;> intro _) | (refine CL.clo (hk) ?_) | (refine CM.clo (hk) ?_) | (refine CD.clo (hk) ?_)) <;> ((try simp (implicitDefEqProofs := false)); (try simp (implicitDefEqProofs := false) (disch := first | assumption | (try simp only [lens]); omega -splitDisjunctions))))))
    | true =>
      rw [hD] at hk
      have hDi : Dist n g := dist_iff.1 hD
      have hno := hLa.no_joins (by omega)
      have hdl := hLa.downs_len (by omega) hDi
      have hjp := hLa.jord_po (by omega)
      have hsi := fun x (hx : x < n) => hLa.set_in (x := x) (by omega) hx
      have hss := fun x y (hx : x < n) (hy : y < n) => hLa.set_sub (x := x) (y := y) (by omega) hx hy
      have hJn : ∀ x ∈ joinsL n g n, x < n := fun x hx => (joins_mem.1 hx).1
      have hJl : (joinsL n g n).length ≤ n := by
        have := List.length_filter_le (fun x => !decide (belowL n g x = x)) (List.range n)
        rw [List.length_range] at this
        exact this
      generalize joinsL n g n = J at *
      clear hL hD hDi hLa hPO
      by_cases hJ10 : 10 < J.length
      · (((try simp (implicitDefEqProofs := false) [hJ10]); (try simp (implicitDefEqProofs := false) (disch := first | assumption | (try simp only [lens]); omega -splitDisjunctions) [hJ10])); all_goals try (repeat' ((first | ((with_reducible first | refine And.intro ?_ ?_ | refine Exists.intro ?_ ?_); first | omega | (simp <;> omega)) | (with_reducible refine spl (And.intro ?_ ?_) <;> intro _) | (refine CL.clo (hk) ?_) | (refine CM.clo (hk) ?_) | (refine CD.clo (hk) ?_) | (refine CL.clo (hjs) ?_) | (refine CM.clo (hjs) ?_) | (refine CD.clo (hjs) ?_)) <;> ((try simp (implicitDefEqProofs := false) [hJ10]); (try simp (implicitDefEqProofs := false) (disch := first | assumption | (try simp only [lens]); omega -splitDisjunctions) [hJ10])))))
      · by_cases hJ0 : J.length = 0
        · have hn1 := hno hJ0
          have hJe : J = [] := List.length_eq_zero_iff.1 hJ0
          subst hJe hn1
          (((try simp (implicitDefEqProofs := false)); (try simp (implicitDefEqProofs := false) (disch := first | assumption | (try simp only [lens]); omega -splitDisjunctions))); all_goals try (repeat' ((first | ((with_reducible first | refine And.intro ?_ ?_ | refine Exists.intro ?_ ?_); first | omega | (simp <;> omega)) | (with_reducible refine spl (And.intro ?_ ?_) <;> intro _) | (refine CL.clo (hk) ?_) | (refine CM.clo (hk) ?_) | (refine CD.clo (hk) ?_) | (refine CL.clo (hjs) ?_) | (refine CM.clo (hjs) ?_) | (refine CD.clo (hjs) ?_)) <;> ((try simp (implicitDefEqProofs := false)); (try simp (implicitDefEqProofs := false) (disch := first | assumption | (try simp only [lens]); omega -splitDisjunctions))))))
        · have hget : ∀ a (h : a < J.length), J.getD a 0 = J[a] := fun a h => by rw [List.getD_eq_getElem?_getD, List.getElem?_eq_getElem h]; rfl
          have hJm : ∀ a (h : a < J.length), J[a] < n := fun a h => hJn _ (List.getElem_mem h)
          have hz1 : ∀ a, (jqA J g a).length ≤ 10 := fun a => Nat.le_trans jqA_len (by omega)
          have hP : (jqP J g).length ≤ 100 := Nat.le_trans jqP_len (Nat.mul_le_mul (show J.length ≤ 10 by omega) (show J.length ≤ 10 by omega))
          have hqz : ofault ⟨(J.length : Int), jqP J g⟩ = (0, 0) := ofault_intro (by omega) (by omega) (by omega) (fun p hp => by
            obtain ⟨x, y⟩ := p
            obtain ⟨a, b, ha, hb, _, _, hx, hy⟩ := jqP_mem.1 hp
            simp only; omega) (fun i j hi hj h1 h2 => by
            rw [leB_joins hjp hi hj] at h1
            rw [leB_joins hjp hj hi] at h2
            exact hjp.anti i j hi hj h1 h2)
          have hd := Downs_algebra ⟨(J.length : Int), jqP J g⟩
          have hol : (outs J.length (jOrd J g) (2 ^ J.length)).length = n := by rw [← hdl]; simp [outs]
          unfold downR at hd
          have hoc : outs J.length (leB (jqP J g)) (2 ^ J.length) = outs J.length (jOrd J g) (2 ^ J.length) := outs_cg fun i j hi hj => leB_joins hjp hi hj
          simp only [hqz, if_true, Int.toNat_natCast, faultA, hoc, hol, ord] at hd
          rw [if_neg (by omega), if_neg (by omega)] at hd
          clear hoc
          have hol2 : ∀ x ∈ outs J.length (jOrd J g) (2 ^ J.length), x.length ≤ 10 := fun x hx => by
            obtain ⟨k, _, rfl⟩ := List.mem_map.1 hx
            have := List.length_filter_le (Nat.testBit k) (List.range J.length)
            rw [List.length_range] at this
            unfold bitsL; omega
          generalize outs J.length (jOrd J g) (2 ^ J.length) = D at *
          clear hdl hjp hqz hno hJn
          (((try simp (implicitDefEqProofs := false) [hJ10, hJ0]); (try simp (implicitDefEqProofs := false) (disch := first | assumption | (try simp only [lens]); omega -splitDisjunctions) [hJ10, hJ0])); all_goals try (repeat' ((first | ((with_reducible first | refine And.intro ?_ ?_ | refine Exists.intro ?_ ?_); first | omega | (simp <;> omega)) | (with_reducible refine spl (And.intro ?_ ?_) <;> intro _) | (refine CL.clo (hk) ?_) | (refine CM.clo (hk) ?_) | (refine CD.clo (hk) ?_) | (refine CL.clo (hjs) ?_) | (refine CM.clo (hjs) ?_) | (refine CD.clo (hjs) ?_)) <;> ((try simp (implicitDefEqProofs := false) [hJ10, hJ0]); (try simp (implicitDefEqProofs := false) (disch := first | assumption | (try simp only [lens]); omega -splitDisjunctions) [hJ10, hJ0])))))
          clear hk hjs
          refine W_of fun Q hQ => ?_
          have main : ∀ k a, a + k = J.length → Q [(1, .ptr 0 0 0), (3, .list ((tabF n g).map tabRowF)), (5, .ptr 1 0 0), (17, .list (J.map numRow)), (18, .ptr 2 0 0), (19, .int .i64 (a : Int))] [.rows 2 [[.int .i64 (n : Int), .list (E.map relRow)]], .rows 2 [[.int .i64 0, .int .i64 0]], .rows 2 [[.int .i64 (J.length : Int), .sl 3 0 ((List.range a).flatMap (jqA J g)).length]], .rows 2 (((List.range a).flatMap (jqA J g)).map relRow)] := by
            intro k
            induction k with
            | zero =>
              intro a ha
              obtain rfl : a = J.length := by omega
              rw [show (List.range J.length).flatMap (jqA J g) = jqP J g from rfl]
              generalize jqP J g = P at *
              apply hQ
              clear hQ
              (((try simp (implicitDefEqProofs := false)); (try simp (implicitDefEqProofs := false) (disch := first | assumption | (try simp only [lens]); omega -splitDisjunctions))); all_goals try (repeat' ((first | ((with_reducible first | refine And.intro ?_ ?_ | refine Exists.intro ?_ ?_); first | omega | (simp <;> omega)) | (with_reducible refine spl (And.intro ?_ ?_) <;> intro _)) <;> ((try simp (implicitDefEqProofs := false)); (try simp (implicitDefEqProofs := false) (disch := first | assumption | (try simp only [lens]); omega -splitDisjunctions))))))
              refine CL.giv [3] ?_
              (((try simp (implicitDefEqProofs := false) [hol]); (try simp (implicitDefEqProofs := false) (disch := first | assumption | (try simp only [lens]); omega -splitDisjunctions) [hol])); all_goals try (repeat' ((first | ((with_reducible first | refine And.intro ?_ ?_ | refine Exists.intro ?_ ?_); first | omega | (simp <;> omega)) | (with_reducible refine spl (And.intro ?_ ?_) <;> intro _) | (refine CL.clo (hd) ?_) | (refine CM.clo (hd) ?_) | (refine CD.clo (hd) ?_)) <;> ((try simp (implicitDefEqProofs := false) [hol]); (try simp (implicitDefEqProofs := false) (disch := first | assumption | (try simp only [lens]); omega -splitDisjunctions) [hol])))))
              clear hd hz1 hP
              refine HT_new (b := 5) (n := n) (ρ0 := [0, 4]) rfl rfl rfl rfl rfl (by simp) (by simp) (by simp) ?_
              simp
              have hSl : ∀ k x, (setL J g k x).length ≤ k := fun k x => by
                have := List.length_filter_le (fun i => g (J.getD i 0) x) (List.range k)
                rw [List.length_range] at this
                exact this
              refine W_of fun Q hQ => ?_
              have main : ∀ k x, x + k = n → Q [(1, .ptr 0 0 0), (3, .list ((tabF n g).map tabRowF)), (17, .list (J.map numRow)), (21, .list (D.map numsRow)), (22, .sl 1 0 n), (23, .int .i64 (x : Int))]
                  (.rows 2 [[.int .i64 (n : Int), .list (E.map relRow)]] :: .rows 1 (tabRows 2 ((stT (setL J g J.length) n x []).map List.length)) :: tabObjs 1 ((stT (setL J g J.length) n x []).map (List.map numRow))) := by
                intro k
                induction k with
                | zero =>
                  intro x hx
                  obtain rfl : x = n := by omega
                  rw [stT_all]
                  have hTl : ((List.range x).map (setL J g J.length)).length = x := by simp
                  have hTx : ∀ a h, ((List.range x).map (setL J g J.length))[a]'h = setL J g J.length a := fun a h => by simp
                  have hSl := hSl J.length
                  generalize (List.range x).map (setL J g J.length) = T at *
                  generalize setL J g J.length = S at *
                  apply hQ
                  clear hQ
                  (((try simp (implicitDefEqProofs := false)); (try simp (implicitDefEqProofs := false) (disch := first | assumption | (try simp only [lens]); omega -splitDisjunctions))); all_goals try (repeat' ((first | ((with_reducible first | refine And.intro ?_ ?_ | refine Exists.intro ?_ ?_); first | omega | (simp <;> omega)) | (with_reducible refine spl (And.intro ?_ ?_) <;> intro _)) <;> ((try simp (implicitDefEqProofs := false)); (try simp (implicitDefEqProofs := false) (disch := first | assumption | (try simp only [lens]); omega -splitDisjunctions))))))
                  refine HT_keep0 (pre := [_, _]) (b := 2) (ρ0 := [0, 1]) rfl rfl rfl rfl (by simp) flat_tab (by simp) (by simp) (by simp) ?_
                  (((try simp (implicitDefEqProofs := false)); (try simp (implicitDefEqProofs := false) (disch := first | assumption | (try simp only [lens]); omega -splitDisjunctions))); all_goals try (repeat' ((first | ((with_reducible first | refine And.intro ?_ ?_ | refine Exists.intro ?_ ?_); first | omega | (simp <;> omega)) | (with_reducible refine spl (And.intro ?_ ?_) <;> intro _)) <;> ((try simp (implicitDefEqProofs := false)); (try simp (implicitDefEqProofs := false) (disch := first | assumption | (try simp only [lens]); omega -splitDisjunctions))))))
                  refine HT_keep0 (pre := [_, _]) (b := 2) (ρ0 := [0, 1]) rfl rfl rfl rfl (by simp) flat_tab (by simp) (by simp) (by simp) ?_
                  simp
                  clear hsi hol2 hget hJm hol
                  refine W_of fun Q hQ => ?_
                  have main : ∀ k a, a + k = x → Q [(1, .ptr 0 0 0), (3, .list ((tabF x g).map tabRowF)), (22, .sl 1 0 x), (27, .int .i64 (a : Int))] (.rows 2 [[.int .i64 (x : Int), .list (E.map relRow)]] :: .rows 1 (tabRows 2 (T.map List.length)) :: tabObjs 1 (T.map (List.map numRow))) := by
                    intro k
                    induction k with
                    | zero =>
                      intro a ha
                      obtain rfl : a = x := by omega
                      apply hQ
                      clear hQ
                      (((try simp (implicitDefEqProofs := false)); (try simp (implicitDefEqProofs := false) (disch := first | assumption | (try simp only [lens]); omega -splitDisjunctions))); all_goals try (repeat' ((first | ((with_reducible first | refine And.intro ?_ ?_ | refine Exists.intro ?_ ?_); first | omega | (simp <;> omega)) | (with_reducible refine spl (And.intro ?_ ?_) <;> intro _)) <;> ((try simp (implicitDefEqProofs := false)); (try simp (implicitDefEqProofs := false) (disch := first | assumption | (try simp only [lens]); omega -splitDisjunctions))))))
                    | succ k ih =>
                      intro a ha
                      have hax : a < x := by omega
                      have ih := ih (a + 1) (by omega)
                      apply hQ
                      clear hQ
                      (((try simp (implicitDefEqProofs := false)); (try simp (implicitDefEqProofs := false) (disch := first | assumption | (try simp only [lens]); omega -splitDisjunctions))); all_goals try (repeat' ((first | ((with_reducible first | refine And.intro ?_ ?_ | refine Exists.intro ?_ ?_); first | omega | (simp <;> omega)) | (with_reducible refine spl (And.intro ?_ ?_) <;> intro _)) <;> ((try simp (implicitDefEqProofs := false)); (try simp (implicitDefEqProofs := false) (disch := first | assumption | (try simp only [lens]); omega -splitDisjunctions))))))
                      refine HT_keep0 (pre := [_, _]) (b := 2) (ρ0 := [0, 1]) rfl rfl rfl rfl (by simp) flat_tab (by simp) (by simp) (by simp) ?_
                      simp
                      refine W_of fun Q hQ => ?_
                      have main : ∀ k b, b + k = x → Q [(1, .ptr 0 0 0), (3, .list ((tabF x g).map tabRowF)), (22, .sl 1 0 x), (27, .int .i64 (a : Int)), (28, .int .i64 (b : Int))] (.rows 2 [[.int .i64 (x : Int), .list (E.map relRow)]] :: .rows 1 (tabRows 2 (T.map List.length)) :: tabObjs 1 (T.map (List.map numRow))) := by
                        intro k
                        induction k with
                        | zero =>
                          intro b hb
                          obtain rfl : b = x := by omega
                          apply hQ
                          clear hQ
                          (((try simp (implicitDefEqProofs := false)); (try simp (implicitDefEqProofs := false) (disch := first | assumption | (try simp only [lens]); omega -splitDisjunctions))); all_goals try (repeat' ((first | ((with_reducible first | refine And.intro ?_ ?_ | refine Exists.intro ?_ ?_); first | omega | (simp <;> omega)) | (with_reducible refine spl (And.intro ?_ ?_) <;> intro _)) <;> ((try simp (implicitDefEqProofs := false)); (try simp (implicitDefEqProofs := false) (disch := first | assumption | (try simp only [lens]); omega -splitDisjunctions))))))
                          refine HT_keep0 (pre := [_, _]) (b := 2) (ρ0 := [0, 1]) rfl rfl rfl rfl (by simp) flat_tab (by simp) (by simp) (by simp) ?_
                          (((try simp (implicitDefEqProofs := false)); (try simp (implicitDefEqProofs := false) (disch := first | assumption | (try simp only [lens]); omega -splitDisjunctions))); all_goals try (repeat' ((first | ((with_reducible first | refine And.intro ?_ ?_ | refine Exists.intro ?_ ?_); first | omega | (simp <;> omega)) | (with_reducible refine spl (And.intro ?_ ?_) <;> intro _)) <;> ((try simp (implicitDefEqProofs := false)); (try simp (implicitDefEqProofs := false) (disch := first | assumption | (try simp only [lens]); omega -splitDisjunctions))))))
                          refine HT_keep0 (pre := [_, _]) (b := 2) (ρ0 := [0, 1]) rfl rfl rfl rfl (by simp) flat_tab (by simp) (by simp) (by simp) ?_
                          simp
                          all_goals first | exact ih | (refine at2 ih ?_ ?_ <;> simp; done) | (exfalso; first | omega | (simp_all; done) | (simp_all; omega))
                        | succ k ih2 =>
                          intro b hb
                          have hbx : b < x := by omega
                          have ih2 := ih2 (b + 1) (by omega)
                          have hsu := Sub_ref (S a) (S b) (by have := hSl a; omega)
                          have hab := hss a b hax hbx
                          rw [← hab] at hsu
                          apply hQ
                          clear hQ
                          (((try simp (implicitDefEqProofs := false) [hax, hbx, hTl, tabRowF, tabF_get, rowF_get]); (try simp (implicitDefEqProofs := false) (disch := first | assumption | (try simp only [lens]); omega -splitDisjunctions) [hax, hbx, hTl, tabRowF, tabF_get, rowF_get])); all_goals try (repeat' ((first | ((with_reducible first | refine And.intro ?_ ?_ | refine Exists.intro ?_ ?_); first | omega | (simp <;> omega)) | (with_reducible refine spl (And.intro ?_ ?_) <;> intro _)) <;> ((try simp (implicitDefEqProofs := false) [hax, hbx, hTl, tabRowF, tabF_get, rowF_get]); (try simp (implicitDefEqProofs := false) (disch := first | assumption | (try simp only [lens]); omega -splitDisjunctions) [hax, hbx, hTl, tabRowF, tabF_get, rowF_get])))))
                          (first | refine CL.see (hsu) (by simp [hTl, hTx, hax, hbx]) (by simp [flats]) ?_ | refine CD.see (hsu) (by simp [hTl, hTx, hax, hbx]) (by simp [flats]) ?_ | refine CM.see (hsu) (fun _ => by simp [hTl, hTx, hax, hbx]) (by simp [flats]) ?_)
                          generalize g a b = v at *
                          (((try simp (implicitDefEqProofs := false) [hax, hbx]); (try simp (implicitDefEqProofs := false) (disch := first | assumption | (try simp only [lens]); omega -splitDisjunctions) [hax, hbx])); all_goals try (repeat' ((first | ((with_reducible first | refine And.intro ?_ ?_ | refine Exists.intro ?_ ?_); first | omega | (simp <;> omega)) | (with_reducible refine spl (And.intro ?_ ?_) <;> intro _)) <;> ((try simp (implicitDefEqProofs := false) [hax, hbx]); (try simp (implicitDefEqProofs := false) (disch := first | assumption | (try simp only [lens]); omega -splitDisjunctions) [hax, hbx])))))
                          refine HT_keep0 (pre := [_, _]) (b := 2) (ρ0 := [0, 1]) rfl rfl rfl rfl (by simp) flat_tab (by simp) (by simp) (by simp) ?_
                          simp
                          all_goals first | exact ih2 | (refine at2 ih2 ?_ ?_ <;> simp; done) | (exfalso; first | omega | (simp_all; done) | (simp_all; omega))
                      refine at2 (main _ 0 (Nat.zero_add _)) ?_ ?_ <;> simp
                  refine at2 (main _ 0 (Nat.zero_add _)) ?_ ?_ <;> simp
                | succ k ih =>
                  intro x hx
                  have hxn : x < n := by omega
                  have ih := ih (x + 1) (by omega)
                  rw [← stT_next] at ih
                  apply hQ
                  clear hQ
                  (((try simp (implicitDefEqProofs := false)); (try simp (implicitDefEqProofs := false) (disch := first | assumption | (try simp only [lens]); omega -splitDisjunctions))); all_goals try (repeat' ((first | ((with_reducible first | refine And.intro ?_ ?_ | refine Exists.intro ?_ ?_); first | omega | (simp <;> omega)) | (with_reducible refine spl (And.intro ?_ ?_) <;> intro _)) <;> ((try simp (implicitDefEqProofs := false)); (try simp (implicitDefEqProofs := false) (disch := first | assumption | (try simp only [lens]); omega -splitDisjunctions))))))
                  refine HT_keep0 (pre := [_, _]) (b := 2) (ρ0 := [0, 1]) rfl rfl rfl rfl (by simp) flat_tab (by simp) (by simp) (by simp) ?_
                  simp
                  refine W_of fun Q hQ => ?_
                  have main : ∀ k i, i + k = J.length → Q [(1, .ptr 0 0 0), (3, .list ((tabF n g).map tabRowF)), (17, .list (J.map numRow)), (21, .list (D.map numsRow)), (22, .sl 1 0 n), (23, .int .i64 (x : Int)), (24, .int .i64 (i : Int))]
                      (.rows 2 [[.int .i64 (n : Int), .list (E.map relRow)]] :: .rows 1 (tabRows 2 ((stT (setL J g J.length) n x (setL J g i x)).map List.length)) :: tabObjs 1 ((stT (setL J g J.length) n x (setL J g i x)).map (List.map numRow))) := by
                    intro k
                    induction k with
                    | zero =>
                      intro i hi
                      obtain rfl : i = J.length := by omega
                      apply hQ
                      clear hQ
                      (((try simp (implicitDefEqProofs := false)); (try simp (implicitDefEqProofs := false) (disch := first | assumption | (try simp only [lens]); omega -splitDisjunctions))); all_goals try (repeat' ((first | ((with_reducible first | refine And.intro ?_ ?_ | refine Exists.intro ?_ ?_); first | omega | (simp <;> omega)) | (with_reducible refine spl (And.intro ?_ ?_) <;> intro _)) <;> ((try simp (implicitDefEqProofs := false)); (try simp (implicitDefEqProofs := false) (disch := first | assumption | (try simp only [lens]); omega -splitDisjunctions))))))
                      refine HT_keep0 (pre := [_, _]) (b := 2) (ρ0 := [0, 1]) rfl rfl rfl rfl (by simp) flat_tab (by simp) (by simp) (by simp) ?_
                      (((try simp (implicitDefEqProofs := false)); (try simp (implicitDefEqProofs := false) (disch := first | assumption | (try simp only [lens]); omega -splitDisjunctions))); all_goals try (repeat' ((first | ((with_reducible first | refine And.intro ?_ ?_ | refine Exists.intro ?_ ?_); first | omega | (simp <;> omega)) | (with_reducible refine spl (And.intro ?_ ?_) <;> intro _)) <;> ((try simp (implicitDefEqProofs := false)); (try simp (implicitDefEqProofs := false) (disch := first | assumption | (try simp only [lens]); omega -splitDisjunctions))))))
                      refine HT_keep0 (pre := [_, _]) (b := 2) (ρ0 := [0, 1]) rfl rfl rfl rfl (by simp) flat_tab (by simp) (by simp) (by simp) ?_
                      simp
                      have hsx := hSl J.length x
                      have hTl : (stT (setL J g J.length) n x (setL J g J.length x)).length = n := stT_length
                      have hTx : ∀ h, (stT (setL J g J.length) n x (setL J g J.length x))[x]'h = setL J g J.length x := fun h => stT_getE h
                      have hin := hsi x hxn
                      generalize stT (setL J g J.length) n x (setL J g J.length x) = T at *
                      generalize setL J g J.length x = B at *
                      have hstep : ∀ i (h : i < D.length), (D.take (i + 1)).any (fun l => decide (l = B)) = ((D.take i).any (fun l => decide (l = B)) || decide (D[i] = B)) := fun i h => by
                        rw [take_snoc2 h, List.any_append]; simp
                      have hend : (D.take D.length).any (fun l => decide (l = B)) = true := by
                        rw [List.take_length, List.any_eq_true]; exact ⟨B, hin, by simp⟩
                      refine W_of fun Q hQ => ?_
                      have main : ∀ k i, i + k = D.length → Q [(1, .ptr 0 0 0), (3, .list ((tabF n g).map tabRowF)), (17, .list (J.map numRow)), (21, .list (D.map numsRow)), (22, .sl 1 0 n), (23, .int .i64 (x : Int)), (25, .bool ((D.take i).any fun l => decide (l = B))), (26, .int .i64 (i : Int))]
                          (.rows 2 [[.int .i64 (n : Int), .list (E.map relRow)]] :: .rows 1 (tabRows 2 (T.map List.length)) :: tabObjs 1 (T.map (List.map numRow))) := by
                        intro k
                        induction k with
                        | zero =>
                          intro i hi
                          obtain rfl : i = D.length := by omega
                          rw [hend]
                          apply hQ
                          clear hQ
                          (((try simp (implicitDefEqProofs := false)); (try simp (implicitDefEqProofs := false) (disch := first | assumption | (try simp only [lens]); omega -splitDisjunctions))); all_goals try (repeat' ((first | ((with_reducible first | refine And.intro ?_ ?_ | refine Exists.intro ?_ ?_); first | omega | (simp <;> omega)) | (with_reducible refine spl (And.intro ?_ ?_) <;> intro _)) <;> ((try simp (implicitDefEqProofs := false)); (try simp (implicitDefEqProofs := false) (disch := first | assumption | (try simp only [lens]); omega -splitDisjunctions))))))
                          refine HT_keep0 (pre := [_, _]) (b := 2) (ρ0 := [0, 1]) rfl rfl rfl rfl (by simp) flat_tab (by simp) (by simp) (by simp) ?_
                          (((try simp (implicitDefEqProofs := false)); (try simp (implicitDefEqProofs := false) (disch := first | assumption | (try simp only [lens]); omega -splitDisjunctions))); all_goals try (repeat' ((first | ((with_reducible first | refine And.intro ?_ ?_ | refine Exists.intro ?_ ?_); first | omega | (simp <;> omega)) | (with_reducible refine spl (And.intro ?_ ?_) <;> intro _)) <;> ((try simp (implicitDefEqProofs := false)); (try simp (implicitDefEqProofs := false) (disch := first | assumption | (try simp only [lens]); omega -splitDisjunctions))))))
                          refine HT_keep0 (pre := [_, _]) (b := 2) (ρ0 := [0, 1]) rfl rfl rfl rfl (by simp) flat_tab (by simp) (by simp) (by simp) ?_
                          simp
                          all_goals first | exact ih | (refine at2 ih ?_ ?_ <;> simp; done) | (exfalso; first | omega | (simp_all; done) | (simp_all; omega))
                        | succ k ih2 =>
                          intro i hi
                          have hiD : i < D.length := by omega
                          have ih2 := ih2 (i + 1) (by omega)
                          rw [hstep i hiD] at ih2
                          have hsn := sameNumbers_law D[i] B (by have := hol2 _ (List.getElem_mem hiD); omega) (by omega)
                          apply hQ
                          clear hQ
                          generalize (D.take i).any (fun l => decide (l = B)) = b at *
                          cases b
                          · generalize decide (D[i] = B) = c at *
                            (((try simp (implicitDefEqProofs := false) [hiD, numsRow, hxn, hTl]); (try simp (implicitDefEqProofs := false) (disch := first | assumption | (try simp only [lens]); omega -splitDisjunctions) [hiD, numsRow, hxn, hTl])); all_goals try (repeat' ((first | ((with_reducible first | refine And.intro ?_ ?_ | refine Exists.intro ?_ ?_); first | omega | (simp <;> omega)) | (with_reducible refine spl (And.intro ?_ ?_) <;> intro _)) <;> ((try simp (implicitDefEqProofs := false) [hiD, numsRow, hxn, hTl]); (try simp (implicitDefEqProofs := false) (disch := first | assumption | (try simp only [lens]); omega -splitDisjunctions) [hiD, numsRow, hxn, hTl])))))
                            (first | refine CL.see (hsn) (by simp [hTl, hTx, hxn]) (by simp [flats]) ?_ | refine CD.see (hsn) (by simp [hTl, hTx, hxn]) (by simp [flats]) ?_ | refine CM.see (hsn) (fun _ => by simp [hTl, hTx, hxn]) (by simp [flats]) ?_)
                            (((try simp (implicitDefEqProofs := false) [hiD]); (try simp (implicitDefEqProofs := false) (disch := first | assumption | (try simp only [lens]); omega -splitDisjunctions) [hiD])); all_goals try (repeat' ((first | ((with_reducible first | refine And.intro ?_ ?_ | refine Exists.intro ?_ ?_); first | omega | (simp <;> omega)) | (with_reducible refine spl (And.intro ?_ ?_) <;> intro _)) <;> ((try simp (implicitDefEqProofs := false) [hiD]); (try simp (implicitDefEqProofs := false) (disch := first | assumption | (try simp only [lens]); omega -splitDisjunctions) [hiD])))))
                            refine HT_keep0 (pre := [_, _]) (b := 2) (ρ0 := [0, 1]) rfl rfl rfl rfl (by simp) flat_tab (by simp) (by simp) (by simp) ?_
                            simp
                            all_goals first | exact ih2 | (refine at2 ih2 ?_ ?_ <;> simp; done) | (exfalso; first | omega | (simp_all; done) | (simp_all; omega))
                          · (((try simp (implicitDefEqProofs := false) [hiD]); (try simp (implicitDefEqProofs := false) (disch := first | assumption | (try simp only [lens]); omega -splitDisjunctions) [hiD])); all_goals try (repeat' ((first | ((with_reducible first | refine And.intro ?_ ?_ | refine Exists.intro ?_ ?_); first | omega | (simp <;> omega)) | (with_reducible refine spl (And.intro ?_ ?_) <;> intro _)) <;> ((try simp (implicitDefEqProofs := false) [hiD]); (try simp (implicitDefEqProofs := false) (disch := first | assumption | (try simp only [lens]); omega -splitDisjunctions) [hiD])))))
                            refine HT_keep0 (pre := [_, _]) (b := 2) (ρ0 := [0, 1]) rfl rfl rfl rfl (by simp) flat_tab (by simp) (by simp) (by simp) ?_
                            simp
                            all_goals first | exact ih2 | (refine at2 ih2 ?_ ?_ <;> simp; done) | (exfalso; first | omega | (simp_all; done) | (simp_all; omega))
                      refine at2 (main _ 0 (Nat.zero_add _)) ?_ ?_ <;> simp
                    | succ k ih =>
                      intro i hi
                      have hiJ : i < J.length := by omega
                      have ih := ih (i + 1) (by omega)
                      have hsl := hSl i x
                      have hJi := hJm i hiJ
                      have hstp : setL J g (i + 1) x = if g J[i] x = true then setL J g i x ++ [i] else setL J g i x := by
                        unfold setL
                        rw [List.range_succ, List.filter_append, List.filter_cons, List.filter_nil, hget i hiJ]
                        split <;> simp
                      rw [hstp] at ih
                      apply hQ
                      clear hQ
                      cases hx : g J[i] x
                      · simp only [hx, Bool.false_eq_true, if_false] at ih
                        (((try simp (implicitDefEqProofs := false) [hxn, hiJ, hJi, tabRowF, tabF_get, rowF_get, hx]); (try simp (implicitDefEqProofs := false) (disch := first | assumption | (try simp only [lens]); omega -splitDisjunctions) [hxn, hiJ, hJi, tabRowF, tabF_get, rowF_get, hx])); all_goals try (repeat' ((first | ((with_reducible first | refine And.intro ?_ ?_ | refine Exists.intro ?_ ?_); first | omega | (simp <;> omega)) | (with_reducible refine spl (And.intro ?_ ?_) <;> intro _)) <;> ((try simp (implicitDefEqProofs := false) [hxn, hiJ, hJi, tabRowF, tabF_get, rowF_get, hx]); (try simp (implicitDefEqProofs := false) (disch := first | assumption | (try simp only [lens]); omega -splitDisjunctions) [hxn, hiJ, hJi, tabRowF, tabF_get, rowF_get, hx])))))
                        refine HT_keep0 (pre := [_, _]) (b := 2) (ρ0 := [0, 1]) rfl rfl rfl rfl (by simp) flat_tab (by simp) (by simp) (by simp) ?_
                        simp
                        exact ih
                      · simp only [hx, if_true] at ih
                        (((try simp (implicitDefEqProofs := false) [hxn, hiJ, hJi, tabRowF, tabF_get, rowF_get, hx, stT_getE]); (try simp (implicitDefEqProofs := false) (disch := first | assumption | (try simp only [lens]); omega -splitDisjunctions) [hxn, hiJ, hJi, tabRowF, tabF_get, rowF_get, hx, stT_getE])); all_goals try (repeat' ((first | ((with_reducible first | refine And.intro ?_ ?_ | refine Exists.intro ?_ ?_); first | omega | (simp <;> omega)) | (with_reducible refine spl (And.intro ?_ ?_) <;> intro _)) <;> ((try simp (implicitDefEqProofs := false) [hxn, hiJ, hJi, tabRowF, tabF_get, rowF_get, hx, stT_getE]); (try simp (implicitDefEqProofs := false) (disch := first | assumption | (try simp only [lens]); omega -splitDisjunctions) [hxn, hiJ, hJi, tabRowF, tabF_get, rowF_get, hx, stT_getE])))))
                        (((try simp (implicitDefEqProofs := false) [hxn, stT_getE]); (try simp (implicitDefEqProofs := false) (disch := first | assumption | (try simp only [lens]); omega -splitDisjunctions) [hxn, stT_getE])); all_goals try (repeat' ((first | ((with_reducible first | refine And.intro ?_ ?_ | refine Exists.intro ?_ ?_); first | omega | (simp <;> omega)) | (with_reducible refine spl (And.intro ?_ ?_) <;> intro _)) <;> ((try simp (implicitDefEqProofs := false) [hxn, stT_getE]); (try simp (implicitDefEqProofs := false) (disch := first | assumption | (try simp only [lens]); omega -splitDisjunctions) [hxn, stT_getE])))))
                        refine HT_putd (pre := [_, _]) (b := 2) (ρ0 := [0, 1]) (ys := (setL J g i x ++ [i]).map numRow) rfl rfl rfl rfl (by simpa using hxn) (by simp) (by simp; omega) (by simp) flat_tab flat_rows (by simp) (by simp) (by simp) ?_
                        (((try simp (implicitDefEqProofs := false)); (try simp (implicitDefEqProofs := false) (disch := first | assumption | (try simp only [lens]); omega -splitDisjunctions))); all_goals try (repeat' ((first | ((with_reducible first | refine And.intro ?_ ?_ | refine Exists.intro ?_ ?_); first | omega | (simp <;> omega)) | (with_reducible refine spl (And.intro ?_ ?_) <;> intro _)) <;> ((try simp (implicitDefEqProofs := false)); (try simp (implicitDefEqProofs := false) (disch := first | assumption | (try simp only [lens]); omega -splitDisjunctions))))))
                        refine at2 ih ?_ ?_
                        · simp
                        · rw [← stT_lset (cur := setL J g i x) (cur' := setL J g i x ++ [i]) (k := (setL J g i x).length + 1) (by simp), ← stT_rset (cur := setL J g i x) (cur' := setL J g i x ++ [i])]
                          simp [numRow]
                  refine at2 (main _ 0 (Nat.zero_add _)) ?_ ?_ <;> simp [setL]
              refine at2 (main _ 0 (Nat.zero_add _)) ?_ ?_ <;> simp [stT_zero]
            | succ k ih =>
              intro a ha
              have haJ : a < J.length := by omega
              have ih := ih (a + 1) (by omega)
              have hl1 := fm_len (f := jqA J g) (z := 10) hz1 a
              have hl1 : ((List.range a).flatMap (jqA J g)).length ≤ 100 := by omega
              rw [fm_succ] at ih
              rw [show jqA J g a = (List.range J.length).flatMap (jqB J g a) from rfl] at ih
              generalize (List.range a).flatMap (jqA J g) = L1 at *
              clear hd hsi hss hP
              apply hQ
              clear hQ
              (((try simp (implicitDefEqProofs := false)); (try simp (implicitDefEqProofs := false) (disch := first | assumption | (try simp only [lens]); omega -splitDisjunctions))); all_goals try (repeat' ((first | ((with_reducible first | refine And.intro ?_ ?_ | refine Exists.intro ?_ ?_); first | omega | (simp <;> omega)) | (with_reducible refine spl (And.intro ?_ ?_) <;> intro _)) <;> ((try simp (implicitDefEqProofs := false)); (try simp (implicitDefEqProofs := false) (disch := first | assumption | (try simp only [lens]); omega -splitDisjunctions))))))
              refine W_of fun Q hQ => ?_
              have main : ∀ k b, b + k = J.length → Q [(1, .ptr 0 0 0), (3, .list ((tabF n g).map tabRowF)), (5, .ptr 1 0 0), (17, .list (J.map numRow)), (18, .ptr 2 0 0), (19, .int .i64 (a : Int)), (20, .int .i64 (b : Int))] [.rows 2 [[.int .i64 (n : Int), .list (E.map relRow)]], .rows 2 [[.int .i64 0, .int .i64 0]], .rows 2 [[.int .i64 (J.length : Int), .sl 3 0 (L1 ++ (List.range b).flatMap (jqB J g a)).length]], .rows 2 ((L1 ++ (List.range b).flatMap (jqB J g a)).map relRow)] := by
                intro k
                induction k with
                | zero =>
                  intro b hb
                  obtain rfl : b = J.length := by omega
                  generalize L1 ++ (List.range J.length).flatMap (jqB J g a) = L2 at *
                  apply hQ
                  clear hQ
                  (((try simp (implicitDefEqProofs := false)); (try simp (implicitDefEqProofs := false) (disch := first | assumption | (try simp only [lens]); omega -splitDisjunctions))); all_goals try (repeat' ((first | ((with_reducible first | refine And.intro ?_ ?_ | refine Exists.intro ?_ ?_); first | omega | (simp <;> omega)) | (with_reducible refine spl (And.intro ?_ ?_) <;> intro _)) <;> ((try simp (implicitDefEqProofs := false)); (try simp (implicitDefEqProofs := false) (disch := first | assumption | (try simp only [lens]); omega -splitDisjunctions))))))
                  all_goals first | exact ih | (refine at2 ih ?_ ?_ <;> simp; done) | (exfalso; first | omega | (simp_all; done) | (simp_all; omega))
                | succ k ih =>
                  intro b hb
                  have hbJ : b < J.length := by omega
                  have ih := ih (b + 1) (by omega)
                  have hl2 := fm_len (f := jqB J g a) (z := 1) (fun i => jqB_len) b
                  rw [fm_succ, ← List.append_assoc] at ih
                  have hl2 : (L1 ++ (List.range b).flatMap (jqB J g a)).length ≤ 110 := by rw [List.length_append]; omega
                  generalize L1 ++ (List.range b).flatMap (jqB J g a) = L2 at *
                  rw [show jqB J g a b = if a ≠ b ∧ g J[a] J[b] = true then [((a : Int), (b : Int))] else [] from by unfold jqB jOrd; rw [hget a haJ, hget b hbJ]] at ih
                  have h1 := hJm a haJ
                  have h2 := hJm b hbJ
                  apply hQ
                  clear hQ
                  by_cases hab : a = b
                  · simp only [hab, ne_eq, not_true_eq_false, false_and, if_false, List.append_nil] at ih
                    subst hab
                    (((try simp (implicitDefEqProofs := false)); (try simp (implicitDefEqProofs := false) (disch := first | assumption | (try simp only [lens]); omega -splitDisjunctions))); all_goals try (repeat' ((first | ((with_reducible first | refine And.intro ?_ ?_ | refine Exists.intro ?_ ?_); first | omega | (simp <;> omega)) | (with_reducible refine spl (And.intro ?_ ?_) <;> intro _)) <;> ((try simp (implicitDefEqProofs := false)); (try simp (implicitDefEqProofs := false) (disch := first | assumption | (try simp only [lens]); omega -splitDisjunctions))))))
                    all_goals first | exact ih | (refine at2 ih ?_ ?_ <;> simp; done) | (exfalso; first | omega | (simp_all; done) | (simp_all; omega))
                  · cases hx : g J[a] J[b]
                    · rw [hx] at ih
                      simp only [Bool.false_eq_true, and_false, if_false, List.append_nil] at ih
                      (((try simp (implicitDefEqProofs := false) [haJ, hbJ, h1, h2, tabRowF, tabF_get, rowF_get, hx, hab]); (try simp (implicitDefEqProofs := false) (disch := first | assumption | (try simp only [lens]); omega -splitDisjunctions) [haJ, hbJ, h1, h2, tabRowF, tabF_get, rowF_get, hx, hab])); all_goals try (repeat' ((first | ((with_reducible first | refine And.intro ?_ ?_ | refine Exists.intro ?_ ?_); first | omega | (simp <;> omega)) | (with_reducible refine spl (And.intro ?_ ?_) <;> intro _)) <;> ((try simp (implicitDefEqProofs := false) [haJ, hbJ, h1, h2, tabRowF, tabF_get, rowF_get, hx, hab]); (try simp (implicitDefEqProofs := false) (disch := first | assumption | (try simp only [lens]); omega -splitDisjunctions) [haJ, hbJ, h1, h2, tabRowF, tabF_get, rowF_get, hx, hab])))))
                      all_goals first | exact ih | (refine at2 ih ?_ ?_ <;> simp; done) | (exfalso; first | omega | (simp_all; done) | (simp_all; omega))
                    · rw [hx] at ih
                      simp only [hab, ne_eq, not_false_eq_true, and_self, if_true] at ih
                      (((try simp (implicitDefEqProofs := false) [haJ, hbJ, h1, h2, tabRowF, tabF_get, rowF_get, hx, hab]); (try simp (implicitDefEqProofs := false) (disch := first | assumption | (try simp only [lens]); omega -splitDisjunctions) [haJ, hbJ, h1, h2, tabRowF, tabF_get, rowF_get, hx, hab])); all_goals try (repeat' ((first | ((with_reducible first | refine And.intro ?_ ?_ | refine Exists.intro ?_ ?_); first | omega | (simp <;> omega)) | (with_reducible refine spl (And.intro ?_ ?_) <;> intro _)) <;> ((try simp (implicitDefEqProofs := false) [haJ, hbJ, h1, h2, tabRowF, tabF_get, rowF_get, hx, hab]); (try simp (implicitDefEqProofs := false) (disch := first | assumption | (try simp only [lens]); omega -splitDisjunctions) [haJ, hbJ, h1, h2, tabRowF, tabF_get, rowF_get, hx, hab])))))
                      all_goals first | exact ih | (refine at2 ih ?_ ?_ <;> simp [relRow]; done) | (exfalso; first | omega | (simp_all; done) | (simp_all; omega))
              refine at2 (main _ 0 (Nat.zero_add _)) ?_ ?_ <;> simp
          refine at2 (main _ 0 (Nat.zero_add _)) ?_ ?_ <;> simp
theorem AlgebraBirkhoff_law (o : Ord) : CallOK Try.prog 6 [.agg (ord o)] [] (.bool true) [] := by
  have hbg := algebraBegun_law
  have hf := OrderFault_ref o
  refine op6 ?_
  by_cases hz : (ofault o).1 = 0
  · obtain ⟨h0, h1, h2, h3, h4, h5⟩ := ofault_ok hz
    have key := fun c1 c2 => Birk_two o hz c1 c2
    have hPO := leB_PO hz
    have hd := Downs_algebra o
    unfold downR at hd
    rw [if_pos hz] at hd
    rw [h0] at hf
    obtain ⟨n, E⟩ := o
    simp only at h1 h2 h3 h4 h5 hPO hd key
    obtain ⟨n, rfl⟩ : ∃ k : Nat, n = (k : Int) := ⟨n.toNat, by omega⟩
    have hs := AtMost_ref ⟨(n : Int), E⟩ n rfl (by omega) h4 h3
    simp only [Int.toNat_natCast, ord, faultA] at hPO hd key hs hf ⊢
    generalize leB E = g at *
    simp at key
    by_cases h10 : (10 : Int) < n
    · rw [if_pos h10] at hd
      (((try simp (implicitDefEqProofs := false)); (try simp (implicitDefEqProofs := false) (disch := first | assumption | (try simp only [lens]); omega -splitDisjunctions))); all_goals try (repeat' ((first | ((with_reducible first | refine And.intro ?_ ?_ | refine Exists.intro ?_ ?_); first | omega | (simp <;> omega)) | (with_reducible refine spl (And.intro ?_ ?_) <;> intro _) | (refine CL.clo (hbg) ?_) | (refine CM.clo (hbg) ?_) | (refine CD.clo (hbg) ?_) | (refine CL.clo (hf) ?_) | (refine CM.clo (hf) ?_) | (refine CD.clo (hf) ?_) | (refine CL.clo (hs) ?_) | (refine CM.clo (hs) ?_) | (refine CD.clo (hs) ?_) | (refine CL.clo (hd) ?_) | (refine CM.clo (hd) ?_) | (refine CD.clo (hd) ?_)) <;> ((try simp (implicitDefEqProofs := false)); (try simp (implicitDefEqProofs := false) (disch := first | assumption | (try simp only [lens]); omega -splitDisjunctions))))))
      refine CL.gc [] [] [135, 1, 3, 5] ?_
      simp
      exact key _ _
    · rw [if_neg h10] at hd
      by_cases hm : 1000 < (outs n g (2 ^ n)).length
      · rw [if_pos hm] at hd
        (((try simp (implicitDefEqProofs := false)); (try simp (implicitDefEqProofs := false) (disch := first | assumption | (try simp only [lens]); omega -splitDisjunctions))); all_goals try (repeat' ((first | ((with_reducible first | refine And.intro ?_ ?_ | refine Exists.intro ?_ ?_); first | omega | (simp <;> omega)) | (with_reducible refine spl (And.intro ?_ ?_) <;> intro _) | (refine CL.clo (hbg) ?_) | (refine CM.clo (hbg) ?_) | (refine CD.clo (hbg) ?_) | (refine CL.clo (hf) ?_) | (refine CM.clo (hf) ?_) | (refine CD.clo (hf) ?_) | (refine CL.clo (hs) ?_) | (refine CM.clo (hs) ?_) | (refine CD.clo (hs) ?_) | (refine CL.clo (hd) ?_) | (refine CM.clo (hd) ?_) | (refine CD.clo (hd) ?_)) <;> ((try simp (implicitDefEqProofs := false)); (try simp (implicitDefEqProofs := false) (disch := first | assumption | (try simp only [lens]); omega -splitDisjunctions))))))
        refine CL.gc [] [] [135, 1, 3, 5] ?_
        simp
        exact key _ _
      · rw [if_neg hm] at hd
        by_cases h20 : 20 < (outs n g (2 ^ n)).length
        · generalize outs n g (2 ^ n) = D at *
          (((try simp (implicitDefEqProofs := false) [h20]); (try simp (implicitDefEqProofs := false) (disch := first | assumption | (try simp only [lens]); omega -splitDisjunctions) [h20])); all_goals try (repeat' ((first | ((with_reducible first | refine And.intro ?_ ?_ | refine Exists.intro ?_ ?_); first | omega | (simp <;> omega)) | (with_reducible refine spl (And.intro ?_ ?_) <;> intro _) | (refine CL.clo (hbg) ?_) | (refine CM.clo (hbg) ?_) | (refine CD.clo (hbg) ?_) | (refine CL.clo (hf) ?_) | (refine CM.clo (hf) ?_) | (refine CD.clo (hf) ?_) | (refine CL.clo (hs) ?_) | (refine CM.clo (hs) ?_) | (refine CD.clo (hs) ?_) | (refine CL.clo (hd) ?_) | (refine CM.clo (hd) ?_) | (refine CD.clo (hd) ?_)) <;> ((try simp (implicitDefEqProofs := false) [h20]); (try simp (implicitDefEqProofs := false) (disch := first | assumption | (try simp only [lens]); omega -splitDisjunctions) [h20])))))
          refine CL.gc [] [] [135, 1, 3, 5] ?_
          simp
          exact key _ _
        · have hD2 : ∀ x ∈ outs n g (2 ^ n), x.length ≤ 10 := fun x hx => by
            obtain ⟨k, _, rfl⟩ := List.mem_map.1 hx
            have := List.length_filter_le (Nat.testBit k) (List.range n)
            rw [List.length_range] at this
            unfold bitsL; omega
          have hp := OfSets_ref (outs n g (2 ^ n)) (by omega) (fun x hx => by have := hD2 x hx; omega)
          have hpf := OrderFault_ref ⟨((outs n g (2 ^ n)).length : Int), osP (outs n g (2 ^ n))⟩
          simp only [ord] at hpf
          by_cases hpz : (ofault ⟨((outs n g (2 ^ n)).length : Int), osP (outs n g (2 ^ n))⟩).1 = 0
          · have hpz0 := (ofault_ok hpz).1
            have hk := Kind_algebra ⟨((outs n g (2 ^ n)).length : Int), osP (outs n g (2 ^ n))⟩
            have hj := Joins_algebra ⟨((outs n g (2 ^ n)).length : Int), osP (outs n g (2 ^ n))⟩
            unfold kindR at hk
            unfold joinsR at hj
            rw [if_pos hpz] at hk hj
            have hNF : (outs n g (2 ^ n)).length = (FL n g).length := outs_len
            have hcg : ∀ i j, i < (FL n g).length → j < (FL n g).length → leB (osP (outs n g (2 ^ n))) i j = incT (FL n g) n i j := fun i j hi hj => leB_sets hi hj
            have hkl : kindL (FL n g).length (leB (osP (outs n g (2 ^ n)))) = [true, modL (FL n g).length (incT (FL n g) n), true, compL (FL n g).length (incT (FL n g) n)] := by
              rw [kind_cg hcg]
              unfold kindL
              rw [if_pos inc_lat, dist_iff.2 inc_dist, Bool.true_and]
            have hjl : joinsL (FL n g).length (leB (osP (outs n g (2 ^ n)))) (FL n g).length = joinsL (FL n g).length (incT (FL n g) n) (FL n g).length := joins_cg hcg
            have hil : isLat (FL n g).length (leB (osP (outs n g (2 ^ n)))) = true := by rw [isLat_cg hcg]; exact inc_lat
            simp only [Int.toNat_natCast, hNF, hkl, hjl, hil, if_true, ord, faultA, hpz0, List.map_cons, List.map_nil] at hk hj hp hpf
            have hlen := joins_len hPO
            have hhas := fun a (ha : a < n) => joins_has hPO ha
            have hlt : ∀ x ∈ joinsL (FL n g).length (incT (FL n g) n) (FL n g).length, x < (FL n g).length := fun x hx => (joins_mem.1 hx).1
            have hbp := fun a => bits_pr (a := a) hPO
            have hog := fun i (hi : i < (FL n g).length) => outs_getD hi
            clear hpz0 hkl hjl hil hcg hm h5
            generalize modL (FL n g).length (incT (FL n g) n) = b1 at *
            generalize compL (FL n g).length (incT (FL n g) n) = b3 at *
            generalize joinsL (FL n g).length (incT (FL n g) n) (FL n g).length = J at *
            generalize osP (outs n g (2 ^ n)) = P at *
            rw [← hNF] at hk hj hp hpf hlt
            have hhas : ∀ a, a < n → ∃ i, ∃ hi : i < J.length, ∃ h : J[i] < (outs n g (2 ^ n)).length, (outs n g (2 ^ n))[J[i]] = (List.range n).filter fun b => g b a := fun a ha => by
              obtain ⟨j, hj, hjl, e⟩ := hhas a ha
              obtain ⟨i, hi, rfl⟩ := List.getElem_of_mem hj
              refine ⟨i, hi, hNF ▸ hjl, ?_⟩
              have := hog _ hjl
              rw [e, hbp] at this
              rw [← this, List.getD_eq_getElem?_getD, List.getElem?_eq_getElem (hNF ▸ hjl), Option.getD_some]
            clear hog hbp hNF
            generalize outs n g (2 ^ n) = D at *
            (((try simp (implicitDefEqProofs := false) [h20, hpz, hlen]); (try simp (implicitDefEqProofs := false) (disch := first | assumption | (try simp only [lens]); omega -splitDisjunctions) [h20, hpz, hlen])); all_goals try (repeat' ((first | ((with_reducible first | refine And.intro ?_ ?_ | refine Exists.intro ?_ ?_); first | omega | (simp <;> omega)) | (with_reducible refine spl (And.intro ?_ ?_) <;> intro _) | (refine CL.clo (hbg) ?_) | (refine CM.clo (hbg) ?_) | (refine CD.clo (hbg) ?_) | (refine CL.clo (hf) ?_) | (refine CM.clo (hf) ?_) | (refine CD.clo (hf) ?_) | (refine CL.clo (hs) ?_) | (refine CM.clo (hs) ?_) | (refine CD.clo (hs) ?_) | (refine CL.clo (hd) ?_) | (refine CM.clo (hd) ?_) | (refine CD.clo (hd) ?_) | (refine CL.clo (hp) ?_) | (refine CM.clo (hp) ?_) | (refine CD.clo (hp) ?_) | (refine CL.clo (hpf) ?_) | (refine CM.clo (hpf) ?_) | (refine CD.clo (hpf) ?_) | (refine CL.clo (hk) ?_) | (refine CM.clo (hk) ?_) | (refine CD.clo (hk) ?_) | (refine CL.clo (hj) ?_) | (refine CM.clo (hj) ?_) | (refine CD.clo (hj) ?_)) <;> ((try simp (implicitDefEqProofs := false) [h20, hpz, hlen]); (try simp (implicitDefEqProofs := false) (disch := first | assumption | (try simp only [lens]); omega -splitDisjunctions) [h20, hpz, hlen])))))
            clear hbg hf hs hd hp hpf hk hj hpz
            refine W_of fun Q hQ => ?_
            have main : ∀ k a, a + k = n → Q [(1, .ptr 0 0 0), (3, .list ((tabF n g).map tabRowF)), (4, .list (D.map numsRow)), (5, .ptr 1 0 0), (9, .list (J.map numRow)), (11, .int .i64 (a : Int))] [.rows 2 [[.int .i64 (n : Int), .list (E.map relRow)]], .rows 2 [[.int .i64 0, .int .i64 0]]] := by
              intro k
              induction k with
              | zero =>
                intro a ha
                obtain rfl : a = n := by omega
                apply hQ
                clear hQ
                (((try simp (implicitDefEqProofs := false)); (try simp (implicitDefEqProofs := false) (disch := first | assumption | (try simp only [lens]); omega -splitDisjunctions))); all_goals try (repeat' ((first | ((with_reducible first | refine And.intro ?_ ?_ | refine Exists.intro ?_ ?_); first | omega | (simp <;> omega)) | (with_reducible refine spl (And.intro ?_ ?_) <;> intro _)) <;> ((try simp (implicitDefEqProofs := false)); (try simp (implicitDefEqProofs := false) (disch := first | assumption | (try simp only [lens]); omega -splitDisjunctions))))))
                refine CL.gc [] [] [135, 1, 3, 5] ?_
                simp
                exact key _ _
              | succ k ih =>
                intro a ha
                have han : a < n := by omega
                have ih := ih (a + 1) (by omega)
                clear key
                apply hQ
                clear hQ
                (((try simp (implicitDefEqProofs := false)); (try simp (implicitDefEqProofs := false) (disch := first | assumption | (try simp only [lens]); omega -splitDisjunctions))); all_goals try (repeat' ((first | ((with_reducible first | refine And.intro ?_ ?_ | refine Exists.intro ?_ ?_); first | omega | (simp <;> omega)) | (with_reducible refine spl (And.intro ?_ ?_) <;> intro _)) <;> ((try simp (implicitDefEqProofs := false)); (try simp (implicitDefEqProofs := false) (disch := first | assumption | (try simp only [lens]); omega -splitDisjunctions))))))
                refine W_of fun Q hQ => ?_
                have main : ∀ k b, b + k = n → Q [(1, .ptr 0 0 0), (3, .list ((tabF n g).map tabRowF)), (4, .list (D.map numsRow)), (5, .ptr 1 0 0), (9, .list (J.map numRow)), (11, .int .i64 (a : Int)), (12, .sl 2 0 ((List.range b).filter fun b => g b a).length), (13, .int .i64 (b : Int))] [.rows 2 [[.int .i64 (n : Int), .list (E.map relRow)]], .rows 2 [[.int .i64 0, .int .i64 0]], .rows 1 (((List.range b).filter fun b => g b a).map numRow)] := by
                  intro k
                  induction k with
                  | zero =>
                    intro b hb
                    obtain rfl : b = n := by omega
                    have hB := hhas a han
                    have hBl : ((List.range b).filter fun b => g b a).length ≤ b := by
                      have := List.length_filter_le (fun b => g b a) (List.range b)
                      rwa [List.length_range] at this
                    generalize (List.range b).filter (fun b => g b a) = B at *
                    apply hQ
                    clear hQ
                    (((try simp (implicitDefEqProofs := false)); (try simp (implicitDefEqProofs := false) (disch := first | assumption | (try simp only [lens]); omega -splitDisjunctions))); all_goals try (repeat' ((first | ((with_reducible first | refine And.intro ?_ ?_ | refine Exists.intro ?_ ?_); first | omega | (simp <;> omega)) | (with_reducible refine spl (And.intro ?_ ?_) <;> intro _)) <;> ((try simp (implicitDefEqProofs := false)); (try simp (implicitDefEqProofs := false) (disch := first | assumption | (try simp only [lens]); omega -splitDisjunctions))))))
                    have hJl : ∀ i (h : i < J.length), J[i] < D.length := fun i h => hlt _ (List.getElem_mem h)
                    have hDB := fun i (h : i < D.length) => sameNumbers_law D[i] B (by have := hD2 _ (List.getElem_mem h); omega) (by omega)
                    refine W_of fun Q hQ => ?_
                    have main : ∀ k i (r : Bool), i + k = J.length → (r = true ∨ ∃ i', i ≤ i' ∧ ∃ hi : i' < J.length, ∃ h : J[i'] < D.length, D[J[i']] = B) → Q [(1, .ptr 0 0 0), (3, .list ((tabF b g).map tabRowF)), (4, .list (D.map numsRow)), (5, .ptr 1 0 0), (9, .list (J.map numRow)), (11, .int .i64 (a : Int)), (12, .sl 2 0 B.length), (14, .bool r), (15, .int .i64 (i : Int))] [.rows 2 [[.int .i64 (b : Int), .list (E.map relRow)]], .rows 2 [[.int .i64 0, .int .i64 0]], .rows 1 (B.map numRow)] := by
                      intro k
                      induction k with
                      | zero =>
                        intro i r hi hr
                        have hr : r = true := hr.elim id fun ⟨i', h1, h2, _⟩ => by omega
                        subst hr
                        apply hQ
                        clear hQ
                        (((try simp (implicitDefEqProofs := false)); (try simp (implicitDefEqProofs := false) (disch := first | assumption | (try simp only [lens]); omega -splitDisjunctions))); all_goals try (repeat' ((first | ((with_reducible first | refine And.intro ?_ ?_ | refine Exists.intro ?_ ?_); first | omega | (simp <;> omega)) | (with_reducible refine spl (And.intro ?_ ?_) <;> intro _)) <;> ((try simp (implicitDefEqProofs := false)); (try simp (implicitDefEqProofs := false) (disch := first | assumption | (try simp only [lens]); omega -splitDisjunctions))))))
                        all_goals first | exact ih | (refine at2 ih ?_ ?_ <;> simp; done) | (exfalso; first | omega | (simp_all; done) | (simp_all; omega))
                      | succ k ih2 =>
                        intro i r hi hr
                        have hiJ : i < J.length := by omega
                        have hJi := hJl i hiJ
                        have ih2 := fun r => ih2 (i + 1) r (by omega)
                        have hsn := hDB J[i] hJi
                        apply hQ
                        clear hQ
                        cases r
                        · (((try simp (implicitDefEqProofs := false) [hiJ, hJi, numsRow]); (try simp (implicitDefEqProofs := false) (disch := first | assumption | (try simp only [lens]); omega -splitDisjunctions) [hiJ, hJi, numsRow])); all_goals try (repeat' ((first | ((with_reducible first | refine And.intro ?_ ?_ | refine Exists.intro ?_ ?_); first | omega | (simp <;> omega)) | (with_reducible refine spl (And.intro ?_ ?_) <;> intro _)) <;> ((try simp (implicitDefEqProofs := false) [hiJ, hJi, numsRow]); (try simp (implicitDefEqProofs := false) (disch := first | assumption | (try simp only [lens]); omega -splitDisjunctions) [hiJ, hJi, numsRow])))))
                          (first | refine CL.see (hsn) (by simp) (by simp [flats]) ?_ | refine CD.see (hsn) (by simp) (by simp [flats]) ?_ | refine CM.see (hsn) (fun _ => by simp) (by simp [flats]) ?_)
                          (((try simp (implicitDefEqProofs := false) [hiJ, hJi]); (try simp (implicitDefEqProofs := false) (disch := first | assumption | (try simp only [lens]); omega -splitDisjunctions) [hiJ, hJi])); all_goals try (repeat' ((first | ((with_reducible first | refine And.intro ?_ ?_ | refine Exists.intro ?_ ?_); first | omega | (simp <;> omega)) | (with_reducible refine spl (And.intro ?_ ?_) <;> intro _)) <;> ((try simp (implicitDefEqProofs := false) [hiJ, hJi]); (try simp (implicitDefEqProofs := false) (disch := first | assumption | (try simp only [lens]); omega -splitDisjunctions) [hiJ, hJi])))))
                          refine at2 (ih2 (decide (D[J[i]] = B)) ?_) ?_ ?_
                          · by_cases e : D[J[i]] = B
                            · exact .inl (by simp [e])
                            · refine .inr (hr.elim (fun h => by cases h) fun ⟨i', l1, l2, l3, l4⟩ => ⟨i', ?_, l2, l3, l4⟩)
                              by_cases e2 : i = i'
                              · subst e2; exact absurd l4 e
                              · omega
                          all_goals simp
                        · have ih2 := ih2 true (.inl rfl)
                          (((try simp (implicitDefEqProofs := false) [hiJ, hJi]); (try simp (implicitDefEqProofs := false) (disch := first | assumption | (try simp only [lens]); omega -splitDisjunctions) [hiJ, hJi])); all_goals try (repeat' ((first | ((with_reducible first | refine And.intro ?_ ?_ | refine Exists.intro ?_ ?_); first | omega | (simp <;> omega)) | (with_reducible refine spl (And.intro ?_ ?_) <;> intro _)) <;> ((try simp (implicitDefEqProofs := false) [hiJ, hJi]); (try simp (implicitDefEqProofs := false) (disch := first | assumption | (try simp only [lens]); omega -splitDisjunctions) [hiJ, hJi])))))
                          all_goals first | exact ih2 | (refine at2 ih2 ?_ ?_ <;> simp; done) | (exfalso; first | omega | (simp_all; done) | (simp_all; omega))
                    refine at2 (main _ 0 false (Nat.zero_add _) (.inr ?_)) ?_ ?_
                    · obtain ⟨i, h⟩ := hB
                      exact ⟨i, Nat.zero_le _, h⟩
                    all_goals simp
                  | succ k ih =>
                    intro b hb
                    have hbn : b < n := by omega
                    have ih := ih (b + 1) (by omega)
                    rw [List.range_succ, List.filter_append, List.filter_cons, List.filter_nil] at ih
                    have hBl : ((List.range b).filter fun b => g b a).length ≤ b := by
                      have := List.length_filter_le (fun b => g b a) (List.range b)
                      rwa [List.length_range] at this
                    generalize (List.range b).filter (fun b => g b a) = B at *
                    apply hQ
                    clear hQ
                    cases hx : g b a
                    · simp only [hx, Bool.false_eq_true, if_false, List.append_nil] at ih
                      (((try simp (implicitDefEqProofs := false) [han, hbn, tabRowF, tabF_get, rowF_get, hx]); (try simp (implicitDefEqProofs := false) (disch := first | assumption | (try simp only [lens]); omega -splitDisjunctions) [han, hbn, tabRowF, tabF_get, rowF_get, hx])); all_goals try (repeat' ((first | ((with_reducible first | refine And.intro ?_ ?_ | refine Exists.intro ?_ ?_); first | omega | (simp <;> omega)) | (with_reducible refine spl (And.intro ?_ ?_) <;> intro _)) <;> ((try simp (implicitDefEqProofs := false) [han, hbn, tabRowF, tabF_get, rowF_get, hx]); (try simp (implicitDefEqProofs := false) (disch := first | assumption | (try simp only [lens]); omega -splitDisjunctions) [han, hbn, tabRowF, tabF_get, rowF_get, hx])))))
                      all_goals first | exact ih | (refine at2 ih ?_ ?_ <;> simp; done) | (exfalso; first | omega | (simp_all; done) | (simp_all; omega))
                    · simp only [hx, if_true] at ih
                      (((try simp (implicitDefEqProofs := false) [han, hbn, tabRowF, tabF_get, rowF_get, hx]); (try simp (implicitDefEqProofs := false) (disch := first | assumption | (try simp only [lens]); omega -splitDisjunctions) [han, hbn, tabRowF, tabF_get, rowF_get, hx])); all_goals try (repeat' ((first | ((with_reducible first | refine And.intro ?_ ?_ | refine Exists.intro ?_ ?_); first | omega | (simp <;> omega)) | (with_reducible refine spl (And.intro ?_ ?_) <;> intro _)) <;> ((try simp (implicitDefEqProofs := false) [han, hbn, tabRowF, tabF_get, rowF_get, hx]); (try simp (implicitDefEqProofs := false) (disch := first | assumption | (try simp only [lens]); omega -splitDisjunctions) [han, hbn, tabRowF, tabF_get, rowF_get, hx])))))
                      all_goals first | exact ih | (refine at2 ih ?_ ?_ <;> simp [numRow]; done) | (exfalso; first | omega | (simp_all; done) | (simp_all; omega))
                refine at2 (main _ 0 (Nat.zero_add _)) ?_ ?_ <;> simp
            refine at2 (main _ 0 (Nat.zero_add _)) ?_ ?_ <;> simp
          · generalize ofault ⟨((outs n g (2 ^ n)).length : Int), osP (outs n g (2 ^ n))⟩ = w at *
            generalize outs n g (2 ^ n) = D at *
            (((try simp (implicitDefEqProofs := false) [h20, hpz]); (try simp (implicitDefEqProofs := false) (disch := first | assumption | (try simp only [lens]); omega -splitDisjunctions) [h20, hpz])); all_goals try (repeat' ((first | ((with_reducible first | refine And.intro ?_ ?_ | refine Exists.intro ?_ ?_); first | omega | (simp <;> omega)) | (with_reducible refine spl (And.intro ?_ ?_) <;> intro _) | (refine CL.clo (hbg) ?_) | (refine CM.clo (hbg) ?_) | (refine CD.clo (hbg) ?_) | (refine CL.clo (hf) ?_) | (refine CM.clo (hf) ?_) | (refine CD.clo (hf) ?_) | (refine CL.clo (hs) ?_) | (refine CM.clo (hs) ?_) | (refine CD.clo (hs) ?_) | (refine CL.clo (hd) ?_) | (refine CM.clo (hd) ?_) | (refine CD.clo (hd) ?_) | (refine CL.clo (hp) ?_) | (refine CM.clo (hp) ?_) | (refine CD.clo (hp) ?_) | (refine CL.clo (hpf) ?_) | (refine CM.clo (hpf) ?_) | (refine CD.clo (hpf) ?_)) <;> ((try simp (implicitDefEqProofs := false) [h20, hpz]); (try simp (implicitDefEqProofs := false) (disch := first | assumption | (try simp only [lens]); omega -splitDisjunctions) [h20, hpz])))))
  · generalize ofault o = w at hf hz ⊢
    obtain ⟨n, E⟩ := o
    simp only [ord] at hf ⊢
    (((try simp (implicitDefEqProofs := false) [hz]); (try simp (implicitDefEqProofs := false) (disch := first | assumption | (try simp only [lens]); omega -splitDisjunctions) [hz])); all_goals try (repeat' ((first | ((with_reducible first | refine And.intro ?_ ?_ | refine Exists.intro ?_ ?_); first | omega | (simp <;> omega)) | (with_reducible refine spl (And.intro ?_ ?_) <;> intro _) | (refine CL.clo (hbg) ?_) | (refine CM.clo (hbg) ?_) | (refine CD.clo (hbg) ?_) | (refine CL.clo (hf) ?_) | (refine CM.clo (hf) ?_) | (refine CD.clo (hf) ?_)) <;> ((try simp (implicitDefEqProofs := false) [hz]); (try simp (implicitDefEqProofs := false) (disch := first | assumption | (try simp only [lens]); omega -splitDisjunctions) [hz])))))
end Go.Proofs.Ythnobaacfjihcaa
