import Derived.Test.YtkadceiolddmhaaACdA
import Derived.Test.YtkadceiolddmhaaACcW
set_option linter.unusedVariables false
set_option linter.unusedSimpArgs false
set_option maxRecDepth 100000
set_option maxHeartbeats 40000000
namespace Go.Proofs.Ytkadceiolddmhaa
open Go Go.Pv
def x162 : XC := .seq (.reg [⟨some 4,.alloc 61,none⟩]) (.seq (.reg [⟨some 5,.move (.tmp 0),none⟩,⟨some 6,.move (.tmp 1),none⟩,⟨some 7,.build 61 #[(0,.tmp 5),(1,.tmp 6)],none⟩,⟨none,.store 61 (.tmp 4) (.tmp 7),none⟩]) .ret)
@[simp] theorem x162_s {C e s K} : type_of% (@X_at C e s K _ _ x162.eq_1) := X_at x162.eq_1
def an162 : Ann := ⟨[], [], []⟩
theorem fi162 : FI Try.prog 162 (cxA an162) x162 [.cell 4 61] Try.f162 := fiA Try.func162 mixed
theorem premises1_ref (l r : List Fm) : CallOK Try.prog 162 [.list (l.map frm), .list (r.map frm)] [] (.agg [.list (l.map frm), .list (r.map frm)]) [] := by
 refine fi162.op ?_
 ((refine Sg.h ?_); try repeat' ((first | (with_reducible first | refine brA ?_ | refine brE fun _ => ?_ | (refine spl ⟨?_, ?_⟩ <;> intro _))) <;> ((try simp -implicitDefEqProofs); (try simp -implicitDefEqProofs (disch := first | assumption | (try simp only [lens]); omega -splitDisjunctions)))))
noncomputable def hasR (l : List Fm) (f : Fm) : Bool := l.any fun y => sameB y f
def zF : Fm := .mk 0 ⟨#[]⟩ []
noncomputable def premM (u : Bool) (n : ByteArray) (f : Fm) (l r : List Fm) (a b : Fm) : List Prem × Bool × Bool :=
 if n = ⟨#[97, 120]⟩ then ([], true, hasR l f && hasR r f)
 else if n = ⟨#[116, 114, 117, 101]⟩ then ([], true, decide (f.kind = 2) && hasR r f)
 else if n = ⟨#[102, 97, 108, 115, 101]⟩ then ([], true, decide (f.kind = 3) && hasR l f)
 else if n = ⟨#[97, 110, 100, 45, 108]⟩ then ([(l.erase f ++ [a, b], r)], true, decide (f.kind = 5) && hasR l f)
 else if n = ⟨#[97, 110, 100, 45, 114]⟩ then ([(l, r.erase f ++ [a]), (l, r.erase f ++ [b])], true, decide (f.kind = 5) && hasR r f)
 else if n = ⟨#[111, 114, 45, 108]⟩ then ([(l.erase f ++ [a], r), (l.erase f ++ [b], r)], true, decide (f.kind = 6) && hasR l f)
 else if n = ⟨#[116, 104, 101, 110, 45, 114]⟩ then ([(l ++ [a], r.erase f ++ [b])], true, decide (f.kind = 7) && hasR r f)
 else if n = ⟨#[110, 111, 116, 45, 114]⟩ then ([(l ++ [a], r.erase f)], true, decide (f.kind = 4) && hasR r f)
 else if n = ⟨#[99, 111, 110, 116, 114, 45, 108]⟩ then ([(l ++ [f], r)], true, hasR l f)
 else if n = ⟨#[99, 117, 116]⟩ then (if u = true then [(l, [f]), (l ++ [f], r)] else [(l, r ++ [f]), (l ++ [f], r)], true, true)
 else if n = ⟨#[116, 104, 101, 110, 45, 108]⟩ then (if u = true then [(l.erase f, [a]), (l.erase f ++ [b], r)] else [(l.erase f, r ++ [a]), (l.erase f ++ [b], r)], true, decide (f.kind = 7) && hasR l f)
 else if n = ⟨#[110, 111, 116, 45, 108]⟩ then (if u = true then [(l.erase f, [a])] else [(l.erase f, r ++ [a])], true, decide (f.kind = 4) && hasR l f)
 else if n = ⟨#[111, 114, 45, 114]⟩ then ([(l, r.erase f ++ [a, b])], !u, decide (f.kind = 6) && hasR r f)
 else if n = ⟨#[99, 111, 110, 116, 114, 45, 114]⟩ then ([(l, r ++ [f])], !u, hasR r f)
 else if n = ⟨#[111, 114, 45, 114, 49]⟩ then ([(l, [a])], u, decide (f.kind = 6) && hasR r f)
 else if n = ⟨#[111, 114, 45, 114, 50]⟩ then ([(l, [b])], u, decide (f.kind = 6) && hasR r f)
 else ([], false, false)
def x129 : XC := .seq (.reg [⟨some 5,.box 59 (.tmp 1),none⟩,⟨some 6,.box 61 (.tmp 2),none⟩,⟨some 8,.assign (.const (.slice none 0 0)),none⟩,⟨some 9,.assign (.const (.bool false)),none⟩,⟨some 10,.assign (.const (.bool false)),none⟩]) (.seq (.reg [⟨some 21,.fieldAddr 61 (.tmp 6) 0,none⟩,⟨some 22,.load 57 (.tmp 21),none⟩,⟨some 11,.assign (.tmp 22),none⟩]) (.seq (.reg [⟨some 23,.fieldAddr 61 (.tmp 6) 1,none⟩,⟨some 24,.load 57 (.tmp 23),none⟩,⟨some 12,.assign (.tmp 24),none⟩]) (.seq (.reg [⟨some 25,.move (.tmp 11),none⟩,⟨some 26,.load 59 (.tmp 5),none⟩,⟨some 27,.call ⟨.value (.func 161),#[.tmp 25,.tmp 26],#[57,59]⟩,none⟩,⟨some 13,.assign (.tmp 27),none⟩]) (.seq (.reg [⟨some 28,.move (.tmp 12),none⟩,⟨some 29,.load 59 (.tmp 5),none⟩,⟨some 30,.call ⟨.value (.func 161),#[.tmp 28,.tmp 29],#[57,59]⟩,none⟩,⟨some 14,.assign (.tmp 30),none⟩]) (.seq (.reg [⟨some 31,.move (.tmp 11),none⟩,⟨some 32,.load 59 (.tmp 5),none⟩,⟨some 33,.call ⟨.value (.func 91),#[.tmp 31,.tmp 32],#[57,59]⟩,none⟩,⟨some 15,.assign (.tmp 33),none⟩]) (.seq (.reg [⟨some 34,.move (.tmp 12),none⟩,⟨some 35,.load 59 (.tmp 5),none⟩,⟨some 36,.call ⟨.value (.func 91),#[.tmp 34,.tmp 35],#[57,59]⟩,none⟩,⟨some 16,.assign (.tmp 36),none⟩]) (.seq (.reg [⟨some 17,.alloc 59,none⟩,⟨some 18,.alloc 59,none⟩]) (.seq (.seq (.reg [⟨some 37,.fieldAddr 59 (.tmp 5) 2,none⟩,⟨some 38,.load 57 (.tmp 37),none⟩,⟨some 39,.call ⟨.builtin .len,#[.tmp 38],#[57]⟩,none⟩,⟨some 40,.binOp .gtr 3 (.tmp 39) (.const (.int .i64 0)) 3,none⟩]) (.cond (.tmp 40) (.seq (.reg [⟨some 41,.fieldAddr 59 (.tmp 5) 2,none⟩,⟨some 42,.load 57 (.tmp 41),none⟩,⟨some 43,.indexAddr 57 (.tmp 42) (.const (.int .i64 0)),none⟩,⟨some 44,.load 59 (.tmp 43),none⟩,⟨none,.store 59 (.tmp 17) (.tmp 44),none⟩]) (.reg [⟨some 45,.fieldAddr 59 (.tmp 5) 2,none⟩,⟨some 46,.load 57 (.tmp 45),none⟩,⟨some 47,.fieldAddr 59 (.tmp 5) 2,none⟩,⟨some 48,.load 57 (.tmp 47),none⟩,⟨some 49,.call ⟨.builtin .len,#[.tmp 48],#[57]⟩,none⟩,⟨some 50,.binOp .sub 3 (.tmp 49) (.const (.int .i64 1)) 3,none⟩,⟨some 51,.indexAddr 57 (.tmp 46) (.tmp 50),none⟩,⟨some 52,.load 59 (.tmp 51),none⟩,⟨none,.store 59 (.tmp 18) (.tmp 52),none⟩])) .skip)) (.seq (.reg [⟨some 19,.assign (.func 162),none⟩]) (.seq (.reg [⟨some 53,.load 59 (.tmp 17),none⟩,⟨some 54,.buildSlice 57 1 #[(0,.tmp 53)],none⟩,⟨some 20,.assign (.tmp 54),none⟩]) (.seq (.seq (.reg [⟨some 55,.move (.tmp 0),none⟩]) (.block 0 (.seq (.reg [⟨some 57,.binOp .eql 9 (.tmp 55) (.const (.string ⟨#[97,120]⟩)) 9,none⟩,⟨some 56,.assign (.tmp 57),none⟩]) (.cond (.tmp 56) (.seq (.reg [⟨some 58,.move (.tmp 15),none⟩,⟨some 59,.move (.tmp 58),none⟩,⟨some 60,.move (.tmp 16),some (some 59,true)⟩,⟨some 61,.pick (.tmp 59) (.tmp 60) (.const (.bool false)),none⟩,⟨some 8,.assign (.const (.slice none 0 0)),none⟩,⟨some 9,.assign (.const (.bool true)),none⟩,⟨some 10,.assign (.tmp 61),none⟩]) .ret) (.seq (.reg [⟨some 63,.binOp .eql 9 (.tmp 55) (.const (.string ⟨#[116,114,117,101]⟩)) 9,none⟩,⟨some 62,.assign (.tmp 63),none⟩]) (.cond (.tmp 62) (.seq (.reg [⟨some 64,.fieldAddr 59 (.tmp 5) 0,none⟩,⟨some 65,.load 3 (.tmp 64),none⟩,⟨some 66,.binOp .eql 3 (.tmp 65) (.const (.int .i64 2)) 3,none⟩,⟨some 67,.move (.tmp 66),none⟩,⟨some 68,.move (.tmp 16),some (some 67,true)⟩,⟨some 69,.pick (.tmp 67) (.tmp 68) (.const (.bool false)),none⟩,⟨some 8,.assign (.const (.slice none 0 0)),none⟩,⟨some 9,.assign (.const (.bool true)),none⟩,⟨some 10,.assign (.tmp 69),none⟩]) .ret) (.seq (.reg [⟨some 71,.binOp .eql 9 (.tmp 55) (.const (.string ⟨#[102,97,108,115,101]⟩)) 9,none⟩,⟨some 70,.assign (.tmp 71),none⟩]) (.cond (.tmp 70) (.seq (.reg [⟨some 72,.fieldAddr 59 (.tmp 5) 0,none⟩,⟨some 73,.load 3 (.tmp 72),none⟩,⟨some 74,.binOp .eql 3 (.tmp 73) (.const (.int .i64 3)) 3,none⟩,⟨some 75,.move (.tmp 74),none⟩,⟨some 76,.move (.tmp 15),some (some 75,true)⟩,⟨some 77,.pick (.tmp 75) (.tmp 76) (.const (.bool false)),none⟩,⟨some 8,.assign (.const (.slice none 0 0)),none⟩,⟨some 9,.assign (.const (.bool true)),none⟩,⟨some 10,.assign (.tmp 77),none⟩]) .ret) (.seq (.reg [⟨some 79,.binOp .eql 9 (.tmp 55) (.const (.string ⟨#[97,110,100,45,108]⟩)) 9,none⟩,⟨some 78,.assign (.tmp 79),none⟩]) (.cond (.tmp 78) (.seq (.drawn 21 [⟨some 80,.move (.tmp 19),none⟩,⟨some 81,.move (.tmp 13),none⟩,⟨some 82,.load 59 (.tmp 17),none⟩,⟨some 83,.load 59 (.tmp 18),none⟩,⟨some 84,.buildSlice 57 2 #[(0,.tmp 82),(1,.tmp 83)],none⟩,⟨some 85,.call ⟨.value (.func 163),#[.tmp 81,.tmp 84],#[57,57]⟩,none⟩,⟨some 86,.move (.tmp 12),none⟩,⟨some 87,.call ⟨.value (.tmp 80),#[.tmp 85,.tmp 86],#[57,57]⟩,none⟩,⟨some 88,.buildSlice 192 1 #[(0,.tmp 87)],none⟩,⟨some 89,.fieldAddr 59 (.tmp 5) 0,none⟩,⟨some 90,.load 3 (.tmp 89),none⟩,⟨some 91,.binOp .eql 3 (.tmp 90) (.const (.int .i64 5)) 3,none⟩,⟨some 92,.move (.tmp 91),none⟩,⟨some 93,.move (.tmp 15),some (some 92,true)⟩,⟨some 94,.pick (.tmp 92) (.tmp 93) (.const (.bool false)),none⟩,⟨some 8,.assign (.tmp 88),none⟩,⟨some 9,.assign (.const (.bool true)),none⟩,⟨some 10,.assign (.tmp 94),none⟩]) .ret) (.seq (.reg [⟨some 96,.binOp .eql 9 (.tmp 55) (.const (.string ⟨#[97,110,100,45,114]⟩)) 9,none⟩,⟨some 95,.assign (.tmp 96),none⟩]) (.cond (.tmp 95) (.seq (.drawn 23 [⟨some 97,.move (.tmp 19),none⟩,⟨some 98,.move (.tmp 11),none⟩,⟨some 99,.move (.tmp 14),none⟩,⟨some 100,.load 59 (.tmp 17),none⟩,⟨some 101,.buildSlice 57 1 #[(0,.tmp 100)],none⟩,⟨some 102,.call ⟨.value (.func 163),#[.tmp 99,.tmp 101],#[57,57]⟩,none⟩,⟨some 103,.call ⟨.value (.tmp 97),#[.tmp 98,.tmp 102],#[57,57]⟩,none⟩,⟨some 104,.move (.tmp 19),none⟩,⟨some 105,.move (.tmp 11),none⟩,⟨some 106,.move (.tmp 14),none⟩,⟨some 107,.load 59 (.tmp 18),none⟩,⟨some 108,.buildSlice 57 1 #[(0,.tmp 107)],none⟩,⟨some 109,.call ⟨.value (.func 163),#[.tmp 106,.tmp 108],#[57,57]⟩,none⟩,⟨some 110,.call ⟨.value (.tmp 104),#[.tmp 105,.tmp 109],#[57,57]⟩,none⟩,⟨some 111,.buildSlice 192 2 #[(0,.tmp 103),(1,.tmp 110)],none⟩,⟨some 112,.fieldAddr 59 (.tmp 5) 0,none⟩,⟨some 113,.load 3 (.tmp 112),none⟩,⟨some 114,.binOp .eql 3 (.tmp 113) (.const (.int .i64 5)) 3,none⟩,⟨some 115,.move (.tmp 114),none⟩,⟨some 116,.move (.tmp 16),some (some 115,true)⟩,⟨some 117,.pick (.tmp 115) (.tmp 116) (.const (.bool false)),none⟩,⟨some 8,.assign (.tmp 111),none⟩,⟨some 9,.assign (.const (.bool true)),none⟩,⟨some 10,.assign (.tmp 117),none⟩]) .ret) (.seq (.reg [⟨some 119,.binOp .eql 9 (.tmp 55) (.const (.string ⟨#[111,114,45,108]⟩)) 9,none⟩,⟨some 118,.assign (.tmp 119),none⟩]) (.cond (.tmp 118) (.seq (.drawn 25 [⟨some 120,.move (.tmp 19),none⟩,⟨some 121,.move (.tmp 13),none⟩,⟨some 122,.load 59 (.tmp 17),none⟩,⟨some 123,.buildSlice 57 1 #[(0,.tmp 122)],none⟩,⟨some 124,.call ⟨.value (.func 163),#[.tmp 121,.tmp 123],#[57,57]⟩,none⟩,⟨some 125,.move (.tmp 12),none⟩,⟨some 126,.call ⟨.value (.tmp 120),#[.tmp 124,.tmp 125],#[57,57]⟩,none⟩,⟨some 127,.move (.tmp 19),none⟩,⟨some 128,.move (.tmp 13),none⟩,⟨some 129,.load 59 (.tmp 18),none⟩,⟨some 130,.buildSlice 57 1 #[(0,.tmp 129)],none⟩,⟨some 131,.call ⟨.value (.func 163),#[.tmp 128,.tmp 130],#[57,57]⟩,none⟩,⟨some 132,.move (.tmp 12),none⟩,⟨some 133,.call ⟨.value (.tmp 127),#[.tmp 131,.tmp 132],#[57,57]⟩,none⟩,⟨some 134,.buildSlice 192 2 #[(0,.tmp 126),(1,.tmp 133)],none⟩,⟨some 135,.fieldAddr 59 (.tmp 5) 0,none⟩,⟨some 136,.load 3 (.tmp 135),none⟩,⟨some 137,.binOp .eql 3 (.tmp 136) (.const (.int .i64 6)) 3,none⟩,⟨some 138,.move (.tmp 137),none⟩,⟨some 139,.move (.tmp 15),some (some 138,true)⟩,⟨some 140,.pick (.tmp 138) (.tmp 139) (.const (.bool false)),none⟩,⟨some 8,.assign (.tmp 134),none⟩,⟨some 9,.assign (.const (.bool true)),none⟩,⟨some 10,.assign (.tmp 140),none⟩]) .ret) (.seq (.reg [⟨some 142,.binOp .eql 9 (.tmp 55) (.const (.string ⟨#[116,104,101,110,45,114]⟩)) 9,none⟩,⟨some 141,.assign (.tmp 142),none⟩]) (.cond (.tmp 141) (.seq (.drawn 27 [⟨some 143,.move (.tmp 19),none⟩,⟨some 144,.move (.tmp 11),none⟩,⟨some 145,.load 59 (.tmp 17),none⟩,⟨some 146,.buildSlice 57 1 #[(0,.tmp 145)],none⟩,⟨some 147,.call ⟨.value (.func 163),#[.tmp 144,.tmp 146],#[57,57]⟩,none⟩,⟨some 148,.move (.tmp 14),none⟩,⟨some 149,.load 59 (.tmp 18),none⟩,⟨some 150,.buildSlice 57 1 #[(0,.tmp 149)],none⟩,⟨some 151,.call ⟨.value (.func 163),#[.tmp 148,.tmp 150],#[57,57]⟩,none⟩,⟨some 152,.call ⟨.value (.tmp 143),#[.tmp 147,.tmp 151],#[57,57]⟩,none⟩,⟨some 153,.buildSlice 192 1 #[(0,.tmp 152)],none⟩,⟨some 154,.fieldAddr 59 (.tmp 5) 0,none⟩,⟨some 155,.load 3 (.tmp 154),none⟩,⟨some 156,.binOp .eql 3 (.tmp 155) (.const (.int .i64 7)) 3,none⟩,⟨some 157,.move (.tmp 156),none⟩,⟨some 158,.move (.tmp 16),some (some 157,true)⟩,⟨some 159,.pick (.tmp 157) (.tmp 158) (.const (.bool false)),none⟩,⟨some 8,.assign (.tmp 153),none⟩,⟨some 9,.assign (.const (.bool true)),none⟩,⟨some 10,.assign (.tmp 159),none⟩]) .ret) (.seq (.reg [⟨some 161,.binOp .eql 9 (.tmp 55) (.const (.string ⟨#[110,111,116,45,114]⟩)) 9,none⟩,⟨some 160,.assign (.tmp 161),none⟩]) (.cond (.tmp 160) (.seq (.drawn 29 [⟨some 162,.move (.tmp 19),none⟩,⟨some 163,.move (.tmp 11),none⟩,⟨some 164,.load 59 (.tmp 17),none⟩,⟨some 165,.buildSlice 57 1 #[(0,.tmp 164)],none⟩,⟨some 166,.call ⟨.value (.func 163),#[.tmp 163,.tmp 165],#[57,57]⟩,none⟩,⟨some 167,.move (.tmp 14),none⟩,⟨some 168,.call ⟨.value (.tmp 162),#[.tmp 166,.tmp 167],#[57,57]⟩,none⟩,⟨some 169,.buildSlice 192 1 #[(0,.tmp 168)],none⟩,⟨some 170,.fieldAddr 59 (.tmp 5) 0,none⟩,⟨some 171,.load 3 (.tmp 170),none⟩,⟨some 172,.binOp .eql 3 (.tmp 171) (.const (.int .i64 4)) 3,none⟩,⟨some 173,.move (.tmp 172),none⟩,⟨some 174,.move (.tmp 16),some (some 173,true)⟩,⟨some 175,.pick (.tmp 173) (.tmp 174) (.const (.bool false)),none⟩,⟨some 8,.assign (.tmp 169),none⟩,⟨some 9,.assign (.const (.bool true)),none⟩,⟨some 10,.assign (.tmp 175),none⟩]) .ret) (.seq (.reg [⟨some 177,.binOp .eql 9 (.tmp 55) (.const (.string ⟨#[99,111,110,116,114,45,108]⟩)) 9,none⟩,⟨some 176,.assign (.tmp 177),none⟩]) (.cond (.tmp 176) (.seq (.reg [⟨some 178,.move (.tmp 19),none⟩,⟨some 179,.move (.tmp 11),none⟩,⟨some 180,.load 59 (.tmp 5),none⟩,⟨some 181,.buildSlice 57 1 #[(0,.tmp 180)],none⟩,⟨some 182,.call ⟨.value (.func 163),#[.tmp 179,.tmp 181],#[57,57]⟩,none⟩,⟨some 183,.move (.tmp 12),none⟩,⟨some 184,.call ⟨.value (.tmp 178),#[.tmp 182,.tmp 183],#[57,57]⟩,none⟩,⟨some 185,.buildSlice 192 1 #[(0,.tmp 184)],none⟩,⟨some 186,.move (.tmp 15),none⟩,⟨some 8,.assign (.tmp 185),none⟩,⟨some 9,.assign (.const (.bool true)),none⟩,⟨some 10,.assign (.tmp 186),none⟩]) .ret) (.seq (.reg [⟨some 188,.binOp .eql 9 (.tmp 55) (.const (.string ⟨#[99,117,116]⟩)) 9,none⟩,⟨some 187,.assign (.tmp 188),none⟩]) (.cond (.tmp 187) (.seq (.seq (.reg [⟨some 189,.move (.tmp 3),none⟩]) (.cond (.tmp 189) (.seq (.drawn 34 [⟨some 190,.move (.tmp 19),none⟩,⟨some 191,.move (.tmp 11),none⟩,⟨some 192,.load 59 (.tmp 5),none⟩,⟨some 193,.buildSlice 57 1 #[(0,.tmp 192)],none⟩,⟨some 194,.call ⟨.value (.tmp 190),#[.tmp 191,.tmp 193],#[57,57]⟩,none⟩,⟨some 195,.move (.tmp 19),none⟩,⟨some 196,.move (.tmp 11),none⟩,⟨some 197,.load 59 (.tmp 5),none⟩,⟨some 198,.buildSlice 57 1 #[(0,.tmp 197)],none⟩,⟨some 199,.call ⟨.value (.func 163),#[.tmp 196,.tmp 198],#[57,57]⟩,none⟩,⟨some 200,.move (.tmp 12),none⟩,⟨some 201,.call ⟨.value (.tmp 195),#[.tmp 199,.tmp 200],#[57,57]⟩,none⟩,⟨some 202,.buildSlice 192 2 #[(0,.tmp 194),(1,.tmp 201)],none⟩,⟨some 8,.assign (.tmp 202),none⟩,⟨some 9,.assign (.const (.bool true)),none⟩,⟨some 10,.assign (.const (.bool true)),none⟩]) .ret) .skip)) (.seq (.drawn 35 [⟨some 203,.move (.tmp 19),none⟩,⟨some 204,.move (.tmp 11),none⟩,⟨some 205,.move (.tmp 12),none⟩,⟨some 206,.load 59 (.tmp 5),none⟩,⟨some 207,.buildSlice 57 1 #[(0,.tmp 206)],none⟩,⟨some 208,.call ⟨.value (.func 163),#[.tmp 205,.tmp 207],#[57,57]⟩,none⟩,⟨some 209,.call ⟨.value (.tmp 203),#[.tmp 204,.tmp 208],#[57,57]⟩,none⟩,⟨some 210,.move (.tmp 19),none⟩,⟨some 211,.move (.tmp 11),none⟩,⟨some 212,.load 59 (.tmp 5),none⟩,⟨some 213,.buildSlice 57 1 #[(0,.tmp 212)],none⟩,⟨some 214,.call ⟨.value (.func 163),#[.tmp 211,.tmp 213],#[57,57]⟩,none⟩,⟨some 215,.move (.tmp 12),none⟩,⟨some 216,.call ⟨.value (.tmp 210),#[.tmp 214,.tmp 215],#[57,57]⟩,none⟩,⟨some 217,.buildSlice 192 2 #[(0,.tmp 209),(1,.tmp 216)],none⟩,⟨some 8,.assign (.tmp 217),none⟩,⟨some 9,.assign (.const (.bool true)),none⟩,⟨some 10,.assign (.const (.bool true)),none⟩]) .ret)) (.seq (.reg [⟨some 219,.binOp .eql 9 (.tmp 55) (.const (.string ⟨#[116,104,101,110,45,108]⟩)) 9,none⟩,⟨some 218,.assign (.tmp 219),none⟩]) (.cond (.tmp 218) (.seq (.seq (.reg [⟨some 220,.move (.tmp 3),none⟩]) (.cond (.tmp 220) (.seq (.drawn 38 [⟨some 221,.move (.tmp 19),none⟩,⟨some 222,.move (.tmp 13),none⟩,⟨some 223,.move (.tmp 20),none⟩,⟨some 224,.call ⟨.value (.tmp 221),#[.tmp 222,.tmp 223],#[57,57]⟩,none⟩,⟨some 225,.move (.tmp 19),none⟩,⟨some 226,.move (.tmp 13),none⟩,⟨some 227,.load 59 (.tmp 18),none⟩,⟨some 228,.buildSlice 57 1 #[(0,.tmp 227)],none⟩,⟨some 229,.call ⟨.value (.func 163),#[.tmp 226,.tmp 228],#[57,57]⟩,none⟩,⟨some 230,.move (.tmp 12),none⟩,⟨some 231,.call ⟨.value (.tmp 225),#[.tmp 229,.tmp 230],#[57,57]⟩,none⟩,⟨some 232,.buildSlice 192 2 #[(0,.tmp 224),(1,.tmp 231)],none⟩,⟨some 233,.fieldAddr 59 (.tmp 5) 0,none⟩,⟨some 234,.load 3 (.tmp 233),none⟩,⟨some 235,.binOp .eql 3 (.tmp 234) (.const (.int .i64 7)) 3,none⟩,⟨some 236,.move (.tmp 235),none⟩,⟨some 237,.move (.tmp 15),some (some 236,true)⟩,⟨some 238,.pick (.tmp 236) (.tmp 237) (.const (.bool false)),none⟩,⟨some 8,.assign (.tmp 232),none⟩,⟨some 9,.assign (.const (.bool true)),none⟩,⟨some 10,.assign (.tmp 238),none⟩]) .ret) .skip)) (.seq (.drawn 39 [⟨some 239,.move (.tmp 19),none⟩,⟨some 240,.move (.tmp 13),none⟩,⟨some 241,.move (.tmp 12),none⟩,⟨some 242,.load 59 (.tmp 17),none⟩,⟨some 243,.buildSlice 57 1 #[(0,.tmp 242)],none⟩,⟨some 244,.call ⟨.value (.func 163),#[.tmp 241,.tmp 243],#[57,57]⟩,none⟩,⟨some 245,.call ⟨.value (.tmp 239),#[.tmp 240,.tmp 244],#[57,57]⟩,none⟩,⟨some 246,.move (.tmp 19),none⟩,⟨some 247,.move (.tmp 13),none⟩,⟨some 248,.load 59 (.tmp 18),none⟩,⟨some 249,.buildSlice 57 1 #[(0,.tmp 248)],none⟩,⟨some 250,.call ⟨.value (.func 163),#[.tmp 247,.tmp 249],#[57,57]⟩,none⟩,⟨some 251,.move (.tmp 12),none⟩,⟨some 252,.call ⟨.value (.tmp 246),#[.tmp 250,.tmp 251],#[57,57]⟩,none⟩,⟨some 253,.buildSlice 192 2 #[(0,.tmp 245),(1,.tmp 252)],none⟩,⟨some 254,.fieldAddr 59 (.tmp 5) 0,none⟩,⟨some 255,.load 3 (.tmp 254),none⟩,⟨some 256,.binOp .eql 3 (.tmp 255) (.const (.int .i64 7)) 3,none⟩,⟨some 257,.move (.tmp 256),none⟩,⟨some 258,.move (.tmp 15),some (some 257,true)⟩,⟨some 259,.pick (.tmp 257) (.tmp 258) (.const (.bool false)),none⟩,⟨some 8,.assign (.tmp 253),none⟩,⟨some 9,.assign (.const (.bool true)),none⟩,⟨some 10,.assign (.tmp 259),none⟩]) .ret)) (.seq (.reg [⟨some 261,.binOp .eql 9 (.tmp 55) (.const (.string ⟨#[110,111,116,45,108]⟩)) 9,none⟩,⟨some 260,.assign (.tmp 261),none⟩]) (.cond (.tmp 260) (.seq (.seq (.reg [⟨some 262,.move (.tmp 3),none⟩]) (.cond (.tmp 262) (.seq (.drawn 42 [⟨some 263,.move (.tmp 19),none⟩,⟨some 264,.move (.tmp 13),none⟩,⟨some 265,.move (.tmp 20),none⟩,⟨some 266,.call ⟨.value (.tmp 263),#[.tmp 264,.tmp 265],#[57,57]⟩,none⟩,⟨some 267,.buildSlice 192 1 #[(0,.tmp 266)],none⟩,⟨some 268,.fieldAddr 59 (.tmp 5) 0,none⟩,⟨some 269,.load 3 (.tmp 268),none⟩,⟨some 270,.binOp .eql 3 (.tmp 269) (.const (.int .i64 4)) 3,none⟩,⟨some 271,.move (.tmp 270),none⟩,⟨some 272,.move (.tmp 15),some (some 271,true)⟩,⟨some 273,.pick (.tmp 271) (.tmp 272) (.const (.bool false)),none⟩,⟨some 8,.assign (.tmp 267),none⟩,⟨some 9,.assign (.const (.bool true)),none⟩,⟨some 10,.assign (.tmp 273),none⟩]) .ret) .skip)) (.seq (.drawn 43 [⟨some 274,.move (.tmp 19),none⟩,⟨some 275,.move (.tmp 13),none⟩,⟨some 276,.move (.tmp 12),none⟩,⟨some 277,.load 59 (.tmp 17),none⟩,⟨some 278,.buildSlice 57 1 #[(0,.tmp 277)],none⟩,⟨some 279,.call ⟨.value (.func 163),#[.tmp 276,.tmp 278],#[57,57]⟩,none⟩,⟨some 280,.call ⟨.value (.tmp 274),#[.tmp 275,.tmp 279],#[57,57]⟩,none⟩,⟨some 281,.buildSlice 192 1 #[(0,.tmp 280)],none⟩,⟨some 282,.fieldAddr 59 (.tmp 5) 0,none⟩,⟨some 283,.load 3 (.tmp 282),none⟩,⟨some 284,.binOp .eql 3 (.tmp 283) (.const (.int .i64 4)) 3,none⟩,⟨some 285,.move (.tmp 284),none⟩,⟨some 286,.move (.tmp 15),some (some 285,true)⟩,⟨some 287,.pick (.tmp 285) (.tmp 286) (.const (.bool false)),none⟩,⟨some 8,.assign (.tmp 281),none⟩,⟨some 9,.assign (.const (.bool true)),none⟩,⟨some 10,.assign (.tmp 287),none⟩]) .ret)) (.seq (.reg [⟨some 289,.binOp .eql 9 (.tmp 55) (.const (.string ⟨#[111,114,45,114]⟩)) 9,none⟩,⟨some 288,.assign (.tmp 289),none⟩]) (.cond (.tmp 288) (.seq (.drawn 45 [⟨some 290,.move (.tmp 19),none⟩,⟨some 291,.move (.tmp 11),none⟩,⟨some 292,.move (.tmp 14),none⟩,⟨some 293,.load 59 (.tmp 17),none⟩,⟨some 294,.load 59 (.tmp 18),none⟩,⟨some 295,.buildSlice 57 2 #[(0,.tmp 293),(1,.tmp 294)],none⟩,⟨some 296,.call ⟨.value (.func 163),#[.tmp 292,.tmp 295],#[57,57]⟩,none⟩,⟨some 297,.call ⟨.value (.tmp 290),#[.tmp 291,.tmp 296],#[57,57]⟩,none⟩,⟨some 298,.buildSlice 192 1 #[(0,.tmp 297)],none⟩,⟨some 299,.move (.tmp 3),none⟩,⟨some 300,.unOp .not 4 (.tmp 299),none⟩,⟨some 301,.fieldAddr 59 (.tmp 5) 0,none⟩,⟨some 302,.load 3 (.tmp 301),none⟩,⟨some 303,.binOp .eql 3 (.tmp 302) (.const (.int .i64 6)) 3,none⟩,⟨some 304,.move (.tmp 303),none⟩,⟨some 305,.move (.tmp 16),some (some 304,true)⟩,⟨some 306,.pick (.tmp 304) (.tmp 305) (.const (.bool false)),none⟩,⟨some 8,.assign (.tmp 298),none⟩,⟨some 9,.assign (.tmp 300),none⟩,⟨some 10,.assign (.tmp 306),none⟩]) .ret) (.seq (.reg [⟨some 308,.binOp .eql 9 (.tmp 55) (.const (.string ⟨#[99,111,110,116,114,45,114]⟩)) 9,none⟩,⟨some 307,.assign (.tmp 308),none⟩]) (.cond (.tmp 307) (.seq (.reg [⟨some 309,.move (.tmp 19),none⟩,⟨some 310,.move (.tmp 11),none⟩,⟨some 311,.move (.tmp 12),none⟩,⟨some 312,.load 59 (.tmp 5),none⟩,⟨some 313,.buildSlice 57 1 #[(0,.tmp 312)],none⟩,⟨some 314,.call ⟨.value (.func 163),#[.tmp 311,.tmp 313],#[57,57]⟩,none⟩,⟨some 315,.call ⟨.value (.tmp 309),#[.tmp 310,.tmp 314],#[57,57]⟩,none⟩,⟨some 316,.buildSlice 192 1 #[(0,.tmp 315)],none⟩,⟨some 317,.move (.tmp 3),none⟩,⟨some 318,.unOp .not 4 (.tmp 317),none⟩,⟨some 319,.move (.tmp 16),none⟩,⟨some 8,.assign (.tmp 316),none⟩,⟨some 9,.assign (.tmp 318),none⟩,⟨some 10,.assign (.tmp 319),none⟩]) .ret) (.seq (.reg [⟨some 321,.binOp .eql 9 (.tmp 55) (.const (.string ⟨#[111,114,45,114,49]⟩)) 9,none⟩,⟨some 320,.assign (.tmp 321),none⟩]) (.cond (.tmp 320) (.seq (.drawn 49 [⟨some 322,.move (.tmp 19),none⟩,⟨some 323,.move (.tmp 11),none⟩,⟨some 324,.move (.tmp 20),none⟩,⟨some 325,.call ⟨.value (.tmp 322),#[.tmp 323,.tmp 324],#[57,57]⟩,none⟩,⟨some 326,.buildSlice 192 1 #[(0,.tmp 325)],none⟩,⟨some 327,.move (.tmp 3),none⟩,⟨some 328,.fieldAddr 59 (.tmp 5) 0,none⟩,⟨some 329,.load 3 (.tmp 328),none⟩,⟨some 330,.binOp .eql 3 (.tmp 329) (.const (.int .i64 6)) 3,none⟩,⟨some 331,.move (.tmp 330),none⟩,⟨some 332,.move (.tmp 16),some (some 331,true)⟩,⟨some 333,.pick (.tmp 331) (.tmp 332) (.const (.bool false)),none⟩,⟨some 8,.assign (.tmp 326),none⟩,⟨some 9,.assign (.tmp 327),none⟩,⟨some 10,.assign (.tmp 333),none⟩]) .ret) (.seq (.reg [⟨some 335,.binOp .eql 9 (.tmp 55) (.const (.string ⟨#[111,114,45,114,50]⟩)) 9,none⟩,⟨some 334,.assign (.tmp 335),none⟩]) (.cond (.tmp 334) (.seq (.drawn 51 [⟨some 336,.move (.tmp 19),none⟩,⟨some 337,.move (.tmp 11),none⟩,⟨some 338,.load 59 (.tmp 18),none⟩,⟨some 339,.buildSlice 57 1 #[(0,.tmp 338)],none⟩,⟨some 340,.call ⟨.value (.tmp 336),#[.tmp 337,.tmp 339],#[57,57]⟩,none⟩,⟨some 341,.buildSlice 192 1 #[(0,.tmp 340)],none⟩,⟨some 342,.move (.tmp 3),none⟩,⟨some 343,.fieldAddr 59 (.tmp 5) 0,none⟩,⟨some 344,.load 3 (.tmp 343),none⟩,⟨some 345,.binOp .eql 3 (.tmp 344) (.const (.int .i64 6)) 3,none⟩,⟨some 346,.move (.tmp 345),none⟩,⟨some 347,.move (.tmp 16),some (some 346,true)⟩,⟨some 348,.pick (.tmp 346) (.tmp 347) (.const (.bool false)),none⟩,⟨some 8,.assign (.tmp 341),none⟩,⟨some 9,.assign (.tmp 342),none⟩,⟨some 10,.assign (.tmp 348),none⟩]) .ret) .skip)))))))))))))))))))))))))))))))))) (.seq (.reg [⟨some 8,.assign (.const (.slice none 0 0)),none⟩,⟨some 9,.assign (.const (.bool false)),none⟩,⟨some 10,.assign (.const (.bool false)),none⟩]) .ret))))))))))))
@[simp] theorem x129_s {C e s K} : type_of% (@X_at C e s K _ _ x129.eq_1) := X_at x129.eq_1
def an129 : Ann := ⟨[(21, .mixz 17), (23, .mixz 23), (25, .mixz 23), (27, .mixz 19), (29, .mixz 16), (34, .mixz 11), (35, .mixz 13), (38, .mixz 20), (39, .mixz 23), (42, .mixz 13), (43, .mixz 16), (45, .mixz 19), (49, .mixz 14), (51, .mixz 15)], [], [(38, [20]), (42, [20]), (49, [20])]⟩
@[simp] theorem an129_a : an129.clsOf 21 = .mixz 17 ∧ an129.clsOf 23 = .mixz 23 ∧ an129.clsOf 25 = .mixz 23 ∧ an129.clsOf 27 = .mixz 19 ∧ an129.clsOf 29 = .mixz 16 ∧ an129.clsOf 34 = .mixz 11 ∧ an129.clsOf 35 = .mixz 13 ∧ an129.clsOf 38 = .mixz 20 ∧ an129.clsOf 39 = .mixz 23 ∧ an129.clsOf 42 = .mixz 13 ∧ an129.clsOf 43 = .mixz 16 ∧ an129.clsOf 45 = .mixz 19 ∧ an129.clsOf 49 = .mixz 14 ∧ an129.clsOf 51 = .mixz 15 ∧ an129.frzOf 21 = [] ∧ an129.frzOf 23 = [] ∧ an129.frzOf 25 = [] ∧ an129.frzOf 27 = [] ∧ an129.frzOf 29 = [] ∧ an129.frzOf 34 = [] ∧ an129.frzOf 35 = [] ∧ an129.frzOf 38 = [20] ∧ an129.frzOf 39 = [] ∧ an129.frzOf 42 = [20] ∧ an129.frzOf 43 = [] ∧ an129.frzOf 45 = [] ∧ an129.frzOf 49 = [20] ∧ an129.frzOf 51 = [] := ⟨rfl, rfl, rfl, rfl, rfl, rfl, rfl, rfl, rfl, rfl, rfl, rfl, rfl, rfl, rfl, rfl, rfl, rfl, rfl, rfl, rfl, rfl, rfl, rfl, rfl, rfl, rfl, rfl⟩
theorem fi129 : FI Try.prog 129 (cxA an129) x129 [.tmp 8, .tmp 9, .tmp 10] Try.f129 := fiA Try.func129 mixed
theorem prem_two (u : Bool) (n : ByteArray) (f : Fm) (l r : List Fm) (hl : l.length ≤ 100000) (hr : r.length ≤ 100000) (a b : Fm) (hk : f.kids = [a, b]) : CallOK Try.prog 129 [.str n, .agg (frm f), .agg [.list (l.map frm), .list (r.map frm)], .bool u] [] (.tuple [.list ((premM u n f l r a b).1.map premRow), .bool (premM u n f l r a b).2.1, .bool (premM u n f l r a b).2.2]) [] := by
 have c1 := Rest_ref l (by omega) f
 have c2 := Rest_ref r (by omega) f
 have c3 := Has_ref l f
 have c4 := Has_ref r f
 have e1 := List.length_erase_le (a := f) (l := l)
 have e2 := List.length_erase_le (a := f) (l := r)
 change CallOK _ _ _ _ (.bool (hasR l f)) _ at c3
 change CallOK _ _ _ _ (.bool (hasR r f)) _ at c4
 have p1 := plus_ref (l.erase f) [a, b] (by omega) (by simp)
 have p2 := plus_ref (r.erase f) [a] (by omega) (by simp)
 have p3 := plus_ref (r.erase f) [b] (by omega) (by simp)
 have p4 := plus_ref (l.erase f) [a] (by omega) (by simp)
 have p5 := plus_ref (l.erase f) [b] (by omega) (by simp)
 have p6 := plus_ref l [a] (by omega) (by simp)
 have p7 := plus_ref l [f] (by omega) (by simp)
 have p8 := plus_ref r [f] (by omega) (by simp)
 have p9 := plus_ref r [a] (by omega) (by simp)
 have p0 := plus_ref (r.erase f) [a, b] (by omega) (by simp)
 have q1 := premises1_ref (l.erase f ++ [a, b]) r
 have q2 := premises1_ref l (r.erase f ++ [a])
 have q3 := premises1_ref l (r.erase f ++ [b])
 have q4 := premises1_ref (l.erase f ++ [a]) r
 have q5 := premises1_ref (l.erase f ++ [b]) r
 have q6 := premises1_ref (l ++ [a]) (r.erase f ++ [b])
 have q7 := premises1_ref (l ++ [a]) (r.erase f)
 have q8 := premises1_ref (l ++ [f]) r
 have q9 := premises1_ref l [f]
 have q10 := premises1_ref l (r ++ [f])
 have q11 := premises1_ref (l.erase f) [a]
 have q12 := premises1_ref (l.erase f) (r ++ [a])
 have q13 := premises1_ref l (r.erase f ++ [a, b])
 have q14 := premises1_ref l [a]
 have q15 := premises1_ref l [b]
 simp only [List.map_append, List.map_cons, List.map_nil] at p1 p2 p3 p4 p5 p6 p7 p8 p9 p0 q1 q2 q3 q4 q5 q6 q7 q8 q9 q10 q11 q12 q13 q14 q15
 generalize hV : premM u n f l r a b = V
 unfold premM at hV
 generalize l.erase f = G at *
 generalize r.erase f = D at *
 refine fi129.os ?_
 ((refine Sg.h ?_); try repeat' ((first | (with_reducible first | refine brA ?_ | refine brE fun _ => ?_ | (refine spl ⟨?_, ?_⟩ <;> intro _)) | refine clo c1 ?_ | refine clo c2 ?_ | refine clo c3 ?_ | refine clo c4 ?_) <;> ((try simp -implicitDefEqProofs [hk]); (try simp -implicitDefEqProofs (disch := first | assumption | (try simp only [lens]); omega -splitDisjunctions) [hk]))))
 all_goals ((refine Sg.h ?_); try repeat' ((first | (with_reducible first | refine brA ?_ | refine brE fun _ => ?_ | (refine spl ⟨?_, ?_⟩ <;> intro _)) | refine clo p1 ?_ | refine clo p2 ?_ | refine clo p3 ?_ | refine clo p4 ?_ | refine clo p5 ?_ | refine clo p6 ?_ | refine clo p7 ?_ | refine clo p8 ?_ | refine clo p9 ?_ | refine clo p0 ?_ | refine clo q1 ?_ | refine clo q2 ?_ | refine clo q3 ?_ | refine clo q4 ?_ | refine clo q5 ?_ | refine clo q6 ?_ | refine clo q7 ?_ | refine clo q8 ?_ | refine clo q9 ?_ | refine clo q10 ?_ | refine clo q11 ?_ | refine clo q12 ?_ | refine clo q13 ?_ | refine clo q14 ?_ | refine clo q15 ?_) <;> ((try simp -implicitDefEqProofs); (try simp -implicitDefEqProofs (disch := first | assumption | (try simp only [lens]); omega -splitDisjunctions)))))
 all_goals try refine CL.giv [5] ?_
 all_goals ((refine Sg.h ?_); try repeat' ((first | (with_reducible first | refine brA ?_ | refine brE fun _ => ?_ | (refine spl ⟨?_, ?_⟩ <;> intro _)) | refine clo p7 ?_ | refine clo p8 ?_ | refine clo q8 ?_ | refine clo q10 ?_) <;> ((try simp -implicitDefEqProofs); (try simp -implicitDefEqProofs (disch := first | assumption | (try simp only [lens]); omega -splitDisjunctions)))))
 all_goals clear c1 c2 c3 c4 p1 p2 p3 p4 p5 p6 p7 p8 p9 p0 q1 q2 q3 q4 q5 q6 q7 q8 q9 q10 q11 q12 q13 q14 q15
 all_goals (subst hV; simp_all [premRow])
 all_goals trace_state
theorem prem_one (u : Bool) (n : ByteArray) (f : Fm) (l r : List Fm) (hl : l.length ≤ 100000) (hr : r.length ≤ 100000) (a : Fm) (hk : f.kids = [a]) : CallOK Try.prog 129 [.str n, .agg (frm f), .agg [.list (l.map frm), .list (r.map frm)], .bool u] [] (.tuple [.list ((premM u n f l r a a).1.map premRow), .bool (premM u n f l r a a).2.1, .bool (premM u n f l r a a).2.2]) [] := by
 have c1 := Rest_ref l (by omega) f
 have c2 := Rest_ref r (by omega) f
 have c3 := Has_ref l f
 have c4 := Has_ref r f
 have e1 := List.length_erase_le (a := f) (l := l)
 have e2 := List.length_erase_le (a := f) (l := r)
 change CallOK _ _ _ _ (.bool (hasR l f)) _ at c3
 change CallOK _ _ _ _ (.bool (hasR r f)) _ at c4
 have p1 := plus_ref (l.erase f) [a, a] (by omega) (by simp)
 have p2 := plus_ref (r.erase f) [a] (by omega) (by simp)
 have p3 := plus_ref (r.erase f) [a] (by omega) (by simp)
 have p4 := plus_ref (l.erase f) [a] (by omega) (by simp)
 have p5 := plus_ref (l.erase f) [a] (by omega) (by simp)
 have p6 := plus_ref l [a] (by omega) (by simp)
 have p7 := plus_ref l [f] (by omega) (by simp)
 have p8 := plus_ref r [f] (by omega) (by simp)
 have p9 := plus_ref r [a] (by omega) (by simp)
 have p0 := plus_ref (r.erase f) [a, a] (by omega) (by simp)
 have q1 := premises1_ref (l.erase f ++ [a, a]) r
 have q2 := premises1_ref l (r.erase f ++ [a])
 have q3 := premises1_ref l (r.erase f ++ [a])
 have q4 := premises1_ref (l.erase f ++ [a]) r
 have q5 := premises1_ref (l.erase f ++ [a]) r
 have q6 := premises1_ref (l ++ [a]) (r.erase f ++ [a])
 have q7 := premises1_ref (l ++ [a]) (r.erase f)
 have q8 := premises1_ref (l ++ [f]) r
 have q9 := premises1_ref l [f]
 have q10 := premises1_ref l (r ++ [f])
 have q11 := premises1_ref (l.erase f) [a]
 have q12 := premises1_ref (l.erase f) (r ++ [a])
 have q13 := premises1_ref l (r.erase f ++ [a, a])
 have q14 := premises1_ref l [a]
 have q15 := premises1_ref l [a]
 simp only [List.map_append, List.map_cons, List.map_nil] at p1 p2 p3 p4 p5 p6 p7 p8 p9 p0 q1 q2 q3 q4 q5 q6 q7 q8 q9 q10 q11 q12 q13 q14 q15
 generalize hV : premM u n f l r a a = V
 unfold premM at hV
 generalize l.erase f = G at *
 generalize r.erase f = D at *
 refine fi129.os ?_
 ((refine Sg.h ?_); try repeat' ((first | (with_reducible first | refine brA ?_ | refine brE fun _ => ?_ | (refine spl ⟨?_, ?_⟩ <;> intro _)) | refine clo c1 ?_ | refine clo c2 ?_ | refine clo c3 ?_ | refine clo c4 ?_) <;> ((try simp -implicitDefEqProofs [hk]); (try simp -implicitDefEqProofs (disch := first | assumption | (try simp only [lens]); omega -splitDisjunctions) [hk]))))
 all_goals ((refine Sg.h ?_); try repeat' ((first | (with_reducible first | refine brA ?_ | refine brE fun _ => ?_ | (refine spl ⟨?_, ?_⟩ <;> intro _)) | refine clo p1 ?_ | refine clo p2 ?_ | refine clo p3 ?_ | refine clo p4 ?_ | refine clo p5 ?_ | refine clo p6 ?_ | refine clo p7 ?_ | refine clo p8 ?_ | refine clo p9 ?_ | refine clo p0 ?_ | refine clo q1 ?_ | refine clo q2 ?_ | refine clo q3 ?_ | refine clo q4 ?_ | refine clo q5 ?_ | refine clo q6 ?_ | refine clo q7 ?_ | refine clo q8 ?_ | refine clo q9 ?_ | refine clo q10 ?_ | refine clo q11 ?_ | refine clo q12 ?_ | refine clo q13 ?_ | refine clo q14 ?_ | refine clo q15 ?_) <;> ((try simp -implicitDefEqProofs); (try simp -implicitDefEqProofs (disch := first | assumption | (try simp only [lens]); omega -splitDisjunctions)))))
 all_goals try refine CL.giv [5] ?_
 all_goals ((refine Sg.h ?_); try repeat' ((first | (with_reducible first | refine brA ?_ | refine brE fun _ => ?_ | (refine spl ⟨?_, ?_⟩ <;> intro _)) | refine clo p7 ?_ | refine clo p8 ?_ | refine clo q8 ?_ | refine clo q10 ?_) <;> ((try simp -implicitDefEqProofs); (try simp -implicitDefEqProofs (disch := first | assumption | (try simp only [lens]); omega -splitDisjunctions)))))
 all_goals clear c1 c2 c3 c4 p1 p2 p3 p4 p5 p6 p7 p8 p9 p0 q1 q2 q3 q4 q5 q6 q7 q8 q9 q10 q11 q12 q13 q14 q15
 all_goals (subst hV; simp_all [premRow])
 all_goals trace_state
theorem callOK_softA {P : Program} {f : FuncId} {args args' : List PV} {v : PV} {s s' : Store} (h : CallOK P f args' s v s') (hs : SoftL args' args) : CallOK P f args s v s' := by
 intro pub σ w cargs hb ha
 have hg := hs.get (pub := pub)
 refine h pub σ w cargs hb ⟨by rw [ha.1, hg.1], fun j x y hx hy => ?_⟩
 have hjl := lt_of_getElem? hx
 have hyj : args[j]? = some (args[j]'(by have := hg.1; omega)) := List.getElem?_eq_getElem _
 exact hg.2 j x _ hx hyj σ y (ha.2 j _ y hyj hy)
theorem prem_zero (u : Bool) (n : ByteArray) (f : Fm) (l r : List Fm) (hl : l.length ≤ 100000) (hr : r.length ≤ 100000) (hk : f.kids = []) : CallOK Try.prog 129 [.str n, .agg (frm f), .agg [.list (l.map frm), .list (r.map frm)], .bool u] [] (.tuple [.list ((premM u n f l r zF zF).1.map premRow), .bool (premM u n f l r zF zF).2.1, .bool (premM u n f l r zF zF).2.2]) [] := by
 have c1 := Rest_ref l (by omega) f
 have c2 := Rest_ref r (by omega) f
 have c3 := Has_ref l f
 have c4 := Has_ref r f
 have e1 := List.length_erase_le (a := f) (l := l)
 have e2 := List.length_erase_le (a := f) (l := r)
 change CallOK _ _ _ _ (.bool (hasR l f)) _ at c3
 change CallOK _ _ _ _ (.bool (hasR r f)) _ at c4
 have p1 := plus_ref (l.erase f) [zF, zF] (by omega) (by simp)
 have p2 := plus_ref (r.erase f) [zF] (by omega) (by simp)
 have p3 := plus_ref (r.erase f) [zF] (by omega) (by simp)
 have p4 := plus_ref (l.erase f) [zF] (by omega) (by simp)
 have p5 := plus_ref (l.erase f) [zF] (by omega) (by simp)
 have p6 := plus_ref l [zF] (by omega) (by simp)
 have p7 := plus_ref l [f] (by omega) (by simp)
 have p8 := plus_ref r [f] (by omega) (by simp)
 have p9 := plus_ref r [zF] (by omega) (by simp)
 have p0 := plus_ref (r.erase f) [zF, zF] (by omega) (by simp)
 have q1 := premises1_ref (l.erase f ++ [zF, zF]) r
 have q2 := premises1_ref l (r.erase f ++ [zF])
 have q3 := premises1_ref l (r.erase f ++ [zF])
 have q4 := premises1_ref (l.erase f ++ [zF]) r
 have q5 := premises1_ref (l.erase f ++ [zF]) r
 have q6 := premises1_ref (l ++ [zF]) (r.erase f ++ [zF])
 have q7 := premises1_ref (l ++ [zF]) (r.erase f)
 have q8 := premises1_ref (l ++ [f]) r
 have q9 := premises1_ref l [f]
 have q10 := premises1_ref l (r ++ [f])
 have q11 := premises1_ref (l.erase f) [zF]
 have q12 := premises1_ref (l.erase f) (r ++ [zF])
 have q13 := premises1_ref l (r.erase f ++ [zF, zF])
 have q14 := premises1_ref l [zF]
 have q15 := premises1_ref l [zF]
 have z0 : SoftL (frm zF) [.int .i64 0, .str ⟨#[]⟩, .nilsl] := by
  rw [frm_eq]
  exact .cons .refl (.cons .refl (.cons .nil .nil))
 simp only [List.map_append, List.map_cons, List.map_nil] at p1 p2 p3 p4 p5 p6 p7 p8 p9 p0 q1 q2 q3 q4 q5 q6 q7 q8 q9 q10 q11 q12 q13 q14 q15
 replace p1 := callOK_softA p1 (.cons .refl (.cons (.list (.cons z0 (.cons z0 .nil))) .nil))
 replace p2 := callOK_softA p2 (.cons .refl (.cons (.list (.cons z0 .nil)) .nil))
 replace p3 := callOK_softA p3 (.cons .refl (.cons (.list (.cons z0 .nil)) .nil))
 replace p4 := callOK_softA p4 (.cons .refl (.cons (.list (.cons z0 .nil)) .nil))
 replace p5 := callOK_softA p5 (.cons .refl (.cons (.list (.cons z0 .nil)) .nil))
 replace p6 := callOK_softA p6 (.cons .refl (.cons (.list (.cons z0 .nil)) .nil))
 replace p9 := callOK_softA p9 (.cons .refl (.cons (.list (.cons z0 .nil)) .nil))
 replace p0 := callOK_softA p0 (.cons .refl (.cons (.list (.cons z0 (.cons z0 .nil))) .nil))
 replace q11 := callOK_softA q11 (.cons .refl (.cons (.list (.cons z0 .nil)) .nil))
 replace q14 := callOK_softA q14 (.cons .refl (.cons (.list (.cons z0 .nil)) .nil))
 replace q15 := callOK_softA q15 (.cons .refl (.cons (.list (.cons z0 .nil)) .nil))
 generalize hV : premM u n f l r zF zF = V
 unfold premM at hV
 generalize l.erase f = G at *
 generalize r.erase f = D at *
 refine fi129.os ?_
 ((refine Sg.h ?_); try repeat' ((first | (with_reducible first | refine brA ?_ | refine brE fun _ => ?_ | (refine spl ⟨?_, ?_⟩ <;> intro _)) | refine clo c1 ?_ | refine clo c2 ?_ | refine clo c3 ?_ | refine clo c4 ?_) <;> ((try simp -implicitDefEqProofs [hk]); (try simp -implicitDefEqProofs (disch := first | assumption | (try simp only [lens]); omega -splitDisjunctions) [hk]))))
 all_goals ((refine Sg.h ?_); try repeat' ((first | (with_reducible first | refine brA ?_ | refine brE fun _ => ?_ | (refine spl ⟨?_, ?_⟩ <;> intro _)) | refine clo p1 ?_ | refine clo p2 ?_ | refine clo p3 ?_ | refine clo p4 ?_ | refine clo p5 ?_ | refine clo p6 ?_ | refine clo p7 ?_ | refine clo p8 ?_ | refine clo p9 ?_ | refine clo p0 ?_ | refine clo q1 ?_ | refine clo q2 ?_ | refine clo q3 ?_ | refine clo q4 ?_ | refine clo q5 ?_ | refine clo q6 ?_ | refine clo q7 ?_ | refine clo q8 ?_ | refine clo q9 ?_ | refine clo q10 ?_ | refine clo q11 ?_ | refine clo q12 ?_ | refine clo q13 ?_ | refine clo q14 ?_ | refine clo q15 ?_) <;> ((try simp -implicitDefEqProofs); (try simp -implicitDefEqProofs (disch := first | assumption | (try simp only [lens]); omega -splitDisjunctions)))))
 all_goals try refine CL.giv [5] ?_
 all_goals ((refine Sg.h ?_); try repeat' ((first | (with_reducible first | refine brA ?_ | refine brE fun _ => ?_ | (refine spl ⟨?_, ?_⟩ <;> intro _)) | refine clo p7 ?_ | refine clo p8 ?_ | refine clo q8 ?_ | refine clo q10 ?_) <;> ((try simp -implicitDefEqProofs); (try simp -implicitDefEqProofs (disch := first | assumption | (try simp only [lens]); omega -splitDisjunctions)))))
 all_goals clear z0 c1 c2 c3 c4 p1 p2 p3 p4 p5 p6 p7 p8 p9 p0 q1 q2 q3 q4 q5 q6 q7 q8 q9 q10 q11 q12 q13 q14 q15
 all_goals (subst hV; simp_all [premRow])
 all_goals trace_state
theorem premises_ref (u : Bool) (n : ByteArray) (f : Fm) (l r : List Fm) (hl : l.length ≤ 100000) (hr : r.length ≤ 100000) (hk : f.kids.length ≤ 2) : CallOK Try.prog 129 [.str n, .agg (frm f), .agg [.list (l.map frm), .list (r.map frm)], .bool u] [] (.tuple [.list ((premM u n f l r (f.kids.headD zF) (f.kids.getLastD zF)).1.map premRow), .bool (premM u n f l r (f.kids.headD zF) (f.kids.getLastD zF)).2.1, .bool (premM u n f l r (f.kids.headD zF) (f.kids.getLastD zF)).2.2]) [] := by
 rcases hks : f.kids with _ | ⟨a, _ | ⟨b, _ | ⟨c, t⟩⟩⟩
 ·exact prem_zero u n f l r hl hr hks
 ·exact prem_one u n f l r hl hr a hks
 ·exact prem_two u n f l r hl hr a b hks
 ·rw [hks] at hk; simp at hk
end Go.Proofs.Ytkadceiolddmhaa
