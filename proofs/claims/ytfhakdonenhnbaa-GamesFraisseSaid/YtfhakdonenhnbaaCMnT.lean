import Derived.Test.YtfhakdonenhnbaaCMnS
set_option linter.unusedVariables false
set_option linter.unusedSimpArgs false
set_option maxRecDepth 100000
set_option maxHeartbeats 4000000
namespace Go.Proofs.Ytfhakdonenhnbaa
open Go Go.Pv
def cntN (p : Nat → Bool) (x : Nat) : Nat:=(List.range x).countP p
theorem cntN_succ (p : Nat → Bool) (x : Nat) : cntN p (x + 1) = cntN p x + if p x = true then 1 else 0:=by
 unfold cntN
 rw [List.range_succ,List.countP_append,List.countP_singleton]
theorem cntN_le (p : Nat → Bool) (x : Nat) : cntN p x ≤ x:=by
 have:=List.countP_le_length (p:=p) (l:=List.range x)
 rw [List.length_range] at this
 exact this
theorem cntN_all (p : Nat → Bool) (x : Nat) : (List.range x).all p = decide (cntN p x = x):=by
 rw [Bool.eq_iff_iff,decide_eq_true_eq,List.all_eq_true]
 have:=List.countP_eq_length (p:=p) (l:=List.range x)
 rw [List.length_range] at this
 exact this.symm
theorem cntN_any (p : Nat → Bool) (x : Nat) : (List.range x).any p = decide (0 < cntN p x):=by
 rw [Bool.eq_iff_iff,decide_eq_true_eq,List.any_eq_true]
 exact List.countP_pos_iff.symm
def x12_T4 : XC:=.seq (.reg [⟨some 191,.move (.tmp 14),none⟩,⟨some 192,.fieldAddr 25 (.tmp 4) 0,none⟩,⟨some 193,.load 3 (.tmp 192),none⟩,⟨some 194,.binOp .eql 3 (.tmp 191) (.tmp 193) 3,none⟩,⟨some 195,.move (.tmp 194),none⟩,⟨some 196,.move (.tmp 14),some (some 195,false)⟩,⟨some 197,.binOp .gtr 3 (.tmp 196) (.const (.int .i64 0)) 3,some (some 195,false)⟩,⟨some 198,.move (.tmp 197),some (some 195,false)⟩,⟨some 199,.fieldAddr 29 (.tmp 5) 0,some (some 198,true)⟩,⟨some 200,.load 3 (.tmp 199),some (some 198,true)⟩,⟨some 201,.binOp .eql 3 (.tmp 200) (.const (.int .i64 10)) 3,some (some 198,true)⟩,⟨some 202,.pick (.tmp 198) (.tmp 201) (.const (.bool false)),some (some 195,false)⟩,⟨some 203,.pick (.tmp 195) (.const (.bool true)) (.tmp 202),none⟩,⟨some 8,.assign (.tmp 203),none⟩]) .ret
def x12_L5 : XC:=.seq (.seq (.reg [⟨some 171,.move (.tmp 15),none⟩,⟨some 172,.fieldAddr 25 (.tmp 4) 0,none⟩,⟨some 173,.load 3 (.tmp 172),none⟩,⟨some 174,.binOp .lss 3 (.tmp 171) (.tmp 173) 3,none⟩]) (.cond (.tmp 174) .skip (.exit 5))) (.seq (.block 6 (.seq (.drawn 35 [⟨some 177,.load 25 (.tmp 4),none⟩,⟨some 178,.fieldAddr 29 (.tmp 5) 3,none⟩,⟨some 179,.load 27 (.tmp 178),none⟩,⟨some 180,.indexAddr 27 (.tmp 179) (.const (.int .i64 0)),none⟩,⟨some 181,.load 29 (.tmp 180),none⟩,⟨some 182,.move (.tmp 13),none⟩,⟨some 183,.move (.tmp 3),none⟩,⟨some 184,.call ⟨.builtin .append,#[.const (.slice none 0 0),.tmp 183],#[58,58]⟩,none⟩,⟨some 185,.move (.tmp 15),none⟩,⟨some 186,.buildSlice 58 1 #[(0,.tmp 185)],none⟩,⟨some 187,.call ⟨.builtin .append,#[.tmp 184,.tmp 186],#[58,58]⟩,none⟩,⟨some 188,.call ⟨.value (.func 12),#[.tmp 177,.tmp 181,.tmp 182,.tmp 187],#[25,29,57,58]⟩,none⟩]) (.cond (.tmp 188) (.reg [⟨some 189,.move (.tmp 14),none⟩,⟨some 190,.binOp .add 3 (.tmp 189) (.const (.int .i64 1)) 3,none⟩,⟨some 14,.assign (.tmp 190),none⟩]) .skip))) (.reg [⟨some 175,.move (.tmp 15),none⟩,⟨some 176,.binOp .add 3 (.tmp 175) (.const (.int .i64 1)) 3,none⟩,⟨some 15,.assign (.tmp 176),none⟩]))
def x12_L3 : XC:=.seq (.seq (.reg [⟨some 63,.move (.tmp 12),none⟩,⟨some 64,.fieldAddr 25 (.tmp 4) 2,none⟩,⟨some 65,.load 23 (.tmp 64),none⟩,⟨some 66,.call ⟨.builtin .len,#[.tmp 65],#[23]⟩,none⟩,⟨some 67,.binOp .lss 3 (.tmp 63) (.tmp 66) 3,none⟩]) (.cond (.tmp 67) .skip (.exit 3))) (.seq (.block 4 (.seq (.drawn 15 [⟨some 70,.fieldAddr 25 (.tmp 4) 2,none⟩,⟨some 71,.load 23 (.tmp 70),none⟩,⟨some 72,.move (.tmp 12),none⟩,⟨some 73,.indexAddr 23 (.tmp 71) (.tmp 72),none⟩,⟨some 74,.fieldAddr 64 (.tmp 73) 0,none⟩,⟨some 75,.load 9 (.tmp 74),none⟩,⟨some 76,.fieldAddr 29 (.tmp 5) 1,none⟩,⟨some 77,.load 9 (.tmp 76),none⟩,⟨some 78,.binOp .eql 9 (.tmp 75) (.tmp 77) 9,none⟩]) (.cond (.tmp 78) (.seq (.reg [⟨some 79,.fieldAddr 25 (.tmp 4) 2,none⟩,⟨some 80,.load 23 (.tmp 79),none⟩,⟨some 81,.move (.tmp 12),none⟩,⟨some 82,.indexAddr 23 (.tmp 80) (.tmp 81),none⟩,⟨some 83,.fieldAddr 64 (.tmp 82) 2,none⟩,⟨some 84,.load 62 (.tmp 83),none⟩,⟨some 85,.move (.tmp 9),none⟩,⟨some 86,.indexAddr 62 (.tmp 84) (.tmp 85),none⟩,⟨some 87,.load 4 (.tmp 86),none⟩,⟨some 8,.assign (.tmp 87),none⟩]) .ret) .skip))) (.reg [⟨some 68,.move (.tmp 12),none⟩,⟨some 69,.binOp .add 3 (.tmp 68) (.const (.int .i64 1)) 3,none⟩,⟨some 12,.assign (.tmp 69),none⟩]))
def x12_T1 : XC:=.seq (.seq (.reg [⟨some 12,.assign (.const (.int .i64 0)),none⟩]) (.bloop 3 x12_L3)) (.seq (.reg [⟨some 8,.assign (.const (.bool false)),none⟩]) .ret)
def x12_L1 : XC:=.seq (.seq (.reg [⟨some 39,.move (.tmp 11),none⟩,⟨some 40,.fieldAddr 29 (.tmp 5) 2,none⟩,⟨some 41,.load 26 (.tmp 40),none⟩,⟨some 42,.call ⟨.builtin .len,#[.tmp 41],#[26]⟩,none⟩,⟨some 43,.binOp .lss 3 (.tmp 39) (.tmp 42) 3,none⟩]) (.cond (.tmp 43) .skip (.exit 1))) (.seq (.block 2 (.seq (.drawn 10 [⟨some 46,.move (.tmp 9),none⟩,⟨some 47,.load 25 (.tmp 4),none⟩,⟨some 48,.fieldAddr 29 (.tmp 5) 2,none⟩,⟨some 49,.load 26 (.tmp 48),none⟩,⟨some 50,.move (.tmp 11),none⟩,⟨some 51,.indexAddr 26 (.tmp 49) (.tmp 50),none⟩,⟨some 52,.load 61 (.tmp 51),none⟩,⟨some 53,.move (.tmp 2),none⟩,⟨some 54,.move (.tmp 3),none⟩,⟨some 55,.call ⟨.value (.func 20),#[.tmp 47,.tmp 52,.tmp 53,.tmp 54],#[25,61,57,58]⟩,none⟩,⟨some 56,.move (.tmp 10),none⟩,⟨some 57,.binOp .mul 3 (.tmp 55) (.tmp 56) 3,none⟩,⟨some 58,.binOp .add 3 (.tmp 46) (.tmp 57) 3,none⟩,⟨some 9,.assign (.tmp 58),none⟩]) (.reg [⟨some 59,.move (.tmp 10),none⟩,⟨some 60,.fieldAddr 25 (.tmp 4) 0,none⟩,⟨some 61,.load 3 (.tmp 60),none⟩,⟨some 62,.binOp .mul 3 (.tmp 59) (.tmp 61) 3,none⟩,⟨some 10,.assign (.tmp 62),none⟩]))) (.reg [⟨some 44,.move (.tmp 11),none⟩,⟨some 45,.binOp .add 3 (.tmp 44) (.const (.int .i64 1)) 3,none⟩,⟨some 11,.assign (.tmp 45),none⟩]))
def x12 : XC:=.seq (.reg [⟨some 4,.box 25 (.tmp 0),none⟩,⟨some 5,.box 29 (.tmp 1),none⟩,⟨some 8,.assign (.const (.bool false)),none⟩]) (.seq (.seq (.reg [⟨some 16,.fieldAddr 29 (.tmp 5) 0,none⟩,⟨some 17,.load 3 (.tmp 16),none⟩]) (.block 0 (.seq (.reg [⟨some 19,.binOp .eql 3 (.tmp 17) (.const (.int .i64 2)) 3,none⟩,⟨some 18,.assign (.tmp 19),none⟩]) (.cond (.tmp 18) (.seq (.drawn 3 [⟨some 20,.load 25 (.tmp 4),none⟩,⟨some 21,.fieldAddr 29 (.tmp 5) 2,none⟩,⟨some 22,.load 26 (.tmp 21),none⟩,⟨some 23,.indexAddr 26 (.tmp 22) (.const (.int .i64 0)),none⟩,⟨some 24,.load 61 (.tmp 23),none⟩,⟨some 25,.move (.tmp 2),none⟩,⟨some 26,.move (.tmp 3),none⟩,⟨some 27,.call ⟨.value (.func 20),#[.tmp 20,.tmp 24,.tmp 25,.tmp 26],#[25,61,57,58]⟩,none⟩,⟨some 28,.load 25 (.tmp 4),none⟩,⟨some 29,.fieldAddr 29 (.tmp 5) 2,none⟩,⟨some 30,.load 26 (.tmp 29),none⟩,⟨some 31,.indexAddr 26 (.tmp 30) (.const (.int .i64 1)),none⟩,⟨some 32,.load 61 (.tmp 31),none⟩,⟨some 33,.move (.tmp 2),none⟩,⟨some 34,.move (.tmp 3),none⟩,⟨some 35,.call ⟨.value (.func 20),#[.tmp 28,.tmp 32,.tmp 33,.tmp 34],#[25,61,57,58]⟩,none⟩,⟨some 36,.binOp .eql 3 (.tmp 27) (.tmp 35) 3,none⟩,⟨some 8,.assign (.tmp 36),none⟩]) .ret) (.seq (.reg [⟨some 38,.binOp .eql 3 (.tmp 17) (.const (.int .i64 1)) 3,none⟩,⟨some 37,.assign (.tmp 38),none⟩]) (.cond (.tmp 37) (.seq (.reg [⟨some 9,.assign (.const (.int .i64 0)),none⟩]) (.seq (.reg [⟨some 10,.assign (.const (.int .i64 1)),none⟩]) (.seq (.seq (.reg [⟨some 11,.assign (.const (.int .i64 0)),none⟩]) (.bloop 1 x12_L1)) (x12_T1)))) (.seq (.reg [⟨some 89,.binOp .eql 3 (.tmp 17) (.const (.int .i64 3)) 3,none⟩,⟨some 88,.assign (.tmp 89),none⟩]) (.cond (.tmp 88) (.seq (.reg [⟨some 8,.assign (.const (.bool true)),none⟩]) .ret) (.seq (.reg [⟨some 91,.binOp .eql 3 (.tmp 17) (.const (.int .i64 5)) 3,none⟩,⟨some 90,.assign (.tmp 91),none⟩]) (.cond (.tmp 90) (.seq (.drawn 21 [⟨some 92,.load 25 (.tmp 4),none⟩,⟨some 93,.fieldAddr 29 (.tmp 5) 3,none⟩,⟨some 94,.load 27 (.tmp 93),none⟩,⟨some 95,.indexAddr 27 (.tmp 94) (.const (.int .i64 0)),none⟩,⟨some 96,.load 29 (.tmp 95),none⟩,⟨some 97,.move (.tmp 2),none⟩,⟨some 98,.move (.tmp 3),none⟩,⟨some 99,.call ⟨.value (.func 12),#[.tmp 92,.tmp 96,.tmp 97,.tmp 98],#[25,29,57,58]⟩,none⟩,⟨some 100,.unOp .not 4 (.tmp 99),none⟩,⟨some 8,.assign (.tmp 100),none⟩]) .ret) (.seq (.reg [⟨some 102,.binOp .eql 3 (.tmp 17) (.const (.int .i64 6)) 3,none⟩,⟨some 101,.assign (.tmp 102),none⟩]) (.cond (.tmp 101) (.seq (.drawn 23 [⟨some 103,.load 25 (.tmp 4),none⟩,⟨some 104,.fieldAddr 29 (.tmp 5) 3,none⟩,⟨some 105,.load 27 (.tmp 104),none⟩,⟨some 106,.indexAddr 27 (.tmp 105) (.const (.int .i64 0)),none⟩,⟨some 107,.load 29 (.tmp 106),none⟩,⟨some 108,.move (.tmp 2),none⟩,⟨some 109,.move (.tmp 3),none⟩,⟨some 110,.call ⟨.value (.func 12),#[.tmp 103,.tmp 107,.tmp 108,.tmp 109],#[25,29,57,58]⟩,none⟩,⟨some 111,.move (.tmp 110),none⟩,⟨some 112,.load 25 (.tmp 4),some (some 111,true)⟩,⟨some 113,.fieldAddr 29 (.tmp 5) 3,some (some 111,true)⟩,⟨some 114,.load 27 (.tmp 113),some (some 111,true)⟩,⟨some 115,.indexAddr 27 (.tmp 114) (.const (.int .i64 1)),some (some 111,true)⟩,⟨some 116,.load 29 (.tmp 115),some (some 111,true)⟩,⟨some 117,.move (.tmp 2),some (some 111,true)⟩,⟨some 118,.move (.tmp 3),some (some 111,true)⟩,⟨some 119,.call ⟨.value (.func 12),#[.tmp 112,.tmp 116,.tmp 117,.tmp 118],#[25,29,57,58]⟩,some (some 111,true)⟩,⟨some 120,.pick (.tmp 111) (.tmp 119) (.const (.bool false)),none⟩,⟨some 8,.assign (.tmp 120),none⟩]) .ret) (.seq (.reg [⟨some 122,.binOp .eql 3 (.tmp 17) (.const (.int .i64 7)) 3,none⟩,⟨some 121,.assign (.tmp 122),none⟩]) (.cond (.tmp 121) (.seq (.drawn 25 [⟨some 123,.load 25 (.tmp 4),none⟩,⟨some 124,.fieldAddr 29 (.tmp 5) 3,none⟩,⟨some 125,.load 27 (.tmp 124),none⟩,⟨some 126,.indexAddr 27 (.tmp 125) (.const (.int .i64 0)),none⟩,⟨some 127,.load 29 (.tmp 126),none⟩,⟨some 128,.move (.tmp 2),none⟩,⟨some 129,.move (.tmp 3),none⟩,⟨some 130,.call ⟨.value (.func 12),#[.tmp 123,.tmp 127,.tmp 128,.tmp 129],#[25,29,57,58]⟩,none⟩,⟨some 131,.move (.tmp 130),none⟩,⟨some 132,.load 25 (.tmp 4),some (some 131,false)⟩,⟨some 133,.fieldAddr 29 (.tmp 5) 3,some (some 131,false)⟩,⟨some 134,.load 27 (.tmp 133),some (some 131,false)⟩,⟨some 135,.indexAddr 27 (.tmp 134) (.const (.int .i64 1)),some (some 131,false)⟩,⟨some 136,.load 29 (.tmp 135),some (some 131,false)⟩,⟨some 137,.move (.tmp 2),some (some 131,false)⟩,⟨some 138,.move (.tmp 3),some (some 131,false)⟩,⟨some 139,.call ⟨.value (.func 12),#[.tmp 132,.tmp 136,.tmp 137,.tmp 138],#[25,29,57,58]⟩,some (some 131,false)⟩,⟨some 140,.pick (.tmp 131) (.const (.bool true)) (.tmp 139),none⟩,⟨some 8,.assign (.tmp 140),none⟩]) .ret) (.seq (.reg [⟨some 142,.binOp .eql 3 (.tmp 17) (.const (.int .i64 8)) 3,none⟩,⟨some 141,.assign (.tmp 142),none⟩]) (.cond (.tmp 141) (.seq (.drawn 27 [⟨some 143,.load 25 (.tmp 4),none⟩,⟨some 144,.fieldAddr 29 (.tmp 5) 3,none⟩,⟨some 145,.load 27 (.tmp 144),none⟩,⟨some 146,.indexAddr 27 (.tmp 145) (.const (.int .i64 0)),none⟩,⟨some 147,.load 29 (.tmp 146),none⟩,⟨some 148,.move (.tmp 2),none⟩,⟨some 149,.move (.tmp 3),none⟩,⟨some 150,.call ⟨.value (.func 12),#[.tmp 143,.tmp 147,.tmp 148,.tmp 149],#[25,29,57,58]⟩,none⟩,⟨some 151,.unOp .not 4 (.tmp 150),none⟩,⟨some 152,.move (.tmp 151),none⟩,⟨some 153,.load 25 (.tmp 4),some (some 152,false)⟩,⟨some 154,.fieldAddr 29 (.tmp 5) 3,some (some 152,false)⟩,⟨some 155,.load 27 (.tmp 154),some (some 152,false)⟩,⟨some 156,.indexAddr 27 (.tmp 155) (.const (.int .i64 1)),some (some 152,false)⟩,⟨some 157,.load 29 (.tmp 156),some (some 152,false)⟩,⟨some 158,.move (.tmp 2),some (some 152,false)⟩,⟨some 159,.move (.tmp 3),some (some 152,false)⟩,⟨some 160,.call ⟨.value (.func 12),#[.tmp 153,.tmp 157,.tmp 158,.tmp 159],#[25,29,57,58]⟩,some (some 152,false)⟩,⟨some 161,.pick (.tmp 152) (.const (.bool true)) (.tmp 160),none⟩,⟨some 8,.assign (.tmp 161),none⟩]) .ret) (.seq (.seq (.reg [⟨some 163,.binOp .eql 3 (.tmp 17) (.const (.int .i64 9)) 3,none⟩,⟨some 162,.assign (.tmp 163),none⟩]) (.cond (.tmp 162) .skip (.reg [⟨some 164,.binOp .eql 3 (.tmp 17) (.const (.int .i64 10)) 3,none⟩,⟨some 162,.assign (.tmp 164),none⟩]))) (.cond (.tmp 162) (.seq (.drawn 30 [⟨some 165,.move (.tmp 2),none⟩,⟨some 166,.call ⟨.builtin .append,#[.const (.slice none 0 0),.tmp 165],#[57,57]⟩,none⟩,⟨some 167,.fieldAddr 29 (.tmp 5) 1,none⟩,⟨some 168,.load 9 (.tmp 167),none⟩,⟨some 169,.buildSlice 57 1 #[(0,.tmp 168)],none⟩,⟨some 170,.call ⟨.builtin .append,#[.tmp 166,.tmp 169],#[57,57]⟩,none⟩,⟨some 13,.assign (.tmp 170),none⟩]) (.seq (.reg [⟨some 14,.assign (.const (.int .i64 0)),none⟩]) (.seq (.seq (.reg [⟨some 15,.assign (.const (.int .i64 0)),none⟩]) (.bloop 5 x12_L5)) (x12_T4)))) .skip)))))))))))))))))) (.seq (.reg [⟨some 8,.assign (.const (.bool false)),none⟩]) .ret))
@[simp] theorem x12_s {C e s K} : type_of% (@X_at C e s K _ _ x12_T4.eq_1) ∧ type_of% (@X_at C e s K _ _ x12_L5.eq_1) ∧ type_of% (@X_at C e s K _ _ x12_L3.eq_1) ∧ type_of% (@X_at C e s K _ _ x12_T1.eq_1) ∧ type_of% (@X_at C e s K _ _ x12_L1.eq_1) ∧ type_of% (@X_at C e s K _ _ x12.eq_1):=⟨X_at x12_T4.eq_1,X_at x12_L5.eq_1,X_at x12_L3.eq_1,X_at x12_T1.eq_1,X_at x12_L1.eq_1,X_at x12.eq_1⟩
@[simp] def tr12_35 : MT:=.op 0 (.op 1 (.op 2 (.op 3 (.op 4 (.op 5 (.op 6 (.op 8 (.br (.op 7 (.ck 0 (.ck 2 (.ck 3 (.ck 4 (.op 9 (.ck 0 (.ck 2 (.ck 3 (.ck 4 (.op 10 (.ck 0 (.ck 2 (.ck 3 (.ck 4 (.op 11 .fin)))))))))))))))) (.op 9 (.ck 0 (.ck 2 (.ck 3 (.ck 4 (.op 7 (.ck 0 (.ck 2 (.ck 3 (.ck 4 (.op 10 (.ck 0 (.ck 2 (.ck 3 (.ck 4 (.op 11 .fin))))))))))))))))))))))))
def an12 : Ann:=⟨[(3,.mix 15),(10,.mix 12),(21,.mix 7),(23,.mix 16),(25,.mix 16),(27,.mix 17),(30,.tree (.op 0 (.op 2 (.op 3 (.br (.op 1 (.ck 3 (.op 4 (.op 5 (.op 6 .fin))))) (.op 4 (.op 1 (.op 5 (.op 6 .fin))))))))),(35,.tree tr12_35)],[(3,[],[4,5,9,12],[8]),(1,[],[2,3,4,5,9,10,11],[4,5,9]),(5,[(13,some 5000,0)],[3,4,5,13,14,15],[4,5,14])],[(35,[15])]⟩
@[simp] theorem an12_a : an12.clsOf 3 = .mix 15 ∧ an12.clsOf 10 = .mix 12 ∧ an12.clsOf 15 = .draw ∧ an12.clsOf 21 = .mix 7 ∧ an12.clsOf 23 = .mix 16 ∧ an12.clsOf 25 = .mix 16 ∧ an12.clsOf 27 = .mix 17 ∧ an12.clsOf 30 = .tree (.op 0 (.op 2 (.op 3 (.br (.op 1 (.ck 3 (.op 4 (.op 5 (.op 6 .fin))))) (.op 4 (.op 1 (.op 5 (.op 6 .fin)))))))) ∧ an12.clsOf 35 = .tree tr12_35 ∧ an12.frzOf 3 = [] ∧ an12.frzOf 10 = [] ∧ an12.frzOf 15 = [] ∧ an12.frzOf 21 = [] ∧ an12.frzOf 23 = [] ∧ an12.frzOf 25 = [] ∧ an12.frzOf 27 = [] ∧ an12.frzOf 30 = [] ∧ an12.frzOf 35 = [15] ∧ an12.loopOf 3 = ([],[4,5,9,12],[8]) ∧ an12.loopOf 1 = ([],[2,3,4,5,9,10,11],[4,5,9]) ∧ an12.loopOf 5 = ([(13,some 5000,0)],[3,4,5,13,14,15],[4,5,14]):=⟨rfl,rfl,rfl,rfl,rfl,rfl,rfl,rfl,rfl,rfl,rfl,rfl,rfl,rfl,rfl,rfl,rfl,rfl,rfl,rfl,rfl⟩
theorem fi12 : FI Try.prog 12 (cxA an12) x12 [.tmp 8] Try.f12:=fiA Try.func12 mixed
theorem ExprValue_ref (n : Int) (h0 : 0 < n) (h8 : n ≤ 8) (F : List Fn) (hF : FunsOk n F) (hnF : (F.map Fn.name).Nodup) (hF10 : F.length ≤ 10) (P : List Pd) (hP : PredsOk n P) (hP10 : P.length ≤ 10) (e : Ex) : ∀ (ns : List ByteArray) (vs : List Int) (hl : ns.length = vs.length) (hB : ns.length + (ndE e).length ≤ 1000000) (hv : ∀ v ∈ vs,0 ≤ v ∧ v < n) (hk : exK F P [] e ns = true) (hok : exOk F P e = true),
  CallOK Try.prog 12 [.agg [.int .i64 n,.list (F.map fnRow),.list (P.map pdRow)],.agg (exr e),.list (ns.map strRow),.list (vs.map intRow)] [] (.bool (valV n F P e (envLs ns vs))) []:=by
 induction e using Ex.ind with
 | h e ih=>
  intro ns vs hl hB hv hk hok
  have he:=exr_eq e
  have hw:=fun w=>WordValue_ref n h0 h8 F hF hnF hF10 P ns vs hl (by omega) hv w
  have hwv:=fun w hw=>wordR_val h0 h8 hF hnF hl hv w hw
  rw [exK_eq,Bool.and_eq_true,Bool.and_eq_true,kwsF_all,exsK_all] at hk
  obtain ⟨⟨hk1,hkw⟩,hkk⟩:=hk
  rw [exOk_eq,Bool.and_eq_true,exsOk_all] at hok
  obtain ⟨hh,hks⟩:=hok
  unfold exH at hh
  rw [Bool.and_eq_true,Bool.and_eq_true] at hh
  obtain ⟨⟨hws,hsh⟩,hpr⟩:=hh
  obtain ⟨j1,j10,hkc,hw2⟩:=of_decide_eq_true hsh
  have hkw:=List.all_eq_true.1 hkw
  have hkk:=List.all_eq_true.1 hkk
  have hks:=List.all_eq_true.1 hks
  rw [valV_eq]
  unfold valH
  by_cases k1 : e.k = 1
  ·rw [if_pos k1]
   rw [decide_eq_true k1,Bool.not_true,Bool.false_or] at hpr
   cases hp : predAt e.nm P with
   | none=>rw [hp] at hpr;exact absurd hpr (by simp)
   | some p=>
    rw [hp] at hpr
    have har : p.ar = (e.words.length : Int):=by simpa using hpr
    obtain ⟨p1,p2,p3⟩:=bitF_zero (hP p (predAt_mem hp))
    rw [har,Int.toNat_natCast] at p3
    have hall:=fun a ha=>hwv a (hkw a ha)
    have hrun:=wordsR_run h0 h8 (F:=F) (ns:=ns) (vs:=vs) e.words (fun a ha=>(hall a ha).2) 0 0 (by omega) (by simp) (by omega)
    have hrg:=plR_range h0 (l:=e.words) fun a ha=>(hall a ha).2
    rw [Int.pow_zero,Int.one_mul,Int.zero_add,plR_place fun a ha=>(hall a ha).1] at hrun
    rw [plR_place fun a ha=>(hall a ha).1] at hrg
    obtain ⟨q,hq⟩ : ∃ q : Nat,placeV n F (envLs ns vs) e.words = (q : Int):=⟨(placeV n F (envLs ns vs) e.words).toNat,by omega⟩
    rw [hq] at hrun hrg ⊢
    have hql : q < p.bits.length:=by omega
    rw [Int.toNat_natCast,Option.getD_some,List.getD_eq_getElem?_getD,List.getElem?_eq_getElem hql,Option.getD_some]
    generalize hy : p.bits[q] = y
    refine fi12.op ?_
    (refine Sg.h ?_;try repeat' ((with_reducible first|refine brA ?_|refine brE fun _=>?_|refine spl ⟨?_,?_⟩<;>intro _)<;>((try simp -implicitDefEqProofs [k1]);(try simp -implicitDefEqProofs(disch:=first|assumption|(try simp only[lens]);omega -splitDisjunctions) [k1]))))
    refine W_of fun Q hQ=>?_
    have main : ∀ k i a s,i + k = e.words.length → wordsR n F ns vs e.words (0,1) = wordsR n F ns vs (e.words.drop i) (a,s) → Q [(2,.list (ns.map strRow)),(3,.list (vs.map intRow)),(4,.ptr 0 0 0),(5,.ptr 1 0 0),(9,.int .i64 a),(10,.int .i64 s),(11,.int .i64 (i : Int))] [.rows 3 [[.int .i64 n,.list (F.map fnRow),.list (P.map pdRow)]],.rows 4 [exr e]]:=by
     intro k
     induction k with
     | zero=>
      intro i a s hi hs
      obtain rfl : i = e.words.length:=by omega
      rw [List.drop_of_length_le (Nat.le_refl _),wordsR,hrun] at hs
      dsimp only at hs
      cases hs
      apply hQ
      clear hQ
      (refine Sg.h ?_;try repeat' ((with_reducible first|refine brA ?_|refine brE fun _=>?_|refine spl ⟨?_,?_⟩<;>intro _)<;>((try simp -implicitDefEqProofs);(try simp -implicitDefEqProofs(disch:=first|assumption|(try simp only[lens]);omega -splitDisjunctions)))))
      refine W_of fun Q hQ=>?_
      have main : ∀ k i,i + k = P.length → predAt e.nm (P.drop i) = some p → Q [(4,.ptr 0 0 0),(5,.ptr 1 0 0),(9,.int .i64 (q : Int)),(12,.int .i64 (i : Int))] [.rows 3 [[.int .i64 n,.list (F.map fnRow),.list (P.map pdRow)]],.rows 4 [exr e]]:=by
       intro k
       induction k with
       | zero=>
        intro i hi hf
        rw [List.drop_of_length_le (by omega)] at hf
        cases hf
       | succ k ihk=>
        intro i hi hf
        have hil : i < P.length:=by omega
        rw [List.drop_eq_getElem_cons hil,predAt,List.find?_cons] at hf
        have ihk:=ihk (i + 1) (by omega)
        have hi' : (i : Int) < (P.length : Int):=by omega
        generalize hx : P[i] = f at *
        apply hQ
        clear hQ
        by_cases h1 : f.name = e.nm
        ·rw [decide_eq_true h1.symm] at hf
         dsimp only at hf
         cases hf
         (refine Sg.h ?_;try repeat' ((with_reducible first|refine brA ?_|refine brE fun _=>?_|refine spl ⟨?_,?_⟩<;>intro _)<;>((try simp -implicitDefEqProofs [hi',hil,hx,h1,hql,hy]);(try simp -implicitDefEqProofs(disch:=first|assumption|(try simp only[lens]);omega -splitDisjunctions) [hi',hil,hx,h1,hql,hy]))))
        ·rw [decide_eq_false fun g => h1 g.symm] at hf
         have ihk:=ihk hf
         (refine Sg.h ?_;try repeat' ((with_reducible first|refine brA ?_|refine brE fun _=>?_|refine spl ⟨?_,?_⟩<;>intro _)<;>((try simp -implicitDefEqProofs [hi',hil,hx,h1]);(try simp -implicitDefEqProofs(disch:=first|assumption|(try simp only[lens]);omega -splitDisjunctions) [hi',hil,hx,h1]))))
         all_goals first|exact ihk|(refine at2 ihk ?_ ?_<;>simp;done)|(exfalso;first|omega|(simp_all;done)|(simp_all;omega))
      all_goals first|exact main P.length 0 (Nat.zero_add _) hp|(refine at2 main P.length 0 (Nat.zero_add _) hp ?_ ?_<;>simp;done)|(exfalso;first|omega|(simp_all;done)|(simp_all;omega))
     | succ k ihk=>
      intro i a s hi hs
      have hil : i < e.words.length:=by omega
      rw [List.drop_eq_getElem_cons hil,wordsR] at hs
      dsimp only at hs
      have hz:=hall _ (List.getElem_mem hil)
      rw [if_neg (by omega)] at hs
      have hc:=hw e.words[i]
      have ihk:=ihk (i + 1) _ _ (by omega) hs
      have hi' : (i : Int) < (e.words.length : Int):=by omega
      generalize hx : e.words[i] = x at *
      generalize wordR n F ns vs x = z at *
      apply hQ
      clear hQ
      (refine Sg.h ?_;try repeat' ((first|(with_reducible first|refine brA ?_|refine brE fun _=>?_|refine spl ⟨?_,?_⟩<;>intro _)|refine clo hc ?_)<;>((try simp -implicitDefEqProofs [hi',hil,hx]);(try simp -implicitDefEqProofs(disch:=first|assumption|(try simp only[lens]);omega -splitDisjunctions) [hi',hil,hx]))))
      all_goals first|exact ihk|(refine at2 ihk ?_ ?_<;>simp;done)|(exfalso;first|omega|(simp_all;done)|(simp_all;omega))
    all_goals first|exact main e.words.length 0 0 1 (Nat.zero_add _) rfl|(refine at2 main e.words.length 0 0 1 (Nat.zero_add _) rfl ?_ ?_<;>simp;done)|(exfalso;first|omega|(simp_all;done)|(simp_all;omega))
  rw [if_neg k1]
  by_cases k2 : e.k = 2
  ·rw [if_pos k2]
   obtain ⟨a,b,hab⟩ : ∃ a b,e.words = [a,b]:=by
    match h : e.words,hw2 k2 with
    | [a,b],_=>exact ⟨a,b,rfl⟩
   have ha:=hw a
   have hb:=hw b
   rw [(hwv a (hkw a (by simp [hab]))).1] at ha
   rw [(hwv b (hkw b (by simp [hab]))).1] at hb
   rw [hab] at he ⊢
   simp only [List.getD_cons_zero,List.getD_cons_succ]
   generalize wordV n F (envLs ns vs) a = va at *
   generalize wordV n F (envLs ns vs) b = vb at *
   refine fi12.op ?_
   (refine Sg.h ?_;try repeat' ((first|(with_reducible first|refine brA ?_|refine brE fun _=>?_|refine spl ⟨?_,?_⟩<;>intro _)|refine clo ha ?_|refine clo hb ?_)<;>((try simp -implicitDefEqProofs [k2,hab]);(try simp -implicitDefEqProofs(disch:=first|assumption|(try simp only[lens]);omega -splitDisjunctions) [k2,hab]))))
  rw [if_neg k2]
  by_cases k3 : e.k = 3
  ·rw [if_pos k3]
   refine fi12.op ?_
   (refine Sg.h ?_;try repeat' ((with_reducible first|refine brA ?_|refine brE fun _=>?_|refine spl ⟨?_,?_⟩<;>intro _)<;>((try simp -implicitDefEqProofs [k3]);(try simp -implicitDefEqProofs(disch:=first|assumption|(try simp only[lens]);omega -splitDisjunctions) [k3]))))
  rw [if_neg k3]
  by_cases k4 : e.k = 4
  ·rw [if_neg (by omega),if_neg (by omega),if_neg (by omega),if_neg (by omega),if_neg (by omega),if_neg (by omega)]
   refine fi12.op ?_
   (refine Sg.h ?_;try repeat' ((with_reducible first|refine brA ?_|refine brE fun _=>?_|refine spl ⟨?_,?_⟩<;>intro _)<;>((try simp -implicitDefEqProofs [k4]);(try simp -implicitDefEqProofs(disch:=first|assumption|(try simp only[lens]);omega -splitDisjunctions) [k4]))))
  -- the kids
  have kid : ∀ i (hi : i < e.kids.length) (ns' : List ByteArray) (vs' : List Int),ns' = bindB e.k e.nm ns → ns'.length = vs'.length → (∀ v ∈ vs',0 ≤ v ∧ v < n) → CallOK Try.prog 12 [.agg [.int .i64 n,.list (F.map fnRow),.list (P.map pdRow)],.agg (exr e.kids[i]),.list (ns'.map strRow),.list (vs'.map intRow)] [] (.bool (((e.kids.map (valV n F P)).getD i fun _=>false) (envLs ns' vs'))) []:=by
   intro i hi ns' vs' hns hl' hv'
   have hm:=List.getElem_mem hi
   have hbl : ns'.length ≤ ns.length + 1:=by
    rw [hns,bindB];split
    ·simp
    ·omega
   have:=ih e.kids[i] hm ns' vs' hl' (by have:=ndE_kid hm;omega) hv' (hns ▸ hkk _ hm) (hks _ hm)
   rw [List.getD_eq_getElem?_getD,List.getElem?_map,List.getElem?_eq_getElem hi]
   exact this
  have kid0:=kid 0
  have kid1:=kid 1
  clear kid ih
  generalize ((e.kids.map (valV n F P)).getD 0 fun _=>false) = g0 at *
  generalize ((e.kids.map (valV n F P)).getD 1 fun _=>false) = g1 at *
  by_cases k5 : e.k = 5
  ·rw [if_pos k5]
   have hb : ns = bindB e.k e.nm ns:=by rw [bindB,if_neg (by omega)]
   have hl0 : 0 < e.kids.length:=by rw [k5,show kidsX 5 = 1 from rfl] at hkc;omega
   have hc:=kid0 hl0 ns vs hb hl hv
   generalize hx : e.kids[0] = x at *
   generalize g0 (envLs ns vs) = r at *
   refine fi12.op ?_
   (refine Sg.h ?_;try repeat' ((first|(with_reducible first|refine brA ?_|refine brE fun _=>?_|refine spl ⟨?_,?_⟩<;>intro _)|refine clo hc ?_)<;>((try simp -implicitDefEqProofs [k5,hl0,hx]);(try simp -implicitDefEqProofs(disch:=first|assumption|(try simp only[lens]);omega -splitDisjunctions) [k5,hl0,hx]))))
  rw [if_neg k5]
  by_cases k6 : e.k = 6
  ·rw [if_pos k6]
   have hb : ns = bindB e.k e.nm ns:=by rw [bindB,if_neg (by omega)]
   have hl0 : 0 < e.kids.length:=by rw [k6,show kidsX 6 = 2 from rfl] at hkc;omega
   have hl1 : 1 < e.kids.length:=by rw [k6,show kidsX 6 = 2 from rfl] at hkc;omega
   have hc:=kid0 hl0 ns vs hb hl hv
   have hc1:=kid1 hl1 ns vs hb hl hv
   generalize hx : e.kids[0] = x at *
   generalize hx1 : e.kids[1] = x1 at *
   generalize g0 (envLs ns vs) = r at *
   generalize g1 (envLs ns vs) = r1 at *
   refine fi12.op ?_
   cases r with
   | true=>(refine Sg.h ?_;try repeat' ((first|(with_reducible first|refine brA ?_|refine brE fun _=>?_|refine spl ⟨?_,?_⟩<;>intro _)|refine clo hc ?_|refine clo hc1 ?_)<;>((try simp -implicitDefEqProofs [k6,hl0,hx,hl1,hx1]);(try simp -implicitDefEqProofs(disch:=first|assumption|(try simp only[lens]);omega -splitDisjunctions) [k6,hl0,hx,hl1,hx1]))))
   | false=>(refine Sg.h ?_;try repeat' ((first|(with_reducible first|refine brA ?_|refine brE fun _=>?_|refine spl ⟨?_,?_⟩<;>intro _)|refine clo hc ?_|refine clo hc1 ?_)<;>((try simp -implicitDefEqProofs [k6,hl0,hx,hl1,hx1]);(try simp -implicitDefEqProofs(disch:=first|assumption|(try simp only[lens]);omega -splitDisjunctions) [k6,hl0,hx,hl1,hx1]))))
  rw [if_neg k6]
  by_cases k7 : e.k = 7
  ·rw [if_pos k7]
   have hb : ns = bindB e.k e.nm ns:=by rw [bindB,if_neg (by omega)]
   have hl0 : 0 < e.kids.length:=by rw [k7,show kidsX 7 = 2 from rfl] at hkc;omega
   have hl1 : 1 < e.kids.length:=by rw [k7,show kidsX 7 = 2 from rfl] at hkc;omega
   have hc:=kid0 hl0 ns vs hb hl hv
   have hc1:=kid1 hl1 ns vs hb hl hv
   generalize hx : e.kids[0] = x at *
   generalize hx1 : e.kids[1] = x1 at *
   generalize g0 (envLs ns vs) = r at *
   generalize g1 (envLs ns vs) = r1 at *
   refine fi12.op ?_
   cases r with
   | true=>(refine Sg.h ?_;try repeat' ((first|(with_reducible first|refine brA ?_|refine brE fun _=>?_|refine spl ⟨?_,?_⟩<;>intro _)|refine clo hc ?_|refine clo hc1 ?_)<;>((try simp -implicitDefEqProofs [k7,hl0,hx,hl1,hx1]);(try simp -implicitDefEqProofs(disch:=first|assumption|(try simp only[lens]);omega -splitDisjunctions) [k7,hl0,hx,hl1,hx1]))))
   | false=>(refine Sg.h ?_;try repeat' ((first|(with_reducible first|refine brA ?_|refine brE fun _=>?_|refine spl ⟨?_,?_⟩<;>intro _)|refine clo hc ?_|refine clo hc1 ?_)<;>((try simp -implicitDefEqProofs [k7,hl0,hx,hl1,hx1]);(try simp -implicitDefEqProofs(disch:=first|assumption|(try simp only[lens]);omega -splitDisjunctions) [k7,hl0,hx,hl1,hx1]))))
  rw [if_neg k7]
  by_cases k8 : e.k = 8
  ·rw [if_pos k8]
   have hb : ns = bindB e.k e.nm ns:=by rw [bindB,if_neg (by omega)]
   have hl0 : 0 < e.kids.length:=by rw [k8,show kidsX 8 = 2 from rfl] at hkc;omega
   have hl1 : 1 < e.kids.length:=by rw [k8,show kidsX 8 = 2 from rfl] at hkc;omega
   have hc:=kid0 hl0 ns vs hb hl hv
   have hc1:=kid1 hl1 ns vs hb hl hv
   generalize hx : e.kids[0] = x at *
   generalize hx1 : e.kids[1] = x1 at *
   generalize g0 (envLs ns vs) = r at *
   generalize g1 (envLs ns vs) = r1 at *
   refine fi12.op ?_
   cases r with
   | true=>(refine Sg.h ?_;try repeat' ((first|(with_reducible first|refine brA ?_|refine brE fun _=>?_|refine spl ⟨?_,?_⟩<;>intro _)|refine clo hc ?_|refine clo hc1 ?_)<;>((try simp -implicitDefEqProofs [k8,hl0,hx,hl1,hx1]);(try simp -implicitDefEqProofs(disch:=first|assumption|(try simp only[lens]);omega -splitDisjunctions) [k8,hl0,hx,hl1,hx1]))))
   | false=>(refine Sg.h ?_;try repeat' ((first|(with_reducible first|refine brA ?_|refine brE fun _=>?_|refine spl ⟨?_,?_⟩<;>intro _)|refine clo hc ?_|refine clo hc1 ?_)<;>((try simp -implicitDefEqProofs [k8,hl0,hx,hl1,hx1]);(try simp -implicitDefEqProofs(disch:=first|assumption|(try simp only[lens]);omega -splitDisjunctions) [k8,hl0,hx,hl1,hx1]))))
  rw [if_neg k8]
  have k910 : e.k = 9 ∨ e.k = 10:=by omega
  have hb : ns ++ [e.nm] = bindB e.k e.nm ns:=by rw [bindB,if_pos k910]
  have hl0 : 0 < e.kids.length:=by
   rcases k910 with g | g
   ·rw [g,show kidsX 9 = 1 from rfl] at hkc;omega
   ·rw [g,show kidsX 10 = 1 from rfl] at hkc;omega
  have htk : List.take (ns.length + 1) (ns.map strRow ++ [[PV.str e.nm]]) = (ns ++ [e.nm]).map strRow:=by
   rw [List.take_of_length_le (by simp)];simp [strRow]
  have kid:=fun vs'=>kid0 hl0 (ns ++ [e.nm]) vs' hb
  clear kid0 kid1 hw hwv hkk hkw hks
  generalize hx : e.kids[0] = y at *
  let pv : Nat → Bool:=fun x=>g0 (updE (envLs ns vs) e.nm (x : Int))
  by_cases k9 : e.k = 9
  ·rw [if_pos k9]
   obtain ⟨R,hR⟩ : ∃ R,(List.range n.toNat).all pv = R:=⟨_,rfl⟩
   change CallOK _ _ _ _ (.bool ((List.range n.toNat).all pv)) _
   rw [hR]
   refine fi12.op ?_
   (refine Sg.h ?_;try repeat' ((with_reducible first|refine brA ?_|refine brE fun _=>?_|refine spl ⟨?_,?_⟩<;>intro _)<;>((try simp -implicitDefEqProofs [k9]);(try simp -implicitDefEqProofs(disch:=first|assumption|(try simp only[lens]);omega -splitDisjunctions) [k9]))))
   rw [htk]
   obtain ⟨N,hN⟩ : ∃ N : Nat,n = (N : Int):=⟨n.toNat,by omega⟩
   have hNn : n.toNat = N:=by omega
   rw [hNn] at hR
   refine W_of fun Q hQ=>?_
   have main : ∀ k x,x + k = N → Q [(3,.list (vs.map intRow)),(4,.ptr 0 0 0),(5,.ptr 1 0 0),(13,.list ((ns ++ [e.nm]).map strRow)),(14,.int .i64 (cntN pv x : Int)),(15,.int .i64 (x : Int))] [.rows 3 [[.int .i64 n,.list (F.map fnRow),.list (P.map pdRow)]],.rows 4 [exr e]]:=by
    intro k
    induction k with
    | zero=>
     intro x hx
     obtain rfl : x = N:=by omega
     have hle:=cntN_le pv x
     rw [cntN_all] at hR
     generalize cntN pv x = c at *
     have hxn : ¬ (x : Int) < n:=by omega
     apply hQ
     clear hQ
     by_cases hcn : c = x
     ·rw [decide_eq_true hcn] at hR
      subst hR
      have hcn' : (c : Int) = n:=by omega
      (refine Sg.h ?_;try repeat' ((with_reducible first|refine brA ?_|refine brE fun _=>?_|refine spl ⟨?_,?_⟩<;>intro _)<;>((try simp -implicitDefEqProofs [hxn,hcn',k9]);(try simp -implicitDefEqProofs(disch:=first|assumption|(try simp only[lens]);omega -splitDisjunctions) [hxn,hcn',k9]))))
     ·rw [decide_eq_false hcn] at hR
      subst hR
      have hcn' : ¬ (c : Int) = n:=by omega
      by_cases hc0 : 0 < c
      ·have hc0' : (0 : Int) < (c : Int) := by omega
       (refine Sg.h ?_;try repeat' ((with_reducible first|refine brA ?_|refine brE fun _=>?_|refine spl ⟨?_,?_⟩<;>intro _)<;>((try simp -implicitDefEqProofs [hxn,hcn',hc0',k9]);(try simp -implicitDefEqProofs(disch:=first|assumption|(try simp only[lens]);omega -splitDisjunctions) [hxn,hcn',hc0',k9]))))
      ·have hc0' : ¬ (0 : Int) < (c : Int) := by omega
       (refine Sg.h ?_;try repeat' ((with_reducible first|refine brA ?_|refine brE fun _=>?_|refine spl ⟨?_,?_⟩<;>intro _)<;>((try simp -implicitDefEqProofs [hxn,hcn',hc0',k9]);(try simp -implicitDefEqProofs(disch:=first|assumption|(try simp only[lens]);omega -splitDisjunctions) [hxn,hcn',hc0',k9]))))
    | succ k ihk=>
     intro x hxk
     have hle:=cntN_le pv x
     have ihk:=ihk (x + 1) (by omega)
     rw [cntN_succ] at ihk
     have hc:=kid (vs ++ [(x : Int)]) (by simp [hl]) (fun v hv'=>by
      rcases List.mem_append.1 hv' with h | h
      ·exact hv v h
      ·simp only [List.mem_singleton] at h;omega)
     rw [envLs_snoc hl] at hc
     change CallOK _ _ _ _ (.bool (pv x)) _ at hc
     have htk3 : List.take (vs.length + 1) (vs.map intRow ++ [[PV.int .i64 (x : Int)]]) = (vs ++ [(x : Int)]).map intRow:=by
      rw [List.take_of_length_le (by simp)];simp [intRow]
     generalize cntN pv x = c at *
     have hxn : (x : Int) < n:=by omega
     have hv8 : vs.length * 8 ≤ 140737488355328:=by omega
     have hv9 : (vs.length + 1) * 8 ≤ 140737488355328:=by omega
     apply hQ
     clear hQ
     cases hp : pv x with
     | true=>
      rw [hp] at hc ihk
      rw [if_pos rfl] at ihk
      (refine Sg.h ?_;try repeat' ((with_reducible first|refine brA ?_|refine brE fun _=>?_|refine spl ⟨?_,?_⟩<;>intro _)<;>((try simp -implicitDefEqProofs [hxn,hl0,hx,hv8,hv9,k9]);(try simp -implicitDefEqProofs(disch:=first|assumption|(try simp only[lens]);omega -splitDisjunctions) [hxn,hl0,hx,hv8,hv9,k9]))))
      refine ⟨?_,?_⟩
      all_goals (refine CT.see (vs':=[.agg [.int .i64 n,.list (F.map fnRow),.list (P.map pdRow)],.agg (exr y),.list ((ns ++ [e.nm]).map strRow),.list ((vs ++ [(x : Int)]).map intRow)]) hc (by simp;rw [List.take_of_length_le (by simp)]) (flat_bool _) ?_)
      all_goals (refine Sg.h ?_;try repeat' ((with_reducible first|refine brA ?_|refine brE fun _=>?_|refine spl ⟨?_,?_⟩<;>intro _)<;>((try simp -implicitDefEqProofs [k9]);(try simp -implicitDefEqProofs(disch:=first|assumption|(try simp only[lens]);omega -splitDisjunctions) [k9]))))
      all_goals (all_goals first|exact ihk|(refine at2 ihk ?_ ?_<;>simp;done)|(exfalso;first|omega|(simp_all;done)|(simp_all;omega)))
     | false=>
      rw [hp] at hc ihk
      rw [if_neg (by simp)] at ihk
      (refine Sg.h ?_;try repeat' ((with_reducible first|refine brA ?_|refine brE fun _=>?_|refine spl ⟨?_,?_⟩<;>intro _)<;>((try simp -implicitDefEqProofs [hxn,hl0,hx,hv8,hv9,k9]);(try simp -implicitDefEqProofs(disch:=first|assumption|(try simp only[lens]);omega -splitDisjunctions) [hxn,hl0,hx,hv8,hv9,k9]))))
      refine ⟨?_,?_⟩
      all_goals (refine CT.see (vs':=[.agg [.int .i64 n,.list (F.map fnRow),.list (P.map pdRow)],.agg (exr y),.list ((ns ++ [e.nm]).map strRow),.list ((vs ++ [(x : Int)]).map intRow)]) hc (by simp;rw [List.take_of_length_le (by simp)]) (flat_bool _) ?_)
      all_goals (refine Sg.h ?_;try repeat' ((with_reducible first|refine brA ?_|refine brE fun _=>?_|refine spl ⟨?_,?_⟩<;>intro _)<;>((try simp -implicitDefEqProofs [k9]);(try simp -implicitDefEqProofs(disch:=first|assumption|(try simp only[lens]);omega -splitDisjunctions) [k9]))))
      all_goals (all_goals first|exact ihk|(refine at2 ihk ?_ ?_<;>simp;done)|(exfalso;first|omega|(simp_all;done)|(simp_all;omega)))
   all_goals first|exact main N 0 (Nat.zero_add _)|(refine at2 main N 0 (Nat.zero_add _) ?_ ?_<;>simp;done)|(exfalso;first|omega|(simp_all;done)|(simp_all;omega))
  ·have k10 : e.k = 10 := by omega
   rw [if_neg k9,if_pos k10]
   obtain ⟨R,hR⟩ : ∃ R,(List.range n.toNat).any pv = R:=⟨_,rfl⟩
   change CallOK _ _ _ _ (.bool ((List.range n.toNat).any pv)) _
   rw [hR]
   refine fi12.op ?_
   (refine Sg.h ?_;try repeat' ((with_reducible first|refine brA ?_|refine brE fun _=>?_|refine spl ⟨?_,?_⟩<;>intro _)<;>((try simp -implicitDefEqProofs [k9,k10]);(try simp -implicitDefEqProofs(disch:=first|assumption|(try simp only[lens]);omega -splitDisjunctions) [k9,k10]))))
   rw [htk]
   obtain ⟨N,hN⟩ : ∃ N : Nat,n = (N : Int):=⟨n.toNat,by omega⟩
   have hNn : n.toNat = N:=by omega
   rw [hNn] at hR
   refine W_of fun Q hQ=>?_
   have main : ∀ k x,x + k = N → Q [(3,.list (vs.map intRow)),(4,.ptr 0 0 0),(5,.ptr 1 0 0),(13,.list ((ns ++ [e.nm]).map strRow)),(14,.int .i64 (cntN pv x : Int)),(15,.int .i64 (x : Int))] [.rows 3 [[.int .i64 n,.list (F.map fnRow),.list (P.map pdRow)]],.rows 4 [exr e]]:=by
    intro k
    induction k with
    | zero=>
     intro x hx
     obtain rfl : x = N:=by omega
     have hle:=cntN_le pv x
     rw [cntN_any] at hR
     generalize cntN pv x = c at *
     have hxn : ¬ (x : Int) < n:=by omega
     apply hQ
     clear hQ
     by_cases hc0 : 0 < c
     ·rw [decide_eq_true hc0] at hR
      subst hR
      have hc0' : (0 : Int) < (c : Int):=by omega
      by_cases hcn : (c : Int) = n
      ·(refine Sg.h ?_;try repeat' ((with_reducible first|refine brA ?_|refine brE fun _=>?_|refine spl ⟨?_,?_⟩<;>intro _)<;>((try simp -implicitDefEqProofs [hxn,hcn,k9,k10]);(try simp -implicitDefEqProofs(disch:=first|assumption|(try simp only[lens]);omega -splitDisjunctions) [hxn,hcn,k9,k10]))))
      ·(refine Sg.h ?_;try repeat' ((with_reducible first|refine brA ?_|refine brE fun _=>?_|refine spl ⟨?_,?_⟩<;>intro _)<;>((try simp -implicitDefEqProofs [hxn,hcn,hc0',k9,k10]);(try simp -implicitDefEqProofs(disch:=first|assumption|(try simp only[lens]);omega -splitDisjunctions) [hxn,hcn,hc0',k9,k10]))))
     ·rw [decide_eq_false hc0] at hR
      subst hR
      have hc0' : ¬ (0 : Int) < (c : Int):=by omega
      have hcn : ¬ (c : Int) = n:=by omega
      (refine Sg.h ?_;try repeat' ((with_reducible first|refine brA ?_|refine brE fun _=>?_|refine spl ⟨?_,?_⟩<;>intro _)<;>((try simp -implicitDefEqProofs [hxn,hcn,hc0',k9,k10]);(try simp -implicitDefEqProofs(disch:=first|assumption|(try simp only[lens]);omega -splitDisjunctions) [hxn,hcn,hc0',k9,k10]))))
    | succ k ihk=>
     intro x hxk
     have hle:=cntN_le pv x
     have ihk:=ihk (x + 1) (by omega)
     rw [cntN_succ] at ihk
     have hc:=kid (vs ++ [(x : Int)]) (by simp [hl]) (fun v hv'=>by
      rcases List.mem_append.1 hv' with h | h
      ·exact hv v h
      ·simp only [List.mem_singleton] at h;omega)
     rw [envLs_snoc hl] at hc
     change CallOK _ _ _ _ (.bool (pv x)) _ at hc
     have htk3 : List.take (vs.length + 1) (vs.map intRow ++ [[PV.int .i64 (x : Int)]]) = (vs ++ [(x : Int)]).map intRow:=by
      rw [List.take_of_length_le (by simp)];simp [intRow]
     generalize cntN pv x = c at *
     have hxn : (x : Int) < n:=by omega
     have hv8 : vs.length * 8 ≤ 140737488355328:=by omega
     have hv9 : (vs.length + 1) * 8 ≤ 140737488355328:=by omega
     apply hQ
     clear hQ
     cases hp : pv x with
     | true=>
      rw [hp] at hc ihk
      rw [if_pos rfl] at ihk
      (refine Sg.h ?_;try repeat' ((with_reducible first|refine brA ?_|refine brE fun _=>?_|refine spl ⟨?_,?_⟩<;>intro _)<;>((try simp -implicitDefEqProofs [hxn,hl0,hx,hv8,hv9,k9,k10]);(try simp -implicitDefEqProofs(disch:=first|assumption|(try simp only[lens]);omega -splitDisjunctions) [hxn,hl0,hx,hv8,hv9,k9,k10]))))
      refine ⟨?_,?_⟩
      all_goals (refine CT.see (vs':=[.agg [.int .i64 n,.list (F.map fnRow),.list (P.map pdRow)],.agg (exr y),.list ((ns ++ [e.nm]).map strRow),.list ((vs ++ [(x : Int)]).map intRow)]) hc (by simp;rw [List.take_of_length_le (by simp)]) (flat_bool _) ?_)
      all_goals (refine Sg.h ?_;try repeat' ((with_reducible first|refine brA ?_|refine brE fun _=>?_|refine spl ⟨?_,?_⟩<;>intro _)<;>((try simp -implicitDefEqProofs [k9,k10]);(try simp -implicitDefEqProofs(disch:=first|assumption|(try simp only[lens]);omega -splitDisjunctions) [k9,k10]))))
      all_goals (all_goals first|exact ihk|(refine at2 ihk ?_ ?_<;>simp;done)|(exfalso;first|omega|(simp_all;done)|(simp_all;omega)))
     | false=>
      rw [hp] at hc ihk
      rw [if_neg (by simp)] at ihk
      (refine Sg.h ?_;try repeat' ((with_reducible first|refine brA ?_|refine brE fun _=>?_|refine spl ⟨?_,?_⟩<;>intro _)<;>((try simp -implicitDefEqProofs [hxn,hl0,hx,hv8,hv9,k9,k10]);(try simp -implicitDefEqProofs(disch:=first|assumption|(try simp only[lens]);omega -splitDisjunctions) [hxn,hl0,hx,hv8,hv9,k9,k10]))))
      refine ⟨?_,?_⟩
      all_goals (refine CT.see (vs':=[.agg [.int .i64 n,.list (F.map fnRow),.list (P.map pdRow)],.agg (exr y),.list ((ns ++ [e.nm]).map strRow),.list ((vs ++ [(x : Int)]).map intRow)]) hc (by simp;rw [List.take_of_length_le (by simp)]) (flat_bool _) ?_)
      all_goals (refine Sg.h ?_;try repeat' ((with_reducible first|refine brA ?_|refine brE fun _=>?_|refine spl ⟨?_,?_⟩<;>intro _)<;>((try simp -implicitDefEqProofs [k9,k10]);(try simp -implicitDefEqProofs(disch:=first|assumption|(try simp only[lens]);omega -splitDisjunctions) [k9,k10]))))
      all_goals (all_goals first|exact ihk|(refine at2 ihk ?_ ?_<;>simp;done)|(exfalso;first|omega|(simp_all;done)|(simp_all;omega)))
   all_goals first|exact main N 0 (Nat.zero_add _)|(refine at2 main N 0 (Nat.zero_add _) ?_ ?_<;>simp;done)|(exfalso;first|omega|(simp_all;done)|(simp_all;omega))
end Go.Proofs.Ytfhakdonenhnbaa
