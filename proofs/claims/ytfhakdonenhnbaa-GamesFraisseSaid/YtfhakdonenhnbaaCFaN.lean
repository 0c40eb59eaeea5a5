import Derived.Test.YtfhakdonenhnbaaCFaM
set_option linter.unusedVariables false
set_option linter.unusedSimpArgs false
set_option maxRecDepth 100000
set_option maxHeartbeats 4000000
namespace Go.Proofs.Ytfhakdonenhnbaa
open Go Go.Pv
def chkW (nm : ByteArray) (c : Nat) : Except Int (Option (Bool × ByteArray × Nat)):=
 if isBigB nm = true then .ok (some (true,nm,c)) else if isNameB nm = true then (if 0 < c then .error 9 else .ok none) else .error 8
def chkX (k : Int) (nm : ByteArray) (wc kc : Nat) : Except Int (Option (Bool × ByteArray × Nat)):=
 if k < 1 ∨ 10 < k then .error 4 else if (0 ≤ wordsN k ∧ (wc : Int) ≠ wordsN k) ∨ (kc : Int) ≠ kidsX k then .error 9
 else if k = 1 then (if isBigB nm = true then .ok (some (false,nm,wc)) else .error 8)
 else if k = 9 ∨ k = 10 then (if isNameB nm = true then .ok none else .error 8)
 else if nm = ⟨#[]⟩ then .ok none else .error 8
def chkN : Nd → Except Int (Option (Bool × ByteArray × Nat))
 | .w x=>chkW x.nm x.args.length
 | .e x=>chkX x.k x.nm x.words.length x.kids.length
def encR (b : Bool) (nm : ByteArray) : ByteArray:=(if b = true then (⟨#[102,32]⟩ : ByteArray) else ⟨#[112,32]⟩) ++ nm
def lastIx (key : ByteArray) : List (ByteArray × Int) → Nat → Int → Int
 | [],_,acc=>acc
 | p :: r,j,acc=>lastIx key r (j + 1) (if p.1 = key then (j : Int) else acc)
def refF : List Nd → Nat → List (ByteArray × Int) → Int × Int
 | [],_,_=>(0,0)
 | x :: r,i,A=>if i = 200 then (2,0) else match chkN x with
  | .error c=>(c,(i : Int))
  | .ok none=>refF r (i + 1) A
  | .ok (some (b,nm,c))=>if lastIx (encR b nm) A 0 (-1) < 0 then refF r (i + 1) (A ++ [(encR b nm,(c : Int))])
   else if (A[(lastIx (encR b nm) A 0 (-1)).toNat]?.map (·.2)).getD 0 = (c : Int) then refF r (i + 1) A else (5,(i : Int))
def nmR (p : ByteArray × Int) : List PV:=[.str p.1]
def cnR (p : ByteArray × Int) : List PV:=[.int .i64 p.2]
theorem nmR_eq (p : ByteArray × Int) : nmR p = [.str p.1]:=rfl
theorem cnR_eq (p : ByteArray × Int) : cnR p = [.int .i64 p.2]:=rfl
instance : FlatRow nmR:=⟨fun _=>rfl⟩
instance : FlatRow cnR:=⟨fun _=>rfl⟩
@[simp] theorem nmR_length (p : ByteArray × Int) : (nmR p).length = 1:=rfl
@[simp] theorem cnR_length (p : ByteArray × Int) : (cnR p).length = 1:=rfl
theorem encR_ne (b : Bool) (nm : ByteArray) : ¬ encR b nm = ⟨#[]⟩:=by
 intro h
 have:=congrArg ByteArray.size h
 unfold encR at this
 rw [ByteArray.size_append] at this
 cases b <;> simp at this <;> revert this <;> decide
theorem lastIx_lt (key : ByteArray) : ∀ (A : List (ByteArray × Int)) (j : Nat) (acc : Int),acc < (j : Int) → lastIx key A j acc < ((j + A.length : Nat) : Int)
 | [],j,acc,h=>by simpa [lastIx] using h
 | p :: r,j,acc,h=>by
  have:=lastIx_lt key r (j + 1) (if p.1 = key then (j : Int) else acc) (by split <;> omega)
  rw [lastIx,List.length_cons]
  omega
def x18_T3 : XC:=.seq (.reg [⟨some 185,.build 33 #[],none⟩,⟨none,.store 33 (.tmp 2) (.tmp 185),none⟩]) .ret
def x18_T2 : XC:=.seq (.reg [⟨some 167,.move (.tmp 13),none⟩,⟨some 168,.binOp .lss 3 (.tmp 167) (.const (.int .i64 0)) 3,none⟩]) (.cond (.tmp 168) (.seq (.reg [⟨some 169,.move (.tmp 3),none⟩,⟨some 170,.move (.tmp 7),none⟩,⟨some 171,.buildSlice 57 1 #[(0,.tmp 170)],none⟩,⟨some 172,.call ⟨.builtin .append,#[.tmp 169,.tmp 171],#[57,57]⟩,none⟩,⟨some 3,.assign (.tmp 172),none⟩]) (.reg [⟨some 173,.move (.tmp 4),none⟩,⟨some 174,.move (.tmp 8),none⟩,⟨some 175,.buildSlice 58 1 #[(0,.tmp 174)],none⟩,⟨some 176,.call ⟨.builtin .append,#[.tmp 173,.tmp 175],#[58,58]⟩,none⟩,⟨some 4,.assign (.tmp 176),none⟩])) (.seq (.reg [⟨some 177,.move (.tmp 4),none⟩,⟨some 178,.move (.tmp 13),none⟩,⟨some 179,.indexAddr 58 (.tmp 177) (.tmp 178),none⟩,⟨some 180,.load 3 (.tmp 179),none⟩,⟨some 181,.move (.tmp 8),none⟩,⟨some 182,.binOp .neq 3 (.tmp 180) (.tmp 181) 3,none⟩]) (.cond (.tmp 182) (.seq (.reg [⟨some 183,.move (.tmp 5),none⟩,⟨some 184,.call ⟨.value (.func 22),#[.const (.int .i64 5),.tmp 183],#[3,3]⟩,none⟩,⟨none,.store 33 (.tmp 2) (.tmp 184),none⟩]) .ret) .skip)))
def x18_L2 : XC:=.seq (.seq (.reg [⟨some 154,.move (.tmp 14),none⟩,⟨some 155,.move (.tmp 3),none⟩,⟨some 156,.call ⟨.builtin .len,#[.tmp 155],#[57]⟩,none⟩,⟨some 157,.binOp .lss 3 (.tmp 154) (.tmp 156) 3,none⟩]) (.cond (.tmp 157) .skip (.exit 2))) (.seq (.block 3 (.seq (.reg [⟨some 160,.move (.tmp 3),none⟩,⟨some 161,.move (.tmp 14),none⟩,⟨some 162,.indexAddr 57 (.tmp 160) (.tmp 161),none⟩,⟨some 163,.load 9 (.tmp 162),none⟩,⟨some 164,.move (.tmp 7),none⟩,⟨some 165,.binOp .eql 9 (.tmp 163) (.tmp 164) 9,none⟩]) (.cond (.tmp 165) (.reg [⟨some 166,.move (.tmp 14),none⟩,⟨some 13,.assign (.tmp 166),none⟩]) .skip))) (.reg [⟨some 158,.move (.tmp 14),none⟩,⟨some 159,.binOp .add 3 (.tmp 158) (.const (.int .i64 1)) 3,none⟩,⟨some 14,.assign (.tmp 159),none⟩]))
def x18_L0 : XC:=.seq (.seq (.reg [⟨some 15,.move (.tmp 5),none⟩,⟨some 16,.move (.tmp 0),none⟩,⟨some 17,.call ⟨.builtin .len,#[.tmp 16],#[55]⟩,none⟩,⟨some 18,.binOp .lss 3 (.tmp 15) (.tmp 17) 3,none⟩]) (.cond (.tmp 18) .skip (.exit 0))) (.seq (.block 1 (.seq (.seq (.reg [⟨some 21,.move (.tmp 5),none⟩,⟨some 22,.binOp .eql 3 (.tmp 21) (.const (.int .i64 200)) 3,none⟩]) (.cond (.tmp 22) (.seq (.reg [⟨some 23,.call ⟨.value (.func 22),#[.const (.int .i64 2),.const (.int .i64 0)],#[3,3]⟩,none⟩,⟨none,.store 33 (.tmp 2) (.tmp 23),none⟩]) .ret) .skip)) (.seq (.reg [⟨some 24,.move (.tmp 0),none⟩,⟨some 25,.move (.tmp 5),none⟩,⟨some 26,.indexAddr 55 (.tmp 24) (.tmp 25),none⟩,⟨some 27,.load 76 (.tmp 26),none⟩,⟨some 6,.alloc 76,none⟩,⟨none,.store 76 (.tmp 6) (.tmp 27),none⟩]) (.seq (.reg [⟨some 7,.assign (.const (.string ⟨#[]⟩)),none⟩]) (.seq (.reg [⟨some 8,.assign (.const (.int .i64 0)),none⟩]) (.seq (.seq (.reg [⟨some 28,.fieldAddr 76 (.tmp 6) 2,none⟩,⟨some 29,.load 4 (.tmp 28),none⟩]) (.cond (.tmp 29) (.seq (.reg [⟨some 30,.fieldAddr 76 (.tmp 6) 1,none⟩,⟨some 31,.fieldAddr 61 (.tmp 30) 0,none⟩,⟨some 32,.load 9 (.tmp 31),none⟩,⟨some 33,.call ⟨.value (.func 31),#[.tmp 32],#[9]⟩,none⟩,⟨some 9,.assign (.tmp 33),none⟩]) (.seq (.seq (.reg [⟨some 34,.move (.tmp 9),none⟩,⟨some 35,.unOp .not 4 (.tmp 34),none⟩,⟨some 36,.move (.tmp 35),none⟩,⟨some 37,.fieldAddr 76 (.tmp 6) 1,some (some 36,true)⟩,⟨some 38,.fieldAddr 61 (.tmp 37) 0,some (some 36,true)⟩,⟨some 39,.load 9 (.tmp 38),some (some 36,true)⟩,⟨some 40,.call ⟨.value (.func 32),#[.tmp 39],#[9]⟩,some (some 36,true)⟩,⟨some 41,.unOp .not 4 (.tmp 40),some (some 36,true)⟩,⟨some 42,.pick (.tmp 36) (.tmp 41) (.const (.bool false)),none⟩]) (.cond (.tmp 42) (.seq (.reg [⟨some 43,.move (.tmp 5),none⟩,⟨some 44,.call ⟨.value (.func 22),#[.const (.int .i64 8),.tmp 43],#[3,3]⟩,none⟩,⟨none,.store 33 (.tmp 2) (.tmp 44),none⟩]) .ret) .skip)) (.seq (.seq (.reg [⟨some 45,.move (.tmp 9),none⟩,⟨some 46,.unOp .not 4 (.tmp 45),none⟩,⟨some 47,.move (.tmp 46),none⟩,⟨some 48,.fieldAddr 76 (.tmp 6) 1,some (some 47,true)⟩,⟨some 49,.fieldAddr 61 (.tmp 48) 1,some (some 47,true)⟩,⟨some 50,.load 26 (.tmp 49),some (some 47,true)⟩,⟨some 51,.call ⟨.builtin .len,#[.tmp 50],#[26]⟩,some (some 47,true)⟩,⟨some 52,.binOp .gtr 3 (.tmp 51) (.const (.int .i64 0)) 3,some (some 47,true)⟩,⟨some 53,.pick (.tmp 47) (.tmp 52) (.const (.bool false)),none⟩]) (.cond (.tmp 53) (.seq (.reg [⟨some 54,.move (.tmp 5),none⟩,⟨some 55,.call ⟨.value (.func 22),#[.const (.int .i64 9),.tmp 54],#[3,3]⟩,none⟩,⟨none,.store 33 (.tmp 2) (.tmp 55),none⟩]) .ret) .skip)) (.seq (.reg [⟨some 56,.move (.tmp 9),none⟩]) (.cond (.tmp 56) (.seq (.reg [⟨some 57,.fieldAddr 76 (.tmp 6) 1,none⟩,⟨some 58,.fieldAddr 61 (.tmp 57) 0,none⟩,⟨some 59,.load 9 (.tmp 58),none⟩,⟨some 60,.binOp .add 9 (.const (.string ⟨#[102,32]⟩)) (.tmp 59) 9,none⟩,⟨some 7,.assign (.tmp 60),none⟩]) (.reg [⟨some 61,.fieldAddr 76 (.tmp 6) 1,none⟩,⟨some 62,.fieldAddr 61 (.tmp 61) 1,none⟩,⟨some 63,.load 26 (.tmp 62),none⟩,⟨some 64,.call ⟨.builtin .len,#[.tmp 63],#[26]⟩,none⟩,⟨some 8,.assign (.tmp 64),none⟩])) .skip))))) (.seq (.reg [⟨some 65,.fieldAddr 76 (.tmp 6) 0,none⟩,⟨some 66,.fieldAddr 29 (.tmp 65) 0,none⟩,⟨some 67,.load 3 (.tmp 66),none⟩,⟨some 10,.assign (.tmp 67),none⟩]) (.seq (.seq (.reg [⟨some 68,.move (.tmp 10),none⟩,⟨some 69,.binOp .lss 3 (.tmp 68) (.const (.int .i64 1)) 3,none⟩,⟨some 70,.move (.tmp 69),none⟩,⟨some 71,.move (.tmp 10),some (some 70,false)⟩,⟨some 72,.binOp .gtr 3 (.tmp 71) (.const (.int .i64 10)) 3,some (some 70,false)⟩,⟨some 73,.pick (.tmp 70) (.const (.bool true)) (.tmp 72),none⟩]) (.cond (.tmp 73) (.seq (.reg [⟨some 74,.move (.tmp 5),none⟩,⟨some 75,.call ⟨.value (.func 22),#[.const (.int .i64 4),.tmp 74],#[3,3]⟩,none⟩,⟨none,.store 33 (.tmp 2) (.tmp 75),none⟩]) .ret) .skip)) (.seq (.reg [⟨some 76,.buildSlice 58 10 #[(0,.const (.int .i64 (-1))),(1,.const (.int .i64 2)),(2,.const (.int .i64 0)),(3,.const (.int .i64 0)),(4,.const (.int .i64 0)),(5,.const (.int .i64 0)),(6,.const (.int .i64 0)),(7,.const (.int .i64 0)),(8,.const (.int .i64 0)),(9,.const (.int .i64 0))],none⟩,⟨some 77,.move (.tmp 10),none⟩,⟨some 78,.binOp .sub 3 (.tmp 77) (.const (.int .i64 1)) 3,none⟩,⟨some 79,.indexAddr 58 (.tmp 76) (.tmp 78),none⟩,⟨some 80,.load 3 (.tmp 79),none⟩,⟨some 11,.assign (.tmp 80),none⟩]) (.seq (.reg [⟨some 81,.buildSlice 58 10 #[(0,.const (.int .i64 0)),(1,.const (.int .i64 0)),(2,.const (.int .i64 0)),(3,.const (.int .i64 0)),(4,.const (.int .i64 1)),(5,.const (.int .i64 2)),(6,.const (.int .i64 2)),(7,.const (.int .i64 2)),(8,.const (.int .i64 1)),(9,.const (.int .i64 1))],none⟩,⟨some 82,.move (.tmp 10),none⟩,⟨some 83,.binOp .sub 3 (.tmp 82) (.const (.int .i64 1)) 3,none⟩,⟨some 84,.indexAddr 58 (.tmp 81) (.tmp 83),none⟩,⟨some 85,.load 3 (.tmp 84),none⟩,⟨some 12,.assign (.tmp 85),none⟩]) (.seq (.seq (.reg [⟨some 86,.move (.tmp 11),none⟩,⟨some 87,.binOp .geq 3 (.tmp 86) (.const (.int .i64 0)) 3,none⟩,⟨some 88,.move (.tmp 87),none⟩,⟨some 89,.fieldAddr 76 (.tmp 6) 0,some (some 88,true)⟩,⟨some 90,.fieldAddr 29 (.tmp 89) 2,some (some 88,true)⟩,⟨some 91,.load 26 (.tmp 90),some (some 88,true)⟩,⟨some 92,.call ⟨.builtin .len,#[.tmp 91],#[26]⟩,some (some 88,true)⟩,⟨some 93,.move (.tmp 11),some (some 88,true)⟩,⟨some 94,.binOp .neq 3 (.tmp 92) (.tmp 93) 3,some (some 88,true)⟩,⟨some 95,.pick (.tmp 88) (.tmp 94) (.const (.bool false)),none⟩,⟨some 96,.move (.tmp 95),none⟩,⟨some 97,.fieldAddr 76 (.tmp 6) 0,some (some 96,false)⟩,⟨some 98,.fieldAddr 29 (.tmp 97) 3,some (some 96,false)⟩,⟨some 99,.load 27 (.tmp 98),some (some 96,false)⟩,⟨some 100,.call ⟨.builtin .len,#[.tmp 99],#[27]⟩,some (some 96,false)⟩,⟨some 101,.move (.tmp 12),some (some 96,false)⟩,⟨some 102,.binOp .neq 3 (.tmp 100) (.tmp 101) 3,some (some 96,false)⟩,⟨some 103,.pick (.tmp 96) (.const (.bool true)) (.tmp 102),none⟩]) (.cond (.tmp 103) (.seq (.reg [⟨some 104,.move (.tmp 5),none⟩,⟨some 105,.call ⟨.value (.func 22),#[.const (.int .i64 9),.tmp 104],#[3,3]⟩,none⟩,⟨none,.store 33 (.tmp 2) (.tmp 105),none⟩]) .ret) .skip)) (.seq (.seq (.reg [⟨some 106,.move (.tmp 10),none⟩,⟨some 107,.binOp .eql 3 (.tmp 106) (.const (.int .i64 1)) 3,none⟩,⟨some 108,.move (.tmp 107),none⟩,⟨some 109,.fieldAddr 76 (.tmp 6) 0,some (some 108,true)⟩,⟨some 110,.fieldAddr 29 (.tmp 109) 1,some (some 108,true)⟩,⟨some 111,.load 9 (.tmp 110),some (some 108,true)⟩,⟨some 112,.call ⟨.value (.func 31),#[.tmp 111],#[9]⟩,some (some 108,true)⟩,⟨some 113,.unOp .not 4 (.tmp 112),some (some 108,true)⟩,⟨some 114,.pick (.tmp 108) (.tmp 113) (.const (.bool false)),none⟩,⟨some 115,.move (.tmp 114),none⟩,⟨some 116,.move (.tmp 10),some (some 115,false)⟩,⟨some 117,.binOp .gtr 3 (.tmp 116) (.const (.int .i64 8)) 3,some (some 115,false)⟩,⟨some 118,.move (.tmp 117),some (some 115,false)⟩,⟨some 119,.fieldAddr 76 (.tmp 6) 0,some (some 118,true)⟩,⟨some 120,.fieldAddr 29 (.tmp 119) 1,some (some 118,true)⟩,⟨some 121,.load 9 (.tmp 120),some (some 118,true)⟩,⟨some 122,.call ⟨.value (.func 32),#[.tmp 121],#[9]⟩,some (some 118,true)⟩,⟨some 123,.unOp .not 4 (.tmp 122),some (some 118,true)⟩,⟨some 124,.pick (.tmp 118) (.tmp 123) (.const (.bool false)),some (some 115,false)⟩,⟨some 125,.pick (.tmp 115) (.const (.bool true)) (.tmp 124),none⟩,⟨some 126,.move (.tmp 125),none⟩,⟨some 127,.move (.tmp 10),some (some 126,false)⟩,⟨some 128,.binOp .gtr 3 (.tmp 127) (.const (.int .i64 1)) 3,some (some 126,false)⟩,⟨some 129,.move (.tmp 128),some (some 126,false)⟩,⟨some 130,.move (.tmp 10),some (some 129,true)⟩,⟨some 131,.binOp .lss 3 (.tmp 130) (.const (.int .i64 9)) 3,some (some 129,true)⟩,⟨some 132,.pick (.tmp 129) (.tmp 131) (.const (.bool false)),some (some 126,false)⟩,⟨some 133,.move (.tmp 132),some (some 126,false)⟩,⟨some 134,.fieldAddr 76 (.tmp 6) 0,some (some 133,true)⟩,⟨some 135,.fieldAddr 29 (.tmp 134) 1,some (some 133,true)⟩,⟨some 136,.load 9 (.tmp 135),some (some 133,true)⟩,⟨some 137,.binOp .neq 9 (.tmp 136) (.const (.string ⟨#[]⟩)) 9,some (some 133,true)⟩,⟨some 138,.pick (.tmp 133) (.tmp 137) (.const (.bool false)),some (some 126,false)⟩,⟨some 139,.pick (.tmp 126) (.const (.bool true)) (.tmp 138),none⟩]) (.cond (.tmp 139) (.seq (.reg [⟨some 140,.move (.tmp 5),none⟩,⟨some 141,.call ⟨.value (.func 22),#[.const (.int .i64 8),.tmp 140],#[3,3]⟩,none⟩,⟨none,.store 33 (.tmp 2) (.tmp 141),none⟩]) .ret) .skip)) (.seq (.reg [⟨some 142,.move (.tmp 10),none⟩,⟨some 143,.binOp .eql 3 (.tmp 142) (.const (.int .i64 1)) 3,none⟩]) (.cond (.tmp 143) (.seq (.reg [⟨some 144,.fieldAddr 76 (.tmp 6) 0,none⟩,⟨some 145,.fieldAddr 29 (.tmp 144) 1,none⟩,⟨some 146,.load 9 (.tmp 145),none⟩,⟨some 147,.binOp .add 9 (.const (.string ⟨#[112,32]⟩)) (.tmp 146) 9,none⟩,⟨some 7,.assign (.tmp 147),none⟩]) (.reg [⟨some 148,.fieldAddr 76 (.tmp 6) 0,none⟩,⟨some 149,.fieldAddr 29 (.tmp 148) 2,none⟩,⟨some 150,.load 26 (.tmp 149),none⟩,⟨some 151,.call ⟨.builtin .len,#[.tmp 150],#[26]⟩,none⟩,⟨some 8,.assign (.tmp 151),none⟩])) .skip)))))))))) (.seq (.seq (.reg [⟨some 152,.move (.tmp 7),none⟩,⟨some 153,.binOp .eql 9 (.tmp 152) (.const (.string ⟨#[]⟩)) 9,none⟩]) (.cond (.tmp 153) (.exit 1) .skip)) (.seq (.reg [⟨some 13,.assign (.const (.int .i64 (-1))),none⟩]) (.seq (.seq (.reg [⟨some 14,.assign (.const (.int .i64 0)),none⟩]) (.bloop 2 x18_L2)) (x18_T2)))))))))) (.reg [⟨some 19,.move (.tmp 5),none⟩,⟨some 20,.binOp .add 3 (.tmp 19) (.const (.int .i64 1)) 3,none⟩,⟨some 5,.assign (.tmp 20),none⟩]))
def x18 : XC:=.seq (.reg [⟨some 2,.alloc 33,none⟩]) (.seq (.reg [⟨some 3,.assign (.const (.slice none 0 0)),none⟩]) (.seq (.reg [⟨some 4,.assign (.const (.slice none 0 0)),none⟩]) (.seq (.seq (.reg [⟨some 5,.assign (.const (.int .i64 0)),none⟩]) (.bloop 0 x18_L0)) (x18_T3))))
@[simp] theorem x18_s {C e s K} : type_of% (@X_at C e s K _ _ x18_T3.eq_1) ∧ type_of% (@X_at C e s K _ _ x18_T2.eq_1) ∧ type_of% (@X_at C e s K _ _ x18_L2.eq_1) ∧ type_of% (@X_at C e s K _ _ x18_L0.eq_1) ∧ type_of% (@X_at C e s K _ _ x18.eq_1):=⟨X_at x18_T3.eq_1,X_at x18_T2.eq_1,X_at x18_L2.eq_1,X_at x18_L0.eq_1,X_at x18.eq_1⟩
def an18 : Ann:=⟨[],[(2,[],[0,2,3,4,5,7,8,13,14],[0,2,3,4,5,7,8,13]),(0,[(3,none,1),(4,none,1)],[0,2,3,4,5],[2])],[]⟩
@[simp] theorem an18_a : an18.loopOf 2 = ([],[0,2,3,4,5,7,8,13,14],[0,2,3,4,5,7,8,13]) ∧ an18.loopOf 0 = ([(3,none,1),(4,none,1)],[0,2,3,4,5],[2]):=⟨rfl,rfl⟩
theorem fi18 : FI Try.prog 18 (cxA an18) x18 [.cell 2 33] Try.f18:=fiA Try.func18 mixed
theorem faultOf_ref (l : List Nd) (hl : l.length ≤ 1000000) (hsz : ∀ x ∈ l,∀ b nm c,chkN x = .ok (some (b,nm,c)) → nm.size ≤ 8) : CallOK Try.prog 18 [.list (l.map ndr)] [] (.agg [.int .i64 (refF l 0 []).1,.int .i64 (refF l 0 []).2]) []:=by
 refine fi18.op ?_
 obtain ⟨R,hR⟩ : ∃ R,refF l 0 [] = R:=⟨_,rfl⟩
 rw [hR]
 (refine Sg.h ?_;try repeat' ((with_reducible first|refine brA ?_|refine brE fun _=>?_|refine spl ⟨?_,?_⟩<;>intro _)<;>((try simp -implicitDefEqProofs);(try simp -implicitDefEqProofs(disch:=first|assumption|(try simp only[lens]);omega -splitDisjunctions)))))
 refine W_of fun Q hQ=>?_
 have main : ∀ n i A,i + n = l.length → A.length ≤ i → refF (l.drop i) i A = R → Q [(0,.list (l.map ndr)),(2,.ptr 0 0 0),(3,.sl 1 0 A.length),(4,.sl 2 0 A.length),(5,.int .i64 (i : Int))] [.rows 2 [[.int .i64 0,.int .i64 0]],.rows 1 (A.map nmR),.rows 1 (A.map cnR)]:=by
  intro n
  induction n with
  | zero=>
   intro i A hi hA hR
   rw [List.drop_of_length_le (by omega),refF] at hR
   subst hR
   apply hQ
   clear hQ
   (refine Sg.h ?_;try repeat' ((with_reducible first|refine brA ?_|refine brE fun _=>?_|refine spl ⟨?_,?_⟩<;>intro _)<;>((try simp -implicitDefEqProofs);(try simp -implicitDefEqProofs(disch:=first|assumption|(try simp only[lens]);omega -splitDisjunctions)))))
  | succ n ihn=>
   intro i A hi hA hR
   have hil : i < l.length:=by omega
   rw [List.drop_eq_getElem_cons hil,refF] at hR
   by_cases h200 : i = 200
   ·rw [if_pos h200] at hR
    subst hR
    have f2:=F_ref 2 0
    have h200' : (i : Int) = 200:=by omega
    apply hQ
    clear hQ ihn
    (refine Sg.h ?_;try repeat' ((first|(with_reducible first|refine brA ?_|refine brE fun _=>?_|refine spl ⟨?_,?_⟩<;>intro _)|refine clo f2 ?_)<;>((try simp -implicitDefEqProofs [hil,h200']);(try simp -implicitDefEqProofs(disch:=first|assumption|(try simp only[lens]);omega -splitDisjunctions) [hil,h200']))))
   rw [if_neg h200] at hR
   have h200' : ¬ (i : Int) = 200:=by omega
   have hsx:=hsz _ (List.getElem_mem hil)
   have fc:=fun c=>F_ref c i
   have ih1:=fun A' h=>ihn (i + 1) A' (by omega) h
   clear ihn hsz
   -- the names had so far
   have inner : ∀ (key : ByteArray) (c : Nat),(if lastIx key A 0 (-1) < 0 then refF (l.drop (i + 1)) (i + 1) (A ++ [(key,(c : Int))])
     else if (A[(lastIx key A 0 (-1)).toNat]?.map (·.2)).getD 0 = (c : Int) then refF (l.drop (i + 1)) (i + 1) A else (5,(i : Int))) = R →
     W (cxA an18 Try.prog 0) 2 x18_L2 (KS.seq x18_T2 (KS.block 1 (KS.seq (XC.reg [{ d:=some 19,op:=Op.move (Operand.tmp 5),g:=none },{ d:=some 20,op:=Op.binOp BinOp.add 3 (Operand.tmp 19) (Operand.const (Value.int IntKind.i64 1)) 3,g:=none },{ d:=some 5,op:=Op.assign (Operand.tmp 20),g:=none }]) (KS.round 0 Q (KS.block 0 (KS.seq x18_T3 (KS.fin [ResultVar.cell 2 33] fun v1 s1=>deref s1 6 v1 = PV.agg [PV.int IntKind.i64 R.1,PV.int IntKind.i64 R.2])))))))
     [(0,.list (l.map ndr)),(2,.ptr 0 0 0),(3,.sl 1 0 A.length),(4,.sl 2 0 A.length),(5,.int .i64 (i : Int)),(7,.str key),(8,.int .i64 (c : Int)),(13,.int .i64 (-1)),(14,.int .i64 0)] [.rows 2 [[.int .i64 0,.int .i64 0]],.rows 1 (A.map nmR),.rows 1 (A.map cnR)]:=by
    intro key c hR
    refine W_of fun Q2 hQ2=>?_
    have main2 : ∀ n j at0,j + n = A.length → lastIx key (A.drop j) j at0 = lastIx key A 0 (-1) → Q2 [(0,.list (l.map ndr)),(2,.ptr 0 0 0),(3,.sl 1 0 A.length),(4,.sl 2 0 A.length),(5,.int .i64 (i : Int)),(7,.str key),(8,.int .i64 (c : Int)),(13,.int .i64 at0),(14,.int .i64 (j : Int))] [.rows 2 [[.int .i64 0,.int .i64 0]],.rows 1 (A.map nmR),.rows 1 (A.map cnR)]:=by
     intro n
     induction n with
     | zero=>
      intro j at0 hj he
      rw [List.drop_of_length_le (by omega),lastIx] at he
      have hlt:=lastIx_lt key A 0 (-1) (by decide)
      rw [← he] at hR hlt
      clear he
      obtain rfl : j = A.length:=by omega
      by_cases h0 : at0 < 0
      ·rw [if_pos h0] at hR
       have ih2:=ih1 _ (by simp;omega) hR
       have ha1 : (A.length + 1) * 16 ≤ 140737488355328:=by omega
       apply hQ2
       clear hQ2 hQ
       (refine Sg.h ?_;try repeat' ((with_reducible first|refine brA ?_|refine brE fun _=>?_|refine spl ⟨?_,?_⟩<;>intro _)<;>((try simp -implicitDefEqProofs [h0]);(try simp -implicitDefEqProofs(disch:=first|assumption|(try simp only[lens]);omega -splitDisjunctions) [h0]))))
       refine at2 ih2 ?_ ?_ <;> simp [nmR_eq,cnR_eq]
      ·rw [if_neg h0] at hR
       obtain ⟨a,rfl⟩ : ∃ a : Nat,at0 = (a : Int):=⟨at0.toNat,by omega⟩
       have hal : a < A.length:=by omega
       rw [Int.toNat_natCast,List.getElem?_eq_getElem hal] at hR
       simp only [Option.map_some,Option.getD_some] at hR
       have hk2 : cnR A[a] = [.int .i64 A[a].2]:=rfl
       have h00 : ¬ (a : Int) < 0:=by omega
       by_cases hc : A[a].2 = (c : Int)
       ·rw [if_pos hc] at hR
        have ih2:=ih1 _ (by omega) hR
        apply hQ2
        clear hQ2 hQ
        (refine Sg.h ?_;try repeat' ((with_reducible first|refine brA ?_|refine brE fun _=>?_|refine spl ⟨?_,?_⟩<;>intro _)<;>((try simp -implicitDefEqProofs [h00,hal,hk2,hc]);(try simp -implicitDefEqProofs(disch:=first|assumption|(try simp only[lens]);omega -splitDisjunctions) [h00,hal,hk2,hc]))))
        all_goals first|exact ih2|(refine at2 ih2 ?_ ?_<;>simp;done)|(exfalso;first|omega|(simp_all;done)|(simp_all;omega))
       ·rw [if_neg hc] at hR
        subst hR
        have f5:=fc 5
        apply hQ2
        clear hQ2 hQ ih1
        (refine Sg.h ?_;try repeat' ((first|(with_reducible first|refine brA ?_|refine brE fun _=>?_|refine spl ⟨?_,?_⟩<;>intro _)|refine clo f5 ?_)<;>((try simp -implicitDefEqProofs [h00,hal,hk2,hc]);(try simp -implicitDefEqProofs(disch:=first|assumption|(try simp only[lens]);omega -splitDisjunctions) [h00,hal,hk2,hc]))))
     | succ n ihn=>
      intro j at0 hj he
      have hjl : j < A.length:=by omega
      rw [List.drop_eq_getElem_cons hjl,lastIx] at he
      by_cases hk : A[j].1 = key
      ·rw [if_pos hk] at he
       have ihn:=ihn (j + 1) _ (by omega) he
       have hk2 : nmR A[j] = [.str key]:=by rw [nmR,hk]
       apply hQ2
       clear hQ2 hQ ih1
       (refine Sg.h ?_;try repeat' ((with_reducible first|refine brA ?_|refine brE fun _=>?_|refine spl ⟨?_,?_⟩<;>intro _)<;>((try simp -implicitDefEqProofs [hjl,hk2]);(try simp -implicitDefEqProofs(disch:=first|assumption|(try simp only[lens]);omega -splitDisjunctions) [hjl,hk2]))))
       all_goals first|exact ihn|(refine at2 ihn ?_ ?_<;>simp;done)|(exfalso;first|omega|(simp_all;done)|(simp_all;omega))
      ·rw [if_neg hk] at he
       have ihn:=ihn (j + 1) _ (by omega) he
       have hk2 : nmR A[j] = [.str A[j].1]:=rfl
       apply hQ2
       clear hQ2 hQ ih1
       (refine Sg.h ?_;try repeat' ((with_reducible first|refine brA ?_|refine brE fun _=>?_|refine spl ⟨?_,?_⟩<;>intro _)<;>((try simp -implicitDefEqProofs [hjl,hk2,hk]);(try simp -implicitDefEqProofs(disch:=first|assumption|(try simp only[lens]);omega -splitDisjunctions) [hjl,hk2,hk]))))
       all_goals first|exact ihn|(refine at2 ihn ?_ ?_<;>simp;done)|(exfalso;first|omega|(simp_all;done)|(simp_all;omega))
    exact main2 A.length 0 (-1) (Nat.zero_add _) rfl
   have ihK:=fun h=>ih1 A (by omega) h
   clear ih1
   cases hx : l[i] with
   | w x=>
    rw [hx] at hR hsx
    have hnd:=ndr_w x
    rw [← hx] at hnd
    simp only [chkN] at hR hsx
    unfold chkW at hR hsx
    have h1:=IsBig_ref x.nm
    have h2:=IsName_ref x.nm
    cases hb : isBigB x.nm with
    | true=>
     rw [hb] at h1 hR hsx
     have hs8:=hsx true x.nm x.args.length rfl
     rw [if_pos rfl] at hR
     have inner:=inner (encR true x.nm) x.args.length hR
     have hne:=encR_ne true x.nm
     unfold encR at inner hne
     rw [if_pos rfl] at inner hne
     have hs9 : 2 + x.nm.size ≤ 9223372036854775807:=by omega
     clear hR ihK
     apply hQ
     clear hQ
     (refine Sg.h ?_;try repeat' ((first|(with_reducible first|refine brA ?_|refine brE fun _=>?_|refine spl ⟨?_,?_⟩<;>intro _)|refine clo h1 ?_)<;>((try simp -implicitDefEqProofs [hil,h200',hnd,hne]);(try simp -implicitDefEqProofs(disch:=first|assumption|(try simp only[lens]);omega -splitDisjunctions) [hil,h200',hnd,hne]))))
     all_goals first|exact inner|(refine at2 inner ?_ ?_<;>simp;done)|(exfalso;first|omega|(simp_all;done)|(simp_all;omega))
    | false=>
     rw [hb] at h1 hR
     clear inner hsx
     rw [if_neg (by decide)] at hR
     cases hn : isNameB x.nm with
     | false=>
      rw [hn] at h2 hR
      rw [if_neg (by decide)] at hR
      subst hR
      have f8:=fc 8
      clear ihK
      apply hQ
      clear hQ
      (refine Sg.h ?_;try repeat' ((first|(with_reducible first|refine brA ?_|refine brE fun _=>?_|refine spl ⟨?_,?_⟩<;>intro _)|refine clo h1 ?_|refine clo h2 ?_|refine clo f8 ?_)<;>((try simp -implicitDefEqProofs [hil,h200',hnd]);(try simp -implicitDefEqProofs(disch:=first|assumption|(try simp only[lens]);omega -splitDisjunctions) [hil,h200',hnd]))))
     | true=>
      rw [hn] at h2 hR
      rw [if_pos rfl] at hR
      by_cases hc : 0 < x.args.length
      ·rw [if_pos hc] at hR
       subst hR
       have f9:=fc 9
       have hc' : (0 : Int) < (x.args.length : Int):=by omega
       clear ihK
       apply hQ
       clear hQ
       (refine Sg.h ?_;try repeat' ((first|(with_reducible first|refine brA ?_|refine brE fun _=>?_|refine spl ⟨?_,?_⟩<;>intro _)|refine clo h1 ?_|refine clo h2 ?_|refine clo f9 ?_)<;>((try simp -implicitDefEqProofs [hil,h200',hnd,hc']);(try simp -implicitDefEqProofs(disch:=first|assumption|(try simp only[lens]);omega -splitDisjunctions) [hil,h200',hnd,hc']))))
      ·rw [if_neg hc] at hR
       have ihK:=ihK hR
       have hc' : ¬ (0 : Int) < (x.args.length : Int):=by omega
       apply hQ
       clear hQ
       (refine Sg.h ?_;try repeat' ((first|(with_reducible first|refine brA ?_|refine brE fun _=>?_|refine spl ⟨?_,?_⟩<;>intro _)|refine clo h1 ?_|refine clo h2 ?_)<;>((try simp -implicitDefEqProofs [hil,h200',hnd,hc']);(try simp -implicitDefEqProofs(disch:=first|assumption|(try simp only[lens]);omega -splitDisjunctions) [hil,h200',hnd,hc']))))
       all_goals first|exact ihK|(refine at2 ihK ?_ ?_<;>simp;done)|(exfalso;first|omega|(simp_all;done)|(simp_all;omega))
   | e x=>
    rw [hx] at hR hsx
    have hnd:=ndr_e x
    rw [← hx] at hnd
    simp only [chkN] at hR hsx
    unfold chkX at hR hsx
    have h1:=IsBig_ref x.nm
    have h2:=IsName_ref x.nm
    generalize hK : x.k = K at *
    by_cases hk : K < 1 ∨ 10 < K
    ·rw [if_pos hk] at hR
     subst hR
     have f4:=fc 4
     clear ihK inner hsx
     apply hQ
     clear hQ
     rcases hk with hk | hk
     ·(refine Sg.h ?_;try repeat' ((first|(with_reducible first|refine brA ?_|refine brE fun _=>?_|refine spl ⟨?_,?_⟩<;>intro _)|refine clo f4 ?_)<;>((try simp -implicitDefEqProofs [hil,h200',hnd,hk]);(try simp -implicitDefEqProofs(disch:=first|assumption|(try simp only[lens]);omega -splitDisjunctions) [hil,h200',hnd,hk]))))
     ·have hk' : ¬ K < 1 := by omega
      (refine Sg.h ?_;try repeat' ((first|(with_reducible first|refine brA ?_|refine brE fun _=>?_|refine spl ⟨?_,?_⟩<;>intro _)|refine clo f4 ?_)<;>((try simp -implicitDefEqProofs [hil,h200',hnd,hk,hk']);(try simp -implicitDefEqProofs(disch:=first|assumption|(try simp only[lens]);omega -splitDisjunctions) [hil,h200',hnd,hk,hk']))))
    rw [if_neg hk] at hR hsx
    have hk1 : ¬ K < 1:=by omega
    have hk2 : ¬ 10 < K:=by omega
    have hKs : K = 1 ∨ K = 2 ∨ K = 3 ∨ K = 4 ∨ K = 5 ∨ K = 6 ∨ K = 7 ∨ K = 8 ∨ K = 9 ∨ K = 10:=by omega
    clear hk hk1 hk2
    rcases hKs with rfl | rfl | rfl | rfl | rfl | rfl | rfl | rfl | rfl | rfl
    ·rw [show wordsN 1 = (-1) from rfl,show kidsX 1 = 0 from rfl] at hR hsx
     have f9:=fc 9
     have f8:=fc 8
     by_cases hkc : (x.kids.length : Int) = 0
     ·rw [if_neg (by simp [hkc])] at hR hsx
      rw [if_pos rfl] at hR hsx
      cases hb : isBigB x.nm with
      | true=>
       rw [hb] at h1 hR hsx
       have hs8:=hsx false x.nm x.words.length rfl
       rw [if_pos rfl] at hR
       have inner:=inner (encR false x.nm) x.words.length hR
       have hne:=encR_ne false x.nm
       unfold encR at inner hne
       rw [if_neg (by decide)] at inner hne
       have hs9 : 2 + x.nm.size ≤ 9223372036854775807:=by omega
       clear hR ihK
       apply hQ
       clear hQ
       (refine Sg.h ?_;try repeat' ((first|(with_reducible first|refine brA ?_|refine brE fun _=>?_|refine spl ⟨?_,?_⟩<;>intro _)|refine clo h1 ?_)<;>((try simp -implicitDefEqProofs [hil,h200',hnd,hkc,hne]);(try simp -implicitDefEqProofs(disch:=first|assumption|(try simp only[lens]);omega -splitDisjunctions) [hil,h200',hnd,hkc,hne]))))
       all_goals first|exact inner|(refine at2 inner ?_ ?_<;>simp;done)|(exfalso;first|omega|(simp_all;done)|(simp_all;omega))
      | false=>
       rw [hb] at h1 hR
       rw [if_neg (by decide)] at hR
       subst hR
       clear ihK inner hsx
       apply hQ
       clear hQ
       (refine Sg.h ?_;try repeat' ((first|(with_reducible first|refine brA ?_|refine brE fun _=>?_|refine spl ⟨?_,?_⟩<;>intro _)|refine clo h1 ?_|refine clo f8 ?_)<;>((try simp -implicitDefEqProofs [hil,h200',hnd,hkc]);(try simp -implicitDefEqProofs(disch:=first|assumption|(try simp only[lens]);omega -splitDisjunctions) [hil,h200',hnd,hkc]))))
     ·rw [if_pos (.inr hkc)] at hR
      subst hR
      clear ihK inner hsx
      apply hQ
      clear hQ
      have hk0 : ¬ x.kids = []:=fun h=>hkc (by simp [h])
      (refine Sg.h ?_;try repeat' ((first|(with_reducible first|refine brA ?_|refine brE fun _=>?_|refine spl ⟨?_,?_⟩<;>intro _)|refine clo f9 ?_)<;>((try simp -implicitDefEqProofs [hil,h200',hnd,hk0]);(try simp -implicitDefEqProofs(disch:=first|assumption|(try simp only[lens]);omega -splitDisjunctions) [hil,h200',hnd,hk0]))))
    ·rw [show wordsN 2 = 2 from rfl,show kidsX 2 = 0 from rfl] at hR hsx
     have f9:=fc 9
     have f8:=fc 8
     by_cases hkc : (x.kids.length : Int) = 0
     ·by_cases hwc : (x.words.length : Int) = 2
      ·rw [if_neg (by simp [hwc,hkc])] at hR hsx
       clear inner hsx
       rw [if_neg (by decide)] at hR
       rw [if_neg (by decide)] at hR
       by_cases hn : x.nm = ⟨#[]⟩
       ·rw [if_pos hn] at hR
        have ihK:=ihK hR
        apply hQ
        clear hQ
        (refine Sg.h ?_;try repeat' ((with_reducible first|refine brA ?_|refine brE fun _=>?_|refine spl ⟨?_,?_⟩<;>intro _)<;>((try simp -implicitDefEqProofs [hil,h200',hnd,hwc,hkc,hn]);(try simp -implicitDefEqProofs(disch:=first|assumption|(try simp only[lens]);omega -splitDisjunctions) [hil,h200',hnd,hwc,hkc,hn]))))
        all_goals first|exact ihK|(refine at2 ihK ?_ ?_<;>simp;done)|(exfalso;first|omega|(simp_all;done)|(simp_all;omega))
       ·rw [if_neg hn] at hR
        subst hR
        clear ihK
        apply hQ
        clear hQ
        (refine Sg.h ?_;try repeat' ((first|(with_reducible first|refine brA ?_|refine brE fun _=>?_|refine spl ⟨?_,?_⟩<;>intro _)|refine clo f8 ?_)<;>((try simp -implicitDefEqProofs [hil,h200',hnd,hwc,hkc,hn]);(try simp -implicitDefEqProofs(disch:=first|assumption|(try simp only[lens]);omega -splitDisjunctions) [hil,h200',hnd,hwc,hkc,hn]))))
      ·rw [if_pos (.inl ⟨by decide,hwc⟩)] at hR
       subst hR
       clear ihK inner hsx
       apply hQ
       clear hQ
       (refine Sg.h ?_;try repeat' ((first|(with_reducible first|refine brA ?_|refine brE fun _=>?_|refine spl ⟨?_,?_⟩<;>intro _)|refine clo f9 ?_)<;>((try simp -implicitDefEqProofs [hil,h200',hnd,hwc]);(try simp -implicitDefEqProofs(disch:=first|assumption|(try simp only[lens]);omega -splitDisjunctions) [hil,h200',hnd,hwc]))))
     ·rw [if_pos (.inr hkc)] at hR
      subst hR
      clear ihK inner hsx
      apply hQ
      clear hQ
      have hk0 : ¬ x.kids = []:=fun h=>hkc (by simp [h])
      (refine Sg.h ?_;try repeat' ((first|(with_reducible first|refine brA ?_|refine brE fun _=>?_|refine spl ⟨?_,?_⟩<;>intro _)|refine clo f9 ?_)<;>((try simp -implicitDefEqProofs [hil,h200',hnd,hk0]);(try simp -implicitDefEqProofs(disch:=first|assumption|(try simp only[lens]);omega -splitDisjunctions) [hil,h200',hnd,hk0]))))
    ·rw [show wordsN 3 = 0 from rfl,show kidsX 3 = 0 from rfl] at hR hsx
     have f9:=fc 9
     have f8:=fc 8
     by_cases hkc : (x.kids.length : Int) = 0
     ·by_cases hwc : (x.words.length : Int) = 0
      ·rw [if_neg (by simp [hwc,hkc])] at hR hsx
       clear inner hsx
       rw [if_neg (by decide)] at hR
       rw [if_neg (by decide)] at hR
       by_cases hn : x.nm = ⟨#[]⟩
       ·rw [if_pos hn] at hR
        have ihK:=ihK hR
        apply hQ
        clear hQ
        (refine Sg.h ?_;try repeat' ((with_reducible first|refine brA ?_|refine brE fun _=>?_|refine spl ⟨?_,?_⟩<;>intro _)<;>((try simp -implicitDefEqProofs [hil,h200',hnd,hwc,hkc,hn]);(try simp -implicitDefEqProofs(disch:=first|assumption|(try simp only[lens]);omega -splitDisjunctions) [hil,h200',hnd,hwc,hkc,hn]))))
        all_goals first|exact ihK|(refine at2 ihK ?_ ?_<;>simp;done)|(exfalso;first|omega|(simp_all;done)|(simp_all;omega))
       ·rw [if_neg hn] at hR
        subst hR
        clear ihK
        apply hQ
        clear hQ
        (refine Sg.h ?_;try repeat' ((first|(with_reducible first|refine brA ?_|refine brE fun _=>?_|refine spl ⟨?_,?_⟩<;>intro _)|refine clo f8 ?_)<;>((try simp -implicitDefEqProofs [hil,h200',hnd,hwc,hkc,hn]);(try simp -implicitDefEqProofs(disch:=first|assumption|(try simp only[lens]);omega -splitDisjunctions) [hil,h200',hnd,hwc,hkc,hn]))))
      ·rw [if_pos (.inl ⟨by decide,hwc⟩)] at hR
       subst hR
       clear ihK inner hsx
       apply hQ
       clear hQ
       have hw0 : ¬ x.words = []:=fun h=>hwc (by simp [h])
       (refine Sg.h ?_;try repeat' ((first|(with_reducible first|refine brA ?_|refine brE fun _=>?_|refine spl ⟨?_,?_⟩<;>intro _)|refine clo f9 ?_)<;>((try simp -implicitDefEqProofs [hil,h200',hnd,hw0]);(try simp -implicitDefEqProofs(disch:=first|assumption|(try simp only[lens]);omega -splitDisjunctions) [hil,h200',hnd,hw0]))))
     ·rw [if_pos (.inr hkc)] at hR
      subst hR
      clear ihK inner hsx
      apply hQ
      clear hQ
      have hk0 : ¬ x.kids = []:=fun h=>hkc (by simp [h])
      (refine Sg.h ?_;try repeat' ((first|(with_reducible first|refine brA ?_|refine brE fun _=>?_|refine spl ⟨?_,?_⟩<;>intro _)|refine clo f9 ?_)<;>((try simp -implicitDefEqProofs [hil,h200',hnd,hk0]);(try simp -implicitDefEqProofs(disch:=first|assumption|(try simp only[lens]);omega -splitDisjunctions) [hil,h200',hnd,hk0]))))
    ·rw [show wordsN 4 = 0 from rfl,show kidsX 4 = 0 from rfl] at hR hsx
     have f9:=fc 9
     have f8:=fc 8
     by_cases hkc : (x.kids.length : Int) = 0
     ·by_cases hwc : (x.words.length : Int) = 0
      ·rw [if_neg (by simp [hwc,hkc])] at hR hsx
       clear inner hsx
       rw [if_neg (by decide)] at hR
       rw [if_neg (by decide)] at hR
       by_cases hn : x.nm = ⟨#[]⟩
       ·rw [if_pos hn] at hR
        have ihK:=ihK hR
        apply hQ
        clear hQ
        (refine Sg.h ?_;try repeat' ((with_reducible first|refine brA ?_|refine brE fun _=>?_|refine spl ⟨?_,?_⟩<;>intro _)<;>((try simp -implicitDefEqProofs [hil,h200',hnd,hwc,hkc,hn]);(try simp -implicitDefEqProofs(disch:=first|assumption|(try simp only[lens]);omega -splitDisjunctions) [hil,h200',hnd,hwc,hkc,hn]))))
        all_goals first|exact ihK|(refine at2 ihK ?_ ?_<;>simp;done)|(exfalso;first|omega|(simp_all;done)|(simp_all;omega))
       ·rw [if_neg hn] at hR
        subst hR
        clear ihK
        apply hQ
        clear hQ
        (refine Sg.h ?_;try repeat' ((first|(with_reducible first|refine brA ?_|refine brE fun _=>?_|refine spl ⟨?_,?_⟩<;>intro _)|refine clo f8 ?_)<;>((try simp -implicitDefEqProofs [hil,h200',hnd,hwc,hkc,hn]);(try simp -implicitDefEqProofs(disch:=first|assumption|(try simp only[lens]);omega -splitDisjunctions) [hil,h200',hnd,hwc,hkc,hn]))))
      ·rw [if_pos (.inl ⟨by decide,hwc⟩)] at hR
       subst hR
       clear ihK inner hsx
       apply hQ
       clear hQ
       have hw0 : ¬ x.words = []:=fun h=>hwc (by simp [h])
       (refine Sg.h ?_;try repeat' ((first|(with_reducible first|refine brA ?_|refine brE fun _=>?_|refine spl ⟨?_,?_⟩<;>intro _)|refine clo f9 ?_)<;>((try simp -implicitDefEqProofs [hil,h200',hnd,hw0]);(try simp -implicitDefEqProofs(disch:=first|assumption|(try simp only[lens]);omega -splitDisjunctions) [hil,h200',hnd,hw0]))))
     ·rw [if_pos (.inr hkc)] at hR
      subst hR
      clear ihK inner hsx
      apply hQ
      clear hQ
      have hk0 : ¬ x.kids = []:=fun h=>hkc (by simp [h])
      (refine Sg.h ?_;try repeat' ((first|(with_reducible first|refine brA ?_|refine brE fun _=>?_|refine spl ⟨?_,?_⟩<;>intro _)|refine clo f9 ?_)<;>((try simp -implicitDefEqProofs [hil,h200',hnd,hk0]);(try simp -implicitDefEqProofs(disch:=first|assumption|(try simp only[lens]);omega -splitDisjunctions) [hil,h200',hnd,hk0]))))
    ·rw [show wordsN 5 = 0 from rfl,show kidsX 5 = 1 from rfl] at hR hsx
     have f9:=fc 9
     have f8:=fc 8
     by_cases hkc : (x.kids.length : Int) = 1
     ·by_cases hwc : (x.words.length : Int) = 0
      ·rw [if_neg (by simp [hwc,hkc])] at hR hsx
       clear inner hsx
       rw [if_neg (by decide)] at hR
       rw [if_neg (by decide)] at hR
       by_cases hn : x.nm = ⟨#[]⟩
       ·rw [if_pos hn] at hR
        have ihK:=ihK hR
        apply hQ
        clear hQ
        (refine Sg.h ?_;try repeat' ((with_reducible first|refine brA ?_|refine brE fun _=>?_|refine spl ⟨?_,?_⟩<;>intro _)<;>((try simp -implicitDefEqProofs [hil,h200',hnd,hwc,hkc,hn]);(try simp -implicitDefEqProofs(disch:=first|assumption|(try simp only[lens]);omega -splitDisjunctions) [hil,h200',hnd,hwc,hkc,hn]))))
        all_goals first|exact ihK|(refine at2 ihK ?_ ?_<;>simp;done)|(exfalso;first|omega|(simp_all;done)|(simp_all;omega))
       ·rw [if_neg hn] at hR
        subst hR
        clear ihK
        apply hQ
        clear hQ
        (refine Sg.h ?_;try repeat' ((first|(with_reducible first|refine brA ?_|refine brE fun _=>?_|refine spl ⟨?_,?_⟩<;>intro _)|refine clo f8 ?_)<;>((try simp -implicitDefEqProofs [hil,h200',hnd,hwc,hkc,hn]);(try simp -implicitDefEqProofs(disch:=first|assumption|(try simp only[lens]);omega -splitDisjunctions) [hil,h200',hnd,hwc,hkc,hn]))))
      ·rw [if_pos (.inl ⟨by decide,hwc⟩)] at hR
       subst hR
       clear ihK inner hsx
       apply hQ
       clear hQ
       have hw0 : ¬ x.words = []:=fun h=>hwc (by simp [h])
       (refine Sg.h ?_;try repeat' ((first|(with_reducible first|refine brA ?_|refine brE fun _=>?_|refine spl ⟨?_,?_⟩<;>intro _)|refine clo f9 ?_)<;>((try simp -implicitDefEqProofs [hil,h200',hnd,hw0]);(try simp -implicitDefEqProofs(disch:=first|assumption|(try simp only[lens]);omega -splitDisjunctions) [hil,h200',hnd,hw0]))))
     ·rw [if_pos (.inr hkc)] at hR
      subst hR
      clear ihK inner hsx
      apply hQ
      clear hQ
      (refine Sg.h ?_;try repeat' ((first|(with_reducible first|refine brA ?_|refine brE fun _=>?_|refine spl ⟨?_,?_⟩<;>intro _)|refine clo f9 ?_)<;>((try simp -implicitDefEqProofs [hil,h200',hnd,hkc]);(try simp -implicitDefEqProofs(disch:=first|assumption|(try simp only[lens]);omega -splitDisjunctions) [hil,h200',hnd,hkc]))))
    ·rw [show wordsN 6 = 0 from rfl,show kidsX 6 = 2 from rfl] at hR hsx
     have f9:=fc 9
     have f8:=fc 8
     by_cases hkc : (x.kids.length : Int) = 2
     ·by_cases hwc : (x.words.length : Int) = 0
      ·rw [if_neg (by simp [hwc,hkc])] at hR hsx
       clear inner hsx
       rw [if_neg (by decide)] at hR
       rw [if_neg (by decide)] at hR
       by_cases hn : x.nm = ⟨#[]⟩
       ·rw [if_pos hn] at hR
        have ihK:=ihK hR
        apply hQ
        clear hQ
        (refine Sg.h ?_;try repeat' ((with_reducible first|refine brA ?_|refine brE fun _=>?_|refine spl ⟨?_,?_⟩<;>intro _)<;>((try simp -implicitDefEqProofs [hil,h200',hnd,hwc,hkc,hn]);(try simp -implicitDefEqProofs(disch:=first|assumption|(try simp only[lens]);omega -splitDisjunctions) [hil,h200',hnd,hwc,hkc,hn]))))
        all_goals first|exact ihK|(refine at2 ihK ?_ ?_<;>simp;done)|(exfalso;first|omega|(simp_all;done)|(simp_all;omega))
       ·rw [if_neg hn] at hR
        subst hR
        clear ihK
        apply hQ
        clear hQ
        (refine Sg.h ?_;try repeat' ((first|(with_reducible first|refine brA ?_|refine brE fun _=>?_|refine spl ⟨?_,?_⟩<;>intro _)|refine clo f8 ?_)<;>((try simp -implicitDefEqProofs [hil,h200',hnd,hwc,hkc,hn]);(try simp -implicitDefEqProofs(disch:=first|assumption|(try simp only[lens]);omega -splitDisjunctions) [hil,h200',hnd,hwc,hkc,hn]))))
      ·rw [if_pos (.inl ⟨by decide,hwc⟩)] at hR
       subst hR
       clear ihK inner hsx
       apply hQ
       clear hQ
       have hw0 : ¬ x.words = []:=fun h=>hwc (by simp [h])
       (refine Sg.h ?_;try repeat' ((first|(with_reducible first|refine brA ?_|refine brE fun _=>?_|refine spl ⟨?_,?_⟩<;>intro _)|refine clo f9 ?_)<;>((try simp -implicitDefEqProofs [hil,h200',hnd,hw0]);(try simp -implicitDefEqProofs(disch:=first|assumption|(try simp only[lens]);omega -splitDisjunctions) [hil,h200',hnd,hw0]))))
     ·rw [if_pos (.inr hkc)] at hR
      subst hR
      clear ihK inner hsx
      apply hQ
      clear hQ
      (refine Sg.h ?_;try repeat' ((first|(with_reducible first|refine brA ?_|refine brE fun _=>?_|refine spl ⟨?_,?_⟩<;>intro _)|refine clo f9 ?_)<;>((try simp -implicitDefEqProofs [hil,h200',hnd,hkc]);(try simp -implicitDefEqProofs(disch:=first|assumption|(try simp only[lens]);omega -splitDisjunctions) [hil,h200',hnd,hkc]))))
    ·rw [show wordsN 7 = 0 from rfl,show kidsX 7 = 2 from rfl] at hR hsx
     have f9:=fc 9
     have f8:=fc 8
     by_cases hkc : (x.kids.length : Int) = 2
     ·by_cases hwc : (x.words.length : Int) = 0
      ·rw [if_neg (by simp [hwc,hkc])] at hR hsx
       clear inner hsx
       rw [if_neg (by decide)] at hR
       rw [if_neg (by decide)] at hR
       by_cases hn : x.nm = ⟨#[]⟩
       ·rw [if_pos hn] at hR
        have ihK:=ihK hR
        apply hQ
        clear hQ
        (refine Sg.h ?_;try repeat' ((with_reducible first|refine brA ?_|refine brE fun _=>?_|refine spl ⟨?_,?_⟩<;>intro _)<;>((try simp -implicitDefEqProofs [hil,h200',hnd,hwc,hkc,hn]);(try simp -implicitDefEqProofs(disch:=first|assumption|(try simp only[lens]);omega -splitDisjunctions) [hil,h200',hnd,hwc,hkc,hn]))))
        all_goals first|exact ihK|(refine at2 ihK ?_ ?_<;>simp;done)|(exfalso;first|omega|(simp_all;done)|(simp_all;omega))
       ·rw [if_neg hn] at hR
        subst hR
        clear ihK
        apply hQ
        clear hQ
        (refine Sg.h ?_;try repeat' ((first|(with_reducible first|refine brA ?_|refine brE fun _=>?_|refine spl ⟨?_,?_⟩<;>intro _)|refine clo f8 ?_)<;>((try simp -implicitDefEqProofs [hil,h200',hnd,hwc,hkc,hn]);(try simp -implicitDefEqProofs(disch:=first|assumption|(try simp only[lens]);omega -splitDisjunctions) [hil,h200',hnd,hwc,hkc,hn]))))
      ·rw [if_pos (.inl ⟨by decide,hwc⟩)] at hR
       subst hR
       clear ihK inner hsx
       apply hQ
       clear hQ
       have hw0 : ¬ x.words = []:=fun h=>hwc (by simp [h])
       (refine Sg.h ?_;try repeat' ((first|(with_reducible first|refine brA ?_|refine brE fun _=>?_|refine spl ⟨?_,?_⟩<;>intro _)|refine clo f9 ?_)<;>((try simp -implicitDefEqProofs [hil,h200',hnd,hw0]);(try simp -implicitDefEqProofs(disch:=first|assumption|(try simp only[lens]);omega -splitDisjunctions) [hil,h200',hnd,hw0]))))
     ·rw [if_pos (.inr hkc)] at hR
      subst hR
      clear ihK inner hsx
      apply hQ
      clear hQ
      (refine Sg.h ?_;try repeat' ((first|(with_reducible first|refine brA ?_|refine brE fun _=>?_|refine spl ⟨?_,?_⟩<;>intro _)|refine clo f9 ?_)<;>((try simp -implicitDefEqProofs [hil,h200',hnd,hkc]);(try simp -implicitDefEqProofs(disch:=first|assumption|(try simp only[lens]);omega -splitDisjunctions) [hil,h200',hnd,hkc]))))
    ·rw [show wordsN 8 = 0 from rfl,show kidsX 8 = 2 from rfl] at hR hsx
     have f9:=fc 9
     have f8:=fc 8
     by_cases hkc : (x.kids.length : Int) = 2
     ·by_cases hwc : (x.words.length : Int) = 0
      ·rw [if_neg (by simp [hwc,hkc])] at hR hsx
       clear inner hsx
       rw [if_neg (by decide)] at hR
       rw [if_neg (by decide)] at hR
       by_cases hn : x.nm = ⟨#[]⟩
       ·rw [if_pos hn] at hR
        have ihK:=ihK hR
        apply hQ
        clear hQ
        (refine Sg.h ?_;try repeat' ((with_reducible first|refine brA ?_|refine brE fun _=>?_|refine spl ⟨?_,?_⟩<;>intro _)<;>((try simp -implicitDefEqProofs [hil,h200',hnd,hwc,hkc,hn]);(try simp -implicitDefEqProofs(disch:=first|assumption|(try simp only[lens]);omega -splitDisjunctions) [hil,h200',hnd,hwc,hkc,hn]))))
        all_goals first|exact ihK|(refine at2 ihK ?_ ?_<;>simp;done)|(exfalso;first|omega|(simp_all;done)|(simp_all;omega))
       ·rw [if_neg hn] at hR
        subst hR
        clear ihK
        apply hQ
        clear hQ
        (refine Sg.h ?_;try repeat' ((first|(with_reducible first|refine brA ?_|refine brE fun _=>?_|refine spl ⟨?_,?_⟩<;>intro _)|refine clo f8 ?_)<;>((try simp -implicitDefEqProofs [hil,h200',hnd,hwc,hkc,hn]);(try simp -implicitDefEqProofs(disch:=first|assumption|(try simp only[lens]);omega -splitDisjunctions) [hil,h200',hnd,hwc,hkc,hn]))))
      ·rw [if_pos (.inl ⟨by decide,hwc⟩)] at hR
       subst hR
       clear ihK inner hsx
       apply hQ
       clear hQ
       have hw0 : ¬ x.words = []:=fun h=>hwc (by simp [h])
       (refine Sg.h ?_;try repeat' ((first|(with_reducible first|refine brA ?_|refine brE fun _=>?_|refine spl ⟨?_,?_⟩<;>intro _)|refine clo f9 ?_)<;>((try simp -implicitDefEqProofs [hil,h200',hnd,hw0]);(try simp -implicitDefEqProofs(disch:=first|assumption|(try simp only[lens]);omega -splitDisjunctions) [hil,h200',hnd,hw0]))))
     ·rw [if_pos (.inr hkc)] at hR
      subst hR
      clear ihK inner hsx
      apply hQ
      clear hQ
      (refine Sg.h ?_;try repeat' ((first|(with_reducible first|refine brA ?_|refine brE fun _=>?_|refine spl ⟨?_,?_⟩<;>intro _)|refine clo f9 ?_)<;>((try simp -implicitDefEqProofs [hil,h200',hnd,hkc]);(try simp -implicitDefEqProofs(disch:=first|assumption|(try simp only[lens]);omega -splitDisjunctions) [hil,h200',hnd,hkc]))))
    ·rw [show wordsN 9 = 0 from rfl,show kidsX 9 = 1 from rfl] at hR hsx
     have f9:=fc 9
     have f8:=fc 8
     by_cases hkc : (x.kids.length : Int) = 1
     ·by_cases hwc : (x.words.length : Int) = 0
      ·rw [if_neg (by simp [hwc,hkc])] at hR hsx
       clear inner hsx
       rw [if_neg (by decide)] at hR
       rw [if_pos (by decide)] at hR
       cases hn : isNameB x.nm with
       | true=>
        rw [hn] at h2 hR
        rw [if_pos rfl] at hR
        have ihK:=ihK hR
        apply hQ
        clear hQ
        (refine Sg.h ?_;try repeat' ((first|(with_reducible first|refine brA ?_|refine brE fun _=>?_|refine spl ⟨?_,?_⟩<;>intro _)|refine clo h2 ?_)<;>((try simp -implicitDefEqProofs [hil,h200',hnd,hwc,hkc]);(try simp -implicitDefEqProofs(disch:=first|assumption|(try simp only[lens]);omega -splitDisjunctions) [hil,h200',hnd,hwc,hkc]))))
        all_goals first|exact ihK|(refine at2 ihK ?_ ?_<;>simp;done)|(exfalso;first|omega|(simp_all;done)|(simp_all;omega))
       | false=>
        rw [hn] at h2 hR
        rw [if_neg (by decide)] at hR
        subst hR
        clear ihK
        apply hQ
        clear hQ
        (refine Sg.h ?_;try repeat' ((first|(with_reducible first|refine brA ?_|refine brE fun _=>?_|refine spl ⟨?_,?_⟩<;>intro _)|refine clo h2 ?_|refine clo f8 ?_)<;>((try simp -implicitDefEqProofs [hil,h200',hnd,hwc,hkc]);(try simp -implicitDefEqProofs(disch:=first|assumption|(try simp only[lens]);omega -splitDisjunctions) [hil,h200',hnd,hwc,hkc]))))
      ·rw [if_pos (.inl ⟨by decide,hwc⟩)] at hR
       subst hR
       clear ihK inner hsx
       apply hQ
       clear hQ
       have hw0 : ¬ x.words = []:=fun h=>hwc (by simp [h])
       (refine Sg.h ?_;try repeat' ((first|(with_reducible first|refine brA ?_|refine brE fun _=>?_|refine spl ⟨?_,?_⟩<;>intro _)|refine clo f9 ?_)<;>((try simp -implicitDefEqProofs [hil,h200',hnd,hw0]);(try simp -implicitDefEqProofs(disch:=first|assumption|(try simp only[lens]);omega -splitDisjunctions) [hil,h200',hnd,hw0]))))
     ·rw [if_pos (.inr hkc)] at hR
      subst hR
      clear ihK inner hsx
      apply hQ
      clear hQ
      (refine Sg.h ?_;try repeat' ((first|(with_reducible first|refine brA ?_|refine brE fun _=>?_|refine spl ⟨?_,?_⟩<;>intro _)|refine clo f9 ?_)<;>((try simp -implicitDefEqProofs [hil,h200',hnd,hkc]);(try simp -implicitDefEqProofs(disch:=first|assumption|(try simp only[lens]);omega -splitDisjunctions) [hil,h200',hnd,hkc]))))
    ·rw [show wordsN 10 = 0 from rfl,show kidsX 10 = 1 from rfl] at hR hsx
     have f9:=fc 9
     have f8:=fc 8
     by_cases hkc : (x.kids.length : Int) = 1
     ·by_cases hwc : (x.words.length : Int) = 0
      ·rw [if_neg (by simp [hwc,hkc])] at hR hsx
       clear inner hsx
       rw [if_neg (by decide)] at hR
       rw [if_pos (by decide)] at hR
       cases hn : isNameB x.nm with
       | true=>
        rw [hn] at h2 hR
        rw [if_pos rfl] at hR
        have ihK:=ihK hR
        apply hQ
        clear hQ
        (refine Sg.h ?_;try repeat' ((first|(with_reducible first|refine brA ?_|refine brE fun _=>?_|refine spl ⟨?_,?_⟩<;>intro _)|refine clo h2 ?_)<;>((try simp -implicitDefEqProofs [hil,h200',hnd,hwc,hkc]);(try simp -implicitDefEqProofs(disch:=first|assumption|(try simp only[lens]);omega -splitDisjunctions) [hil,h200',hnd,hwc,hkc]))))
        all_goals first|exact ihK|(refine at2 ihK ?_ ?_<;>simp;done)|(exfalso;first|omega|(simp_all;done)|(simp_all;omega))
       | false=>
        rw [hn] at h2 hR
        rw [if_neg (by decide)] at hR
        subst hR
        clear ihK
        apply hQ
        clear hQ
        (refine Sg.h ?_;try repeat' ((first|(with_reducible first|refine brA ?_|refine brE fun _=>?_|refine spl ⟨?_,?_⟩<;>intro _)|refine clo h2 ?_|refine clo f8 ?_)<;>((try simp -implicitDefEqProofs [hil,h200',hnd,hwc,hkc]);(try simp -implicitDefEqProofs(disch:=first|assumption|(try simp only[lens]);omega -splitDisjunctions) [hil,h200',hnd,hwc,hkc]))))
      ·rw [if_pos (.inl ⟨by decide,hwc⟩)] at hR
       subst hR
       clear ihK inner hsx
       apply hQ
       clear hQ
       have hw0 : ¬ x.words = []:=fun h=>hwc (by simp [h])
       (refine Sg.h ?_;try repeat' ((first|(with_reducible first|refine brA ?_|refine brE fun _=>?_|refine spl ⟨?_,?_⟩<;>intro _)|refine clo f9 ?_)<;>((try simp -implicitDefEqProofs [hil,h200',hnd,hw0]);(try simp -implicitDefEqProofs(disch:=first|assumption|(try simp only[lens]);omega -splitDisjunctions) [hil,h200',hnd,hw0]))))
     ·rw [if_pos (.inr hkc)] at hR
      subst hR
      clear ihK inner hsx
      apply hQ
      clear hQ
      (refine Sg.h ?_;try repeat' ((first|(with_reducible first|refine brA ?_|refine brE fun _=>?_|refine spl ⟨?_,?_⟩<;>intro _)|refine clo f9 ?_)<;>((try simp -implicitDefEqProofs [hil,h200',hnd,hkc]);(try simp -implicitDefEqProofs(disch:=first|assumption|(try simp only[lens]);omega -splitDisjunctions) [hil,h200',hnd,hkc]))))
 all_goals first|exact main l.length 0 [] (Nat.zero_add _) (Nat.le_refl _) hR|(refine at2 main l.length 0 [] (Nat.zero_add _) (Nat.le_refl _) hR ?_ ?_<;>simp;done)|(exfalso;first|omega|(simp_all;done)|(simp_all;omega))
end Go.Proofs.Ytfhakdonenhnbaa
