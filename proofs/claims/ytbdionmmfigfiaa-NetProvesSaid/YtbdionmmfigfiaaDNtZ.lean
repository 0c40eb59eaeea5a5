import Derived.Test.YtbdionmmfigfiaaDNtY
set_option linter.unusedVariables false
set_option linter.unusedSimpArgs false
set_option maxRecDepth 100000
set_option maxHeartbeats 4000000
namespace Go.Proofs.Ytbdionmmfigfiaa
open Go Go.Pv
def fitB (x y : Ln) : Bool := decide (x.nm = y.nm ∧ x.no ≠ y.no)
theorem fitB_iff {x y : Ln} : fitB x y = true ↔ fits x y := by unfold fitB fits; simp
def x43 : XC := .seq (.reg [⟨some 2,.box 24 (.tmp 0),none⟩,⟨some 3,.box 24 (.tmp 1),none⟩,⟨some 4,.assign (.const (.bool false)),none⟩]) (.seq (.reg [⟨some 5,.fieldAddr 24 (.tmp 2) 1,none⟩,⟨some 6,.load 9 (.tmp 5),none⟩,⟨some 7,.fieldAddr 24 (.tmp 3) 1,none⟩,⟨some 8,.load 9 (.tmp 7),none⟩,⟨some 9,.binOp .eql 9 (.tmp 6) (.tmp 8) 9,none⟩,⟨some 10,.move (.tmp 9),none⟩,⟨some 11,.fieldAddr 24 (.tmp 2) 2,some (some 10,true)⟩,⟨some 12,.load 4 (.tmp 11),some (some 10,true)⟩,⟨some 13,.fieldAddr 24 (.tmp 3) 2,some (some 10,true)⟩,⟨some 14,.load 4 (.tmp 13),some (some 10,true)⟩,⟨some 15,.binOp .neq 4 (.tmp 12) (.tmp 14) 4,some (some 10,true)⟩,⟨some 16,.pick (.tmp 10) (.tmp 15) (.const (.bool false)),none⟩,⟨some 4,.assign (.tmp 16),none⟩]) .ret)
@[simp] theorem x43_s {C e s K} : type_of% (@X_at C e s K _ _ x43.eq_1) := X_at x43.eq_1
def an43 : Ann := ⟨[],[],[]⟩
theorem fi43 : FI Try.prog 43 (cxA an43) x43 [.tmp 4] Try.f43 := fiA Try.func43 mixed
theorem fits_ref (x y : Ln) : CallOK Try.prog 43 [.agg (lnr x),.agg (lnr y)] [] (.bool (fitB x y)) [] := by
 refine fi43.op ?_
 unfold fitB
 by_cases h1 : x.nm = y.nm
 ·by_cases h2 : x.no = y.no
  ·rw [decide_eq_false (by simp [h2])]
   (refine Sg.h ?_;try repeat' ((with_reducible first|refine brA ?_|refine brE fun _=>?_|refine spl ⟨?_,?_⟩<;>intro _)<;> ((try simp -implicitDefEqProofs [h1,h2]); (try simp -implicitDefEqProofs(disch:=first|assumption|(try simp only[lens]);omega -splitDisjunctions) [h1,h2]))))
  ·rw [decide_eq_true ⟨h1,h2⟩]
   have h3 : (x.no == y.no) = false := by simpa using h2
   (refine Sg.h ?_;try repeat' ((with_reducible first|refine brA ?_|refine brE fun _=>?_|refine spl ⟨?_,?_⟩<;>intro _)<;> ((try simp -implicitDefEqProofs [h1,h3]); (try simp -implicitDefEqProofs(disch:=first|assumption|(try simp only[lens]);omega -splitDisjunctions) [h1,h3]))))
 ·rw [decide_eq_false (by simp [h1])]
  (refine Sg.h ?_;try repeat' ((with_reducible first|refine brA ?_|refine brE fun _=>?_|refine spl ⟨?_,?_⟩<;>intro _)<;> ((try simp -implicitDefEqProofs [h1]); (try simp -implicitDefEqProofs(disch:=first|assumption|(try simp only[lens]);omega -splitDisjunctions) [h1]))))
def x18_T1 : XC := .seq (.reg [⟨some 22,.move (.tmp 4),none⟩,⟨some 2,.assign (.tmp 22),none⟩]) .ret
def x18_L0 : XC := .seq (.seq (.reg [⟨some 8,.move (.tmp 5),none⟩,⟨some 9,.move (.tmp 3),none⟩,⟨some 10,.call ⟨.builtin .len,#[.tmp 9],#[22]⟩,none⟩,⟨some 11,.binOp .lss 3 (.tmp 8) (.tmp 10) 3,none⟩]) (.cond (.tmp 11) .skip (.exit 0))) (.seq (.block 1 (.seq (.reg [⟨some 14,.move (.tmp 3),none⟩,⟨some 15,.move (.tmp 5),none⟩,⟨some 16,.indexAddr 22 (.tmp 14) (.tmp 15),none⟩,⟨some 17,.fieldAddr 24 (.tmp 16) 0,none⟩,⟨some 18,.load 3 (.tmp 17),none⟩,⟨some 19,.binOp .eql 3 (.tmp 18) (.const (.int .i64 3)) 3,none⟩]) (.cond (.tmp 19) (.reg [⟨some 20,.move (.tmp 4),none⟩,⟨some 21,.binOp .add 3 (.tmp 20) (.const (.int .i64 1)) 3,none⟩,⟨some 4,.assign (.tmp 21),none⟩]) .skip))) (.reg [⟨some 12,.move (.tmp 5),none⟩,⟨some 13,.binOp .add 3 (.tmp 12) (.const (.int .i64 1)) 3,none⟩,⟨some 5,.assign (.tmp 13),none⟩]))
def x18 : XC := .seq (.reg [⟨some 2,.assign (.const (.int .i64 0)),none⟩]) (.seq (.reg [⟨some 6,.move (.tmp 0),none⟩,⟨some 7,.call ⟨.value (.func 11),#[.tmp 6,.const (.int .i64 300)],#[22,3]⟩,none⟩,⟨some 3,.assign (.tmp 7),none⟩]) (.seq (.reg [⟨some 4,.assign (.const (.int .i64 0)),none⟩]) (.seq (.seq (.reg [⟨some 5,.assign (.const (.int .i64 0)),none⟩]) (.bloop 0 x18_L0)) (x18_T1))))
@[simp] theorem x18_s {C e s K} : type_of% (@X_at C e s K _ _ x18_T1.eq_1) ∧ type_of% (@X_at C e s K _ _ x18_L0.eq_1) ∧ type_of% (@X_at C e s K _ _ x18.eq_1) := ⟨X_at x18_T1.eq_1,X_at x18_L0.eq_1,X_at x18.eq_1⟩
def an18 : Ann := ⟨[],[(0,[],[3,4,5],[4])],[]⟩
@[simp] theorem an18_a : an18.loopOf 0 = ([],[3,4,5],[4]) := rfl
theorem fi18 : FI Try.prog 18 (cxA an18) x18 [.tmp 2] Try.f18 := fiA Try.func18 mixed
theorem Pars_ref (l : List Ln) : CallOK Try.prog 18 [.list (l.map lnr)] [] (.int .i64 ((((ndLs l).take 301).filter fun x => decide (x.k = 3)).length : Int)) [] := by
 have hw := Linears_ref l 300 (by decide) (by decide)
 rw [show ((300 : Int) + 1).toNat = 301 from rfl] at hw
 have hlen : ((ndLs l).take 301).length ≤ 301 := by rw [List.length_take]; omega
 generalize (ndLs l).take 301 = L at *
 obtain ⟨R,hR⟩ : ∃ R,(L.filter fun x => decide (x.k = 3)).length = R := ⟨_,rfl⟩
 rw [hR]
 refine fi18.op ?_
 (refine Sg.h ?_;try repeat' ((first | (with_reducible first|refine brA ?_|refine brE fun _=>?_|refine spl ⟨?_,?_⟩<;>intro _) | refine clo hw ?_) <;> ((try simp -implicitDefEqProofs); (try simp -implicitDefEqProofs(disch:=first|assumption|(try simp only[lens]);omega -splitDisjunctions)))))
 refine W_of fun Q hQ => ?_
 have main : ∀ n i c,i + n = L.length → c ≤ i → c + ((L.drop i).filter fun x => decide (x.k = 3)).length = R → Q [(3,.list (L.map lnr)),(4,.int .i64 (c : Int)),(5,.int .i64 (i : Int))] [] := by
  intro n
  induction n with
  | zero =>
   intro i c hi hc hR
   rw [List.drop_of_length_le (by omega)] at hR
   simp only [List.filter_nil,List.length_nil,Nat.add_zero] at hR
   subst hR
   have hi' : ¬ (i : Int) < (L.length : Int) := by omega
   apply hQ
   clear hQ
   (refine Sg.h ?_;try repeat' ((with_reducible first|refine brA ?_|refine brE fun _=>?_|refine spl ⟨?_,?_⟩<;>intro _)<;> ((try simp -implicitDefEqProofs [hi']); (try simp -implicitDefEqProofs(disch:=first|assumption|(try simp only[lens]);omega -splitDisjunctions) [hi']))))
  | succ n ih =>
   intro i c hi hc hR
   have hil : i < L.length := by omega
   rw [List.drop_eq_getElem_cons hil,List.filter_cons] at hR
   generalize hx : L[i] = x at *
   by_cases h1 : x.k = 3
   ·rw [if_pos (by simpa using h1),List.length_cons] at hR
    have ih := ih (i + 1) (c + 1) (by omega) (by omega) (by omega)
    clear hR
    apply hQ
    clear hQ
    (refine Sg.h ?_;try repeat' ((with_reducible first|refine brA ?_|refine brE fun _=>?_|refine spl ⟨?_,?_⟩<;>intro _)<;> ((try simp -implicitDefEqProofs [hil,hx,h1]); (try simp -implicitDefEqProofs(disch:=first|assumption|(try simp only[lens]);omega -splitDisjunctions) [hil,hx,h1]))))
    all_goals first | exact ih | (refine at2 ih ?_ ?_ <;> simp; done) | (exfalso; first | omega | (simp_all; done) | (simp_all; omega))
   ·rw [if_neg (by simpa using h1)] at hR
    have ih := ih (i + 1) c (by omega) (by omega) hR
    clear hR
    apply hQ
    clear hQ
    (refine Sg.h ?_;try repeat' ((with_reducible first|refine brA ?_|refine brE fun _=>?_|refine spl ⟨?_,?_⟩<;>intro _)<;> ((try simp -implicitDefEqProofs [hil,hx,h1]); (try simp -implicitDefEqProofs(disch:=first|assumption|(try simp only[lens]);omega -splitDisjunctions) [hil,hx,h1]))))
    all_goals first | exact ih | (refine at2 ih ?_ ?_ <;> simp; done) | (exfalso; first | omega | (simp_all; done) | (simp_all; omega))
 refine at2 (main L.length 0 0 (Nat.zero_add _) (Nat.le_refl _) (by simpa using hR)) ?_ ?_
 ·rfl
 ·rfl
def usRow (b : Bool) : List PV := [.int .i64 (if b = true then 1 else 0)]
instance : FlatRow usRow := ⟨fun _ => rfl⟩
theorem us_t : usRow true = [.int .i64 1] := rfl
theorem us_f : usRow false = [.int .i64 0] := rfl
theorem lvR_fault {l : List Ln} (h : (lnFault l).1 = 0) : lvR l = lvs l := by
 obtain ⟨ts,rfl,_,_,_,h4⟩ := trees_of h
 unfold lvR lvs
 rw [List.take_of_length_le (by rw [(ndLs_lt ts).1]; omega),List.take_of_length_le (by rw [(ndLs_lt ts).1]; omega)]
def x20_T5 : XC := .seq (.reg [⟨some 101,.build 29 #[],none⟩,⟨none,.store 29 (.tmp 4) (.tmp 101),none⟩]) .ret
def x20_L4 : XC := .seq (.seq (.reg [⟨some 88,.move (.tmp 11),none⟩,⟨some 89,.move (.tmp 7),none⟩,⟨some 90,.call ⟨.builtin .len,#[.tmp 89],#[67]⟩,none⟩,⟨some 91,.binOp .lss 3 (.tmp 88) (.tmp 90) 3,none⟩]) (.cond (.tmp 91) .skip (.exit 4))) (.seq (.block 5 (.seq (.reg [⟨some 94,.move (.tmp 7),none⟩,⟨some 95,.move (.tmp 11),none⟩,⟨some 96,.indexAddr 67 (.tmp 94) (.tmp 95),none⟩,⟨some 97,.load 3 (.tmp 96),none⟩,⟨some 98,.binOp .eql 3 (.tmp 97) (.const (.int .i64 0)) 3,none⟩]) (.cond (.tmp 98) (.seq (.reg [⟨some 99,.move (.tmp 11),none⟩,⟨some 100,.call ⟨.value (.func 17),#[.const (.int .i64 9),.tmp 99],#[3,3]⟩,none⟩,⟨none,.store 29 (.tmp 4) (.tmp 100),none⟩]) .ret) .skip))) (.reg [⟨some 92,.move (.tmp 11),none⟩,⟨some 93,.binOp .add 3 (.tmp 92) (.const (.int .i64 1)) 3,none⟩,⟨some 11,.assign (.tmp 93),none⟩]))
def x20_T3 : XC := .seq (.seq (.reg [⟨some 11,.assign (.const (.int .i64 0)),none⟩]) (.bloop 4 x20_L4)) (x20_T5)
def x20_T2 : XC := .seq (.drawn 20 [⟨some 68,.move (.tmp 6),none⟩,⟨some 69,.move (.tmp 1),none⟩,⟨some 70,.move (.tmp 8),none⟩,⟨some 71,.indexAddr 25 (.tmp 69) (.tmp 70),none⟩,⟨some 72,.indexAddr 33 (.tmp 71) (.const (.int .i64 0)),none⟩,⟨some 73,.load 3 (.tmp 72),none⟩,⟨some 74,.indexAddr 22 (.tmp 68) (.tmp 73),none⟩,⟨some 75,.load 24 (.tmp 74),none⟩,⟨some 76,.move (.tmp 6),none⟩,⟨some 77,.move (.tmp 1),none⟩,⟨some 78,.move (.tmp 8),none⟩,⟨some 79,.indexAddr 25 (.tmp 77) (.tmp 78),none⟩,⟨some 80,.indexAddr 33 (.tmp 79) (.const (.int .i64 1)),none⟩,⟨some 81,.load 3 (.tmp 80),none⟩,⟨some 82,.indexAddr 22 (.tmp 76) (.tmp 81),none⟩,⟨some 83,.load 24 (.tmp 82),none⟩,⟨some 84,.call ⟨.value (.func 43),#[.tmp 75,.tmp 83],#[24,24]⟩,none⟩,⟨some 85,.unOp .not 4 (.tmp 84),none⟩]) (.cond (.tmp 85) (.seq (.reg [⟨some 86,.move (.tmp 8),none⟩,⟨some 87,.call ⟨.value (.func 17),#[.const (.int .i64 5),.tmp 86],#[3,3]⟩,none⟩,⟨none,.store 29 (.tmp 4) (.tmp 87),none⟩]) .ret) .skip)
def x20_L2 : XC := .seq (.seq (.reg [⟨some 35,.move (.tmp 9),none⟩,⟨some 36,.binOp .lss 3 (.tmp 35) (.const (.int .i64 2)) 3,none⟩]) (.cond (.tmp 36) .skip (.exit 2))) (.seq (.block 3 (.seq (.reg [⟨some 39,.move (.tmp 1),none⟩,⟨some 40,.move (.tmp 8),none⟩,⟨some 41,.move (.tmp 9),none⟩,⟨some 42,.indexAddr 25 (.tmp 39) (.tmp 40),none⟩,⟨some 43,.indexAddr 33 (.tmp 42) (.tmp 41),none⟩,⟨some 44,.load 3 (.tmp 43),none⟩,⟨some 10,.assign (.tmp 44),none⟩]) (.seq (.seq (.reg [⟨some 45,.move (.tmp 10),none⟩,⟨some 46,.binOp .lss 3 (.tmp 45) (.const (.int .i64 0)) 3,none⟩,⟨some 47,.move (.tmp 46),none⟩,⟨some 48,.move (.tmp 10),some (some 47,false)⟩,⟨some 49,.move (.tmp 6),some (some 47,false)⟩,⟨some 50,.call ⟨.builtin .len,#[.tmp 49],#[22]⟩,some (some 47,false)⟩,⟨some 51,.binOp .geq 3 (.tmp 48) (.tmp 50) 3,some (some 47,false)⟩,⟨some 52,.pick (.tmp 47) (.const (.bool true)) (.tmp 51),none⟩]) (.cond (.tmp 52) (.seq (.reg [⟨some 53,.move (.tmp 8),none⟩,⟨some 54,.call ⟨.value (.func 17),#[.const (.int .i64 3),.tmp 53],#[3,3]⟩,none⟩,⟨none,.store 29 (.tmp 4) (.tmp 54),none⟩]) .ret) .skip)) (.seq (.seq (.reg [⟨some 55,.move (.tmp 7),none⟩,⟨some 56,.move (.tmp 10),none⟩,⟨some 57,.indexAddr 67 (.tmp 55) (.tmp 56),none⟩,⟨some 58,.load 3 (.tmp 57),none⟩,⟨some 59,.binOp .gtr 3 (.tmp 58) (.const (.int .i64 0)) 3,none⟩]) (.cond (.tmp 59) (.seq (.reg [⟨some 60,.move (.tmp 8),none⟩,⟨some 61,.call ⟨.value (.func 17),#[.const (.int .i64 5),.tmp 60],#[3,3]⟩,none⟩,⟨none,.store 29 (.tmp 4) (.tmp 61),none⟩]) .ret) .skip)) (.reg [⟨some 62,.move (.tmp 7),none⟩,⟨some 63,.move (.tmp 10),none⟩,⟨some 64,.indexAddr 67 (.tmp 62) (.tmp 63),none⟩,⟨some 65,.load 3 (.tmp 64),none⟩,⟨some 66,.binOp .add 3 (.tmp 65) (.const (.int .i64 1)) 3,none⟩,⟨some 67,.indexAddr 67 (.tmp 62) (.tmp 63),none⟩,⟨none,.store 3 (.tmp 67) (.tmp 66),none⟩]))))) (.reg [⟨some 37,.move (.tmp 9),none⟩,⟨some 38,.binOp .add 3 (.tmp 37) (.const (.int .i64 1)) 3,none⟩,⟨some 9,.assign (.tmp 38),none⟩]))
def x20_L0 : XC := .seq (.seq (.reg [⟨some 29,.move (.tmp 8),none⟩,⟨some 30,.move (.tmp 1),none⟩,⟨some 31,.call ⟨.builtin .len,#[.tmp 30],#[25]⟩,none⟩,⟨some 32,.binOp .lss 3 (.tmp 29) (.tmp 31) 3,none⟩]) (.cond (.tmp 32) .skip (.exit 0))) (.seq (.block 1 (.seq (.seq (.reg [⟨some 9,.assign (.const (.int .i64 0)),none⟩]) (.bloop 2 x20_L2)) (x20_T2))) (.reg [⟨some 33,.move (.tmp 8),none⟩,⟨some 34,.binOp .add 3 (.tmp 33) (.const (.int .i64 1)) 3,none⟩,⟨some 8,.assign (.tmp 34),none⟩]))
def x20 : XC := .seq (.reg [⟨some 4,.alloc 29,none⟩]) (.seq (.reg [⟨some 12,.move (.tmp 0),none⟩,⟨some 13,.call ⟨.value (.func 10),#[.tmp 12],#[22]⟩,none⟩,⟨some 5,.alloc 29,none⟩,⟨none,.store 29 (.tmp 5) (.tmp 13),none⟩]) (.seq (.seq (.reg [⟨some 14,.fieldAddr 29 (.tmp 5) 0,none⟩,⟨some 15,.load 3 (.tmp 14),none⟩,⟨some 16,.binOp .neq 3 (.tmp 15) (.const (.int .i64 0)) 3,none⟩]) (.cond (.tmp 16) (.seq (.reg [⟨some 17,.load 29 (.tmp 5),none⟩,⟨none,.store 29 (.tmp 4) (.tmp 17),none⟩]) .ret) .skip)) (.seq (.reg [⟨some 18,.move (.tmp 0),none⟩,⟨some 19,.call ⟨.value (.func 12),#[.tmp 18],#[22]⟩,none⟩,⟨some 6,.assign (.tmp 19),none⟩]) (.seq (.seq (.reg [⟨some 20,.move (.tmp 1),none⟩,⟨some 21,.call ⟨.builtin .len,#[.tmp 20],#[25]⟩,none⟩,⟨some 22,.move (.tmp 6),none⟩,⟨some 23,.call ⟨.builtin .len,#[.tmp 22],#[22]⟩,none⟩,⟨some 24,.binOp .gtr 3 (.tmp 21) (.tmp 23) 3,none⟩]) (.cond (.tmp 24) (.seq (.reg [⟨some 25,.call ⟨.value (.func 17),#[.const (.int .i64 2),.const (.int .i64 0)],#[3,3]⟩,none⟩,⟨none,.store 29 (.tmp 4) (.tmp 25),none⟩]) .ret) .skip)) (.seq (.reg [⟨some 26,.move (.tmp 6),none⟩,⟨some 27,.call ⟨.builtin .len,#[.tmp 26],#[22]⟩,none⟩,⟨some 28,.makeSlice 67 (.tmp 27) (.tmp 27),none⟩,⟨some 7,.assign (.tmp 28),none⟩]) (.seq (.seq (.reg [⟨some 8,.assign (.const (.int .i64 0)),none⟩]) (.bloop 0 x20_L0)) (x20_T3)))))))
@[simp] theorem x20_s {C e s K} : type_of% (@X_at C e s K _ _ x20_T5.eq_1) ∧ type_of% (@X_at C e s K _ _ x20_L4.eq_1) ∧ type_of% (@X_at C e s K _ _ x20_T3.eq_1) ∧ type_of% (@X_at C e s K _ _ x20_T2.eq_1) ∧ type_of% (@X_at C e s K _ _ x20_L2.eq_1) ∧ type_of% (@X_at C e s K _ _ x20_L0.eq_1) ∧ type_of% (@X_at C e s K _ _ x20.eq_1) := ⟨X_at x20_T5.eq_1,X_at x20_L4.eq_1,X_at x20_T3.eq_1,X_at x20_T2.eq_1,X_at x20_L2.eq_1,X_at x20_L0.eq_1,X_at x20.eq_1⟩
def an20 : Ann := ⟨[(20,.mix 16)],[(4,[],[4,7,11],[4]),(2,[],[1,4,6,7,8,9],[1,4,6,7,8]),(0,[],[1,4,6,7,8],[4,7])],[]⟩
@[simp] theorem an20_a : an20.clsOf 20 = .mix 16 ∧ an20.frzOf 20 = [] ∧ an20.loopOf 4 = ([],[4,7,11],[4]) ∧ an20.loopOf 2 = ([],[1,4,6,7,8,9],[1,4,6,7,8]) ∧ an20.loopOf 0 = ([],[1,4,6,7,8],[4,7]) := ⟨rfl,rfl,rfl,rfl,rfl⟩
theorem fi20 : FI Try.prog 20 (cxA an20) x20 [.cell 4 29] Try.f20 := fiA Try.func20 mixed
theorem NetFault_ref (l : List Ln) (ax : List (Int × Int)) : CallOK Try.prog 20 [.list (l.map lnr),.list (ax.map relRow)] [] (.agg [.int .i64 (lkF l ax).1,.int .i64 (lkF l ax).2]) [] := by
 have hf := fun c a => F_ref c a
 have hc := LinearFault_ref l
 refine fi20.op ?_
 unfold lkF
 by_cases h0 : (lnFault l).1 ≠ 0
 ·rw [if_pos h0]
  (refine Sg.h ?_;try repeat' ((first | (with_reducible first|refine brA ?_|refine brE fun _=>?_|refine spl ⟨?_,?_⟩<;>intro _) | refine clo hc ?_) <;> ((try simp -implicitDefEqProofs [h0]); (try simp -implicitDefEqProofs(disch:=first|assumption|(try simp only[lens]);omega -splitDisjunctions) [h0]))))
 rw [if_neg h0]
 have h0 : (lnFault l).1 = 0 := Decidable.not_not.1 h0
 have hv := Leaves_ref l
 rw [lvR_fault h0] at hv
 have hvl : (lvs l).length ≤ 200 := by
  unfold lvs
  refine Nat.le_trans (List.length_filter_le _ _) ?_
  rw [List.length_take]; omega
 generalize (lnFault l).2 = z at *
 rw [h0] at hc
 generalize lvs l = A at *
 by_cases h1 : A.length < ax.length
 ·rw [if_pos h1]
  have h1' : (A.length : Int) < (ax.length : Int) := by omega
  (refine Sg.h ?_;try repeat' ((first | (with_reducible first|refine brA ?_|refine brE fun _=>?_|refine spl ⟨?_,?_⟩<;>intro _) | refine clo hc ?_ | refine clo hv ?_ | refine clo (hf 2 0) ?_) <;> ((try simp -implicitDefEqProofs [h1']); (try simp -implicitDefEqProofs(disch:=first|assumption|(try simp only[lens]);omega -splitDisjunctions) [h1']))))
 rw [if_neg h1]
 have h1' : ¬ (A.length : Int) < (ax.length : Int) := by omega
 obtain ⟨R,hR⟩ : ∃ R,lkL A ax 0 (List.replicate A.length false) = R := ⟨_,rfl⟩
 rw [hR]
 (refine Sg.h ?_;try repeat' ((first | (with_reducible first|refine brA ?_|refine brE fun _=>?_|refine spl ⟨?_,?_⟩<;>intro _) | refine clo hc ?_ | refine clo hv ?_) <;> ((try simp -implicitDefEqProofs [h1']); (try simp -implicitDefEqProofs(disch:=first|assumption|(try simp only[lens]);omega -splitDisjunctions) [h1']))))
 refine W_of fun Q hQ => ?_
 have main : ∀ n i (u : List Bool),i + n = ax.length → u.length = A.length → lkL A (ax.drop i) i u = R → Q [(1,.list (ax.map relRow)),(4,.ptr 0 0 0),(6,.list (A.map lnr)),(7,.sl 1 0 A.length),(8,.int .i64 (i : Int))] [.rows 2 [[.int .i64 0,.int .i64 0]],.rows 1 (u.map usRow)] := by
  intro n
  induction n with
  | zero =>
   intro i u hi hu hR
   rw [List.drop_of_length_le (by omega),lkL] at hR
   subst hR
   have hi' : ¬ (i : Int) < (ax.length : Int) := by omega
   apply hQ
   clear hQ
   rw [← hu]
   (refine Sg.h ?_;try repeat' ((with_reducible first|refine brA ?_|refine brE fun _=>?_|refine spl ⟨?_,?_⟩<;>intro _)<;> ((try simp -implicitDefEqProofs [hi']); (try simp -implicitDefEqProofs(disch:=first|assumption|(try simp only[lens]);omega -splitDisjunctions) [hi']))))
   refine W_of fun Q4 hQ4 => ?_
   have main4 : ∀ n j,j + n = u.length → (∀ k (h : k < u.length),k < j → u[k] = true) → Q4 [(4,.ptr 0 0 0),(7,.sl 1 0 u.length),(11,.int .i64 (j : Int))] [.rows 2 [[.int .i64 0,.int .i64 0]],.rows 1 (u.map usRow)] := by
    intro n
    induction n with
    | zero =>
     intro j hj hb
     have hz : lkEnd u = (0,0) := by
      rw [lkEnd_ok]
      intro k hk
      rw [getElem!_pos u k hk]
      exact hb k hk (by omega)
     rw [hz] at hQ4
     apply hQ4
     clear hQ4
     have hj' : ¬ (j : Int) < (u.length : Int) := by omega
     (refine Sg.h ?_;try repeat' ((with_reducible first|refine brA ?_|refine brE fun _=>?_|refine spl ⟨?_,?_⟩<;>intro _)<;> ((try simp -implicitDefEqProofs [hj']); (try simp -implicitDefEqProofs(disch:=first|assumption|(try simp only[lens]);omega -splitDisjunctions) [hj']))))
    | succ n ih =>
     intro j hj hb
     have hjl : j < u.length := by omega
     have hj' : (j : Int) < (u.length : Int) := by omega
     cases hx : u[j] with
     | true =>
      have ih := ih (j + 1) (by omega) fun k h hk => by
       by_cases e : k = j
       ·subst e; exact hx
       ·exact hb k h (by omega)
      apply hQ4
      clear hQ4
      (refine Sg.h ?_;try repeat' ((with_reducible first|refine brA ?_|refine brE fun _=>?_|refine spl ⟨?_,?_⟩<;>intro _)<;> ((try simp -implicitDefEqProofs [hj',hjl,hx,us_t]); (try simp -implicitDefEqProofs(disch:=first|assumption|(try simp only[lens]);omega -splitDisjunctions) [hj',hjl,hx,us_t]))))
      all_goals first | exact ih | (refine at2 ih ?_ ?_ <;> simp; done) | (exfalso; first | omega | (simp_all; done) | (simp_all; omega))
     | false =>
      have hz : lkEnd u = (9,(j : Int)) := by
       unfold lkEnd indexB
       have : u.findIdx? (fun x => decide (false = x)) = some j := by
        rw [List.findIdx?_eq_some_iff_getElem]
        refine ⟨hjl,by simp [hx],fun k hk => ?_⟩
        have := hb k (by omega) hk
        simp [this]
       rw [this]
       simp
      rw [hz] at hQ4
      have hf9 := hf 9 j
      clear ih
      apply hQ4
      clear hQ4
      (refine Sg.h ?_;try repeat' ((first | (with_reducible first|refine brA ?_|refine brE fun _=>?_|refine spl ⟨?_,?_⟩<;>intro _) | refine clo hf9 ?_) <;> ((try simp -implicitDefEqProofs [hj',hjl,hx,us_f]); (try simp -implicitDefEqProofs(disch:=first|assumption|(try simp only[lens]);omega -splitDisjunctions) [hj',hjl,hx,us_f]))))
   refine at2 (main4 u.length 0 (Nat.zero_add _) (fun k h hk => by omega)) ?_ ?_
   ·rfl
   ·rfl
  | succ n ih =>
   intro i u hi hu hR
   have hil : i < ax.length := by omega
   rw [List.drop_eq_getElem_cons hil,lkL] at hR
   obtain ⟨p,q,hpq⟩ : ∃ p q,ax[i] = (p,q) := ⟨_,_,rfl⟩
   rw [hpq] at hR
   apply hQ
   (refine Sg.h ?_;try repeat' ((with_reducible first|refine brA ?_|refine brE fun _=>?_|refine spl ⟨?_,?_⟩<;>intro _)<;> ((try simp -implicitDefEqProofs [hil,hpq]); (try simp -implicitDefEqProofs(disch:=first|assumption|(try simp only[lens]);omega -splitDisjunctions) [hil,hpq]))))
   refine W_of fun Q2 hQ2 => ?_
   have two : ∀ u2 : List Bool,u2.length = A.length → 0 ≤ p → p < (A.length : Int) → 0 ≤ q → q < (A.length : Int) → (if A[p.toNat]!.nm ≠ A[q.toNat]!.nm ∨ A[p.toNat]!.no = A[q.toNat]!.no then (5,(i : Int)) else lkL A (ax.drop (i + 1)) (i + 1) u2) = R → Q2 [(1,.list (ax.map relRow)),(4,.ptr 0 0 0),(6,.list (A.map lnr)),(7,.sl 1 0 A.length),(8,.int .i64 (i : Int)),(9,.int .i64 2)] [.rows 2 [[.int .i64 0,.int .i64 0]],.rows 1 (u2.map usRow)] := by
    intro u2 hu2 p0 p1 q0 q1 hR2
    obtain ⟨a,rfl⟩ : ∃ a : Nat,p = (a : Int) := ⟨p.toNat,by omega⟩
    obtain ⟨b,rfl⟩ : ∃ b : Nat,q = (b : Int) := ⟨q.toNat,by omega⟩
    have ha : a < A.length := by omega
    have hb : b < A.length := by omega
    rw [Int.toNat_natCast,Int.toNat_natCast,getElem!_pos A a ha,getElem!_pos A b hb] at hR2
    have ih := ih (i + 1) u2 (by omega) hu2
    have hft := fits_ref A[a] A[b]
    have hfb : fitB A[a] A[b] = true ↔ ¬ (A[a].nm ≠ A[b].nm ∨ A[a].no = A[b].no) := by
     unfold fitB
     rw [decide_eq_true_eq]
     constructor
     ·rintro ⟨h1,h2⟩ (h | h)
      ·exact h h1
      ·exact h2 h
     ·intro h; exact ⟨Decidable.not_not.1 fun g => h (.inl g),fun g => h (.inr g)⟩
    clear hR hQ
    generalize hx : A[a] = x at *
    generalize hy : A[b] = y at *
    cases hbb : fitB x y with
    | false =>
     rw [hbb] at hft hfb
     rw [if_pos (Decidable.not_not.1 fun g => Bool.noConfusion (hfb.2 g))] at hR2
     subst hR2
     have hf5 := hf 5 i
     apply hQ2
     clear hQ2 ih
     (refine Sg.h ?_;try repeat' ((first | (with_reducible first|refine brA ?_|refine brE fun _=>?_|refine spl ⟨?_,?_⟩<;>intro _) | refine clo hft ?_ | refine clo hf5 ?_) <;> ((try simp -implicitDefEqProofs [ha,hb,hx,hy,hil,hpq]); (try simp -implicitDefEqProofs(disch:=first|assumption|(try simp only[lens]);omega -splitDisjunctions) [ha,hb,hx,hy,hil,hpq]))))
    | true =>
     rw [hbb] at hft hfb
     rw [if_neg (hfb.1 rfl)] at hR2
     have ih := ih hR2
     apply hQ2
     clear hQ2
     (refine Sg.h ?_;try repeat' ((first | (with_reducible first|refine brA ?_|refine brE fun _=>?_|refine spl ⟨?_,?_⟩<;>intro _) | refine clo hft ?_) <;> ((try simp -implicitDefEqProofs [ha,hb,hx,hy,hil,hpq]); (try simp -implicitDefEqProofs(disch:=first|assumption|(try simp only[lens]);omega -splitDisjunctions) [ha,hb,hx,hy,hil,hpq]))))
     all_goals first | exact ih | (refine at2 ih ?_ ?_ <;> simp; done) | (exfalso; first | omega | (simp_all; done) | (simp_all; omega))
   have one : ∀ (u : List Bool) (hu : u.length = A.length) (next : ∀ u',tick u q = .ok u' → Q2 [(1,.list (ax.map relRow)),(4,.ptr 0 0 0),(6,.list (A.map lnr)),(7,.sl 1 0 A.length),(8,.int .i64 (i : Int)),(9,.int .i64 2)] [.rows 2 [[.int .i64 0,.int .i64 0]],.rows 1 (u'.map usRow)]) (bad : ∀ c,tick u q = .error c → R = (c,(i : Int))),Q2 [(1,.list (ax.map relRow)),(4,.ptr 0 0 0),(6,.list (A.map lnr)),(7,.sl 1 0 A.length),(8,.int .i64 (i : Int)),(9,.int .i64 1)] [.rows 2 [[.int .i64 0,.int .i64 0]],.rows 1 (u.map usRow)] := by
    intro u hu next bad
    rw [← hu] at next ⊢
    clear two hR ih hQ
    have hAl : (A.length : Int) = (u.length : Int) := by omega
    by_cases g1 : q < 0
    ·have hb := bad 3 (by unfold tick; rw [if_pos (.inl g1)])
     subst hb
     have hf3 := hf 3 i
     apply hQ2
     clear hQ2 next bad
     (refine Sg.h ?_;try repeat' ((first | (with_reducible first|refine brA ?_|refine brE fun _=>?_|refine spl ⟨?_,?_⟩<;>intro _) | refine clo hf3 ?_) <;> ((try simp -implicitDefEqProofs [g1,hil,hpq]); (try simp -implicitDefEqProofs(disch:=first|assumption|(try simp only[lens]);omega -splitDisjunctions) [g1,hil,hpq]))))
    by_cases g2 : (u.length : Int) ≤ q
    ·have hb := bad 3 (by unfold tick; rw [if_pos (.inr g2)])
     subst hb
     have hf3 := hf 3 i
     apply hQ2
     clear hQ2 next bad
     (refine Sg.h ?_;try repeat' ((first | (with_reducible first|refine brA ?_|refine brE fun _=>?_|refine spl ⟨?_,?_⟩<;>intro _) | refine clo hf3 ?_) <;> ((try simp -implicitDefEqProofs [g1,g2,hil,hpq,hAl]); (try simp -implicitDefEqProofs(disch:=first|assumption|(try simp only[lens]);omega -splitDisjunctions) [g1,g2,hil,hpq,hAl]))))
    obtain ⟨k,rfl⟩ : ∃ k : Nat,q = (k : Int) := ⟨q.toNat,by omega⟩
    have hk : k < u.length := by omega
    have ht : ¬ ((k : Int) < 0 ∨ (u.length : Int) ≤ (k : Int)) := by omega
    cases hb : u[k] with
    | true =>
     have hb2 := bad 5 (by unfold tick; rw [if_neg ht,if_pos (by rw [Int.toNat_natCast,getElem!_pos u k hk,hb])])
     subst hb2
     have hf3 := hf 5 i
     apply hQ2
     clear hQ2 next bad
     (refine Sg.h ?_;try repeat' ((first | (with_reducible first|refine brA ?_|refine brE fun _=>?_|refine spl ⟨?_,?_⟩<;>intro _) | refine clo hf3 ?_) <;> ((try simp -implicitDefEqProofs [g1,g2,hk,hb,hil,hpq,hAl,us_t]); (try simp -implicitDefEqProofs(disch:=first|assumption|(try simp only[lens]);omega -splitDisjunctions) [g1,g2,hk,hb,hil,hpq,hAl,us_t]))))
    | false =>
     have next := next (u.set k true) (by unfold tick; rw [if_neg ht,if_neg (by rw [Int.toNat_natCast,getElem!_pos u k hk,hb]; decide),Int.toNat_natCast])
     apply hQ2
     clear hQ2 bad
     (refine Sg.h ?_;try repeat' ((with_reducible first|refine brA ?_|refine brE fun _=>?_|refine spl ⟨?_,?_⟩<;>intro _)<;> ((try simp -implicitDefEqProofs [g1,g2,hk,hb,hil,hpq,hAl,us_f]); (try simp -implicitDefEqProofs(disch:=first|assumption|(try simp only[lens]);omega -splitDisjunctions) [g1,g2,hk,hb,hil,hpq,hAl,us_f]))))
     refine at2 next ?_ ?_
     ·simp
     ·simp [us_t]
   have zero : ∀ (u : List Bool) (hu : u.length = A.length) (next : ∀ u',tick u p = .ok u' → Q2 [(1,.list (ax.map relRow)),(4,.ptr 0 0 0),(6,.list (A.map lnr)),(7,.sl 1 0 A.length),(8,.int .i64 (i : Int)),(9,.int .i64 1)] [.rows 2 [[.int .i64 0,.int .i64 0]],.rows 1 (u'.map usRow)]) (bad : ∀ c,tick u p = .error c → R = (c,(i : Int))),Q2 [(1,.list (ax.map relRow)),(4,.ptr 0 0 0),(6,.list (A.map lnr)),(7,.sl 1 0 A.length),(8,.int .i64 (i : Int)),(9,.int .i64 0)] [.rows 2 [[.int .i64 0,.int .i64 0]],.rows 1 (u.map usRow)] := by
    intro u hu next bad
    rw [← hu] at next ⊢
    clear two one hR ih hQ
    have hAl : (A.length : Int) = (u.length : Int) := by omega
    by_cases g1 : p < 0
    ·have hb := bad 3 (by unfold tick; rw [if_pos (.inl g1)])
     subst hb
     have hf3 := hf 3 i
     apply hQ2
     clear hQ2 next bad
     (refine Sg.h ?_;try repeat' ((first | (with_reducible first|refine brA ?_|refine brE fun _=>?_|refine spl ⟨?_,?_⟩<;>intro _) | refine clo hf3 ?_) <;> ((try simp -implicitDefEqProofs [g1,hil,hpq]); (try simp -implicitDefEqProofs(disch:=first|assumption|(try simp only[lens]);omega -splitDisjunctions) [g1,hil,hpq]))))
    by_cases g2 : (u.length : Int) ≤ p
    ·have hb := bad 3 (by unfold tick; rw [if_pos (.inr g2)])
     subst hb
     have hf3 := hf 3 i
     apply hQ2
     clear hQ2 next bad
     (refine Sg.h ?_;try repeat' ((first | (with_reducible first|refine brA ?_|refine brE fun _=>?_|refine spl ⟨?_,?_⟩<;>intro _) | refine clo hf3 ?_) <;> ((try simp -implicitDefEqProofs [g1,g2,hil,hpq,hAl]); (try simp -implicitDefEqProofs(disch:=first|assumption|(try simp only[lens]);omega -splitDisjunctions) [g1,g2,hil,hpq,hAl]))))
    obtain ⟨k,rfl⟩ : ∃ k : Nat,p = (k : Int) := ⟨p.toNat,by omega⟩
    have hk : k < u.length := by omega
    have ht : ¬ ((k : Int) < 0 ∨ (u.length : Int) ≤ (k : Int)) := by omega
    cases hb : u[k] with
    | true =>
     have hb2 := bad 5 (by unfold tick; rw [if_neg ht,if_pos (by rw [Int.toNat_natCast,getElem!_pos u k hk,hb])])
     subst hb2
     have hf3 := hf 5 i
     apply hQ2
     clear hQ2 next bad
     (refine Sg.h ?_;try repeat' ((first | (with_reducible first|refine brA ?_|refine brE fun _=>?_|refine spl ⟨?_,?_⟩<;>intro _) | refine clo hf3 ?_) <;> ((try simp -implicitDefEqProofs [g1,g2,hk,hb,hil,hpq,hAl,us_t]); (try simp -implicitDefEqProofs(disch:=first|assumption|(try simp only[lens]);omega -splitDisjunctions) [g1,g2,hk,hb,hil,hpq,hAl,us_t]))))
    | false =>
     have next := next (u.set k true) (by unfold tick; rw [if_neg ht,if_neg (by rw [Int.toNat_natCast,getElem!_pos u k hk,hb]; decide),Int.toNat_natCast])
     apply hQ2
     clear hQ2 bad
     (refine Sg.h ?_;try repeat' ((with_reducible first|refine brA ?_|refine brE fun _=>?_|refine spl ⟨?_,?_⟩<;>intro _)<;> ((try simp -implicitDefEqProofs [g1,g2,hk,hb,hil,hpq,hAl,us_f]); (try simp -implicitDefEqProofs(disch:=first|assumption|(try simp only[lens]);omega -splitDisjunctions) [g1,g2,hk,hb,hil,hpq,hAl,us_f]))))
     refine at2 next ?_ ?_
     ·simp
     ·simp [us_t]
   have tk : ∀ {u u' : List Bool} {m : Int},tick u m = .ok u' → u'.length = u.length ∧ 0 ≤ m ∧ m < (u.length : Int) := by
    intro u u' m h
    obtain ⟨k,rfl,h1,h2,rfl⟩ := tick_ok.1 h
    exact ⟨by simp,by omega,by omega⟩
   unfold lkStep at hR
   dsimp only at hR
   refine at2 (zero u hu (fun u1 h1 => ?_) (fun c hc => ?_)) ?_ ?_
   ·rw [h1] at hR
    dsimp only at hR
    have t1 := tk h1
    refine one u1 (by omega) (fun u2 h2 => ?_) (fun c hc => ?_)
    ·rw [h2] at hR
     dsimp only at hR
     have t2 := tk h2
     refine two u2 (by omega) (by omega) (by omega) (by omega) (by omega) ?_
     rw [← hR]
     split <;> rfl
    ·rw [hc] at hR
     exact hR.symm
   ·rw [hc] at hR
    exact hR.symm
   ·rfl
   ·rfl
 refine at2 (main ax.length 0 (List.replicate A.length false) (Nat.zero_add _) (by simp) hR) ?_ ?_
 ·rfl
 ·simp [usRow]
end Go.Proofs.Ytbdionmmfigfiaa
