import Derived.Test.YtbdionmmfigfiaaDNtD
set_option linter.unusedVariables false
set_option linter.unusedSimpArgs false
set_option maxRecDepth 100000
set_option maxHeartbeats 4000000
namespace Go.Proofs.Ytbdionmmfigfiaa
open Go Go.Pv
def lfM (m : Int) (x : Ln) : Int := if (m = 0 ∧ isNameB x.nm = false) ∨ (0 < m ∧ (x.nm ≠ ⟨#[]⟩ ∨ x.no = true)) then 8 else 0
def lfN (x : Ln) : Int := if kidsL x.k < 0 then 4 else if (x.kids.length : Int) ≠ kidsL x.k then 9 else lfM (kidsL x.k) x
def lfL : List Ln → Nat → Int × Int
 | [],_ => (0,0)
 | x :: r,i => if i = 200 then (2,0) else if lfN x ≠ 0 then (lfN x,(i : Int)) else lfL r (i + 1)
def lnFault (l : List Ln) : Int × Int := if l.length < 1 ∨ 20 < l.length then (2,0) else lfL ((ndLs l).take 201) 0
def x26_T1 : XC := .seq (.reg [⟨some 66,.build 29 #[],none⟩,⟨none,.store 29 (.tmp 2) (.tmp 66),none⟩]) .ret
def x26_L0 : XC := .seq (.reg [⟨some 19,.binOp .lss 3 (.tmp 18) (.tmp 17) 3,none⟩]) (.seq (.cond (.tmp 19) .skip (.exit 0)) (.seq (.block 1 (.seq (.reg [⟨some 20,.move (.tmp 18),none⟩,⟨some 21,.indexAddr 22 (.tmp 16) (.tmp 18),none⟩,⟨some 22,.load 24 (.tmp 21),none⟩,⟨some 4,.alloc 24,none⟩,⟨some 3,.assign (.tmp 20),none⟩,⟨none,.store 24 (.tmp 4) (.tmp 22),none⟩]) (.seq (.reg [⟨some 23,.fieldAddr 24 (.tmp 4) 0,none⟩,⟨some 24,.load 3 (.tmp 23),none⟩,⟨some 25,.call ⟨.value (.func 53),#[.tmp 24],#[3]⟩,none⟩,⟨some 5,.assign (.tmp 25),none⟩]) (.block 2 (.seq (.reg [⟨some 27,.move (.tmp 3),none⟩,⟨some 28,.binOp .eql 3 (.tmp 27) (.const (.int .i64 200)) 3,none⟩,⟨some 26,.assign (.tmp 28),none⟩]) (.cond (.tmp 26) (.seq (.reg [⟨some 29,.call ⟨.value (.func 39),#[.const (.int .i64 2),.const (.int .i64 0)],#[3,3]⟩,none⟩,⟨none,.store 29 (.tmp 2) (.tmp 29),none⟩]) .ret) (.seq (.reg [⟨some 31,.move (.tmp 5),none⟩,⟨some 32,.binOp .lss 3 (.tmp 31) (.const (.int .i64 0)) 3,none⟩,⟨some 30,.assign (.tmp 32),none⟩]) (.cond (.tmp 30) (.seq (.reg [⟨some 33,.move (.tmp 3),none⟩,⟨some 34,.call ⟨.value (.func 39),#[.const (.int .i64 4),.tmp 33],#[3,3]⟩,none⟩,⟨none,.store 29 (.tmp 2) (.tmp 34),none⟩]) .ret) (.seq (.reg [⟨some 36,.fieldAddr 24 (.tmp 4) 3,none⟩,⟨some 37,.load 22 (.tmp 36),none⟩,⟨some 38,.call ⟨.builtin .len,#[.tmp 37],#[22]⟩,none⟩,⟨some 39,.move (.tmp 5),none⟩,⟨some 40,.binOp .neq 3 (.tmp 38) (.tmp 39) 3,none⟩,⟨some 35,.assign (.tmp 40),none⟩]) (.cond (.tmp 35) (.seq (.reg [⟨some 41,.move (.tmp 3),none⟩,⟨some 42,.call ⟨.value (.func 39),#[.const (.int .i64 9),.tmp 41],#[3,3]⟩,none⟩,⟨none,.store 29 (.tmp 2) (.tmp 42),none⟩]) .ret) (.seq (.seq (.reg [⟨some 44,.move (.tmp 5),none⟩,⟨some 45,.binOp .eql 3 (.tmp 44) (.const (.int .i64 0)) 3,none⟩,⟨some 46,.move (.tmp 45),none⟩,⟨some 47,.fieldAddr 24 (.tmp 4) 1,some (some 46,true)⟩,⟨some 48,.load 9 (.tmp 47),some (some 46,true)⟩,⟨some 49,.call ⟨.value (.func 54),#[.tmp 48],#[9]⟩,some (some 46,true)⟩,⟨some 50,.unOp .not 4 (.tmp 49),some (some 46,true)⟩,⟨some 51,.pick (.tmp 46) (.tmp 50) (.const (.bool false)),none⟩,⟨some 43,.assign (.tmp 51),none⟩]) (.cond (.tmp 43) .skip (.reg [⟨some 52,.move (.tmp 5),none⟩,⟨some 53,.binOp .gtr 3 (.tmp 52) (.const (.int .i64 0)) 3,none⟩,⟨some 54,.move (.tmp 53),none⟩,⟨some 55,.fieldAddr 24 (.tmp 4) 1,some (some 54,true)⟩,⟨some 56,.load 9 (.tmp 55),some (some 54,true)⟩,⟨some 57,.binOp .neq 9 (.tmp 56) (.const (.string ⟨#[]⟩)) 9,some (some 54,true)⟩,⟨some 58,.move (.tmp 57),some (some 54,true)⟩,⟨some 59,.fieldAddr 24 (.tmp 4) 2,some (some 58,false)⟩,⟨some 60,.load 4 (.tmp 59),some (some 58,false)⟩,⟨some 61,.pick (.tmp 58) (.const (.bool true)) (.tmp 60),some (some 54,true)⟩,⟨some 62,.pick (.tmp 54) (.tmp 61) (.const (.bool false)),none⟩,⟨some 43,.assign (.tmp 62),none⟩]))) (.cond (.tmp 43) (.seq (.reg [⟨some 63,.move (.tmp 3),none⟩,⟨some 64,.call ⟨.value (.func 39),#[.const (.int .i64 8),.tmp 63],#[3,3]⟩,none⟩,⟨none,.store 29 (.tmp 2) (.tmp 64),none⟩]) .ret) .skip)))))))))))) (.reg [⟨some 65,.binOp .add 3 (.tmp 18) (.const (.int .i64 1)) 3,none⟩,⟨some 18,.move (.tmp 65),none⟩])))
def x26 : XC := .seq (.reg [⟨some 2,.alloc 29,none⟩]) (.seq (.seq (.reg [⟨some 6,.move (.tmp 0),none⟩,⟨some 7,.call ⟨.builtin .len,#[.tmp 6],#[22]⟩,none⟩,⟨some 8,.binOp .lss 3 (.tmp 7) (.const (.int .i64 1)) 3,none⟩,⟨some 9,.move (.tmp 8),none⟩,⟨some 10,.move (.tmp 0),some (some 9,false)⟩,⟨some 11,.call ⟨.builtin .len,#[.tmp 10],#[22]⟩,some (some 9,false)⟩,⟨some 12,.binOp .gtr 3 (.tmp 11) (.const (.int .i64 20)) 3,some (some 9,false)⟩,⟨some 13,.pick (.tmp 9) (.const (.bool true)) (.tmp 12),none⟩]) (.cond (.tmp 13) (.seq (.reg [⟨some 14,.call ⟨.value (.func 39),#[.const (.int .i64 2),.const (.int .i64 0)],#[3,3]⟩,none⟩,⟨none,.store 29 (.tmp 2) (.tmp 14),none⟩]) .ret) .skip)) (.seq (.seq (.reg [⟨some 15,.move (.tmp 0),none⟩,⟨some 16,.call ⟨.value (.func 52),#[.tmp 15,.const (.int .i64 201)],#[22,3]⟩,none⟩,⟨some 17,.call ⟨.builtin .len,#[.tmp 16],#[22]⟩,none⟩,⟨some 18,.move (.const (.int .i64 0)),none⟩]) (.bloop 0 x26_L0)) (x26_T1)))
@[simp] theorem x26_s {C e s K} : type_of% (@X_at C e s K _ _ x26_T1.eq_1) ∧ type_of% (@X_at C e s K _ _ x26_L0.eq_1) ∧ type_of% (@X_at C e s K _ _ x26.eq_1) := ⟨X_at x26_T1.eq_1,X_at x26_L0.eq_1,X_at x26.eq_1⟩
def an26 : Ann := ⟨[],[(0,[],[2,16,17,18],[2])],[]⟩
@[simp] theorem an26_a : an26.loopOf 0 = ([],[2,16,17,18],[2]) := rfl
theorem fi26 : FI Try.prog 26 (cxA an26) x26 [.cell 2 29] Try.f26 := fiA Try.func26 mixed
theorem Check_net (l : List Ln) : CallOK Try.prog 26 [.list (l.map lnr)] [] (.agg [.int .i64 (lnFault l).1,.int .i64 (lnFault l).2]) [] := by
 have hf := fun c a => fault_net c a
 refine fi26.op ?_
 unfold lnFault
 by_cases h0 : l.length < 1
 ·rw [if_pos (.inl h0)]
  have h0' : (l.length : Int) < 1 := by omega
  (refine Sg.h ?_;try repeat' ((first | (with_reducible first|refine brA ?_|refine brE fun _=>?_|refine spl ⟨?_,?_⟩<;>intro _) | refine clo (hf 2 0) ?_) <;> ((try simp -implicitDefEqProofs [h0']); (try simp -implicitDefEqProofs(disch:=first|assumption|(try simp only[lens]);omega -splitDisjunctions) [h0']))))
 have h0' : ¬ (l.length : Int) < 1 := by omega
 by_cases h1 : 20 < l.length
 ·rw [if_pos (.inr h1)]
  have h1' : (20 : Int) < (l.length : Int) := by omega
  (refine Sg.h ?_;try repeat' ((first | (with_reducible first|refine brA ?_|refine brE fun _=>?_|refine spl ⟨?_,?_⟩<;>intro _) | refine clo (hf 2 0) ?_) <;> ((try simp -implicitDefEqProofs [h0',h1']); (try simp -implicitDefEqProofs(disch:=first|assumption|(try simp only[lens]);omega -splitDisjunctions) [h0',h1']))))
 have h1' : ¬ (20 : Int) < (l.length : Int) := by omega
 rw [if_neg (by omega)]
 have hw := walk_net l (by omega) (by omega) 201 (by decide) (by decide)
 rw [goL_take _ _ _ (by decide)] at hw
 have hlen : ((ndLs l).take 201).length ≤ 201 := by rw [List.length_take]; omega
 generalize (ndLs l).take 201 = L at *
 obtain ⟨R,hR⟩ : ∃ R,lfL L 0 = R := ⟨_,rfl⟩
 rw [hR]
 (refine Sg.h ?_;try repeat' ((first | (with_reducible first|refine brA ?_|refine brE fun _=>?_|refine spl ⟨?_,?_⟩<;>intro _) | refine clo hw ?_) <;> ((try simp -implicitDefEqProofs [h0',h1']); (try simp -implicitDefEqProofs(disch:=first|assumption|(try simp only[lens]);omega -splitDisjunctions) [h0',h1']))))
 refine W_of fun Q hQ => ?_
 have main : ∀ n i : Nat,i + n = L.length → lfL (L.drop i) i = R → Q [(2,.ptr 0 0 0),(16,.list (L.map lnr)),(17,.int .i64 (L.length : Int)),(18,.int .i64 (i : Int))] [.rows 2 [[.int .i64 0,.int .i64 0]]] := by
  intro n
  induction n with
  | zero =>
   intro i hi hR
   rw [List.drop_of_length_le (by omega),lfL] at hR
   subst hR
   apply hQ
   clear hQ
   (refine Sg.h ?_;try repeat' ((with_reducible first|refine brA ?_|refine brE fun _=>?_|refine spl ⟨?_,?_⟩<;>intro _)<;> ((try simp -implicitDefEqProofs); (try simp -implicitDefEqProofs(disch:=first|assumption|(try simp only[lens]);omega -splitDisjunctions)))))
  | succ n ih =>
   intro i hi hR
   have hil : i < L.length := by omega
   have ih := ih (i + 1) (by omega)
   rw [List.drop_eq_getElem_cons hil,lfL] at hR
   have hk := kids_net L[i].k
   have hn := isName_formula L[i].nm []
   generalize hx : L[i] = x at *
   unfold lfN at hR
   by_cases h2 : i = 200
   ·rw [if_pos h2] at hR
    subst hR
    subst h2
    clear ih
    apply hQ
    clear hQ
    (refine Sg.h ?_;try repeat' ((first | (with_reducible first|refine brA ?_|refine brE fun _=>?_|refine spl ⟨?_,?_⟩<;>intro _) | refine clo hk ?_ | refine clo (hf 2 0) ?_) <;> ((try simp -implicitDefEqProofs [hil,hx]); (try simp -implicitDefEqProofs(disch:=first|assumption|(try simp only[lens]);omega -splitDisjunctions) [hil,hx]))))
   rw [if_neg h2] at hR
   have h2' : ¬ (i : Int) = 200 := by omega
   generalize kidsL x.k = m at *
   by_cases h3 : m < 0
   ·rw [if_pos h3,if_pos (by decide)] at hR
    subst hR
    clear ih
    have hf4 := hf 4 i
    apply hQ
    clear hQ
    (refine Sg.h ?_;try repeat' ((first | (with_reducible first|refine brA ?_|refine brE fun _=>?_|refine spl ⟨?_,?_⟩<;>intro _) | refine clo hk ?_ | refine clo hf4 ?_) <;> ((try simp -implicitDefEqProofs [hil,hx,h2',h3]); (try simp -implicitDefEqProofs(disch:=first|assumption|(try simp only[lens]);omega -splitDisjunctions) [hil,hx,h2',h3]))))
   rw [if_neg h3] at hR
   by_cases h4 : (x.kids.length : Int) ≠ m
   ·rw [if_pos h4,if_pos (by decide)] at hR
    subst hR
    clear ih
    have hf4 := hf 9 i
    apply hQ
    clear hQ
    (refine Sg.h ?_;try repeat' ((first | (with_reducible first|refine brA ?_|refine brE fun _=>?_|refine spl ⟨?_,?_⟩<;>intro _) | refine clo hk ?_ | refine clo hf4 ?_) <;> ((try simp -implicitDefEqProofs [hil,hx,h2',h3,h4]); (try simp -implicitDefEqProofs(disch:=first|assumption|(try simp only[lens]);omega -splitDisjunctions) [hil,hx,h2',h3,h4]))))
   rw [if_neg h4] at hR
   have h4 : (x.kids.length : Int) = m := Decidable.not_not.1 h4
   by_cases h5 : m = 0
   ·have h6 : ¬ 0 < m := by omega
    cases hb : isNameB x.nm with
    | false =>
     rw [show lfM m x = 8 from if_pos (.inl ⟨h5,hb⟩),if_pos (by decide)] at hR
     subst hR
     rw [hb] at hn
     clear ih
     have hf4 := hf 8 i
     apply hQ
     clear hQ
     (refine Sg.h ?_;try repeat' ((first | (with_reducible first|refine brA ?_|refine brE fun _=>?_|refine spl ⟨?_,?_⟩<;>intro _) | refine clo hk ?_ | refine clo hn ?_ | refine clo hf4 ?_) <;> ((try simp -implicitDefEqProofs [hil,hx,h2',h3,h4,h5,h6]); (try simp -implicitDefEqProofs(disch:=first|assumption|(try simp only[lens]);omega -splitDisjunctions) [hil,hx,h2',h3,h4,h5,h6]))))
    | true =>
     rw [show lfM m x = 0 from if_neg (by rintro (h | h); rw [hb] at h; exact absurd h.2 (by decide); exact h6 h.1),if_neg (by decide)] at hR
     rw [hb] at hn
     have ih := ih hR
     apply hQ
     clear hQ
     (refine Sg.h ?_;try repeat' ((first | (with_reducible first|refine brA ?_|refine brE fun _=>?_|refine spl ⟨?_,?_⟩<;>intro _) | refine clo hk ?_ | refine clo hn ?_) <;> ((try simp -implicitDefEqProofs [hil,hx,h2',h3,h4,h5,h6]); (try simp -implicitDefEqProofs(disch:=first|assumption|(try simp only[lens]);omega -splitDisjunctions) [hil,hx,h2',h3,h4,h5,h6]))))
     all_goals first | exact ih | (refine at2 ih ?_ ?_ <;> simp; done) | (exfalso; first | omega | (simp_all; done) | (simp_all; omega))
   ·have h6 : 0 < m := by omega
    by_cases h7 : x.nm = ⟨#[]⟩
    ·cases hb : x.no with
     | true =>
      rw [show lfM m x = 8 from if_pos (.inr ⟨h6,.inr hb⟩),if_pos (by decide)] at hR
      subst hR
      clear ih
      have hf4 := hf 8 i
      apply hQ
      clear hQ
      (refine Sg.h ?_;try repeat' ((first | (with_reducible first|refine brA ?_|refine brE fun _=>?_|refine spl ⟨?_,?_⟩<;>intro _) | refine clo hk ?_ | refine clo hf4 ?_) <;> ((try simp -implicitDefEqProofs [hil,hx,h2',h3,h4,h5,h6,h7,hb]); (try simp -implicitDefEqProofs(disch:=first|assumption|(try simp only[lens]);omega -splitDisjunctions) [hil,hx,h2',h3,h4,h5,h6,h7,hb]))))
     | false =>
      rw [show lfM m x = 0 from if_neg (by rintro (h | h); exact h5 h.1; rcases h.2 with h | h; exact h h7; rw [hb] at h; cases h),if_neg (by decide)] at hR
      have ih := ih hR
      apply hQ
      clear hQ
      (refine Sg.h ?_;try repeat' ((first | (with_reducible first|refine brA ?_|refine brE fun _=>?_|refine spl ⟨?_,?_⟩<;>intro _) | refine clo hk ?_) <;> ((try simp -implicitDefEqProofs [hil,hx,h2',h3,h4,h5,h6,h7,hb]); (try simp -implicitDefEqProofs(disch:=first|assumption|(try simp only[lens]);omega -splitDisjunctions) [hil,hx,h2',h3,h4,h5,h6,h7,hb]))))
      all_goals first | exact ih | (refine at2 ih ?_ ?_ <;> simp; done) | (exfalso; first | omega | (simp_all; done) | (simp_all; omega))
    ·rw [show lfM m x = 8 from if_pos (.inr ⟨h6,.inl h7⟩),if_pos (by decide)] at hR
     subst hR
     clear ih
     have hf4 := hf 8 i
     apply hQ
     clear hQ
     (refine Sg.h ?_;try repeat' ((first | (with_reducible first|refine brA ?_|refine brE fun _=>?_|refine spl ⟨?_,?_⟩<;>intro _) | refine clo hk ?_ | refine clo hf4 ?_) <;> ((try simp -implicitDefEqProofs [hil,hx,h2',h3,h4,h5,h6,h7]); (try simp -implicitDefEqProofs(disch:=first|assumption|(try simp only[lens]);omega -splitDisjunctions) [hil,hx,h2',h3,h4,h5,h6,h7]))))
 all_goals first | exact main L.length 0 (Nat.zero_add _) hR | (refine at2 main L.length 0 (Nat.zero_add _) hR ?_ ?_ <;> simp; done) | (exfalso; first | omega | (simp_all; done) | (simp_all; omega))
end Go.Proofs.Ytbdionmmfigfiaa
