import Derived.Test.YtbdionmmfigfiaaDNtE
set_option linter.unusedVariables false
set_option linter.unusedSimpArgs false
set_option maxRecDepth 100000
set_option maxHeartbeats 4000000
namespace Go.Proofs.Ytbdionmmfigfiaa
open Go Go.Pv
def indexB (l : List Bool) (v : Bool) : Int := match l.findIdx? (fun x => decide (v = x)) with
 | some i => (i : Int)
 | none => -1
def x41_L0 : XC := .seq (.reg [⟨some 9,.binOp .lss 3 (.tmp 8) (.tmp 7) 3,none⟩]) (.seq (.cond (.tmp 9) .skip (.exit 0)) (.seq (.block 1 (.seq (.reg [⟨some 10,.move (.tmp 8),none⟩,⟨some 5,.assign (.tmp 10),none⟩]) (.seq (.reg [⟨some 11,.move (.tmp 1),none⟩,⟨some 12,.move (.tmp 0),none⟩,⟨some 13,.move (.tmp 5),none⟩,⟨some 14,.indexAddr 64 (.tmp 12) (.tmp 13),none⟩,⟨some 15,.load 4 (.tmp 14),none⟩,⟨some 16,.binOp .eql 4 (.tmp 11) (.tmp 15) 4,none⟩]) (.cond (.tmp 16) (.seq (.reg [⟨some 17,.move (.tmp 5),none⟩,⟨some 4,.assign (.tmp 17),none⟩]) .ret) .skip)))) (.reg [⟨some 18,.binOp .add 3 (.tmp 8) (.const (.int .i64 1)) 3,none⟩,⟨some 8,.move (.tmp 18),none⟩])))
def x41 : XC := .seq (.reg [⟨some 4,.assign (.const (.int .i64 0)),none⟩]) (.seq (.seq (.reg [⟨some 6,.move (.tmp 0),none⟩,⟨some 7,.call ⟨.builtin .len,#[.tmp 6],#[64]⟩,none⟩,⟨some 8,.move (.const (.int .i64 0)),none⟩]) (.bloop 0 x41_L0)) (.seq (.reg [⟨some 4,.assign (.const (.int .i64 (-1))),none⟩]) .ret))
@[simp] theorem x41_s {C e s K} : type_of% (@X_at C e s K _ _ x41_L0.eq_1) ∧ type_of% (@X_at C e s K _ _ x41.eq_1) := ⟨X_at x41_L0.eq_1,X_at x41.eq_1⟩
def an41 : Ann := ⟨[],[(0,[],[0,1,7,8],[4])],[]⟩
@[simp] theorem an41_a : an41.loopOf 0 = ([],[0,1,7,8],[4]) := rfl
theorem fi41 : FI Try.prog 41 (cxA an41) x41 [.tmp 4] Try.f41 := fiA Try.func41 mixed
theorem Index_bools (l : List Bool) (v : Bool) (hl : l.length ≤ 1000) : CallOK Try.prog 41 [.list (l.map boolRow),.bool v] [] (.int .i64 (indexB l v)) [] := by
 refine fi41.op ?_
 (refine Sg.h ?_;try repeat' ((with_reducible first|refine brA ?_|refine brE fun _=>?_|refine spl ⟨?_,?_⟩<;>intro _)<;> ((try simp -implicitDefEqProofs); (try simp -implicitDefEqProofs(disch:=first|assumption|(try simp only[lens]);omega -splitDisjunctions)))))
 refine W_of fun Q hQ => ?_
 have main : ∀ k i,i + k = l.length → (∀ j (h : j < l.length),j < i → v ≠ l[j]) → Q [(0,.list (l.map boolRow)),(1,.bool v),(7,.int .i64 (l.length : Int)),(8,.int .i64 (i : Int))] [] := by
  intro k
  induction k with
  | zero =>
   intro i hi hb
   have hx : indexB l v = -1 := by
    unfold indexB
    rw [List.findIdx?_eq_none_iff.2]
    intro x hx
    obtain ⟨j,hj,rfl⟩ := List.mem_iff_getElem.1 hx
    simpa using hb j hj (by omega)
   apply hQ
   (refine Sg.h ?_;try repeat' ((with_reducible first|refine brA ?_|refine brE fun _=>?_|refine spl ⟨?_,?_⟩<;>intro _)<;> ((try simp -implicitDefEqProofs); (try simp -implicitDefEqProofs(disch:=first|assumption|(try simp only[lens]);omega -splitDisjunctions)))))
   all_goals simp [hx]
  | succ k ih =>
   intro i hi hb
   have hil : i < l.length := by omega
   have ih := ih (i + 1) (by omega)
   by_cases hv : v = l[i]
   ·have hx : indexB l v = i := by
     unfold indexB
     have : l.findIdx? (fun x => decide (v = x)) = some i := by
      rw [List.findIdx?_eq_some_iff_getElem]
      exact ⟨hil,by simpa using hv,fun j hj => by simpa using hb j (by omega) hj⟩
     rw [this]
    apply hQ
    clear hQ ih
    (refine Sg.h ?_;try repeat' ((with_reducible first|refine brA ?_|refine brE fun _=>?_|refine spl ⟨?_,?_⟩<;>intro _)<;> ((try simp -implicitDefEqProofs [hil]); (try simp -implicitDefEqProofs(disch:=first|assumption|(try simp only[lens]);omega -splitDisjunctions) [hil]))))
    all_goals simp_all
   ·have ih := ih (fun j h hj => by
     by_cases e : j = i
     ·subst e; exact hv
     ·exact hb j h (by omega))
    apply hQ
    clear hQ
    (refine Sg.h ?_;try repeat' ((with_reducible first|refine brA ?_|refine brE fun _=>?_|refine spl ⟨?_,?_⟩<;>intro _)<;> ((try simp -implicitDefEqProofs [hil,hv]); (try simp -implicitDefEqProofs(disch:=first|assumption|(try simp only[lens]);omega -splitDisjunctions) [hil,hv]))))
    all_goals simp_all
 refine at2 (main _ 0 (Nat.zero_add _) (fun j h hj => by omega)) ?_ ?_ <;> simp
def tick (u : List Bool) (n : Int) : Except Int (List Bool) := if n < 0 ∨ (u.length : Int) ≤ n then .error 3 else if u[n.toNat]! = true then .error 5 else .ok (u.set n.toNat true)
def lkStep (at0 : List Ln) (u : List Bool) (a : Int × Int) : Except Int (List Bool) := match tick u a.1 with
 | .error c => .error c
 | .ok u1 => match tick u1 a.2 with
  | .error c => .error c
  | .ok u2 => if at0[a.1.toNat]!.nm ≠ at0[a.2.toNat]!.nm ∨ at0[a.1.toNat]!.no = at0[a.2.toNat]!.no then .error 5 else .ok u2
def lkEnd (u : List Bool) : Int × Int := if 0 ≤ indexB u false then (9,indexB u false) else (0,0)
def lkL (at0 : List Ln) : List (Int × Int) → Nat → List Bool → Int × Int
 | [],_,u => lkEnd u
 | a :: r,i,u => match lkStep at0 u a with
  | .error c => (c,(i : Int))
  | .ok u' => lkL at0 r (i + 1) u'
def lkF (l : List Ln) (ax : List (Int × Int)) : Int × Int := if (lnFault l).1 ≠ 0 then lnFault l else if (lvs l).length < ax.length then (2,0) else lkL (lvs l) ax 0 (List.replicate (lvs l).length false)
def x35_T3 : XC := .seq (.seq (.reg [⟨some 88,.move (.tmp 7),none⟩,⟨some 89,.call ⟨.value (.func 41),#[.tmp 88,.const (.bool false)],#[64,4]⟩,none⟩,⟨some 14,.assign (.tmp 89),none⟩]) (.seq (.reg [⟨some 90,.move (.tmp 14),none⟩,⟨some 91,.binOp .geq 3 (.tmp 90) (.const (.int .i64 0)) 3,none⟩]) (.cond (.tmp 91) (.seq (.reg [⟨some 92,.move (.tmp 14),none⟩,⟨some 93,.call ⟨.value (.func 39),#[.const (.int .i64 9),.tmp 92],#[3,3]⟩,none⟩,⟨none,.store 29 (.tmp 4) (.tmp 93),none⟩]) .ret) .skip))) (.seq (.reg [⟨some 94,.build 29 #[],none⟩,⟨none,.store 29 (.tmp 4) (.tmp 94),none⟩]) .ret)
def x35_T2 : XC := .seq (.drawn 20 [⟨some 63,.move (.tmp 6),none⟩,⟨some 64,.indexAddr 33 (.tmp 9) (.const (.int .i64 0)),none⟩,⟨some 65,.load 3 (.tmp 64),none⟩,⟨some 66,.indexAddr 22 (.tmp 63) (.tmp 65),none⟩,⟨some 67,.load 24 (.tmp 66),none⟩,⟨some 68,.move (.tmp 6),none⟩,⟨some 69,.indexAddr 33 (.tmp 9) (.const (.int .i64 1)),none⟩,⟨some 70,.load 3 (.tmp 69),none⟩,⟨some 71,.indexAddr 22 (.tmp 68) (.tmp 70),none⟩,⟨some 72,.load 24 (.tmp 71),none⟩,⟨some 12,.alloc 24,none⟩,⟨some 13,.alloc 24,none⟩,⟨none,.store 24 (.tmp 12) (.tmp 67),none⟩,⟨none,.store 24 (.tmp 13) (.tmp 72),none⟩]) (.seq (.reg [⟨some 73,.fieldAddr 24 (.tmp 12) 1,none⟩,⟨some 74,.load 9 (.tmp 73),none⟩,⟨some 75,.fieldAddr 24 (.tmp 13) 1,none⟩,⟨some 76,.load 9 (.tmp 75),none⟩,⟨some 77,.binOp .neq 9 (.tmp 74) (.tmp 76) 9,none⟩,⟨some 78,.move (.tmp 77),none⟩,⟨some 79,.fieldAddr 24 (.tmp 12) 2,some (some 78,false)⟩,⟨some 80,.load 4 (.tmp 79),some (some 78,false)⟩,⟨some 81,.fieldAddr 24 (.tmp 13) 2,some (some 78,false)⟩,⟨some 82,.load 4 (.tmp 81),some (some 78,false)⟩,⟨some 83,.binOp .eql 4 (.tmp 80) (.tmp 82) 4,some (some 78,false)⟩,⟨some 84,.pick (.tmp 78) (.const (.bool true)) (.tmp 83),none⟩]) (.cond (.tmp 84) (.seq (.reg [⟨some 85,.move (.tmp 8),none⟩,⟨some 86,.call ⟨.value (.func 39),#[.const (.int .i64 5),.tmp 85],#[3,3]⟩,none⟩,⟨none,.store 29 (.tmp 4) (.tmp 86),none⟩]) .ret) .skip))
def x35_L2 : XC := .seq (.reg [⟨some 41,.binOp .lss 3 (.tmp 40) (.const (.int .i64 2)) 3,none⟩]) (.seq (.cond (.tmp 41) .skip (.exit 2)) (.seq (.block 3 (.seq (.reg [⟨some 42,.index 33 (.tmp 39) (.tmp 40),none⟩,⟨some 11,.assign (.tmp 42),none⟩]) (.seq (.seq (.reg [⟨some 43,.move (.tmp 11),none⟩,⟨some 44,.binOp .lss 3 (.tmp 43) (.const (.int .i64 0)) 3,none⟩,⟨some 45,.move (.tmp 44),none⟩,⟨some 46,.move (.tmp 11),some (some 45,false)⟩,⟨some 47,.move (.tmp 6),some (some 45,false)⟩,⟨some 48,.call ⟨.builtin .len,#[.tmp 47],#[22]⟩,some (some 45,false)⟩,⟨some 49,.binOp .geq 3 (.tmp 46) (.tmp 48) 3,some (some 45,false)⟩,⟨some 50,.pick (.tmp 45) (.const (.bool true)) (.tmp 49),none⟩]) (.cond (.tmp 50) (.seq (.reg [⟨some 51,.move (.tmp 8),none⟩,⟨some 52,.call ⟨.value (.func 39),#[.const (.int .i64 3),.tmp 51],#[3,3]⟩,none⟩,⟨none,.store 29 (.tmp 4) (.tmp 52),none⟩]) .ret) .skip)) (.seq (.seq (.reg [⟨some 53,.move (.tmp 7),none⟩,⟨some 54,.move (.tmp 11),none⟩,⟨some 55,.indexAddr 64 (.tmp 53) (.tmp 54),none⟩,⟨some 56,.load 4 (.tmp 55),none⟩]) (.cond (.tmp 56) (.seq (.reg [⟨some 57,.move (.tmp 8),none⟩,⟨some 58,.call ⟨.value (.func 39),#[.const (.int .i64 5),.tmp 57],#[3,3]⟩,none⟩,⟨none,.store 29 (.tmp 4) (.tmp 58),none⟩]) .ret) .skip)) (.reg [⟨some 59,.move (.tmp 7),none⟩,⟨some 60,.move (.tmp 11),none⟩,⟨some 61,.indexAddr 64 (.tmp 59) (.tmp 60),none⟩,⟨none,.store 4 (.tmp 61) (.const (.bool true)),none⟩]))))) (.reg [⟨some 62,.binOp .add 3 (.tmp 40) (.const (.int .i64 1)) 3,none⟩,⟨some 40,.move (.tmp 62),none⟩])))
def x35_L0 : XC := .seq (.reg [⟨some 35,.binOp .lss 3 (.tmp 34) (.tmp 33) 3,none⟩]) (.seq (.cond (.tmp 35) .skip (.exit 0)) (.seq (.block 1 (.seq (.reg [⟨some 36,.move (.tmp 34),none⟩,⟨some 37,.indexAddr 25 (.tmp 32) (.tmp 34),none⟩,⟨some 38,.load 33 (.tmp 37),none⟩,⟨some 9,.alloc 33,none⟩,⟨some 8,.assign (.tmp 36),none⟩,⟨none,.store 33 (.tmp 9) (.tmp 38),none⟩]) (.seq (.seq (.reg [⟨some 39,.load 33 (.tmp 9),none⟩,⟨some 40,.move (.const (.int .i64 0)),none⟩]) (.bloop 2 x35_L2)) (x35_T2)))) (.reg [⟨some 87,.binOp .add 3 (.tmp 34) (.const (.int .i64 1)) 3,none⟩,⟨some 34,.move (.tmp 87),none⟩])))
def x35 : XC := .seq (.reg [⟨some 4,.alloc 29,none⟩]) (.seq (.seq (.reg [⟨some 15,.move (.tmp 0),none⟩,⟨some 16,.call ⟨.value (.func 26),#[.tmp 15],#[22]⟩,none⟩,⟨some 5,.alloc 29,none⟩,⟨none,.store 29 (.tmp 5) (.tmp 16),none⟩]) (.seq (.reg [⟨some 17,.fieldAddr 29 (.tmp 5) 0,none⟩,⟨some 18,.load 3 (.tmp 17),none⟩,⟨some 19,.binOp .neq 3 (.tmp 18) (.const (.int .i64 0)) 3,none⟩]) (.cond (.tmp 19) (.seq (.reg [⟨some 20,.load 29 (.tmp 5),none⟩,⟨none,.store 29 (.tmp 4) (.tmp 20),none⟩]) .ret) .skip))) (.seq (.reg [⟨some 21,.move (.tmp 0),none⟩,⟨some 22,.call ⟨.value (.func 38),#[.tmp 21],#[22]⟩,none⟩,⟨some 6,.assign (.tmp 22),none⟩]) (.seq (.seq (.reg [⟨some 23,.move (.tmp 1),none⟩,⟨some 24,.call ⟨.builtin .len,#[.tmp 23],#[25]⟩,none⟩,⟨some 25,.move (.tmp 6),none⟩,⟨some 26,.call ⟨.builtin .len,#[.tmp 25],#[22]⟩,none⟩,⟨some 27,.binOp .gtr 3 (.tmp 24) (.tmp 26) 3,none⟩]) (.cond (.tmp 27) (.seq (.reg [⟨some 28,.call ⟨.value (.func 39),#[.const (.int .i64 2),.const (.int .i64 0)],#[3,3]⟩,none⟩,⟨none,.store 29 (.tmp 4) (.tmp 28),none⟩]) .ret) .skip)) (.seq (.reg [⟨some 29,.move (.tmp 6),none⟩,⟨some 30,.call ⟨.builtin .len,#[.tmp 29],#[22]⟩,none⟩,⟨some 31,.makeSlice 64 (.tmp 30) (.tmp 30),none⟩,⟨some 7,.assign (.tmp 31),none⟩]) (.seq (.seq (.reg [⟨some 32,.move (.tmp 1),none⟩,⟨some 33,.call ⟨.builtin .len,#[.tmp 32],#[25]⟩,none⟩,⟨some 34,.move (.const (.int .i64 0)),none⟩]) (.bloop 0 x35_L0)) (x35_T3))))))
@[simp] theorem x35_s {C e s K} : type_of% (@X_at C e s K _ _ x35_T3.eq_1) ∧ type_of% (@X_at C e s K _ _ x35_T2.eq_1) ∧ type_of% (@X_at C e s K _ _ x35_L2.eq_1) ∧ type_of% (@X_at C e s K _ _ x35_L0.eq_1) ∧ type_of% (@X_at C e s K _ _ x35.eq_1) := ⟨X_at x35_T3.eq_1,X_at x35_T2.eq_1,X_at x35_L2.eq_1,X_at x35_L0.eq_1,X_at x35.eq_1⟩
@[simp] def tr35_20 : MT := .op 0 (.op 1 (.op 2 (.op 3 (.op 4 (.op 5 (.op 6 (.op 7 (.op 8 (.op 9 (.br (.op 10 (.ck 1 (.ck 2 (.ck 3 (.ck 4 (.ck 6 (.ck 7 (.ck 8 (.ck 9 (.op 11 (.ck 1 (.ck 2 (.ck 3 (.ck 4 (.ck 6 (.ck 7 (.ck 8 (.ck 9 (.op 12 (.ck 6 (.ck 7 (.ck 8 (.ck 9 (.op 13 .fin)))))))))))))))))))))))) (.op 11 (.ck 1 (.ck 2 (.ck 3 (.ck 4 (.ck 6 (.ck 7 (.ck 8 (.ck 9 (.op 10 (.ck 1 (.ck 2 (.ck 3 (.ck 4 (.ck 6 (.ck 7 (.ck 8 (.ck 9 (.op 12 (.ck 6 (.ck 7 (.ck 8 (.ck 9 (.op 13 .fin))))))))))))))))))))))))))))))))))
def an35 : Ann := ⟨[(20,.tree tr35_20)],[(2,[],[4,6,7,8,9,32,33,34,39,40],[4,6,7,8,9,32,33,34]),(0,[],[4,6,7,32,33,34],[4,7])],[]⟩
@[simp] theorem an35_a : an35.clsOf 20 = .tree tr35_20 ∧ an35.frzOf 20 = [] ∧ an35.loopOf 2 = ([],[4,6,7,8,9,32,33,34,39,40],[4,6,7,8,9,32,33,34]) ∧ an35.loopOf 0 = ([],[4,6,7,32,33,34],[4,7]) := ⟨rfl,rfl,rfl,rfl⟩
theorem fi35 : FI Try.prog 35 (cxA an35) x35 [.cell 4 29] Try.f35 := fiA Try.func35 mixed
theorem links_net (l : List Ln) (ax : List (Int × Int)) : CallOK Try.prog 35 [.list (l.map lnr),.list (ax.map relRow)] [] (.agg [.int .i64 (lkF l ax).1,.int .i64 (lkF l ax).2]) [] := by
 have hf := fun c a => fault_net c a
 have hc := Check_net l
 refine fi35.op ?_
 unfold lkF
 by_cases h0 : (lnFault l).1 ≠ 0
 ·rw [if_pos h0]
  (refine Sg.h ?_;try repeat' ((first | (with_reducible first|refine brA ?_|refine brE fun _=>?_|refine spl ⟨?_,?_⟩<;>intro _) | refine clo hc ?_) <;> ((try simp -implicitDefEqProofs [h0]); (try simp -implicitDefEqProofs(disch:=first|assumption|(try simp only[lens]);omega -splitDisjunctions) [h0]))))
 rw [if_neg h0]
 have h0 : (lnFault l).1 = 0 := Decidable.not_not.1 h0
 have hl : 1 ≤ l.length ∧ l.length ≤ 20 := by
  unfold lnFault at h0
  split at h0
  ·cases h0
  ·omega
 have hv := leaves_net l (by omega) (by omega)
 have hvl : (lvs l).length ≤ 200 := by
  unfold lvs
  refine Nat.le_trans (List.length_filter_le _ _) ?_
  rw [List.length_take]; omega
 generalize (lnFault l).2 = z at *
 rw [h0] at hc
 generalize lvs l = A at *
 by_cases h1 : A.length < ax.length
 ·rw [if_pos h1]
  have h1' : (A.length : Int) < (ax.length : Int) := by omega
  (refine Sg.h ?_;try repeat' ((first | (with_reducible first|refine brA ?_|refine brE fun _=>?_|refine spl ⟨?_,?_⟩<;>intro _) | refine clo hc ?_ | refine clo hv ?_ | refine clo (hf 2 0) ?_) <;> ((try simp -implicitDefEqProofs [h1']); (try simp -implicitDefEqProofs(disch:=first|assumption|(try simp only[lens]);omega -splitDisjunctions) [h1']))))
 rw [if_neg h1]
 have h1' : ¬ (A.length : Int) < (ax.length : Int) := by omega
 obtain ⟨R,hR⟩ : ∃ R,lkL A ax 0 (List.replicate A.length false) = R := ⟨_,rfl⟩
 rw [hR]
 (refine Sg.h ?_;try repeat' ((first | (with_reducible first|refine brA ?_|refine brE fun _=>?_|refine spl ⟨?_,?_⟩<;>intro _) | refine clo hc ?_ | refine clo hv ?_) <;> ((try simp -implicitDefEqProofs [h1']); (try simp -implicitDefEqProofs(disch:=first|assumption|(try simp only[lens]);omega -splitDisjunctions) [h1']))))
 refine W_of fun Q hQ => ?_
 have main : ∀ n i (u : List Bool),i + n = ax.length → u.length = A.length → lkL A (ax.drop i) i u = R → Q [(4,.ptr 0 0 0),(6,.list (A.map lnr)),(7,.sl 1 0 A.length),(32,.list (ax.map relRow)),(33,.int .i64 (ax.length : Int)),(34,.int .i64 (i : Int))] [.rows 2 [[.int .i64 0,.int .i64 0]],.rows 1 (u.map boolRow)] := by
  intro n
  induction n with
  | zero =>
   intro i u hi hu hR
   rw [List.drop_of_length_le (by omega),lkL] at hR
   subst hR
   have hx := Index_bools u false (by omega)
   unfold lkEnd at hQ
   generalize indexB u false = k at *
   rw [← hu]
   have hf9 := hf 9 k
   by_cases hk : 0 ≤ k
   ·rw [if_pos hk] at hQ
    apply hQ
    clear hQ
    (refine Sg.h ?_;try repeat' ((with_reducible first|refine brA ?_|refine brE fun _=>?_|refine spl ⟨?_,?_⟩<;>intro _)<;> ((try simp -implicitDefEqProofs); (try simp -implicitDefEqProofs(disch:=first|assumption|(try simp only[lens]);omega -splitDisjunctions)))))
    refine CL.giv [1] ?_
    (refine Sg.h ?_;try repeat' ((first | (with_reducible first|refine brA ?_|refine brE fun _=>?_|refine spl ⟨?_,?_⟩<;>intro _) | refine clo hx ?_ | refine clo hf9 ?_) <;> ((try simp -implicitDefEqProofs [hk]); (try simp -implicitDefEqProofs(disch:=first|assumption|(try simp only[lens]);omega -splitDisjunctions) [hk]))))
   ·rw [if_neg hk] at hQ
    apply hQ
    clear hQ
    (refine Sg.h ?_;try repeat' ((with_reducible first|refine brA ?_|refine brE fun _=>?_|refine spl ⟨?_,?_⟩<;>intro _)<;> ((try simp -implicitDefEqProofs); (try simp -implicitDefEqProofs(disch:=first|assumption|(try simp only[lens]);omega -splitDisjunctions)))))
    refine CL.giv [1] ?_
    (refine Sg.h ?_;try repeat' ((first | (with_reducible first|refine brA ?_|refine brE fun _=>?_|refine spl ⟨?_,?_⟩<;>intro _) | refine clo hx ?_) <;> ((try simp -implicitDefEqProofs [hk]); (try simp -implicitDefEqProofs(disch:=first|assumption|(try simp only[lens]);omega -splitDisjunctions) [hk]))))
  | succ n ih =>
   intro i u hi hu hR
   have hil : i < ax.length := by omega
   rw [List.drop_eq_getElem_cons hil,lkL] at hR
   obtain ⟨p,q,hpq⟩ : ∃ p q,ax[i] = (p,q) := ⟨_,_,rfl⟩
   rw [hpq] at hR
   apply hQ
   (refine Sg.h ?_;try repeat' ((with_reducible first|refine brA ?_|refine brE fun _=>?_|refine spl ⟨?_,?_⟩<;>intro _)<;> ((try simp -implicitDefEqProofs [hil,hpq]); (try simp -implicitDefEqProofs(disch:=first|assumption|(try simp only[lens]);omega -splitDisjunctions) [hil,hpq]))))
   refine W_of fun Q2 hQ2 => ?_
   have two : ∀ u2 : List Bool,u2.length = A.length → 0 ≤ p → p < (A.length : Int) → 0 ≤ q → q < (A.length : Int) → (if A[p.toNat]!.nm ≠ A[q.toNat]!.nm ∨ A[p.toNat]!.no = A[q.toNat]!.no then (5,(i : Int)) else lkL A (ax.drop (i + 1)) (i + 1) u2) = R → Q2 [(4,.ptr 0 0 0),(6,.list (A.map lnr)),(7,.sl 1 0 A.length),(8,.int .i64 (i : Int)),(9,.ptr 2 0 0),(32,.list (ax.map relRow)),(33,.int .i64 (ax.length : Int)),(34,.int .i64 (i : Int)),(39,.agg [.int .i64 p,.int .i64 q]),(40,.int .i64 2)] [.rows 2 [[.int .i64 0,.int .i64 0]],.rows 1 (u2.map boolRow),.rows 2 [[.int .i64 p,.int .i64 q]]] := by
    intro u2 hu2 p0 p1 q0 q1 hR2
    obtain ⟨a,rfl⟩ : ∃ a : Nat,p = (a : Int) := ⟨p.toNat,by omega⟩
    obtain ⟨b,rfl⟩ : ∃ b : Nat,q = (b : Int) := ⟨q.toNat,by omega⟩
    have ha : a < A.length := by omega
    have hb : b < A.length := by omega
    rw [Int.toNat_natCast,Int.toNat_natCast,getElem!_pos A a ha,getElem!_pos A b hb] at hR2
    have ih := ih (i + 1) u2 (by omega) hu2
    clear hR hQ
    generalize hx : A[a] = x at *
    generalize hy : A[b] = y at *
    by_cases g1 : x.nm = y.nm
    ·by_cases g2 : x.no = y.no
     ·rw [if_pos (.inr g2)] at hR2
      subst hR2
      have hf5 := hf 5 i
      apply hQ2
      clear hQ2 ih
      (refine Sg.h ?_;try repeat' ((first | (with_reducible first|refine brA ?_|refine brE fun _=>?_|refine spl ⟨?_,?_⟩<;>intro _) | refine clo hf5 ?_) <;> ((try simp -implicitDefEqProofs [ha,hb,hx,hy,g1,g2]); (try simp -implicitDefEqProofs(disch:=first|assumption|(try simp only[lens]);omega -splitDisjunctions) [ha,hb,hx,hy,g1,g2]))))
      refine And.intro ?_ ?_ <;> (refine CL.clo hf5 ?_; (refine Sg.h ?_;try repeat' ((with_reducible first|refine brA ?_|refine brE fun _=>?_|refine spl ⟨?_,?_⟩<;>intro _)<;> ((try simp -implicitDefEqProofs); (try simp -implicitDefEqProofs(disch:=first|assumption|(try simp only[lens]);omega -splitDisjunctions))))))
     ·rw [if_neg (by rintro (h | h); exact h g1; exact g2 h)] at hR2
      have ih := ih hR2
      apply hQ2
      clear hQ2
      have g3 : (x.no == y.no) = false := by simpa using g2
      (refine Sg.h ?_;try repeat' ((with_reducible first|refine brA ?_|refine brE fun _=>?_|refine spl ⟨?_,?_⟩<;>intro _)<;> ((try simp -implicitDefEqProofs [ha,hb,hx,hy,g1,g3]); (try simp -implicitDefEqProofs(disch:=first|assumption|(try simp only[lens]);omega -splitDisjunctions) [ha,hb,hx,hy,g1,g3]))))
      all_goals first | exact ih | (refine at2 ih ?_ ?_ <;> simp; done) | (exfalso; first | omega | (simp_all; done) | (simp_all; omega))
    ·rw [if_pos (.inl g1)] at hR2
     subst hR2
     have hf5 := hf 5 i
     apply hQ2
     clear hQ2 ih
     (refine Sg.h ?_;try repeat' ((first | (with_reducible first|refine brA ?_|refine brE fun _=>?_|refine spl ⟨?_,?_⟩<;>intro _) | refine clo hf5 ?_) <;> ((try simp -implicitDefEqProofs [ha,hb,hx,hy,g1]); (try simp -implicitDefEqProofs(disch:=first|assumption|(try simp only[lens]);omega -splitDisjunctions) [ha,hb,hx,hy,g1]))))
     refine And.intro ?_ ?_ <;> (refine CL.clo hf5 ?_; (refine Sg.h ?_;try repeat' ((with_reducible first|refine brA ?_|refine brE fun _=>?_|refine spl ⟨?_,?_⟩<;>intro _)<;> ((try simp -implicitDefEqProofs); (try simp -implicitDefEqProofs(disch:=first|assumption|(try simp only[lens]);omega -splitDisjunctions))))))
   have one : ∀ (u : List Bool) (hu : u.length = A.length) (next : ∀ u',tick u q = .ok u' → Q2 [(4,.ptr 0 0 0),(6,.list (A.map lnr)),(7,.sl 1 0 A.length),(8,.int .i64 (i : Int)),(9,.ptr 2 0 0),(32,.list (ax.map relRow)),(33,.int .i64 (ax.length : Int)),(34,.int .i64 (i : Int)),(39,.agg [.int .i64 p,.int .i64 q]),(40,.int .i64 2)] [.rows 2 [[.int .i64 0,.int .i64 0]],.rows 1 (u'.map boolRow),.rows 2 [[.int .i64 p,.int .i64 q]]]) (bad : ∀ c,tick u q = .error c → R = (c,(i : Int))),Q2 [(4,.ptr 0 0 0),(6,.list (A.map lnr)),(7,.sl 1 0 A.length),(8,.int .i64 (i : Int)),(9,.ptr 2 0 0),(32,.list (ax.map relRow)),(33,.int .i64 (ax.length : Int)),(34,.int .i64 (i : Int)),(39,.agg [.int .i64 p,.int .i64 q]),(40,.int .i64 1)] [.rows 2 [[.int .i64 0,.int .i64 0]],.rows 1 (u.map boolRow),.rows 2 [[.int .i64 p,.int .i64 q]]] := by
    intro u hu next bad
    rw [← hu] at next ⊢
    clear two hR ih hQ
    by_cases g1 : q < 0
    ·have hb := bad 3 (by unfold tick; rw [if_pos (.inl g1)])
     subst hb
     have hf3 := hf 3 i
     apply hQ2
     clear hQ2 next bad
     (refine Sg.h ?_;try repeat' ((first | (with_reducible first|refine brA ?_|refine brE fun _=>?_|refine spl ⟨?_,?_⟩<;>intro _) | refine clo hf3 ?_) <;> ((try simp -implicitDefEqProofs [g1]); (try simp -implicitDefEqProofs(disch:=first|assumption|(try simp only[lens]);omega -splitDisjunctions) [g1]))))
    by_cases g2 : (u.length : Int) ≤ q
    ·have hb := bad 3 (by unfold tick; rw [if_pos (.inr g2)])
     subst hb
     have hf3 := hf 3 i
     apply hQ2
     clear hQ2 next bad
     (refine Sg.h ?_;try repeat' ((first | (with_reducible first|refine brA ?_|refine brE fun _=>?_|refine spl ⟨?_,?_⟩<;>intro _) | refine clo hf3 ?_) <;> ((try simp -implicitDefEqProofs [g1,g2]); (try simp -implicitDefEqProofs(disch:=first|assumption|(try simp only[lens]);omega -splitDisjunctions) [g1,g2]))))
    obtain ⟨k,rfl⟩ : ∃ k : Nat,q = (k : Int) := ⟨q.toNat,by omega⟩
    have hk : k < u.length := by omega
    have ht : ¬ ((k : Int) < 0 ∨ (u.length : Int) ≤ (k : Int)) := by omega
    cases hb : u[k] with
    | true =>
     have hb2 := bad 5 (by unfold tick; rw [if_neg ht,if_pos (by rw [Int.toNat_natCast,getElem!_pos u k hk,hb])])
     subst hb2
     have hf3 := hf 5 i
     apply hQ2
     clear hQ2 next bad
     (refine Sg.h ?_;try repeat' ((first | (with_reducible first|refine brA ?_|refine brE fun _=>?_|refine spl ⟨?_,?_⟩<;>intro _) | refine clo hf3 ?_) <;> ((try simp -implicitDefEqProofs [g1,g2,hk,hb]); (try simp -implicitDefEqProofs(disch:=first|assumption|(try simp only[lens]);omega -splitDisjunctions) [g1,g2,hk,hb]))))
    | false =>
     have next := next (u.set k true) (by unfold tick; rw [if_neg ht,if_neg (by rw [Int.toNat_natCast,getElem!_pos u k hk,hb]; decide),Int.toNat_natCast])
     apply hQ2
     clear hQ2 bad
     (refine Sg.h ?_;try repeat' ((with_reducible first|refine brA ?_|refine brE fun _=>?_|refine spl ⟨?_,?_⟩<;>intro _)<;> ((try simp -implicitDefEqProofs [g1,g2,hk,hb]); (try simp -implicitDefEqProofs(disch:=first|assumption|(try simp only[lens]);omega -splitDisjunctions) [g1,g2,hk,hb]))))
     refine at2 next ?_ ?_
     ·simp
     ·simp [boolRow_eq]
   have zero : ∀ (u : List Bool) (hu : u.length = A.length) (next : ∀ u',tick u p = .ok u' → Q2 [(4,.ptr 0 0 0),(6,.list (A.map lnr)),(7,.sl 1 0 A.length),(8,.int .i64 (i : Int)),(9,.ptr 2 0 0),(32,.list (ax.map relRow)),(33,.int .i64 (ax.length : Int)),(34,.int .i64 (i : Int)),(39,.agg [.int .i64 p,.int .i64 q]),(40,.int .i64 1)] [.rows 2 [[.int .i64 0,.int .i64 0]],.rows 1 (u'.map boolRow),.rows 2 [[.int .i64 p,.int .i64 q]]]) (bad : ∀ c,tick u p = .error c → R = (c,(i : Int))),Q2 [(4,.ptr 0 0 0),(6,.list (A.map lnr)),(7,.sl 1 0 A.length),(8,.int .i64 (i : Int)),(9,.ptr 2 0 0),(32,.list (ax.map relRow)),(33,.int .i64 (ax.length : Int)),(34,.int .i64 (i : Int)),(39,.agg [.int .i64 p,.int .i64 q]),(40,.int .i64 0)] [.rows 2 [[.int .i64 0,.int .i64 0]],.rows 1 (u.map boolRow),.rows 2 [[.int .i64 p,.int .i64 q]]] := by
    intro u hu next bad
    rw [← hu] at next ⊢
    clear two one hR ih hQ
    by_cases g1 : p < 0
    ·have hb := bad 3 (by unfold tick; rw [if_pos (.inl g1)])
     subst hb
     have hf3 := hf 3 i
     apply hQ2
     clear hQ2 next bad
     (refine Sg.h ?_;try repeat' ((first | (with_reducible first|refine brA ?_|refine brE fun _=>?_|refine spl ⟨?_,?_⟩<;>intro _) | refine clo hf3 ?_) <;> ((try simp -implicitDefEqProofs [g1]); (try simp -implicitDefEqProofs(disch:=first|assumption|(try simp only[lens]);omega -splitDisjunctions) [g1]))))
    by_cases g2 : (u.length : Int) ≤ p
    ·have hb := bad 3 (by unfold tick; rw [if_pos (.inr g2)])
     subst hb
     have hf3 := hf 3 i
     apply hQ2
     clear hQ2 next bad
     (refine Sg.h ?_;try repeat' ((first | (with_reducible first|refine brA ?_|refine brE fun _=>?_|refine spl ⟨?_,?_⟩<;>intro _) | refine clo hf3 ?_) <;> ((try simp -implicitDefEqProofs [g1,g2]); (try simp -implicitDefEqProofs(disch:=first|assumption|(try simp only[lens]);omega -splitDisjunctions) [g1,g2]))))
    obtain ⟨k,rfl⟩ : ∃ k : Nat,p = (k : Int) := ⟨p.toNat,by omega⟩
    have hk : k < u.length := by omega
    have ht : ¬ ((k : Int) < 0 ∨ (u.length : Int) ≤ (k : Int)) := by omega
    cases hb : u[k] with
    | true =>
     have hb2 := bad 5 (by unfold tick; rw [if_neg ht,if_pos (by rw [Int.toNat_natCast,getElem!_pos u k hk,hb])])
     subst hb2
     have hf3 := hf 5 i
     apply hQ2
     clear hQ2 next bad
     (refine Sg.h ?_;try repeat' ((first | (with_reducible first|refine brA ?_|refine brE fun _=>?_|refine spl ⟨?_,?_⟩<;>intro _) | refine clo hf3 ?_) <;> ((try simp -implicitDefEqProofs [g1,g2,hk,hb]); (try simp -implicitDefEqProofs(disch:=first|assumption|(try simp only[lens]);omega -splitDisjunctions) [g1,g2,hk,hb]))))
    | false =>
     have next := next (u.set k true) (by unfold tick; rw [if_neg ht,if_neg (by rw [Int.toNat_natCast,getElem!_pos u k hk,hb]; decide),Int.toNat_natCast])
     apply hQ2
     clear hQ2 bad
     (refine Sg.h ?_;try repeat' ((with_reducible first|refine brA ?_|refine brE fun _=>?_|refine spl ⟨?_,?_⟩<;>intro _)<;> ((try simp -implicitDefEqProofs [g1,g2,hk,hb]); (try simp -implicitDefEqProofs(disch:=first|assumption|(try simp only[lens]);omega -splitDisjunctions) [g1,g2,hk,hb]))))
     refine at2 next ?_ ?_
     ·simp
     ·simp [boolRow_eq]
   have tk : ∀ {u u' : List Bool} {m : Int},tick u m = .ok u' → u'.length = u.length ∧ 0 ≤ m ∧ m < (u.length : Int) := by
    intro u u' m h
    unfold tick at h
    split at h
    ·cases h
    split at h
    ·cases h
    ·cases h
     exact ⟨by simp,by omega,by omega⟩
   unfold lkStep at hR
   dsimp only at hR
   refine at2 (zero u hu (fun u1 h1 => ?_) (fun c hc => ?_)) ?_ ?_
   ·rw [h1] at hR
    dsimp only at hR
    have t1 := tk h1
    refine one u1 (by omega) (fun u2 h2 => ?_) (fun c hc => ?_)
    ·rw [h2] at hR
     dsimp only at hR
     have t2 := tk h2
     refine two u2 (by omega) (by omega) (by omega) (by omega) (by omega) ?_
     rw [← hR]
     split <;> rfl
    ·rw [hc] at hR
     exact hR.symm
   ·rw [hc] at hR
    exact hR.symm
   ·rfl
   ·rfl
 refine at2 (main ax.length 0 (List.replicate A.length false) (Nat.zero_add _) (by simp) hR) ?_ ?_
 ·rfl
 ·simp [boolRow_eq]
end Go.Proofs.Ytbdionmmfigfiaa
namespace Go.Proofs.Ytbdionmmfigfiaa
open Go Go.Pv
inductive Lt where
 | atom (nm : ByteArray) (no : Bool)
 | op (par : Bool) (a b : Lt)
 deriving Inhabited
def lnOf : Lt → Ln
 | .atom nm no => .mk 1 nm no []
 | .op p a b => .mk (if p = true then 3 else 2) ⟨#[]⟩ false [lnOf a,lnOf b]
def szT : Lt → Nat
 | .atom _ _ => 1
 | .op _ a b => 1 + szT a + szT b
def kdT : Lt → List Int
 | .atom _ _ => [1]
 | .op p a b => (if p = true then 3 else 2) :: (kdT a ++ kdT b)
def ksT : Nat → Lt → List (Int × Int)
 | _,.atom _ _ => [(-1,-1)]
 | n,.op _ a b => (((n + 1 : Nat) : Int),((n + 1 + szT a : Nat) : Int)) :: (ksT (n + 1) a ++ ksT (n + 1 + szT a) b)
def lfT : Nat → Lt → List Int
 | n,.atom _ _ => [(n : Int)]
 | n,.op _ a b => lfT (n + 1) a ++ lfT (n + 1 + szT a) b
theorem kdT_len (t : Lt) : (kdT t).length = szT t := by
 induction t with
 | atom => rfl
 | op p a b ha hb => rw [kdT,szT,List.length_cons,List.length_append,ha,hb]; omega
theorem ksT_len (t : Lt) : ∀ n,(ksT n t).length = szT t := by
 induction t with
 | atom => intro n; rfl
 | op p a b ha hb => intro n; rw [ksT,szT,List.length_cons,List.length_append,ha,hb]; omega
theorem lfT_len (t : Lt) : ∀ n,(lfT n t).length ≤ szT t := by
 induction t with
 | atom => intro n; exact Nat.le_refl _
 | op p a b ha hb =>
  intro n
  have h1 := ha (n + 1)
  have h2 := hb (n + 1 + szT a)
  rw [lfT,szT,List.length_append]; omega
def grS (kd : List Int) (ks : List (Int × Int)) (lf rt : List Int) : Store := [.rows 1 [[.ptr 2 0 0]],.rows 1 [[.fn (.func 57) [] [.ptr 0 0 0,.ptr 1 0 0]]],.rows 4 [[.sl 3 0 kd.length,.sl 4 0 ks.length,.sl 5 0 lf.length,.sl 6 0 rt.length]],
 .rows 1 (kd.map intRow),.rows 2 (ks.map relRow),.rows 1 (lf.map intRow),.rows 1 (rt.map intRow)]
def grD (kd : List Int) (ks : List (Int × Int)) (lf rt : List Int) : Store := [.rows 1 [[.ptr 2 0 0]],.rows 1 [[.fn (.func 57) [] [.ptr 0 0 0,.ptr 1 0 0]]],.rows 4 [[.sl 7 0 kd.length,.sl 8 0 ks.length,.sl 9 0 lf.length,.sl 6 0 rt.length]],
 .dead,.dead,.dead,.rows 1 (rt.map intRow),.rows 1 (kd.map intRow),.rows 2 (ks.map relRow),.rows 1 (lf.map intRow)]
def x57 : XC := .seq (.reg [⟨some 3,.box 24 (.tmp 0),none⟩,⟨some 4,.assign (.const (.int .i64 0)),none⟩]) (.seq (.reg [⟨some 8,.load 61 (.tmp 1),none⟩,⟨some 9,.nilCheck (.tmp 8),none⟩,⟨some 10,.fieldAddr 84 (.tmp 9) 0,none⟩,⟨some 11,.load 67 (.tmp 10),none⟩,⟨some 12,.call ⟨.builtin .len,#[.tmp 11],#[67]⟩,none⟩,⟨some 5,.assign (.tmp 12),none⟩]) (.seq (.drawn 2 [⟨some 13,.load 61 (.tmp 1),none⟩,⟨some 14,.load 61 (.tmp 1),none⟩,⟨some 15,.nilCheck (.tmp 14),none⟩,⟨some 16,.fieldAddr 84 (.tmp 15) 0,none⟩,⟨some 17,.load 67 (.tmp 16),none⟩,⟨some 18,.fieldAddr 24 (.tmp 3) 0,none⟩,⟨some 19,.load 3 (.tmp 18),none⟩,⟨some 20,.buildSlice 67 1 #[(0,.tmp 19)],none⟩,⟨some 21,.call ⟨.builtin .append,#[.tmp 17,.tmp 20],#[67,67]⟩,none⟩,⟨some 22,.nilCheck (.tmp 13),none⟩,⟨some 23,.fieldAddr 84 (.tmp 22) 0,none⟩,⟨none,.store 67 (.tmp 23) (.tmp 21),none⟩]) (.seq (.drawn 3 [⟨some 24,.load 61 (.tmp 1),none⟩,⟨some 25,.load 61 (.tmp 1),none⟩,⟨some 26,.nilCheck (.tmp 25),none⟩,⟨some 27,.fieldAddr 84 (.tmp 26) 1,none⟩,⟨some 28,.load 25 (.tmp 27),none⟩,⟨some 29,.build 33 #[(0,.const (.int .i64 (-1))),(1,.const (.int .i64 (-1)))],none⟩,⟨some 30,.buildSlice 25 1 #[(0,.tmp 29)],none⟩,⟨some 31,.call ⟨.builtin .append,#[.tmp 28,.tmp 30],#[25,25]⟩,none⟩,⟨some 32,.nilCheck (.tmp 24),none⟩,⟨some 33,.fieldAddr 84 (.tmp 32) 1,none⟩,⟨none,.store 25 (.tmp 33) (.tmp 31),none⟩]) (.seq (.seq (.reg [⟨some 34,.fieldAddr 24 (.tmp 3) 0,none⟩,⟨some 35,.load 3 (.tmp 34),none⟩,⟨some 36,.binOp .eql 3 (.tmp 35) (.const (.int .i64 1)) 3,none⟩]) (.cond (.tmp 36) (.seq (.drawn 5 [⟨some 37,.load 61 (.tmp 1),none⟩,⟨some 38,.load 61 (.tmp 1),none⟩,⟨some 39,.nilCheck (.tmp 38),none⟩,⟨some 40,.fieldAddr 84 (.tmp 39) 2,none⟩,⟨some 41,.load 67 (.tmp 40),none⟩,⟨some 42,.move (.tmp 5),none⟩,⟨some 43,.buildSlice 67 1 #[(0,.tmp 42)],none⟩,⟨some 44,.call ⟨.builtin .append,#[.tmp 41,.tmp 43],#[67,67]⟩,none⟩,⟨some 45,.nilCheck (.tmp 37),none⟩,⟨some 46,.fieldAddr 84 (.tmp 45) 2,none⟩,⟨none,.store 67 (.tmp 46) (.tmp 44),none⟩]) (.seq (.reg [⟨some 47,.move (.tmp 5),none⟩,⟨some 4,.assign (.tmp 47),none⟩]) .ret)) .skip)) (.seq (.drawn 7 [⟨some 48,.load 75 (.tmp 2),none⟩,⟨some 49,.fieldAddr 24 (.tmp 3) 3,none⟩,⟨some 50,.load 22 (.tmp 49),none⟩,⟨some 51,.indexAddr 22 (.tmp 50) (.const (.int .i64 0)),none⟩,⟨some 52,.load 24 (.tmp 51),none⟩,⟨some 53,.call ⟨.value (.tmp 48),#[.tmp 52],#[24]⟩,none⟩,⟨some 6,.assign (.tmp 53),none⟩]) (.seq (.drawn 8 [⟨some 54,.load 75 (.tmp 2),none⟩,⟨some 55,.fieldAddr 24 (.tmp 3) 3,none⟩,⟨some 56,.load 22 (.tmp 55),none⟩,⟨some 57,.indexAddr 22 (.tmp 56) (.const (.int .i64 1)),none⟩,⟨some 58,.load 24 (.tmp 57),none⟩,⟨some 59,.call ⟨.value (.tmp 54),#[.tmp 58],#[24]⟩,none⟩,⟨some 7,.assign (.tmp 59),none⟩]) (.seq (.reg [⟨some 60,.load 61 (.tmp 1),none⟩,⟨some 61,.nilCheck (.tmp 60),none⟩,⟨some 62,.fieldAddr 84 (.tmp 61) 1,none⟩,⟨some 63,.load 25 (.tmp 62),none⟩,⟨some 64,.move (.tmp 5),none⟩,⟨some 65,.move (.tmp 6),none⟩,⟨some 66,.move (.tmp 7),none⟩,⟨some 67,.build 33 #[(0,.tmp 65),(1,.tmp 66)],none⟩,⟨some 68,.indexAddr 25 (.tmp 63) (.tmp 64),none⟩,⟨none,.store 33 (.tmp 68) (.tmp 67),none⟩]) (.seq (.reg [⟨some 69,.move (.tmp 5),none⟩,⟨some 4,.assign (.tmp 69),none⟩]) .ret))))))))
@[simp] theorem x57_s {C e s K} : type_of% (@X_at C e s K _ _ x57.eq_1) := X_at x57.eq_1
def an57 : Ann := ⟨[(2,.mix3 8 0),(3,.mix3 7 0),(5,.mix3 7 0),(7,.tree (.op 0 (.op 1 (.op 2 (.op 3 (.op 4 (.op 5 (.op 6 .fin)))))))),(8,.tree (.op 0 (.op 1 (.op 2 (.op 3 (.op 4 (.op 5 (.op 6 .fin))))))))],[],[(5,[5])]⟩
@[simp] theorem an57_a : an57.clsOf 2 = .mix3 8 0 ∧ an57.clsOf 3 = .mix3 7 0 ∧ an57.clsOf 5 = .mix3 7 0 ∧ an57.clsOf 7 = .tree (.op 0 (.op 1 (.op 2 (.op 3 (.op 4 (.op 5 (.op 6 .fin))))))) ∧ an57.clsOf 8 = .tree (.op 0 (.op 1 (.op 2 (.op 3 (.op 4 (.op 5 (.op 6 .fin))))))) ∧ an57.frzOf 2 = [] ∧ an57.frzOf 3 = [] ∧ an57.frzOf 5 = [5] ∧ an57.frzOf 7 = [] ∧ an57.frzOf 8 = [] := ⟨rfl,rfl,rfl,rfl,rfl,rfl,rfl,rfl,rfl,rfl⟩
theorem fi57 : FI Try.prog 57 (cxA an57) x57 [.tmp 4] Try.f57 := fiA Try.func57 mixed
theorem put_net (t : Lt) : ∀ (kd : List Int) (ks : List (Int × Int)) (lf rt : List Int),ks.length = kd.length → kd.length + szT t ≤ 100000 → lf.length ≤ kd.length →
  CallOK Try.prog 57 [.agg (lnr (lnOf t)),.ptr 0 0 0,.ptr 1 0 0] (grS kd ks lf rt) (.int .i64 (kd.length : Int)) (grD (kd ++ kdT t) (ks ++ ksT kd.length t) (lf ++ lfT kd.length t) rt) := by
 induction t with
 | atom nm no =>
  intro kd ks lf rt hk hb hl
  rw [szT] at hb
  refine fi57.og ?_
  have h1 : (kd.length + 1) * 8 ≤ 140737488355328 := by omega
  have h2 : (kd.length + 1) * 16 ≤ 140737488355328 := by omega
  have h3 : (lf.length + 1) * 8 ≤ 140737488355328 := by omega
  have ht : List.take kd.length (ks.map relRow) = ks.map relRow := List.take_of_length_le (by simp; omega)
  have hr7 : List.range 7 = [0,1,2,3,4,5,6] := rfl
  unfold grS grD kdT ksT lfT lnOf
  (refine Sg.h ?_;try repeat' ((with_reducible first|refine brA ?_|refine brE fun _=>?_|refine spl ⟨?_,?_⟩<;>intro _)<;> ((try simp -implicitDefEqProofs [hk,ht,hr7]); (try simp -implicitDefEqProofs(disch:=first|assumption|(try simp only[lens]);omega -splitDisjunctions) [hk,ht,hr7]))))
 | op p a b iha ihb =>
  intro kd ks lf rt hk hb hl
  rw [szT] at hb
  refine fi57.og ?_
  have h1 : (kd.length + 1) * 8 ≤ 140737488355328 := by omega
  have h2 : (kd.length + 1) * 16 ≤ 140737488355328 := by omega
  have ht : List.take kd.length (ks.map relRow) = ks.map relRow := List.take_of_length_le (by simp; omega)
  have hr7 : List.range 7 = [0,1,2,3,4,5,6] := rfl
  have hp : ¬ (if p = true then (3 : Int) else 2) = 1 := by cases p <;> decide
  have hkl : (lnOf (.op p a b)).k = if p = true then 3 else 2 := by rw [lnOf]; rfl
  have hkk : (lnOf (.op p a b)).kids = [lnOf a,lnOf b] := by rw [lnOf]; rfl
  generalize lnOf (.op p a b) = X at *
  rw [kdT]
  generalize (if p = true then (3 : Int) else 2) = kk at *
  obtain ⟨kd1,e1⟩ : ∃ x,kd ++ [kk] = x := ⟨_,rfl⟩
  obtain ⟨ks1,f1⟩ : ∃ x,ks ++ [(-1,-1)] = x := ⟨_,rfl⟩
  have l1 : kd1.length = kd.length + 1 := by rw [← e1]; simp
  have m1 : ks1.length = kd.length + 1 := by rw [← f1]; simp [hk]
  have ra := iha kd1 ks1 lf rt (by omega) (by omega) (by omega)
  rw [l1] at ra
  obtain ⟨kd2,e2⟩ : ∃ x,kd1 ++ kdT a = x := ⟨_,rfl⟩
  obtain ⟨ks2,f2⟩ : ∃ x,ks1 ++ ksT (kd.length + 1) a = x := ⟨_,rfl⟩
  obtain ⟨lf2,g2⟩ : ∃ x,lf ++ lfT (kd.length + 1) a = x := ⟨_,rfl⟩
  rw [e2,f2,g2] at ra
  have l2 : kd2.length = kd.length + 1 + szT a := by rw [← e2,List.length_append,kdT_len,l1]
  have m2 : ks2.length = kd.length + 1 + szT a := by rw [← f2,List.length_append,ksT_len,m1]
  have o2 : lf2.length ≤ kd.length + 1 + szT a := by
   rw [← g2,List.length_append]
   have := lfT_len a (kd.length + 1)
   omega
  have rb := ihb kd2 ks2 lf2 rt (by omega) (by omega) (by omega)
  rw [l2] at rb
  obtain ⟨kd3,e3⟩ : ∃ x,kd2 ++ kdT b = x := ⟨_,rfl⟩
  obtain ⟨ks3,f3⟩ : ∃ x,ks2 ++ ksT (kd.length + 1 + szT a) b = x := ⟨_,rfl⟩
  obtain ⟨lf3,g3⟩ : ∃ x,lf2 ++ lfT (kd.length + 1 + szT a) b = x := ⟨_,rfl⟩
  rw [e3,f3,g3] at rb
  have l3 : kd3.length = kd.length + (1 + szT a + szT b) := by rw [← e3,List.length_append,kdT_len,l2]; omega
  have m3 : ks3.length = kd.length + (1 + szT a + szT b) := by rw [← f3,List.length_append,ksT_len,m2]; omega
  have ekd : kd ++ kk :: (kdT a ++ kdT b) = kd3 := by rw [← e3,← e2,← e1]; simp
  have elf : lf ++ lfT kd.length (.op p a b) = lf3 := by rw [← g3,← g2,lfT]; simp
  obtain ⟨ks4,f4⟩ : ∃ x,ks ++ ksT kd.length (.op p a b) = x := ⟨_,rfl⟩
  have hset : ks3.set kd.length ((kd.length : Int) + 1,(kd.length : Int) + 1 + (szT a : Int)) = ks4 := by
   rw [← f4,← f3,← f2,← f1,ksT,← hk]
   simp
  have m4 : ks4.length = ks3.length := by rw [← hset,List.length_set]
  have hset2 : (ks3.map relRow).set kd.length [.int .i64 ((kd.length : Int) + 1),.int .i64 ((kd.length : Int) + 1 + (szT a : Int))] = ks4.map relRow := by
   rw [← hset]; simp [relRow_eq]
  have i1 : List.map intRow kd ++ [[.int .i64 kk]] = kd1.map intRow := by rw [← e1]; simp [intRow_eq]
  have i2 : List.map relRow ks ++ [[.int .i64 (-1),.int .i64 (-1)]] = ks1.map relRow := by rw [← f1]; simp [relRow_eq]
  rw [ekd,elf,f4]
  have hi : kd.length < ks3.length := by omega
  unfold grS grD at *
  rw [l1,m1] at ra
  rw [l2,m2] at ra rb
  rw [l3,m3] at rb
  rw [l3,m4,m3]
  clear e1 e2 e3 f1 f2 f3 f4 g2 g3 iha ihb hset ekd elf
  (refine Sg.h ?_;try repeat' ((with_reducible first|refine brA ?_|refine brE fun _=>?_|refine spl ⟨?_,?_⟩<;>intro _)<;> ((try simp -implicitDefEqProofs [hk,ht,hp,hr7,hkl,hkk,i1,i2]); (try simp -implicitDefEqProofs(disch:=first|assumption|(try simp only[lens]);omega -splitDisjunctions) [hk,ht,hp,hr7,hkl,hkk,i1,i2]))))
  repeat' (first | refine And.intro ?_ ?_)
  all_goals (refine CT.sub [0,1,2,9,11,5,6] (hc := by simpa using ra) ?_)
  all_goals ((refine Sg.h ?_;try repeat' ((with_reducible first|refine brA ?_|refine brE fun _=>?_|refine spl ⟨?_,?_⟩<;>intro _)<;> ((try simp -implicitDefEqProofs [hkk]); (try simp -implicitDefEqProofs(disch:=first|assumption|(try simp only[lens]);omega -splitDisjunctions) [hkk])))))
  all_goals (refine CT.sub [0,1,2,12,13,14,6] (hc := by simpa using rb) ?_)
  all_goals ((refine Sg.h ?_;try repeat' ((with_reducible first|refine brA ?_|refine brE fun _=>?_|refine spl ⟨?_,?_⟩<;>intro _)<;> ((try simp -implicitDefEqProofs [hi,hset2,m3,hr7]); (try simp -implicitDefEqProofs(disch:=first|assumption|(try simp only[lens]);omega -splitDisjunctions) [hi,hset2,m3,hr7])))))
  all_goals omega
end Go.Proofs.Ytbdionmmfigfiaa
