import Derived.Test.YtbdionmmfigfiaaDNuB
set_option linter.unusedVariables false
set_option linter.unusedSimpArgs false
set_option maxRecDepth 100000
set_option maxHeartbeats 4000000
namespace Go.Proofs.Ytbdionmmfigfiaa
open Go Go.Pv
def axsR (axs : List (Nat × Nat)) (r : Option (List Bool × List (Nat × Nat))) : List (Nat × Nat) := match r with
 | some x => x.2
 | none => axs
theorem indexB_find (u : List Bool) : indexB u false = match u.findIdx? (fun x => decide (false = x)) with
  | some i => (i : Int)
  | none => -1 := rfl
def x40_T1 : XC := .seq (.reg [⟨some 75,.load 64 (.tmp 0),none⟩,⟨some 76,.move (.tmp 6),none⟩,⟨some 77,.indexAddr 64 (.tmp 75) (.tmp 76),none⟩,⟨none,.store 4 (.tmp 77) (.const (.bool false)),none⟩]) (.seq (.reg [⟨some 5,.assign (.const (.bool false)),none⟩]) .ret)
def x40_L0 : XC := .seq (.seq (.reg [⟨some 20,.move (.tmp 7),none⟩,⟨some 21,.load 22 (.tmp 3),none⟩,⟨some 22,.call ⟨.builtin .len,#[.tmp 21],#[22]⟩,none⟩,⟨some 23,.binOp .lss 3 (.tmp 20) (.tmp 22) 3,none⟩]) (.cond (.tmp 23) .skip (.exit 0))) (.seq (.block 1 (.seq (.seq (.drawn 8 [⟨some 26,.load 64 (.tmp 0),none⟩,⟨some 27,.move (.tmp 7),none⟩,⟨some 28,.indexAddr 64 (.tmp 26) (.tmp 27),none⟩,⟨some 29,.load 4 (.tmp 28),none⟩,⟨some 30,.move (.tmp 29),none⟩,⟨some 31,.load 22 (.tmp 3),some (some 30,false)⟩,⟨some 32,.move (.tmp 6),some (some 30,false)⟩,⟨some 33,.indexAddr 22 (.tmp 31) (.tmp 32),some (some 30,false)⟩,⟨some 34,.fieldAddr 24 (.tmp 33) 1,some (some 30,false)⟩,⟨some 35,.load 9 (.tmp 34),some (some 30,false)⟩,⟨some 36,.load 22 (.tmp 3),some (some 30,false)⟩,⟨some 37,.move (.tmp 7),some (some 30,false)⟩,⟨some 38,.indexAddr 22 (.tmp 36) (.tmp 37),some (some 30,false)⟩,⟨some 39,.fieldAddr 24 (.tmp 38) 1,some (some 30,false)⟩,⟨some 40,.load 9 (.tmp 39),some (some 30,false)⟩,⟨some 41,.binOp .neq 9 (.tmp 35) (.tmp 40) 9,some (some 30,false)⟩,⟨some 42,.pick (.tmp 30) (.const (.bool true)) (.tmp 41),none⟩,⟨some 43,.move (.tmp 42),none⟩,⟨some 44,.load 22 (.tmp 3),some (some 43,false)⟩,⟨some 45,.move (.tmp 6),some (some 43,false)⟩,⟨some 46,.indexAddr 22 (.tmp 44) (.tmp 45),some (some 43,false)⟩,⟨some 47,.fieldAddr 24 (.tmp 46) 2,some (some 43,false)⟩,⟨some 48,.load 4 (.tmp 47),some (some 43,false)⟩,⟨some 49,.load 22 (.tmp 3),some (some 43,false)⟩,⟨some 50,.move (.tmp 7),some (some 43,false)⟩,⟨some 51,.indexAddr 22 (.tmp 49) (.tmp 50),some (some 43,false)⟩,⟨some 52,.fieldAddr 24 (.tmp 51) 2,some (some 43,false)⟩,⟨some 53,.load 4 (.tmp 52),some (some 43,false)⟩,⟨some 54,.binOp .eql 4 (.tmp 48) (.tmp 53) 4,some (some 43,false)⟩,⟨some 55,.pick (.tmp 43) (.const (.bool true)) (.tmp 54),none⟩]) (.cond (.tmp 55) (.exit 1) .skip)) (.seq (.reg [⟨some 56,.load 64 (.tmp 0),none⟩,⟨some 57,.move (.tmp 7),none⟩,⟨some 58,.indexAddr 64 (.tmp 56) (.tmp 57),none⟩,⟨none,.store 4 (.tmp 58) (.const (.bool true)),none⟩]) (.seq (.reg [⟨some 59,.load 25 (.tmp 2),none⟩,⟨some 60,.move (.tmp 6),none⟩,⟨some 61,.move (.tmp 7),none⟩,⟨some 62,.build 33 #[(0,.tmp 60),(1,.tmp 61)],none⟩,⟨some 63,.buildSlice 25 1 #[(0,.tmp 62)],none⟩,⟨some 64,.call ⟨.builtin .append,#[.tmp 59,.tmp 63],#[25,25]⟩,none⟩,⟨none,.store 25 (.tmp 2) (.tmp 64),none⟩]) (.seq (.seq (.reg [⟨some 65,.load 26 (.tmp 4),none⟩,⟨some 66,.call ⟨.value (.tmp 65),#[],#[]⟩,none⟩]) (.cond (.tmp 66) (.seq (.reg [⟨some 5,.assign (.const (.bool true)),none⟩]) .ret) .skip)) (.seq (.reg [⟨some 67,.load 25 (.tmp 2),none⟩,⟨some 68,.load 25 (.tmp 2),none⟩,⟨some 69,.call ⟨.builtin .len,#[.tmp 68],#[25]⟩,none⟩,⟨some 70,.binOp .sub 3 (.tmp 69) (.const (.int .i64 1)) 3,none⟩,⟨some 71,.slice 25 (.tmp 67) none (some (.tmp 70)) none,none⟩,⟨none,.store 25 (.tmp 2) (.tmp 71),none⟩]) (.reg [⟨some 72,.load 64 (.tmp 0),none⟩,⟨some 73,.move (.tmp 7),none⟩,⟨some 74,.indexAddr 64 (.tmp 72) (.tmp 73),none⟩,⟨none,.store 4 (.tmp 74) (.const (.bool false)),none⟩]))))))) (.reg [⟨some 24,.move (.tmp 7),none⟩,⟨some 25,.binOp .add 3 (.tmp 24) (.const (.int .i64 1)) 3,none⟩,⟨some 7,.assign (.tmp 25),none⟩]))
def x40 : XC := .seq (.reg [⟨some 5,.assign (.const (.bool false)),none⟩]) (.seq (.reg [⟨some 8,.load 64 (.tmp 0),none⟩,⟨some 9,.call ⟨.value (.func 41),#[.tmp 8,.const (.bool false)],#[64,4]⟩,none⟩,⟨some 6,.assign (.tmp 9),none⟩]) (.seq (.seq (.reg [⟨some 10,.move (.tmp 6),none⟩,⟨some 11,.binOp .lss 3 (.tmp 10) (.const (.int .i64 0)) 3,none⟩]) (.cond (.tmp 11) (.seq (.reg [⟨some 12,.load 61 (.tmp 1),none⟩,⟨some 13,.load 25 (.tmp 2),none⟩,⟨some 14,.call ⟨.value (.func 37),#[.tmp 12,.tmp 13],#[61,25]⟩,none⟩,⟨some 5,.assign (.tmp 14),none⟩]) .ret) .skip)) (.seq (.reg [⟨some 15,.load 64 (.tmp 0),none⟩,⟨some 16,.move (.tmp 6),none⟩,⟨some 17,.indexAddr 64 (.tmp 15) (.tmp 16),none⟩,⟨none,.store 4 (.tmp 17) (.const (.bool true)),none⟩]) (.seq (.seq (.reg [⟨some 18,.move (.tmp 6),none⟩,⟨some 19,.binOp .add 3 (.tmp 18) (.const (.int .i64 1)) 3,none⟩,⟨some 7,.assign (.tmp 19),none⟩]) (.bloop 0 x40_L0)) (x40_T1)))))
@[simp] theorem x40_s {C e s K} : type_of% (@X_at C e s K _ _ x40_T1.eq_1) ∧ type_of% (@X_at C e s K _ _ x40_L0.eq_1) ∧ type_of% (@X_at C e s K _ _ x40.eq_1) := ⟨X_at x40_T1.eq_1,X_at x40_L0.eq_1,X_at x40.eq_1⟩
def an40 : Ann := ⟨[(8,.mix 28)],[(0,[],[0,2,3,4,6,7],[0,5,6])],[]⟩
@[simp] theorem an40_a : an40.clsOf 8 = .mix 28 ∧ an40.frzOf 8 = [] ∧ an40.loopOf 0 = ([],[0,2,3,4,6,7],[0,5,6]) := ⟨rfl,rfl,rfl⟩
theorem fi40 : FI Try.prog 40 (cxA an40) x40 [.tmp 5] Try.f40 := fiA Try.func40 mixed
theorem later_net {G : List PV} {A : List Ln} {u u1 : List Bool} {axs : List (Nat × Nat)} {i : Nat} {C : List (Int × Int)} {S : List Bool → List (Nat × Nat) → Option (List Bool × List (Nat × Nat))} {R : Option (List Bool × List (Nat × Nat))} {Q : AE → Store → Prop}
  (hA : A.length ≤ 200) (hul : u.length = A.length) (hu1l : u1.length = u.length) (hcl2 : C.length ≤ 200) (hiA : i < A.length) (hx2 : i < u1.length) (hset1 : (u1.map boolRow).set i [.bool false] = u.map boolRow) (hcn : R = none → cst (axsR axs R) = C)
  (hcs : ∀ j : Nat,cst (axs ++ [(i,j)]) = C ++ [((i : Int),(j : Int))])
  (hrest : ∀ j : Nat,i < j → j < A.length → (!u1[j]! && fitB A[i]! A[j]!) = true → CallOK Try.prog 40 [.ptr 0 0 0,.ptr 1 0 0,.ptr 2 0 0,.ptr 3 0 0,.ptr 4 0 0] (sh6 G A (u1.set j true) (C.length + 1) ((C ++ [((i : Int),(j : Int))]).map relRow)) (.bool (S (u1.set j true) (axs ++ [(i,j)])).isSome)
   (sh7 G A (usedR (u1.set j true) (S (u1.set j true) (axs ++ [(i,j)]))) (cst (axsR (axs ++ [(i,j)]) (S (u1.set j true) (axs ++ [(i,j)])))).length ((cst (axsR (axs ++ [(i,j)]) (S (u1.set j true) (axs ++ [(i,j)])))).map relRow)))
  (hQ : ∀ (e : AE) (s : Store),X (cxA an40 Try.prog 7) x40_L0 e s (.round 0 Q (.block 0 (.seq x40_T1 (.fin [.tmp 5] (pFin G A (usedR u R) (cst (axsR axs R)) (.bool R.isSome)))))) → Q e s) :
  ∀ k j (Jn : List (Int × Int)),j + k = A.length → i < j → srJ S A u1 axs i (List.range' j k) = R → Q [(0,.ptr 0 0 0),(2,.ptr 2 0 0),(3,.ptr 3 0 0),(4,.ptr 4 0 0),(6,.int .i64 (i : Int)),(7,.int .i64 (j : Int))]
     [.rows 1 [[.sl 5 0 u.length]],.rows 1 [[.iptr G]],.rows 1 [[.sl 7 0 C.length]],.rows 1 [[.list (A.map lnr)]],.rows 1 [[.fn (.func 40) [] [.ptr 0 0 0,.ptr 1 0 0,.ptr 2 0 0,.ptr 3 0 0,.ptr 4 0 0]]],.rows 1 (u1.map boolRow),.dead,.rows 2 ((C ++ Jn).map relRow)] := by
 have hr7 : List.range 7 = [0,1,2,3,4,5,6] := rfl
 intro k
 induction k with
 | zero =>
  intro j Jn hj hxj hR
  rw [List.range'_zero,srJ] at hR
  subst hR
  have hj' : ¬ (j : Int) < (A.length : Int) := by omega
  rw [hcn rfl] at hQ
  apply hQ
  clear hQ
  (refine Sg.h ?_;try repeat' ((with_reducible first|refine brA ?_|refine brE fun _=>?_|refine spl ⟨?_,?_⟩<;>intro _)<;> ((try simp -implicitDefEqProofs [hj',hx2,hset1,hr7]); (try simp -implicitDefEqProofs(disch:=first|assumption|(try simp only[lens]);omega -splitDisjunctions) [hj',hx2,hset1,hr7]))))
  refine ⟨Jn.map relRow,.inr ?_⟩
  unfold sh7
  have hun : usedR u none = u := rfl
  (refine Sg.h ?_;try repeat' ((with_reducible first|refine brA ?_|refine brE fun _=>?_|refine spl ⟨?_,?_⟩<;>intro _)<;> ((try simp -implicitDefEqProofs [hr7,hun]); (try simp -implicitDefEqProofs(disch:=first|assumption|(try simp only[lens]);omega -splitDisjunctions) [hr7,hun]))))
 | succ k ih2 =>
  intro j Jn hj hxj hR
  have hjA : j < A.length := by omega
  rw [List.range'_succ,srJ] at hR
  have ih2 := fun Jn => ih2 (j + 1) Jn (by omega) (by omega)
  have htJ : List.take C.length (C.map relRow ++ Jn.map relRow) = C.map relRow := List.take_left' (by simp)
  have hrest := hrest j hxj hjA
  rw [getElem!_pos A i hiA,getElem!_pos A j hjA] at hR hrest
  have hju : j < u1.length := by omega
  rw [getElem!_pos u1 j hju] at hR hrest
  generalize hxx : A[i] = X at *
  generalize hyy : A[j] = Y at *
  have hj' : (j : Int) < (A.length : Int) := by omega
  cases hb : u1[j] with
  | true =>
   rw [hb] at hR
   rw [if_neg (by simp)] at hR
   have ih2 := ih2 Jn hR
   apply hQ
   clear hQ
   (refine Sg.h ?_;try repeat' ((with_reducible first|refine brA ?_|refine brE fun _=>?_|refine spl ⟨?_,?_⟩<;>intro _)<;> ((try simp -implicitDefEqProofs [hj',hju,hb,hr7]); (try simp -implicitDefEqProofs(disch:=first|assumption|(try simp only[lens]);omega -splitDisjunctions) [hj',hju,hb,hr7]))))
   all_goals first | exact ih2 | (refine at2 ih2 ?_ ?_ <;> simp; done) | (exfalso; first | omega | (simp_all; done) | (simp_all; omega))
  | false =>
   by_cases hnm : X.nm = Y.nm
   rotate_left 1
   ·rw [hb,show fitB X Y = false by unfold fitB; simp [hnm]] at hR
    rw [if_neg (by simp)] at hR
    have ih2 := ih2 Jn hR
    apply hQ
    clear hQ
    (refine Sg.h ?_;try repeat' ((with_reducible first|refine brA ?_|refine brE fun _=>?_|refine spl ⟨?_,?_⟩<;>intro _)<;> ((try simp -implicitDefEqProofs [hj',hju,hb,hjA,hiA,hxx,hyy,hnm,hr7]); (try simp -implicitDefEqProofs(disch:=first|assumption|(try simp only[lens]);omega -splitDisjunctions) [hj',hju,hb,hjA,hiA,hxx,hyy,hnm,hr7]))))
    all_goals first | exact ih2 | (refine at2 ih2 ?_ ?_ <;> simp; done) | (exfalso; first | omega | (simp_all; done) | (simp_all; omega))
   by_cases hno : X.no = Y.no
   ·rw [hb,show fitB X Y = false by unfold fitB; simp [hno]] at hR
    rw [if_neg (by simp)] at hR
    have ih2 := ih2 Jn hR
    apply hQ
    clear hQ
    (refine Sg.h ?_;try repeat' ((with_reducible first|refine brA ?_|refine brE fun _=>?_|refine spl ⟨?_,?_⟩<;>intro _)<;> ((try simp -implicitDefEqProofs [hj',hju,hb,hjA,hiA,hxx,hyy,hnm,hno,hr7]); (try simp -implicitDefEqProofs(disch:=first|assumption|(try simp only[lens]);omega -splitDisjunctions) [hj',hju,hb,hjA,hiA,hxx,hyy,hnm,hno,hr7]))))
    all_goals first | exact ih2 | (refine at2 ih2 ?_ ?_ <;> simp; done) | (exfalso; first | omega | (simp_all; done) | (simp_all; omega))
   ·have hft : fitB X Y = true := by unfold fitB; simp [hnm,hno]
    rw [hb,hft] at hR hrest
    rw [if_pos (by simp)] at hR
    have hrest := hrest (by simp)
    have hno' : (X.no == Y.no) = false := by simpa using hno
    have hu2 : (u1.set j true).length = u.length := by simp [hu1l]
    have hback : (u1.set j true).set j false = u1 := by
     rw [List.set_set]
     apply List.ext_getElem
     ·simp
     ·intro y g1 g2
      rw [List.getElem_set]
      split
      ·rename_i e; subst e; exact hb.symm
      ·rfl
    have hset : (u1.map boolRow).set j [.bool true] = (u1.set j true).map boolRow := by simp [boolRow_eq]
    have hset2 : ((u1.set j true).map boolRow).set j [.bool false] = u1.map boolRow := by rw [← hback]; simp [boolRow_eq]
    have hj2 : j < (u1.set j true).length := by simpa using hju
    have htk : List.take (C.length + 1) (C.map relRow ++ [[.int .i64 (i : Int),.int .i64 (j : Int)]]) = C.map relRow ++ [[.int .i64 (i : Int),.int .i64 (j : Int)]] := List.take_of_length_le (by simp)
    clear hback
    generalize u1.set j true = u2 at *
    apply hQ
    clear hQ
    (refine Sg.h ?_;try repeat' ((with_reducible first|refine brA ?_|refine brE fun _=>?_|refine spl ⟨?_,?_⟩<;>intro _)<;> ((try simp -implicitDefEqProofs [hj',hju,hb,hjA,hiA,hxx,hyy,hnm,hno',hset,hr7,htJ]); (try simp -implicitDefEqProofs(disch:=first|assumption|(try simp only[lens]);omega -splitDisjunctions) [hj',hju,hb,hjA,hiA,hxx,hyy,hnm,hno',hset,hr7,htJ]))))
    unfold sh6 sh7 at hrest
    cases hS : S u2 (axs ++ [(i,j)]) with
    | some y =>
     rw [hS] at hR hrest
     dsimp only at hR
     subst hR
     clear hset2
     refine CL.sub [0,1,2,3,4,5,9] (hc := by simpa [relRow_eq,hu2] using hrest) ?_
     (refine Sg.h ?_;try repeat' ((with_reducible first|refine brA ?_|refine brE fun _=>?_|refine spl ⟨?_,?_⟩<;>intro _)<;> ((try simp -implicitDefEqProofs [hr7]); (try simp -implicitDefEqProofs(disch:=first|assumption|(try simp only[lens]);omega -splitDisjunctions) [hr7]))))
     refine ⟨[],.inr ?_⟩
     unfold sh7 usedR axsR
     (refine Sg.h ?_;try repeat' ((with_reducible first|refine brA ?_|refine brE fun _=>?_|refine spl ⟨?_,?_⟩<;>intro _)<;> ((try simp -implicitDefEqProofs [hr7]); (try simp -implicitDefEqProofs(disch:=first|assumption|(try simp only[lens]);omega -splitDisjunctions) [hr7]))))
    | none =>
     rw [hS] at hR hrest
     dsimp only at hR
     have ih2 := ih2 [((i : Int),(j : Int))] hR
     rw [show axsR (axs ++ [(i,j)]) none = axs ++ [(i,j)] from rfl,hcs,show usedR u2 none = u2 from rfl] at hrest
     refine CL.sub [0,1,2,3,4,5,9] (hc := by simpa [relRow_eq,hu2] using hrest) ?_
     (refine Sg.h ?_;try repeat' ((with_reducible first|refine brA ?_|refine brE fun _=>?_|refine spl ⟨?_,?_⟩<;>intro _)<;> ((try simp -implicitDefEqProofs [hr7,hju,hj2,hset2]); (try simp -implicitDefEqProofs(disch:=first|assumption|(try simp only[lens]);omega -splitDisjunctions) [hr7,hju,hj2,hset2]))))
     all_goals first | exact ih2 | (refine at2 ih2 ?_ ?_ <;> simp [relRow_eq]; done) | (exfalso; first | omega | (simp_all; done) | (simp_all; omega))
theorem first_net {G : List PV} {A : List Ln} {u u1 : List Bool} {axs : List (Nat × Nat)} {i : Nat} {C : List (Int × Int)} {S : List Bool → List (Nat × Nat) → Option (List Bool × List (Nat × Nat))} {R : Option (List Bool × List (Nat × Nat))} {Q : AE → Store → Prop}
  (hA : A.length ≤ 200) (hul : u.length = A.length) (hu1l : u1.length = u.length) (hcl2 : C.length ≤ 200) (hiA : i < A.length) (hx2 : i < u1.length) (hset1 : (u1.map boolRow).set i [.bool false] = u.map boolRow) (hcn : R = none → cst (axsR axs R) = C)
  (hcs : ∀ j : Nat,cst (axs ++ [(i,j)]) = C ++ [((i : Int),(j : Int))])
  (hrest : ∀ j : Nat,i < j → j < A.length → (!u1[j]! && fitB A[i]! A[j]!) = true → CallOK Try.prog 40 [.ptr 0 0 0,.ptr 1 0 0,.ptr 2 0 0,.ptr 3 0 0,.ptr 4 0 0] (sh6 G A (u1.set j true) (C.length + 1) ((C ++ [((i : Int),(j : Int))]).map relRow)) (.bool (S (u1.set j true) (axs ++ [(i,j)])).isSome)
   (sh7 G A (usedR (u1.set j true) (S (u1.set j true) (axs ++ [(i,j)]))) (cst (axsR (axs ++ [(i,j)]) (S (u1.set j true) (axs ++ [(i,j)])))).length ((cst (axsR (axs ++ [(i,j)]) (S (u1.set j true) (axs ++ [(i,j)])))).map relRow)))
  (hQ : ∀ (e : AE) (s : Store),X (cxA an40 Try.prog 7) x40_L0 e s (.round 0 Q (.block 0 (.seq x40_T1 (.fin [.tmp 5] (pFin G A (usedR u R) (cst (axsR axs R)) (.bool R.isSome)))))) → Q e s)
  (later : ∀ k j (Jn : List (Int × Int)),j + k = A.length → i < j → srJ S A u1 axs i (List.range' j k) = R → Q [(0,.ptr 0 0 0),(2,.ptr 2 0 0),(3,.ptr 3 0 0),(4,.ptr 4 0 0),(6,.int .i64 (i : Int)),(7,.int .i64 (j : Int))]
     [.rows 1 [[.sl 5 0 u.length]],.rows 1 [[.iptr G]],.rows 1 [[.sl 7 0 C.length]],.rows 1 [[.list (A.map lnr)]],.rows 1 [[.fn (.func 40) [] [.ptr 0 0 0,.ptr 1 0 0,.ptr 2 0 0,.ptr 3 0 0,.ptr 4 0 0]]],.rows 1 (u1.map boolRow),.dead,.rows 2 ((C ++ Jn).map relRow)]) :
  ∀ k j,j + k = A.length → i < j → srJ S A u1 axs i (List.range' j k) = R → Q [(0,.ptr 0 0 0),(2,.ptr 2 0 0),(3,.ptr 3 0 0),(4,.ptr 4 0 0),(6,.int .i64 (i : Int)),(7,.int .i64 (j : Int))]
     [.rows 1 [[.sl 5 0 u.length]],.rows 1 [[.iptr G]],.rows 1 [[.sl 6 0 C.length]],.rows 1 [[.list (A.map lnr)]],.rows 1 [[.fn (.func 40) [] [.ptr 0 0 0,.ptr 1 0 0,.ptr 2 0 0,.ptr 3 0 0,.ptr 4 0 0]]],.rows 1 (u1.map boolRow),.rows 2 (C.map relRow)] := by
 have hr7 : List.range 7 = [0,1,2,3,4,5,6] := rfl
 intro k
 induction k with
 | zero =>
  intro j hj hxj hR
  rw [List.range'_zero,srJ] at hR
  subst hR
  have hj' : ¬ (j : Int) < (A.length : Int) := by omega
  rw [hcn rfl] at hQ
  clear later
  apply hQ
  clear hQ
  (refine Sg.h ?_;try repeat' ((with_reducible first|refine brA ?_|refine brE fun _=>?_|refine spl ⟨?_,?_⟩<;>intro _)<;> ((try simp -implicitDefEqProofs [hj',hx2,hset1,hr7]); (try simp -implicitDefEqProofs(disch:=first|assumption|(try simp only[lens]);omega -splitDisjunctions) [hj',hx2,hset1,hr7]))))
  refine ⟨[],.inl ?_⟩
  unfold sh6
  have hun : usedR u none = u := rfl
  (refine Sg.h ?_;try repeat' ((with_reducible first|refine brA ?_|refine brE fun _=>?_|refine spl ⟨?_,?_⟩<;>intro _)<;> ((try simp -implicitDefEqProofs [hr7,hun]); (try simp -implicitDefEqProofs(disch:=first|assumption|(try simp only[lens]);omega -splitDisjunctions) [hr7,hun]))))
 | succ k ih2 =>
  intro j hj hxj hR
  have hjA : j < A.length := by omega
  rw [List.range'_succ,srJ] at hR
  have ih2 := ih2 (j + 1) (by omega) (by omega)
  have later := fun Jn => later k (j + 1) Jn (by omega) (by omega)
  have hrest := hrest j hxj hjA
  rw [getElem!_pos A i hiA,getElem!_pos A j hjA] at hR hrest
  have hju : j < u1.length := by omega
  rw [getElem!_pos u1 j hju] at hR hrest
  generalize hxx : A[i] = X at *
  generalize hyy : A[j] = Y at *
  have hj' : (j : Int) < (A.length : Int) := by omega
  cases hb : u1[j] with
  | true =>
   rw [hb] at hR
   rw [if_neg (by simp)] at hR
   have ih2 := ih2 hR
   clear later
   apply hQ
   clear hQ
   (refine Sg.h ?_;try repeat' ((with_reducible first|refine brA ?_|refine brE fun _=>?_|refine spl ⟨?_,?_⟩<;>intro _)<;> ((try simp -implicitDefEqProofs [hj',hju,hb,hr7]); (try simp -implicitDefEqProofs(disch:=first|assumption|(try simp only[lens]);omega -splitDisjunctions) [hj',hju,hb,hr7]))))
   all_goals first | exact ih2 | (refine at2 ih2 ?_ ?_ <;> simp; done) | (exfalso; first | omega | (simp_all; done) | (simp_all; omega))
  | false =>
   by_cases hnm : X.nm = Y.nm
   rotate_left 1
   ·rw [hb,show fitB X Y = false by unfold fitB; simp [hnm]] at hR
    rw [if_neg (by simp)] at hR
    have ih2 := ih2 hR
    clear later
    apply hQ
    clear hQ
    (refine Sg.h ?_;try repeat' ((with_reducible first|refine brA ?_|refine brE fun _=>?_|refine spl ⟨?_,?_⟩<;>intro _)<;> ((try simp -implicitDefEqProofs [hj',hju,hb,hjA,hiA,hxx,hyy,hnm,hr7]); (try simp -implicitDefEqProofs(disch:=first|assumption|(try simp only[lens]);omega -splitDisjunctions) [hj',hju,hb,hjA,hiA,hxx,hyy,hnm,hr7]))))
    all_goals first | exact ih2 | (refine at2 ih2 ?_ ?_ <;> simp; done) | (exfalso; first | omega | (simp_all; done) | (simp_all; omega))
   by_cases hno : X.no = Y.no
   ·rw [hb,show fitB X Y = false by unfold fitB; simp [hno]] at hR
    rw [if_neg (by simp)] at hR
    have ih2 := ih2 hR
    clear later
    apply hQ
    clear hQ
    (refine Sg.h ?_;try repeat' ((with_reducible first|refine brA ?_|refine brE fun _=>?_|refine spl ⟨?_,?_⟩<;>intro _)<;> ((try simp -implicitDefEqProofs [hj',hju,hb,hjA,hiA,hxx,hyy,hnm,hno,hr7]); (try simp -implicitDefEqProofs(disch:=first|assumption|(try simp only[lens]);omega -splitDisjunctions) [hj',hju,hb,hjA,hiA,hxx,hyy,hnm,hno,hr7]))))
    all_goals first | exact ih2 | (refine at2 ih2 ?_ ?_ <;> simp; done) | (exfalso; first | omega | (simp_all; done) | (simp_all; omega))
   ·have hft : fitB X Y = true := by unfold fitB; simp [hnm,hno]
    rw [hb,hft] at hR hrest
    rw [if_pos (by simp)] at hR
    have hrest := hrest (by simp)
    have hno' : (X.no == Y.no) = false := by simpa using hno
    have hu2 : (u1.set j true).length = u.length := by simp [hu1l]
    have hback : (u1.set j true).set j false = u1 := by
     rw [List.set_set]
     apply List.ext_getElem
     ·simp
     ·intro y g1 g2
      rw [List.getElem_set]
      split
      ·rename_i e; subst e; exact hb.symm
      ·rfl
    have hset : (u1.map boolRow).set j [.bool true] = (u1.set j true).map boolRow := by simp [boolRow_eq]
    have hset2 : ((u1.set j true).map boolRow).set j [.bool false] = u1.map boolRow := by rw [← hback]; simp [boolRow_eq]
    have hj2 : j < (u1.set j true).length := by simpa using hju
    have htk : List.take (C.length + 1) (C.map relRow ++ [[.int .i64 (i : Int),.int .i64 (j : Int)]]) = C.map relRow ++ [[.int .i64 (i : Int),.int .i64 (j : Int)]] := List.take_of_length_le (by simp)
    clear ih2 hback
    generalize u1.set j true = u2 at *
    apply hQ
    clear hQ
    (refine Sg.h ?_;try repeat' ((with_reducible first|refine brA ?_|refine brE fun _=>?_|refine spl ⟨?_,?_⟩<;>intro _)<;> ((try simp -implicitDefEqProofs [hj',hju,hb,hjA,hiA,hxx,hyy,hnm,hno',hset,hr7]); (try simp -implicitDefEqProofs(disch:=first|assumption|(try simp only[lens]);omega -splitDisjunctions) [hj',hju,hb,hjA,hiA,hxx,hyy,hnm,hno',hset,hr7]))))
    unfold sh6 sh7 at hrest
    cases hS : S u2 (axs ++ [(i,j)]) with
    | some y =>
     rw [hS] at hR hrest
     dsimp only at hR
     subst hR
     clear later hset2
     refine CL.sub [0,1,2,3,4,5,8] (hc := by simpa [relRow_eq,hu2] using hrest) ?_
     (refine Sg.h ?_;try repeat' ((with_reducible first|refine brA ?_|refine brE fun _=>?_|refine spl ⟨?_,?_⟩<;>intro _)<;> ((try simp -implicitDefEqProofs [hr7]); (try simp -implicitDefEqProofs(disch:=first|assumption|(try simp only[lens]);omega -splitDisjunctions) [hr7]))))
     refine ⟨[],.inr ?_⟩
     unfold sh7 usedR axsR
     (refine Sg.h ?_;try repeat' ((with_reducible first|refine brA ?_|refine brE fun _=>?_|refine spl ⟨?_,?_⟩<;>intro _)<;> ((try simp -implicitDefEqProofs [hr7]); (try simp -implicitDefEqProofs(disch:=first|assumption|(try simp only[lens]);omega -splitDisjunctions) [hr7]))))
    | none =>
     rw [hS] at hR hrest
     dsimp only at hR
     have later := later [((i : Int),(j : Int))] hR
     rw [show axsR (axs ++ [(i,j)]) none = axs ++ [(i,j)] from rfl,hcs,show usedR u2 none = u2 from rfl] at hrest
     refine CL.sub [0,1,2,3,4,5,8] (hc := by simpa [relRow_eq,hu2] using hrest) ?_
     (refine Sg.h ?_;try repeat' ((with_reducible first|refine brA ?_|refine brE fun _=>?_|refine spl ⟨?_,?_⟩<;>intro _)<;> ((try simp -implicitDefEqProofs [hr7,hju,hj2,hset2]); (try simp -implicitDefEqProofs(disch:=first|assumption|(try simp only[lens]);omega -splitDisjunctions) [hr7,hju,hj2,hset2]))))
     all_goals first | exact later | (refine at2 later ?_ ?_ <;> simp [relRow_eq]; done) | (exfalso; first | omega | (simp_all; done) | (simp_all; omega))
theorem prove1_net (ts : List Lt) (hs : szTs ts ≤ 200) (hA : (atTs ts).length ≤ 200) : ∀ (f : Nat) (u : List Bool) (axs : List (Nat × Nat)),Inv (atTs ts) u axs → axs.length + f = (atTs ts).length + 1 →
  CallOK Try.prog 40 [.ptr 0 0 0,.ptr 1 0 0,.ptr 2 0 0,.ptr 3 0 0,.ptr 4 0 0] (sh6 (grV ts) (atTs ts) u axs.length ((cst axs).map relRow)) (.bool (srS (corB ts) (atTs ts) f u axs).isSome)
   (sh7 (grV ts) (atTs ts) (usedR u (srS (corB ts) (atTs ts) f u axs)) (cst (axsR axs (srS (corB ts) (atTs ts) f u axs))).length ((cst (axsR axs (srS (corB ts) (atTs ts) f u axs))).map relRow)) := by
 intro f
 induction f with
 | zero => intro u axs hi hl; have := hi.len; omega
 | succ f ih =>
  intro u axs hi hl
  have hal := hi.len
  have hix := Index_bools u false (by rw [hi.1]; omega)
  rw [indexB_find] at hix
  rw [srS]
  refine fi40.ops (pFin (grV ts) (atTs ts) (usedR u (match u.findIdx? (fun x => decide (false = x)) with
   | none => if corB ts axs = true then some (u,axs) else none
   | some i => srJ (srS (corB ts) (atTs ts) f) (atTs ts) (u.set i true) axs i (List.range' (i + 1) ((atTs ts).length - (i + 1))))) (cst (axsR axs (match u.findIdx? (fun x => decide (false = x)) with
   | none => if corB ts axs = true then some (u,axs) else none
   | some i => srJ (srS (corB ts) (atTs ts) f) (atTs ts) (u.set i true) axs i (List.range' (i + 1) ((atTs ts).length - (i + 1)))))) _) (fun v1 s1 h => pFin_ret h) ?_
  cases hf : u.findIdx? (fun x => decide (false = x)) with
  | none =>
   have hlk := hi.lk hf
   have hg := graph_net ts axs hs hlk
   rw [hf] at hix
   dsimp only at hix ⊢
   have hr : (if corB ts axs = true then some (u,axs) else none).isSome = corB ts axs := by cases corB ts axs <;> rfl
   have hu : usedR u (if corB ts axs = true then some (u,axs) else none) = u := by cases corB ts axs <;> rfl
   have hx : axsR axs (if corB ts axs = true then some (u,axs) else none) = axs := by cases corB ts axs <;> rfl
   rw [hr,hu,hx]
   have hcl : (cst axs).length = axs.length := by simp [cst]
   rw [← hcl]
   unfold sh6
   have hul := hi.1
   clear ih hi hf hlk
   generalize corB ts axs = b at *
   generalize grV ts = G at *
   generalize cst axs = C at *
   generalize atTs ts = A at *
   have htu : List.take u.length (u.map boolRow) = u.map boolRow := List.take_of_length_le (by simp)
   have htC : List.take C.length (C.map relRow) = C.map relRow := List.take_of_length_le (by simp)
   (refine Sg.h ?_;try repeat' ((with_reducible first|refine brA ?_|refine brE fun _=>?_|refine spl ⟨?_,?_⟩<;>intro _)<;> ((try simp -implicitDefEqProofs); (try simp -implicitDefEqProofs(disch:=first|assumption|(try simp only[lens]);omega -splitDisjunctions)))))
   refine CL.see hix (by simp [htu]) (flat_int _ _) ?_
   (refine Sg.h ?_;try repeat' ((with_reducible first|refine brA ?_|refine brE fun _=>?_|refine spl ⟨?_,?_⟩<;>intro _)<;> ((try simp -implicitDefEqProofs); (try simp -implicitDefEqProofs(disch:=first|assumption|(try simp only[lens]);omega -splitDisjunctions)))))
   refine CL.see hg (by simp [htC]) (flat_bool _) ?_
   (refine Sg.h ?_;try repeat' ((with_reducible first|refine brA ?_|refine brE fun _=>?_|refine spl ⟨?_,?_⟩<;>intro _)<;> ((try simp -implicitDefEqProofs); (try simp -implicitDefEqProofs(disch:=first|assumption|(try simp only[lens]);omega -splitDisjunctions)))))
   refine ⟨[],.inl ?_⟩
   unfold sh6
   have hr7 : List.range 7 = [0,1,2,3,4,5,6] := rfl
   (refine Sg.h ?_;try repeat' ((with_reducible first|refine brA ?_|refine brE fun _=>?_|refine spl ⟨?_,?_⟩<;>intro _)<;> ((try simp -implicitDefEqProofs [hr7]); (try simp -implicitDefEqProofs(disch:=first|assumption|(try simp only[lens]);omega -splitDisjunctions) [hr7]))))
  | some i =>
   have hmore := fun j (h1 : i < j) (h2 : j < (atTs ts).length) h3 => hi.more hf h1 h2 h3
   rw [hf] at hix
   dsimp only at hix ⊢
   rw [List.findIdx?_eq_some_iff_getElem] at hf
   obtain ⟨hil,h1,h2⟩ := hf
   have hui : u[i] = false := by simpa using h1
   have hul := hi.1
   obtain ⟨R,hR⟩ : ∃ R,srJ (srS (corB ts) (atTs ts) f) (atTs ts) (u.set i true) axs i (List.range' (i + 1) ((atTs ts).length - (i + 1))) = R := ⟨_,rfl⟩
   rw [hR]
   have hrest := fun j (h1 : i < j) (h2 : j < (atTs ts).length) h3 => ih ((u.set i true).set j true) (axs ++ [(i,j)]) (hmore j h1 h2 h3) (by rw [List.length_append,List.length_singleton]; omega)
   clear ih hmore hi h1 h2
   have hcs : ∀ j : Nat,cst (axs ++ [(i,j)]) = cst axs ++ [((i : Int),(j : Int))] := fun j => by simp [cst]
   have hcl : (cst axs).length = axs.length := by simp [cst]
   have hcl2 : (cst axs).length ≤ 200 := by omega
   have hsl : ∀ j,(axs ++ [(i,j)]).length = (cst axs).length + 1 := fun j => by rw [List.length_append,hcl]; rfl
   simp only [hcs,hsl] at hrest
   generalize srS (corB ts) (atTs ts) f = S at *
   have hcn : R = none → cst (axsR axs R) = cst axs := fun h => by rw [h]; rfl
   rw [← hcl]
   generalize hCC : cst axs = C at *
   generalize grV ts = G at *
   generalize atTs ts = A at *
   have htu : List.take u.length (u.map boolRow) = u.map boolRow := List.take_of_length_le (by simp)
   have hset0 : (u.map boolRow).set i [.bool true] = (u.set i true).map boolRow := by simp [boolRow_eq]
   have hback0 : (u.set i true).set i false = u := by
    rw [List.set_set]
    apply List.ext_getElem
    ·simp
    ·intro y g1 g2
     rw [List.getElem_set]
     split
     ·rename_i e; subst e; exact hui.symm
     ·rfl
   have hu1l : (u.set i true).length = u.length := by simp
   generalize u.set i true = u1 at *
   have hi0 : ¬ (i : Int) < 0 := by omega
   have hx2 : i < u1.length := by omega
   have hset1 : (u1.map boolRow).set i [.bool false] = u.map boolRow := by rw [← hback0]; simp [boolRow_eq]
   have hr7 : List.range 7 = [0,1,2,3,4,5,6] := rfl
   have hiA : i < A.length := by omega
   unfold sh6
   (refine Sg.h ?_;try repeat' ((with_reducible first|refine brA ?_|refine brE fun _=>?_|refine spl ⟨?_,?_⟩<;>intro _)<;> ((try simp -implicitDefEqProofs); (try simp -implicitDefEqProofs(disch:=first|assumption|(try simp only[lens]);omega -splitDisjunctions)))))
   refine CL.see hix (by simp [htu]) (flat_int _ _) ?_
   (refine Sg.h ?_;try repeat' ((with_reducible first|refine brA ?_|refine brE fun _=>?_|refine spl ⟨?_,?_⟩<;>intro _)<;> ((try simp -implicitDefEqProofs [hil,hi0,hset0,hr7]); (try simp -implicitDefEqProofs(disch:=first|assumption|(try simp only[lens]);omega -splitDisjunctions) [hil,hi0,hset0,hr7]))))
   refine W_of fun Q hQ => ?_
   have later := later_net hA hul hu1l hcl2 hiA hx2 hset1 hcn hcs hrest hQ
   have first := first_net hA hul hu1l hcl2 hiA hx2 hset1 hcn hcs hrest hQ later
   refine at2 (first (A.length - (i + 1)) (i + 1) (by omega) (by omega) hR) ?_ ?_
   ·simp
   ·rfl
end Go.Proofs.Ytbdionmmfigfiaa
