import Derived.Test.YtbdionmmfigfiaaDPvMov
set_option linter.unusedVariables false
set_option linter.unusedSimpArgs false
set_option maxRecDepth 100000
set_option maxHeartbeats 4000000
namespace Go.Proofs.Ytbdionmmfigfiaa
open Go Go.Pv
def tqT : Nat → Lt → List (Nat × Nat)
 | _,.atom _ _ => []
 | n,.op p a b => tqT (n + 1) a ++ tqT (n + 1 + szT a) b ++ (if p = true then [] else [(n,n + 1),(n,n + 1 + szT a)])
def pqT : Nat → Lt → List (Nat × Nat × Nat)
 | _,.atom _ _ => []
 | n,.op p a b => pqT (n + 1) a ++ pqT (n + 1 + szT a) b ++ (if p = true then [(n,n + 1,n + 1 + szT a)] else [])
theorem tqT_perm (t : Lt) : ∀ n,(tqT n t).Perm (tenT n t) := by
 induction t with
 | atom => intro n; exact .refl _
 | op p a b ha hb =>
  intro n
  rw [tqT,tenT]
  exact List.perm_append_comm.trans ((((ha _).append (hb _))).append_left _)
theorem pqT_perm (t : Lt) : ∀ n,(pqT n t).Perm (parT n t) := by
 induction t with
 | atom => intro n; exact .refl _
 | op p a b ha hb =>
  intro n
  rw [pqT,parT]
  exact List.perm_append_comm.trans ((((ha _).append (hb _))).append_left _)
theorem tqT_len (t : Lt) : ∀ n,(tqT n t).length ≤ 2 * szT t := by
 induction t with
 | atom => intro n; simp [tqT]
 | op p a b ha hb =>
  intro n
  have := ha (n + 1)
  have := hb (n + 1 + szT a)
  rw [tqT,szT,List.length_append,List.length_append]
  cases p <;> simp <;> omega
theorem pqT_len (t : Lt) : ∀ n,(pqT n t).length ≤ szT t := by
 induction t with
 | atom => intro n; simp [pqT]
 | op p a b ha hb =>
  intro n
  have := ha (n + 1)
  have := hb (n + 1 + szT a)
  rw [pqT,szT,List.length_append,List.length_append]
  cases p <;> simp <;> omega
def p4Row (p : Nat × Nat × Nat) : List PV := [.int .i64 (p.1 : Int),.int .i64 (p.2.1 : Int),.int .i64 (p.1 : Int),.int .i64 (p.2.2 : Int)]
instance : FlatRow p4Row := ⟨fun _ => rfl⟩
def e2Row (p : Nat × Nat) : List PV := [.int .i64 (p.1 : Int),.int .i64 (p.2 : Int)]
instance : FlatRow e2Row := ⟨fun _ => rfl⟩
def eS (n : Nat) (L : List Nat) (A : List (Nat × Nat)) (P : List (Nat × Nat × Nat)) : Store := [.rows 1 [[.int .i64 (n : Int)]],.rows 1 [[.sl 5 0 L.length]],.rows 1 [[.fn (.func 65) [] [.ptr 0 0 0,.ptr 1 0 0,.ptr 2 0 0,.ptr 3 0 0,.ptr 4 0 0]]],.rows 1 [[.sl 6 0 A.length]],.rows 1 [[.sl 7 0 P.length]],
 .rows 1 (L.map numRow),.rows 2 (A.map e2Row),.rows 4 (P.map p4Row)]
def eD (n : Nat) (L : List Nat) (A : List (Nat × Nat)) (P : List (Nat × Nat × Nat)) : Store := [.rows 1 [[.int .i64 (n : Int)]],.rows 1 [[.sl 8 0 L.length]],.rows 1 [[.fn (.func 65) [] [.ptr 0 0 0,.ptr 1 0 0,.ptr 2 0 0,.ptr 3 0 0,.ptr 4 0 0]]],.rows 1 [[.sl 9 0 A.length]],.rows 1 [[.sl 10 0 P.length]],
 .dead,.dead,.dead,.rows 1 (L.map numRow),.rows 2 (A.map e2Row),.rows 4 (P.map p4Row)]
def x65 : XC := .seq (.reg [⟨some 6,.box 24 (.tmp 0),none⟩,⟨some 7,.assign (.const (.int .i64 0)),none⟩]) (.seq (.reg [⟨some 11,.load 3 (.tmp 1),none⟩,⟨some 8,.assign (.tmp 11),none⟩]) (.seq (.reg [⟨some 12,.load 3 (.tmp 1),none⟩,⟨some 13,.binOp .add 3 (.tmp 12) (.const (.int .i64 1)) 3,none⟩,⟨none,.store 3 (.tmp 1) (.tmp 13),none⟩]) (.seq (.seq (.reg [⟨some 14,.fieldAddr 24 (.tmp 6) 0,none⟩,⟨some 15,.load 3 (.tmp 14),none⟩,⟨some 16,.binOp .eql 3 (.tmp 15) (.const (.int .i64 1)) 3,none⟩]) (.cond (.tmp 16) (.seq (.reg [⟨some 17,.load 67 (.tmp 2),none⟩,⟨some 18,.move (.tmp 8),none⟩,⟨some 19,.buildSlice 67 1 #[(0,.tmp 18)],none⟩,⟨some 20,.call ⟨.builtin .append,#[.tmp 17,.tmp 19],#[67,67]⟩,none⟩,⟨none,.store 67 (.tmp 2) (.tmp 20),none⟩]) (.seq (.reg [⟨some 21,.move (.tmp 8),none⟩,⟨some 7,.assign (.tmp 21),none⟩]) .ret)) .skip)) (.seq (.drawn 6 [⟨some 22,.load 75 (.tmp 3),none⟩,⟨some 23,.fieldAddr 24 (.tmp 6) 3,none⟩,⟨some 24,.load 22 (.tmp 23),none⟩,⟨some 25,.indexAddr 22 (.tmp 24) (.const (.int .i64 0)),none⟩,⟨some 26,.load 24 (.tmp 25),none⟩,⟨some 27,.call ⟨.value (.tmp 22),#[.tmp 26],#[24]⟩,none⟩,⟨some 9,.assign (.tmp 27),none⟩]) (.seq (.drawn 7 [⟨some 28,.load 75 (.tmp 3),none⟩,⟨some 29,.fieldAddr 24 (.tmp 6) 3,none⟩,⟨some 30,.load 22 (.tmp 29),none⟩,⟨some 31,.indexAddr 22 (.tmp 30) (.const (.int .i64 1)),none⟩,⟨some 32,.load 24 (.tmp 31),none⟩,⟨some 33,.call ⟨.value (.tmp 28),#[.tmp 32],#[24]⟩,none⟩,⟨some 10,.assign (.tmp 33),none⟩]) (.seq (.seq (.reg [⟨some 34,.fieldAddr 24 (.tmp 6) 0,none⟩,⟨some 35,.load 3 (.tmp 34),none⟩,⟨some 36,.binOp .eql 3 (.tmp 35) (.const (.int .i64 2)) 3,none⟩]) (.cond (.tmp 36) (.reg [⟨some 37,.load 25 (.tmp 4),none⟩,⟨some 38,.move (.tmp 8),none⟩,⟨some 39,.move (.tmp 9),none⟩,⟨some 40,.build 33 #[(0,.tmp 38),(1,.tmp 39)],none⟩,⟨some 41,.move (.tmp 8),none⟩,⟨some 42,.move (.tmp 10),none⟩,⟨some 43,.build 33 #[(0,.tmp 41),(1,.tmp 42)],none⟩,⟨some 44,.buildSlice 25 2 #[(0,.tmp 40),(1,.tmp 43)],none⟩,⟨some 45,.call ⟨.builtin .append,#[.tmp 37,.tmp 44],#[25,25]⟩,none⟩,⟨none,.store 25 (.tmp 4) (.tmp 45),none⟩]) (.reg [⟨some 46,.load 68 (.tmp 5),none⟩,⟨some 47,.move (.tmp 8),none⟩,⟨some 48,.move (.tmp 9),none⟩,⟨some 49,.build 33 #[(0,.tmp 47),(1,.tmp 48)],none⟩,⟨some 50,.move (.tmp 8),none⟩,⟨some 51,.move (.tmp 10),none⟩,⟨some 52,.build 33 #[(0,.tmp 50),(1,.tmp 51)],none⟩,⟨some 53,.build 71 #[(0,.tmp 49),(1,.tmp 52)],none⟩,⟨some 54,.buildSlice 68 1 #[(0,.tmp 53)],none⟩,⟨some 55,.call ⟨.builtin .append,#[.tmp 46,.tmp 54],#[68,68]⟩,none⟩,⟨none,.store 68 (.tmp 5) (.tmp 55),none⟩]))) (.seq (.reg [⟨some 56,.move (.tmp 8),none⟩,⟨some 7,.assign (.tmp 56),none⟩]) .ret)))))))
@[simp] theorem x65_s {C e s K} : type_of% (@X_at C e s K _ _ x65.eq_1) := X_at x65.eq_1
def an65 : Ann := ⟨[(6,.mix 5),(7,.mix 5)],[],[]⟩
@[simp] theorem an65_a : an65.clsOf 6 = .mix 5 ∧ an65.clsOf 7 = .mix 5 ∧ an65.frzOf 6 = [] ∧ an65.frzOf 7 = [] := ⟨rfl,rfl,rfl,rfl⟩
theorem fi65 : FI Try.prog 65 (cxA an65) x65 [.tmp 7] Try.f65 := fiA Try.func65 mixed
theorem put_ref (t : Lt) : ∀ (n : Nat) (L : List Nat) (A : List (Nat × Nat)) (P : List (Nat × Nat × Nat)), n + szT t ≤ 100000 → L.length ≤ n → A.length ≤ 2 * n → P.length ≤ n →
    CallOK Try.prog 65 [.agg (lnr (lnOf t)), .ptr 0 0 0, .ptr 1 0 0, .ptr 2 0 0, .ptr 3 0 0, .ptr 4 0 0] (eS n L A P) (.int .i64 (n : Int)) (eD (n + szT t) (L ++ lnT n t) (A ++ tqT n t) (P ++ pqT n t)) := by
  induction t with
  | atom nm no =>
    intro n L A P hb hL hA hP
    rw [szT] at hb
    unfold eD lnT tqT pqT szT lnOf
    rw [List.append_nil, List.append_nil]
    refine CallOK.moved (v := .int .i64 (n : Int)) (s1 := [.rows 1 [[.int .i64 ((n : Int) + 1)]], .rows 1 [[.sl 8 0 (L ++ [n]).length]], .rows 1 [[.fn (.func 65) [] [.ptr 0 0 0, .ptr 1 0 0, .ptr 2 0 0, .ptr 3 0 0, .ptr 4 0 0]]], .rows 1 [[.sl 6 0 A.length]], .rows 1 [[.sl 7 0 P.length]],
      .dead, .rows 2 (A.map e2Row), .rows 4 (P.map p4Row), .rows 1 ((L ++ [n]).map numRow)]) ?_ [0, 1, 2, 3, 4, 5, 6, 7, 8, 6, 7] ?_ rfl ?_ ?_ .int
    · refine fi65.og ?_
      have h1 : (L.length + 1) * 8 ≤ 140737488355328 := by omega
      have hr8 : List.range 8 = [0, 1, 2, 3, 4, 5, 6, 7] := rfl
      unfold eS
      (refine Sg.h ?_;try repeat' ((with_reducible first|refine brA ?_|refine brE fun _=>?_|refine spl ⟨?_,?_⟩<;>intro _)<;> ((try simp -implicitDefEqProofs [hr8]); (try simp -implicitDefEqProofs(disch:=first|assumption|(try simp only[lens]);omega -splitDisjunctions) [hr8]))))
      exact h1
    · intro i hi
      have hi : i < 8 := hi
      match i, hi with
      | 0, _ => rfl
      | 1, _ => rfl
      | 2, _ => rfl
      | 3, _ => rfl
      | 4, _ => rfl
      | 5, _ => rfl
      | 6, _ => rfl
      | 7, _ => rfl
    · intro i j k hi hj g1 g2
      have hi' := lt_of_getElem? hi
      have hj' := lt_of_getElem? hj
      have hi' : i < 11 := hi'
      have hj' : j < 11 := hj'
      have d5 : ∀ x : Nat, x = 5 ∨ x = 6 ∨ x = 7 → ([.rows 1 [[.int .i64 ((n + 1 : Nat) : Int)]], .rows 1 [[.sl 8 0 (L ++ [n]).length]], .rows 1 [[.fn (.func 65) [] [.ptr 0 0 0, .ptr 1 0 0, .ptr 2 0 0, .ptr 3 0 0, .ptr 4 0 0]]], .rows 1 [[.sl 9 0 A.length]], .rows 1 [[.sl 10 0 P.length]],
  .dead, .dead, .dead, .rows 1 ((L ++ [n]).map numRow), .rows 2 (A.map e2Row), .rows 4 (P.map p4Row)] : Store)[x]? = some PObj.dead := by rintro x (rfl | rfl | rfl) <;> rfl
      have n1 : ¬ (i = 5 ∨ i = 6 ∨ i = 7) := fun h => g1 (d5 i h)
      have n2 : ¬ (j = 5 ∨ j = 6 ∨ j = 7) := fun h => g2 (d5 j h)
      have val : ∀ x y : Nat, x < 11 → [0, 1, 2, 3, 4, 5, 6, 7, 8, 6, 7][x]? = some y → ¬ (x = 5 ∨ x = 6 ∨ x = 7) → (x < 9 ∧ y = x) ∨ (x = 9 ∧ y = 6) ∨ (x = 10 ∧ y = 7) := by
        intro x y hx h hn
        match x, hx with
        | 0, _ | 1, _ | 2, _ | 3, _ | 4, _ | 8, _ => simp at h; omega
        | 5, _ | 6, _ | 7, _ => exact absurd (by omega) hn
        | 9, _ | 10, _ => simp at h; omega
      have v1 := val i k hi' hi n1
      have v2 := val j k hj' hj n2
      omega
    · intro i o' hi
      have hi' : i < 11 := lt_of_getElem? hi
      match i, hi' with
      | 0, _ => cases hi; exact ⟨0, _, rfl, rfl, by rw [show ((n + 1 : Nat) : Int) = (n : Int) + 1 by omega]; exact .same (by simp; exact .int)⟩
      | 1, _ => cases hi; exact ⟨1, _, rfl, rfl, .same (by simp; exact .sl rfl)⟩
      | 2, _ => cases hi; exact ⟨2, _, rfl, rfl, .same (by
          simp
          refine .fn rfl (fun k x y h1 h2 => by simp at h1) rfl (fun k x y h1 h2 => ?_)
          rw [h1] at h2
          cases h2
          have := lt_of_getElem? h1
          match k, this with
          | 0, _ => cases h1; exact .ptr rfl
          | 1, _ => cases h1; exact .ptr rfl
          | 2, _ => cases h1; exact .ptr rfl
          | 3, _ => cases h1; exact .ptr rfl
          | 4, _ => cases h1; exact .ptr rfl)⟩
      | 3, _ => cases hi; exact ⟨3, _, rfl, rfl, .rows (Nat.le_refl _) fun r row row' h1 h2 => by
          match r, lt_of_getElem? h1 with
          | 0, _ =>
            cases h1; cases h2
            refine ⟨rfl, fun k x y h3 h4 => ?_⟩
            match k, lt_of_getElem? h3 with
            | 0, _ => cases h3; cases h4; exact .sl rfl⟩
      | 4, _ => cases hi; exact ⟨4, _, rfl, rfl, .rows (Nat.le_refl _) fun r row row' h1 h2 => by
          match r, lt_of_getElem? h1 with
          | 0, _ =>
            cases h1; cases h2
            refine ⟨rfl, fun k x y h3 h4 => ?_⟩
            match k, lt_of_getElem? h3 with
            | 0, _ => cases h3; cases h4; exact .sl rfl⟩
      | 5, _ => cases hi; exact ⟨5, _, rfl, rfl, .dead⟩
      | 6, _ => cases hi; exact ⟨6, _, rfl, rfl, .dead⟩
      | 7, _ => cases hi; exact ⟨7, _, rfl, rfl, .dead⟩
      | 8, _ => cases hi; exact ⟨8, _, rfl, rfl, .flatm _⟩
      | 9, _ => cases hi; exact ⟨6, _, rfl, rfl, .flatm _⟩
      | 10, _ => cases hi; exact ⟨7, _, rfl, rfl, .flatm _⟩
  | op p a b iha ihb =>
    intro n L A P hb hL hA hP
    rw [szT] at hb
    have hkl : (lnOf (.op p a b)).k = if p = true then 3 else 2 := by rw [lnOf]; rfl
    have hkk : (lnOf (.op p a b)).kids = [lnOf a, lnOf b] := by rw [lnOf]; rfl
    generalize lnOf (.op p a b) = X at *
    refine fi65.og ?_
    have hr8 : List.range 8 = [0, 1, 2, 3, 4, 5, 6, 7] := rfl
    have sa := szT_pos a
    have sb := szT_pos b
    have ra := iha (n + 1) L A P (by omega) (by omega) (by omega) (by omega)
    have la := lnT_in a
    have l1 : (lnT (n + 1) a).length ≤ szT a := by have := lfT_len a (n + 1); rw [lnT_lf, List.length_map] at this; exact this
    have l2 := tqT_len a (n + 1)
    have l3 := pqT_len a (n + 1)
    have hp : ¬ (if p = true then (3 : Int) else 2) = 1 := by cases p <;> decide
    have rb := ihb (n + 1 + szT a) (L ++ lnT (n + 1) a) (A ++ tqT (n + 1) a) (P ++ pqT (n + 1) a) (by omega) (by rw [List.length_append]; omega) (by rw [List.length_append]; omega) (by rw [List.length_append]; omega)
    have m1 : (L ++ lnT (n + 1) a ++ lnT (n + 1 + szT a) b).length ≤ 300000 := by
      have := lfT_len b (n + 1 + szT a); rw [lnT_lf, List.length_map] at this; rw [List.length_append, List.length_append]; omega
    have m2 : (A ++ tqT (n + 1) a ++ tqT (n + 1 + szT a) b).length ≤ 600000 := by
      have := tqT_len b (n + 1 + szT a); rw [List.length_append, List.length_append]; omega
    have m3 : (P ++ pqT (n + 1) a ++ pqT (n + 1 + szT a) b).length ≤ 300000 := by
      have := pqT_len b (n + 1 + szT a); rw [List.length_append, List.length_append]; omega
    have q1 : L ++ lnT n (.op p a b) = L ++ lnT (n + 1) a ++ lnT (n + 1 + szT a) b := by rw [lnT, List.append_assoc]
    have q2 : A ++ tqT n (.op p a b) = A ++ tqT (n + 1) a ++ tqT (n + 1 + szT a) b ++ (if p = true then [] else [(n, n + 1), (n, n + 1 + szT a)]) := by rw [tqT]; simp only [List.append_assoc]
    have q3 : P ++ pqT n (.op p a b) = P ++ pqT (n + 1) a ++ pqT (n + 1 + szT a) b ++ (if p = true then [(n, n + 1, n + 1 + szT a)] else []) := by rw [pqT]; simp only [List.append_assoc]
    rw [q1, q2, q3, szT]
    generalize L ++ lnT (n + 1) a ++ lnT (n + 1 + szT a) b = L2 at *
    generalize A ++ tqT (n + 1) a ++ tqT (n + 1 + szT a) b = A2 at *
    generalize P ++ pqT (n + 1) a ++ pqT (n + 1 + szT a) b = P2 at *
    generalize L ++ lnT (n + 1) a = L1 at *
    generalize A ++ tqT (n + 1) a = A1 at *
    generalize P ++ pqT (n + 1) a = P1 at *
    have hn1 : ((n + 1 : Nat) : Int) = (n : Int) + 1 := by omega
    have hn2 : ((n + 1 + szT a : Nat) : Int) = (n : Int) + 1 + (szT a : Int) := by omega
    clear q1 q2 q3 iha ihb la l1 l2 l3
    generalize szT a = za at *
    generalize szT b = zb at *
    unfold eS eD at *
    rw [hn1] at ra
    rw [hn2] at ra rb
    cases p with
    | true =>
      rw [if_pos rfl] at hkl
      (refine Sg.h ?_;try repeat' ((with_reducible first|refine brA ?_|refine brE fun _=>?_|refine spl ⟨?_,?_⟩<;>intro _)<;> ((try simp -implicitDefEqProofs [hkl, hkk, hr8]); (try simp -implicitDefEqProofs(disch:=first|assumption|(try simp only[lens]);omega -splitDisjunctions) [hkl, hkk, hr8]))))
      refine cd_sub [0, 1, 2, 3, 4, 5, 6, 7] (hc := by simpa using ra) ?_
      (refine Sg.h ?_;try repeat' ((with_reducible first|refine brA ?_|refine brE fun _=>?_|refine spl ⟨?_,?_⟩<;>intro _)<;> ((try simp -implicitDefEqProofs [hkk]); (try simp -implicitDefEqProofs(disch:=first|assumption|(try simp only[lens]);omega -splitDisjunctions) [hkk]))))
      refine cd_sub [0, 1, 2, 3, 4, 9, 10, 11] (hc := by simpa using rb) ?_
      (refine Sg.h ?_;try repeat' ((with_reducible first|refine brA ?_|refine brE fun _=>?_|refine spl ⟨?_,?_⟩<;>intro _)<;> ((try simp -implicitDefEqProofs [hkl, hr8]); (try simp -implicitDefEqProofs(disch:=first|assumption|(try simp only[lens]);omega -splitDisjunctions) [hkl, hr8]))))
      all_goals (simp [p4Row])
    | false =>
      rw [if_neg (by decide)] at hkl
      (refine Sg.h ?_;try repeat' ((with_reducible first|refine brA ?_|refine brE fun _=>?_|refine spl ⟨?_,?_⟩<;>intro _)<;> ((try simp -implicitDefEqProofs [hkl, hkk, hr8]); (try simp -implicitDefEqProofs(disch:=first|assumption|(try simp only[lens]);omega -splitDisjunctions) [hkl, hkk, hr8]))))
      refine cd_sub [0, 1, 2, 3, 4, 5, 6, 7] (hc := by simpa using ra) ?_
      (refine Sg.h ?_;try repeat' ((with_reducible first|refine brA ?_|refine brE fun _=>?_|refine spl ⟨?_,?_⟩<;>intro _)<;> ((try simp -implicitDefEqProofs [hkk]); (try simp -implicitDefEqProofs(disch:=first|assumption|(try simp only[lens]);omega -splitDisjunctions) [hkk]))))
      refine cd_sub [0, 1, 2, 3, 4, 9, 10, 11] (hc := by simpa using rb) ?_
      (refine Sg.h ?_;try repeat' ((with_reducible first|refine brA ?_|refine brE fun _=>?_|refine spl ⟨?_,?_⟩<;>intro _)<;> ((try simp -implicitDefEqProofs [hkl, hr8]); (try simp -implicitDefEqProofs(disch:=first|assumption|(try simp only[lens]);omega -splitDisjunctions) [hkl, hr8]))))
      all_goals (simp [e2Row])
def tqTs : Nat → List Lt → List (Nat × Nat)
 | _,[] => []
 | n,t :: r => tqT n t ++ tqTs (n + szT t) r
def pqTs : Nat → List Lt → List (Nat × Nat × Nat)
 | _,[] => []
 | n,t :: r => pqT n t ++ pqTs (n + szT t) r
theorem tqTs_app (a b : List Lt) : ∀ n,tqTs n (a ++ b) = tqTs n a ++ tqTs (n + szTs a) b := by
 induction a with
 | nil => intro n; simp [tqTs,szTs]
 | cons x r ih => intro n; rw [List.cons_append,tqTs,tqTs,ih,List.append_assoc,szTs,Nat.add_assoc]
theorem pqTs_app (a b : List Lt) : ∀ n,pqTs n (a ++ b) = pqTs n a ++ pqTs (n + szTs a) b := by
 induction a with
 | nil => intro n; simp [pqTs,szTs]
 | cons x r ih => intro n; rw [List.cons_append,pqTs,pqTs,ih,List.append_assoc,szTs,Nat.add_assoc]
theorem tqTs_len (l : List Lt) : ∀ n,(tqTs n l).length ≤ 2 * szTs l := by
 induction l with
 | nil => intro n; simp [tqTs]
 | cons x r ih => intro n; have := tqT_len x n; have := ih (n + szT x); rw [tqTs,szTs,List.length_append]; omega
theorem pqTs_len (l : List Lt) : ∀ n,(pqTs n l).length ≤ szTs l := by
 induction l with
 | nil => intro n; simp [pqTs]
 | cons x r ih => intro n; have := pqT_len x n; have := ih (n + szT x); rw [pqTs,szTs,List.length_append]; omega
theorem tqTs_perm (l : List Lt) : ∀ n,(tqTs n l).Perm (tenTs n l) := by
 induction l with
 | nil => intro n; exact .refl _
 | cons x r ih => intro n; exact (tqT_perm x n).append (ih _)
theorem pqTs_perm (l : List Lt) : ∀ n,(pqTs n l).Perm (parTs n l) := by
 induction l with
 | nil => intro n; exact .refl _
 | cons x r ih => intro n; exact (pqT_perm x n).append (ih _)
def x44_T3 : XC := .seq (.drawn 15 [⟨some 53,.load 3 (.tmp 7),none⟩,⟨some 54,.load 25 (.tmp 9),none⟩,⟨some 55,.load 68 (.tmp 10),none⟩,⟨some 4,.assign (.tmp 53),none⟩,⟨some 5,.assign (.tmp 54),none⟩,⟨some 6,.assign (.tmp 55),none⟩]) .ret
def x44_L2 : XC := .seq (.seq (.reg [⟨some 27,.move (.tmp 13),none⟩,⟨some 28,.move (.tmp 1),none⟩,⟨some 29,.call ⟨.builtin .len,#[.tmp 28],#[25]⟩,none⟩,⟨some 30,.binOp .lss 3 (.tmp 27) (.tmp 29) 3,none⟩]) (.cond (.tmp 30) .skip (.exit 2))) (.seq (.block 3 (.drawn 14 [⟨some 33,.load 25 (.tmp 9),none⟩,⟨some 34,.load 67 (.tmp 8),none⟩,⟨some 35,.move (.tmp 1),none⟩,⟨some 36,.move (.tmp 13),none⟩,⟨some 37,.indexAddr 25 (.tmp 35) (.tmp 36),none⟩,⟨some 38,.indexAddr 33 (.tmp 37) (.const (.int .i64 0)),none⟩,⟨some 39,.load 3 (.tmp 38),none⟩,⟨some 40,.indexAddr 67 (.tmp 34) (.tmp 39),none⟩,⟨some 41,.load 3 (.tmp 40),none⟩,⟨some 42,.load 67 (.tmp 8),none⟩,⟨some 43,.move (.tmp 1),none⟩,⟨some 44,.move (.tmp 13),none⟩,⟨some 45,.indexAddr 25 (.tmp 43) (.tmp 44),none⟩,⟨some 46,.indexAddr 33 (.tmp 45) (.const (.int .i64 1)),none⟩,⟨some 47,.load 3 (.tmp 46),none⟩,⟨some 48,.indexAddr 67 (.tmp 42) (.tmp 47),none⟩,⟨some 49,.load 3 (.tmp 48),none⟩,⟨some 50,.build 33 #[(0,.tmp 41),(1,.tmp 49)],none⟩,⟨some 51,.buildSlice 25 1 #[(0,.tmp 50)],none⟩,⟨some 52,.call ⟨.builtin .append,#[.tmp 33,.tmp 51],#[25,25]⟩,none⟩,⟨none,.store 25 (.tmp 9) (.tmp 52),none⟩])) (.reg [⟨some 31,.move (.tmp 13),none⟩,⟨some 32,.binOp .add 3 (.tmp 31) (.const (.int .i64 1)) 3,none⟩,⟨some 13,.assign (.tmp 32),none⟩]))
def x44_T1 : XC := .seq (.seq (.reg [⟨some 13,.assign (.const (.int .i64 0)),none⟩]) (.bloop 2 x44_L2)) (x44_T3)
def x44_L0 : XC := .seq (.seq (.reg [⟨some 15,.move (.tmp 12),none⟩,⟨some 16,.move (.tmp 0),none⟩,⟨some 17,.call ⟨.builtin .len,#[.tmp 16],#[22]⟩,none⟩,⟨some 18,.binOp .lss 3 (.tmp 15) (.tmp 17) 3,none⟩]) (.cond (.tmp 18) .skip (.exit 0))) (.seq (.block 1 (.drawn 10 [⟨some 21,.load 75 (.tmp 11),none⟩,⟨some 22,.move (.tmp 0),none⟩,⟨some 23,.move (.tmp 12),none⟩,⟨some 24,.indexAddr 22 (.tmp 22) (.tmp 23),none⟩,⟨some 25,.load 24 (.tmp 24),none⟩,⟨some 26,.call ⟨.value (.tmp 21),#[.tmp 25],#[24]⟩,none⟩])) (.reg [⟨some 19,.move (.tmp 12),none⟩,⟨some 20,.binOp .add 3 (.tmp 19) (.const (.int .i64 1)) 3,none⟩,⟨some 12,.assign (.tmp 20),none⟩]))
def x44 : XC := .seq (.reg [⟨some 4,.assign (.const (.int .i64 0)),none⟩,⟨some 5,.assign (.const (.slice none 0 0)),none⟩,⟨some 6,.assign (.const (.slice none 0 0)),none⟩]) (.seq (.reg [⟨some 7,.alloc 3,none⟩,⟨none,.store 3 (.tmp 7) (.const (.int .i64 0)),none⟩]) (.seq (.reg [⟨some 8,.alloc 67,none⟩]) (.seq (.reg [⟨some 9,.alloc 25,none⟩]) (.seq (.reg [⟨some 10,.alloc 68,none⟩]) (.seq (.reg [⟨some 11,.alloc 75,none⟩]) (.seq (.reg [⟨some 14,.makeFunc (.func 65) #[] #[.tmp 7,.tmp 8,.tmp 11,.tmp 9,.tmp 10],none⟩,⟨none,.store 75 (.tmp 11) (.tmp 14),none⟩]) (.seq (.seq (.reg [⟨some 12,.assign (.const (.int .i64 0)),none⟩]) (.bloop 0 x44_L0)) (x44_T1))))))))
@[simp] theorem x44_s {C e s K} : type_of% (@X_at C e s K _ _ x44_T3.eq_1) ∧ type_of% (@X_at C e s K _ _ x44_L2.eq_1) ∧ type_of% (@X_at C e s K _ _ x44_T1.eq_1) ∧ type_of% (@X_at C e s K _ _ x44_L0.eq_1) ∧ type_of% (@X_at C e s K _ _ x44.eq_1) := ⟨X_at x44_T3.eq_1,X_at x44_L2.eq_1,X_at x44_T1.eq_1,X_at x44_L0.eq_1,X_at x44.eq_1⟩
def an44 : Ann := ⟨[(14,.mix 19)],[(2,[],[1,7,8,9,10,13],[7,9,10]),(0,[(8,some 0,1),(9,some 0,2),(10,some 0,4)],[0,1,7,8,9,10,11,12],[1,7,8,9,10])],[]⟩
@[simp] theorem an44_a : an44.clsOf 10 = .draw ∧ an44.clsOf 14 = .mix 19 ∧ an44.clsOf 15 = .draw ∧ an44.frzOf 10 = [] ∧ an44.frzOf 14 = [] ∧ an44.frzOf 15 = [] ∧ an44.loopOf 2 = ([],[1,7,8,9,10,13],[7,9,10]) ∧ an44.loopOf 0 = ([(8,some 0,1),(9,some 0,2),(10,some 0,4)],[0,1,7,8,9,10,11,12],[1,7,8,9,10]) := ⟨rfl,rfl,rfl,rfl,rfl,rfl,rfl,rfl⟩
theorem fi44 : FI Try.prog 44 (cxA an44) x44 [.tmp 4,.tmp 5,.tmp 6] Try.f44 := fiA Try.func44 mixed
theorem edges_ref (l : List Lt) (an : List (Nat × Nat)) (hl : szTs l ≤ 1000) (hn : l.length ≤ 1000) (hal : an.length ≤ 1000) (han : ∀ a ∈ an,a.1 < (lnTs 0 l).length ∧ a.2 < (lnTs 0 l).length) :
  CallOK Try.prog 44 [.list ((l.map lnOf).map lnr),.list ((cst an).map relRow)] [] (.tuple [.int .i64 (szTs l : Int),.list ((tqTs 0 l ++ an.map fun a => ((lnTs 0 l)[a.1]!,(lnTs 0 l)[a.2]!)).map e2Row),.list ((pqTs 0 l).map p4Row)]) [] := by
 refine fi44.op ?_
 obtain ⟨R,hR⟩ : ∃ R,PV.tuple [.int .i64 (szTs l : Int),.list ((tqTs 0 l ++ an.map fun a => ((lnTs 0 l)[a.1]!,(lnTs 0 l)[a.2]!)).map e2Row),.list ((pqTs 0 l).map p4Row)] = R := ⟨_,rfl⟩
 rw [hR]
 obtain ⟨L,hL⟩ : ∃ L,l.map lnOf = L := ⟨_,rfl⟩
 rw [hL]
 have hLl : L.length = l.length := by rw [← hL,List.length_map]
 have hLi : ∀ i (h : i < L.length), L[i] = lnOf (l[i]'(by omega)) := by
  intro i h
  subst hL
  rw [List.getElem_map]
 have hcl : (cst an).length = an.length := by simp [cst]
 have hg : ∀ i (h : i < (cst an).length), (cst an)[i] = (((an[i]'(by omega)).1 : Int), ((an[i]'(by omega)).2 : Int)) := by intro i h; simp [cst]
 obtain ⟨C,hC⟩ : ∃ C,cst an = C := ⟨_,rfl⟩
 rw [hC]
 simp only [hC] at hg hcl
 (refine Sg.h ?_;try repeat' ((with_reducible first|refine brA ?_|refine brE fun _=>?_|refine spl ⟨?_,?_⟩<;>intro _)<;> ((try simp -implicitDefEqProofs); (try simp -implicitDefEqProofs(disch:=first|assumption|(try simp only[lens]);omega -splitDisjunctions)))))
 refine W_of fun Q hQ => ?_
 have main : ∀ k i,i + k = l.length → Q [(0,.list (L.map lnr)),(1,.list (C.map relRow)),(7,.ptr 0 0 0),(8,.ptr 1 0 0),(9,.ptr 2 0 0),(10,.ptr 3 0 0),(11,.ptr 4 0 0),(12,.int .i64 (i : Int))]
   [.rows 1 [[.int .i64 (szTs (l.take i) : Int)]],.rows 1 [[.sl 5 0 (lnTs 0 (l.take i)).length]],.rows 1 [[.sl 6 0 (tqTs 0 (l.take i)).length]],.rows 1 [[.sl 7 0 (pqTs 0 (l.take i)).length]],.rows 1 [[.fn (.func 65) [] [.ptr 0 0 0,.ptr 1 0 0,.ptr 4 0 0,.ptr 2 0 0,.ptr 3 0 0]]],
    .rows 1 ((lnTs 0 (l.take i)).map numRow),.rows 2 ((tqTs 0 (l.take i)).map e2Row),.rows 4 ((pqTs 0 (l.take i)).map p4Row)] := by
  intro k
  induction k with
  | zero =>
   intro i hi
   obtain rfl : i = l.length := by omega
   rw [List.take_of_length_le (Nat.le_refl _)]
   have hA := tqTs_len l 0
   have hll : (lnTs 0 l).length ≤ szTs l := by have := lfTs_len l 0; rw [lnTs_lf,List.length_map] at this; exact this
   generalize lnTs 0 l = F at *
   generalize tqTs 0 l = A at *
   generalize pqTs 0 l = P at *
   generalize szTs l = N at *
   apply hQ
   clear hQ
   (refine Sg.h ?_;try repeat' ((with_reducible first|refine brA ?_|refine brE fun _=>?_|refine spl ⟨?_,?_⟩<;>intro _)<;> ((try simp -implicitDefEqProofs [hLl]); (try simp -implicitDefEqProofs(disch:=first|assumption|(try simp only[lens]);omega -splitDisjunctions) [hLl]))))
   refine W_of fun Q2 hQ2 => ?_
   have main2 : ∀ k j,j + k = an.length → Q2 [(1,.list (C.map relRow)),(7,.ptr 0 0 0),(8,.ptr 1 0 0),(9,.ptr 2 0 0),(10,.ptr 3 0 0),(13,.int .i64 (j : Int))]
     [.rows 1 [[.int .i64 (N : Int)]],.rows 1 [[.sl 4 0 F.length]],.rows 1 [[.sl 5 0 (A ++ (an.take j).map fun a => (F[a.1]!,F[a.2]!)).length]],.rows 1 [[.sl 6 0 P.length]],.rows 1 (F.map numRow),.rows 2 ((A ++ (an.take j).map fun a => (F[a.1]!,F[a.2]!)).map e2Row),.rows 4 (P.map p4Row)] := by
    intro k
    induction k with
    | zero =>
     intro j hj
     rw [List.take_of_length_le (by omega)]
     subst hR
     have hj' : ¬ (j : Int) < (C.length : Int) := by omega
     generalize (A ++ an.map fun a => (F[a.1]!,F[a.2]!)) = A2 at *
     apply hQ2
     clear hQ2
     (refine Sg.h ?_;try repeat' ((with_reducible first|refine brA ?_|refine brE fun _=>?_|refine spl ⟨?_,?_⟩<;>intro _)<;> ((try simp -implicitDefEqProofs [hj']); (try simp -implicitDefEqProofs(disch:=first|assumption|(try simp only[lens]);omega -splitDisjunctions) [hj']))))
    | succ k ih2 =>
     intro j hj
     have hjn : j < an.length := by omega
     have hjl : j < C.length := by omega
     have ih2 := ih2 (j + 1) (by omega)
     have hgj := hg j hjl
     obtain ⟨h1,h2⟩ := han an[j] (List.getElem_mem hjn)
     rw [take_snoc hjn,List.map_append,List.map_singleton,← List.append_assoc] at ih2
     have hAl : (A ++ (an.take j).map fun a => (F[a.1]!,F[a.2]!)).length ≤ 4000 := by simp; omega
     generalize (A ++ (an.take j).map fun a => (F[a.1]!,F[a.2]!)) = A2 at *
     rw [getElem!_pos F _ h1,getElem!_pos F _ h2] at ih2
     generalize an[j].1 = u at *
     generalize an[j].2 = v at *
     obtain ⟨x,hx⟩ : ∃ x,F[u] = x := ⟨_,rfl⟩
     obtain ⟨y,hy⟩ : ∃ y,F[v] = y := ⟨_,rfl⟩
     rw [hx,hy] at ih2
     apply hQ2
     clear hQ2
     (refine Sg.h ?_;try repeat' ((with_reducible first|refine brA ?_|refine brE fun _=>?_|refine spl ⟨?_,?_⟩<;>intro _)<;> ((try simp -implicitDefEqProofs [hjl,hgj,h1,h2,hx,hy]); (try simp -implicitDefEqProofs(disch:=first|assumption|(try simp only[lens]);omega -splitDisjunctions) [hjl,hgj,h1,h2,hx,hy]))))
     all_goals first | exact ih2 | (refine at2 ih2 ?_ ?_ <;> simp [e2Row]; done) | (exfalso; first | omega | (simp_all; done) | (simp_all; omega))
   refine at2 (main2 an.length 0 (Nat.zero_add _)) ?_ ?_
   ·rfl
   ·simp
  | succ k ih =>
   intro i hi
   have hil : i < L.length := by omega
   have hx := hLi i hil
   have ih := ih (i + 1) (by omega)
   have hi2 : i < l.length := by omega
   rw [take_snoc hi2,lnTs_app,tqTs_app,pqTs_app,szTs_app] at ih
   have hsz : szTs (l.take i) + szT l[i] ≤ szTs l := by
    conv => rhs; rw [← List.take_append_drop i l,szTs_app,List.drop_eq_getElem_cons hi2,szTs]
    omega
   have b1 : (lnTs 0 (l.take i)).length ≤ szTs (l.take i) := by have := lfTs_len (l.take i) 0; rw [lnTs_lf,List.length_map] at this; exact this
   have b2 := tqTs_len (l.take i) 0
   have b3 := pqTs_len (l.take i) 0
   have hc := put_ref l[i] (szTs (l.take i)) (lnTs 0 (l.take i)) (tqTs 0 (l.take i)) (pqTs 0 (l.take i)) (by omega) b1 b2 b3
   simp only [Nat.zero_add,szTs,lnTs,tqTs,pqTs,List.append_nil,Nat.add_zero] at ih
   generalize l[i] = x at *
   generalize lnTs 0 (l.take i) = F at *
   generalize tqTs 0 (l.take i) = A at *
   generalize pqTs 0 (l.take i) = P at *
   generalize szTs (l.take i) = N at *
   unfold eS eD at hc
   clear hR hLi
   apply hQ
   clear hQ
   (refine Sg.h ?_;try repeat' ((with_reducible first|refine brA ?_|refine brE fun _=>?_|refine spl ⟨?_,?_⟩<;>intro _)<;> ((try simp -implicitDefEqProofs [hil,hx]); (try simp -implicitDefEqProofs(disch:=first|assumption|(try simp only[lens]);omega -splitDisjunctions) [hil,hx]))))
   refine cd_sub [0,1,4,2,3,5,6,7] (hc := by simpa using hc) ?_
   (refine Sg.h ?_;try repeat' ((with_reducible first|refine brA ?_|refine brE fun _=>?_|refine spl ⟨?_,?_⟩<;>intro _)<;> ((try simp -implicitDefEqProofs [hil]); (try simp -implicitDefEqProofs(disch:=first|assumption|(try simp only[lens]);omega -splitDisjunctions) [hil]))))
   all_goals first | exact ih | (refine at2 ih ?_ ?_ <;> simp; done) | (exfalso; first | omega | (simp_all; done) | (simp_all; omega))
 refine at2 (main l.length 0 (Nat.zero_add _)) ?_ ?_
 ·rfl
 ·rfl
end Go.Proofs.Ytbdionmmfigfiaa
