import Derived.Test.YtbdionmmfigfiaaDNtX
set_option linter.unusedVariables false
set_option linter.unusedSimpArgs false
set_option maxRecDepth 100000
set_option maxHeartbeats 4000000
namespace Go.Proofs.Ytbdionmmfigfiaa
open Go Go.Pv
theorem shr_nat (x i : Nat) (hx : x < 1048576) : shrI .i64 (x : Int) (i : Int) = ((x / 2 ^ i : Nat) : Int) := by
 have h0 : shrI .i64 (x : Int) (i : Int) = (x : Int).fdiv (2 ^ (min i 64)) := rfl
 have h1 : (x : Int).fdiv (2 ^ (min i 64)) = ((x / 2 ^ (min i 64) : Nat) : Int) := by
  rw [Int.fdiv_eq_ediv_of_nonneg _ (Int.le_of_lt (Int.pow_pos (by decide)))]
  simp
 rw [h0,h1]
 by_cases hi : i ≤ 64
 ·rw [Nat.min_eq_left hi]
 ·have h5 : x < 2 ^ 64 := by omega
  rw [Nat.min_eq_right (by omega),Nat.div_eq_of_lt h5,Nat.div_eq_of_lt (Nat.lt_of_lt_of_le h5 (Nat.pow_le_pow_right (by decide) (by omega)))]
theorem and_nat (x y : Nat) (hx : x < 1048576) (hy : y < 1048576) : andI .i64 (x : Int) (y : Int) = ((x &&& y : Nat) : Int) := by
 have h2 : (BitVec.ofInt 64 (x : Int) &&& BitVec.ofInt 64 (y : Int)).toNat = x &&& y := by
  rw [BitVec.toNat_and]
  simp only [BitVec.ofInt_natCast,BitVec.toNat_ofNat]
  rw [Nat.mod_eq_of_lt (by omega),Nat.mod_eq_of_lt (by omega)]
 have h3 : x &&& y ≤ x := Nat.and_le_left
 show IntKind.i64.wrap (((BitVec.ofInt 64 (x : Int) &&& BitVec.ofInt 64 (y : Int)).toNat : Nat) : Int) = _
 rw [h2,wrap64 (by omega) (by omega)]
theorem has_bits (x i : Nat) (hx : x < 1048576) : andI .i64 (shrI .i64 (x : Int) (i : Int)) 1 = if x.testBit i then 1 else 0 := by
 have h3 : x / 2 ^ i ≤ x := Nat.div_le_self _ _
 rw [shr_nat x i hx,show (1 : Int) = ((1 : Nat) : Int) from rfl,and_nat _ _ (by omega) (by omega),Nat.and_one_is_mod,Nat.testBit_eq_decide_div_mod_eq]
 have := Nat.mod_two_eq_zero_or_one (x / 2 ^ i)
 rcases this with h | h <;> simp [h]
theorem shl_nat (i : Nat) (hi : i ≤ 20) : shlI .i64 1 (i : Int) = ((2 ^ i : Nat) : Int) := by
 have h0 : shlI .i64 1 (i : Int) = IntKind.i64.wrap (1 * 2 ^ (min i 64)) := rfl
 have h : 2 ^ i ≤ 2 ^ 20 := Nat.pow_le_pow_right (by decide) hi
 rw [h0,Nat.min_eq_left (by omega),Int.one_mul,show ((2 : Int) ^ i) = ((2 ^ i : Nat) : Int) by simp]
 generalize 2 ^ i = x at h ⊢
 rw [wrap64 (by omega) (by omega)]
@[simp] theorem e2_len {p : Nat × Nat} : (e2Row p).length = 2 := rfl
@[simp] theorem e2_cell {p : Nat × Nat} : (∀ x ∈ e2Row p,isCell x = true) = True := by simp [e2Row]
@[simp] theorem p4_len {p : Nat × Nat × Nat} : (p4Row p).length = 4 := rfl
@[simp] theorem p4_cell {p : Nat × Nat × Nat} : (∀ x ∈ p4Row p,isCell x = true) = True := by simp [p4Row]
theorem cst_e2 (E : List (Nat × Nat)) : (cst E).map relRow = E.map e2Row := by unfold cst; rw [List.map_map]; rfl
def swE (p : Nat × Nat × Nat) (b : Bool) : Nat × Nat := (p.1,if b = true then p.2.2 else p.2.1)
def swK (k : Nat) : List (Nat × Nat × Nat) → Nat → List (Nat × Nat)
 | [],_ => []
 | p :: r,i => swE p (k.testBit i) :: swK k r (i + 1)
theorem swK_len (k : Nat) (P : List (Nat × Nat × Nat)) : ∀ i,(swK k P i).length = P.length := by
 induction P with
 | nil => intro i; rfl
 | cons p r ih => intro i; rw [swK,List.length_cons,List.length_cons,ih]
theorem swK_app (k : Nat) (P Q : List (Nat × Nat × Nat)) : ∀ i,swK k (P ++ Q) i = swK k P i ++ swK k Q (i + P.length) := by
 induction P with
 | nil => intro i; rfl
 | cons p r ih => intro i; rw [List.cons_append,swK,swK,ih,List.cons_append,List.length_cons,show i + 1 + r.length = i + (r.length + 1) by omega]
theorem swK_swi (k : Nat) (P : List (Nat × Nat × Nat)) : ∀ i,Swi P (swK k P i) := by
 induction P with
 | nil => intro i; exact .nil
 | cons p r ih =>
  intro i
  rw [swK]
  cases hb : k.testBit i with
  | true => exact .right (ih _)
  | false => exact .left (ih _)
theorem swK_shift (P : List (Nat × Nat × Nat)) : ∀ k i,swK k P (i + 1) = swK (k / 2) P i := by
 induction P with
 | nil => intro k i; rfl
 | cons p r ih => intro k i; rw [swK,swK,ih,Nat.testBit_succ]
theorem swK_all {P : List (Nat × Nat × Nat)} {Q : List (Nat × Nat)} (h : Swi P Q) : ∃ k,k < 2 ^ P.length ∧ swK k P 0 = Q := by
 induction h with
 | nil => exact ⟨0,by simp,rfl⟩
 | left _ ih =>
  obtain ⟨k,h1,rfl⟩ := ih
  refine ⟨2 * k,by rw [List.length_cons,Nat.pow_succ]; omega,?_⟩
  rw [swK,swK_shift,show 2 * k / 2 = k by omega,Nat.testBit_zero,show 2 * k % 2 = 0 by omega]
  rfl
 | right _ ih =>
  obtain ⟨k,h1,rfl⟩ := ih
  refine ⟨2 * k + 1,by rw [List.length_cons,Nat.pow_succ]; omega,?_⟩
  rw [swK,swK_shift,show (2 * k + 1) / 2 = k by omega,Nat.testBit_zero,show (2 * k + 1) % 2 = 1 by omega]
  rfl
theorem net_in (l : List Lt) (an : List (Nat × Nat)) (han : ∀ a ∈ an,a.1 < (lnTs 0 l).length ∧ a.2 < (lnTs 0 l).length) : ∀ s ∈ (tqTs 0 l ++ an.map fun a => ((lnTs 0 l)[a.1]!,(lnTs 0 l)[a.2]!)).map edS ++ (pqTs 0 l).map paS,InS 0 (szTs l) s := by
 intro s hs
 rw [List.map_append] at hs
 rcases List.mem_append.1 hs with hs | hs
 ·rcases List.mem_append.1 hs with hs | hs
  ·have := stTs_in l 0 s ((stTs_perm l 0).mem_iff.1 (List.mem_append_left _ (((tqTs_perm l 0).map edS).mem_iff.1 hs)))
   rwa [Nat.zero_add] at this
  ·obtain ⟨e,he,rfl⟩ := List.mem_map.1 hs
   obtain ⟨a,ha,rfl⟩ := List.mem_map.1 he
   obtain ⟨g1,g2⟩ := han a ha
   have b1 := lnTs_in l 0 _ (List.getElem_mem g1)
   have b2 := lnTs_in l 0 _ (List.getElem_mem g2)
   unfold InS edS
   dsimp only
   rw [getElem!_pos (lnTs 0 l) a.1 g1,getElem!_pos (lnTs 0 l) a.2 g2]
   omega
 ·have := stTs_in l 0 s ((stTs_perm l 0).mem_iff.1 (List.mem_append_right _ (((pqTs_perm l 0).map paS).mem_iff.1 hs)))
  rwa [Nat.zero_add] at this
theorem sw_in (l : List Lt) (an : List (Nat × Nat)) (han : ∀ a ∈ an,a.1 < (lnTs 0 l).length ∧ a.2 < (lnTs 0 l).length) (k : Nat) : ∀ e ∈ (tqTs 0 l ++ an.map fun a => ((lnTs 0 l)[a.1]!,(lnTs 0 l)[a.2]!)) ++ swK k (pqTs 0 l) 0,e.1 < szTs l ∧ e.2 < szTs l := by
 have hin := net_in l an han
 intro e he
 rcases List.mem_append.1 he with he | he
 ·have := hin (edS e) (List.mem_append_left _ (List.mem_map_of_mem he))
  exact ⟨this.2.1,this.2.2.2.1⟩
 ·obtain ⟨p,hp,h⟩ := (swK_swi k (pqTs 0 l) 0).mem e he
  have := hin (paS p) (List.mem_append_right _ (List.mem_map_of_mem hp))
  rcases h with rfl | rfl
  ·exact ⟨this.2.1,this.2.2.2.1⟩
  ·exact ⟨this.2.1,this.2.2.2.2.2.2.2⟩
theorem cor_switch (l : List Lt) (an : List (Nat × Nat)) (hs : 0 < szTs l) (han : ∀ a ∈ an,a.1 < (lnTs 0 l).length ∧ a.2 < (lnTs 0 l).length) :
  CorT l an ↔ ∀ k,k < 2 ^ (pqTs 0 l).length → treeB (szTs l) ((tqTs 0 l ++ an.map fun a => ((lnTs 0 l)[a.1]!,(lnTs 0 l)[a.2]!)) ++ swK k (pqTs 0 l) 0) = true := by
 have hin := net_in l an han
 have hQb := sw_in l an han
 have hp : (axS (lnTs 0 l) an ++ stTs 0 l).Perm ((tqTs 0 l ++ an.map fun a => ((lnTs 0 l)[a.1]!,(lnTs 0 l)[a.2]!)).map edS ++ (pqTs 0 l).map paS) := by
  have e : axS (lnTs 0 l) an = (an.map fun a => ((lnTs 0 l)[a.1]!,(lnTs 0 l)[a.2]!)).map edS := by rw [List.map_map]; rfl
  rw [e,List.map_append]
  refine ((((stTs_perm l 0).symm.trans (((tqTs_perm l 0).symm.map edS).append ((pqTs_perm l 0).symm.map paS)))).append_left _).trans ?_
  rw [← List.append_assoc]
  exact List.Perm.append_right _ List.perm_append_comm
 generalize tqTs 0 l ++ an.map (fun a => ((lnTs 0 l)[a.1]!,(lnTs 0 l)[a.2]!)) = E at *
 have hEb : ∀ e ∈ E,e.1 < szTs l ∧ e.2 < szTs l := fun e he => by
  have := hin (edS e) (List.mem_append_left _ (List.mem_map_of_mem he))
  exact ⟨this.2.1,this.2.2.2.1⟩
 have hPb : ∀ p ∈ pqTs 0 l,p.1 < szTs l ∧ p.2.1 < szTs l ∧ p.2.2 < szTs l := fun p hp => by
  have := hin (paS p) (List.mem_append_right _ (List.mem_map_of_mem hp))
  exact ⟨this.2.1,this.2.2.2.1,this.2.2.2.2.2.2.2⟩
 unfold CorT
 rw [show Full (szTs l) (axS (lnTs 0 l) an ++ stTs 0 l) [] ↔ Full (szTs l) (E.map edS ++ (pqTs 0 l).map paS) [] from ⟨fun h => h.perm hp,fun h => h.perm hp.symm⟩,danos_regnier hs E _ hPb]
 constructor
 ·intro h k hk
  exact (treeB_ok hs _ (hQb k)).2 (h _ (swK_swi k _ 0))
 ·intro h Q hQ
  obtain ⟨k,hk,rfl⟩ := swK_all hQ
  exact (treeB_ok hs _ (hQb k)).1 (h k hk)
def x21_T2 : XC := .seq (.reg [⟨some 45,.move (.tmp 5),none⟩,⟨some 46,.move (.tmp 9),none⟩,⟨some 47,.call ⟨.value (.func 45),#[.tmp 45,.tmp 46],#[3,25]⟩,none⟩,⟨some 48,.unOp .not 4 (.tmp 47),none⟩]) (.cond (.tmp 48) (.seq (.reg [⟨some 4,.assign (.const (.bool false)),none⟩]) .ret) .skip)
def x21_L2 : XC := .seq (.seq (.reg [⟨some 27,.move (.tmp 10),none⟩,⟨some 28,.move (.tmp 7),none⟩,⟨some 29,.call ⟨.builtin .len,#[.tmp 28],#[68]⟩,none⟩,⟨some 30,.binOp .lss 3 (.tmp 27) (.tmp 29) 3,none⟩]) (.cond (.tmp 30) .skip (.exit 2))) (.seq (.block 3 (.drawn 9 [⟨some 33,.move (.tmp 9),none⟩,⟨some 34,.move (.tmp 7),none⟩,⟨some 35,.move (.tmp 10),none⟩,⟨some 36,.move (.tmp 8),none⟩,⟨some 37,.move (.tmp 10),none⟩,⟨some 38,.binOp .shr 3 (.tmp 36) (.tmp 37) 3,none⟩,⟨some 39,.binOp .and 3 (.tmp 38) (.const (.int .i64 1)) 3,none⟩,⟨some 40,.indexAddr 68 (.tmp 34) (.tmp 35),none⟩,⟨some 41,.indexAddr 71 (.tmp 40) (.tmp 39),none⟩,⟨some 42,.load 33 (.tmp 41),none⟩,⟨some 43,.buildSlice 25 1 #[(0,.tmp 42)],none⟩,⟨some 44,.call ⟨.builtin .append,#[.tmp 33,.tmp 43],#[25,25]⟩,none⟩,⟨some 9,.assign (.tmp 44),none⟩])) (.reg [⟨some 31,.move (.tmp 10),none⟩,⟨some 32,.binOp .add 3 (.tmp 31) (.const (.int .i64 1)) 3,none⟩,⟨some 10,.assign (.tmp 32),none⟩]))
def x21_L0 : XC := .seq (.seq (.reg [⟨some 18,.move (.tmp 8),none⟩,⟨some 19,.move (.tmp 7),none⟩,⟨some 20,.call ⟨.builtin .len,#[.tmp 19],#[68]⟩,none⟩,⟨some 21,.binOp .shl 3 (.const (.int .i64 1)) (.tmp 20) 3,none⟩,⟨some 22,.binOp .lss 3 (.tmp 18) (.tmp 21) 3,none⟩]) (.cond (.tmp 22) .skip (.exit 0))) (.seq (.block 1 (.seq (.reg [⟨some 25,.move (.tmp 6),none⟩,⟨some 26,.call ⟨.builtin .append,#[.const (.slice none 0 0),.tmp 25],#[25,25]⟩,none⟩,⟨some 9,.assign (.tmp 26),none⟩]) (.seq (.seq (.reg [⟨some 10,.assign (.const (.int .i64 0)),none⟩]) (.bloop 2 x21_L2)) (x21_T2)))) (.reg [⟨some 23,.move (.tmp 8),none⟩,⟨some 24,.binOp .add 3 (.tmp 23) (.const (.int .i64 1)) 3,none⟩,⟨some 8,.assign (.tmp 24),none⟩]))
def x21 : XC := .seq (.reg [⟨some 4,.assign (.const (.bool false)),none⟩]) (.seq (.reg [⟨some 12,.move (.tmp 0),none⟩,⟨some 13,.move (.tmp 1),none⟩,⟨some 14,.call ⟨.value (.func 44),#[.tmp 12,.tmp 13],#[22,25]⟩,none⟩,⟨some 11,.move (.tmp 14),none⟩,⟨some 15,.extract (.tmp 11) 0,none⟩,⟨some 16,.extract (.tmp 11) 1,none⟩,⟨some 17,.extract (.tmp 11) 2,none⟩,⟨some 5,.assign (.tmp 15),none⟩,⟨some 6,.assign (.tmp 16),none⟩,⟨some 7,.assign (.tmp 17),none⟩]) (.seq (.seq (.reg [⟨some 8,.assign (.const (.int .i64 0)),none⟩]) (.bloop 0 x21_L0)) (.seq (.reg [⟨some 4,.assign (.const (.bool true)),none⟩]) .ret)))
@[simp] theorem x21_s {C e s K} : type_of% (@X_at C e s K _ _ x21_T2.eq_1) ∧ type_of% (@X_at C e s K _ _ x21_L2.eq_1) ∧ type_of% (@X_at C e s K _ _ x21_L0.eq_1) ∧ type_of% (@X_at C e s K _ _ x21.eq_1) := ⟨X_at x21_T2.eq_1,X_at x21_L2.eq_1,X_at x21_L0.eq_1,X_at x21.eq_1⟩
def an21 : Ann := ⟨[(9,.mix 11)],[(2,[(9,none,2)],[5,6,7,8,9,10],[5,6,7,8,9]),(0,[],[5,6,7,8],[4])],[]⟩
@[simp] theorem an21_a : an21.clsOf 9 = .mix 11 ∧ an21.frzOf 9 = [] ∧ an21.loopOf 2 = ([(9,none,2)],[5,6,7,8,9,10],[5,6,7,8,9]) ∧ an21.loopOf 0 = ([],[5,6,7,8],[4]) := ⟨rfl,rfl,rfl,rfl⟩
theorem fi21 : FI Try.prog 21 (cxA an21) x21 [.tmp 4] Try.f21 := fiA Try.func21 mixed
theorem Switched_ref (l : List Lt) (an : List (Nat × Nat)) (hl : szTs l ≤ 1000) (hl0 : 0 < szTs l) (hn : l.length ≤ 1000) (hal : an.length ≤ 1000) (han : ∀ a ∈ an,a.1 < (lnTs 0 l).length ∧ a.2 < (lnTs 0 l).length) (hP : (pqTs 0 l).length ≤ 10) :
  CallOK Try.prog 21 [.list ((l.map lnOf).map lnr),.list ((cst an).map relRow)] [] (.bool (corB l an)) [] := by
 have he := edges_ref l an hl hn hal han
 have hcs := cor_switch l an hl0 han
 have hEl : (tqTs 0 l ++ an.map (fun a => ((lnTs 0 l)[a.1]!,(lnTs 0 l)[a.2]!))).length ≤ 4000 := by
  have := tqTs_len l 0
  simp; omega
 have hEb : ∀ k,∀ e ∈ (tqTs 0 l ++ an.map (fun a => ((lnTs 0 l)[a.1]!,(lnTs 0 l)[a.2]!))) ++ swK k (pqTs 0 l) 0,e.1 < szTs l ∧ e.2 < szTs l := sw_in l an han
 generalize tqTs 0 l ++ an.map (fun a => ((lnTs 0 l)[a.1]!,(lnTs 0 l)[a.2]!)) = E at *
 generalize pqTs 0 l = P at *
 obtain ⟨R,hR⟩ : ∃ R,corB l an = R := ⟨_,rfl⟩
 rw [hR]
 rw [← corB_iff,hR] at hcs
 have ht := fun k => isTree_ref (szTs l) (E ++ swK k P 0) (by omega) (hEb k)
 generalize l.map lnOf = L at *
 generalize cst an = C at *
 generalize szTs l = N at *
 have hsh := shl_nat P.length (by omega)
 have hpw : 2 ^ P.length ≤ 1024 := Nat.pow_le_pow_right (by decide) hP
 generalize 2 ^ P.length = M at *
 refine fi21.op ?_
 (refine Sg.h ?_;try repeat' ((first | (with_reducible first|refine brA ?_|refine brE fun _=>?_|refine spl ⟨?_,?_⟩<;>intro _) | refine clo he ?_) <;> ((try simp -implicitDefEqProofs); (try simp -implicitDefEqProofs(disch:=first|assumption|(try simp only[lens]);omega -splitDisjunctions)))))
 refine W_of fun Q hQ => ?_
 have main : ∀ f k,k + f = M → (∀ j,j < k → treeB N (E ++ swK j P 0) = true) → Q [(5,.int .i64 (N : Int)),(6,.list (E.map e2Row)),(7,.list (P.map p4Row)),(8,.int .i64 (k : Int))] [] := by
  intro f
  induction f with
  | zero =>
   intro k hk hb
   have hRt : R = true := hcs.2 fun j hj => hb j (by omega)
   have hk' : ¬ (k : Int) < (M : Int) := by omega
   clear hcs hR
   subst hRt
   apply hQ
   clear hQ
   (refine Sg.h ?_;try repeat' ((with_reducible first|refine brA ?_|refine brE fun _=>?_|refine spl ⟨?_,?_⟩<;>intro _)<;> ((try simp -implicitDefEqProofs [hsh,hk']); (try simp -implicitDefEqProofs(disch:=first|assumption|(try simp only[lens]);omega -splitDisjunctions) [hsh,hk']))))
  | succ f ih =>
   intro k hk hb
   have hk' : (k : Int) < (M : Int) := by omega
   have ih := ih (k + 1) (by omega)
   have htk := ht k
   apply hQ
   (refine Sg.h ?_;try repeat' ((with_reducible first|refine brA ?_|refine brE fun _=>?_|refine spl ⟨?_,?_⟩<;>intro _)<;> ((try simp -implicitDefEqProofs [hsh,hk']); (try simp -implicitDefEqProofs(disch:=first|assumption|(try simp only[lens]);omega -splitDisjunctions) [hsh,hk']))))
   refine ⟨⟨fun row a b _ e => by subst e; simp,by omega⟩,?_⟩
   refine W_of fun Q2 hQ2 => ?_
   have main2 : ∀ f i,i + f = P.length → Q2 [(5,.int .i64 (N : Int)),(6,.list (E.map e2Row)),(7,.list (P.map p4Row)),(8,.int .i64 (k : Int)),(9,.sl 0 0 (E ++ swK k (P.take i) 0).length),(10,.int .i64 (i : Int))] [.rows 2 ((E ++ swK k (P.take i) 0).map e2Row)] := by
    intro f
    induction f with
    | zero =>
     intro i hi
     rw [List.take_of_length_le (by omega)]
     have hi' : ¬ (i : Int) < (P.length : Int) := by omega
     cases hb2 : treeB N (E ++ swK k P 0) with
     | true =>
      have ih := ih fun j hj => by
       by_cases h : j = k
       ·rw [h]; exact hb2
       ·exact hb j (by omega)
      rw [hb2,cst_e2] at htk
      generalize E ++ swK k P 0 = E2 at *
      have ht2 : List.take E2.length (E2.map e2Row) = E2.map e2Row := List.take_of_length_le (by simp)
      apply hQ2
      clear hQ2 hQ
      (refine Sg.h ?_;try repeat' ((with_reducible first|refine brA ?_|refine brE fun _=>?_|refine spl ⟨?_,?_⟩<;>intro _)<;> ((try simp -implicitDefEqProofs [hi']); (try simp -implicitDefEqProofs(disch:=first|assumption|(try simp only[lens]);omega -splitDisjunctions) [hi']))))
      refine CL.see htk (by simp [ht2]) (flat_bool _) ?_
      (refine Sg.h ?_;try repeat' ((with_reducible first|refine brA ?_|refine brE fun _=>?_|refine spl ⟨?_,?_⟩<;>intro _)<;> ((try simp -implicitDefEqProofs); (try simp -implicitDefEqProofs(disch:=first|assumption|(try simp only[lens]);omega -splitDisjunctions)))))
      all_goals first | exact ih | (refine at2 ih ?_ ?_ <;> simp; done) | (exfalso; first | omega | (simp_all; done) | (simp_all; omega))
     | false =>
      have hRf : R = false := by
       cases R with
       | false => rfl
       | true => exact absurd (hcs.1 rfl k (by omega)) (by rw [hb2]; decide)
      rw [hb2,cst_e2] at htk
      generalize E ++ swK k P 0 = E2 at *
      have ht2 : List.take E2.length (E2.map e2Row) = E2.map e2Row := List.take_of_length_le (by simp)
      clear hR hcs ih
      subst hRf
      apply hQ2
      clear hQ2 hQ
      (refine Sg.h ?_;try repeat' ((with_reducible first|refine brA ?_|refine brE fun _=>?_|refine spl ⟨?_,?_⟩<;>intro _)<;> ((try simp -implicitDefEqProofs [hi']); (try simp -implicitDefEqProofs(disch:=first|assumption|(try simp only[lens]);omega -splitDisjunctions) [hi']))))
      refine CL.see htk (by simp [ht2]) (flat_bool _) ?_
      (refine Sg.h ?_;try repeat' ((with_reducible first|refine brA ?_|refine brE fun _=>?_|refine spl ⟨?_,?_⟩<;>intro _)<;> ((try simp -implicitDefEqProofs); (try simp -implicitDefEqProofs(disch:=first|assumption|(try simp only[lens]);omega -splitDisjunctions)))))
    | succ f ih2 =>
     intro i hi
     have hil : i < P.length := by omega
     have ih2 := ih2 (i + 1) (by omega)
     rw [take_snoc hil,swK_app,List.length_take,Nat.min_eq_left (by omega),Nat.zero_add,← List.append_assoc] at ih2
     have e0 : swK k [P[i]] i = [swE P[i] (k.testBit i)] := rfl
     rw [e0] at ih2
     have hE2l : (E ++ swK k (P.take i) 0).length ≤ 5000 := by rw [List.length_append,swK_len,List.length_take]; omega
     generalize E ++ swK k (P.take i) 0 = E2 at *
     have hbt := has_bits k i (by omega)
     obtain ⟨⟨n0,k0,k1⟩,hpi⟩ : ∃ p,P[i] = p := ⟨_,rfl⟩
     rw [hpi] at ih2
     have hi' : (i : Int) < (P.length : Int) := by omega
     have hi0 : ¬ (i : Int) < 0 := by omega
     cases hb2 : k.testBit i with
     | true =>
      rw [hb2] at ih2 hbt
      rw [if_pos rfl] at hbt
      apply hQ2
      clear hQ2 hQ
      (refine Sg.h ?_;try repeat' ((with_reducible first|refine brA ?_|refine brE fun _=>?_|refine spl ⟨?_,?_⟩<;>intro _)<;> ((try simp -implicitDefEqProofs [hi',hi0,hil,hbt,hpi]); (try simp -implicitDefEqProofs(disch:=first|assumption|(try simp only[lens]);omega -splitDisjunctions) [hi',hi0,hil,hbt,hpi]))))
      refine ⟨⟨by simp [p4Row],by omega⟩,?_⟩
      all_goals first | exact ih2 | (refine at2 ih2 ?_ ?_ <;> simp [p4Row,e2Row,swE]; done) | (exfalso; first | omega | (simp_all; done) | (simp_all; omega))
     | false =>
      rw [hb2] at ih2 hbt
      rw [if_neg (by decide)] at hbt
      apply hQ2
      clear hQ2 hQ
      (refine Sg.h ?_;try repeat' ((with_reducible first|refine brA ?_|refine brE fun _=>?_|refine spl ⟨?_,?_⟩<;>intro _)<;> ((try simp -implicitDefEqProofs [hi',hi0,hil,hbt,hpi]); (try simp -implicitDefEqProofs(disch:=first|assumption|(try simp only[lens]);omega -splitDisjunctions) [hi',hi0,hil,hbt,hpi]))))
      refine ⟨⟨by simp [p4Row],by omega⟩,?_⟩
      all_goals first | exact ih2 | (refine at2 ih2 ?_ ?_ <;> simp [p4Row,e2Row,swE]; done) | (exfalso; first | omega | (simp_all; done) | (simp_all; omega))
   refine at2 (main2 P.length 0 (Nat.zero_add _)) ?_ ?_
   ·simp [swK]
   ·simp [swK]
 refine at2 (main M 0 (Nat.zero_add _) (fun j hj => by omega)) ?_ ?_
 ·rfl
 ·rfl
end Go.Proofs.Ytbdionmmfigfiaa
