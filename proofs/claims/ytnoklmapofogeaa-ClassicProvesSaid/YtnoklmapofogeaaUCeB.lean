import Derived.Test.YtnoklmapofogeaaUCcW
set_option linter.unusedVariables false
set_option linter.unusedSimpArgs false
set_option maxRecDepth 100000
set_option maxHeartbeats 4000000
namespace Go.Proofs.Ytnoklmapofogeaa
open Go Go.Pv
def GrowOK (g : List Fm → List Fm → Nat → GR) (d : Int) (q : Prem) : Prop := ∀ n, n ≤ 20000 →
 ((g q.1 q.2 n).ok.isSome = true → (g q.1 q.2 n).n ≤ 20000 ∧ (g q.1 q.2 n).cnt = none) ∧
 CallOK Try.prog 87 [.ptr 0 0 0, .list (q.1.map frm), .list (q.2.map frm), .int .i64 d] [fndO 0 n none] (.tuple [.agg (rowO (g q.1 q.2 n).ok), .bool (g q.1 q.2 n).ok.isSome]) (fndO 1 (g q.1 q.2 n).n (g q.1 q.2 n).cnt :: fndT (g q.1 q.2 n).cnt)
def x108_T1 : XC := .seq (.reg [⟨some 48,.load 29 (.tmp 3),none⟩,⟨none,.store 29 (.tmp 9) (.tmp 48),none⟩,⟨some 10,.assign (.const (.bool true)),none⟩]) .ret
def x108_L0 : XC := .seq (.reg [⟨some 22,.binOp .lss 3 (.tmp 21) (.tmp 20) 3,none⟩]) (.seq (.cond (.tmp 22) .skip (.exit 0)) (.seq (.block 1 (.seq (.reg [⟨some 23,.indexAddr 111 (.tmp 19) (.tmp 21),none⟩,⟨some 24,.load 26 (.tmp 23),none⟩,⟨some 12,.alloc 26,none⟩,⟨none,.store 26 (.tmp 12) (.tmp 24),none⟩]) (.seq (.reg [⟨some 26,.load 102 (.tmp 4),none⟩,⟨some 27,.fieldAddr 26 (.tmp 12) 0,none⟩,⟨some 28,.load 22 (.tmp 27),none⟩,⟨some 29,.fieldAddr 26 (.tmp 12) 1,none⟩,⟨some 30,.load 22 (.tmp 29),none⟩,⟨some 31,.load 3 (.tmp 5),none⟩,⟨some 32,.binOp .add 3 (.tmp 31) (.const (.int .i64 1)) 3,none⟩,⟨some 33,.call ⟨.value (.func 87),#[.tmp 26,.tmp 28,.tmp 30,.tmp 32],#[102,22,22,3]⟩,none⟩,⟨some 25,.move (.tmp 33),none⟩,⟨some 34,.extract (.tmp 25) 0,none⟩,⟨some 35,.extract (.tmp 25) 1,none⟩,⟨some 13,.alloc 29,none⟩,⟨none,.store 29 (.tmp 13) (.tmp 34),none⟩,⟨some 14,.assign (.tmp 35),none⟩]) (.seq (.seq (.reg [⟨some 36,.move (.tmp 14),none⟩,⟨some 37,.unOp .not 4 (.tmp 36),none⟩]) (.cond (.tmp 37) (.seq (.reg [⟨some 38,.build 29 #[],none⟩,⟨none,.store 29 (.tmp 9) (.tmp 38),none⟩,⟨some 10,.assign (.const (.bool false)),none⟩]) .ret) .skip)) (.drawn 8 [⟨some 39,.fieldAddr 29 (.tmp 3) 3,none⟩,⟨some 40,.load 27 (.tmp 39),none⟩,⟨some 41,.load 29 (.tmp 13),none⟩,⟨some 42,.call ⟨.builtin .len,#[.tmp 40],#[27]⟩,none⟩,⟨some 43,.buildSlice 27 1 #[(0,.const (.agg #[.string ⟨#[]⟩,.int .i64 0,.string ⟨#[]⟩,.slice none 0 0,.slice none 0 0,.slice none 0 0,.slice none 0 0]))],none⟩,⟨some 44,.call ⟨.builtin .append,#[.tmp 40,.tmp 43],#[27,27]⟩,none⟩,⟨some 45,.indexAddr 27 (.tmp 44) (.tmp 42),none⟩,⟨none,.store 29 (.tmp 45) (.tmp 41),none⟩,⟨some 46,.fieldAddr 29 (.tmp 3) 3,none⟩,⟨none,.store 27 (.tmp 46) (.tmp 44),none⟩]))))) (.reg [⟨some 47,.binOp .add 3 (.tmp 21) (.const (.int .i64 1)) 3,none⟩,⟨some 21,.move (.tmp 47),none⟩])))
def x108 : XC := .seq (.reg [⟨some 7,.box 24 (.tmp 1),none⟩,⟨some 9,.alloc 29,none⟩,⟨some 10,.assign (.const (.bool false)),none⟩]) (.seq (.drawn 1 [⟨some 15,.move (.tmp 0),none⟩,⟨some 16,.load 24 (.tmp 7),none⟩,⟨some 17,.fieldAddr 29 (.tmp 3) 0,none⟩,⟨none,.store 9 (.tmp 17) (.tmp 15),none⟩,⟨some 18,.fieldAddr 29 (.tmp 3) 1,none⟩,⟨none,.store 24 (.tmp 18) (.tmp 16),none⟩]) (.seq (.seq (.reg [⟨some 19,.move (.tmp 2),none⟩,⟨some 20,.call ⟨.builtin .len,#[.tmp 19],#[111]⟩,none⟩,⟨some 21,.move (.const (.int .i64 0)),none⟩]) (.bloop 0 x108_L0)) (x108_T1)))
@[simp] theorem x108_s {C e s K} : type_of% (@X_at C e s K _ _ x108_T1.eq_1) ∧ type_of% (@X_at C e s K _ _ x108_L0.eq_1) ∧ type_of% (@X_at C e s K _ _ x108.eq_1) := ⟨X_at x108_T1.eq_1, X_at x108_L0.eq_1, X_at x108.eq_1⟩
def an108 : Ann := ⟨[(1, .mix3 3 1), (8, .tree (.op 0 (.op 1 (.op 2 (.op 3 (.op 4 (.ck 1 (.ck 2 (.ck 3 (.op 5 (.op 6 (.op 8 (.br (.op 7 (.op 9 .fin)) (.op 9 (.ck 6 (.op 7 .fin))))))))))))))))], [(0, [(3, some 6, 7)], [3, 4, 5, 9, 19, 20, 21], [3, 9, 10])], []⟩
@[simp] theorem an108_a : an108.clsOf 1 = .mix3 3 1 ∧ an108.clsOf 8 = .tree (.op 0 (.op 1 (.op 2 (.op 3 (.op 4 (.ck 1 (.ck 2 (.ck 3 (.op 5 (.op 6 (.op 8 (.br (.op 7 (.op 9 .fin)) (.op 9 (.ck 6 (.op 7 .fin))))))))))))))) ∧ an108.frzOf 1 = [] ∧ an108.frzOf 8 = [] ∧ an108.loopOf 0 = ([(3, some 6, 7)], [3, 4, 5, 9, 19, 20, 21], [3, 9, 10]) := ⟨rfl, rfl, rfl, rfl, rfl⟩
theorem fi108 : FI Try.prog 108 (cxA an108) x108 [.cell 9 29, .tmp 10] Try.f108 := fiA Try.func108 mixed
theorem more_classic (g : List Fm → List Fm → Nat → GR) (rule : ByteArray) (f : Fm) (qs : List Prem) (l r : List Fm) (d : Int) (hd : 0 ≤ d) (hd2 : d ≤ 1000) (hql : qs.length ≤ 10) (hg : ∀ q ∈ qs, GrowOK g (d + 1) q) (n : Nat) (hn : n ≤ 20000) (ks : List Pf) (hk : (growL g qs n []).ok = some ks) :
  CallOK Try.prog 108 [.str rule, .agg (frm f), .list (qs.map premRow), .ptr 0 0 0, .ptr 1 0 0, .ptr 2 0 0]
   [.rows 7 [[.str ⟨#[]⟩, .int .i64 0, .str ⟨#[]⟩, .nilsl, .list (l.map frm), .list (r.map frm), .nilsl]], .rows 1 [[.ptr 3 0 0]], .rows 1 [[.int .i64 d]], fndO 0 n none]
   (.tuple [.agg (rowO (some (.mk rule f l r ks))), .bool true]) [.dead, .rows 1 [[.ptr 3 0 0]], .rows 1 [[.int .i64 d]], fndO 0 (growL g qs n []).n none] := by
 have hpf := frm_eq f
 have hfo : ∀ n, fndO 0 n none = .rows 3 [[.int .i64 (n : Int), .nilsl, .bool false]] := fun _ => rfl
 have hr4 : List.range 4 = [0, 1, 2, 3] := rfl
 refine fi108.od [0] ?_
 rw [rowO_s, prf_eq (Pf.mk _ _ _ _ _)]
 simp only [pf_mk1, hfo]
 generalize hN : (growL g qs n []).n = N
 ((refine Sg.h ?_); try repeat' ((first | (with_reducible first | refine brA ?_ | refine brE fun _ => ?_ | (refine spl ⟨?_, ?_⟩ <;> intro _))) <;> ((try simp -implicitDefEqProofs [hpf, hr4]); (try simp -implicitDefEqProofs (disch := first | assumption | (try simp only [lens]); omega -splitDisjunctions) [hpf, hr4]))))
 refine W_of fun Q hQ => ?_
 have main : ∀ j i m (acc : List Pf), i + j = qs.length → m ≤ 20000 → acc.length = i → (growL g (qs.drop i) m acc).ok = some ks → (growL g (qs.drop i) m acc).n = N → Q [(3, .ptr 0 0 0), (4, .ptr 1 0 0), (5, .ptr 2 0 0), (9, .ptr 5 0 0), (19, .list (qs.map premRow)), (20, .int .i64 (qs.length : Int)), (21, .int .i64 (i : Int))] [.rows 7 [[.str rule, .int .i64 f.kind, .str f.name, .list (f.kids.map frm), .list (l.map frm), .list (r.map frm), .sl 4 0 acc.length]], .rows 1 [[.ptr 3 0 0]], .rows 1 [[.int .i64 d]], .rows 3 [[.int .i64 (m : Int), .nilsl, .bool false]], .rows 7 (acc.map prf), .rows 7 [[.str ⟨#[]⟩, .int .i64 0, .str ⟨#[]⟩, .nilsl, .nilsl, .nilsl, .nilsl]]] := by
  intro j
  induction j with
  | zero =>
   intro i m acc hi hm ha ho hN2
   rw [List.drop_of_length_le (by omega), growL] at ho hN2
   obtain rfl : acc = ks := by simpa using ho
   simp only at hN2
   subst hN2
   apply hQ
   clear hQ
   ((refine Sg.h ?_); try repeat' ((first | (with_reducible first | refine brA ?_ | refine brE fun _ => ?_ | (refine spl ⟨?_, ?_⟩ <;> intro _))) <;> ((try simp -implicitDefEqProofs [hr4]); (try simp -implicitDefEqProofs (disch := first | assumption | (try simp only [lens]); omega -splitDisjunctions) [hr4]))))
  | succ j ih =>
   intro i m acc hi hm ha ho hN2
   have hil : i < qs.length := by omega
   have hgi := hg _ (List.getElem_mem hil) m hm
   rw [List.drop_eq_getElem_cons hil, growL] at ho hN2
   have ih := ih (i + 1)
   have row : ∀ q, premRow q = [.list (q.1.map frm), .list (q.2.map frm)] := fun _ => rfl
   have hlt : (acc.length : Int) < (acc.length : Int) + 1 := by omega
   cases hok : (g qs[i].1 qs[i].2 m).ok with
   | none => rw [hok] at ho; cases ho
   | some x =>
    rw [hok] at ho hN2
    obtain ⟨hx1, hx3⟩ := hgi.1 (by rw [hok]; rfl)
    have hx2 := hgi.2
    have ih := ih (g qs[i].1 qs[i].2 m).n (acc ++ [x]) (by omega) hx1 (by simp [ha]) ho hN2
    rw [hok, hx3] at hx2
    rw [rowO_s] at hx2
    unfold fndO fndT at hx2
    dsimp only [Option.isSome_some] at hx2
    generalize (g qs[i].1 qs[i].2 m).n = m' at *
    apply hQ
    clear hQ
    ((refine Sg.h ?_); try repeat' ((first | (with_reducible first | refine brA ?_ | refine brE fun _ => ?_ | (refine spl ⟨?_, ?_⟩ <;> intro _))) <;> ((try simp -implicitDefEqProofs [hil, row, hr4]); (try simp -implicitDefEqProofs (disch := first | assumption | (try simp only [lens]); omega -splitDisjunctions) [hil, row, hr4]))))
    refine CL.sub [3] (hc := by simpa using hx2) ?_
    ((refine Sg.h ?_); try repeat' ((first | (with_reducible first | refine brA ?_ | refine brE fun _ => ?_ | (refine spl ⟨?_, ?_⟩ <;> intro _))) <;> ((try simp -implicitDefEqProofs [hr4, hlt]); (try simp -implicitDefEqProofs (disch := first | assumption | (try simp only [lens]); omega -splitDisjunctions) [hr4, hlt]))))
    all_goals first | exact ih | (refine at2 ih ?_ ?_ <;> simp; done) | (exfalso; first | omega | (simp_all; done) | (simp_all; omega))
 all_goals first | exact main _ 0 n [] (Nat.zero_add _) hn rfl hk hN | (refine at2 main _ 0 n [] (Nat.zero_add _) hn rfl hk hN ?_ ?_ <;> simp; done) | (exfalso; first | omega | (simp_all; done) | (simp_all; omega))
theorem more_fail (g : List Fm → List Fm → Nat → GR) (rule : ByteArray) (f : Fm) (qs : List Prem) (l r : List Fm) (d : Int) (hd : 0 ≤ d) (hd2 : d ≤ 1000) (hql : qs.length ≤ 10) (hg : ∀ q ∈ qs, GrowOK g (d + 1) q) (n : Nat) (hn : n ≤ 20000) (hk : (growL g qs n []).ok = none) :
  CallOK Try.prog 108 [.str rule, .agg (frm f), .list (qs.map premRow), .ptr 0 0 0, .ptr 1 0 0, .ptr 2 0 0]
   [.rows 7 [[.str ⟨#[]⟩, .int .i64 0, .str ⟨#[]⟩, .nilsl, .list (l.map frm), .list (r.map frm), .nilsl]], .rows 1 [[.ptr 3 0 0]], .rows 1 [[.int .i64 d]], fndO 0 n none]
   (.tuple [.agg (rowO none), .bool false]) (.dead :: .rows 1 [[.ptr 3 0 0]] :: .rows 1 [[.int .i64 d]] :: fndO 4 (growL g qs n []).n (growL g qs n []).cnt :: fndT (growL g qs n []).cnt) := by
 have hpf := frm_eq f
 have hfo : ∀ n, fndO 0 n none = .rows 3 [[.int .i64 (n : Int), .nilsl, .bool false]] := fun _ => rfl
 have hr4 : List.range 4 = [0, 1, 2, 3] := rfl
 refine fi108.od [0] ?_
 rw [rowO_n]
 simp only [hfo]
 generalize hN : (growL g qs n []).n = N
 generalize hC : (growL g qs n []).cnt = V
 ((refine Sg.h ?_); try repeat' ((first | (with_reducible first | refine brA ?_ | refine brE fun _ => ?_ | (refine spl ⟨?_, ?_⟩ <;> intro _))) <;> ((try simp -implicitDefEqProofs [hpf, hr4]); (try simp -implicitDefEqProofs (disch := first | assumption | (try simp only [lens]); omega -splitDisjunctions) [hpf, hr4]))))
 refine W_of fun Q hQ => ?_
 have main : ∀ j i m (acc : List Pf), i + j = qs.length → m ≤ 20000 → acc.length = i → (growL g (qs.drop i) m acc).ok = none → (growL g (qs.drop i) m acc).n = N → (growL g (qs.drop i) m acc).cnt = V → Q [(3, .ptr 0 0 0), (4, .ptr 1 0 0), (5, .ptr 2 0 0), (9, .ptr 5 0 0), (19, .list (qs.map premRow)), (20, .int .i64 (qs.length : Int)), (21, .int .i64 (i : Int))] [.rows 7 [[.str rule, .int .i64 f.kind, .str f.name, .list (f.kids.map frm), .list (l.map frm), .list (r.map frm), .sl 4 0 acc.length]], .rows 1 [[.ptr 3 0 0]], .rows 1 [[.int .i64 d]], .rows 3 [[.int .i64 (m : Int), .nilsl, .bool false]], .rows 7 (acc.map prf), .rows 7 [[.str ⟨#[]⟩, .int .i64 0, .str ⟨#[]⟩, .nilsl, .nilsl, .nilsl, .nilsl]]] := by
  intro j
  induction j with
  | zero =>
   intro i m acc hi hm ha ho hN2 hC2
   rw [List.drop_of_length_le (by omega), growL] at ho
   cases ho
  | succ j ih =>
   intro i m acc hi hm ha ho hN2 hC2
   have hil : i < qs.length := by omega
   have hgi := hg _ (List.getElem_mem hil) m hm
   rw [List.drop_eq_getElem_cons hil, growL] at ho hN2 hC2
   have ih := ih (i + 1)
   have row : ∀ q, premRow q = [.list (q.1.map frm), .list (q.2.map frm)] := fun _ => rfl
   have hlt : (acc.length : Int) < (acc.length : Int) + 1 := by omega
   cases hok : (g qs[i].1 qs[i].2 m).ok with
   | none =>
    rw [hok] at hN2 hC2
    dsimp only at hN2 hC2
    have hx2 := hgi.2
    rw [hN2, hC2, hfo, hok] at hx2
    rw [rowO_n] at hx2
    dsimp only [Option.isSome_none] at hx2
    apply hQ
    clear hQ ih hgi
    cases V with
    | none =>
     unfold fndT fndO noPf at hx2
     unfold fndT fndO noPf
     ((refine Sg.h ?_); try repeat' ((first | (with_reducible first | refine brA ?_ | refine brE fun _ => ?_ | (refine spl ⟨?_, ?_⟩ <;> intro _))) <;> ((try simp -implicitDefEqProofs [hil, row, hr4]); (try simp -implicitDefEqProofs (disch := first | assumption | (try simp only [lens]); omega -splitDisjunctions) [hil, row, hr4]))))
     refine CL.sub [3] (hc := by simpa using hx2) ?_
     ((refine Sg.h ?_); try repeat' ((first | (with_reducible first | refine brA ?_ | refine brE fun _ => ?_ | (refine spl ⟨?_, ?_⟩ <;> intro _))) <;> ((try simp -implicitDefEqProofs [hr4, hlt]); (try simp -implicitDefEqProofs (disch := first | assumption | (try simp only [lens]); omega -splitDisjunctions) [hr4, hlt]))))
    | some V =>
     unfold fndT fndO noPf at hx2
     unfold fndT fndO noPf
     generalize cntC V = C at *
     generalize cntR V = R at *
     ((refine Sg.h ?_); try repeat' ((first | (with_reducible first | refine brA ?_ | refine brE fun _ => ?_ | (refine spl ⟨?_, ?_⟩ <;> intro _))) <;> ((try simp -implicitDefEqProofs [hil, row, hr4]); (try simp -implicitDefEqProofs (disch := first | assumption | (try simp only [lens]); omega -splitDisjunctions) [hil, row, hr4]))))
     refine CL.sub [3] (hc := by simpa using hx2) ?_
     ((refine Sg.h ?_); try repeat' ((first | (with_reducible first | refine brA ?_ | refine brE fun _ => ?_ | (refine spl ⟨?_, ?_⟩ <;> intro _))) <;> ((try simp -implicitDefEqProofs [hr4, hlt]); (try simp -implicitDefEqProofs (disch := first | assumption | (try simp only [lens]); omega -splitDisjunctions) [hr4, hlt]))))
   | some x =>
    rw [hok] at ho hN2 hC2
    obtain ⟨hx1, hx3⟩ := hgi.1 (by rw [hok]; rfl)
    have hx2 := hgi.2
    have ih := ih (g qs[i].1 qs[i].2 m).n (acc ++ [x]) (by omega) hx1 (by simp [ha]) ho hN2 hC2
    rw [hok, hx3] at hx2
    rw [rowO_s] at hx2
    unfold fndO fndT at hx2
    dsimp only [Option.isSome_some] at hx2
    generalize (g qs[i].1 qs[i].2 m).n = m' at *
    apply hQ
    clear hQ
    ((refine Sg.h ?_); try repeat' ((first | (with_reducible first | refine brA ?_ | refine brE fun _ => ?_ | (refine spl ⟨?_, ?_⟩ <;> intro _))) <;> ((try simp -implicitDefEqProofs [hil, row, hr4]); (try simp -implicitDefEqProofs (disch := first | assumption | (try simp only [lens]); omega -splitDisjunctions) [hil, row, hr4]))))
    refine CL.sub [3] (hc := by simpa using hx2) ?_
    ((refine Sg.h ?_); try repeat' ((first | (with_reducible first | refine brA ?_ | refine brE fun _ => ?_ | (refine spl ⟨?_, ?_⟩ <;> intro _))) <;> ((try simp -implicitDefEqProofs [hr4, hlt]); (try simp -implicitDefEqProofs (disch := first | assumption | (try simp only [lens]); omega -splitDisjunctions) [hr4, hlt]))))
    all_goals first | exact ih | (refine at2 ih ?_ ?_ <;> simp; done) | (exfalso; first | omega | (simp_all; done) | (simp_all; omega))
 all_goals first | exact main _ 0 n [] (Nat.zero_add _) hn rfl hk hN hC | (refine at2 main _ 0 n [] (Nat.zero_add _) hn rfl hk hN hC ?_ ?_ <;> simp; done) | (exfalso; first | omega | (simp_all; done) | (simp_all; omega))
theorem growL_cnt {g : List Fm → List Fm → Nat → GR} : ∀ {qs : List Prem} {n : Nat} {acc ks : List Pf}, (growL g qs n acc).ok = some ks → (growL g qs n acc).cnt = none
 | [], _, _, _, _ => rfl
 | q :: qs, n, acc, ks, h => by
  rw [growL] at h ⊢
  cases hok : (g q.1 q.2 n).ok with
  | none => rw [hok] at h; cases h
  | some x => rw [hok] at h; exact growL_cnt h
theorem more_all (g : List Fm → List Fm → Nat → GR) (rule : ByteArray) (f : Fm) (qs : List Prem) (l r : List Fm) (d : Int) (hd : 0 ≤ d) (hd2 : d ≤ 1000) (hql : qs.length ≤ 10) (hg : ∀ q ∈ qs, GrowOK g (d + 1) q) (n : Nat) (hn : n ≤ 20000) :
  CallOK Try.prog 108 [.str rule, .agg (frm f), .list (qs.map premRow), .ptr 0 0 0, .ptr 1 0 0, .ptr 2 0 0]
   [.rows 7 [[.str ⟨#[]⟩, .int .i64 0, .str ⟨#[]⟩, .nilsl, .list (l.map frm), .list (r.map frm), .nilsl]], .rows 1 [[.ptr 3 0 0]], .rows 1 [[.int .i64 d]], fndO 0 n none]
   (.tuple [.agg (rowO ((growL g qs n []).ok.map fun ks => .mk rule f l r ks)), .bool (growL g qs n []).ok.isSome]) (.dead :: .rows 1 [[.ptr 3 0 0]] :: .rows 1 [[.int .i64 d]] :: fndO 4 (growL g qs n []).n (growL g qs n []).cnt :: fndT (growL g qs n []).cnt) := by
 cases h : (growL g qs n []).ok with
 | none => exact more_fail g rule f qs l r d hd hd2 hql hg n hn h
 | some ks => rw [growL_cnt h]; exact more_classic g rule f qs l r d hd hd2 hql hg n hn ks h
end Go.Proofs.Ytnoklmapofogeaa
