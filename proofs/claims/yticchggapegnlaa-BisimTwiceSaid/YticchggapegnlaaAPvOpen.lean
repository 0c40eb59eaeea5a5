import Derived.Test.YticchggapegnlaaAQdE
import Derived.Test.YticchggapegnlaaAPvData
import Derived.DataReads
import Derived.ChangeShapes
set_option linter.unusedVariables false
set_option linter.unusedSimpArgs false
set_option maxRecDepth 100000
set_option maxHeartbeats 4000000
namespace Go.Proofs.Yticchggapegnlaa
open Go Go.Pv
def x3_T1 : XC := .seq (.reg [⟨some 74,.load 25 (.tmp 5),none⟩,⟨some 75,.call ⟨.value (.func 7),#[.tmp 74],#[25]⟩,none⟩,⟨some 73,.move (.tmp 75),none⟩,⟨some 76,.extract (.tmp 73) 0,none⟩,⟨some 77,.extract (.tmp 73) 1,none⟩,⟨some 7,.assign (.tmp 76),none⟩,⟨none,.store 29 (.tmp 4) (.tmp 77),none⟩]) (.seq (.reg [⟨some 78,.fieldAddr 29 (.tmp 4) 0,none⟩,⟨some 79,.load 3 (.tmp 78),none⟩,⟨some 80,.binOp .eql 3 (.tmp 79) (.const (.int .i64 0)) 3,none⟩,⟨some 81,.move (.tmp 80),none⟩,⟨some 82,.move (.tmp 7),some (some 81,true)⟩,⟨some 83,.move (.tmp 3),some (some 81,true)⟩,⟨some 84,.call ⟨.builtin .append,#[.const (.slice none 0 0),.tmp 83],#[27,27]⟩,some (some 81,true)⟩,⟨some 85,.move (.tmp 3),some (some 81,true)⟩,⟨some 86,.call ⟨.builtin .append,#[.tmp 84,.tmp 85],#[27,27]⟩,some (some 81,true)⟩,⟨some 87,.call ⟨.value (.func 8),#[.tmp 82,.tmp 86],#[27,27]⟩,some (some 81,true)⟩,⟨some 88,.pick (.tmp 81) (.tmp 87) (.const (.bool false)),none⟩,⟨some 2,.assign (.tmp 88),none⟩]) .ret)
def x3_L0 : XC := .seq (.seq (.reg [⟨some 42,.move (.tmp 6),none⟩,⟨some 43,.fieldAddr 25 (.tmp 1) 1,none⟩,⟨some 44,.load 22 (.tmp 43),none⟩,⟨some 45,.call ⟨.builtin .len,#[.tmp 44],#[22]⟩,none⟩,⟨some 46,.binOp .lss 3 (.tmp 42) (.tmp 45) 3,none⟩]) (.cond (.tmp 46) .skip (.exit 0))) (.seq (.block 1 (.drawn 10 [⟨some 49,.fieldAddr 25 (.tmp 5) 1,none⟩,⟨some 50,.load 22 (.tmp 49),none⟩,⟨some 51,.fieldAddr 25 (.tmp 1) 1,none⟩,⟨some 52,.load 22 (.tmp 51),none⟩,⟨some 53,.move (.tmp 6),none⟩,⟨some 54,.indexAddr 22 (.tmp 52) (.tmp 53),none⟩,⟨some 55,.indexAddr 32 (.tmp 54) (.const (.int .i64 0)),none⟩,⟨some 56,.load 3 (.tmp 55),none⟩,⟨some 57,.fieldAddr 25 (.tmp 1) 0,none⟩,⟨some 58,.load 3 (.tmp 57),none⟩,⟨some 59,.binOp .add 3 (.tmp 56) (.tmp 58) 3,none⟩,⟨some 60,.fieldAddr 25 (.tmp 1) 1,none⟩,⟨some 61,.load 22 (.tmp 60),none⟩,⟨some 62,.move (.tmp 6),none⟩,⟨some 63,.indexAddr 22 (.tmp 61) (.tmp 62),none⟩,⟨some 64,.indexAddr 32 (.tmp 63) (.const (.int .i64 1)),none⟩,⟨some 65,.load 3 (.tmp 64),none⟩,⟨some 66,.fieldAddr 25 (.tmp 1) 0,none⟩,⟨some 67,.load 3 (.tmp 66),none⟩,⟨some 68,.binOp .add 3 (.tmp 65) (.tmp 67) 3,none⟩,⟨some 69,.build 32 #[(0,.tmp 59),(1,.tmp 68)],none⟩,⟨some 70,.buildSlice 22 1 #[(0,.tmp 69)],none⟩,⟨some 71,.call ⟨.builtin .append,#[.tmp 50,.tmp 70],#[22,22]⟩,none⟩,⟨some 72,.fieldAddr 25 (.tmp 5) 1,none⟩,⟨none,.store 22 (.tmp 72) (.tmp 71),none⟩])) (.reg [⟨some 47,.move (.tmp 6),none⟩,⟨some 48,.binOp .add 3 (.tmp 47) (.const (.int .i64 1)) 3,none⟩,⟨some 6,.assign (.tmp 48),none⟩]))
def x3 : XC := .seq (.reg [⟨some 1,.box 25 (.tmp 0),none⟩,⟨some 2,.assign (.const (.bool false)),none⟩]) (.seq (.seq (.reg [⟨some 8,.call ⟨.value (.func 6),#[],#[]⟩,none⟩,⟨some 9,.unOp .not 4 (.tmp 8),none⟩]) (.cond (.tmp 9) (.seq (.reg [⟨some 2,.assign (.const (.bool false)),none⟩]) .ret) .skip)) (.seq (.reg [⟨some 11,.load 25 (.tmp 1),none⟩,⟨some 12,.call ⟨.value (.func 7),#[.tmp 11],#[25]⟩,none⟩,⟨some 10,.move (.tmp 12),none⟩,⟨some 13,.extract (.tmp 10) 0,none⟩,⟨some 14,.extract (.tmp 10) 1,none⟩,⟨some 4,.alloc 29,none⟩,⟨some 3,.assign (.tmp 13),none⟩,⟨none,.store 29 (.tmp 4) (.tmp 14),none⟩]) (.seq (.seq (.reg [⟨some 15,.fieldAddr 29 (.tmp 4) 0,none⟩,⟨some 16,.load 3 (.tmp 15),none⟩,⟨some 17,.binOp .neq 3 (.tmp 16) (.const (.int .i64 0)) 3,none⟩,⟨some 18,.move (.tmp 17),none⟩,⟨some 19,.fieldAddr 25 (.tmp 1) 0,some (some 18,false)⟩,⟨some 20,.load 3 (.tmp 19),some (some 18,false)⟩,⟨some 21,.binOp .gtr 3 (.tmp 20) (.const (.int .i64 20)) 3,some (some 18,false)⟩,⟨some 22,.pick (.tmp 18) (.const (.bool true)) (.tmp 21),none⟩,⟨some 23,.move (.tmp 22),none⟩,⟨some 24,.fieldAddr 25 (.tmp 1) 1,some (some 23,false)⟩,⟨some 25,.load 22 (.tmp 24),some (some 23,false)⟩,⟨some 26,.call ⟨.builtin .len,#[.tmp 25],#[22]⟩,some (some 23,false)⟩,⟨some 27,.binOp .gtr 3 (.tmp 26) (.const (.int .i64 1000)) 3,some (some 23,false)⟩,⟨some 28,.pick (.tmp 23) (.const (.bool true)) (.tmp 27),none⟩]) (.cond (.tmp 28) (.seq (.reg [⟨some 2,.assign (.const (.bool true)),none⟩]) .ret) .skip)) (.seq (.drawn 6 [⟨some 29,.fieldAddr 25 (.tmp 1) 0,none⟩,⟨some 30,.load 3 (.tmp 29),none⟩,⟨some 31,.binOp .mul 3 (.const (.int .i64 2)) (.tmp 30) 3,none⟩,⟨some 32,.fieldAddr 25 (.tmp 1) 1,none⟩,⟨some 33,.load 22 (.tmp 32),none⟩,⟨some 34,.call ⟨.builtin .append,#[.const (.slice none 0 0),.tmp 33],#[22,22]⟩,none⟩,⟨some 35,.fieldAddr 25 (.tmp 1) 2,none⟩,⟨some 36,.load 23 (.tmp 35),none⟩,⟨some 37,.call ⟨.builtin .append,#[.const (.slice none 0 0),.tmp 36],#[23,23]⟩,none⟩,⟨some 38,.fieldAddr 25 (.tmp 1) 2,none⟩,⟨some 39,.load 23 (.tmp 38),none⟩,⟨some 40,.call ⟨.builtin .append,#[.tmp 37,.tmp 39],#[23,23]⟩,none⟩,⟨some 41,.build 25 #[(0,.tmp 31),(1,.tmp 34),(2,.tmp 40)],none⟩,⟨some 5,.alloc 25,none⟩,⟨none,.store 25 (.tmp 5) (.tmp 41),none⟩]) (.seq (.seq (.reg [⟨some 6,.assign (.const (.int .i64 0)),none⟩]) (.bloop 0 x3_L0)) (x3_T1))))))
@[simp] theorem x3_s {C e s K} : type_of% (@X_at C e s K _ _ x3_T1.eq_1) ∧ type_of% (@X_at C e s K _ _ x3_L0.eq_1) ∧ type_of% (@X_at C e s K _ _ x3.eq_1) := ⟨X_at x3_T1.eq_1,X_at x3_L0.eq_1,X_at x3.eq_1⟩
@[simp] def tr3_6 : MT := .op 0 (.op 1 (.op 2 (.op 3 (.op 4 (.op 6 (.op 7 (.op 9 (.op 10 (.br (.op 5 (.ck 1 (.ck 2 (.ck 7 (.ck 10 (.br (.op 8 (.ck 1 (.ck 2 (.ck 10 (.br (.op 11 (.ck 1 (.ck 2 (.op 12 (.op 13 (.ck 1 (.ck 2 (.ck 12 (.op 14 .fin))))))))) (.op 13 (.ck 1 (.ck 2 (.ck 10 (.op 11 (.ck 1 (.ck 2 (.op 12 (.op 14 .fin)))))))))))))) (.op 13 (.ck 1 (.ck 2 (.ck 7 (.ck 10 (.op 8 (.ck 1 (.ck 2 (.ck 10 (.op 11 (.ck 1 (.ck 2 (.op 12 (.op 14 .fin)))))))))))))))))))) (.op 13 (.ck 1 (.ck 2 (.ck 4 (.ck 7 (.ck 10 (.op 5 (.ck 1 (.ck 2 (.ck 7 (.ck 10 (.op 8 (.ck 1 (.ck 2 (.ck 10 (.op 11 (.ck 1 (.ck 2 (.op 12 (.op 14 .fin)))))))))))))))))))))))))))))
def an3 : Ann := ⟨[(6,.tree tr3_6),(10,.mix 22)],[(0,[],[1,3,4,5,6],[3,4,5])],[]⟩
@[simp] theorem an3_a : an3.clsOf 6 = .tree tr3_6 ∧ an3.clsOf 10 = .mix 22 ∧ an3.frzOf 6 = [] ∧ an3.frzOf 10 = [] ∧ an3.loopOf 0 = ([],[1,3,4,5,6],[3,4,5]) := ⟨rfl,rfl,rfl,rfl,rfl⟩
theorem fi3 : FI Try.prog 3 (cxA an3) x3 [.tmp 2] Try.f3 := fiA Try.func3 mixed
theorem bisimTwice_law (m : Mdl) : CallOK Try.prog 3 [.agg (mdl m)] [] (.bool true) [] := by
 have hbg := bisimBegun_law
 by_cases h0 : (kripkeCheck m).1 = 0
 rotate_left 1
 ·have hc := Classes_fault m h0
  generalize (kripkeCheck m).1 = c at *
  generalize (kripkeCheck m).2 = a at *
  unfold mdl flt at *
  refine fi3.op ?_
  (refine Sg.h ?_;try repeat' ((first | (with_reducible first|refine brA ?_|refine brE fun _=>?_|refine spl ⟨?_,?_⟩<;>intro _) | refine clo hbg ?_ | refine clo hc ?_) <;> ((try simp -implicitDefEqProofs [h0]); (try simp -implicitDefEqProofs(disch:=first|assumption|(try simp only[lens]);omega -splitDisjunctions) [h0]))))
 have hk := kr_zero h0
 obtain ⟨K,s1,s2,hc⟩ := Classes_kr m hk
 have hLl := stgW_length m K
 obtain ⟨n,hn⟩ : ∃ n : Nat,m.n = (n : Int) := ⟨m.tr.length,hk.trs.symm⟩
 have hnt : m.tr.length = n := by have := hk.trs; omega
 by_cases h1 : (20 : Int) < m.n
 ·generalize stgW m K = L at *
  unfold mdl at *
  refine fi3.op ?_
  (refine Sg.h ?_;try repeat' ((first | (with_reducible first|refine brA ?_|refine brE fun _=>?_|refine spl ⟨?_,?_⟩<;>intro _) | refine clo hbg ?_ | refine clo hc ?_) <;> ((try simp -implicitDefEqProofs [h1]); (try simp -implicitDefEqProofs(disch:=first|assumption|(try simp only[lens]);omega -splitDisjunctions) [h1]))))
 by_cases h2 : 1000 < m.rel.length
 ·have h2' : (1000 : Int) < (m.rel.length : Int) := by omega
  generalize stgW m K = L at *
  unfold mdl at *
  refine fi3.op ?_
  (refine Sg.h ?_;try repeat' ((first | (with_reducible first|refine brA ?_|refine brE fun _=>?_|refine spl ⟨?_,?_⟩<;>intro _) | refine clo hbg ?_ | refine clo hc ?_) <;> ((try simp -implicitDefEqProofs [h1,h2']); (try simp -implicitDefEqProofs(disch:=first|assumption|(try simp only[lens]);omega -splitDisjunctions) [h1,h2']))))
 have h2' : ¬ (1000 : Int) < (m.rel.length : Int) := by omega
 have hmost := hk.most
 obtain ⟨K2,t1,t2,hc2⟩ := Classes_kr (twoM m n) (kr_two hk hn (by omega) (by omega))
 have htw := stgW_two m n (by have := hk.mdW; rwa [hnt] at this)
 have hKK : K2 = K := by
  have hstop : ∀ i,stgW (twoM m n) (i + 1) = stgW (twoM m n) i ↔ stgW m (i + 1) = stgW m i := fun i => by
   rw [htw,htw]
   refine ⟨fun h => ?_,fun h => by rw [h]⟩
   exact (List.append_inj h (by rw [stgW_length,stgW_length])).1
  rcases Nat.lt_trichotomy K2 K with h | h | h
  ·exact absurd ((hstop K2).1 t1) (s2 K2 h)
  ·exact h
  ·exact absurd ((hstop K).2 s1) (t2 K h)
 subst hKK
 rw [htw] at hc2
 have hnum := sameNumbers_law (stgW m K2 ++ stgW m K2) (stgW m K2 ++ stgW m K2)
 rw [decide_eq_true rfl] at hnum
 have hLn : (stgW m K2).length ≤ 20 := by omega
 generalize stgW m K2 = L at *
 unfold mdl twoM at *
 dsimp only at hc2
 rw [hn] at h1 hc ⊢
 have hposn := hk.pos
 have htl : m.tr.length ≤ 20 := by omega
 have htp : 0 < m.tr.length := by omega
 have hrelE : ∀ p ∈ m.rel,0 ≤ p.1 ∧ p.1 < (n : Int) ∧ 0 ≤ p.2 ∧ p.2 < (n : Int) := by rw [← hn]; exact hk.rel
 clear h0 hk s1 s2 t1 t2 htw
 generalize m.rel = E at *
 generalize m.tr = T at *
 refine fi3.op ?_
 (refine Sg.h ?_;try repeat' ((first | (with_reducible first|refine brA ?_|refine brE fun _=>?_|refine spl ⟨?_,?_⟩<;>intro _) | refine clo hbg ?_ | refine clo hc ?_) <;> ((try simp -implicitDefEqProofs [h1,h2']); (try simp -implicitDefEqProofs(disch:=first|assumption|(try simp only[lens]);omega -splitDisjunctions) [h1,h2']))))
 have hE1 : E.length ≤ 1000 := by omega
 refine ⟨⟨fun row a b _ e => by subst e; simp,by omega⟩,?_⟩
 rw [show ((n + n : Nat) : Int) = 2 * (n : Int) by omega] at hc2
 have hrel : ∀ p ∈ E,0 ≤ p.1 ∧ p.1 < (n : Int) ∧ 0 ≤ p.2 ∧ p.2 < (n : Int) := hrelE
 have hn20 : n ≤ 20 := by omega
 refine W_of fun Q hQ => ?_
 have main : ∀ k i,i + k = E.length → Q [(1,.ptr 0 0 0),(3,.list (L.map numRow)),(4,.ptr 1 0 0),(5,.ptr 2 0 0),(6,.int .i64 (i : Int))]
   [.rows 3 [[.int .i64 (n : Int),.list (E.map relRow),.list (T.map strsRow)]],.rows 2 [[.int .i64 0,.int .i64 0]],.rows 3 [[.int .i64 (2 * (n : Int)),.sl 3 0 (E ++ (E.take i).map (shR n)).length,.sl 4 0 (T.length + T.length)]],.rows 2 ((E ++ (E.take i).map (shR n)).map relRow),.rows 1 (T.map strsRow ++ T.map strsRow)] := by
  intro k
  induction k with
  | zero =>
   intro i hi
   rw [List.take_of_length_le (by omega)]
   have hi' : ¬ (i : Int) < (E.length : Int) := by omega
   generalize E ++ E.map (shR n) = E2 at *
   have t1 : List.take E2.length (E2.map relRow) = E2.map relRow := List.take_of_length_le (by simp)
   have t2 : List.take (T.length + T.length) (T.map strsRow ++ T.map strsRow) = T.map strsRow ++ T.map strsRow := List.take_of_length_le (by simp)
   have t3 : List.take T.length (T.map strsRow) = T.map strsRow := List.take_of_length_le (by simp)
   rw [List.map_append] at hc2
   apply hQ
   clear hQ
   (refine Sg.h ?_;try repeat' ((with_reducible first|refine brA ?_|refine brE fun _=>?_|refine spl ⟨?_,?_⟩<;>intro _)<;> ((try simp -implicitDefEqProofs [hi']); (try simp -implicitDefEqProofs(disch:=first|assumption|(try simp only[lens]);omega -splitDisjunctions) [hi']))))
   refine CL.giv [2,3] ?_
   (refine Sg.h ?_;try repeat' ((with_reducible first|refine brA ?_|refine brE fun _=>?_|refine spl ⟨?_,?_⟩<;>intro _)<;> ((try simp -implicitDefEqProofs); (try simp -implicitDefEqProofs(disch:=first|assumption|(try simp only[lens]);omega -splitDisjunctions)))))
   try simp only [t1,t2,t3]
   (refine Sg.h ?_;try repeat' ((first | (with_reducible first|refine brA ?_|refine brE fun _=>?_|refine spl ⟨?_,?_⟩<;>intro _) | refine clo hc2 ?_) <;> ((try simp -implicitDefEqProofs); (try simp -implicitDefEqProofs(disch:=first|assumption|(try simp only[lens]);omega -splitDisjunctions)))))
   have t4 : List.take (L.length + L.length) (L.map numRow ++ L.map numRow) = L.map numRow ++ L.map numRow := List.take_of_length_le (by simp)
   rw [List.map_append] at hnum
   refine CL.see hnum (by simp [t4]) (flat_bool _) ?_
   (refine Sg.h ?_;try repeat' ((with_reducible first|refine brA ?_|refine brE fun _=>?_|refine spl ⟨?_,?_⟩<;>intro _)<;> ((try simp -implicitDefEqProofs); (try simp -implicitDefEqProofs(disch:=first|assumption|(try simp only[lens]);omega -splitDisjunctions)))))
  | succ k ih =>
   intro i hi
   have hil : i < E.length := by omega
   have ih := ih (i + 1) (by omega)
   rw [take_snoc hil,List.map_append,List.map_singleton,← List.append_assoc] at ih
   have hEl : (E ++ (E.take i).map (shR n)).length ≤ 4000 := by simp; omega
   obtain ⟨h3,h4,h5,h6⟩ := hrel E[i] (List.getElem_mem hil)
   obtain ⟨u,v,huv⟩ : ∃ u v,E[i] = (u,v) := ⟨_,_,rfl⟩
   rw [huv] at ih h3 h4 h5 h6
   have e : shR n (u,v) = (u + n,v + n) := rfl
   rw [e] at ih
   dsimp only at h3 h4 h5 h6
   generalize E ++ (E.take i).map (shR n) = E2 at *
   have htk : List.take (E2.length + 1) (E2.map relRow ++ [[.int .i64 (u + (n : Int)),.int .i64 (v + (n : Int))]]) = E2.map relRow ++ [[.int .i64 (u + (n : Int)),.int .i64 (v + (n : Int))]] := List.take_of_length_le (by simp)
   apply hQ
   clear hQ
   (refine Sg.h ?_;try repeat' ((with_reducible first|refine brA ?_|refine brE fun _=>?_|refine spl ⟨?_,?_⟩<;>intro _)<;> ((try simp -implicitDefEqProofs [hil,huv]); (try simp -implicitDefEqProofs(disch:=first|assumption|(try simp only[lens]);omega -splitDisjunctions) [hil,huv]))))
   all_goals first | exact ih | (refine at2 ih ?_ ?_ <;> simp [relRow_eq,htk]; done) | (exfalso; first | omega | (simp_all; done) | (simp_all; omega))
 refine at2 (main E.length 0 (Nat.zero_add _)) ?_ ?_
 ·rfl
 ·simp
end Go.Proofs.Yticchggapegnlaa
namespace Go.Pv
open Go
inductive HasTy (P : Program) : TypeId → List PV → Prop where
 | bool {t b} (h : P.underlying t = some .bool) : HasTy P t [.bool b]
 | int {t k n} (h : P.underlying t = some (.int k)) (wf : (Lit.int k n).wf = true) : HasTy P t [.int k n]
 | str {t s} (h : P.underlying t = some .string) (hs : s.size ≤ maxLen) (hb : s.size ≤ reachBytes) : HasTy P t [.str s]
 | slice {t e rows} (h : P.underlying t = some (.slice e)) (hr : ∀ row ∈ rows,HasTy P e row) (hb : rows.length * P.bytesOf e ≤ reachBytes) : HasTy P t [.list rows]
 | struct {t} {fs : Array Field} {parts : List (List PV)} (h : P.underlying t = some (.struct fs)) (hl : parts.length = fs.size)
   (hp : ∀ (i : Nat) (f : Field) (row : List PV),fs[i]? = some f → parts[i]? = some row → HasTy P f.type row) : HasTy P t parts.flatten
 | array {t n e} {parts : List (List PV)} (h : P.underlying t = some (.array n e)) (hl : parts.length = n) (hp : ∀ row ∈ parts,HasTy P e row) : HasTy P t parts.flatten
def RowRel (pub : PHeap) (row : List PV) (cs : List Value) : Prop := row.length = cs.length ∧ ∀ (j : Nat) (v : PV) (c : Value),row[j]? = some v → cs[j]? = some c → Rel pub noSig v c
theorem RowRel.nil {pub : PHeap} : RowRel pub [] [] := ⟨rfl,fun j v c h => by simp at h⟩
theorem RowRel.one {pub : PHeap} {v : PV} {c : Value} (h : Rel pub noSig v c) : RowRel pub [v] [c] := ⟨rfl,fun j x y hx hy => by
 cases j with
 | zero => simp at hx hy; subst hx hy; exact h
 | succ j => simp at hx⟩
theorem RowRel.append {pub : PHeap} {r r' : List PV} {cs cs' : List Value} (h : RowRel pub r cs) (g : RowRel pub r' cs') : RowRel pub (r ++ r') (cs ++ cs') := by
 refine ⟨by simp [h.1,g.1],fun j v c hv hc => ?_⟩
 rw [List.getElem?_append] at hv hc
 split at hv
 ·rename_i hlt; rw [if_pos (by rw [← h.1]; exact hlt)] at hc; exact h.2 j v c hv hc
 ·rename_i hge; rw [if_neg (by rw [← h.1]; exact hge),← h.1] at hc; exact g.2 _ v c hv hc
def contig (P : Program) (total : Nat) : List Field → Nat → Bool
 | [],o => o == total
 | f :: r,o => f.offset == o && contig P total r (o + P.cellsOf f.type)
def tyOK (P : Program) (S : List TypeId) (t : TypeId) : Bool := match P.underlying t with
 | some .bool | some (.int _) | some .string => true
 | some (.slice e) => S.contains e && decide (0 < P.cellsOf e)
 | some (.struct fs) => contig P (P.cellsOf t) fs.toList 0 && fs.toList.all fun f => S.contains f.type
 | some (.array n e) => S.contains e && n * P.cellsOf e == P.cellsOf t
 | _ => false
theorem rows_of {α : Type} (p : Nat → α → Prop) : ∀ n,(∀ i,i < n → ∃ x,p i x) → ∃ l : List α,l.length = n ∧ ∀ i x,l[i]? = some x → p i x := by
 intro n
 induction n with
 | zero => intro _; exact ⟨[],rfl,fun i x h => by simp at h⟩
 | succ n ih =>
  intro h
  obtain ⟨l,hl,hp⟩ := ih fun i hi => h i (by omega)
  obtain ⟨x,hx⟩ := h n (by omega)
  refine ⟨l ++ [x],by simp [hl],fun i y hy => ?_⟩
  rw [List.getElem?_append] at hy
  split at hy
  ·exact hp i y hy
  ·rename_i hge
   have hi := lt_of_getElem? hy
   simp only [List.length_cons,List.length_nil] at hi
   have hin : i = n := by omega
   subst hin
   rw [show i - l.length = 0 by omega] at hy
   simp at hy; subst hy; exact hx
section
variable {H : Type} {enc : TypeId × Value → H} {P : Program} {S : List TypeId} {w : World} {spare : Nat → Bool} {held : Bool}
theorem fields_rel {fuel total : Nat} {cs : List Value} {pub : PHeap} (hcs : cs.length = total)
  (ih : ∀ (t : TypeId) (cs : List Value) (x : DataW H × List MemPlace),S.contains t = true → DataW.trod enc P w 0 spare held fuel t cs = some x → (∀ n ∈ DataW.weights P t x.1,n ≤ reachBytes) → ∃ row,HasTy P t row ∧ RowRel pub row cs) :
  ∀ (fs : List Field) (o : Nat) (xs : List (DataW H × List MemPlace)),contig P total fs o = true → (fs.all fun f => S.contains f.type) = true →
   (fs.mapM fun f => DataW.trod enc P w 0 spare held fuel f.type ((cs.drop f.offset).take (P.cellsOf f.type))) = some xs → (∀ n ∈ DataW.weightsEach P (fs.map (·.type)) (xs.map (·.1)),n ≤ reachBytes) →
   o ≤ total ∧ ∃ parts : List (List PV),parts.length = fs.length ∧ (∀ (i : Nat) (f : Field) (row : List PV),fs[i]? = some f → parts[i]? = some row → HasTy P f.type row) ∧ RowRel pub parts.flatten (cs.drop o) := by
 intro fs
 induction fs with
 | nil =>
  intro o xs hc _ _ _
  simp only [contig,beq_iff_eq] at hc
  refine ⟨by omega,[],rfl,fun i f row h => by simp at h,?_⟩
  rw [List.drop_eq_nil_of_le (by omega)]; exact .nil
 | cons f r ih2 =>
  intro o xs hc ha hm hw
  simp only [contig,Bool.and_eq_true,beq_iff_eq] at hc
  simp only [List.all_cons,Bool.and_eq_true] at ha
  obtain ⟨ho,hc⟩ := hc
  rw [List.mapM_cons] at hm
  cases hx : DataW.trod enc P w 0 spare held fuel f.type ((cs.drop f.offset).take (P.cellsOf f.type)) with
  | none => rw [hx] at hm; simp at hm
  | some x =>
   cases hxs : (r.mapM fun f => DataW.trod enc P w 0 spare held fuel f.type ((cs.drop f.offset).take (P.cellsOf f.type))) with
   | none => rw [hx,hxs] at hm; simp at hm
   | some ys =>
    rw [hx,hxs] at hm
    obtain rfl : x :: ys = xs := by simpa using hm
    simp only [List.map_cons,DataW.weightsEach,List.mem_append] at hw
    obtain ⟨h1,parts,h2,h3,h4⟩ := ih2 _ ys hc ha.2 hxs fun n hn => hw n (.inr hn)
    obtain ⟨row,g1,g2⟩ := ih _ _ _ ha.1 hx fun n hn => hw n (.inl hn)
    refine ⟨by omega,row :: parts,by simp [h2],fun i f' row' hf hr => ?_,?_⟩
    ·cases i with
     | zero => simp at hf hr; subst hf hr; exact g1
     | succ i => exact h3 i f' row' (by simpa using hf) (by simpa using hr)
    ·rw [List.flatten_cons]
     have hsplit : cs.drop o = (cs.drop o).take (P.cellsOf f.type) ++ cs.drop (o + P.cellsOf f.type) := by
      rw [← List.drop_drop,List.take_append_drop]
     rw [hsplit,← ho]
     rw [← ho] at h4
     exact g2.append h4
theorem elems_rel {fuel : Nat} {cs : List Value} {pub : PHeap} {e : TypeId} (hin : S.contains e = true)
  (ih : ∀ (t : TypeId) (cs : List Value) (x : DataW H × List MemPlace),S.contains t = true → DataW.trod enc P w 0 spare held fuel t cs = some x → (∀ n ∈ DataW.weights P t x.1,n ≤ reachBytes) → ∃ row,HasTy P t row ∧ RowRel pub row cs) :
  ∀ (k i : Nat) (xs : List (DataW H × List MemPlace)),cs.length = (i + k) * P.cellsOf e →
   ((List.range' i k).mapM fun i => DataW.trod enc P w 0 spare held fuel e ((cs.drop (i * P.cellsOf e)).take (P.cellsOf e))) = some xs → (∀ n ∈ DataW.weightsAll P e (xs.map (·.1)),n ≤ reachBytes) →
   ∃ parts : List (List PV),parts.length = k ∧ (∀ row ∈ parts,HasTy P e row) ∧ RowRel pub parts.flatten (cs.drop (i * P.cellsOf e)) := by
 intro k
 induction k with
 | zero =>
  intro i xs hc _ _
  refine ⟨[],rfl,by simp,?_⟩
  rw [List.drop_eq_nil_of_le (by rw [hc]; exact Nat.le_refl _)]; exact .nil
 | succ k ih2 =>
  intro i xs hc hm hw
  rw [List.range'_succ,List.mapM_cons] at hm
  cases hx : DataW.trod enc P w 0 spare held fuel e ((cs.drop (i * P.cellsOf e)).take (P.cellsOf e)) with
  | none => rw [hx] at hm; simp at hm
  | some x =>
   cases hxs : ((List.range' (i + 1) k).mapM fun i => DataW.trod enc P w 0 spare held fuel e ((cs.drop (i * P.cellsOf e)).take (P.cellsOf e))) with
   | none => rw [hx,hxs] at hm; simp at hm
   | some ys =>
    rw [hx,hxs] at hm
    obtain rfl : x :: ys = xs := by simpa using hm
    simp only [List.map_cons,DataW.weightsAll,List.mem_append] at hw
    obtain ⟨parts,h2,h3,h4⟩ := ih2 (i + 1) ys (by rw [hc]; congr 1; omega) hxs fun n hn => hw n (.inr hn)
    obtain ⟨row,g1,g2⟩ := ih _ _ _ hin hx fun n hn => hw n (.inl hn)
    refine ⟨row :: parts,by simp [h2],fun row' hr => ?_,?_⟩
    ·rcases List.mem_cons.1 hr with rfl | hr
     ·exact g1
     ·exact h3 _ hr
    ·rw [List.flatten_cons]
     have hsplit : cs.drop (i * P.cellsOf e) = (cs.drop (i * P.cellsOf e)).take (P.cellsOf e) ++ cs.drop ((i + 1) * P.cellsOf e) := by
      rw [Nat.add_mul,Nat.one_mul,← List.drop_drop,List.take_append_drop]
     rw [hsplit]
     exact g2.append h4
def heapOf (w : World) : PHeap := fun b => w.heap[b]?
theorem cell_block {w : World} {a : Addr} {c : Value} (h : w.cell? a = some c) : a.spot = none ∧ ∃ cs ty fr,w.heap[a.block]? = some (.cells cs ty fr) ∧ cs[a.off]? = some c := by
 unfold World.cell? at h
 split at h
 ·rename_i cs ty fr hh
  split at h
  ·cases h
  ·rename_i hs; exact ⟨by simpa using hs,cs,ty,fr,hh,h⟩
 ·cases h
theorem weightsAll_mem {H : Type} {P : Program} {e : TypeId} : ∀ {l : List (DataW H)} {d : DataW H} {n : Nat},d ∈ l → n ∈ DataW.weights P e d → n ∈ DataW.weightsAll P e l
 | a :: r,d,n,h,hn => by
  simp only [DataW.weightsAll,List.mem_append]
  rcases List.mem_cons.1 h with rfl | h
  ·exact .inl hn
  ·exact .inr (weightsAll_mem h hn)
theorem trod_rel (hS : ∀ t,S.contains t = true → tyOK P S t = true) : ∀ (fuel : Nat) (t : TypeId) (cs : List Value) (x : DataW H × List MemPlace),S.contains t = true →
  DataW.trod enc P w 0 spare held fuel t cs = some x → (∀ n ∈ DataW.weights P t x.1,n ≤ reachBytes) → ∃ row,HasTy P t row ∧ RowRel (heapOf w) row cs := by
 intro fuel
 induction fuel with
 | zero => intro t cs x _ h; simp [DataW.trod] at h
 | succ fuel ih =>
  intro t cs x hin h hw
  have hok := hS t hin
  unfold tyOK at hok
  unfold DataW.trod at h
  split at hok
  ·rename_i hu
   rw [hu] at h
   split at h <;> first | (cases h; done) | skip
   all_goals first | (rename_i heq; cases heq; done) | skip
   exact ⟨_,.bool hu,.one .bool⟩
  ·rename_i k hu
   rw [hu] at h
   split at h <;> first | (cases h; done) | skip
   all_goals first | (rename_i heq; cases heq; done) | skip
   rename_i heq; cases heq
   split at h
   ·rename_i hk; obtain ⟨rfl,hwf⟩ := hk; exact ⟨_,.int hu hwf,.one .int⟩
   ·cases h
  ·rename_i hu
   rw [hu] at h
   split at h <;> first | (cases h; done) | skip
   all_goals first | (rename_i heq; cases heq; done) | skip
   split at h
   ·rename_i s hs
    cases h
    exact ⟨_,.str hu hs (by simpa [DataW.weights] using hw),.one (.str hs)⟩
   ·cases h
  ·rename_i e hu
   rw [hu] at h
   simp only [Bool.and_eq_true,decide_eq_true_eq] at hok
   split at h <;> first | (cases h; done) | skip
   all_goals first | (rename_i heq; cases heq; done) | skip
   ·exact ⟨[.list []],.slice hu (fun row hr => by cases hr) (by simp),.one (.list0 (Nat.zero_le _))⟩
   ·rename_i e' a len cap heq
    cases heq
    simp only at h
    split at h
    ·rename_i hc
     obtain ⟨_,hlc,hcm⟩ := hc
     obtain ⟨elems,hm,h⟩ := Option.bind_eq_some_iff.1 h
     obtain ⟨rest,hrest,rfl⟩ := Option.map_eq_some_iff.1 h
     simp only [DataW.weights,hu,List.mem_cons,List.mem_append] at hw
     by_cases h0 : len = 0
     ·subst h0
      exact ⟨[.list []],.slice hu (fun row hr => by cases hr) (by simp),.one (.list0 hcm)⟩
     ·have hel : ∀ i,i < len → ∃ row : List PV,HasTy P e row ∧ ∃ ec : List Value,ec.length = P.cellsOf e ∧ (∀ j,j < P.cellsOf e → w.cell? ((a.add (i * P.cellsOf e)).add j) = ec[j]?) ∧ RowRel (heapOf w) row ec := by
       intro i hi
       have hx := mapM_some_get hm i i (by simp [hi])
       have hl := mapM_some_length hm
       simp only [List.length_range] at hl
       rw [List.getElem?_eq_getElem (by omega)] at hx
       obtain ⟨ec,h1,h2⟩ := Option.bind_eq_some_iff.1 hx
       obtain ⟨_,h3,h4⟩ := World.cells?_some h1
       obtain ⟨row,g1,g2⟩ := ih e ec _ hok.1 h2 fun n hn => hw n (.inr (.inl (weightsAll_mem (List.mem_map.2 ⟨_,List.getElem_mem _,rfl⟩) hn)))
       exact ⟨row,g1,ec,h3,h4,g2⟩
      obtain ⟨rows,hrl,hrp⟩ := rows_of _ len hel
      -- the block
      have h00 : w.cell? ((a.add (0 * P.cellsOf e)).add 0) = w.cell? a := by simp [Addr.add]
      obtain ⟨_,_,ec0,hec0,hcell0,_⟩ := hel 0 (by omega)
      have hc0 : w.cell? a = some (ec0[0]'(by omega)) := by
       rw [← h00,hcell0 0 hok.2]; exact List.getElem?_eq_getElem _
      obtain ⟨hsp,arr,ty,fr,hblk,_⟩ := cell_block hc0
      obtain ⟨b,o,sp⟩ := a
      simp only at hsp hblk
      subst hsp
      have hcellat : ∀ i,i < len → ∀ j,j < P.cellsOf e → w.cell? (((⟨b,o,none⟩ : Addr).add (i * P.cellsOf e)).add j) = arr[o + i * P.cellsOf e + j]? := by
       intro i _ j _
       rw [Addr.add_at,Addr.add_at,cell_at hblk]
      have hsz : o + rows.length * P.cellsOf e ≤ arr.size := by
       obtain ⟨_,_,ec,hec,hcell,_⟩ := hel (len - 1) (by omega)
       have h1 := hcell (P.cellsOf e - 1) (by omega)
       rw [hcellat (len - 1) (by omega) _ (by omega),List.getElem?_eq_getElem (by omega)] at h1
       have h2 : o + (len - 1) * P.cellsOf e + (P.cellsOf e - 1) < arr.size := by
        rcases Nat.lt_or_ge (o + (len - 1) * P.cellsOf e + (P.cellsOf e - 1)) arr.size with h | h
        ·exact h
        ·rw [Array.getElem?_eq_none h] at h1; cases h1
       rw [hrl]
       have h3 : len * P.cellsOf e = (len - 1) * P.cellsOf e + P.cellsOf e := by
        rw [← Nat.succ_mul]; congr 1; omega
       omega
      refine ⟨[.list rows],.slice hu (fun row hr => ?_) ?_,.one ?_⟩
      rotate_left
      ·have h1 := hw _ (.inl rfl)
       have hl := mapM_some_length hm
       simp only [List.length_map,List.length_range] at h1 hl
       rw [hrl,← hl]
       exact Nat.le_trans (Nat.mul_le_mul_right _ (Nat.le_add_right _ _)) h1
      rotate_left
      ·obtain ⟨i,hi⟩ := List.mem_iff_getElem?.1 hr
       exact (hrp i row hi).1
      ·have key : Rel (heapOf w) noSig (.list rows) (.slice (some ⟨b,o,none⟩) rows.length cap) := by
        refine .list (esz := P.cellsOf e) hblk (by omega) hcm ?_ hsz ?_
        ·intro r row hr
         obtain ⟨_,ec,h1,_,h3⟩ := hrp r row hr
         rw [h3.1,h1]
        ·intro r row j v c hr hj hcc
         have hrlt := lt_of_getElem? hr
         obtain ⟨_,ec,h1,h2,h3⟩ := hrp r row hr
         have hjl := lt_of_getElem? hj
         have h4 := h3.1
         have h5 := h2 j (by omega)
         rw [hcellat r (by omega) j (by omega),hcc] at h5
         exact h3.2 j v c hj h5.symm
       rw [hrl] at key
       exact key
    ·cases h
  ·rename_i fs hu
   rw [hu] at h
   simp only [Bool.and_eq_true] at hok
   have h' : (if cs.length = P.cellsOf t then (fs.toList.mapM fun f => DataW.trod enc P w 0 spare held fuel f.type ((cs.drop f.offset).take (P.cellsOf f.type))).map fun xs => ((DataW.agg (xs.map (·.1)) : DataW H),xs.flatMap (·.2)) else none) = some x := by
    split at h
    all_goals first | (rename_i heq; cases heq; exact h) | (rename_i heq; cases heq; done) | (exfalso; simp only [Option.some.injEq,reduceCtorEq] at *; done) | (simp_all; done)
   split at h'
   ·rename_i hlen
    obtain ⟨xs,hm,rfl⟩ := Option.map_eq_some_iff.1 h'
    simp only [DataW.weights,hu] at hw
    obtain ⟨_,parts,h1,h2,h3⟩ := fields_rel hlen ih fs.toList 0 xs hok.1 hok.2 hm hw
    refine ⟨parts.flatten,.struct hu (by simpa using h1) (fun i f row hf hr => h2 i f row (by simpa using hf) hr),by simpa using h3⟩
   ·cases h'
  ·rename_i n e hu
   rw [hu] at h
   simp only [Bool.and_eq_true,beq_iff_eq] at hok
   have h' : (if cs.length = P.cellsOf t then ((List.range n).mapM fun i => DataW.trod enc P w 0 spare held fuel e ((cs.drop (i * P.cellsOf e)).take (P.cellsOf e))).map fun xs => ((DataW.agg (xs.map (·.1)) : DataW H),xs.flatMap (·.2)) else none) = some x := by
    split at h
    all_goals first | (rename_i heq; cases heq; exact h) | (rename_i heq; cases heq; done) | (exfalso; simp only [Option.some.injEq,reduceCtorEq] at *; done) | (simp_all; done)
   split at h'
   ·rename_i hlen
    obtain ⟨xs,hm,rfl⟩ := Option.map_eq_some_iff.1 h'
    rw [List.range_eq_range'] at hm
    simp only [DataW.weights,hu] at hw
    obtain ⟨parts,h1,h2,h3⟩ := elems_rel hok.1 ih n 0 xs (by rw [hlen,← hok.2]; congr 1; omega) hm hw
    refine ⟨parts.flatten,.array hu h1 h2,by simpa using h3⟩
   ·cases h'
  ·cases hok
end
section
variable {P : Program} {t : TypeId} {row : List PV}
theorem HasTy.int' {k : IntKind} (hu : P.underlying t = some (.int k)) (h : HasTy P t row) : ∃ n,row = [.int k n] ∧ (Lit.int k n).wf = true := by
 cases h with
 | bool h1 => rw [h1] at hu; cases hu
 | int h1 wf => rw [h1] at hu; cases hu; exact ⟨_,rfl,wf⟩
 | str h1 hs hb => rw [h1] at hu; cases hu
 | slice h1 hr hb => rw [h1] at hu; cases hu
 | struct h1 hl hp => rw [h1] at hu; cases hu
 | array h1 hl hp => rw [h1] at hu; cases hu
theorem HasTy.str' (hu : P.underlying t = some .string) (h : HasTy P t row) : ∃ s,row = [.str s] ∧ s.size ≤ maxLen := by
 cases h with
 | bool h1 => rw [h1] at hu; cases hu
 | int h1 wf => rw [h1] at hu; cases hu
 | str h1 hs hb => rw [h1] at hu; cases hu; exact ⟨_,rfl,hs⟩
 | slice h1 hr hb => rw [h1] at hu; cases hu
 | struct h1 hl hp => rw [h1] at hu; cases hu
 | array h1 hl hp => rw [h1] at hu; cases hu
theorem HasTy.sliceB {e : TypeId} (hu : P.underlying t = some (.slice e)) (h : HasTy P t row) : ∃ rows,row = [.list rows] ∧ (∀ r ∈ rows,HasTy P e r) ∧ rows.length * P.bytesOf e ≤ reachBytes := by
 cases h with
 | slice h1 hr hb => rw [h1] at hu; cases hu; exact ⟨_,rfl,hr,hb⟩
 | bool h1 => rw [h1] at hu; cases hu
 | int h1 wf => rw [h1] at hu; cases hu
 | str h1 hs hb => rw [h1] at hu; cases hu
 | struct h1 hl hp => rw [h1] at hu; cases hu
 | array h1 hl hp => rw [h1] at hu; cases hu
theorem HasTy.array' {n : Nat} {e : TypeId} (hu : P.underlying t = some (.array n e)) (h : HasTy P t row) : ∃ parts : List (List PV),row = parts.flatten ∧ parts.length = n ∧ ∀ r ∈ parts,HasTy P e r := by
 cases h with
 | bool h1 => rw [h1] at hu; cases hu
 | int h1 wf => rw [h1] at hu; cases hu
 | str h1 hs hb => rw [h1] at hu; cases hu
 | slice h1 hr hb => rw [h1] at hu; cases hu
 | struct h1 hl hp => rw [h1] at hu; cases hu
 | array h1 hl hp => rw [h1] at hu; cases hu; exact ⟨_,rfl,hl,hp⟩
theorem HasTy.struct' {ti : TI} {l : List (Nat × Nat × Nat × Bool)} (ht : tinfo P t = some ti) (hk : ti.kind = .struct l) (h : HasTy P t row) : ∃ parts : List (List PV),row = parts.flatten ∧ parts.length = l.length ∧
  ∀ (i : Nat) (x : Nat × Nat × Nat × Bool) (r : List PV),l[i]? = some x → parts[i]? = some r → HasTy P x.2.1 r := by
 obtain ⟨i,d,h1,h2,rfl⟩ := tinfo_some ht
 obtain ⟨fields,rfl,rfl,_⟩ := tkOf_struct hk
 cases h with
 | bool g => rw [g] at h2; cases h2
 | int g wf => rw [g] at h2; cases h2
 | str g hs hb => rw [g] at h2; cases h2
 | slice g hr hb => rw [g] at h2; cases h2
 | array g hl hp => rw [g] at h2; cases h2
 | struct g hl hp =>
  rw [g] at h2; cases h2
  refine ⟨_,rfl,by simpa using hl,fun i x r hx hr => ?_⟩
  rw [List.getElem?_map,Option.map_eq_some_iff] at hx
  obtain ⟨f,hf,rfl⟩ := hx
  exact hp i f r (by simpa using hf) hr
end
end Go.Pv
