import Derived.Test.YtbdionmmfigfiaaDNtV
import Derived.Test.YtbdionmmfigfiaaDPvQg
set_option linter.unusedVariables false
set_option linter.unusedSimpArgs false
set_option maxRecDepth 100000
set_option maxHeartbeats 4000000
namespace Go.Proofs.Ytbdionmmfigfiaa
open Go Go.Pv
def x45_L4 : XC := .seq (.seq (.reg [⟨some 52,.move (.tmp 10),none⟩,⟨some 53,.move (.tmp 0),none⟩,⟨some 54,.binOp .lss 3 (.tmp 52) (.tmp 53) 3,none⟩]) (.cond (.tmp 54) .skip (.exit 4))) (.seq (.block 5 (.seq (.reg [⟨some 57,.move (.tmp 5),none⟩,⟨some 58,.move (.tmp 10),none⟩,⟨some 59,.indexAddr 67 (.tmp 57) (.tmp 58),none⟩,⟨some 60,.load 3 (.tmp 59),none⟩,⟨some 61,.move (.tmp 8),none⟩,⟨some 62,.binOp .eql 3 (.tmp 60) (.tmp 61) 3,none⟩]) (.cond (.tmp 62) (.reg [⟨some 63,.move (.tmp 5),none⟩,⟨some 64,.move (.tmp 10),none⟩,⟨some 65,.move (.tmp 9),none⟩,⟨some 66,.indexAddr 67 (.tmp 63) (.tmp 64),none⟩,⟨none,.store 3 (.tmp 66) (.tmp 65),none⟩]) .skip))) (.reg [⟨some 55,.move (.tmp 10),none⟩,⟨some 56,.binOp .add 3 (.tmp 55) (.const (.int .i64 1)) 3,none⟩,⟨some 10,.assign (.tmp 56),none⟩]))
def x45_L2 : XC := .seq (.seq (.reg [⟨some 27,.move (.tmp 7),none⟩,⟨some 28,.move (.tmp 1),none⟩,⟨some 29,.call ⟨.builtin .len,#[.tmp 28],#[25]⟩,none⟩,⟨some 30,.binOp .lss 3 (.tmp 27) (.tmp 29) 3,none⟩]) (.cond (.tmp 30) .skip (.exit 2))) (.seq (.block 3 (.seq (.reg [⟨some 33,.move (.tmp 5),none⟩,⟨some 34,.move (.tmp 1),none⟩,⟨some 35,.move (.tmp 7),none⟩,⟨some 36,.indexAddr 25 (.tmp 34) (.tmp 35),none⟩,⟨some 37,.indexAddr 33 (.tmp 36) (.const (.int .i64 0)),none⟩,⟨some 38,.load 3 (.tmp 37),none⟩,⟨some 39,.indexAddr 67 (.tmp 33) (.tmp 38),none⟩,⟨some 40,.load 3 (.tmp 39),none⟩,⟨some 8,.assign (.tmp 40),none⟩]) (.seq (.reg [⟨some 41,.move (.tmp 5),none⟩,⟨some 42,.move (.tmp 1),none⟩,⟨some 43,.move (.tmp 7),none⟩,⟨some 44,.indexAddr 25 (.tmp 42) (.tmp 43),none⟩,⟨some 45,.indexAddr 33 (.tmp 44) (.const (.int .i64 1)),none⟩,⟨some 46,.load 3 (.tmp 45),none⟩,⟨some 47,.indexAddr 67 (.tmp 41) (.tmp 46),none⟩,⟨some 48,.load 3 (.tmp 47),none⟩,⟨some 9,.assign (.tmp 48),none⟩]) (.seq (.seq (.reg [⟨some 49,.move (.tmp 8),none⟩,⟨some 50,.move (.tmp 9),none⟩,⟨some 51,.binOp .eql 3 (.tmp 49) (.tmp 50) 3,none⟩]) (.cond (.tmp 51) (.seq (.reg [⟨some 4,.assign (.const (.bool false)),none⟩]) .ret) .skip)) (.seq (.reg [⟨some 10,.assign (.const (.int .i64 0)),none⟩]) (.bloop 4 x45_L4)))))) (.reg [⟨some 31,.move (.tmp 7),none⟩,⟨some 32,.binOp .add 3 (.tmp 31) (.const (.int .i64 1)) 3,none⟩,⟨some 7,.assign (.tmp 32),none⟩]))
def x45_T1 : XC := .seq (.seq (.reg [⟨some 7,.assign (.const (.int .i64 0)),none⟩]) (.bloop 2 x45_L2)) (.seq (.reg [⟨some 4,.assign (.const (.bool true)),none⟩]) .ret)
def x45_L0 : XC := .seq (.seq (.reg [⟨some 18,.move (.tmp 6),none⟩,⟨some 19,.move (.tmp 0),none⟩,⟨some 20,.binOp .lss 3 (.tmp 18) (.tmp 19) 3,none⟩]) (.cond (.tmp 20) .skip (.exit 0))) (.seq (.block 1 (.reg [⟨some 23,.move (.tmp 5),none⟩,⟨some 24,.move (.tmp 6),none⟩,⟨some 25,.move (.tmp 6),none⟩,⟨some 26,.indexAddr 67 (.tmp 23) (.tmp 24),none⟩,⟨none,.store 3 (.tmp 26) (.tmp 25),none⟩])) (.reg [⟨some 21,.move (.tmp 6),none⟩,⟨some 22,.binOp .add 3 (.tmp 21) (.const (.int .i64 1)) 3,none⟩,⟨some 6,.assign (.tmp 22),none⟩]))
def x45 : XC := .seq (.reg [⟨some 4,.assign (.const (.bool false)),none⟩]) (.seq (.seq (.reg [⟨some 11,.move (.tmp 1),none⟩,⟨some 12,.call ⟨.builtin .len,#[.tmp 11],#[25]⟩,none⟩,⟨some 13,.move (.tmp 0),none⟩,⟨some 14,.binOp .sub 3 (.tmp 13) (.const (.int .i64 1)) 3,none⟩,⟨some 15,.binOp .neq 3 (.tmp 12) (.tmp 14) 3,none⟩]) (.cond (.tmp 15) (.seq (.reg [⟨some 4,.assign (.const (.bool false)),none⟩]) .ret) .skip)) (.seq (.reg [⟨some 16,.move (.tmp 0),none⟩,⟨some 17,.makeSlice 67 (.tmp 16) (.tmp 16),none⟩,⟨some 5,.assign (.tmp 17),none⟩]) (.seq (.seq (.reg [⟨some 6,.assign (.const (.int .i64 0)),none⟩]) (.bloop 0 x45_L0)) (x45_T1))))
@[simp] theorem x45_s {C e s K} : type_of% (@X_at C e s K _ _ x45_L4.eq_1) ∧ type_of% (@X_at C e s K _ _ x45_L2.eq_1) ∧ type_of% (@X_at C e s K _ _ x45_T1.eq_1) ∧ type_of% (@X_at C e s K _ _ x45_L0.eq_1) ∧ type_of% (@X_at C e s K _ _ x45.eq_1) := ⟨X_at x45_L4.eq_1,X_at x45_L2.eq_1,X_at x45_T1.eq_1,X_at x45_L0.eq_1,X_at x45.eq_1⟩
def an45 : Ann := ⟨[],[(4,[],[0,1,5,7,8,9,10],[0,1,5,7]),(2,[],[0,1,5,7],[4]),(0,[],[0,1,5,6],[0,1,5])],[]⟩
@[simp] theorem an45_a : an45.loopOf 4 = ([],[0,1,5,7,8,9,10],[0,1,5,7]) ∧ an45.loopOf 2 = ([],[0,1,5,7],[4]) ∧ an45.loopOf 0 = ([],[0,1,5,6],[0,1,5]) := ⟨rfl,rfl,rfl⟩
theorem fi45 : FI Try.prog 45 (cxA an45) x45 [.tmp 4] Try.f45 := fiA Try.func45 mixed
theorem isTree_ref (n : Nat) (E : List (Nat × Nat)) (hn : n ≤ 100000) (hE : ∀ e ∈ E,e.1 < n ∧ e.2 < n) : CallOK Try.prog 45 [.int .i64 (n : Int),.list ((cst E).map relRow)] [] (.bool (treeB n E)) [] := by
 refine fi45.op ?_
 unfold treeB
 have hcl : (cst E).length = E.length := by simp [cst]
 by_cases h0 : (E.length : Int) = (n : Int) - 1
 rotate_left 1
 ·rw [decide_eq_false h0,Bool.false_and]
  rw [← hcl] at h0
  generalize cst E = C at *
  (refine Sg.h ?_;try repeat' ((with_reducible first|refine brA ?_|refine brE fun _=>?_|refine spl ⟨?_,?_⟩<;>intro _)<;> ((try simp -implicitDefEqProofs [h0]); (try simp -implicitDefEqProofs(disch:=first|assumption|(try simp only[lens]);omega -splitDisjunctions) [h0]))))
 rw [decide_eq_true h0,Bool.true_and]
 have hg : ∀ i (h : i < (cst E).length), (cst E)[i] = (((E[i]'(by omega)).1 : Int), ((E[i]'(by omega)).2 : Int)) := by intro i h; simp [cst]
 obtain ⟨C,hC⟩ : ∃ C,cst E = C := ⟨_,rfl⟩
 rw [hC]
 simp only [hC] at hg hcl
 rw [← hcl] at h0
 obtain ⟨R,hR⟩ : ∃ R,treeL E (List.range n) = R := ⟨_,rfl⟩
 rw [hR]
 (refine Sg.h ?_;try repeat' ((with_reducible first|refine brA ?_|refine brE fun _=>?_|refine spl ⟨?_,?_⟩<;>intro _)<;> ((try simp -implicitDefEqProofs [h0]); (try simp -implicitDefEqProofs(disch:=first|assumption|(try simp only[lens]);omega -splitDisjunctions) [h0]))))
 refine W_of fun Q hQ => ?_
 have main : ∀ k i,i + k = n → Q [(0,.int .i64 (n : Int)),(1,.list (C.map relRow)),(5,.sl 0 0 n),(6,.int .i64 (i : Int))] [.rows 1 ((List.range i ++ List.replicate (n - i) 0).map numRow)] := by
  intro k
  induction k with
  | zero =>
   intro i hi
   obtain rfl : i = n := by omega
   rw [Nat.sub_self,List.replicate_zero,List.append_nil]
   have hrl : (List.range i).length = i := List.length_range
   have hrb : ∀ v ∈ List.range i,v < i := by simp
   apply hQ
   clear hQ
   generalize List.range i = c0 at *
   (refine Sg.h ?_;try repeat' ((with_reducible first|refine brA ?_|refine brE fun _=>?_|refine spl ⟨?_,?_⟩<;>intro _)<;> ((try simp -implicitDefEqProofs); (try simp -implicitDefEqProofs(disch:=first|assumption|(try simp only[lens]);omega -splitDisjunctions)))))
   refine W_of fun Q2 hQ2 => ?_
   have main2 : ∀ k j (c : List Nat),j + k = E.length → c.length = i → (∀ v ∈ c,v < i) → treeL (E.drop j) c = R → Q2 [(0,.int .i64 (i : Int)),(1,.list (C.map relRow)),(5,.sl 0 0 i),(7,.int .i64 (j : Int))] [.rows 1 (c.map numRow)] := by
    intro k
    induction k with
    | zero =>
     intro j c hj hc hcb hR
     rw [List.drop_of_length_le (by omega),treeL] at hR
     subst hR
     have hj' : ¬ (j : Int) < (C.length : Int) := by omega
     apply hQ2
     clear hQ2
     (refine Sg.h ?_;try repeat' ((with_reducible first|refine brA ?_|refine brE fun _=>?_|refine spl ⟨?_,?_⟩<;>intro _)<;> ((try simp -implicitDefEqProofs [hj']); (try simp -implicitDefEqProofs(disch:=first|assumption|(try simp only[lens]);omega -splitDisjunctions) [hj']))))
    | succ k ih2 =>
     intro j c hj hc hcb hR
     have hjE : j < E.length := by omega
     have hjl : j < C.length := by omega
     have hgj := hg j hjl
     rw [List.drop_eq_getElem_cons hjE,treeL] at hR
     obtain ⟨hu,hv⟩ := hE E[j] (List.getElem_mem ..)
     have ih2 := ih2 (j + 1) (stepC c E[j]) (by omega) (by rw [stepC_len]; exact hc) (stepC_lt hcb (by omega))
     have hsc : stepC c E[j] = c.map fun z => if z = c[E[j].1]! then c[E[j].2]! else z := rfl
     rw [hsc] at ih2 hR
     generalize E[j].1 = u at *
     generalize E[j].2 = v at *
     have hu' : u < c.length := by omega
     have hv' : v < c.length := by omega
     obtain ⟨a,ha⟩ : ∃ a,c[u] = a := ⟨_,rfl⟩
     obtain ⟨b,hb⟩ : ∃ b,c[v] = b := ⟨_,rfl⟩
     rw [getElem!_pos c u hu',getElem!_pos c v hv',ha,hb] at ih2 hR
     by_cases hab : a = b
     ·rw [if_pos hab] at hR
      subst hR
      have hab' : (a : Int) = (b : Int) := by omega
      clear ih2
      apply hQ2
      clear hQ2
      (refine Sg.h ?_;try repeat' ((with_reducible first|refine brA ?_|refine brE fun _=>?_|refine spl ⟨?_,?_⟩<;>intro _)<;> ((try simp -implicitDefEqProofs [hjl,hgj,hu',hv',ha,hb,hab']); (try simp -implicitDefEqProofs(disch:=first|assumption|(try simp only[lens]);omega -splitDisjunctions) [hjl,hgj,hu',hv',ha,hb,hab']))))
     ·rw [if_neg hab] at hR
      have hab' : ¬ (a : Int) = (b : Int) := by omega
      have ih2 := ih2 hR
      apply hQ2
      (refine Sg.h ?_;try repeat' ((with_reducible first|refine brA ?_|refine brE fun _=>?_|refine spl ⟨?_,?_⟩<;>intro _)<;> ((try simp -implicitDefEqProofs [hjl,hgj,hu',hv',ha,hb,hab']); (try simp -implicitDefEqProofs(disch:=first|assumption|(try simp only[lens]);omega -splitDisjunctions) [hjl,hgj,hu',hv',ha,hb,hab']))))
      refine W_of fun Q4 hQ4 => ?_
      have main4 : ∀ k x,x + k = i → Q4 [(0,.int .i64 (i : Int)),(1,.list (C.map relRow)),(5,.sl 0 0 i),(7,.int .i64 (j : Int)),(8,.int .i64 (a : Int)),(9,.int .i64 (b : Int)),(10,.int .i64 (x : Int))] [.rows 1 (((c.take x).map (fun z => if z = a then b else z) ++ c.drop x).map numRow)] := by
       intro k
       induction k with
       | zero =>
        intro x hx
        obtain rfl : x = i := by omega
        rw [List.take_of_length_le (by omega),List.drop_of_length_le (by omega),List.append_nil]
        generalize (c.map fun z => if z = a then b else z) = c2 at *
        apply hQ4
        clear hQ4
        (refine Sg.h ?_;try repeat' ((with_reducible first|refine brA ?_|refine brE fun _=>?_|refine spl ⟨?_,?_⟩<;>intro _)<;> ((try simp -implicitDefEqProofs); (try simp -implicitDefEqProofs(disch:=first|assumption|(try simp only[lens]);omega -splitDisjunctions)))))
        all_goals first | exact ih2 | (refine at2 ih2 ?_ ?_ <;> simp; done) | (exfalso; first | omega | (simp_all; done) | (simp_all; omega))
       | succ k ih4 =>
        intro x hx
        have ih4 := ih4 (x + 1) (by omega)
        have hxc : x < c.length := by omega
        have e : (c.take (x + 1)).map (fun z => if z = a then b else z) ++ c.drop (x + 1) = ((c.take x).map (fun z => if z = a then b else z) ++ c.drop x).set x (if c[x] = a then b else c[x]) := by
         rw [List.set_append_right _ _ (by rw [List.length_map,List.length_take]; omega),List.length_map,List.length_take,Nat.min_eq_left (by omega),Nat.sub_self,List.drop_eq_getElem_cons hxc,List.set_cons_zero,List.take_succ_eq_append_getElem hxc,List.map_append,List.append_assoc]
         rfl
        have hgx : ((c.take x).map (fun z => if z = a then b else z) ++ c.drop x)[x]? = some c[x] := by
         rw [List.getElem?_append_right (by rw [List.length_map,List.length_take]; omega),List.length_map,List.length_take,Nat.min_eq_left (by omega),Nat.sub_self,List.getElem?_drop,Nat.add_zero,List.getElem?_eq_getElem hxc]
        have hDl : ((c.take x).map (fun z => if z = a then b else z) ++ c.drop x).length = i := by simp; omega
        rw [e] at ih4
        generalize (c.take x).map (fun z => if z = a then b else z) ++ c.drop x = D at *
        have hxD : x < D.length := by omega
        rw [List.getElem?_eq_getElem hxD] at hgx
        have hgx : D[x] = c[x] := Option.some.inj hgx
        generalize c[x] = z at *
        have hxi : (x : Int) < (i : Int) := by omega
        by_cases hz : z = a
        ·rw [if_pos hz] at ih4
         have hz' : (z : Int) = (a : Int) := by omega
         apply hQ4
         clear hQ4
         (refine Sg.h ?_;try repeat' ((with_reducible first|refine brA ?_|refine brE fun _=>?_|refine spl ⟨?_,?_⟩<;>intro _)<;> ((try simp -implicitDefEqProofs [hxi,hxD,hgx,hz']); (try simp -implicitDefEqProofs(disch:=first|assumption|(try simp only[lens]);omega -splitDisjunctions) [hxi,hxD,hgx,hz']))))
         all_goals first | exact ih4 | (refine at2 ih4 ?_ ?_ <;> simp [numRow]; done) | (exfalso; first | omega | (simp_all; done) | (simp_all; omega))
        ·rw [if_neg hz,← hgx,List.set_getElem_self] at ih4
         have hz' : ¬ (z : Int) = (a : Int) := by omega
         apply hQ4
         clear hQ4
         (refine Sg.h ?_;try repeat' ((with_reducible first|refine brA ?_|refine brE fun _=>?_|refine spl ⟨?_,?_⟩<;>intro _)<;> ((try simp -implicitDefEqProofs [hxi,hxD,hgx,hz']); (try simp -implicitDefEqProofs(disch:=first|assumption|(try simp only[lens]);omega -splitDisjunctions) [hxi,hxD,hgx,hz']))))
         all_goals first | exact ih4 | (refine at2 ih4 ?_ ?_ <;> simp; done) | (exfalso; first | omega | (simp_all; done) | (simp_all; omega))
      refine at2 (main4 i 0 (Nat.zero_add _)) ?_ ?_
      ·rfl
      ·simp
   all_goals first | exact main2 E.length 0 c0 (Nat.zero_add _) hrl hrb hR | (refine at2 main2 E.length 0 c0 (Nat.zero_add _) hrl hrb hR ?_ ?_ <;> simp; done) | (exfalso; first | omega | (simp_all; done) | (simp_all; omega))
  | succ k ih =>
   intro i hi
   have ih := ih (i + 1) (by omega)
   have e : List.range (i + 1) ++ List.replicate (n - (i + 1)) 0 = (List.range i ++ List.replicate (n - i) 0).set i i := by
    rw [List.set_append_right _ _ (by simp),List.length_range,Nat.sub_self,show n - i = (n - (i + 1)) + 1 by omega,List.replicate_succ,List.set_cons_zero,List.range_succ,List.append_assoc]
    rfl
   have hDl : (List.range i ++ List.replicate (n - i) 0).length = n := by simp; omega
   rw [e] at ih
   generalize List.range i ++ List.replicate (n - i) 0 = D at *
   have hxi : (i : Int) < (n : Int) := by omega
   have hxD : i < D.length := by omega
   apply hQ
   clear hQ
   (refine Sg.h ?_;try repeat' ((with_reducible first|refine brA ?_|refine brE fun _=>?_|refine spl ⟨?_,?_⟩<;>intro _)<;> ((try simp -implicitDefEqProofs [hxi,hxD]); (try simp -implicitDefEqProofs(disch:=first|assumption|(try simp only[lens]);omega -splitDisjunctions) [hxi,hxD]))))
   all_goals first | exact ih | (refine at2 ih ?_ ?_ <;> simp [numRow]; done) | (exfalso; first | omega | (simp_all; done) | (simp_all; omega))
 refine at2 (main n 0 (Nat.zero_add _)) ?_ ?_
 ·rfl
 ·simp [numRow]
end Go.Proofs.Ytbdionmmfigfiaa
namespace Go.Pv
open Go
theorem RetView.moved {m : Nat} {v v' : PV} {s1 s2 : Store} (ρ : List Nat) (hm : ∀ i,i < m → ρ[i]? = some i) (hlen : s2.length = ρ.length)
  (hinj : ∀ i j k : Nat,ρ[i]? = some k → ρ[j]? = some k → s2[i]? ≠ some PObj.dead → s2[j]? ≠ some PObj.dead → i = j)
  (hobj : ∀ (i : Nat) (o' : PObj),s2[i]? = some o' → ∃ j o,ρ[i]? = some j ∧ s1[j]? = some o ∧ RenObj ρ o' o) (hv : Ren ρ v' v) : RetView m v s1 v' s2 := by
 intro C pub' σ' w' cv hC hs hr
 have halive : ∀ i li,Alive s2 (σ'.ren ρ) i li → ∃ j,ρ[i]? = some j ∧ Alive s1 σ' j li := by
  rintro i li ⟨o',h1,h2,h3,h4⟩
  obtain ⟨j,o,h5,h6,h7⟩ := hobj i o' h1
  refine ⟨j,h5,o,h6,?_,by simpa [Sig.ren,h5] using h3,h4⟩
  rintro rfl; cases h7; exact h2 rfl
 refine ⟨pub',σ'.ren ρ,?_,hv.rel hr⟩
 exact {
  pubIn := hs.pubIn
  obj := fun i o' hi => by
   obtain ⟨j,o,h1,h2,h3⟩ := hobj i o' hi
   exact h3.ok h1 (hs.obj j o h2)
  inj := fun i j li lj hi hj eb => by
   obtain ⟨i',h1,h2⟩ := halive i li hi
   obtain ⟨j',h3,h4⟩ := halive j lj hj
   have := hs.inj i' j' li lj h2 h4 eb
   subst this
   obtain ⟨oi,gi1,gi2,_⟩ := hi
   obtain ⟨oj,gj1,gj2,_⟩ := hj
   exact hinj i j i' h1 h3 (fun e => gi2 (Option.some.inj (gi1.symm.trans e))) (fun e => gj2 (Option.some.inj (gj1.symm.trans e)))
  sig := fun i hi => by simp [Sig.ren,List.getElem?_eq_none (show ρ.length ≤ i by omega)]
  os := hs.os,tape := hs.tape,output := hs.output,size := hs.size
  frame := hs.frame
  own := fun i li hi => by obtain ⟨j,_,h2⟩ := halive i li hi; exact hs.own j li h2
  ple := hs.ple
  sle := fun i l hl => by
   have him : i < m := by
    rcases Nat.lt_or_ge i m with h | h
    ·exact h
    ·rw [hC i h] at hl; cases hl
   simp [Sig.ren,hm i him,hs.sle i l hl] }
theorem CallOK.moved {P : Program} {f : FuncId} {args : List PV} {v v' : PV} {s s1 s2 : Store} (h : CallOK P f args s v s1) (ρ : List Nat) (hm : ∀ i,i < s.length → ρ[i]? = some i) (hlen : s2.length = ρ.length)
  (hinj : ∀ i j k : Nat,ρ[i]? = some k → ρ[j]? = some k → s2[i]? ≠ some PObj.dead → s2[j]? ≠ some PObj.dead → i = j)
  (hobj : ∀ (i : Nat) (o' : PObj),s2[i]? = some o' → ∃ j o,ρ[i]? = some j ∧ s1[j]? = some o ∧ RenObj ρ o' o) (hv : Ren ρ v' v) : CallOK P f args s v' s2 := by
 intro pub σ w cargs hb ha
 refine (h pub σ w cargs hb ha).mono ?_
 rintro e w' ⟨cv,pub',σ',rfl,hs,hr⟩
 obtain ⟨p,t,h1,h2⟩ := RetView.moved ρ hm hlen hinj hobj hv ⟨w,pub,σ,dom s σ⟩ pub' σ' w' cv (fun i hi => hb.sig i hi) hs hr
 exact ⟨cv,p,t,rfl,h1,h2⟩
theorem RenObj.flat {ρ : List Nat} {z : Nat} {rs : List (List PV)} (h : ∀ row ∈ rs,∀ x ∈ row,flatV x = true) : RenObj ρ (.rows z rs) (.rows z rs) :=
 .same fun row hr x hx => by
  have := h row hr x hx
  cases x <;> first | (cases this; done) | constructor
theorem RenObj.flatm {α : Type} {g : α → List PV} [FlatRow g] {ρ : List Nat} {z : Nat} (l : List α) : RenObj ρ (.rows z (l.map g)) (.rows z (l.map g)) :=
 .flat fun row hr x hx => by
  obtain ⟨a,_,rfl⟩ := List.mem_map.1 hr
  exact List.all_eq_true.1 (FlatRow.flat a) x hx
theorem RenObj.less {α : Type} {g : α → List PV} [FlatRow g] {ρ : List Nat} {z : Nat} (l : List α) (J : List (List PV)) : RenObj ρ (.rows z (l.map g)) (.rows z (l.map g ++ J)) := by
 refine .rows (by simp) fun r row row' h1 h2 => ?_
 have hr := lt_of_getElem? h1
 rw [List.getElem?_append_left hr,h1] at h2
 cases h2
 refine ⟨rfl,fun k x y h3 h4 => ?_⟩
 rw [h3] at h4
 cases h4
 obtain ⟨a,_,rfl⟩ := List.mem_map.1 (List.mem_of_getElem? h1)
 have := List.all_eq_true.1 (FlatRow.flat (g := g) a) x (List.mem_of_getElem? h3)
 cases x <;> first | (cases this; done) | constructor
end Go.Pv
