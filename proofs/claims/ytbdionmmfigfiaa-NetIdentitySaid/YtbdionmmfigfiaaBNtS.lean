import Derived.Test.YtbdionmmfigfiaaBNtR
set_option linter.unusedVariables false
set_option linter.unusedSimpArgs false
set_option maxRecDepth 100000
set_option maxHeartbeats 4000000
namespace Go.Proofs.Ytbdionmmfigfiaa
open Go Go.Pv
structure HoldN (p : Prop) : Prop where
 h : p
theorem joinN {K g : Prop} (h : HoldN K → g) (k : K) : g := h ⟨k⟩
theorem flat_cor (b : Bool) (c d : Int) : Flat (.tuple [.bool b,.agg [.int .i64 c,.int .i64 d]]) := flat_tuple fun v hv => by
 simp only [List.mem_cons,List.not_mem_nil,or_false] at hv
 rcases hv with rfl | rfl
 ·exact flat_bool _
 ·exact flat_agg fun v hv => by
   simp only [List.mem_cons,List.not_mem_nil,or_false] at hv
   rcases hv with rfl | rfl <;> exact flat_int _ _
def x3_T2 : XC := .seq (.reg [⟨some 72,.move (.tmp 1),none⟩,⟨some 73,.move (.tmp 2),none⟩,⟨some 74,.call ⟨.value (.func 13),#[.tmp 72,.tmp 73],#[22,25]⟩,none⟩,⟨some 71,.move (.tmp 74),none⟩,⟨some 75,.extract (.tmp 71) 0,none⟩,⟨some 76,.extract (.tmp 71) 1,none⟩,⟨some 13,.alloc 29,none⟩,⟨some 12,.assign (.tmp 75),none⟩,⟨none,.store 29 (.tmp 13) (.tmp 76),none⟩]) (.seq (.seq (.reg [⟨some 77,.fieldAddr 29 (.tmp 13) 0,none⟩,⟨some 78,.load 3 (.tmp 77),none⟩,⟨some 79,.binOp .neq 3 (.tmp 78) (.const (.int .i64 0)) 3,none⟩,⟨some 80,.move (.tmp 79),none⟩,⟨some 81,.move (.tmp 1),some (some 80,false)⟩,⟨some 82,.call ⟨.builtin .len,#[.tmp 81],#[22]⟩,some (some 80,false)⟩,⟨some 83,.binOp .lss 3 (.tmp 82) (.const (.int .i64 2)) 3,some (some 80,false)⟩,⟨some 84,.pick (.tmp 80) (.const (.bool true)) (.tmp 83),none⟩,⟨some 85,.move (.tmp 84),none⟩,⟨some 86,.move (.tmp 1),some (some 85,false)⟩,⟨some 87,.call ⟨.value (.func 11),#[.tmp 86,.const (.int .i64 201)],#[22,3]⟩,some (some 85,false)⟩,⟨some 88,.call ⟨.builtin .len,#[.tmp 87],#[22]⟩,some (some 85,false)⟩,⟨some 89,.binOp .gtr 3 (.tmp 88) (.const (.int .i64 199)) 3,some (some 85,false)⟩,⟨some 90,.pick (.tmp 85) (.const (.bool true)) (.tmp 89),none⟩]) (.cond (.tmp 90) (.seq (.reg [⟨some 6,.assign (.const (.bool true)),none⟩]) .ret) .skip)) (.seq (.reg [⟨some 91,.move (.tmp 1),none⟩,⟨some 92,.call ⟨.builtin .len,#[.tmp 91],#[22]⟩,none⟩,⟨some 93,.binOp .sub 3 (.tmp 92) (.const (.int .i64 2)) 3,none⟩,⟨some 14,.assign (.tmp 93),none⟩]) (.seq (.drawn 19 [⟨some 94,.move (.tmp 1),none⟩,⟨some 95,.move (.tmp 14),none⟩,⟨some 96,.slice 22 (.tmp 94) none (some (.tmp 95)) none,none⟩,⟨some 97,.call ⟨.builtin .append,#[.const (.slice none 0 0),.tmp 96],#[22,22]⟩,none⟩,⟨some 98,.move (.tmp 1),none⟩,⟨some 99,.move (.tmp 14),none⟩,⟨some 100,.indexAddr 22 (.tmp 98) (.tmp 99),none⟩,⟨some 101,.load 24 (.tmp 100),none⟩,⟨some 102,.move (.tmp 1),none⟩,⟨some 103,.move (.tmp 14),none⟩,⟨some 104,.binOp .add 3 (.tmp 103) (.const (.int .i64 1)) 3,none⟩,⟨some 105,.indexAddr 22 (.tmp 102) (.tmp 104),none⟩,⟨some 106,.load 24 (.tmp 105),none⟩,⟨some 107,.buildSlice 22 2 #[(0,.tmp 101),(1,.tmp 106)],none⟩,⟨some 108,.build 24 #[(0,.const (.int .i64 3)),(3,.tmp 107)],none⟩,⟨some 109,.buildSlice 22 1 #[(0,.tmp 108)],none⟩,⟨some 110,.call ⟨.builtin .append,#[.tmp 97,.tmp 109],#[22,22]⟩,none⟩,⟨some 15,.assign (.tmp 110),none⟩]) (.seq (.reg [⟨some 112,.move (.tmp 15),none⟩,⟨some 113,.move (.tmp 2),none⟩,⟨some 114,.call ⟨.value (.func 13),#[.tmp 112,.tmp 113],#[22,25]⟩,none⟩,⟨some 111,.move (.tmp 114),none⟩,⟨some 115,.extract (.tmp 111) 0,none⟩,⟨some 116,.extract (.tmp 111) 1,none⟩,⟨some 16,.assign (.tmp 115),none⟩,⟨none,.store 29 (.tmp 13) (.tmp 116),none⟩]) (.seq (.reg [⟨some 117,.fieldAddr 29 (.tmp 13) 0,none⟩,⟨some 118,.load 3 (.tmp 117),none⟩,⟨some 119,.binOp .eql 3 (.tmp 118) (.const (.int .i64 0)) 3,none⟩,⟨some 120,.move (.tmp 119),none⟩,⟨some 121,.move (.tmp 16),some (some 120,true)⟩,⟨some 122,.move (.tmp 12),some (some 120,true)⟩,⟨some 123,.binOp .eql 4 (.tmp 121) (.tmp 122) 4,some (some 120,true)⟩,⟨some 124,.pick (.tmp 120) (.tmp 123) (.const (.bool false)),none⟩,⟨some 6,.assign (.tmp 124),none⟩]) .ret)))))
def x3_T1 : XC := .seq (.drawn 12 [⟨some 56,.load 24 (.tmp 3),none⟩,⟨some 57,.load 24 (.tmp 3),none⟩,⟨some 58,.call ⟨.value (.func 14),#[.tmp 57],#[24]⟩,none⟩,⟨some 59,.buildSlice 22 2 #[(0,.tmp 56),(1,.tmp 58)],none⟩,⟨some 60,.move (.tmp 8),none⟩,⟨some 61,.call ⟨.value (.func 13),#[.tmp 59,.tmp 60],#[22,25]⟩,none⟩,⟨some 55,.move (.tmp 61),none⟩,⟨some 62,.extract (.tmp 55) 0,none⟩,⟨some 63,.extract (.tmp 55) 1,none⟩,⟨some 11,.alloc 29,none⟩,⟨some 10,.assign (.tmp 62),none⟩,⟨none,.store 29 (.tmp 11) (.tmp 63),none⟩]) (.seq (.reg [⟨some 64,.fieldAddr 29 (.tmp 11) 0,none⟩,⟨some 65,.load 3 (.tmp 64),none⟩,⟨some 66,.binOp .neq 3 (.tmp 65) (.const (.int .i64 0)) 3,none⟩,⟨some 67,.move (.tmp 66),none⟩,⟨some 68,.move (.tmp 10),some (some 67,false)⟩,⟨some 69,.unOp .not 4 (.tmp 68),some (some 67,false)⟩,⟨some 70,.pick (.tmp 67) (.const (.bool true)) (.tmp 69),none⟩]) (.cond (.tmp 70) (.seq (.reg [⟨some 6,.assign (.const (.bool false)),none⟩]) .ret) .skip))
def x3_L0 : XC := .seq (.seq (.reg [⟨some 42,.move (.tmp 9),none⟩,⟨some 43,.move (.tmp 7),none⟩,⟨some 44,.binOp .lss 3 (.tmp 42) (.tmp 43) 3,none⟩]) (.cond (.tmp 44) .skip (.exit 0))) (.seq (.block 1 (.reg [⟨some 47,.move (.tmp 8),none⟩,⟨some 48,.move (.tmp 9),none⟩,⟨some 49,.move (.tmp 7),none⟩,⟨some 50,.move (.tmp 9),none⟩,⟨some 51,.binOp .add 3 (.tmp 49) (.tmp 50) 3,none⟩,⟨some 52,.build 33 #[(0,.tmp 48),(1,.tmp 51)],none⟩,⟨some 53,.buildSlice 25 1 #[(0,.tmp 52)],none⟩,⟨some 54,.call ⟨.builtin .append,#[.tmp 47,.tmp 53],#[25,25]⟩,none⟩,⟨some 8,.assign (.tmp 54),none⟩])) (.reg [⟨some 45,.move (.tmp 9),none⟩,⟨some 46,.binOp .add 3 (.tmp 45) (.const (.int .i64 1)) 3,none⟩,⟨some 9,.assign (.tmp 46),none⟩]))
def x3 : XC := .seq (.reg [⟨some 3,.box 24 (.tmp 0),none⟩,⟨some 6,.assign (.const (.bool false)),none⟩]) (.seq (.seq (.reg [⟨some 17,.call ⟨.value (.func 8),#[],#[]⟩,none⟩,⟨some 18,.unOp .not 4 (.tmp 17),none⟩]) (.cond (.tmp 18) (.seq (.reg [⟨some 6,.assign (.const (.bool false)),none⟩]) .ret) .skip)) (.seq (.seq (.reg [⟨some 19,.load 24 (.tmp 3),none⟩,⟨some 20,.buildSlice 22 1 #[(0,.tmp 19)],none⟩,⟨some 21,.call ⟨.value (.func 9),#[.tmp 20,.const (.int .i64 0)],#[22,3]⟩,none⟩,⟨some 22,.move (.tmp 21),none⟩,⟨some 23,.move (.tmp 1),some (some 22,false)⟩,⟨some 24,.call ⟨.value (.func 9),#[.tmp 23,.const (.int .i64 0)],#[22,3]⟩,some (some 22,false)⟩,⟨some 25,.pick (.tmp 22) (.const (.bool true)) (.tmp 24),none⟩]) (.cond (.tmp 25) (.seq (.reg [⟨some 6,.assign (.const (.bool true)),none⟩]) .ret) .skip)) (.seq (.seq (.reg [⟨some 26,.load 24 (.tmp 3),none⟩,⟨some 27,.buildSlice 22 1 #[(0,.tmp 26)],none⟩,⟨some 28,.call ⟨.value (.func 10),#[.tmp 27],#[22]⟩,none⟩,⟨some 29,.field 29 (.tmp 28) 0,none⟩,⟨some 30,.binOp .eql 3 (.tmp 29) (.const (.int .i64 0)) 3,none⟩,⟨some 31,.move (.tmp 30),none⟩,⟨some 32,.load 24 (.tmp 3),some (some 31,true)⟩,⟨some 33,.buildSlice 22 1 #[(0,.tmp 32)],some (some 31,true)⟩,⟨some 34,.call ⟨.value (.func 11),#[.tmp 33,.const (.int .i64 201)],#[22,3]⟩,some (some 31,true)⟩,⟨some 35,.call ⟨.builtin .len,#[.tmp 34],#[22]⟩,some (some 31,true)⟩,⟨some 36,.binOp .leq 3 (.tmp 35) (.const (.int .i64 100)) 3,some (some 31,true)⟩,⟨some 37,.pick (.tmp 31) (.tmp 36) (.const (.bool false)),none⟩]) (.cond (.tmp 37) (.seq (.reg [⟨some 38,.load 24 (.tmp 3),none⟩,⟨some 39,.buildSlice 22 1 #[(0,.tmp 38)],none⟩,⟨some 40,.call ⟨.value (.func 12),#[.tmp 39],#[22]⟩,none⟩,⟨some 41,.call ⟨.builtin .len,#[.tmp 40],#[22]⟩,none⟩,⟨some 7,.assign (.tmp 41),none⟩]) (.seq (.reg [⟨some 8,.assign (.const (.slice none 0 0)),none⟩]) (.seq (.seq (.reg [⟨some 9,.assign (.const (.int .i64 0)),none⟩]) (.bloop 0 x3_L0)) (x3_T1)))) .skip)) (x3_T2))))
@[simp] theorem x3_s {C e s K} : type_of% (@X_at C e s K _ _ x3_T2.eq_1) ∧ type_of% (@X_at C e s K _ _ x3_T1.eq_1) ∧ type_of% (@X_at C e s K _ _ x3_L0.eq_1) ∧ type_of% (@X_at C e s K _ _ x3.eq_1) := ⟨X_at x3_T2.eq_1,X_at x3_T1.eq_1,X_at x3_L0.eq_1,X_at x3.eq_1⟩
def an3 : Ann := ⟨[(12,.mixz 11),(19,.mixz 16)],[(0,[(8,none,2)],[1,2,3,7,8,9],[1,2,3,8])],[]⟩
@[simp] theorem an3_a : an3.clsOf 12 = .mixz 11 ∧ an3.clsOf 19 = .mixz 16 ∧ an3.frzOf 12 = [] ∧ an3.frzOf 19 = [] ∧ an3.loopOf 0 = ([(8,none,2)],[1,2,3,7,8,9],[1,2,3,8]) := ⟨rfl,rfl,rfl,rfl,rfl⟩
theorem fi3 : FI Try.prog 3 (cxA an3) x3 [.tmp 6] Try.f3 := fiA Try.func3 mixed
theorem netIdentity_law (x : Ln) (l : List Ln) (ax : List (Int × Int)) : CallOK Try.prog 3 [.agg (lnr x),.list (l.map lnr),.list (ax.map relRow)] [] (.bool true) [] := by
 have hbg := netBegun_law
 have vx := VastLinear_ref [x] 0 (by decide) (by decide)
 have vl := VastLinear_ref l 0 (by decide) (by decide)
 have hlf := LinearFault_ref [x]
 have hli := Linears_ref [x] 201 (by decide) (by decide)
 have hlv := Leaves_ref [x]
 simp only [List.map_cons,List.map_nil] at vx hlf hli hlv
 refine fi3.op ?_
 generalize vaLs [x] 0 = v1 at *
 generalize vaLs l 0 = v2 at *
 cases v1 with
 | true => (refine Sg.h ?_;try repeat' ((first | (with_reducible first|refine brA ?_|refine brE fun _=>?_|refine spl ⟨?_,?_⟩<;>intro _) | refine clo hbg ?_ | (refine CL.see (vx) ?_ ?_ ?_; (focus (first | (simp; done) | (simp [scn]; done))); (focus (simp [flats]; done))) | (refine CD.see (vx) ?_ ?_ ?_; (focus (first | (simp; done) | (simp [scn]; done))); (focus (simp [flats]; done)))) <;> ((try simp -implicitDefEqProofs); (try simp -implicitDefEqProofs(disch:=first|assumption|(try simp only[lens]);omega -splitDisjunctions)))))
 | false =>
 cases v2 with
 | true => (refine Sg.h ?_;try repeat' ((first | (with_reducible first|refine brA ?_|refine brE fun _=>?_|refine spl ⟨?_,?_⟩<;>intro _) | refine clo hbg ?_ | (refine CL.see (vx) ?_ ?_ ?_; (focus (first | (simp; done) | (simp [scn]; done))); (focus (simp [flats]; done))) | (refine CD.see (vx) ?_ ?_ ?_; (focus (first | (simp; done) | (simp [scn]; done))); (focus (simp [flats]; done))) | refine clo vl ?_) <;> ((try simp -implicitDefEqProofs); (try simp -implicitDefEqProofs(disch:=first|assumption|(try simp only[lens]);omega -splitDisjunctions)))))
 | false =>
 refine joinN (K := ?K) ?_ ?_
 rotate_left 1
 ·intro key
  by_cases h0 : (lnFault [x]).1 = 0
  ·obtain ⟨ts,e,ht,hn1,hn2,hsz⟩ := trees_of h0
   obtain ⟨t,rfl⟩ : ∃ t,ts = [t] := by
    have := congrArg List.length e
    rw [List.length_map] at this
    match ts,this with
    | [t],_ => exact ⟨t,rfl⟩
   obtain rfl : x = lnOf t := by simpa using e
   have ht := ht t (by simp)
   have hsz : szT t ≤ 200 := by simpa [szTs] using hsz
   have hnd : ndLs [lnOf t] = ndL (lnOf t) := by simp [ndLs]
   have hl1 := (ndL_lt t).1
   have hl2 := (ndL_lt t).2
   have hv : lvR [lnOf t] = atT t := by
    unfold lvR
    rw [hnd,List.take_of_length_le (by omega),hl2]
   rw [hnd,List.take_of_length_le (by rw [hl1]; exact Nat.le_trans hsz (by decide))] at hli
   rw [hv] at hlv
   rw [h0] at hlf
   clear hnd e hn1 hn2 h0 hl2 hv
   have hal : (atT t).length ≤ 200 := by
    have := lfT_len t 0
    rw [lnT_lf,List.length_map,atT_len] at this
    omega
   by_cases h1 : szT t ≤ 100
   ·have hd := Dual_ref t
    have hco := Correct_ok [t,dlT t] (strL (atT t).length (atT t).length) (by simp [ht,dlT_ok t ht]) (by simp) (by simp) (by simp [szTs,dlT_sz]; omega) (by simp [strL,atTs]) (str_lk t)
    rw [corB_iff.2 (str_cor t)] at hco
    simp only [List.map_cons,List.map_nil] at hco
    generalize ndL (lnOf t) = N at *
    generalize lnOf t = X at *
    generalize lnOf (dlT t) = Y at *
    obtain ⟨n,hn⟩ : ∃ n,(atT t).length = n := ⟨_,rfl⟩
    rw [hn] at hco hal
    generalize atT t = A at *
    clear ht
    have h100 : (N.length : Int) ≤ 100 := by omega
    (refine Sg.h ?_;try repeat' ((first | (with_reducible first|refine brA ?_|refine brE fun _=>?_|refine spl ⟨?_,?_⟩<;>intro _) | refine clo hbg ?_ | (refine CL.see (vx) ?_ ?_ ?_; (focus (first | (simp; done) | (simp [scn]; done))); (focus (simp [flats]; done))) | (refine CD.see (vx) ?_ ?_ ?_; (focus (first | (simp; done) | (simp [scn]; done))); (focus (simp [flats]; done))) | refine clo vl ?_) <;> ((try simp -implicitDefEqProofs); (try simp -implicitDefEqProofs(disch:=first|assumption|(try simp only[lens]);omega -splitDisjunctions)))))
    all_goals refine CL.giv [2] ?_
    all_goals ((refine Sg.h ?_;try repeat' ((first | (with_reducible first|refine brA ?_|refine brE fun _=>?_|refine spl ⟨?_,?_⟩<;>intro _) | refine clo hlf ?_) <;> ((try simp -implicitDefEqProofs); (try simp -implicitDefEqProofs(disch:=first|assumption|(try simp only[lens]);omega -splitDisjunctions))))))
    all_goals refine CL.giv [3] ?_
    all_goals ((refine Sg.h ?_;try repeat' ((first | (with_reducible first|refine brA ?_|refine brE fun _=>?_|refine spl ⟨?_,?_⟩<;>intro _) | refine clo hli ?_) <;> ((try simp -implicitDefEqProofs [h100]); (try simp -implicitDefEqProofs(disch:=first|assumption|(try simp only[lens]);omega -splitDisjunctions) [h100])))))
    all_goals refine CL.giv [4] ?_
    all_goals ((refine Sg.h ?_;try repeat' ((first | (with_reducible first|refine brA ?_|refine brE fun _=>?_|refine spl ⟨?_,?_⟩<;>intro _) | refine clo hlv ?_) <;> ((try simp -implicitDefEqProofs [hn]); (try simp -implicitDefEqProofs(disch:=first|assumption|(try simp only[lens]);omega -splitDisjunctions) [hn])))))
    refine W_of fun Q hQ => ?_
    have main : ∀ k i,i + k = n → Q [(1,.list (l.map lnr)),(2,.list (ax.map relRow)),(3,.ptr 0 0 0),(7,.int .i64 (n : Int)),(8,.sl 1 0 i),(9,.int .i64 (i : Int))] [.rows 4 [lnr X],.rows 2 ((cst (strL n i)).map relRow)] := by
     intro k
     induction k with
     | zero =>
      intro i hi
      obtain rfl : i = n := by omega
      have hcl : (cst (strL i i)).length = i := by simp [cst,strL]
      generalize cst (strL i i) = C at *
      have htk : List.take i (C.map relRow) = C.map relRow := List.take_of_length_le (by simp; omega)
      apply hQ
      clear hQ
      (refine Sg.h ?_;try repeat' ((first | (with_reducible first|refine brA ?_|refine brE fun _=>?_|refine spl ⟨?_,?_⟩<;>intro _) | refine clo hd ?_) <;> ((try simp -implicitDefEqProofs [hcl]); (try simp -implicitDefEqProofs(disch:=first|assumption|(try simp only[lens]);omega -splitDisjunctions) [hcl]))))
      all_goals refine CM.see hco (fun t => by simp [hcl]; exact htk) (flat_cor _ _ _) ?_
      all_goals ((refine Sg.h ?_;try repeat' ((with_reducible first|refine brA ?_|refine brE fun _=>?_|refine spl ⟨?_,?_⟩<;>intro _)<;> ((try simp -implicitDefEqProofs [hcl]); (try simp -implicitDefEqProofs(disch:=first|assumption|(try simp only[lens]);omega -splitDisjunctions) [hcl])))))
      all_goals refine CL.gc [] [] [1,2,72,73] ?_
      all_goals ((refine Sg.h ?_;try repeat' ((with_reducible first|refine brA ?_|refine brE fun _=>?_|refine spl ⟨?_,?_⟩<;>intro _)<;> ((try simp -implicitDefEqProofs); (try simp -implicitDefEqProofs(disch:=first|assumption|(try simp only[lens]);omega -splitDisjunctions))))))
      all_goals exact key.h
     | succ k ih =>
      intro i hi
      have ih := ih (i + 1) (by omega)
      rw [strL_succ] at ih
      have e : cst (strL n i ++ [(i,n + i)]) = cst (strL n i) ++ [((i : Int),(n : Int) + (i : Int))] := by simp [cst]
      rw [e] at ih
      have hcl : (cst (strL n i)).length = i := by simp [cst,strL]
      generalize cst (strL n i) = C at *
      have h3 : (i : Int) < (n : Int) := by omega
      apply hQ
      clear hQ
      have htk : List.take i (C.map relRow) = C.map relRow := List.take_of_length_le (by simp; omega)
      (refine Sg.h ?_;try repeat' ((with_reducible first|refine brA ?_|refine brE fun _=>?_|refine spl ⟨?_,?_⟩<;>intro _)<;> ((try simp -implicitDefEqProofs [h3]); (try simp -implicitDefEqProofs(disch:=first|assumption|(try simp only[lens]);omega -splitDisjunctions) [h3]))))
      all_goals first | exact ih | (refine at2 ih ?_ ?_ <;> simp [relRow_eq,htk]; done) | (exfalso; first | omega | (simp_all; done) | (simp_all; omega))
    refine at2 (main n 0 (Nat.zero_add _)) ?_ ?_
    ·rfl
    ·rfl
   ·have h100 : ¬ (szT t : Int) ≤ 100 := by omega
    rw [← hl1] at h100
    generalize ndL (lnOf t) = N at *
    generalize lnOf t = X at *
    (refine Sg.h ?_;try repeat' ((first | (with_reducible first|refine brA ?_|refine brE fun _=>?_|refine spl ⟨?_,?_⟩<;>intro _) | refine clo hbg ?_ | (refine CL.see (vx) ?_ ?_ ?_; (focus (first | (simp; done) | (simp [scn]; done))); (focus (simp [flats]; done))) | (refine CD.see (vx) ?_ ?_ ?_; (focus (first | (simp; done) | (simp [scn]; done))); (focus (simp [flats]; done))) | refine clo vl ?_) <;> ((try simp -implicitDefEqProofs); (try simp -implicitDefEqProofs(disch:=first|assumption|(try simp only[lens]);omega -splitDisjunctions)))))
    all_goals refine CL.giv [2] ?_
    all_goals ((refine Sg.h ?_;try repeat' ((first | (with_reducible first|refine brA ?_|refine brE fun _=>?_|refine spl ⟨?_,?_⟩<;>intro _) | refine clo hlf ?_) <;> ((try simp -implicitDefEqProofs); (try simp -implicitDefEqProofs(disch:=first|assumption|(try simp only[lens]);omega -splitDisjunctions))))))
    all_goals refine CL.giv [3] ?_
    all_goals ((refine Sg.h ?_;try repeat' ((first | (with_reducible first|refine brA ?_|refine brE fun _=>?_|refine spl ⟨?_,?_⟩<;>intro _) | refine clo hli ?_) <;> ((try simp -implicitDefEqProofs [h100]); (try simp -implicitDefEqProofs(disch:=first|assumption|(try simp only[lens]);omega -splitDisjunctions) [h100])))))
    all_goals refine CL.gc [] [] [1,2,72,73] ?_
    all_goals ((refine Sg.h ?_;try repeat' ((with_reducible first|refine brA ?_|refine brE fun _=>?_|refine spl ⟨?_,?_⟩<;>intro _)<;> ((try simp -implicitDefEqProofs); (try simp -implicitDefEqProofs(disch:=first|assumption|(try simp only[lens]);omega -splitDisjunctions))))))
    all_goals exact key.h
  ·(refine Sg.h ?_;try repeat' ((first | (with_reducible first|refine brA ?_|refine brE fun _=>?_|refine spl ⟨?_,?_⟩<;>intro _) | refine clo hbg ?_ | (refine CL.see (vx) ?_ ?_ ?_; (focus (first | (simp; done) | (simp [scn]; done))); (focus (simp [flats]; done))) | (refine CD.see (vx) ?_ ?_ ?_; (focus (first | (simp; done) | (simp [scn]; done))); (focus (simp [flats]; done))) | refine clo vl ?_) <;> ((try simp -implicitDefEqProofs); (try simp -implicitDefEqProofs(disch:=first|assumption|(try simp only[lens]);omega -splitDisjunctions)))))
   all_goals refine CL.giv [2] ?_
   all_goals ((refine Sg.h ?_;try repeat' ((first | (with_reducible first|refine brA ?_|refine brE fun _=>?_|refine spl ⟨?_,?_⟩<;>intro _) | refine clo hlf ?_) <;> ((try simp -implicitDefEqProofs [h0]); (try simp -implicitDefEqProofs(disch:=first|assumption|(try simp only[lens]);omega -splitDisjunctions) [h0])))))
   all_goals refine CL.gc [] [] [1,2,72,73] ?_
   all_goals ((refine Sg.h ?_;try repeat' ((with_reducible first|refine brA ?_|refine brE fun _=>?_|refine spl ⟨?_,?_⟩<;>intro _)<;> ((try simp -implicitDefEqProofs); (try simp -implicitDefEqProofs(disch:=first|assumption|(try simp only[lens]);omega -splitDisjunctions))))))
   all_goals exact key.h
 clear hlf hli hlv vx vl hbg
 have hli := Linears_ref l 201 (by decide) (by decide)
 rw [show ((201 : Int) + 1).toNat = 202 from rfl] at hli
 by_cases hc : (lkF l ax).1 = 0
 ·obtain ⟨ts,an,rfl,rfl,g1,g2,g3,g4,g5,g6⟩ := net_of hc
  clear hc
  have c1 := Correct_ok ts an g1 g2 g3 g4 g5 g6
  have hnl := (ndLs_lt ts).1
  rw [List.take_of_length_le (by rw [hnl]; omega)] at hli
  generalize ndLs (ts.map lnOf) = N at *
  by_cases h2 : ts.length < 2
  ·have h2' : ((ts.map lnOf).length : Int) < 2 := by rw [List.length_map]; omega
   generalize ts.map lnOf = L at *
   (refine Sg.h ?_;try repeat' ((first | (with_reducible first|refine brA ?_|refine brE fun _=>?_|refine spl ⟨?_,?_⟩<;>intro _) | refine clo c1 ?_) <;> ((try simp -implicitDefEqProofs [h2']); (try simp -implicitDefEqProofs(disch:=first|assumption|(try simp only[lens]);omega -splitDisjunctions) [h2']))))
  have h2' : ¬ (ts.length : Int) < 2 := by omega
  by_cases h3 : 199 < N.length
  ·have h3' : (199 : Int) < (N.length : Int) := by omega
   have h2' : ¬ ((ts.map lnOf).length : Int) < 2 := by rw [List.length_map]; omega
   generalize ts.map lnOf = L at *
   (refine Sg.h ?_;try repeat' ((first | (with_reducible first|refine brA ?_|refine brE fun _=>?_|refine spl ⟨?_,?_⟩<;>intro _) | refine clo c1 ?_ | refine clo hli ?_) <;> ((try simp -implicitDefEqProofs [h2',h3']); (try simp -implicitDefEqProofs(disch:=first|assumption|(try simp only[lens]);omega -splitDisjunctions) [h2',h3']))))
  have h3' : ¬ (199 : Int) < (N.length : Int) := by omega
  obtain ⟨p,x1,y1,rfl⟩ : ∃ p x1 y1,ts = p ++ [x1,y1] := by
   refine ⟨ts.take (ts.length - 2), ts[ts.length - 2]'(by omega), ts[ts.length - 1]'(by omega), ?_⟩
   apply List.ext_getElem
   ·simp; omega
   ·intro i q1 q2
    by_cases hi : i < ts.length - 2
    ·rw [List.getElem_append_left (by simp; omega),List.getElem_take]
    ·rw [List.getElem_append_right (by simp; omega)]
     have hmin : (ts.take (ts.length - 2)).length = ts.length - 2 := by simp
     by_cases hi2 : i = ts.length - 2
     ·subst hi2; simp
     ·obtain rfl : i = ts.length - 1 := by omega
      simp only [hmin,show ts.length - 1 - (ts.length - 2) = 1 by omega]
      rfl
  have hs2 : szTs (p ++ [.op true x1 y1]) = szTs (p ++ [x1,y1]) + 1 := by rw [szTs_app,szTs_app]; simp [szTs,szT]; omega
  have hat : atTs (p ++ [.op true x1 y1]) = atTs (p ++ [x1,y1]) := by rw [atTs_app,atTs_app]; simp [atTs,atT]
  have c2 := Correct_ok (p ++ [.op true x1 y1]) an (by
   intro t ht
   rcases List.mem_append.1 ht with ht | ht
   ·exact g1 t (by simp [ht])
   ·rw [List.mem_singleton] at ht
    subst ht
    exact ⟨g1 x1 (by simp),g1 y1 (by simp)⟩) (by simp) (by simp at g3 ⊢; omega) (by omega) (by rw [hat]; exact g5) (by rw [hat]; exact g6)
  have hcor : corB (p ++ [.op true x1 y1]) an = corB (p ++ [x1,y1]) an := by
   rw [Bool.eq_iff_iff,corB_iff,corB_iff]
   exact par_cor p x1 y1 an (lk_in g6)
  rw [hcor] at c2
  have e2 : (p ++ [Lt.op true x1 y1]).map lnOf = p.map lnOf ++ [.mk 3 ⟨#[]⟩ false [lnOf x1,lnOf y1]] := by simp [lnOf]
  have e1 : (p ++ [x1,y1]).map lnOf = p.map lnOf ++ [lnOf x1,lnOf y1] := by simp
  rw [e2] at c2
  obtain ⟨k,hk⟩ : ∃ k,p.length = k := ⟨_,rfl⟩
  have hpl : k ≤ 18 := by simp at g3; omega
  have hPl : (p.map lnOf).length = k := by rw [List.length_map]; exact hk
  obtain ⟨L,hL⟩ : ∃ L,(p ++ [x1,y1]).map lnOf = L := ⟨_,rfl⟩
  rw [hL] at c1 hli ⊢
  rw [e1] at hL
  generalize corB (p ++ [x1,y1]) an = b at *
  generalize p.map lnOf = P at *
  generalize lnOf x1 = X at *
  generalize lnOf y1 = Y at *
  generalize cst an = A at *
  have hLl : L.length = k + 2 := by rw [← hL,List.length_append,hPl]; rfl
  have hk0 : k < L.length := by omega
  have hk1 : k + 1 < L.length := by omega
  have hg0 : L[k] = X := by subst hL; rw [List.getElem_append_right (by omega)]; simp [hPl]
  have hg1 : L[k + 1] = Y := by subst hL; rw [List.getElem_append_right (by omega)]; simp [hPl]
  have htk : L.take k = P := by rw [← hL,← hPl,List.take_left]
  have hrow : (P ++ [Ln.mk 3 ⟨#[]⟩ false [X,Y]]).map lnr = P.map lnr ++ [[.int .i64 3,.str ⟨#[]⟩,.bool false,.list [lnr X,lnr Y]]] := by
   rw [List.map_append,List.map_singleton,lnr_eq (Ln.mk 3 ⟨#[]⟩ false [X,Y])]; rfl
  rw [hrow] at c2
  have htm : List.take k (L.map lnr) = P.map lnr := by rw [← List.map_take,htk]
  have hkk : ((k : Int) + 2 - 2) = k := by omega
  have h2' : ¬ ((k : Int) + 2 < 2) := by omega
  have hPl : (P.map lnr).length = k := by rw [List.length_map]; exact hPl
  clear hcor g1 g2 g3 g4 g5 g6 hs2 hat e1 e2 hnl h2 h3 hL hrow htk hk
  (refine Sg.h ?_;try repeat' ((first | (with_reducible first|refine brA ?_|refine brE fun _=>?_|refine spl ⟨?_,?_⟩<;>intro _) | refine clo c1 ?_ | refine clo hli ?_) <;> ((try simp -implicitDefEqProofs [h2',h3',hLl,hkk,hk0,hk1,hg0,hg1,htm]); (try simp -implicitDefEqProofs(disch:=first|assumption|(try simp only[lens]);omega -splitDisjunctions) [h2',h3',hLl,hkk,hk0,hk1,hg0,hg1,htm]))))
  all_goals refine CL.giv [2] ?_
  have ht2 : List.take (P.length + 1) (P.map lnr ++ [[PV.int .i64 3,.str ⟨#[]⟩,.bool false,.list [lnr X,lnr Y]]]) = P.map lnr ++ [[.int .i64 3,.str ⟨#[]⟩,.bool false,.list [lnr X,lnr Y]]] := List.take_of_length_le (by simp)
  all_goals ((refine Sg.h ?_;try repeat' ((with_reducible first|refine brA ?_|refine brE fun _=>?_|refine spl ⟨?_,?_⟩<;>intro _)<;> ((try simp -implicitDefEqProofs); (try simp -implicitDefEqProofs(disch:=first|assumption|(try simp only[lens]);omega -splitDisjunctions))))))
  all_goals (try simp only [ht2])
  all_goals (cases b <;> ((refine Sg.h ?_;try repeat' ((first | (with_reducible first|refine brA ?_|refine brE fun _=>?_|refine spl ⟨?_,?_⟩<;>intro _) | refine clo c2 ?_) <;> ((try simp -implicitDefEqProofs); (try simp -implicitDefEqProofs(disch:=first|assumption|(try simp only[lens]);omega -splitDisjunctions)))))))
 ·have c1 := Correct_bad l ax hc
  generalize (lkF l ax).1 = c at *
  generalize (lkF l ax).2 = a at *
  (refine Sg.h ?_;try repeat' ((first | (with_reducible first|refine brA ?_|refine brE fun _=>?_|refine spl ⟨?_,?_⟩<;>intro _) | refine clo c1 ?_) <;> ((try simp -implicitDefEqProofs [hc]); (try simp -implicitDefEqProofs(disch:=first|assumption|(try simp only[lens]);omega -splitDisjunctions) [hc]))))
end Go.Proofs.Ytbdionmmfigfiaa
