import Derived.Test.YtbimioonhfhflaaDMnL
import Derived.Test.YtbimioonhfhflaaDFaO
set_option linter.unusedVariables false
set_option linter.unusedSimpArgs false
set_option maxRecDepth 100000
set_option maxHeartbeats 4000000
namespace Go.Proofs.Ytbimioonhfhflaa
open Go Go.Pv
theorem wordsR_at {N : Int} (h0 : 0 < N) (h8 : N ≤ 8) {F : List Fn} (hF : FunsOk N F) (hn : (F.map Fn.name).Nodup) {ns : List ByteArray} {vs : List Int} (hl : ns.length = vs.length) (hv : ∀ v ∈ vs,0 ≤ v ∧ v < N) {l : List Wd} {q : Int × Int} (hq : wordsR N F ns vs l (0,1) = some q) {f : Fn} (hf : f ∈ F) (har : f.ar = (l.length : Int)) : 0 ≤ q.1 ∧ q.1 < (f.tab.length : Int):=by
 have hall : ∀ w ∈ l,0 ≤ wordR N F ns vs w ∧ wordR N F ns vs w < N:=by
  intro w hw
  have h1 : ¬ wordR N F ns vs w < 0:=by
   intro g
   rw [(wordsR_none l (0,1)).2 ⟨w,hw,g⟩] at hq
   cases hq
  have:=wordR_spec h0 h8 hF hn hl hv w
  split at this
  ·exact this.2
  ·omega
 obtain ⟨t1,t2,t3,t4⟩:=tabF_zero (hF f hf)
 rw [har,Int.toNat_natCast] at t3
 have hrun:=wordsR_run h0 h8 (F:=F) (ns:=ns) (vs:=vs) l hall 0 0 (by omega) (by simp) (by omega)
 rw [Int.pow_zero] at hrun
 rw [hrun] at hq
 cases hq
 have:=plR_range h0 hall
 dsimp only
 omega
def atN (nm : ByteArray) (c : Nat) (f : Fn) : Bool:=decide (f.name = nm) && decide (f.ar = (c : Int))
def tabN (at_ : Int) (f : Option Fn) : Int:=match f with
 | some f=>f.tab.getD at_.toNat 0
 | none=>-1
def endF (F : List Fn) (nm : ByteArray) (c : Nat) (q : Option (Int × Int)) : Int:=match q with
 | none=>-1
 | some q=>tabN q.1 (F.find? (atN nm c))
def x11_L4 : XC:=.seq (.seq (.reg [⟨some 63,.move (.tmp 14),none⟩,⟨some 64,.fieldAddr 25 (.tmp 4) 1,none⟩,⟨some 65,.load 22 (.tmp 64),none⟩,⟨some 66,.call ⟨.builtin .len,#[.tmp 65],#[22]⟩,none⟩,⟨some 67,.binOp .lss 3 (.tmp 63) (.tmp 66) 3,none⟩]) (.cond (.tmp 67) .skip (.exit 4))) (.seq (.block 5 (.seq (.drawn 21 [⟨some 70,.fieldAddr 25 (.tmp 4) 1,none⟩,⟨some 71,.load 22 (.tmp 70),none⟩,⟨some 72,.move (.tmp 14),none⟩,⟨some 73,.indexAddr 22 (.tmp 71) (.tmp 72),none⟩,⟨some 74,.fieldAddr 57 (.tmp 73) 0,none⟩,⟨some 75,.load 9 (.tmp 74),none⟩,⟨some 76,.fieldAddr 31 (.tmp 5) 0,none⟩,⟨some 77,.load 9 (.tmp 76),none⟩,⟨some 78,.binOp .eql 9 (.tmp 75) (.tmp 77) 9,none⟩,⟨some 79,.move (.tmp 78),none⟩,⟨some 80,.fieldAddr 25 (.tmp 4) 1,some (some 79,true)⟩,⟨some 81,.load 22 (.tmp 80),some (some 79,true)⟩,⟨some 82,.move (.tmp 14),some (some 79,true)⟩,⟨some 83,.indexAddr 22 (.tmp 81) (.tmp 82),some (some 79,true)⟩,⟨some 84,.fieldAddr 57 (.tmp 83) 1,some (some 79,true)⟩,⟨some 85,.load 3 (.tmp 84),some (some 79,true)⟩,⟨some 86,.fieldAddr 31 (.tmp 5) 1,some (some 79,true)⟩,⟨some 87,.load 26 (.tmp 86),some (some 79,true)⟩,⟨some 88,.call ⟨.builtin .len,#[.tmp 87],#[26]⟩,some (some 79,true)⟩,⟨some 89,.binOp .eql 3 (.tmp 85) (.tmp 88) 3,some (some 79,true)⟩,⟨some 90,.pick (.tmp 79) (.tmp 89) (.const (.bool false)),none⟩]) (.cond (.tmp 90) (.seq (.reg [⟨some 91,.fieldAddr 25 (.tmp 4) 1,none⟩,⟨some 92,.load 22 (.tmp 91),none⟩,⟨some 93,.move (.tmp 14),none⟩,⟨some 94,.indexAddr 22 (.tmp 92) (.tmp 93),none⟩,⟨some 95,.fieldAddr 57 (.tmp 94) 2,none⟩,⟨some 96,.load 33 (.tmp 95),none⟩,⟨some 97,.move (.tmp 10),none⟩,⟨some 98,.indexAddr 33 (.tmp 96) (.tmp 97),none⟩,⟨some 99,.load 3 (.tmp 98),none⟩,⟨some 8,.assign (.tmp 99),none⟩]) .ret) .skip))) (.reg [⟨some 68,.move (.tmp 14),none⟩,⟨some 69,.binOp .add 3 (.tmp 68) (.const (.int .i64 1)) 3,none⟩,⟨some 14,.assign (.tmp 69),none⟩]))
def x11_T3 : XC:=.seq (.seq (.reg [⟨some 14,.assign (.const (.int .i64 0)),none⟩]) (.bloop 4 x11_L4)) (.seq (.reg [⟨some 8,.assign (.const (.int .i64 (-1))),none⟩]) .ret)
def x11_L2 : XC:=.seq (.seq (.reg [⟨some 36,.move (.tmp 12),none⟩,⟨some 37,.fieldAddr 31 (.tmp 5) 1,none⟩,⟨some 38,.load 26 (.tmp 37),none⟩,⟨some 39,.call ⟨.builtin .len,#[.tmp 38],#[26]⟩,none⟩,⟨some 40,.binOp .lss 3 (.tmp 36) (.tmp 39) 3,none⟩]) (.cond (.tmp 40) .skip (.exit 2))) (.seq (.block 3 (.seq (.drawn 13 [⟨some 43,.load 25 (.tmp 4),none⟩,⟨some 44,.fieldAddr 31 (.tmp 5) 1,none⟩,⟨some 45,.load 26 (.tmp 44),none⟩,⟨some 46,.move (.tmp 12),none⟩,⟨some 47,.indexAddr 26 (.tmp 45) (.tmp 46),none⟩,⟨some 48,.load 31 (.tmp 47),none⟩,⟨some 49,.move (.tmp 2),none⟩,⟨some 50,.move (.tmp 3),none⟩,⟨some 51,.call ⟨.value (.func 11),#[.tmp 43,.tmp 48,.tmp 49,.tmp 50],#[25,31,32,33]⟩,none⟩,⟨some 13,.assign (.tmp 51),none⟩]) (.seq (.seq (.reg [⟨some 52,.move (.tmp 13),none⟩,⟨some 53,.binOp .lss 3 (.tmp 52) (.const (.int .i64 0)) 3,none⟩]) (.cond (.tmp 53) (.seq (.reg [⟨some 8,.assign (.const (.int .i64 (-1))),none⟩]) .ret) .skip)) (.seq (.reg [⟨some 54,.move (.tmp 10),none⟩,⟨some 55,.move (.tmp 13),none⟩,⟨some 56,.move (.tmp 11),none⟩,⟨some 57,.binOp .mul 3 (.tmp 55) (.tmp 56) 3,none⟩,⟨some 58,.binOp .add 3 (.tmp 54) (.tmp 57) 3,none⟩,⟨some 10,.assign (.tmp 58),none⟩]) (.reg [⟨some 59,.move (.tmp 11),none⟩,⟨some 60,.fieldAddr 25 (.tmp 4) 0,none⟩,⟨some 61,.load 3 (.tmp 60),none⟩,⟨some 62,.binOp .mul 3 (.tmp 59) (.tmp 61) 3,none⟩,⟨some 11,.assign (.tmp 62),none⟩]))))) (.reg [⟨some 41,.move (.tmp 12),none⟩,⟨some 42,.binOp .add 3 (.tmp 41) (.const (.int .i64 1)) 3,none⟩,⟨some 12,.assign (.tmp 42),none⟩]))
def x11_T1 : XC:=.seq (.reg [⟨some 10,.assign (.const (.int .i64 0)),none⟩]) (.seq (.reg [⟨some 11,.assign (.const (.int .i64 1)),none⟩]) (.seq (.seq (.reg [⟨some 12,.assign (.const (.int .i64 0)),none⟩]) (.bloop 2 x11_L2)) (x11_T3)))
def x11_L0 : XC:=.seq (.seq (.reg [⟨some 21,.move (.tmp 9),none⟩,⟨some 22,.binOp .geq 3 (.tmp 21) (.const (.int .i64 0)) 3,none⟩]) (.cond (.tmp 22) .skip (.exit 0))) (.seq (.block 1 (.seq (.drawn 5 [⟨some 25,.move (.tmp 2),none⟩,⟨some 26,.move (.tmp 9),none⟩,⟨some 27,.indexAddr 32 (.tmp 25) (.tmp 26),none⟩,⟨some 28,.load 9 (.tmp 27),none⟩,⟨some 29,.fieldAddr 31 (.tmp 5) 0,none⟩,⟨some 30,.load 9 (.tmp 29),none⟩,⟨some 31,.binOp .eql 9 (.tmp 28) (.tmp 30) 9,none⟩]) (.cond (.tmp 31) (.seq (.reg [⟨some 32,.move (.tmp 3),none⟩,⟨some 33,.move (.tmp 9),none⟩,⟨some 34,.indexAddr 33 (.tmp 32) (.tmp 33),none⟩,⟨some 35,.load 3 (.tmp 34),none⟩,⟨some 8,.assign (.tmp 35),none⟩]) .ret) .skip))) (.reg [⟨some 23,.move (.tmp 9),none⟩,⟨some 24,.binOp .sub 3 (.tmp 23) (.const (.int .i64 1)) 3,none⟩,⟨some 9,.assign (.tmp 24),none⟩]))
def x11 : XC:=.seq (.reg [⟨some 4,.box 25 (.tmp 0),none⟩,⟨some 5,.box 31 (.tmp 1),none⟩,⟨some 8,.assign (.const (.int .i64 0)),none⟩]) (.seq (.seq (.reg [⟨some 15,.fieldAddr 31 (.tmp 5) 0,none⟩,⟨some 16,.load 9 (.tmp 15),none⟩,⟨some 17,.call ⟨.value (.func 8),#[.tmp 16],#[9]⟩,none⟩]) (.cond (.tmp 17) (.seq (.seq (.reg [⟨some 18,.move (.tmp 2),none⟩,⟨some 19,.call ⟨.builtin .len,#[.tmp 18],#[32]⟩,none⟩,⟨some 20,.binOp .sub 3 (.tmp 19) (.const (.int .i64 1)) 3,none⟩,⟨some 9,.assign (.tmp 20),none⟩]) (.bloop 0 x11_L0)) (.seq (.reg [⟨some 8,.assign (.const (.int .i64 (-1))),none⟩]) .ret)) .skip)) (x11_T1))
@[simp] theorem x11_s {C e s K} : type_of% (@X_at C e s K _ _ x11_L4.eq_1) ∧ type_of% (@X_at C e s K _ _ x11_T3.eq_1) ∧ type_of% (@X_at C e s K _ _ x11_L2.eq_1) ∧ type_of% (@X_at C e s K _ _ x11_T1.eq_1) ∧ type_of% (@X_at C e s K _ _ x11_L0.eq_1) ∧ type_of% (@X_at C e s K _ _ x11.eq_1):=⟨X_at x11_L4.eq_1,X_at x11_T3.eq_1,X_at x11_L2.eq_1,X_at x11_T1.eq_1,X_at x11_L0.eq_1,X_at x11.eq_1⟩
def an11 : Ann:=⟨[(13,.mix 8),(21,.mix 19)],[(4,[],[4,5,10,14],[8]),(2,[],[2,3,4,5,10,11,12],[4,5,8,10]),(0,[],[2,3,5,9],[8])],[]⟩
@[simp] theorem an11_a : an11.clsOf 5 = .draw ∧ an11.clsOf 13 = .mix 8 ∧ an11.clsOf 21 = .mix 19 ∧ an11.frzOf 5 = [] ∧ an11.frzOf 13 = [] ∧ an11.frzOf 21 = [] ∧ an11.loopOf 4 = ([],[4,5,10,14],[8]) ∧ an11.loopOf 2 = ([],[2,3,4,5,10,11,12],[4,5,8,10]) ∧ an11.loopOf 0 = ([],[2,3,5,9],[8]):=⟨rfl,rfl,rfl,rfl,rfl,rfl,rfl,rfl,rfl⟩
theorem fi11 : FI Try.prog 11 (cxA an11) x11 [.tmp 8] Try.f11:=fiA Try.func11 mixed
theorem WordValue_ref (n : Int) (h0 : 0 < n) (h8 : n ≤ 8) (F : List Fn) (hF : FunsOk n F) (hn : (F.map Fn.name).Nodup) (hF10 : F.length ≤ 10) (P : List Pd) (ns : List ByteArray) (vs : List Int) (hl : ns.length = vs.length) (h6 : ns.length ≤ 1000000) (hv : ∀ v ∈ vs,0 ≤ v ∧ v < n) (w : Wd) :
  CallOK Try.prog 11 [.agg [.int .i64 n,.list (F.map fnRow),.list (P.map pdRow)],.agg (wrd w),.list (ns.map strRow),.list (vs.map intRow)] [] (.int .i64 (wordR n F ns vs w)) []:=by
 induction w using Wd.ind with
 | h w ih=>
  have hnm:=IsName_ref w.nm
  rw [wordR_eq]
  cases hnb : isNameB w.nm with
  | true=>
   rw [hnb] at hnm
   rw [if_pos rfl]
   obtain ⟨R,hR⟩ : ∃ R,(lastI w.nm ns vs).getD (-1) = R:=⟨_,rfl⟩
   rw [hR]
   refine fi11.op ?_
   (refine Sg.h ?_;try repeat' ((first|(with_reducible first|refine brA ?_|refine brE fun _=>?_|refine spl ⟨?_,?_⟩<;>intro _)|refine clo hnm ?_)<;>((try simp -implicitDefEqProofs(disch:=first|assumption|(try simp only[lens]);omega -splitDisjunctions)))))
   refine W_of fun Q hQ=>?_
   have main : ∀ i,i ≤ ns.length → (lastI w.nm (ns.take i) (vs.take i)).getD (-1) = R → Q [(2,.list (ns.map strRow)),(3,.list (vs.map intRow)),(5,.ptr 0 0 0),(9,.int .i64 ((i : Int) - 1))] [.rows 2 [wrd w]]:=by
    intro i
    induction i with
    | zero=>
     intro _ hR
     rw [List.take_zero,List.take_zero,lastI] at hR
     subst hR
     apply hQ
     clear hQ
     (refine Sg.h ?_;try repeat' ((with_reducible first|refine brA ?_|refine brE fun _=>?_|refine spl ⟨?_,?_⟩<;>intro _)<;>((try simp -implicitDefEqProofs(disch:=first|assumption|(try simp only[lens]);omega -splitDisjunctions)))))
     simp
    | succ i ihi=>
     intro hi hR
     have hi1 : i < ns.length:=by omega
     have hi2 : i < vs.length:=by omega
     rw [take_snocM hi1,take_snocM hi2,lastI_snoc (by rw [List.length_take,List.length_take];omega)] at hR
     have ihi:=ihi (by omega)
     generalize hx1 : ns[i] = x at *
     generalize hx2 : vs[i] = y at *
     have e1 : ((i + 1 : Nat) : Int) - 1 = (i : Int):=by omega
     rw [e1]
     have hi0 : (0 : Int) ≤ (i : Int):=by omega
     apply hQ
     clear hQ
     by_cases hx : w.nm = x
     ·rw [if_pos hx] at hR
      subst hR
      subst hx
      (refine Sg.h ?_;try repeat' ((with_reducible first|refine brA ?_|refine brE fun _=>?_|refine spl ⟨?_,?_⟩<;>intro _)<;>((try simp -implicitDefEqProofs(disch:=first|assumption|(try simp only[lens]);omega -splitDisjunctions) [hi0,hi1,hi2,hx1,hx2]))))
     ·rw [if_neg hx] at hR
      have ihi:=ihi hR
      have hx' : ¬ x = w.nm:=fun g=>hx g.symm
      (refine Sg.h ?_;try repeat' ((with_reducible first|refine brA ?_|refine brE fun _=>?_|refine spl ⟨?_,?_⟩<;>intro _)<;>((try simp -implicitDefEqProofs(disch:=first|assumption|(try simp only[lens]);omega -splitDisjunctions) [hi0,hi1,hi2,hx1,hx2,hx,hx']))))
      all_goals first|exact ihi|(refine at2 ihi ?_ ?_<;>simp;done)|(exfalso;first|omega|(simp_all;done)|(simp_all;omega))
   refine at2 (main ns.length (Nat.le_refl _) (by rw [List.take_length,List.take_of_length_le (by omega)];exact hR)) ?_ ?_
   ·rfl
   ·rfl
  | false=>
   rw [hnb] at hnm
   rw [if_neg (by simp)]
   change CallOK _ _ _ _ (.int .i64 (endF F w.nm w.args.length (wordsR n F ns vs w.args (0,1)))) _
   obtain ⟨R,hR⟩ : ∃ R,endF F w.nm w.args.length (wordsR n F ns vs w.args (0,1)) = R:=⟨_,rfl⟩
   rw [hR]
   have hat:=fun q hq f hf=>wordsR_at h0 h8 hF hn hl hv (l:=w.args) (q:=q) hq (f:=f) hf
   refine fi11.op ?_
   (refine Sg.h ?_;try repeat' ((first|(with_reducible first|refine brA ?_|refine brE fun _=>?_|refine spl ⟨?_,?_⟩<;>intro _)|refine clo hnm ?_)<;>((try simp -implicitDefEqProofs(disch:=first|assumption|(try simp only[lens]);omega -splitDisjunctions)))))
   refine W_of fun Q hQ=>?_
   have main : ∀ k i a s,i + k = w.args.length → wordsR n F ns vs w.args (0,1) = wordsR n F ns vs (w.args.drop i) (a,s) → Q [(2,.list (ns.map strRow)),(3,.list (vs.map intRow)),(4,.ptr 0 0 0),(5,.ptr 1 0 0),(10,.int .i64 a),(11,.int .i64 s),(12,.int .i64 (i : Int))] [.rows 3 [[.int .i64 n,.list (F.map fnRow),.list (P.map pdRow)]],.rows 2 [wrd w]]:=by
    intro k
    induction k with
    | zero=>
     intro i a s hi hq
     obtain rfl : i = w.args.length:=by omega
     rw [List.drop_of_length_le (Nat.le_refl _),wordsR] at hq
     dsimp only at hq
     rw [hq] at hR
     change tabN a _ = R at hR
     have hat:=hat _ hq
     apply hQ
     clear hQ
     (refine Sg.h ?_;try repeat' ((with_reducible first|refine brA ?_|refine brE fun _=>?_|refine spl ⟨?_,?_⟩<;>intro _)<;>((try simp -implicitDefEqProofs(disch:=first|assumption|(try simp only[lens]);omega -splitDisjunctions)))))
     refine W_of fun Q hQ=>?_
     have main : ∀ k i,i + k = F.length → tabN a ((F.drop i).find? (atN w.nm w.args.length)) = R → Q [(4,.ptr 0 0 0),(5,.ptr 1 0 0),(10,.int .i64 a),(14,.int .i64 (i : Int))] [.rows 3 [[.int .i64 n,.list (F.map fnRow),.list (P.map pdRow)]],.rows 2 [wrd w]]:=by
      intro k
      induction k with
      | zero=>
       intro i hi hR
       obtain rfl : i = F.length:=by omega
       rw [List.drop_of_length_le (Nat.le_refl _)] at hR
       change -1 = R at hR
       subst hR
       apply hQ
       clear hQ
       (refine Sg.h ?_;try repeat' ((with_reducible first|refine brA ?_|refine brE fun _=>?_|refine spl ⟨?_,?_⟩<;>intro _)<;>((try simp -implicitDefEqProofs(disch:=first|assumption|(try simp only[lens]);omega -splitDisjunctions)))))
      | succ k ihk=>
       intro i hi hR
       have hil : i < F.length:=by omega
       have hat:=hat _ (List.getElem_mem hil)
       rw [List.drop_eq_getElem_cons hil,List.find?_cons] at hR
       have ihk:=ihk (i + 1) (by omega)
       have hi' : (i : Int) < (F.length : Int):=by omega
       generalize hx : F[i] = f at *
       apply hQ
       clear hQ
       by_cases h1 : f.name = w.nm
       ·by_cases h2 : f.ar = (w.args.length : Int)
        ·have hat := hat h2
         have e1 : atN w.nm w.args.length f = true:=by unfold atN;rw [decide_eq_true h1,decide_eq_true h2];rfl
         rw [e1] at hR
         dsimp only [tabN] at hR hat
         obtain ⟨p,rfl⟩ : ∃ p : Nat,a = (p : Int):=⟨a.toNat,by omega⟩
         have hpl : p < f.tab.length:=by omega
         rw [Int.toNat_natCast,List.getD_eq_getElem?_getD,List.getElem?_eq_getElem hpl,Option.getD_some] at hR
         (refine Sg.h ?_;try repeat' ((with_reducible first|refine brA ?_|refine brE fun _=>?_|refine spl ⟨?_,?_⟩<;>intro _)<;>((try simp -implicitDefEqProofs(disch:=first|assumption|(try simp only[lens]);omega -splitDisjunctions) [hi',hil,hx,h1,h2,hpl,hR]))))
        ·have e1 : atN w.nm w.args.length f = false := by unfold atN; rw [decide_eq_false h2,Bool.and_false]
         rw [e1] at hR
         have ihk:=ihk hR
         (refine Sg.h ?_;try repeat' ((with_reducible first|refine brA ?_|refine brE fun _=>?_|refine spl ⟨?_,?_⟩<;>intro _)<;>((try simp -implicitDefEqProofs(disch:=first|assumption|(try simp only[lens]);omega -splitDisjunctions) [hi',hil,hx,h1,h2]))))
         all_goals first|exact ihk|(refine at2 ihk ?_ ?_<;>simp;done)|(exfalso;first|omega|(simp_all;done)|(simp_all;omega))
       ·have e1 : atN w.nm w.args.length f = false := by unfold atN; rw [decide_eq_false h1,Bool.false_and]
        rw [e1] at hR
        have ihk:=ihk hR
        (refine Sg.h ?_;try repeat' ((with_reducible first|refine brA ?_|refine brE fun _=>?_|refine spl ⟨?_,?_⟩<;>intro _)<;>((try simp -implicitDefEqProofs(disch:=first|assumption|(try simp only[lens]);omega -splitDisjunctions) [hi',hil,hx,h1]))))
        all_goals first|exact ihk|(refine at2 ihk ?_ ?_<;>simp;done)|(exfalso;first|omega|(simp_all;done)|(simp_all;omega))
     all_goals first|exact main F.length 0 (Nat.zero_add _) hR|(refine at2 main F.length 0 (Nat.zero_add _) hR ?_ ?_<;>simp;done)|(exfalso;first|omega|(simp_all;done)|(simp_all;omega))
    | succ k ihk=>
     intro i a s hi hq
     have hil : i < w.args.length:=by omega
     rw [List.drop_eq_getElem_cons hil,wordsR] at hq
     dsimp only at hq
     have hc:=ih _ (List.getElem_mem hil)
     have ihk:=fun a s=>ihk (i + 1) a s (by omega)
     generalize hx : w.args[i] = x at *
     generalize wordR n F ns vs x = z at *
     have hi' : (i : Int) < (w.args.length : Int):=by omega
     apply hQ
     clear hQ
     by_cases hz : z < 0
     ·rw [if_pos hz] at hq
      rw [hq] at hR
      change -1 = R at hR
      subst hR
      (refine Sg.h ?_;try repeat' ((first|(with_reducible first|refine brA ?_|refine brE fun _=>?_|refine spl ⟨?_,?_⟩<;>intro _)|refine clo hc ?_)<;>((try simp -implicitDefEqProofs(disch:=first|assumption|(try simp only[lens]);omega -splitDisjunctions) [hi',hil,hx,hz]))))
     ·rw [if_neg hz] at hq
      have ihk:=ihk _ _ hq
      (refine Sg.h ?_;try repeat' ((first|(with_reducible first|refine brA ?_|refine brE fun _=>?_|refine spl ⟨?_,?_⟩<;>intro _)|refine clo hc ?_)<;>((try simp -implicitDefEqProofs(disch:=first|assumption|(try simp only[lens]);omega -splitDisjunctions) [hi',hil,hx,hz]))))
      all_goals first|exact ihk|(refine at2 ihk ?_ ?_<;>simp;done)|(exfalso;first|omega|(simp_all;done)|(simp_all;omega))
   all_goals first|exact main w.args.length 0 0 1 (Nat.zero_add _) rfl|(refine at2 main w.args.length 0 0 1 (Nat.zero_add _) rfl ?_ ?_<;>simp;done)|(exfalso;first|omega|(simp_all;done)|(simp_all;omega))
end Go.Proofs.Ytbimioonhfhflaa
