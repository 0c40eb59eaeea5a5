import Derived.Test.YtlcplnafkeklaaaAMnL
set_option linter.unusedVariables false
set_option linter.unusedSimpArgs false
set_option maxRecDepth 100000
set_option maxHeartbeats 4000000
namespace Go.Proofs.Ytlcplnafkeklaaa
open Go Go.Pv
def x62_L0 : XC := .seq (.reg [⟨some 9,.binOp .lss 3 (.tmp 8) (.tmp 7) 3,none⟩]) (.seq (.cond (.tmp 9) .skip (.exit 0)) (.seq (.block 1 (.seq (.reg [⟨some 10,.move (.tmp 8),none⟩,⟨some 5,.assign (.tmp 10),none⟩]) (.seq (.reg [⟨some 11,.move (.tmp 1),none⟩,⟨some 12,.move (.tmp 0),none⟩,⟨some 13,.move (.tmp 5),none⟩,⟨some 14,.indexAddr 30 (.tmp 12) (.tmp 13),none⟩,⟨some 15,.load 9 (.tmp 14),none⟩,⟨some 16,.binOp .eql 9 (.tmp 11) (.tmp 15) 9,none⟩]) (.cond (.tmp 16) (.seq (.reg [⟨some 17,.move (.tmp 5),none⟩,⟨some 4,.assign (.tmp 17),none⟩]) .ret) .skip)))) (.reg [⟨some 18,.binOp .add 3 (.tmp 8) (.const (.int .i64 1)) 3,none⟩,⟨some 8,.move (.tmp 18),none⟩])))
def x62 : XC := .seq (.reg [⟨some 4,.assign (.const (.int .i64 0)),none⟩]) (.seq (.seq (.reg [⟨some 6,.move (.tmp 0),none⟩,⟨some 7,.call ⟨.builtin .len,#[.tmp 6],#[30]⟩,none⟩,⟨some 8,.move (.const (.int .i64 0)),none⟩]) (.bloop 0 x62_L0)) (.seq (.reg [⟨some 4,.assign (.const (.int .i64 (-1))),none⟩]) .ret))
@[simp] theorem x62_s {C e s K} : type_of% (@X_at C e s K _ _ x62_L0.eq_1) ∧ type_of% (@X_at C e s K _ _ x62.eq_1) := ⟨X_at x62_L0.eq_1,X_at x62.eq_1⟩
def an62 : Ann := ⟨[],[(0,[],[0,1,7,8],[4])],[]⟩
@[simp] theorem an62_a : an62.loopOf 0 = ([],[0,1,7,8],[4]) := rfl
theorem fi62 : FI Try.prog 62 (cxA an62) x62 [.tmp 4] Try.f62 := fiA Try.func62 mixed
theorem Index_strs (l : List ByteArray) (hl : l.length ≤ 1000000) (x : ByteArray) : CallOK Try.prog 62 [.list (l.map strRow),.str x] [] (.int .i64 (indexQ (fun y => decide (x = y)) l)) [] := by
 refine fi62.op ?_
 (refine Sg.h ?_;try repeat' ((with_reducible first|refine brA ?_|refine brE fun _=>?_|refine spl ⟨?_,?_⟩<;>intro _)<;> ((try simp -implicitDefEqProofs); (try simp -implicitDefEqProofs(disch:=first|assumption|(try simp only[lens]);omega -splitDisjunctions)))))
 refine W_of fun Q hQ => ?_
 have main : ∀ n i,i + n = l.length → (∀ j (hj : j < i) (hl : j < l.length),decide (x = l[j]) = false) → Q [(0,.list (l.map strRow)),(1,.str x),(7,.int .i64 (l.length : Int)),(8,.int .i64 (i : Int))] [] := by
  intro n
  induction n with
  | zero =>
   intro i hi hb
   have hv := indexQ_none (p := fun y => decide (x = y)) (l := l) fun j hj => hb j (by omega) hj
   generalize indexQ (fun y => decide (x = y)) l = v at *
   apply hQ
   subst hv
   (refine Sg.h ?_;try repeat' ((with_reducible first|refine brA ?_|refine brE fun _=>?_|refine spl ⟨?_,?_⟩<;>intro _)<;> ((try simp -implicitDefEqProofs); (try simp -implicitDefEqProofs(disch:=first|assumption|(try simp only[lens]);omega -splitDisjunctions)))))
  | succ n ih =>
   intro i hi hb
   have hil : i < l.length := by omega
   have ih := ih (i + 1) (by omega)
   have hat := fun hp => indexQ_at (p := fun y => decide (x = y)) hil hp fun j hj => hb j hj (by omega)
   generalize indexQ (fun y => decide (x = y)) l = v at *
   by_cases hp : x = l[i]
   ·have hv := hat (decide_eq_true hp)
    apply hQ
    clear hQ
    subst hv
    generalize hy : l[i] = y at *
    (refine Sg.h ?_;try repeat' ((with_reducible first|refine brA ?_|refine brE fun _=>?_|refine spl ⟨?_,?_⟩<;>intro _)<;> ((try simp -implicitDefEqProofs [hil,hy,hp]); (try simp -implicitDefEqProofs(disch:=first|assumption|(try simp only[lens]);omega -splitDisjunctions) [hil,hy,hp]))))
   ·have ih := ih fun j hj hl => by
     rcases Nat.lt_or_ge j i with hji | hji
     ·exact hb j hji hl
     ·have : j = i := by omega
      subst this; exact decide_eq_false hp
    clear hat
    generalize hy : l[i] = y at *
    apply hQ
    clear hQ
    (refine Sg.h ?_;try repeat' ((with_reducible first|refine brA ?_|refine brE fun _=>?_|refine spl ⟨?_,?_⟩<;>intro _)<;> ((try simp -implicitDefEqProofs [hil,hy,hp]); (try simp -implicitDefEqProofs(disch:=first|assumption|(try simp only[lens]);omega -splitDisjunctions) [hil,hy,hp]))))
    all_goals first | exact ih | (refine at2 ih ?_ ?_ <;> simp; done) | (exfalso; first | omega | (simp_all; done) | (simp_all; omega))
 all_goals first | exact main _ 0 (Nat.zero_add _) (fun j hj => by omega) | (refine at2 main _ 0 (Nat.zero_add _) (fun j hj => by omega) ?_ ?_ <;> simp; done) | (exfalso; first | omega | (simp_all; done) | (simp_all; omega))
def x50 : XC := .seq (.reg [⟨some 4,.assign (.const (.bool false)),none⟩]) (.seq (.reg [⟨some 5,.move (.tmp 0),none⟩,⟨some 6,.move (.tmp 1),none⟩,⟨some 7,.call ⟨.value (.func 62),#[.tmp 5,.tmp 6],#[30,9]⟩,none⟩,⟨some 8,.binOp .geq 3 (.tmp 7) (.const (.int .i64 0)) 3,none⟩,⟨some 4,.assign (.tmp 8),none⟩]) .ret)
@[simp] theorem x50_s {C e s K} : type_of% (@X_at C e s K _ _ x50.eq_1) := X_at x50.eq_1
def an50 : Ann := ⟨[],[],[]⟩
theorem fi50 : FI Try.prog 50 (cxA an50) x50 [.tmp 4] Try.f50 := fiA Try.func50 mixed
theorem Contains_strs (l : List ByteArray) (hl : l.length ≤ 1000000) (x : ByteArray) : CallOK Try.prog 50 [.list (l.map strRow),.str x] [] (.bool (l.any fun y => decide (x = y))) [] := by
 have hc := Index_strs l hl x
 have hany : (0 ≤ indexQ (fun y => decide (x = y)) l) ↔ l.any (fun y => decide (x = y)) = true := indexQ_any
 refine fi50.op ?_
 generalize indexQ (fun y => decide (x = y)) l = q at *
 cases hb : l.any fun y => decide (x = y) with
 | true =>
  have h0 : 0 ≤ q := hany.2 hb
  (refine Sg.h ?_;try repeat' ((first | (with_reducible first|refine brA ?_|refine brE fun _=>?_|refine spl ⟨?_,?_⟩<;>intro _) | refine clo hc ?_) <;> ((try simp -implicitDefEqProofs [h0]); (try simp -implicitDefEqProofs(disch:=first|assumption|(try simp only[lens]);omega -splitDisjunctions) [h0]))))
 | false =>
  have h0 : ¬ 0 ≤ q := fun g => by rw [hany.1 g] at hb; cases hb
  (refine Sg.h ?_;try repeat' ((first | (with_reducible first|refine brA ?_|refine brE fun _=>?_|refine spl ⟨?_,?_⟩<;>intro _) | refine clo hc ?_) <;> ((try simp -implicitDefEqProofs [h0]); (try simp -implicitDefEqProofs(disch:=first|assumption|(try simp only[lens]);omega -splitDisjunctions) [h0]))))
def x52 : XC := .seq (.reg [⟨some 2,.assign (.const (.slice none 0 0)),none⟩]) (.seq (.reg [⟨some 3,.move (.tmp 0),none⟩,⟨some 4,.move (.tmp 0),none⟩,⟨some 5,.call ⟨.builtin .len,#[.tmp 4],#[30]⟩,none⟩,⟨some 6,.move (.tmp 0),none⟩,⟨some 7,.call ⟨.builtin .len,#[.tmp 6],#[30]⟩,none⟩,⟨some 8,.slice 30 (.tmp 3) none (some (.tmp 5)) (some (.tmp 7)),none⟩,⟨some 2,.assign (.tmp 8),none⟩]) .ret)
@[simp] theorem x52_s {C e s K} : type_of% (@X_at C e s K _ _ x52.eq_1) := X_at x52.eq_1
def an52 : Ann := ⟨[],[],[]⟩
theorem fi52 : FI Try.prog 52 (cxA an52) x52 [.tmp 2] Try.f52 := fiA Try.func52 mixed
theorem Clip_strs (l : List ByteArray) (hl : l.length ≤ 1000000) : CallOK Try.prog 52 [.list (l.map strRow)] [] (.clip 1 (l.map strRow)) [] := by
 refine fi52.op ?_
 (refine Sg.h ?_;try repeat' ((with_reducible first|refine brA ?_|refine brE fun _=>?_|refine spl ⟨?_,?_⟩<;>intro _)<;> ((try simp -implicitDefEqProofs); (try simp -implicitDefEqProofs(disch:=first|assumption|(try simp only[lens]);omega -splitDisjunctions)))))
def stK (N : Int) (F : List Fn) (P : List Pd) (L : Ev) (b : Bool) : Store := [.rows 1 [[.imap (mapI L)]],.rows 1 [[.bool b]],.rows 1 [[.iptr [.int .i64 N,.imap (funM F),.imap (predM P)]]],.rows 1 [[.fn (.func 49) [] [.ptr 0 0 0,.ptr 1 0 0,.ptr 2 0 0,.ptr 3 0 0]]]]
attribute [simp] stK
@[simp] theorem rg4 : List.range 4 = [0,1,2,3] := rfl
section
variable {C : WC} {f : Operand} {args : Array Operand} {d : Option Tmp} {fid : FuncId} {vs : List PV} {e : AE} {rest : Store} {N : Int} {F : List Fn} {P : List Pd} {L : Ev} {b b' : Bool} {K : KS} {ops : List LOp}
theorem liveK : liveS [0,1,2,3] (stK N F P L b ++ rest) [0,1,2,3] = stK N F P L b := by simp [liveS]
theorem cl_kn [EnT C.P fid] {v : PV} (hc : CallOK C.P fid vs (stK N F P L b) v (stK N F P L b')) (hk : O C .pl ops (updA e d (upN [0,1,2,3] 4 v)) (backS [0,1,2,3] (stK N F P L b ++ rest) (stK N F P L b')) K) (hv : vs.map (renN [0,1,2,3] 4) = vs := by simp) : CL C f args d (some (fid,vs)) ops e (stK N F P L b ++ rest) K := by
 refine CL.sub [0,1,2,3] (s2 := stK N F P L b') (v := v) (by rw [hv,liveK]; exact hc) ?_
 exact hk
end
def x49_L0 : XC := .seq (.reg [⟨some 60,.binOp .lss 3 (.tmp 59) (.tmp 58) 3,none⟩]) (.seq (.cond (.tmp 60) .skip (.exit 0)) (.seq (.block 1 (.seq (.reg [⟨some 61,.indexAddr 26 (.tmp 57) (.tmp 59),none⟩,⟨some 62,.load 68 (.tmp 61),none⟩,⟨some 13,.alloc 68,none⟩,⟨none,.store 68 (.tmp 13) (.tmp 62),none⟩]) (.reg [⟨some 63,.load 86 (.tmp 5),none⟩,⟨some 64,.load 68 (.tmp 13),none⟩,⟨some 65,.move (.tmp 1),none⟩,⟨some 66,.call ⟨.value (.tmp 63),#[.tmp 64,.tmp 65],#[68,30]⟩,none⟩]))) (.reg [⟨some 67,.binOp .add 3 (.tmp 59) (.const (.int .i64 1)) 3,none⟩,⟨some 59,.move (.tmp 67),none⟩])))
def x49 : XC := .seq (.reg [⟨some 6,.box 68 (.tmp 0),none⟩]) (.seq (.seq (.reg [⟨some 14,.fieldAddr 68 (.tmp 6) 0,none⟩,⟨some 15,.load 9 (.tmp 14),none⟩,⟨some 16,.call ⟨.value (.func 30),#[.tmp 15],#[9]⟩,none⟩]) (.cond (.tmp 16) (.seq (.reg [⟨some 18,.load 63 (.tmp 2),none⟩,⟨some 19,.fieldAddr 68 (.tmp 6) 0,none⟩,⟨some 20,.load 9 (.tmp 19),none⟩,⟨some 21,.lookup 63 (.tmp 18) (.tmp 20) true,none⟩,⟨some 17,.move (.tmp 21),none⟩,⟨some 22,.extract (.tmp 17) 0,none⟩,⟨some 23,.extract (.tmp 17) 1,none⟩,⟨some 8,.assign (.tmp 22),none⟩,⟨some 9,.assign (.tmp 23),none⟩]) (.seq (.reg [⟨some 24,.load 4 (.tmp 3),none⟩,⟨some 25,.move (.tmp 24),none⟩,⟨some 26,.move (.tmp 9),some (some 25,true)⟩,⟨some 27,.move (.tmp 26),some (some 25,true)⟩,⟨some 28,.move (.tmp 1),some (some 27,false)⟩,⟨some 29,.fieldAddr 68 (.tmp 6) 0,some (some 27,false)⟩,⟨some 30,.load 9 (.tmp 29),some (some 27,false)⟩,⟨some 31,.call ⟨.value (.func 50),#[.tmp 28,.tmp 30],#[30,9]⟩,some (some 27,false)⟩,⟨some 32,.pick (.tmp 27) (.const (.bool true)) (.tmp 31),some (some 25,true)⟩,⟨some 33,.pick (.tmp 25) (.tmp 32) (.const (.bool false)),none⟩,⟨none,.store 4 (.tmp 3) (.tmp 33),none⟩]) .ret)) .skip)) (.seq (.drawn 4 [⟨some 35,.load 64 (.tmp 4),none⟩,⟨some 36,.nilCheck (.tmp 35),none⟩,⟨some 37,.fieldAddr 85 (.tmp 36) 1,none⟩,⟨some 38,.load 82 (.tmp 37),none⟩,⟨some 39,.fieldAddr 68 (.tmp 6) 0,none⟩,⟨some 40,.load 9 (.tmp 39),none⟩,⟨some 41,.lookup 82 (.tmp 38) (.tmp 40) true,none⟩,⟨some 34,.move (.tmp 41),none⟩,⟨some 42,.extract (.tmp 34) 0,none⟩,⟨some 43,.extract (.tmp 34) 1,none⟩,⟨some 10,.alloc 52,none⟩,⟨none,.store 52 (.tmp 10) (.tmp 42),none⟩,⟨some 11,.assign (.tmp 43),none⟩]) (.seq (.reg [⟨some 44,.load 4 (.tmp 3),none⟩,⟨some 45,.move (.tmp 44),none⟩,⟨some 46,.move (.tmp 11),some (some 45,true)⟩,⟨some 47,.pick (.tmp 45) (.tmp 46) (.const (.bool false)),none⟩,⟨some 48,.move (.tmp 47),none⟩,⟨some 49,.fieldAddr 52 (.tmp 10) 1,some (some 48,true)⟩,⟨some 50,.load 3 (.tmp 49),some (some 48,true)⟩,⟨some 51,.fieldAddr 68 (.tmp 6) 1,some (some 48,true)⟩,⟨some 52,.load 26 (.tmp 51),some (some 48,true)⟩,⟨some 53,.call ⟨.builtin .len,#[.tmp 52],#[26]⟩,some (some 48,true)⟩,⟨some 54,.binOp .eql 3 (.tmp 50) (.tmp 53) 3,some (some 48,true)⟩,⟨some 55,.pick (.tmp 48) (.tmp 54) (.const (.bool false)),none⟩,⟨none,.store 4 (.tmp 3) (.tmp 55),none⟩]) (.seq (.reg [⟨some 56,.fieldAddr 68 (.tmp 6) 1,none⟩,⟨some 57,.load 26 (.tmp 56),none⟩,⟨some 58,.call ⟨.builtin .len,#[.tmp 57],#[26]⟩,none⟩,⟨some 59,.move (.const (.int .i64 0)),none⟩]) (.bloop 0 x49_L0)))))
@[simp] theorem x49_s {C e s K} : type_of% (@X_at C e s K _ _ x49_L0.eq_1) ∧ type_of% (@X_at C e s K _ _ x49.eq_1) := ⟨X_at x49_L0.eq_1,X_at x49.eq_1⟩
def an49 : Ann := ⟨[(4,.mix3 11 9)],[(0,[],[1,5,57,58,59],[])],[]⟩
@[simp] theorem an49_a : an49.clsOf 4 = .mix3 11 9 ∧ an49.frzOf 4 = [] ∧ an49.loopOf 0 = ([],[1,5,57,58,59],[]) := ⟨rfl,rfl,rfl⟩
theorem fi49 : FI Try.prog 49 (cxA an49) x49 [] Try.f49 := fiA Try.func49 mixed
theorem known1_world (N : Int) (F : List Fn) (P : List Pd) (L : Ev) (B : List ByteArray) (hB : B.length ≤ 1000000) (w : Wd) : ∀ b : Bool,CallOK Try.prog 49 [.agg (wrd w),.list (B.map strRow),.ptr 0 0 0,.ptr 1 0 0,.ptr 2 0 0,.ptr 3 0 0] (stK N F P L b) (.tuple []) (stK N F P L (b && kwF F L B w)) := by
 induction w using Wd.ind with
 | h w ih =>
  intro b
  have hnm := isName_formula w.nm []
  have hco := Contains_strs B hB w.nm
  rw [kwF_eq]
  cases hn : isNameB w.nm with
  | true =>
   rw [hn] at hnm
   rw [if_pos rfl]
   generalize (B.any fun y => decide (w.nm = y)) = c at *
   obtain ⟨f1,f2⟩ := findP_int w.nm L 0
   refine fi49.og ?_
   cases hl : lookI w.nm L with
   | none =>
    have f1 := f1 hl
    cases b with
    | true => (refine Sg.h ?_;try repeat' ((first | (with_reducible first|refine brA ?_|refine brE fun _=>?_|refine spl ⟨?_,?_⟩<;>intro _) | refine clo hnm ?_ | refine clo hco ?_) <;> ((try simp -implicitDefEqProofs [f1]); (try simp -implicitDefEqProofs(disch:=first|assumption|(try simp only[lens]);omega -splitDisjunctions) [f1]))))
    | false => (refine Sg.h ?_;try repeat' ((first | (with_reducible first|refine brA ?_|refine brE fun _=>?_|refine spl ⟨?_,?_⟩<;>intro _) | refine clo hnm ?_ | refine clo hco ?_) <;> ((try simp -implicitDefEqProofs [f1]); (try simp -implicitDefEqProofs(disch:=first|assumption|(try simp only[lens]);omega -splitDisjunctions) [f1]))))
   | some m =>
    obtain ⟨j,f3,f4⟩ := f2 m hl
    cases b with
    | true => (refine Sg.h ?_;try repeat' ((first | (with_reducible first|refine brA ?_|refine brE fun _=>?_|refine spl ⟨?_,?_⟩<;>intro _) | refine clo hnm ?_ | refine clo hco ?_) <;> ((try simp -implicitDefEqProofs [f3]); (try simp -implicitDefEqProofs(disch:=first|assumption|(try simp only[lens]);omega -splitDisjunctions) [f3]))))
    | false => (refine Sg.h ?_;try repeat' ((first | (with_reducible first|refine brA ?_|refine brE fun _=>?_|refine spl ⟨?_,?_⟩<;>intro _) | refine clo hnm ?_ | refine clo hco ?_) <;> ((try simp -implicitDefEqProofs [f3]); (try simp -implicitDefEqProofs(disch:=first|assumption|(try simp only[lens]);omega -splitDisjunctions) [f3]))))
  | false =>
   rw [hn] at hnm
   rw [if_neg (by simp)]
   -- the words inside
   have key : ∀ b1 R,(b1 && kwsF F L B w.args) = R → w.args.length ≤ maxLen → W (cxA an49 Try.prog 4) 0 x49_L0 (KS.fin [] (gcFin 4 (PV.tuple []) (stK N F P L R))) [(1,.list (B.map strRow)),(5,.ptr 3 0 0),(57,.list (w.args.map wrd)),(58,.int .i64 (w.args.length : Int)),(59,.int .i64 0)] (stK N F P L b1) := by
    intro b1 R hR hlen
    have hlen2 : w.args.length ≤ 9223372036854775807 := hlen
    refine W_of fun Q hQ => ?_
    have main : ∀ n i b2,i + n = w.args.length → (b2 && kwsF F L B (w.args.drop i)) = R → Q [(1,.list (B.map strRow)),(5,.ptr 3 0 0),(57,.list (w.args.map wrd)),(58,.int .i64 (w.args.length : Int)),(59,.int .i64 (i : Int))] (stK N F P L b2) := by
     intro n
     induction n with
     | zero =>
      intro i b2 hi hR
      rw [List.drop_of_length_le (by omega),kwsF,Bool.and_true] at hR
      subst hR
      obtain rfl : i = w.args.length := by omega
      apply hQ
      clear hQ
      (refine Sg.h ?_;try repeat' ((with_reducible first|refine brA ?_|refine brE fun _=>?_|refine spl ⟨?_,?_⟩<;>intro _)<;> ((try simp -implicitDefEqProofs); (try simp -implicitDefEqProofs(disch:=first|assumption|(try simp only[lens]);omega -splitDisjunctions)))))
     | succ n ihn =>
      intro i b2 hi hR
      have hil : i < w.args.length := by omega
      rw [List.drop_eq_getElem_cons hil,kwsF,← Bool.and_assoc] at hR
      have hc := ih _ (List.getElem_mem hil) b2
      have ihn := ihn (i + 1) _ (by omega) hR
      generalize hx : w.args[i] = x at *
      generalize (b2 && kwF F L B x) = b3 at *
      have hi' : (i : Int) < (w.args.length : Int) := by omega
      apply hQ
      clear hQ
      (refine Sg.h ?_;try repeat' ((with_reducible first|refine brA ?_|refine brE fun _=>?_|refine spl ⟨?_,?_⟩<;>intro _)<;> ((try simp -implicitDefEqProofs [hi',hil,hx]); (try simp -implicitDefEqProofs(disch:=first|assumption|(try simp only[lens]);omega -splitDisjunctions) [hi',hil,hx]))))
      refine cl_kn (rest := [_]) hc ?_
      (refine Sg.h ?_;try repeat' ((with_reducible first|refine brA ?_|refine brE fun _=>?_|refine spl ⟨?_,?_⟩<;>intro _)<;> ((try simp -implicitDefEqProofs); (try simp -implicitDefEqProofs(disch:=first|assumption|(try simp only[lens]);omega -splitDisjunctions)))))
      all_goals first | exact ihn | (refine at2 ihn ?_ ?_ <;> simp; done) | (exfalso; first | omega | (simp_all; done) | (simp_all; omega))
    all_goals first | exact main w.args.length 0 b1 (Nat.zero_add _) hR | (refine at2 main w.args.length 0 b1 (Nat.zero_add _) hR ?_ ?_ <;> simp; done) | (exfalso; first | omega | (simp_all; done) | (simp_all; omega))
   obtain ⟨f1,f2⟩ := find_funM w.nm F 0
   obtain ⟨c,hc⟩ : ∃ c,(funAt w.nm F).any (fun f => decide (f.ar = (w.args.length : Int))) = c := ⟨_,rfl⟩
   rw [hc]
   refine fi49.og ?_
   cases hl : funAt w.nm F with
   | none =>
    have f1 := f1 hl
    rw [hl] at hc
    obtain rfl : c = false := by rw [← hc]; rfl
    cases b with
    | true =>
     (refine Sg.h ?_;try repeat' ((first | (with_reducible first|refine brA ?_|refine brE fun _=>?_|refine spl ⟨?_,?_⟩<;>intro _) | refine clo hnm ?_) <;> ((try simp -implicitDefEqProofs [f1]); (try simp -implicitDefEqProofs(disch:=first|assumption|(try simp only[lens]);omega -splitDisjunctions) [f1]))))
     rw [LO_some]
     refine ⟨fun hlen => ?_,fun hlen => ?_⟩
     all_goals (refine Sg.h ?_;try repeat' ((with_reducible first|refine brA ?_|refine brE fun _=>?_|refine spl ⟨?_,?_⟩<;>intro _)<;> ((try simp -implicitDefEqProofs); (try simp -implicitDefEqProofs(disch:=first|assumption|(try simp only[lens]);omega -splitDisjunctions)))))
     all_goals exact key _ _ (by simp) hlen
    | false =>
     (refine Sg.h ?_;try repeat' ((first | (with_reducible first|refine brA ?_|refine brE fun _=>?_|refine spl ⟨?_,?_⟩<;>intro _) | refine clo hnm ?_) <;> ((try simp -implicitDefEqProofs [f1]); (try simp -implicitDefEqProofs(disch:=first|assumption|(try simp only[lens]);omega -splitDisjunctions) [f1]))))
     rw [LO_some]
     refine ⟨fun hlen => ?_,fun hlen => ?_⟩
     all_goals (refine Sg.h ?_;try repeat' ((with_reducible first|refine brA ?_|refine brE fun _=>?_|refine spl ⟨?_,?_⟩<;>intro _)<;> ((try simp -implicitDefEqProofs); (try simp -implicitDefEqProofs(disch:=first|assumption|(try simp only[lens]);omega -splitDisjunctions)))))
     all_goals exact key _ _ (by simp) hlen
   | some m =>
    obtain ⟨j,f3,f4⟩ := f2 m hl
    rw [hl] at hc
    have hc : decide (m.ar = (w.args.length : Int)) = c := by rw [← hc]; rfl
    cases b with
    | true =>
     by_cases har : m.ar = (w.args.length : Int)
     ·obtain rfl : c = true := by rw [← hc]; exact decide_eq_true har
      (refine Sg.h ?_;try repeat' ((first | (with_reducible first|refine brA ?_|refine brE fun _=>?_|refine spl ⟨?_,?_⟩<;>intro _) | refine clo hnm ?_) <;> ((try simp -implicitDefEqProofs [f3]); (try simp -implicitDefEqProofs(disch:=first|assumption|(try simp only[lens]);omega -splitDisjunctions) [f3]))))
      rw [LO_some]
      refine ⟨fun hlen => ?_,fun hlen => ?_⟩
      all_goals (refine Sg.h ?_;try repeat' ((with_reducible first|refine brA ?_|refine brE fun _=>?_|refine spl ⟨?_,?_⟩<;>intro _)<;> ((try simp -implicitDefEqProofs [har]); (try simp -implicitDefEqProofs(disch:=first|assumption|(try simp only[lens]);omega -splitDisjunctions) [har]))))
      all_goals exact key _ _ (by simp) hlen
     ·obtain rfl : c = false := by rw [← hc]; exact decide_eq_false har
      (refine Sg.h ?_;try repeat' ((first | (with_reducible first|refine brA ?_|refine brE fun _=>?_|refine spl ⟨?_,?_⟩<;>intro _) | refine clo hnm ?_) <;> ((try simp -implicitDefEqProofs [f3]); (try simp -implicitDefEqProofs(disch:=first|assumption|(try simp only[lens]);omega -splitDisjunctions) [f3]))))
      rw [LO_some]
      refine ⟨fun hlen => ?_,fun hlen => ?_⟩
      all_goals (refine Sg.h ?_;try repeat' ((with_reducible first|refine brA ?_|refine brE fun _=>?_|refine spl ⟨?_,?_⟩<;>intro _)<;> ((try simp -implicitDefEqProofs [har]); (try simp -implicitDefEqProofs(disch:=first|assumption|(try simp only[lens]);omega -splitDisjunctions) [har]))))
      all_goals exact key _ _ (by simp) hlen
    | false =>
     (refine Sg.h ?_;try repeat' ((first | (with_reducible first|refine brA ?_|refine brE fun _=>?_|refine spl ⟨?_,?_⟩<;>intro _) | refine clo hnm ?_) <;> ((try simp -implicitDefEqProofs [f3]); (try simp -implicitDefEqProofs(disch:=first|assumption|(try simp only[lens]);omega -splitDisjunctions) [f3]))))
     rw [LO_some]
     refine ⟨fun hlen => ?_,fun hlen => ?_⟩
     all_goals (refine Sg.h ?_;try repeat' ((with_reducible first|refine brA ?_|refine brE fun _=>?_|refine spl ⟨?_,?_⟩<;>intro _)<;> ((try simp -implicitDefEqProofs); (try simp -implicitDefEqProofs(disch:=first|assumption|(try simp only[lens]);omega -splitDisjunctions)))))
     all_goals exact key _ _ (by simp) hlen
end Go.Proofs.Ytlcplnafkeklaaa
