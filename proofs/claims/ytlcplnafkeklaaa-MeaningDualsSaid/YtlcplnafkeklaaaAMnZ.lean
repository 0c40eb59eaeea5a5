import Derived.Test.YtlcplnafkeklaaaAMnW
import Derived.Test.YtlcplnafkeklaaaAFaN
set_option linter.unusedVariables false
set_option linter.unusedSimpArgs false
set_option maxRecDepth 100000
set_option maxHeartbeats 4000000
namespace Go.Proofs.Ytlcplnafkeklaaa
open Go Go.Pv
def wX : Wd := .mk ⟨#[120]⟩ []
def wY : Wd := .mk ⟨#[121]⟩ []
def sameX : Ex := .mk 9 ⟨#[120]⟩ [] [.mk 9 ⟨#[121]⟩ [] [.mk 2 ⟨#[]⟩ [wX,wY] []]]
theorem callOK_softR {P : Program} {f : FuncId} {args : List PV} {v v' : PV} {s s' : Store} (h : CallOK P f args s v' s') (hs : Soft v v') : CallOK P f args s v s' := by
 intro pub σ w cargs hb ha
 refine (h pub σ w cargs hb ha).mono ?_
 rintro e w' ⟨cv,pub',σ',rfl,h1,h2⟩
 exact ⟨cv,pub',σ',rfl,h1,hs.rel h2⟩
def rawX : PV := .agg [.int .i64 9,.str ⟨#[120]⟩,.nilsl,.list [[.int .i64 9,.str ⟨#[121]⟩,.nilsl,.list [[.int .i64 2,.str ⟨#[]⟩,.list [[.str ⟨#[120]⟩,.nilsl],[.str ⟨#[121]⟩,.nilsl]],.nilsl]]]]]
attribute [local irreducible] X
def x20 : XC := .seq (.reg [⟨some 0,.alloc 29,none⟩]) (.seq (.reg [⟨some 2,.build 68 #[(0,.const (.string ⟨#[120]⟩))],none⟩,⟨some 3,.build 68 #[(0,.const (.string ⟨#[121]⟩))],none⟩,⟨some 4,.buildSlice 26 2 #[(0,.tmp 2),(1,.tmp 3)],none⟩,⟨some 1,.assign (.tmp 4),none⟩]) (.seq (.reg [⟨some 5,.move (.tmp 1),none⟩,⟨some 6,.build 29 #[(0,.const (.int .i64 2)),(2,.tmp 5)],none⟩,⟨some 7,.buildSlice 27 1 #[(0,.tmp 6)],none⟩,⟨some 8,.build 29 #[(0,.const (.int .i64 9)),(1,.const (.string ⟨#[121]⟩)),(3,.tmp 7)],none⟩,⟨some 9,.buildSlice 27 1 #[(0,.tmp 8)],none⟩,⟨some 10,.build 29 #[(0,.const (.int .i64 9)),(1,.const (.string ⟨#[120]⟩)),(3,.tmp 9)],none⟩,⟨none,.store 29 (.tmp 0) (.tmp 10),none⟩]) .ret))
@[simp] theorem x20_s {C e s K} : type_of% (@X_at C e s K _ _ x20.eq_1) := X_at x20.eq_1
def an20 : Ann := ⟨[],[],[]⟩
theorem fi20 : FI Try.prog 20 (cxA an20) x20 [.cell 0 29] Try.f20 := fiA Try.func20 mixed
theorem sameThings_raw : CallOK Try.prog 20 [] [] rawX [] := by
 unfold rawX
 refine fi20.op ?_
 (refine Sg.h ?_;try repeat' ((with_reducible first|refine brA ?_|refine brE fun _=>?_|refine spl ⟨?_,?_⟩<;>intro _)<;> ((try simp -implicitDefEqProofs); (try simp -implicitDefEqProofs(disch:=first|assumption|(try simp only[lens]);omega -splitDisjunctions)))))
theorem sameThings_law : CallOK Try.prog 20 [] [] (.agg (exr sameX)) [] := by
 have e : exr sameX = [.int .i64 9,.str ⟨#[120]⟩,.list [],.list [[.int .i64 9,.str ⟨#[121]⟩,.list [],.list [[.int .i64 2,.str ⟨#[]⟩,.list [[.str ⟨#[120]⟩,.list []],[.str ⟨#[121]⟩,.list []]],.list []]]]]] := by
  simp [sameX,wX,wY,exr,exrs,wrd,wrds]
 rw [e]
 refine callOK_softR sameThings_raw ?_
 unfold rawX
 exact .agg (.cons .refl (.cons .refl (.cons .nil (.cons (.list (.cons (.cons .refl (.cons .refl (.cons .nil (.cons (.list (.cons (.cons .refl (.cons .refl (.cons (.list (.cons (.cons .refl (.cons .nil .nil)) (.cons (.cons .refl (.cons .nil .nil)) .nil))) (.cons .nil .nil)))) .nil)) .nil)))) .nil)) .nil))))
set_option maxRecDepth 100000
theorem begun1 : valF ⟨1,[],[]⟩ sameX [] [] = (0,0) ∧ valB ⟨1,[],[]⟩ sameX [] [] = true := ⟨by kernel_rfl,by kernel_rfl⟩
theorem begun2 : valF ⟨2,[],[]⟩ sameX [] [] = (0,0) ∧ valB ⟨2,[],[]⟩ sameX [] [] = false := ⟨by kernel_rfl,by kernel_rfl⟩
def x6 : XC := .seq (.reg [⟨some 0,.assign (.const (.bool false)),none⟩]) (.seq (.reg [⟨some 6,.build 25 #[(0,.const (.int .i64 1))],none⟩,⟨some 7,.call ⟨.value (.func 20),#[],#[]⟩,none⟩,⟨some 8,.call ⟨.value (.func 10),#[.tmp 6,.tmp 7,.const (.slice none 0 0),.const (.slice none 0 0)],#[25,29,30,31]⟩,none⟩,⟨some 5,.move (.tmp 8),none⟩,⟨some 9,.extract (.tmp 5) 0,none⟩,⟨some 10,.extract (.tmp 5) 1,none⟩,⟨some 2,.alloc 36,none⟩,⟨some 1,.assign (.tmp 9),none⟩,⟨none,.store 36 (.tmp 2) (.tmp 10),none⟩]) (.seq (.reg [⟨some 12,.build 25 #[(0,.const (.int .i64 2))],none⟩,⟨some 13,.call ⟨.value (.func 20),#[],#[]⟩,none⟩,⟨some 14,.call ⟨.value (.func 10),#[.tmp 12,.tmp 13,.const (.slice none 0 0),.const (.slice none 0 0)],#[25,29,30,31]⟩,none⟩,⟨some 11,.move (.tmp 14),none⟩,⟨some 15,.extract (.tmp 11) 0,none⟩,⟨some 16,.extract (.tmp 11) 1,none⟩,⟨some 4,.alloc 36,none⟩,⟨some 3,.assign (.tmp 15),none⟩,⟨none,.store 36 (.tmp 4) (.tmp 16),none⟩]) (.seq (.reg [⟨some 17,.fieldAddr 36 (.tmp 2) 0,none⟩,⟨some 18,.load 3 (.tmp 17),none⟩,⟨some 19,.binOp .eql 3 (.tmp 18) (.const (.int .i64 0)) 3,none⟩,⟨some 20,.move (.tmp 19),none⟩,⟨some 21,.fieldAddr 36 (.tmp 4) 0,some (some 20,true)⟩,⟨some 22,.load 3 (.tmp 21),some (some 20,true)⟩,⟨some 23,.binOp .eql 3 (.tmp 22) (.const (.int .i64 0)) 3,some (some 20,true)⟩,⟨some 24,.pick (.tmp 20) (.tmp 23) (.const (.bool false)),none⟩,⟨some 25,.move (.tmp 24),none⟩,⟨some 26,.move (.tmp 1),some (some 25,true)⟩,⟨some 27,.pick (.tmp 25) (.tmp 26) (.const (.bool false)),none⟩,⟨some 28,.move (.tmp 27),none⟩,⟨some 29,.move (.tmp 3),some (some 28,true)⟩,⟨some 30,.unOp .not 4 (.tmp 29),some (some 28,true)⟩,⟨some 31,.pick (.tmp 28) (.tmp 30) (.const (.bool false)),none⟩,⟨some 0,.assign (.tmp 31),none⟩]) .ret)))
@[simp] theorem x6_s {C e s K} : type_of% (@X_at C e s K _ _ x6.eq_1) := X_at x6.eq_1
def an6 : Ann := ⟨[],[],[]⟩
theorem fi6 : FI Try.prog 6 (cxA an6) x6 [.tmp 0] Try.f6 := fiA Try.func6 mixed
theorem meaningBegun_law : CallOK Try.prog 6 [] [] (.bool true) [] := by
 have h0 := sameThings_law
 have h1 := Value_meaning ⟨1,[],[]⟩ sameX [] []
 have h2 := Value_meaning ⟨2,[],[]⟩ sameX [] []
 rw [begun1.1,begun1.2] at h1
 rw [begun2.1,begun2.2] at h2
 have h1 := callOK_softA (args := [.agg [.int .i64 1,.nilsl,.nilsl],.agg (exr sameX),.nilsl,.nilsl]) h1 (.cons (.agg (.cons .refl (.cons .nil (.cons .nil .nil)))) (.cons .refl (.cons .nil (.cons .nil .nil))))
 have h2 := callOK_softA (args := [.agg [.int .i64 2,.nilsl,.nilsl],.agg (exr sameX),.nilsl,.nilsl]) h2 (.cons (.agg (.cons .refl (.cons .nil (.cons .nil .nil)))) (.cons .refl (.cons .nil (.cons .nil .nil))))
 generalize sameX = q at *
 refine fi6.op ?_
 (refine Sg.h ?_;try repeat' ((first | (with_reducible first|refine brA ?_|refine brE fun _=>?_|refine spl ⟨?_,?_⟩<;>intro _) | refine clo h0 ?_ | refine clo h1 ?_ | refine clo h2 ?_) <;> ((try simp -implicitDefEqProofs); (try simp -implicitDefEqProofs(disch:=first|assumption|(try simp only[lens]);omega -splitDisjunctions)))))
 all_goals trace_state
def notX (e : Ex) : Ex := .mk 5 ⟨#[]⟩ [] [e]
def qX (k : Int) (nm : ByteArray) (e : Ex) : Ex := .mk k nm [] [e]
def x17 : XC := .seq (.reg [⟨some 1,.box 29 (.tmp 0),none⟩,⟨some 2,.alloc 29,none⟩]) (.seq (.reg [⟨some 3,.load 29 (.tmp 1),none⟩,⟨some 4,.buildSlice 27 1 #[(0,.tmp 3)],none⟩,⟨some 5,.build 29 #[(0,.const (.int .i64 5)),(3,.tmp 4)],none⟩,⟨none,.store 29 (.tmp 2) (.tmp 5),none⟩]) .ret)
@[simp] theorem x17_s {C e s K} : type_of% (@X_at C e s K _ _ x17.eq_1) := X_at x17.eq_1
def an17 : Ann := ⟨[],[],[]⟩
theorem fi17 : FI Try.prog 17 (cxA an17) x17 [.cell 2 29] Try.f17 := fiA Try.func17 mixed
theorem duals1_law (e : Ex) : CallOK Try.prog 17 [.agg (exr e)] [] (.agg (exr (notX e))) [] := by
 have he : exr (notX e) = [.int .i64 5,.str ⟨#[]⟩,.list [],.list [exr e]] := by simp [notX,exr_eq]
 rw [he]
 refine fi17.os ?_
 (refine Sg.h ?_;try repeat' ((with_reducible first|refine brA ?_|refine brE fun _=>?_|refine spl ⟨?_,?_⟩<;>intro _)<;> ((try simp -implicitDefEqProofs); (try simp -implicitDefEqProofs(disch:=first|assumption|(try simp only[lens]);omega -splitDisjunctions)))))
 all_goals trace_state
def x18 : XC := .seq (.reg [⟨some 4,.box 29 (.tmp 1),none⟩,⟨some 5,.alloc 29,none⟩]) (.seq (.reg [⟨some 6,.move (.tmp 0),none⟩,⟨some 7,.load 9 (.tmp 2),none⟩,⟨some 8,.load 29 (.tmp 4),none⟩,⟨some 9,.buildSlice 27 1 #[(0,.tmp 8)],none⟩,⟨some 10,.build 29 #[(0,.tmp 6),(1,.tmp 7),(3,.tmp 9)],none⟩,⟨none,.store 29 (.tmp 5) (.tmp 10),none⟩]) .ret)
@[simp] theorem x18_s {C e s K} : type_of% (@X_at C e s K _ _ x18.eq_1) := X_at x18.eq_1
def an18 : Ann := ⟨[],[],[]⟩
theorem fi18 : FI Try.prog 18 (cxA an18) x18 [.cell 5 29] Try.f18 := fiA Try.func18 mixed
theorem duals2_law (k : Int) (nm : ByteArray) (e : Ex) : CallOK Try.prog 18 [.int .i64 k,.agg (exr e),.iptr [.str nm]] [] (.agg (exr (qX k nm e))) [] := by
 have he : exr (qX k nm e) = [.int .i64 k,.str nm,.list [],.list [exr e]] := by simp [qX,exr_eq]
 rw [he]
 refine fi18.os ?_
 (refine Sg.h ?_;try repeat' ((with_reducible first|refine brA ?_|refine brE fun _=>?_|refine spl ⟨?_,?_⟩<;>intro _)<;> ((try simp -implicitDefEqProofs); (try simp -implicitDefEqProofs(disch:=first|assumption|(try simp only[lens]);omega -splitDisjunctions)))))
 all_goals trace_state
end Go.Proofs.Ytlcplnafkeklaaa
namespace Go.Proofs.Ytlcplnafkeklaaa
open Go Go.Pv
theorem valF_iff {S : Stc} {e : Ex} {ns : List ByteArray} {vs : List Int} : (valF S e ns vs).1 = 0 ↔ ((stcF S).1 = 0 ∧ (checkX e).1 = 0 ∧ ns.length = vs.length ∧ ns.length ≤ 20 ∧ (namF S.n ns vs 0).1 = 0 ∧ exK S.funs S.preds [] e ns = true ∧ hugeF S.n (deepF e) = false) := by
 constructor
 ·intro h
  obtain ⟨a,b,c,d,e,f,g,_⟩ := valF_zero h
  exact ⟨a,b,c,d,e,f,g⟩
 ·rintro ⟨a,b,c,d,e,f,g⟩
  unfold valF
  rw [if_neg (fun h => h a),if_neg (fun h => h b),if_neg (by omega),if_neg (fun h => h e),if_neg (by simp [f]),if_neg (by simp [g])]
theorem checkX_iff {e : Ex} : (checkX e).1 = 0 ↔ ∃ s,foldW (ndE e) (0,[]) = .ok s := by
 rw [← exprW_fold]
 constructor
 ·intro h
  unfold checkX at h
  cases hw : exprW e (0,[]) with
  | ok s => exact ⟨s,rfl⟩
  | error er =>
   obtain ⟨er,s⟩ := er
   rw [hw] at h
   exact absurd h (exprM_bad hw)
 ·rintro ⟨s,hs⟩
  unfold checkX
  rw [hs]
theorem fold_shift : ∀ (l : List Nd) (n m : Nat) (L : List (ByteArray × Int)),n + l.length ≤ 200 → m + l.length ≤ 200 → (∃ s,foldW l (n,L) = .ok s) → ∃ s,foldW l (m,L) = .ok s
 | [],n,m,L,_,_,_ => ⟨(m,L),by rw [foldW]⟩
 | x :: r,n,m,L,hn,hm,h => by
  rw [List.length_cons] at hn hm
  rw [foldW,stepW_eq x (n,L) (by dsimp only; omega)] at h
  rw [foldW,stepW_eq x (m,L) (by dsimp only; omega)]
  cases hc : chkN x with
  | error c => rw [hc] at h; obtain ⟨s,h⟩ := h; cases h
  | ok o =>
   rw [hc] at h
   cases o with
   | none => exact fold_shift r (n + 1) (m + 1) L (by omega) (by omega) h
   | some q =>
    obtain ⟨b,nm,c⟩ := q
    dsimp only at h ⊢
    unfold manyW at h ⊢
    dsimp only at h ⊢
    cases hl : lookI (encW b nm) L with
    | none =>
     rw [hl] at h
     exact fold_shift r (n + 1) (m + 1) _ (by omega) (by omega) h
    | some v =>
     rw [hl] at h
     dsimp only at h ⊢
     by_cases hv : v = (c : Int)
     ·rw [if_pos hv] at h ⊢
      exact fold_shift r (n + 1) (m + 1) L (by omega) (by omega) h
     ·rw [if_neg hv] at h
      obtain ⟨s,h⟩ := h
      cases h
theorem step_q {k : Int} (hk : k = 9 ∨ k = 10) {nm : ByteArray} (hN : isNameB nm = true) (e : Ex) (n : Nat) (h : n < 200) : stepW (.e (qX k nm e)) (n,[]) = .ok (n + 1,[]) := by
 rw [stepW_eq _ _ (by dsimp only; omega)]
 have : chkN (.e (qX k nm e)) = .ok none := by
  rw [chkN,chkX]
  unfold qX
  simp only [ex_mk]
  rcases hk with rfl | rfl
  ·simp [wordsN,kidsX,hN]
  ·simp [wordsN,kidsX,hN]
 rw [this]
theorem step_not (e : Ex) (n : Nat) (h : n < 200) : stepW (.e (notX e)) (n,[]) = .ok (n + 1,[]) := by
 rw [stepW_eq _ _ (by dsimp only; omega)]
 have : chkN (.e (notX e)) = .ok none := by
  rw [chkN,chkX]
  unfold notX
  simp only [ex_mk]
  simp [wordsN,kidsX]
 rw [this]
theorem nd_q {k : Int} {nm : ByteArray} {e : Ex} : ndE (qX k nm e) = .e (qX k nm e) :: ndE e := by
 rw [ndE_eq]
 simp [qX,ndEs]
theorem nd_not {e : Ex} : ndE (notX e) = .e (notX e) :: ndE e := by
 rw [ndE_eq]
 simp [notX,ndEs]
theorem duals_check {nm : ByteArray} (hN : isNameB nm = true) {e : Ex} (hc : (ndE e).length ≤ 190) : (checkX (qX 9 nm e)).1 = 0 ↔ (checkX (notX (qX 10 nm (notX e)))).1 = 0 := by
 have a : foldW (ndE (qX 9 nm e)) (0,[]) = foldW (ndE e) (1,[]) := by
  rw [nd_q,foldW,step_q (.inl rfl) hN _ _ (by omega)]
 have b : foldW (ndE (notX (qX 10 nm (notX e)))) (0,[]) = foldW (ndE e) (3,[]) := by
  rw [nd_not,foldW,step_not _ _ (by omega)]
  dsimp only
  rw [nd_q,foldW,step_q (.inr rfl) hN _ _ (by omega)]
  dsimp only
  rw [nd_not,foldW,step_not _ _ (by omega)]
 rw [checkX_iff,checkX_iff,a,b]
 exact ⟨fold_shift _ _ _ _ (by omega) (by omega),fold_shift _ _ _ _ (by omega) (by omega)⟩
theorem exK_q {F : List Fn} {P : List Pd} {k : Int} (hk : k = 9 ∨ k = 10) {nm : ByteArray} {e : Ex} {B : List ByteArray} : exK F P [] (qX k nm e) B = exK F P [] e (B ++ [nm]) := by
 rw [exK_eq]
 unfold qX
 simp only [ex_mk]
 rw [bindB,if_pos hk,exsK,exsK,kwsF]
 have : decide (k = 1) = false := decide_eq_false (by omega)
 rw [this]
 simp
theorem exK_not {F : List Fn} {P : List Pd} {e : Ex} {B : List ByteArray} : exK F P [] (notX e) B = exK F P [] e B := by
 rw [exK_eq]
 unfold notX
 simp only [ex_mk]
 rw [bindB,if_neg (by omega),exsK,exsK,kwsF]
 simp
theorem deep_q {k : Int} (hk : k = 9 ∨ k = 10) {nm : ByteArray} {e : Ex} : deepF (qX k nm e) = deepF e + 1 := by
 rw [deepF_eq]
 unfold qX
 simp only [ex_mk]
 rw [if_pos hk,deepsF,deepsF]
 omega
theorem deep_not {e : Ex} : deepF (notX e) = deepF e := by
 rw [deepF_eq]
 unfold notX
 simp only [ex_mk]
 rw [if_neg (by omega),deepsF,deepsF]
 omega
theorem val_not {N : Int} {F : List Fn} {P : List Pd} {e : Ex} {E : ByteArray → Int} : valV N F P (notX e) E = !valV N F P e E := by
 rw [valV_eq]
 unfold notX valH
 simp
theorem val_all {N : Int} {F : List Fn} {P : List Pd} {nm : ByteArray} {e : Ex} {E : ByteArray → Int} : valV N F P (qX 9 nm e) E = (List.range N.toNat).all fun x => valV N F P e (updE E nm (x : Int)) := by
 rw [valV_eq]
 unfold qX valH
 simp
theorem val_some {N : Int} {F : List Fn} {P : List Pd} {nm : ByteArray} {e : Ex} {E : ByteArray → Int} : valV N F P (qX 10 nm e) E = (List.range N.toNat).any fun x => valV N F P e (updE E nm (x : Int)) := by
 rw [valV_eq]
 unfold qX valH
 simp
theorem val_duals {N : Int} {F : List Fn} {P : List Pd} {nm : ByteArray} {e : Ex} {E : ByteArray → Int} : valV N F P (qX 9 nm e) E = valV N F P (notX (qX 10 nm (notX e))) E := by
 rw [val_not,val_all,val_some,List.not_any_eq_all_not]
 congr 1
 funext x
 rw [val_not,Bool.not_not]
theorem duals {S : Stc} {nm : ByteArray} (hN : isNameB nm = true) {e : Ex} (hc : (ndE e).length ≤ 190) (ns : List ByteArray) (vs : List Int) : (valF S (qX 9 nm e) ns vs = (0,0) ∧ valF S (notX (qX 10 nm (notX e))) ns vs = (0,0) ∧ valB S (qX 9 nm e) ns vs = valB S (notX (qX 10 nm (notX e))) ns vs) ∨ ((valF S (qX 9 nm e) ns vs).1 ≠ 0 ∧ (valF S (notX (qX 10 nm (notX e))) ns vs).1 ≠ 0) := by
 have hiff : (valF S (qX 9 nm e) ns vs).1 = 0 ↔ (valF S (notX (qX 10 nm (notX e))) ns vs).1 = 0 := by
  rw [valF_iff,valF_iff,duals_check hN hc,exK_q (.inl rfl),exK_not,exK_q (.inr rfl),exK_not,deep_q (.inl rfl),deep_not,deep_q (.inr rfl),deep_not]
 by_cases h : (valF S (qX 9 nm e) ns vs).1 = 0
 ·have h2 := hiff.1 h
  refine .inl ⟨(valF_zero h).2.2.2.2.2.2.2,(valF_zero h2).2.2.2.2.2.2.2,?_⟩
  rw [valB,valB,if_pos h,if_pos h2,val_duals]
 ·exact .inr ⟨h,fun g => h (hiff.2 g)⟩
end Go.Proofs.Ytlcplnafkeklaaa
namespace Go.Proofs.Ytlcplnafkeklaaa
open Go Go.Pv
def x4 : XC := .seq (.reg [⟨some 5,.box 25 (.tmp 0),none⟩,⟨some 6,.box 29 (.tmp 1),none⟩,⟨some 7,.box 9 (.tmp 2),none⟩,⟨some 10,.assign (.const (.bool false)),none⟩]) (.seq (.seq (.reg [⟨some 17,.call ⟨.value (.func 6),#[],#[]⟩,none⟩,⟨some 18,.unOp .not 4 (.tmp 17),none⟩]) (.cond (.tmp 18) (.seq (.reg [⟨some 10,.assign (.const (.bool false)),none⟩]) .ret) .skip)) (.seq (.seq (.reg [⟨some 19,.load 29 (.tmp 6),none⟩,⟨some 20,.call ⟨.value (.func 7),#[.tmp 19,.const (.int .i64 0)],#[29,3]⟩,none⟩,⟨some 21,.move (.tmp 20),none⟩,⟨some 22,.load 29 (.tmp 6),some (some 21,false)⟩,⟨some 23,.call ⟨.value (.func 15),#[.tmp 22],#[29]⟩,some (some 21,false)⟩,⟨some 24,.binOp .gtr 3 (.tmp 23) (.const (.int .i64 190)) 3,some (some 21,false)⟩,⟨some 25,.pick (.tmp 21) (.const (.bool true)) (.tmp 24),none⟩,⟨some 26,.move (.tmp 25),none⟩,⟨some 27,.load 9 (.tmp 7),some (some 26,false)⟩,⟨some 28,.call ⟨.value (.func 16),#[.tmp 27],#[9]⟩,some (some 26,false)⟩,⟨some 29,.unOp .not 4 (.tmp 28),some (some 26,false)⟩,⟨some 30,.pick (.tmp 26) (.const (.bool true)) (.tmp 29),none⟩]) (.cond (.tmp 30) (.seq (.reg [⟨some 10,.assign (.const (.bool true)),none⟩]) .ret) .skip)) (.seq (.reg [⟨some 11,.assign (.func 17),none⟩]) (.seq (.reg [⟨some 31,.makeFunc (.func 18) #[] #[.tmp 7],none⟩,⟨some 12,.assign (.tmp 31),none⟩]) (.seq (.drawn 7 [⟨some 33,.load 25 (.tmp 5),none⟩,⟨some 34,.move (.tmp 12),none⟩,⟨some 35,.load 29 (.tmp 6),none⟩,⟨some 36,.call ⟨.value (.tmp 34),#[.const (.int .i64 9),.tmp 35],#[3,29]⟩,none⟩,⟨some 37,.move (.tmp 3),none⟩,⟨some 38,.move (.tmp 4),none⟩,⟨some 39,.call ⟨.value (.func 10),#[.tmp 33,.tmp 36,.tmp 37,.tmp 38],#[25,29,30,31]⟩,none⟩,⟨some 32,.move (.tmp 39),none⟩,⟨some 40,.extract (.tmp 32) 0,none⟩,⟨some 41,.extract (.tmp 32) 1,none⟩,⟨some 14,.alloc 36,none⟩,⟨some 13,.assign (.tmp 40),none⟩,⟨none,.store 36 (.tmp 14) (.tmp 41),none⟩]) (.seq (.drawn 8 [⟨some 43,.load 25 (.tmp 5),none⟩,⟨some 44,.move (.tmp 11),none⟩,⟨some 45,.move (.tmp 12),none⟩,⟨some 46,.move (.tmp 11),none⟩,⟨some 47,.load 29 (.tmp 6),none⟩,⟨some 48,.call ⟨.value (.tmp 46),#[.tmp 47],#[29]⟩,none⟩,⟨some 49,.call ⟨.value (.tmp 45),#[.const (.int .i64 10),.tmp 48],#[3,29]⟩,none⟩,⟨some 50,.call ⟨.value (.tmp 44),#[.tmp 49],#[29]⟩,none⟩,⟨some 51,.move (.tmp 3),none⟩,⟨some 52,.move (.tmp 4),none⟩,⟨some 53,.call ⟨.value (.func 10),#[.tmp 43,.tmp 50,.tmp 51,.tmp 52],#[25,29,30,31]⟩,none⟩,⟨some 42,.move (.tmp 53),none⟩,⟨some 54,.extract (.tmp 42) 0,none⟩,⟨some 55,.extract (.tmp 42) 1,none⟩,⟨some 16,.alloc 36,none⟩,⟨some 15,.assign (.tmp 54),none⟩,⟨none,.store 36 (.tmp 16) (.tmp 55),none⟩]) (.seq (.reg [⟨some 56,.load 36 (.tmp 14),none⟩,⟨some 57,.load 36 (.tmp 16),none⟩,⟨some 58,.binOp .eql 36 (.tmp 56) (.tmp 57) 36,none⟩,⟨some 59,.move (.tmp 58),none⟩,⟨some 60,.move (.tmp 13),some (some 59,true)⟩,⟨some 61,.move (.tmp 15),some (some 59,true)⟩,⟨some 62,.binOp .eql 4 (.tmp 60) (.tmp 61) 4,some (some 59,true)⟩,⟨some 63,.pick (.tmp 59) (.tmp 62) (.const (.bool false)),none⟩,⟨some 64,.move (.tmp 63),none⟩,⟨some 65,.fieldAddr 36 (.tmp 14) 0,some (some 64,false)⟩,⟨some 66,.load 3 (.tmp 65),some (some 64,false)⟩,⟨some 67,.binOp .neq 3 (.tmp 66) (.const (.int .i64 0)) 3,some (some 64,false)⟩,⟨some 68,.move (.tmp 67),some (some 64,false)⟩,⟨some 69,.fieldAddr 36 (.tmp 16) 0,some (some 68,true)⟩,⟨some 70,.load 3 (.tmp 69),some (some 68,true)⟩,⟨some 71,.binOp .neq 3 (.tmp 70) (.const (.int .i64 0)) 3,some (some 68,true)⟩,⟨some 72,.pick (.tmp 68) (.tmp 71) (.const (.bool false)),some (some 64,false)⟩,⟨some 73,.pick (.tmp 64) (.const (.bool true)) (.tmp 72),none⟩,⟨some 10,.assign (.tmp 73),none⟩]) .ret)))))))
@[simp] theorem x4_s {C e s K} : type_of% (@X_at C e s K _ _ x4.eq_1) := X_at x4.eq_1
def an4 : Ann := ⟨[(7,.mix 12),(8,.mix 16)],[],[]⟩
@[simp] theorem an4_a : an4.clsOf 7 = .mix 12 ∧ an4.clsOf 8 = .mix 16 ∧ an4.frzOf 7 = [] ∧ an4.frzOf 8 = [] := ⟨rfl,rfl,rfl,rfl⟩
theorem fi4 : FI Try.prog 4 (cxA an4) x4 [.tmp 10] Try.f4 := fiA Try.func4 mixed
theorem meaningDuals_law (S : Stc) (e : Ex) (nm : ByteArray) (ns : List ByteArray) (vs : List Int) : CallOK Try.prog 4 [.agg (stc S),.agg (exr e),.str nm,.list (ns.map strRow),.list (vs.map intRow)] [] (.bool true) [] := by
 have c0 := meaningBegun_law
 have c1 := VastExpr_ref e 0 (by decide)
 have c2 := Count_ref e
 have c3 := IsName_ref nm
 have hlt : ((ndE e).take 100001).length ≤ 100001 := by rw [List.length_take]; omega
 have hnd : ((ndE e).take 100001).length ≤ 190 → (ndE e).length ≤ 190 := by rw [List.length_take]; omega
 generalize ((ndE e).take 100001).length = cnt at *
 have d1 := duals2_law 9 nm e
 have d2 := duals1_law e
 have d3 := duals2_law 10 nm (notX e)
 have d4 := duals1_law (qX 10 nm (notX e))
 have v1 := Value_meaning S (qX 9 nm e) ns vs
 have v2 := Value_meaning S (notX (qX 10 nm (notX e))) ns vs
 have key := fun hN hc => duals (S := S) (nm := nm) hN (e := e) hc ns vs
 generalize qX 9 nm e = A at *
 generalize notX (qX 10 nm (notX e)) = B at *
 generalize qX 10 nm (notX e) = B1 at *
 generalize notX e = B0 at *
 generalize valF S A ns vs = f1 at *
 generalize valF S B ns vs = f2 at *
 generalize valB S A ns vs = b1 at *
 generalize valB S B ns vs = b2 at *
 obtain ⟨n,F,P⟩ := S
 unfold stc at *
 dsimp only at *
 refine fi4.op ?_
 cases hv : vxF e 0 with
 | true =>
  rw [hv] at c1
  (refine Sg.h ?_;try repeat' ((first | (with_reducible first|refine brA ?_|refine brE fun _=>?_|refine spl ⟨?_,?_⟩<;>intro _) | refine clo c0 ?_ | refine clo c1 ?_) <;> ((try simp -implicitDefEqProofs); (try simp -implicitDefEqProofs(disch:=first|assumption|(try simp only[lens]);omega -splitDisjunctions)))))
 | false =>
 rw [hv] at c1
 by_cases hc : 190 < cnt
 ·have hc' : (190 : Int) < (cnt : Int) := by omega
  (refine Sg.h ?_;try repeat' ((first | (with_reducible first|refine brA ?_|refine brE fun _=>?_|refine spl ⟨?_,?_⟩<;>intro _) | refine clo c0 ?_ | refine clo c1 ?_ | refine clo c2 ?_) <;> ((try simp -implicitDefEqProofs [hc']); (try simp -implicitDefEqProofs(disch:=first|assumption|(try simp only[lens]);omega -splitDisjunctions) [hc']))))
 have hc' : ¬ (190 : Int) < (cnt : Int) := by omega
 cases hN : isNameB nm with
 | false =>
  rw [hN] at c3
  (refine Sg.h ?_;try repeat' ((first | (with_reducible first|refine brA ?_|refine brE fun _=>?_|refine spl ⟨?_,?_⟩<;>intro _) | refine clo c0 ?_ | refine clo c1 ?_ | refine clo c2 ?_ | refine clo c3 ?_) <;> ((try simp -implicitDefEqProofs [hc']); (try simp -implicitDefEqProofs(disch:=first|assumption|(try simp only[lens]);omega -splitDisjunctions) [hc']))))
 | true =>
 rw [hN] at c3
 rcases key hN (hnd (by omega)) with ⟨k1,k2,k3⟩ | ⟨k1,k2⟩
 ·subst k1 k2 k3
  (refine Sg.h ?_;try repeat' ((first | (with_reducible first|refine brA ?_|refine brE fun _=>?_|refine spl ⟨?_,?_⟩<;>intro _) | refine clo c0 ?_ | refine clo c1 ?_ | refine clo c2 ?_) <;> ((try simp -implicitDefEqProofs [hc']); (try simp -implicitDefEqProofs(disch:=first|assumption|(try simp only[lens]);omega -splitDisjunctions) [hc']))))
  refine CL.giv [2] ?_
  (refine Sg.h ?_;try repeat' ((first | (with_reducible first|refine brA ?_|refine brE fun _=>?_|refine spl ⟨?_,?_⟩<;>intro _) | refine clo c3 ?_ | refine clo d1 ?_ | refine clo d2 ?_ | refine clo d3 ?_ | refine clo d4 ?_ | refine clo v1 ?_ | refine clo v2 ?_) <;> ((try simp -implicitDefEqProofs); (try simp -implicitDefEqProofs(disch:=first|assumption|(try simp only[lens]);omega -splitDisjunctions)))))
  all_goals trace_state
 ·(refine Sg.h ?_;try repeat' ((first | (with_reducible first|refine brA ?_|refine brE fun _=>?_|refine spl ⟨?_,?_⟩<;>intro _) | refine clo c0 ?_ | refine clo c1 ?_ | refine clo c2 ?_) <;> ((try simp -implicitDefEqProofs [hc']); (try simp -implicitDefEqProofs(disch:=first|assumption|(try simp only[lens]);omega -splitDisjunctions) [hc']))))
  refine CL.giv [2] ?_
  (refine Sg.h ?_;try repeat' ((first | (with_reducible first|refine brA ?_|refine brE fun _=>?_|refine spl ⟨?_,?_⟩<;>intro _) | refine clo c3 ?_ | refine clo d1 ?_ | refine clo d2 ?_ | refine clo d3 ?_ | refine clo d4 ?_ | refine clo v1 ?_ | refine clo v2 ?_) <;> ((try simp -implicitDefEqProofs [k1,k2]); (try simp -implicitDefEqProofs(disch:=first|assumption|(try simp only[lens]);omega -splitDisjunctions) [k1,k2]))))
  all_goals trace_state
end Go.Proofs.Ytlcplnafkeklaaa
