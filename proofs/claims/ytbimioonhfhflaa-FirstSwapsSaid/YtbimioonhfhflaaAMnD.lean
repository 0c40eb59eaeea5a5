import Derived.Test.YtbimioonhfhflaaAFaE
import Derived.Test.YtbimioonhfhflaaAFaG
import Derived.Test.YtbimioonhfhflaaAPvRecN
import Derived.Test.YtbimioonhfhflaaAPvPan
set_option linter.unusedVariables false
set_option linter.unusedSimpArgs false
set_option maxRecDepth 100000
set_option maxHeartbeats 4000000
set_option linter.unusedSectionVars false
namespace Go.Proofs.Ytbimioonhfhflaa
open Go Go.Pv
def XXf (t : ByteArray) : Nat → (Nat → RX) × (Nat → RX)
 | 0=>(fun i=>.error (i,i),fun i=>.error (i,i))
 | n + 1=>(xnotP t (XXf t n).1 (XXf t n).2,xthenP t (xopP t ⟨#[124]⟩ 7 (xopP t ⟨#[38]⟩ 6 (xnotP t (XXf t n).1 (XXf t n).2))) (XXf t n).2)
theorem xreader_told (t : ByteArray) (hs : t.size ≤ 1000000) : ∀ n i,i ≤ t.size → t.size - i < n → ToldA eX 107 [] t i ((XXf t n).1 i) ∧ ToldA eX 73 [] t i ((XXf t n).2 i):=by
 intro n
 induction n with
 | zero=>intro i _ h;omega
 | succ n ih=>
  intro i hi hn
  have hN : ∀ j,i ≤ j → j ≤ t.size → ToldA eX 107 [] t j (xnotP t (XXf t n).1 (XXf t n).2 j):=fun j h1 h2=>
   not_firstR t j hs h2 _ _ (fun k h3 h4=>(ih k h4 (by omega)).1) (fun k h3 h4=>(ih k h4 (by omega)).2)
  refine ⟨hN i (Nat.le_refl _) hi,?_⟩
  refine then_firstR t i hs hi _ _ ?_ (fun k h3 h4=>(ih k h4 (by omega)).2)
  exact or_firstR t i hs hi _ fun j h1 h2=>and_firstR t j hs h2 _ fun k h3 h4=>hN k (by omega) h4
def xparseR (t : ByteArray) : RX:=(XXf t (t.size + 1)).2 0
theorem xparse_told (t : ByteArray) (hs : t.size ≤ 1000000) : ToldA eX 73 [] t 0 (xparseR t):=(xreader_told t hs _ 0 (by omega) (by omega)).2
def x40 : XC:=.seq (.reg [⟨some 5,.call ⟨.builtin .recover,#[],#[]⟩,none⟩]) (.block 0 (.seq (.reg [⟨some 7,.binOp .eql 20 (.tmp 5) (.const .nilIface) 20,none⟩]) (.cond (.tmp 7) (.reg [⟨some 2,.assign (.tmp 5),none⟩]) (.seq (.reg [⟨some 8,.typeAssert (.tmp 5) 20 109 true,none⟩,⟨some 9,.extract (.tmp 8) 1,none⟩,⟨some 10,.extract (.tmp 8) 0,none⟩]) (.cond (.tmp 9) (.seq (.reg [⟨some 3,.alloc 109,none⟩,⟨none,.store 109 (.tmp 3) (.tmp 10),none⟩]) (.reg [⟨some 11,.move (.tmp 0),none⟩,⟨some 12,.fieldAddr 109 (.tmp 3) 0,none⟩,⟨some 13,.load 39 (.tmp 12),none⟩,⟨some 14,.nilCheck (.tmp 11),none⟩,⟨none,.store 39 (.tmp 14) (.tmp 13),none⟩])) (.seq (.reg [⟨some 4,.assign (.tmp 5),none⟩]) (.reg [⟨some 6,.move (.tmp 4),none⟩,⟨none,.panic (.tmp 6),none⟩])))))))
@[simp] theorem x40_s {C e s K} : type_of% (@X_at C e s K _ _ x40.eq_1):=X_at x40.eq_1
def an40 : Ann:=⟨[],[],[]⟩
theorem fr_caught : FR Try.prog 40 (cxA an40) 5 (sndX x40) [] Try.f40:=frA Try.func40 mixed (by decide +kernel) (by kernel_rfl) (by kernel_rfl)
@[simp] theorem fn_nil : xnilI Try.prog 20 .niliface = some (.bool true):=by kernel_rfl
@[simp] theorem fn_some (t : TypeId) (v : PV) : xnilI Try.prog 20 (.iface t v) = some (.bool false):=by kernel_rfl
theorem caught_none (c a : Int) : CallRec Try.prog 40 none [.ptr 0 0 0] [.rows 2 [[.int .i64 c,.int .i64 a]]] [.rows 2 [[.int .i64 c,.int .i64 a]]]:=by
 refine FR.og (v:=.tuple []) fr_caught (r:=none) (rv:=.niliface) rfl ?_
 simp only [x40,sndX]
 (refine Sg.h ?_;try repeat' ((with_reducible first|refine brA ?_|refine brE fun _=>?_|refine spl ⟨?_,?_⟩<;>intro _)<;>((try simp -implicitDefEqProofs);(try simp -implicitDefEqProofs(disch:=first|assumption|(try simp only[lens]);omega -splitDisjunctions)))))
theorem caught_plain (c a : Int) : CallOK Try.prog 40 [.ptr 0 0 0] [.rows 2 [[.int .i64 c,.int .i64 a]]] (.tuple []) [.rows 2 [[.int .i64 c,.int .i64 a]]]:=by
 refine FR.plain fr_caught ?_
 simp only [x40,sndX]
 (refine Sg.h ?_;try repeat' ((with_reducible first|refine brA ?_|refine brE fun _=>?_|refine spl ⟨?_,?_⟩<;>intro _)<;>((try simp -implicitDefEqProofs);(try simp -implicitDefEqProofs(disch:=first|assumption|(try simp only[lens]);omega -splitDisjunctions)))))
theorem caught_stop (c a c0 a0 : Int) : CallRec Try.prog 40 (some (stopE c a)) [.ptr 0 0 0] [.rows 2 [[.int .i64 c0,.int .i64 a0]]] [.rows 2 [[.int .i64 c,.int .i64 a]]]:=by
 refine FR.og (v:=.tuple []) fr_caught (r:=some (stopE c a)) (pan_fst c a) ?_
 simp only [x40,sndX]
 (refine Sg.h ?_;try repeat' ((with_reducible first|refine brA ?_|refine brE fun _=>?_|refine spl ⟨?_,?_⟩<;>intro _)<;>((try simp -implicitDefEqProofs);(try simp -implicitDefEqProofs(disch:=first|assumption|(try simp only[lens]);omega -splitDisjunctions)))))
def checkX (e : Ex) : Int × Int:=match exprW e (0,[]) with
 | .ok _=>(0,0)
 | .error (er,_)=>(er.1,(er.2 : Int))
def x23 : XC:=.seq (.reg [⟨some 1,.box 29 (.tmp 0),none⟩,⟨some 2,.alloc 39,none⟩]) (.seq (.reg [⟨none,.defer ⟨.value (.func 40),#[.tmp 2],#[77]⟩,none⟩]) (.seq (.reg [⟨some 4,.makeMap 67 none,none⟩,⟨some 5,.build 80 #[(1,.tmp 4)],none⟩,⟨some 6,.box 80 (.tmp 5),none⟩,⟨some 3,.assign (.tmp 6),none⟩]) (.seq (.reg [⟨some 7,.move (.tmp 3),none⟩,⟨some 8,.load 29 (.tmp 1),none⟩,⟨some 9,.call ⟨.value (.func 41),#[.tmp 7,.tmp 8],#[78,29]⟩,none⟩]) (.seq (.reg [⟨some 10,.load 39 (.tmp 2),none⟩,⟨none,.store 39 (.tmp 2) (.tmp 10),none⟩]) .ret))))
@[simp] theorem x23_s {C e s K} : type_of% (@X_at C e s K _ _ x23.eq_1):=X_at x23.eq_1
def an23 : Ann:=⟨[],[],[]⟩
theorem fdn_check : FDN Try.prog 23 (cxA an23) (preX 1 x23) 2 40 (dropX 2 x23) [.cell 2 39] Try.f23:=fdnA Try.func23 mixed (by decide +kernel) (by kernel_rfl) (by kernel_rfl)
theorem Check_first (e : Ex) : CallOK Try.prog 23 [.agg (exr e)] [] (.agg [.int .i64 (checkX e).1,.int .i64 (checkX e).2]) []:=by
 have hc:=expr_walker e (0,[]) (by simp)
 refine FDN.os fdn_check ?_
 simp only [x23,preX,dropX]
 unfold checkX
 cases hw : exprW e (0,[]) with
 | error er=>
  obtain ⟨er,s'⟩:=er
  rw [hw] at hc
  simp only [ToldW] at hc
  (refine Sg.h ?_;try repeat' ((with_reducible first|refine brA ?_|refine brE fun _=>?_|refine spl ⟨?_,?_⟩<;>intro _)<;>((try simp -implicitDefEqProofs);(try simp -implicitDefEqProofs(disch:=first|assumption|(try simp only[lens]);omega -splitDisjunctions)))))
  refine CL.psub [3,2] (s2:=wk s') (v:=stopE er.1 er.2) (by simpa [liveS,mapI] using hc) ?_
  (refine Sg.h ?_;try repeat' ((with_reducible first|refine brA ?_|refine brE fun _=>?_|refine spl ⟨?_,?_⟩<;>intro _)<;>((try simp -implicitDefEqProofs);(try simp -implicitDefEqProofs(disch:=first|assumption|(try simp only[lens]);omega -splitDisjunctions)))))
  refine DRecN.sub [1] (caught_stop er.1 er.2 0 0) ?_
  (refine Sg.h ?_;try repeat' ((with_reducible first|refine brA ?_|refine brE fun _=>?_|refine spl ⟨?_,?_⟩<;>intro _)<;>((try simp -implicitDefEqProofs);(try simp -implicitDefEqProofs(disch:=first|assumption|(try simp only[lens]);omega -splitDisjunctions)))))
 | ok s'=>
  rw [hw] at hc
  simp only [ToldW] at hc
  (refine Sg.h ?_;try repeat' ((with_reducible first|refine brA ?_|refine brE fun _=>?_|refine spl ⟨?_,?_⟩<;>intro _)<;>((try simp -implicitDefEqProofs);(try simp -implicitDefEqProofs(disch:=first|assumption|(try simp only[lens]);omega -splitDisjunctions)))))
  refine CL.sub [3,2] (s2:=wk s') (v:=.tuple []) (by simpa [liveS,mapI] using hc) ?_
  (refine Sg.h ?_;try repeat' ((with_reducible first|refine brA ?_|refine brE fun _=>?_|refine spl ⟨?_,?_⟩<;>intro _)<;>((try simp -implicitDefEqProofs);(try simp -implicitDefEqProofs(disch:=first|assumption|(try simp only[lens]);omega -splitDisjunctions)))))
  refine DRecN.sub [1] (caught_none 0 0) ?_
  (refine Sg.h ?_;try repeat' ((with_reducible first|refine brA ?_|refine brE fun _=>?_|refine spl ⟨?_,?_⟩<;>intro _)<;>((try simp -implicitDefEqProofs);(try simp -implicitDefEqProofs(disch:=first|assumption|(try simp only[lens]);omega -splitDisjunctions)))))
def zEx : Ex:=.mk 0 ⟨#[]⟩ [] []
def parsedO (t : ByteArray) : Ex × Int × Int:=match xparseR t with
 | .error (p,_)=>(zEx,1,(p : Int))
 | .ok (e,j)=>if bl t j < t.size then (e,1,(bl t j : Int)) else (e,0,0)
def x59 : XC:=.seq (.reg [⟨some 2,.alloc 29,none⟩,⟨some 3,.alloc 39,none⟩]) (.seq (.reg [⟨none,.defer ⟨.value (.func 40),#[.tmp 3],#[77]⟩,none⟩]) (.seq (.reg [⟨some 5,.move (.tmp 0),none⟩,⟨some 6,.build 120 #[(0,.tmp 5)],none⟩,⟨some 7,.box 120 (.tmp 6),none⟩,⟨some 4,.assign (.tmp 7),none⟩]) (.seq (.reg [⟨some 8,.move (.tmp 4),none⟩,⟨some 9,.call ⟨.value (.func 73),#[.tmp 8],#[118]⟩,none⟩,⟨none,.store 29 (.tmp 2) (.tmp 9),none⟩]) (.seq (.seq (.reg [⟨some 10,.move (.tmp 4),none⟩,⟨some 11,.call ⟨.value (.func 74),#[.tmp 10],#[118]⟩,none⟩]) (.seq (.reg [⟨some 12,.move (.tmp 4),none⟩,⟨some 13,.nilCheck (.tmp 12),none⟩,⟨some 14,.fieldAddr 120 (.tmp 13) 1,none⟩,⟨some 15,.load 3 (.tmp 14),none⟩,⟨some 16,.move (.tmp 0),none⟩,⟨some 17,.call ⟨.builtin .len,#[.tmp 16],#[9]⟩,none⟩,⟨some 18,.binOp .lss 3 (.tmp 15) (.tmp 17) 3,none⟩]) (.cond (.tmp 18) (.reg [⟨some 19,.move (.tmp 4),none⟩,⟨some 20,.move (.tmp 4),none⟩,⟨some 21,.nilCheck (.tmp 20),none⟩,⟨some 22,.fieldAddr 120 (.tmp 21) 1,none⟩,⟨some 23,.load 3 (.tmp 22),none⟩,⟨some 24,.call ⟨.value (.func 75),#[.tmp 19,.tmp 23],#[118,3]⟩,none⟩]) .skip))) (.seq (.drawn 7 [⟨some 25,.load 29 (.tmp 2),none⟩,⟨some 26,.load 39 (.tmp 3),none⟩,⟨none,.store 29 (.tmp 2) (.tmp 25),none⟩,⟨none,.store 39 (.tmp 3) (.tmp 26),none⟩]) .ret)))))
@[simp] theorem x59_s {C e s K} : type_of% (@X_at C e s K _ _ x59.eq_1):=X_at x59.eq_1
def an59 : Ann:=⟨[(7,.mix3 2 1)],[],[]⟩
@[simp] theorem an59_a : an59.clsOf 7 = .mix3 2 1 ∧ an59.frzOf 7 = []:=⟨rfl,rfl⟩
theorem fdn_parsed : FDN Try.prog 59 (cxA an59) (preX 1 x59) 3 40 (dropX 2 x59) [.cell 2 29,.cell 3 39] Try.f59:=fdnA Try.func59 mixed (by decide +kernel) (by kernel_rfl) (by kernel_rfl)
theorem parsed_first (t : ByteArray) (hs : t.size ≤ 1000000) : CallOK Try.prog 59 [.str t] [] (.tuple [.agg (exr (parsedO t).1),.agg [.int .i64 (parsedO t).2.1,.int .i64 (parsedO t).2.2]]) []:=by
 refine FDN.os fdn_parsed ?_
 simp only [x59,preX,dropX]
 have h0:=xparse_told t hs
 unfold parsedO
 cases hp0 : xparseR t with
 | error q=>
  obtain ⟨p,q⟩:=q
  rw [hp0] at h0
  simp only [ToldA] at h0
  (refine Sg.h ?_;try repeat' ((with_reducible first|refine brA ?_|refine brE fun _=>?_|refine spl ⟨?_,?_⟩<;>intro _)<;>((try simp -implicitDefEqProofs);(try simp -implicitDefEqProofs(disch:=first|assumption|(try simp only[lens]);omega -splitDisjunctions)))))
  refine CL.psub [2] h0 ?_
  (refine Sg.h ?_;try repeat' ((with_reducible first|refine brA ?_|refine brE fun _=>?_|refine spl ⟨?_,?_⟩<;>intro _)<;>((try simp -implicitDefEqProofs);(try simp -implicitDefEqProofs(disch:=first|assumption|(try simp only[lens]);omega -splitDisjunctions)))))
  refine DRecN.sub [1] (caught_stop 1 p 0 0) ?_
  (refine Sg.h ?_;try repeat' ((with_reducible first|refine brA ?_|refine brE fun _=>?_|refine spl ⟨?_,?_⟩<;>intro _)<;>((try simp -implicitDefEqProofs);(try simp -implicitDefEqProofs(disch:=first|assumption|(try simp only[lens]);omega -splitDisjunctions)))))
  all_goals rfl
 | ok r=>
  obtain ⟨e,j⟩:=r
  rw [hp0] at h0
  obtain ⟨h0,h1,h2⟩:=h0
  have hb:=blanks_first t j hs h2
  have hbl:=bl_le h2
  have hf2:=fail_first t (bl t j) (bl t j)
  dsimp only
  generalize bl t j = k at *
  by_cases hk : k < t.size
  ·rw [if_pos hk]
   have hk' : (k : Int) < (t.size : Int):=by omega
   (refine Sg.h ?_;try repeat' ((with_reducible first|refine brA ?_|refine brE fun _=>?_|refine spl ⟨?_,?_⟩<;>intro _)<;>((try simp -implicitDefEqProofs);(try simp -implicitDefEqProofs(disch:=first|assumption|(try simp only[lens]);omega -splitDisjunctions)))))
   refine CL.sub [2] h0 ?_
   (refine Sg.h ?_;try repeat' ((with_reducible first|refine brA ?_|refine brE fun _=>?_|refine spl ⟨?_,?_⟩<;>intro _)<;>((try simp -implicitDefEqProofs);(try simp -implicitDefEqProofs(disch:=first|assumption|(try simp only[lens]);omega -splitDisjunctions)))))
   refine CL.sub [2] hb ?_
   (refine Sg.h ?_;try repeat' ((with_reducible first|refine brA ?_|refine brE fun _=>?_|refine spl ⟨?_,?_⟩<;>intro _)<;>((try simp -implicitDefEqProofs [hk']);(try simp -implicitDefEqProofs(disch:=first|assumption|(try simp only[lens]);omega -splitDisjunctions) [hk']))))
   refine CL.psub [2] hf2 ?_
   (refine Sg.h ?_;try repeat' ((with_reducible first|refine brA ?_|refine brE fun _=>?_|refine spl ⟨?_,?_⟩<;>intro _)<;>((try simp -implicitDefEqProofs);(try simp -implicitDefEqProofs(disch:=first|assumption|(try simp only[lens]);omega -splitDisjunctions)))))
   refine DRecN.sub [1] (caught_stop 1 k 0 0) ?_
   (refine Sg.h ?_;try repeat' ((with_reducible first|refine brA ?_|refine brE fun _=>?_|refine spl ⟨?_,?_⟩<;>intro _)<;>((try simp -implicitDefEqProofs);(try simp -implicitDefEqProofs(disch:=first|assumption|(try simp only[lens]);omega -splitDisjunctions)))))
  ·rw [if_neg hk]
   have hk' : ¬ (k : Int) < (t.size : Int):=by omega
   (refine Sg.h ?_;try repeat' ((with_reducible first|refine brA ?_|refine brE fun _=>?_|refine spl ⟨?_,?_⟩<;>intro _)<;>((try simp -implicitDefEqProofs);(try simp -implicitDefEqProofs(disch:=first|assumption|(try simp only[lens]);omega -splitDisjunctions)))))
   refine CL.sub [2] h0 ?_
   (refine Sg.h ?_;try repeat' ((with_reducible first|refine brA ?_|refine brE fun _=>?_|refine spl ⟨?_,?_⟩<;>intro _)<;>((try simp -implicitDefEqProofs);(try simp -implicitDefEqProofs(disch:=first|assumption|(try simp only[lens]);omega -splitDisjunctions)))))
   refine CL.sub [2] hb ?_
   (refine Sg.h ?_;try repeat' ((with_reducible first|refine brA ?_|refine brE fun _=>?_|refine spl ⟨?_,?_⟩<;>intro _)<;>((try simp -implicitDefEqProofs [hk']);(try simp -implicitDefEqProofs(disch:=first|assumption|(try simp only[lens]);omega -splitDisjunctions) [hk']))))
   repeat' (first | refine And.intro ?_ ?_)
   all_goals (refine DRecN.sub [1] (caught_none 0 0) ?_)
   all_goals ((refine Sg.h ?_;try repeat' ((with_reducible first|refine brA ?_|refine brE fun _=>?_|refine spl ⟨?_,?_⟩<;>intro _)<;>((try simp -implicitDefEqProofs);(try simp -implicitDefEqProofs(disch:=first|assumption|(try simp only[lens]);omega -splitDisjunctions))))))
def x58 : XC:=.seq (.reg [⟨some 2,.call ⟨.value (.func 40),#[.tmp 0],#[77]⟩,none⟩]) (.seq (.reg [⟨some 3,.fieldAddr 39 (.tmp 0) 0,none⟩,⟨some 4,.load 3 (.tmp 3),none⟩,⟨some 5,.binOp .neq 3 (.tmp 4) (.const (.int .i64 0)) 3,none⟩]) (.cond (.tmp 5) (.reg [⟨some 6,.build 29 #[],none⟩,⟨none,.store 29 (.tmp 1) (.tmp 6),none⟩]) .skip))
@[simp] theorem x58_s {C e s K} : type_of% (@X_at C e s K _ _ x58.eq_1):=X_at x58.eq_1
def an58 : Ann:=⟨[],[],[]⟩
theorem fi58 : FI Try.prog 58 (cxA an58) x58 [] Try.f58:=fiA Try.func58 mixed
theorem parse1x_ok (e : Ex) : CallRec Try.prog 58 none [.ptr 0 0 0,.ptr 1 0 0] [.rows 2 [[.int .i64 0,.int .i64 0]],.rows 4 [exr e]] [.rows 2 [[.int .i64 0,.int .i64 0]],.rows 4 [exr e]]:=by
 have h1:=caught_plain 0 0
 refine FI.recn (v:=.tuple []) fi58 ?_
 (refine Sg.h ?_;try repeat' ((with_reducible first|refine brA ?_|refine brE fun _=>?_|refine spl ⟨?_,?_⟩<;>intro _)<;>((try simp -implicitDefEqProofs);(try simp -implicitDefEqProofs(disch:=first|assumption|(try simp only[lens]);omega -splitDisjunctions)))))
 refine CL.sub [0] h1 ?_
 (refine Sg.h ?_;try repeat' ((with_reducible first|refine brA ?_|refine brE fun _=>?_|refine spl ⟨?_,?_⟩<;>intro _)<;>((try simp -implicitDefEqProofs);(try simp -implicitDefEqProofs(disch:=first|assumption|(try simp only[lens]);omega -splitDisjunctions)))))
theorem parse1x_bad (c a : Int) (hc : ¬ c = 0) (e : Ex) : CallRec Try.prog 58 none [.ptr 0 0 0,.ptr 1 0 0] [.rows 2 [[.int .i64 c,.int .i64 a]],.rows 4 [exr e]] [.rows 2 [[.int .i64 c,.int .i64 a]],.rows 4 [[.int .i64 0,.str ⟨#[]⟩,.nilsl,.nilsl]]]:=by
 have h1:=caught_plain c a
 refine FI.recn (v:=.tuple []) fi58 ?_
 (refine Sg.h ?_;try repeat' ((with_reducible first|refine brA ?_|refine brE fun _=>?_|refine spl ⟨?_,?_⟩<;>intro _)<;>((try simp -implicitDefEqProofs);(try simp -implicitDefEqProofs(disch:=first|assumption|(try simp only[lens]);omega -splitDisjunctions)))))
 refine CL.sub [0] h1 ?_
 (refine Sg.h ?_;try repeat' ((with_reducible first|refine brA ?_|refine brE fun _=>?_|refine spl ⟨?_,?_⟩<;>intro _)<;>((try simp -implicitDefEqProofs [hc]);(try simp -implicitDefEqProofs(disch:=first|assumption|(try simp only[lens]);omega -splitDisjunctions) [hc]))))
def parseX (t : ByteArray) : Ex × Int × Int:=
 if 20000 < t.size then (zEx,2,0) else if (parsedO t).2.1 ≠ 0 then (zEx,(parsedO t).2) else if (checkX (parsedO t).1).1 ≠ 0 then (zEx,checkX (parsedO t).1) else ((parsedO t).1,0,0)
theorem exr_zEx : exr zEx = [.int .i64 0,.str ⟨#[]⟩,.list [],.list []]:=by rw [exr_eq];rfl
def Bad (R : RW) : Prop:=∀ er s,R = .error (er,s) → er.1 ≠ 0
theorem bad_err {c : Int} {p : Nat} {s : WS} (h : c ≠ 0) : Bad (.error ((c,p),s)):=fun er s' e=>by cases e;exact h
theorem bad_ok {s : WS} : Bad (.ok s):=fun er s' e=>by cases e
theorem manyW_bad {p : Nat} {key : ByteArray} {c : Nat} {s : WS} : Bad (manyW p key c s):=by
 unfold manyW
 split
 ·split
  ·exact bad_ok
  ·exact bad_err (by decide)
 ·exact bad_ok
theorem wordH_bad {nm : ByteArray} {c : Nat} {s : WS} : Bad (wordH nm c s):=by
 unfold wordH
 split
 ·exact bad_err (by decide)
 split
 ·split
  ·exact bad_err (by decide)
  ·exact bad_ok
 split
 ·exact manyW_bad
 ·exact bad_err (by decide)
theorem bad_bind {R : RW} {f : WS → RW} (hf : ∀ s,Bad (f s)) : Bad R → Bad (match R with
  | .ok s=>f s
  | .error e=>.error e):=by
 cases R with
 | ok s=>exact fun _=>hf s
 | error e=>exact fun h=>h
theorem wordsW_bad (l : List Wd) (ih : ∀ w ∈ l,∀ s,Bad (wordW w s)) : ∀ s,Bad (wordsW l s):=by
 induction l with
 | nil=>intro s;rw [wordsW];exact bad_ok
 | cons w r ihr=>
  intro s
  rw [wordsW]
  exact bad_bind (ihr fun w hw=>ih w (by simp [hw])) (ih w (by simp) s)
theorem wordW_bad (w : Wd) : ∀ s,Bad (wordW w s):=by
 induction w using Wd.ind with
 | h w ih=>
  intro s
  rw [wordW_eq]
  exact bad_bind (wordsW_bad _ ih) wordH_bad
theorem exprH_bad {k : Int} {nm : ByteArray} {wc kc : Nat} {s : WS} : Bad (exprH k nm wc kc s):=by
 unfold exprH
 split
 ·exact bad_err (by decide)
 split
 ·exact bad_err (by decide)
 split
 ·exact bad_err (by decide)
 split
 ·split
  ·exact manyW_bad
  ·exact bad_err (by decide)
 split
 ·split
  ·exact bad_ok
  ·exact bad_err (by decide)
 split
 ·exact bad_ok
 ·exact bad_err (by decide)
theorem exprsW_bad (l : List Ex) (ih : ∀ w ∈ l,∀ s,Bad (exprW w s)) : ∀ s,Bad (exprsW l s):=by
 induction l with
 | nil=>intro s;rw [exprsW];exact bad_ok
 | cons w r ihr=>
  intro s
  rw [exprsW]
  exact bad_bind (ihr fun w hw=>ih w (by simp [hw])) (ih w (by simp) s)
theorem exprW_bad (e : Ex) : ∀ s,Bad (exprW e s):=by
 induction e using Ex.ind with
 | h e ih=>
  intro s
  rw [exprW_eq]
  exact bad_bind (fun s1=>bad_bind (exprsW_bad _ ih) (wordsW_bad _ (fun w _=>wordW_bad w) s1)) exprH_bad
theorem checkX_zero {e : Ex} (h : (checkX e).1 = 0) : checkX e = (0,0):=by
 unfold checkX at h ⊢
 split
 ·rfl
 ·rename_i er s he
  rw [he] at h
  exact absurd h (exprW_bad e _ _ _ he)
def x36 : XC:=.seq (.reg [⟨some 2,.alloc 29,none⟩,⟨some 3,.alloc 39,none⟩]) (.seq (.seq (.reg [⟨some 4,.move (.tmp 0),none⟩,⟨some 5,.call ⟨.builtin .len,#[.tmp 4],#[9]⟩,none⟩,⟨some 6,.binOp .gtr 3 (.tmp 5) (.const (.int .i64 20000)) 3,none⟩]) (.cond (.tmp 6) (.seq (.drawn 2 [⟨some 7,.load 29 (.tmp 2),none⟩,⟨some 8,.call ⟨.value (.func 25),#[.const (.int .i64 2),.const (.int .i64 0)],#[3,3]⟩,none⟩,⟨none,.store 29 (.tmp 2) (.tmp 7),none⟩,⟨none,.store 39 (.tmp 3) (.tmp 8),none⟩]) .ret) .skip)) (.seq (.reg [⟨some 9,.makeFunc (.func 58) #[] #[.tmp 3,.tmp 2],none⟩,⟨none,.defer ⟨.value (.tmp 9),#[],#[]⟩,none⟩]) (.seq (.reg [⟨some 11,.move (.tmp 0),none⟩,⟨some 12,.call ⟨.value (.func 59),#[.tmp 11],#[9]⟩,none⟩,⟨some 10,.move (.tmp 12),none⟩,⟨some 13,.extract (.tmp 10) 0,none⟩,⟨some 14,.extract (.tmp 10) 1,none⟩,⟨none,.store 29 (.tmp 2) (.tmp 13),none⟩,⟨none,.store 39 (.tmp 3) (.tmp 14),none⟩]) (.seq (.seq (.reg [⟨some 15,.fieldAddr 39 (.tmp 3) 0,none⟩,⟨some 16,.load 3 (.tmp 15),none⟩,⟨some 17,.binOp .eql 3 (.tmp 16) (.const (.int .i64 0)) 3,none⟩]) (.cond (.tmp 17) (.reg [⟨some 18,.load 29 (.tmp 2),none⟩,⟨some 19,.call ⟨.value (.func 23),#[.tmp 18],#[29]⟩,none⟩,⟨none,.store 39 (.tmp 3) (.tmp 19),none⟩]) .skip)) (.seq (.drawn 7 [⟨some 20,.load 29 (.tmp 2),none⟩,⟨some 21,.load 39 (.tmp 3),none⟩,⟨none,.store 29 (.tmp 2) (.tmp 20),none⟩,⟨none,.store 39 (.tmp 3) (.tmp 21),none⟩]) .ret)))))
@[simp] theorem x36_s {C e s K} : type_of% (@X_at C e s K _ _ x36.eq_1):=X_at x36.eq_1
def an36 : Ann:=⟨[(2,.mix 2),(7,.mix3 2 1)],[],[]⟩
@[simp] theorem an36_a : an36.clsOf 2 = .mix 2 ∧ an36.clsOf 7 = .mix3 2 1 ∧ an36.frzOf 2 = [] ∧ an36.frzOf 7 = []:=⟨rfl,rfl,rfl,rfl⟩
theorem fdx_parse : FD Try.prog 36 (cxA an36) (preX 2 x36) 9 58 [.tmp 3,.tmp 2] (dropX 3 x36) [.cell 2 29,.cell 3 39] Try.f36:=fdA Try.func36 mixed (by decide +kernel) (by kernel_rfl) (by kernel_rfl)
theorem Parse_first (t : ByteArray) : CallOK Try.prog 36 [.str t] [] (.tuple [.agg (exr (parseX t).1),.agg [.int .i64 (parseX t).2.1,.int .i64 (parseX t).2.2]]) []:=by
 have hf1:=fault_first 2 0
 refine FD.os fdx_parse ?_
 simp only [x36,preX,dropX]
 unfold parseX
 by_cases hm : 20000 < t.size
 ·rw [if_pos hm]
  have hm' : (20000 : Int) < (t.size : Int):=by omega
  (refine Sg.h ?_;try repeat' ((first|(with_reducible first|refine brA ?_|refine brE fun _=>?_|refine spl ⟨?_,?_⟩<;>intro _)|refine clo hf1 ?_)<;>((try simp -implicitDefEqProofs [hm',exr_zEx]);(try simp -implicitDefEqProofs(disch:=first|assumption|(try simp only[lens]);omega -splitDisjunctions) [hm',exr_zEx]))))
 ·rw [if_neg hm]
  have hm' : ¬ (20000 : Int) < (t.size : Int):=by omega
  have hs : t.size ≤ 1000000:=by omega
  have h0:=parsed_first t hs
  generalize parsedO t = R at *
  obtain ⟨e,c,a⟩:=R
  dsimp only at *
  have h1:=Check_first e
  by_cases hc : c = 0
  ·rw [if_neg (by simp [hc])]
   subst hc
   by_cases hk : (checkX e).1 = 0
   ·rw [if_neg (by simp [hk])]
    rw [checkX_zero hk] at h1
    have hp:=parse1x_ok e
    (refine Sg.h ?_;try repeat' ((first|(with_reducible first|refine brA ?_|refine brE fun _=>?_|refine spl ⟨?_,?_⟩<;>intro _)|refine clo hf1 ?_|refine clo h0 ?_|refine clo h1 ?_)<;>((try simp -implicitDefEqProofs [hm']);(try simp -implicitDefEqProofs(disch:=first|assumption|(try simp only[lens]);omega -splitDisjunctions) [hm']))))
    repeat' (first | refine And.intro ?_ ?_)
    all_goals (refine DRec.sub (s2:=[.rows 2 [[.int .i64 0,.int .i64 0]],.rows 4 [exr e]]) [1,0] (by simpa using hp) ?_)
    all_goals ((refine Sg.h ?_;try repeat' ((with_reducible first|refine brA ?_|refine brE fun _=>?_|refine spl ⟨?_,?_⟩<;>intro _)<;>((try simp -implicitDefEqProofs);(try simp -implicitDefEqProofs(disch:=first|assumption|(try simp only[lens]);omega -splitDisjunctions))))))
   ·rw [if_pos hk]
    generalize checkX e = q at *
    obtain ⟨c2,a2⟩:=q
    dsimp only at *
    have hp:=parse1x_bad c2 a2 hk e
    (refine Sg.h ?_;try repeat' ((first|(with_reducible first|refine brA ?_|refine brE fun _=>?_|refine spl ⟨?_,?_⟩<;>intro _)|refine clo hf1 ?_|refine clo h0 ?_|refine clo h1 ?_)<;>((try simp -implicitDefEqProofs [hm',hk]);(try simp -implicitDefEqProofs(disch:=first|assumption|(try simp only[lens]);omega -splitDisjunctions) [hm',hk]))))
    repeat' (first | refine And.intro ?_ ?_)
    all_goals (refine DRec.sub (s2:=[.rows 2 [[.int .i64 c2,.int .i64 a2]],.rows 4 [[.int .i64 0,.str ⟨#[]⟩,.nilsl,.nilsl]]]) [1,0] (by simpa using hp) ?_)
    all_goals ((refine Sg.h ?_;try repeat' ((with_reducible first|refine brA ?_|refine brE fun _=>?_|refine spl ⟨?_,?_⟩<;>intro _)<;>((try simp -implicitDefEqProofs [exr_zEx]);(try simp -implicitDefEqProofs(disch:=first|assumption|(try simp only[lens]);omega -splitDisjunctions) [exr_zEx])))))
  ·rw [if_pos hc]
   have hp:=parse1x_bad c a hc e
   (refine Sg.h ?_;try repeat' ((first|(with_reducible first|refine brA ?_|refine brE fun _=>?_|refine spl ⟨?_,?_⟩<;>intro _)|refine clo hf1 ?_|refine clo h0 ?_)<;>((try simp -implicitDefEqProofs [hm',hc]);(try simp -implicitDefEqProofs(disch:=first|assumption|(try simp only[lens]);omega -splitDisjunctions) [hm',hc]))))
   repeat' (first | refine And.intro ?_ ?_)
   all_goals (refine DRec.sub (s2:=[.rows 2 [[.int .i64 c,.int .i64 a]],.rows 4 [[.int .i64 0,.str ⟨#[]⟩,.nilsl,.nilsl]]]) [1,0] (by simpa using hp) ?_)
   all_goals ((refine Sg.h ?_;try repeat' ((with_reducible first|refine brA ?_|refine brE fun _=>?_|refine spl ⟨?_,?_⟩<;>intro _)<;>((try simp -implicitDefEqProofs [exr_zEx]);(try simp -implicitDefEqProofs(disch:=first|assumption|(try simp only[lens]);omega -splitDisjunctions) [exr_zEx])))))
end Go.Proofs.Ytbimioonhfhflaa
namespace Go.Proofs.Ytbimioonhfhflaa
open Go Go.Pv
theorem Fm.ind {p : Fm → Prop} (h : ∀ f : Fm,(∀ g ∈ f.kids,p g) → p f) : ∀ f,p f
 | .mk k nm kids=>h _ fun g hg=>Fm.ind h g
termination_by f=>SizeOf.sizeOf f
decreasing_by
 have:=List.sizeOf_lt_of_mem hg
 simp only [Fm.kids,Fm.mk.sizeOf_spec] at *
 omega
end Go.Proofs.Ytbimioonhfhflaa
namespace Go.Proofs.Ytbimioonhfhflaa
open Go Go.Pv
mutual
def ev (n : Nat) (t : Nat → Nat → Bool) (hold : Nat → ByteArray → Bool) : Fm → Nat → Bool
 | .mk k nm kids=>fun w=>
  let a:=((evs n t hold kids)[0]?).getD fun _=>false
  let b:=((evs n t hold kids)[1]?).getD fun _=>false
  if k = 1 then hold w nm else if k = 2 then true else if k = 4 then !a w else if k = 5 then a w && b w else if k = 6 then a w || b w else if k = 7 then !a w || b w
  else if k = 8 then (List.range n).all fun v=>!t w v || a v else if k = 9 then (List.range n).any fun v=>t w v && a v else false
def evs (n : Nat) (t : Nat → Nat → Bool) (hold : Nat → ByteArray → Bool) : List Fm → List (Nat → Bool)
 | []=>[]
 | f :: r=>ev n t hold f :: evs n t hold r
end
inductive OkF (N : ByteArray → Prop) : Fm → Prop where
 | mk {k : Int} {nm : ByteArray} {kids : List Fm} (h : (kids.length : Int) = kidsN k) (hN : k = 1 → N nm) (g : ∀ f ∈ kids,OkF N f) : OkF N (.mk k nm kids)
mutual
def pre : Fm → List Fm
 | .mk k nm l=>.mk k nm l :: pres l
def pres : List Fm → List Fm
 | []=>[]
 | f :: r=>pre f ++ pres r
end
theorem pre_eq (f : Fm) : pre f = f :: pres f.kids:=by cases f with | mk k nm l=>rw [pre];rfl
theorem pres_nil : pres [] = []:=by rw [pres]
theorem pres_cons (f : Fm) (r : List Fm) : pres (f :: r) = pre f ++ pres r:=by rw [pres]
def okN (x : Fm) : Prop:=0 ≤ kidsN x.kind ∧ (x.kids.length : Int) = kidsN x.kind ∧ ¬ ((x.kind = 1 ∧ isNameB x.name = false) ∨ (x.kind ≠ 1 ∧ x.name ≠ ⟨#[]⟩))
theorem okF_of_pre : ∀ f : Fm,(∀ x ∈ pre f,okN x) → OkF (fun n=>isNameB n = true) f:=by
 intro f
 induction f using Fm.ind with
 | h f ih=>
  intro h
  have h0:=h f (by rw [pre_eq];simp)
  cases f with
  | mk k nm l=>
   refine .mk h0.2.1 (fun hk=>?_) fun g hg=>ih g hg fun x hx=>h x ?_
   ·have := h0.2.2
    simp only [Fm.kind,Fm.name,hk,true_and,not_or] at this
    simpa using this.1
   ·rw [pre_eq]
    refine List.mem_cons_of_mem _ ?_
    have : ∀ l : List Fm,g ∈ l → x ∈ pres l:=by
     intro l
     induction l with
     | nil=>intro h;cases h
     | cons a r ihr=>
      intro h
      rw [pres_cons,List.mem_append]
      cases h with
      | head=>exact .inl hx
      | tail _ h=>exact .inr (ihr h)
    exact this l hg
end Go.Proofs.Ytbimioonhfhflaa
namespace Go.Proofs.Ytbimioonhfhflaa
open Go Go.Pv
theorem OkF.kid {N : ByteArray → Prop} {f g : Fm} (h : OkF N f) (hg : g ∈ f.kids) : OkF N g:=by
 cases h with | mk a b c=>exact c g hg
theorem pres_mem {x g : Fm} (hx : x ∈ pre g) : ∀ l : List Fm,g ∈ l → x ∈ pres l
 | a :: r,h=>by
  rw [pres_cons,List.mem_append]
  cases h with
  | head=>exact .inl hx
  | tail _ h=>exact .inr (pres_mem hx r h)
theorem mem_pres {x : Fm} : ∀ l : List Fm,x ∈ pres l → ∃ g ∈ l,x ∈ pre g
 | [],h=>by rw [pres_nil] at h;cases h
 | a :: r,h=>by
  rw [pres_cons,List.mem_append] at h
  rcases h with h | h
  ·exact ⟨a,by simp,h⟩
  ·obtain ⟨g,h1,h2⟩:=mem_pres r h;exact ⟨g,by simp [h1],h2⟩
theorem pres_len {g : Fm} : ∀ l : List Fm,g ∈ l → (pre g).length ≤ (pres l).length
 | a :: r,h=>by
  rw [pres_cons,List.length_append]
  cases h with
  | head=>omega
  | tail _ h=>have:=pres_len r h;omega
theorem pre_sub {N : ByteArray → Prop} (f : Fm) (hf : OkF N f) : ∀ x ∈ pre f,OkF N x ∧ (pre x).length ≤ (pre f).length ∧ ∀ y ∈ pre x,y ∈ pre f:=by
 induction f using Fm.ind with
 | h f ih=>
  intro x hx
  rw [pre_eq] at hx
  cases hx with
  | head=>exact ⟨hf,Nat.le_refl _,fun y h=>h⟩
  | tail _ hx=>
   obtain ⟨g,h1,h2⟩:=mem_pres _ hx
   obtain ⟨h3,h4,h5⟩:=ih g h1 (hf.kid h1) x h2
   refine ⟨h3,?_,fun y hy=>?_⟩
   ·have := pres_len _ h1
    rw [pre_eq f];simp;omega
   ·rw [pre_eq f];exact List.mem_cons_of_mem _ (pres_mem (h5 y hy) _ h1)
def Td (f : Fm) : Prop:=∀ x ∈ pre f,okN x
theorem Td.kid {f g : Fm} (h : Td f) (hg : g ∈ f.kids) : Td g:=fun x hx=>h x (by rw [pre_eq];exact List.mem_cons_of_mem _ (pres_mem hx _ hg))
theorem Td.ok {f : Fm} (h : Td f) : OkF (fun n=>isNameB n = true) f:=okF_of_pre f h
theorem Td.pre {f x : Fm} (h : Td f) (hx : x ∈ pre f) : Td x:=fun y hy=>h y ((pre_sub f h.ok x hx).2.2 y hy)
section
variable {n : Nat} {t : Nat → Nat → Bool} {hold : Nat → ByteArray → Bool} {w : Nat} {nm : ByteArray} {l : List Fm} {a b : Fm}
end
end Go.Proofs.Ytbimioonhfhflaa
namespace Go.Proofs.Ytbimioonhfhflaa
open Go Go.Pv
inductive Nd where
 | e (x : Ex)
 | w (x : Wd)
 deriving Inhabited
def ndr : Nd → List PV
 | .e x=>exr x ++ [.str ⟨#[]⟩,.nilsl,.bool false]
 | .w x=>[.int .i64 0,.str ⟨#[]⟩,.nilsl,.nilsl] ++ wrd x ++ [.bool true]
theorem ndr_e (x : Ex) : ndr (.e x) = [.int .i64 x.k,.str x.nm,.list (x.words.map wrd),.list (x.kids.map exr),.str ⟨#[]⟩,.nilsl,.bool false]:=by rw [ndr,exr_eq];rfl
theorem ndr_w (x : Wd) : ndr (.w x) = [.int .i64 0,.str ⟨#[]⟩,.nilsl,.nilsl,.str x.nm,.list (x.args.map wrd),.bool true]:=by rw [ndr,wrd_eq];rfl
theorem ndr_flat (p : Nd) : (ndr p).all flatV = true:=by
 cases p with
 | e x=>rw [ndr_e];rfl
 | w x=>rw [ndr_w];rfl
instance : FlatRow ndr:=⟨ndr_flat⟩
@[simp] theorem ndr_length (p : Nd) : (ndr p).length = 7:=by
 cases p with
 | e x=>rw [ndr_e];rfl
 | w x=>rw [ndr_w];rfl
@[simp] theorem ndr_isCell (p : Nd) : (∀ x ∈ ndr p,isCell x = true) = True:=by
 cases p with
 | e x=>rw [ndr_e];simp
 | w x=>rw [ndr_w];simp
@[simp] theorem ndr_renm {ρ : List Nat} {n : Nat} {p : Nd} : (ndr p).map (renN ρ n) = ndr p:=map_id_of (fun v=>flat_ren) (ndr_flat p)
@[simp] theorem ndr_derefm {s : Store} {n : Nat} {p : Nd} : (ndr p).map (deref s n) = ndr p:=map_id_of (fun v=>flat_deref) (ndr_flat p)
@[simp] theorem ndr_frz {F : List Nat} {s : Store} {p : Nd} : (ndr p).map (frzV F s) = ndr p:=map_id_of (fun v=>frzV_flat) (ndr_flat p)
@[simp] theorem ndr_up {ρ : List Nat} {n : Nat} {p : Nd} : (ndr p).map (upN ρ n) = ndr p:=map_id_of (fun v=>flat_up) (ndr_flat p)
@[simp] theorem ndr_refs {n : Nat} {p : Nd} : (ndr p).flatMap (refsN n) = []:=by
 cases p with
 | e x=>rw [ndr_e];simp
 | w x=>rw [ndr_w];simp
@[simp] theorem ndr_cat_e (x : Ex) : exr x ++ [PV.str ⟨#[]⟩,.nilsl,.bool false] = ndr (.e x):=rfl
@[simp] theorem ndr_cat_w (x : Wd) : PV.int .i64 0 :: .str ⟨#[]⟩ :: .nilsl :: .nilsl :: (wrd x ++ [.bool true]) = ndr (.w x):=rfl
mutual
def ndW : Wd → List Nd
 | .mk a l=>.w (.mk a l) :: ndWs l
def ndWs : List Wd → List Nd
 | []=>[]
 | w :: r=>ndW w ++ ndWs r
end
theorem ndW_eq (w : Wd) : ndW w = .w w :: ndWs w.args:=by cases w with | mk a l=>rw [ndW];rfl
@[simp] theorem ndWs_nil : ndWs [] = []:=by rw [ndWs]
mutual
def ndE : Ex → List Nd
 | .mk k a ws l=>.e (.mk k a ws l) :: (ndWs ws ++ ndEs l)
def ndEs : List Ex → List Nd
 | []=>[]
 | w :: r=>ndE w ++ ndEs r
end
theorem ndE_eq (x : Ex) : ndE x = .e x :: (ndWs x.words ++ ndEs x.kids):=by cases x with | mk k a ws l=>rw [ndE];rfl
@[simp] theorem ndEs_nil : ndEs [] = []:=by rw [ndEs]
theorem take_snocE {α : Type} {l : List α} {i : Nat} (h : i < l.length) : l.take (i + 1) = l.take i ++ [l[i]]:=by
 rw [List.take_add_one,List.getElem?_eq_getElem h];rfl
end Go.Proofs.Ytbimioonhfhflaa
namespace Go.Proofs.Ytbimioonhfhflaa
open Go Go.Pv
def chkW (nm : ByteArray) (c : Nat) : Except Int (Option (Bool × ByteArray × Nat)):=
 if isBigB nm = true then .ok (some (true,nm,c)) else if isNameB nm = true then (if 0 < c then .error 9 else .ok none) else .error 8
def chkX (k : Int) (nm : ByteArray) (wc kc : Nat) : Except Int (Option (Bool × ByteArray × Nat)):=
 if k < 1 ∨ 10 < k then .error 4 else if (0 ≤ wordsN k ∧ (wc : Int) ≠ wordsN k) ∨ (kc : Int) ≠ kidsX k then .error 9
 else if k = 1 then (if isBigB nm = true then .ok (some (false,nm,wc)) else .error 8)
 else if k = 9 ∨ k = 10 then (if isNameB nm = true then .ok none else .error 8)
 else if nm = ⟨#[]⟩ then .ok none else .error 8
def chkN : Nd → Except Int (Option (Bool × ByteArray × Nat))
 | .w x=>chkW x.nm x.args.length
 | .e x=>chkX x.k x.nm x.words.length x.kids.length
end Go.Proofs.Ytbimioonhfhflaa
namespace Go.Proofs.Ytbimioonhfhflaa
open Go Go.Pv
def stepW : Nd → WS → RW
 | .w x=>wordH x.nm x.args.length
 | .e x=>exprH x.k x.nm x.words.length x.kids.length
def foldW : List Nd → WS → RW
 | [],s=>.ok s
 | x :: r,s=>match stepW x s with
  | .ok s1=>foldW r s1
  | .error e=>.error e
theorem foldW_app (a b : List Nd) (s : WS) : foldW (a ++ b) s = match foldW a s with
  | .ok s1=>foldW b s1
  | .error e=>.error e:=by
 induction a generalizing s with
 | nil=>rfl
 | cons x r ih=>
  rw [List.cons_append,foldW,foldW]
  cases stepW x s with
  | ok s1=>exact ih s1
  | error e=>rfl
theorem wordsW_fold (l : List Wd) (ih : ∀ w ∈ l,∀ s,wordW w s = foldW (ndW w) s) : ∀ s,wordsW l s = foldW (ndWs l) s:=by
 induction l with
 | nil=>intro s;rw [wordsW,ndWs_nil,foldW]
 | cons w r ihr=>
  intro s
  rw [wordsW,ndWs,foldW_app,← ih w (by simp) s]
  dsimp only
  cases wordW w s with
  | ok s1=>exact ihr (fun w hw=>ih w (by simp [hw])) s1
  | error e=>rfl
theorem wordW_fold (w : Wd) : ∀ s,wordW w s = foldW (ndW w) s:=by
 induction w using Wd.ind with
 | h w ih=>
  intro s
  rw [wordW_eq,ndW_eq,foldW,stepW]
  cases wordH w.nm w.args.length s with
  | ok s1=>exact wordsW_fold _ ih s1
  | error e=>rfl
theorem exprsW_fold (l : List Ex) (ih : ∀ w ∈ l,∀ s,exprW w s = foldW (ndE w) s) : ∀ s,exprsW l s = foldW (ndEs l) s:=by
 induction l with
 | nil=>intro s;rw [exprsW,ndEs_nil,foldW]
 | cons w r ihr=>
  intro s
  rw [exprsW,ndEs,foldW_app,← ih w (by simp) s]
  dsimp only
  cases exprW w s with
  | ok s1=>exact ihr (fun w hw=>ih w (by simp [hw])) s1
  | error e=>rfl
theorem exprW_fold (e : Ex) : ∀ s,exprW e s = foldW (ndE e) s:=by
 induction e using Ex.ind with
 | h e ih=>
  intro s
  rw [exprW_eq,ndE_eq,foldW,stepW]
  cases exprH e.k e.nm e.words.length e.kids.length s with
  | ok s1=>
   dsimp only
   rw [foldW_app,← wordsW_fold _ (fun w _=>wordW_fold w) s1]
   cases wordsW e.words s1 with
   | ok s2=>exact exprsW_fold _ ih s2
   | error e=>rfl
  | error e=>rfl
def encW (b : Bool) (nm : ByteArray) : ByteArray:=(if b = true then (⟨#[102]⟩ : ByteArray) else ⟨#[112]⟩) ++ nm
theorem name_notbig {nm : ByteArray} (h : isNameB nm = true) : isBigB nm = false:=by
 unfold isNameB at h
 rw [Bool.and_eq_true,decide_eq_true_eq] at h
 rw [isBig_eq (by omega)]
 have h2 : letterB nm[0] = true:=by
  have:=h.2
  rw [← List.drop_zero (l:=nm.data.toList),all_at (by omega),Bool.and_eq_true] at this
  exact this.1
 have : capB nm[0] = false:=by
  unfold letterB at h2
  unfold capB
  rw [decide_eq_true_eq] at h2
  rw [decide_eq_false_iff_not];omega
 rw [this,Bool.and_false,Bool.false_and]
theorem stepW_eq (x : Nd) (s : WS) (h : s.1 ≠ 200) : stepW x s = match chkN x with
  | .error c=>.error ((c,s.1),(s.1 + 1,s.2))
  | .ok none=>.ok (s.1 + 1,s.2)
  | .ok (some (b,nm,c))=>manyW s.1 (encW b nm) c (s.1 + 1,s.2):=by
 cases x with
 | w x=>
  rw [stepW,chkN,wordH,chkW,if_neg h]
  by_cases h1 : isNameB x.nm = true
  ·have hnb := name_notbig h1
   rw [if_pos h1,if_neg (c:=isBigB x.nm = true) (by rw [hnb];decide),if_pos h1]
   by_cases h2 : 0 < x.args.length
   ·rw [if_pos h2,if_pos h2]
   ·rw [if_neg h2,if_neg h2]
  ·rw [if_neg h1,if_neg h1]
   by_cases h2 : isBigB x.nm = true
   ·rw [if_pos h2,if_pos h2];rfl
   ·rw [if_neg h2,if_neg h2]
 | e x=>
  rw [stepW,chkN,exprH,chkX,if_neg h]
  by_cases h1 : x.k < 1 ∨ 10 < x.k
  ·rw [if_pos h1,if_pos h1]
  rw [if_neg h1,if_neg h1]
  by_cases h2 : (0 ≤ wordsN x.k ∧ (x.words.length : Int) ≠ wordsN x.k) ∨ (x.kids.length : Int) ≠ kidsX x.k
  ·rw [if_pos h2,if_pos h2]
  rw [if_neg h2,if_neg h2]
  by_cases h3 : x.k = 1
  ·rw [if_pos h3,if_pos h3]
   by_cases h4 : isBigB x.nm = true
   ·rw [if_pos h4,if_pos h4];rfl
   ·rw [if_neg h4,if_neg h4]
  rw [if_neg h3,if_neg h3]
  by_cases h4 : x.k = 9 ∨ x.k = 10
  ·rw [if_pos h4,if_pos h4]
   by_cases h5 : isNameB x.nm = true
   ·rw [if_pos h5,if_pos h5]
   ·rw [if_neg h5,if_neg h5]
  rw [if_neg h4,if_neg h4]
  by_cases h5 : x.nm = ⟨#[]⟩
  ·rw [if_pos h5,if_pos h5]
  ·rw [if_neg h5,if_neg h5]
theorem stepW_200 (x : Nd) (s : WS) (h : s.1 = 200) : stepW x s = .error ((2,0),s):=by
 cases x with
 | w x=>rw [stepW,wordH,if_pos h]
 | e x=>rw [stepW,exprH,if_pos h]
end Go.Proofs.Ytbimioonhfhflaa
namespace Go.Proofs.Ytbimioonhfhflaa
open Go Go.Pv
structure Fn where
 name : ByteArray
 ar : Int
 tab : List Int
 deriving Inhabited
structure Pd where
 name : ByteArray
 ar : Int
 bits : List Bool
 deriving Inhabited
def fnRow (f : Fn) : List PV:=[.str f.name,.int .i64 f.ar,.list (f.tab.map intRow)]
instance : FlatRow fnRow:=⟨fun _=>rfl⟩
@[simp] theorem fn_len {f : Fn} : (fnRow f).length = 3:=rfl
@[simp] theorem fn_cell {f : Fn} : (∀ x ∈ fnRow f,isCell x = true) = True:=by simp [fnRow]
@[simp] theorem fn_cell2 {f : Fn} : (fnRow f).all isCell = true:=rfl
@[simp] theorem fn_get0 {f : Fn} : (fnRow f)[0]? = some (.str f.name):=rfl
@[simp] theorem fn_get1 {f : Fn} : (fnRow f)[1]? = some (.int .i64 f.ar):=rfl
@[simp] theorem fn_get2 {f : Fn} : (fnRow f)[2]? = some (.list (f.tab.map intRow)):=rfl
@[simp] theorem fn_ge0 {f : Fn} (h : 0 < (fnRow f).length) : (fnRow f)[0] = .str f.name:=rfl
@[simp] theorem fn_ge1 {f : Fn} (h : 1 < (fnRow f).length) : (fnRow f)[1] = .int .i64 f.ar:=rfl
@[simp] theorem fn_ge2 {f : Fn} (h : 2 < (fnRow f).length) : (fnRow f)[2] = .list (f.tab.map intRow):=rfl
@[simp] theorem fn_take3 {f : Fn} : (fnRow f).take 3 = fnRow f:=rfl
@[simp] theorem fn_drop1 {f : Fn} : (fnRow f).drop 1 = [.int .i64 f.ar,.list (f.tab.map intRow)]:=rfl
@[simp] theorem fn_drop2 {f : Fn} : (fnRow f).drop 2 = [.list (f.tab.map intRow)]:=rfl
@[simp] theorem fn_drop3 {f : Fn} : (fnRow f).drop 3 = []:=rfl
@[simp] theorem fn_tail {f : Fn} : (fnRow f).tail = [.int .i64 f.ar,.list (f.tab.map intRow)]:=rfl
theorem fn_flat (f : Fn) : (fnRow f).all flatV = true:=rfl
@[simp] theorem fn_renm {f : Fn} {ρ : List Nat} {n : Nat} : (fnRow f).map (renN ρ n) = fnRow f:=map_id_of (fun v=>flat_ren) (fn_flat f)
@[simp] theorem fn_derefm {f : Fn} {s : Store} {n : Nat} : (fnRow f).map (deref s n) = fnRow f:=map_id_of (fun v=>flat_deref) (fn_flat f)
@[simp] theorem fn_frz {f : Fn} {F : List Nat} {s : Store} : (fnRow f).map (frzV F s) = fnRow f:=map_id_of (fun v=>frzV_flat) (fn_flat f)
@[simp] theorem fn_up {f : Fn} {ρ : List Nat} {n : Nat} : (fnRow f).map (upN ρ n) = fnRow f:=map_id_of (fun v=>flat_up) (fn_flat f)
@[simp] theorem fn_refs {f : Fn} {n : Nat} : (fnRow f).flatMap (refsN n) = []:=by simp [fnRow]
@[simp] theorem fn_soft {f : Fn} : (fnRow f).map soft1 = fnRow f:=rfl
end Go.Proofs.Ytbimioonhfhflaa
namespace Go.Proofs.Ytbimioonhfhflaa
open Go Go.Pv
@[simp] theorem deref_fn {s : Store} {n : Nat} {a : Fn} : deref s (n + 1) (.agg (fnRow a)) = .agg (fnRow a):=by simp
end Go.Proofs.Ytbimioonhfhflaa
