import Derived.Test.YtcllmionhlmjfaaGFaE
import Derived.Test.YtcllmionhlmjfaaGFaG
import Derived.Test.YtcllmionhlmjfaaGPvRecN
import Derived.Test.YtcllmionhlmjfaaGPvPan
import Derived.Test.YtcllmionhlmjfaaGPvQg
import Derived.Test.YtcllmionhlmjfaaGTy
import Derived.Ground.NamesProg
import Derived.Shelf.Slices.In.CompactS
import Derived.Shelf.Slices.In.SortAlone
import Derived.Shelf.Slices.In.SortNone
import Derived.Sort.EveryDepth
import Derived.Sort.Grow
import Derived.Lib.RowBridge
set_option linter.unusedVariables false
set_option linter.unusedSimpArgs false
set_option maxRecDepth 100000
set_option maxHeartbeats 4000000
set_option linter.unusedSectionVars false
namespace Go.Proofs.Ytcllmionhlmjfaa
open Go Go.Pv
def XXf (t : ByteArray) : Nat → (Nat → RX) × (Nat → RX)
 | 0 => (fun i => .error (i,i),fun i => .error (i,i))
 | n + 1 => (xnotP t (XXf t n).1 (XXf t n).2,xthenP t (xopP t ⟨#[124]⟩ 7 (xopP t ⟨#[38]⟩ 6 (xnotP t (XXf t n).1 (XXf t n).2))) (XXf t n).2)
theorem xreader_told (t : ByteArray) (hs : t.size ≤ 1000000) : ∀ n i,i ≤ t.size → t.size - i < n → ToldA eX 147 [] t i ((XXf t n).1 i) ∧ ToldA eX 94 [] t i ((XXf t n).2 i) := by
 intro n
 induction n with
 | zero => intro i _ h; omega
 | succ n ih =>
  intro i hi hn
  have hN : ∀ j,i ≤ j → j ≤ t.size → ToldA eX 147 [] t j (xnotP t (XXf t n).1 (XXf t n).2 j) := fun j h1 h2 =>
   not_firstR t j hs h2 _ _ (fun k h3 h4 => (ih k h4 (by omega)).1) (fun k h3 h4 => (ih k h4 (by omega)).2)
  refine ⟨hN i (Nat.le_refl _) hi,?_⟩
  refine then_firstR t i hs hi _ _ ?_ (fun k h3 h4 => (ih k h4 (by omega)).2)
  exact or_firstR t i hs hi _ fun j h1 h2 => and_firstR t j hs h2 _ fun k h3 h4 => hN k (by omega) h4
def xparseR (t : ByteArray) : RX := (XXf t (t.size + 1)).2 0
theorem xparse_told (t : ByteArray) (hs : t.size ≤ 1000000) : ToldA eX 94 [] t 0 (xparseR t) := (xreader_told t hs _ 0 (by omega) (by omega)).2
def x67 : XC := .seq (.reg [⟨some 5,.call ⟨.builtin .recover,#[],#[]⟩,none⟩]) (.block 0 (.seq (.reg [⟨some 7,.binOp .eql 20 (.tmp 5) (.const .nilIface) 20,none⟩]) (.cond (.tmp 7) (.reg [⟨some 2,.assign (.tmp 5),none⟩]) (.seq (.reg [⟨some 8,.typeAssert (.tmp 5) 20 121 true,none⟩,⟨some 9,.extract (.tmp 8) 1,none⟩,⟨some 10,.extract (.tmp 8) 0,none⟩]) (.cond (.tmp 9) (.seq (.reg [⟨some 3,.alloc 121,none⟩,⟨none,.store 121 (.tmp 3) (.tmp 10),none⟩]) (.reg [⟨some 11,.move (.tmp 0),none⟩,⟨some 12,.fieldAddr 121 (.tmp 3) 0,none⟩,⟨some 13,.load 29 (.tmp 12),none⟩,⟨some 14,.nilCheck (.tmp 11),none⟩,⟨none,.store 29 (.tmp 14) (.tmp 13),none⟩])) (.seq (.reg [⟨some 4,.assign (.tmp 5),none⟩]) (.reg [⟨some 6,.move (.tmp 4),none⟩,⟨none,.panic (.tmp 6),none⟩])))))))
@[simp] theorem x67_s {C e s K} : type_of% (@X_at C e s K _ _ x67.eq_1) := X_at x67.eq_1
def an67 : Ann := ⟨[],[],[]⟩
theorem fr_caught : FR Try.prog 67 (cxA an67) 5 (sndX x67) [] Try.f67 := frA Try.func67 mixed (by decide +kernel) (by kernel_rfl) (by kernel_rfl)
@[simp] theorem fn_nil : xnilI Try.prog 20 .niliface = some (.bool true) := by kernel_rfl
@[simp] theorem fn_some (t : TypeId) (v : PV) : xnilI Try.prog 20 (.iface t v) = some (.bool false) := by kernel_rfl
theorem caught_none (c a : Int) : CallRec Try.prog 67 none [.ptr 0 0 0] [.rows 2 [[.int .i64 c,.int .i64 a]]] [.rows 2 [[.int .i64 c,.int .i64 a]]] := by
 refine FR.og (v := .tuple []) fr_caught (r := none) (rv := .niliface) rfl ?_
 simp only [x67,sndX]
 (refine Sg.h ?_;try repeat' ((with_reducible first|refine brA ?_|refine brE fun _=>?_|refine spl ⟨?_,?_⟩<;>intro _)<;> ((try simp -implicitDefEqProofs); (try simp -implicitDefEqProofs(disch:=first|assumption|(try simp only[lens]);omega -splitDisjunctions)))))
theorem caught_plain (c a : Int) : CallOK Try.prog 67 [.ptr 0 0 0] [.rows 2 [[.int .i64 c,.int .i64 a]]] (.tuple []) [.rows 2 [[.int .i64 c,.int .i64 a]]] := by
 refine FR.plain fr_caught ?_
 simp only [x67,sndX]
 (refine Sg.h ?_;try repeat' ((with_reducible first|refine brA ?_|refine brE fun _=>?_|refine spl ⟨?_,?_⟩<;>intro _)<;> ((try simp -implicitDefEqProofs); (try simp -implicitDefEqProofs(disch:=first|assumption|(try simp only[lens]);omega -splitDisjunctions)))))
theorem caught_stop (c a c0 a0 : Int) : CallRec Try.prog 67 (some (stopE c a)) [.ptr 0 0 0] [.rows 2 [[.int .i64 c0,.int .i64 a0]]] [.rows 2 [[.int .i64 c,.int .i64 a]]] := by
 refine FR.og (v := .tuple []) fr_caught (r := some (stopE c a)) (pan_fst c a) ?_
 simp only [x67,sndX]
 (refine Sg.h ?_;try repeat' ((with_reducible first|refine brA ?_|refine brE fun _=>?_|refine spl ⟨?_,?_⟩<;>intro _)<;> ((try simp -implicitDefEqProofs); (try simp -implicitDefEqProofs(disch:=first|assumption|(try simp only[lens]);omega -splitDisjunctions)))))
def checkX (e : Ex) : Int × Int := match exprW e (0,[]) with
 | .ok _ => (0,0)
 | .error (er,_) => (er.1,(er.2 : Int))
def x69 : XC := .seq (.reg [⟨some 1,.box 57 (.tmp 0),none⟩,⟨some 2,.alloc 29,none⟩]) (.seq (.reg [⟨none,.defer ⟨.value (.func 67),#[.tmp 2],#[97]⟩,none⟩]) (.seq (.reg [⟨some 4,.makeMap 128 none,none⟩,⟨some 5,.build 130 #[(1,.tmp 4)],none⟩,⟨some 6,.box 130 (.tmp 5),none⟩,⟨some 3,.assign (.tmp 6),none⟩]) (.seq (.reg [⟨some 7,.move (.tmp 3),none⟩,⟨some 8,.load 57 (.tmp 1),none⟩,⟨some 9,.call ⟨.value (.func 97),#[.tmp 7,.tmp 8],#[127,57]⟩,none⟩]) (.seq (.reg [⟨some 10,.load 29 (.tmp 2),none⟩,⟨none,.store 29 (.tmp 2) (.tmp 10),none⟩]) .ret))))
@[simp] theorem x69_s {C e s K} : type_of% (@X_at C e s K _ _ x69.eq_1) := X_at x69.eq_1
def an69 : Ann := ⟨[],[],[]⟩
theorem fdn_check : FDN Try.prog 69 (cxA an69) (preX 1 x69) 2 67 (dropX 2 x69) [.cell 2 29] Try.f69 := fdnA Try.func69 mixed (by decide +kernel) (by kernel_rfl) (by kernel_rfl)
theorem Check_first (e : Ex) : CallOK Try.prog 69 [.agg (exr e)] [] (.agg [.int .i64 (checkX e).1,.int .i64 (checkX e).2]) [] := by
 have hc := expr_walker e (0,[]) (by simp)
 refine FDN.os fdn_check ?_
 simp only [x69,preX,dropX]
 unfold checkX
 cases hw : exprW e (0,[]) with
 | error er =>
  obtain ⟨er,s'⟩ := er
  rw [hw] at hc
  simp only [ToldW] at hc
  (refine Sg.h ?_;try repeat' ((with_reducible first|refine brA ?_|refine brE fun _=>?_|refine spl ⟨?_,?_⟩<;>intro _)<;> ((try simp -implicitDefEqProofs); (try simp -implicitDefEqProofs(disch:=first|assumption|(try simp only[lens]);omega -splitDisjunctions)))))
  refine CL.psub [3,2] (s2 := wk s') (v := stopE er.1 er.2) (by simpa [liveS,mapI] using hc) ?_
  (refine Sg.h ?_;try repeat' ((with_reducible first|refine brA ?_|refine brE fun _=>?_|refine spl ⟨?_,?_⟩<;>intro _)<;> ((try simp -implicitDefEqProofs); (try simp -implicitDefEqProofs(disch:=first|assumption|(try simp only[lens]);omega -splitDisjunctions)))))
  refine DRecN.sub [1] (caught_stop er.1 er.2 0 0) ?_
  (refine Sg.h ?_;try repeat' ((with_reducible first|refine brA ?_|refine brE fun _=>?_|refine spl ⟨?_,?_⟩<;>intro _)<;> ((try simp -implicitDefEqProofs); (try simp -implicitDefEqProofs(disch:=first|assumption|(try simp only[lens]);omega -splitDisjunctions)))))
 | ok s' =>
  rw [hw] at hc
  simp only [ToldW] at hc
  (refine Sg.h ?_;try repeat' ((with_reducible first|refine brA ?_|refine brE fun _=>?_|refine spl ⟨?_,?_⟩<;>intro _)<;> ((try simp -implicitDefEqProofs); (try simp -implicitDefEqProofs(disch:=first|assumption|(try simp only[lens]);omega -splitDisjunctions)))))
  refine CL.sub [3,2] (s2 := wk s') (v := .tuple []) (by simpa [liveS,mapI] using hc) ?_
  (refine Sg.h ?_;try repeat' ((with_reducible first|refine brA ?_|refine brE fun _=>?_|refine spl ⟨?_,?_⟩<;>intro _)<;> ((try simp -implicitDefEqProofs); (try simp -implicitDefEqProofs(disch:=first|assumption|(try simp only[lens]);omega -splitDisjunctions)))))
  refine DRecN.sub [1] (caught_none 0 0) ?_
  (refine Sg.h ?_;try repeat' ((with_reducible first|refine brA ?_|refine brE fun _=>?_|refine spl ⟨?_,?_⟩<;>intro _)<;> ((try simp -implicitDefEqProofs); (try simp -implicitDefEqProofs(disch:=first|assumption|(try simp only[lens]);omega -splitDisjunctions)))))
def zEx : Ex := .mk 0 ⟨#[]⟩ [] []
def parsedO (t : ByteArray) : Ex × Int × Int := match xparseR t with
 | .error (p,_) => (zEx,1,(p : Int))
 | .ok (e,j) => if bl t j < t.size then (e,1,(bl t j : Int)) else (e,0,0)
def x68 : XC := .seq (.reg [⟨some 2,.alloc 57,none⟩,⟨some 3,.alloc 29,none⟩]) (.seq (.reg [⟨none,.defer ⟨.value (.func 67),#[.tmp 3],#[97]⟩,none⟩]) (.seq (.reg [⟨some 5,.move (.tmp 0),none⟩,⟨some 6,.build 124 #[(0,.tmp 5)],none⟩,⟨some 7,.box 124 (.tmp 6),none⟩,⟨some 4,.assign (.tmp 7),none⟩]) (.seq (.reg [⟨some 8,.move (.tmp 4),none⟩,⟨some 9,.call ⟨.value (.func 94),#[.tmp 8],#[122]⟩,none⟩,⟨none,.store 57 (.tmp 2) (.tmp 9),none⟩]) (.seq (.seq (.reg [⟨some 10,.move (.tmp 4),none⟩,⟨some 11,.call ⟨.value (.func 95),#[.tmp 10],#[122]⟩,none⟩]) (.seq (.reg [⟨some 12,.move (.tmp 4),none⟩,⟨some 13,.nilCheck (.tmp 12),none⟩,⟨some 14,.fieldAddr 124 (.tmp 13) 1,none⟩,⟨some 15,.load 3 (.tmp 14),none⟩,⟨some 16,.move (.tmp 0),none⟩,⟨some 17,.call ⟨.builtin .len,#[.tmp 16],#[9]⟩,none⟩,⟨some 18,.binOp .lss 3 (.tmp 15) (.tmp 17) 3,none⟩]) (.cond (.tmp 18) (.reg [⟨some 19,.move (.tmp 4),none⟩,⟨some 20,.move (.tmp 4),none⟩,⟨some 21,.nilCheck (.tmp 20),none⟩,⟨some 22,.fieldAddr 124 (.tmp 21) 1,none⟩,⟨some 23,.load 3 (.tmp 22),none⟩,⟨some 24,.call ⟨.value (.func 96),#[.tmp 19,.tmp 23],#[122,3]⟩,none⟩]) .skip))) (.seq (.drawn 7 [⟨some 25,.load 57 (.tmp 2),none⟩,⟨some 26,.load 29 (.tmp 3),none⟩,⟨none,.store 57 (.tmp 2) (.tmp 25),none⟩,⟨none,.store 29 (.tmp 3) (.tmp 26),none⟩]) .ret)))))
@[simp] theorem x68_s {C e s K} : type_of% (@X_at C e s K _ _ x68.eq_1) := X_at x68.eq_1
def an68 : Ann := ⟨[(7,.mix3 2 1)],[],[]⟩
@[simp] theorem an68_a : an68.clsOf 7 = .mix3 2 1 ∧ an68.frzOf 7 = [] := ⟨rfl,rfl⟩
theorem fdn_parsed : FDN Try.prog 68 (cxA an68) (preX 1 x68) 3 67 (dropX 2 x68) [.cell 2 57,.cell 3 29] Try.f68 := fdnA Try.func68 mixed (by decide +kernel) (by kernel_rfl) (by kernel_rfl)
theorem parsed_first (t : ByteArray) (hs : t.size ≤ 1000000) : CallOK Try.prog 68 [.str t] [] (.tuple [.agg (exr (parsedO t).1),.agg [.int .i64 (parsedO t).2.1,.int .i64 (parsedO t).2.2]]) [] := by
 refine FDN.os fdn_parsed ?_
 simp only [x68,preX,dropX]
 have h0 := xparse_told t hs
 unfold parsedO
 cases hp0 : xparseR t with
 | error q =>
  obtain ⟨p,q⟩ := q
  rw [hp0] at h0
  simp only [ToldA] at h0
  (refine Sg.h ?_;try repeat' ((with_reducible first|refine brA ?_|refine brE fun _=>?_|refine spl ⟨?_,?_⟩<;>intro _)<;> ((try simp -implicitDefEqProofs); (try simp -implicitDefEqProofs(disch:=first|assumption|(try simp only[lens]);omega -splitDisjunctions)))))
  refine CL.psub [2] h0 ?_
  (refine Sg.h ?_;try repeat' ((with_reducible first|refine brA ?_|refine brE fun _=>?_|refine spl ⟨?_,?_⟩<;>intro _)<;> ((try simp -implicitDefEqProofs); (try simp -implicitDefEqProofs(disch:=first|assumption|(try simp only[lens]);omega -splitDisjunctions)))))
  refine DRecN.sub [1] (caught_stop 1 p 0 0) ?_
  (refine Sg.h ?_;try repeat' ((with_reducible first|refine brA ?_|refine brE fun _=>?_|refine spl ⟨?_,?_⟩<;>intro _)<;> ((try simp -implicitDefEqProofs); (try simp -implicitDefEqProofs(disch:=first|assumption|(try simp only[lens]);omega -splitDisjunctions)))))
  all_goals rfl
 | ok r =>
  obtain ⟨e,j⟩ := r
  rw [hp0] at h0
  obtain ⟨h0,h1,h2⟩ := h0
  have hb := blanks_first t j hs h2
  have hbl := bl_le h2
  have hf2 := fail_first t (bl t j) (bl t j)
  dsimp only
  generalize bl t j = k at *
  by_cases hk : k < t.size
  ·rw [if_pos hk]
   have hk' : (k : Int) < (t.size : Int) := by omega
   (refine Sg.h ?_;try repeat' ((with_reducible first|refine brA ?_|refine brE fun _=>?_|refine spl ⟨?_,?_⟩<;>intro _)<;> ((try simp -implicitDefEqProofs); (try simp -implicitDefEqProofs(disch:=first|assumption|(try simp only[lens]);omega -splitDisjunctions)))))
   refine CL.sub [2] h0 ?_
   (refine Sg.h ?_;try repeat' ((with_reducible first|refine brA ?_|refine brE fun _=>?_|refine spl ⟨?_,?_⟩<;>intro _)<;> ((try simp -implicitDefEqProofs); (try simp -implicitDefEqProofs(disch:=first|assumption|(try simp only[lens]);omega -splitDisjunctions)))))
   refine CL.sub [2] hb ?_
   (refine Sg.h ?_;try repeat' ((with_reducible first|refine brA ?_|refine brE fun _=>?_|refine spl ⟨?_,?_⟩<;>intro _)<;> ((try simp -implicitDefEqProofs [hk']); (try simp -implicitDefEqProofs(disch:=first|assumption|(try simp only[lens]);omega -splitDisjunctions) [hk']))))
   refine CL.psub [2] hf2 ?_
   (refine Sg.h ?_;try repeat' ((with_reducible first|refine brA ?_|refine brE fun _=>?_|refine spl ⟨?_,?_⟩<;>intro _)<;> ((try simp -implicitDefEqProofs); (try simp -implicitDefEqProofs(disch:=first|assumption|(try simp only[lens]);omega -splitDisjunctions)))))
   refine DRecN.sub [1] (caught_stop 1 k 0 0) ?_
   (refine Sg.h ?_;try repeat' ((with_reducible first|refine brA ?_|refine brE fun _=>?_|refine spl ⟨?_,?_⟩<;>intro _)<;> ((try simp -implicitDefEqProofs); (try simp -implicitDefEqProofs(disch:=first|assumption|(try simp only[lens]);omega -splitDisjunctions)))))
  ·rw [if_neg hk]
   have hk' : ¬ (k : Int) < (t.size : Int) := by omega
   (refine Sg.h ?_;try repeat' ((with_reducible first|refine brA ?_|refine brE fun _=>?_|refine spl ⟨?_,?_⟩<;>intro _)<;> ((try simp -implicitDefEqProofs); (try simp -implicitDefEqProofs(disch:=first|assumption|(try simp only[lens]);omega -splitDisjunctions)))))
   refine CL.sub [2] h0 ?_
   (refine Sg.h ?_;try repeat' ((with_reducible first|refine brA ?_|refine brE fun _=>?_|refine spl ⟨?_,?_⟩<;>intro _)<;> ((try simp -implicitDefEqProofs); (try simp -implicitDefEqProofs(disch:=first|assumption|(try simp only[lens]);omega -splitDisjunctions)))))
   refine CL.sub [2] hb ?_
   (refine Sg.h ?_;try repeat' ((with_reducible first|refine brA ?_|refine brE fun _=>?_|refine spl ⟨?_,?_⟩<;>intro _)<;> ((try simp -implicitDefEqProofs [hk']); (try simp -implicitDefEqProofs(disch:=first|assumption|(try simp only[lens]);omega -splitDisjunctions) [hk']))))
   repeat' (first | refine And.intro ?_ ?_)
   all_goals (refine DRecN.sub [1] (caught_none 0 0) ?_)
   all_goals ((refine Sg.h ?_;try repeat' ((with_reducible first|refine brA ?_|refine brE fun _=>?_|refine spl ⟨?_,?_⟩<;>intro _)<;> ((try simp -implicitDefEqProofs); (try simp -implicitDefEqProofs(disch:=first|assumption|(try simp only[lens]);omega -splitDisjunctions))))))
def x66 : XC := .seq (.reg [⟨some 2,.call ⟨.value (.func 67),#[.tmp 0],#[97]⟩,none⟩]) (.seq (.reg [⟨some 3,.fieldAddr 29 (.tmp 0) 0,none⟩,⟨some 4,.load 3 (.tmp 3),none⟩,⟨some 5,.binOp .neq 3 (.tmp 4) (.const (.int .i64 0)) 3,none⟩]) (.cond (.tmp 5) (.reg [⟨some 6,.build 57 #[],none⟩,⟨none,.store 57 (.tmp 1) (.tmp 6),none⟩]) .skip))
@[simp] theorem x66_s {C e s K} : type_of% (@X_at C e s K _ _ x66.eq_1) := X_at x66.eq_1
def an66 : Ann := ⟨[],[],[]⟩
theorem fi66 : FI Try.prog 66 (cxA an66) x66 [] Try.f66 := fiA Try.func66 mixed
theorem parse1x_ok (e : Ex) : CallRec Try.prog 66 none [.ptr 0 0 0,.ptr 1 0 0] [.rows 2 [[.int .i64 0,.int .i64 0]],.rows 4 [exr e]] [.rows 2 [[.int .i64 0,.int .i64 0]],.rows 4 [exr e]] := by
 have h1 := caught_plain 0 0
 refine FI.recn (v := .tuple []) fi66 ?_
 (refine Sg.h ?_;try repeat' ((with_reducible first|refine brA ?_|refine brE fun _=>?_|refine spl ⟨?_,?_⟩<;>intro _)<;> ((try simp -implicitDefEqProofs); (try simp -implicitDefEqProofs(disch:=first|assumption|(try simp only[lens]);omega -splitDisjunctions)))))
 refine CL.sub [0] h1 ?_
 (refine Sg.h ?_;try repeat' ((with_reducible first|refine brA ?_|refine brE fun _=>?_|refine spl ⟨?_,?_⟩<;>intro _)<;> ((try simp -implicitDefEqProofs); (try simp -implicitDefEqProofs(disch:=first|assumption|(try simp only[lens]);omega -splitDisjunctions)))))
theorem parse1x_bad (c a : Int) (hc : ¬ c = 0) (e : Ex) : CallRec Try.prog 66 none [.ptr 0 0 0,.ptr 1 0 0] [.rows 2 [[.int .i64 c,.int .i64 a]],.rows 4 [exr e]] [.rows 2 [[.int .i64 c,.int .i64 a]],.rows 4 [[.int .i64 0,.str ⟨#[]⟩,.nilsl,.nilsl]]] := by
 have h1 := caught_plain c a
 refine FI.recn (v := .tuple []) fi66 ?_
 (refine Sg.h ?_;try repeat' ((with_reducible first|refine brA ?_|refine brE fun _=>?_|refine spl ⟨?_,?_⟩<;>intro _)<;> ((try simp -implicitDefEqProofs); (try simp -implicitDefEqProofs(disch:=first|assumption|(try simp only[lens]);omega -splitDisjunctions)))))
 refine CL.sub [0] h1 ?_
 (refine Sg.h ?_;try repeat' ((with_reducible first|refine brA ?_|refine brE fun _=>?_|refine spl ⟨?_,?_⟩<;>intro _)<;> ((try simp -implicitDefEqProofs [hc]); (try simp -implicitDefEqProofs(disch:=first|assumption|(try simp only[lens]);omega -splitDisjunctions) [hc]))))
def parseX (t : ByteArray) : Ex × Int × Int :=
 if 20000 < t.size then (zEx,2,0) else if (parsedO t).2.1 ≠ 0 then (zEx,(parsedO t).2) else if (checkX (parsedO t).1).1 ≠ 0 then (zEx,checkX (parsedO t).1) else ((parsedO t).1,0,0)
theorem exr_zEx : exr zEx = [.int .i64 0,.str ⟨#[]⟩,.list [],.list []] := by rw [exr_eq]; rfl
def Bad (R : RW) : Prop := ∀ er s,R = .error (er,s) → er.1 ≠ 0
theorem bad_err {c : Int} {p : Nat} {s : WS} (h : c ≠ 0) : Bad (.error ((c,p),s)) := fun er s' e => by cases e; exact h
theorem bad_ok {s : WS} : Bad (.ok s) := fun er s' e => by cases e
theorem manyW_bad {p : Nat} {key : ByteArray} {c : Nat} {s : WS} : Bad (manyW p key c s) := by
 unfold manyW
 split
 ·split
  ·exact bad_ok
  ·exact bad_err (by decide)
 ·exact bad_ok
theorem wordH_bad {nm : ByteArray} {c : Nat} {s : WS} : Bad (wordH nm c s) := by
 unfold wordH
 split
 ·exact bad_err (by decide)
 split
 ·split
  ·exact bad_err (by decide)
  ·exact bad_ok
 split
 ·exact manyW_bad
 ·exact bad_err (by decide)
theorem bad_bind {R : RW} {f : WS → RW} (hf : ∀ s,Bad (f s)) : Bad R → Bad (match R with
  | .ok s => f s
  | .error e => .error e) := by
 cases R with
 | ok s => exact fun _ => hf s
 | error e => exact fun h => h
theorem wordsW_bad (l : List Wd) (ih : ∀ w ∈ l,∀ s,Bad (wordW w s)) : ∀ s,Bad (wordsW l s) := by
 induction l with
 | nil => intro s; rw [wordsW]; exact bad_ok
 | cons w r ihr =>
  intro s
  rw [wordsW]
  exact bad_bind (ihr fun w hw => ih w (by simp [hw])) (ih w (by simp) s)
theorem wordW_bad (w : Wd) : ∀ s,Bad (wordW w s) := by
 induction w using Wd.ind with
 | h w ih =>
  intro s
  rw [wordW_eq]
  exact bad_bind (wordsW_bad _ ih) wordH_bad
theorem exprH_bad {k : Int} {nm : ByteArray} {wc kc : Nat} {s : WS} : Bad (exprH k nm wc kc s) := by
 unfold exprH
 split
 ·exact bad_err (by decide)
 split
 ·exact bad_err (by decide)
 split
 ·exact bad_err (by decide)
 split
 ·split
  ·exact manyW_bad
  ·exact bad_err (by decide)
 split
 ·split
  ·exact bad_ok
  ·exact bad_err (by decide)
 split
 ·exact bad_ok
 ·exact bad_err (by decide)
theorem exprsW_bad (l : List Ex) (ih : ∀ w ∈ l,∀ s,Bad (exprW w s)) : ∀ s,Bad (exprsW l s) := by
 induction l with
 | nil => intro s; rw [exprsW]; exact bad_ok
 | cons w r ihr =>
  intro s
  rw [exprsW]
  exact bad_bind (ihr fun w hw => ih w (by simp [hw])) (ih w (by simp) s)
theorem exprW_bad (e : Ex) : ∀ s,Bad (exprW e s) := by
 induction e using Ex.ind with
 | h e ih =>
  intro s
  rw [exprW_eq]
  exact bad_bind (fun s1 => bad_bind (exprsW_bad _ ih) (wordsW_bad _ (fun w _ => wordW_bad w) s1)) exprH_bad
theorem checkX_zero {e : Ex} (h : (checkX e).1 = 0) : checkX e = (0,0) := by
 unfold checkX at h ⊢
 split
 ·rfl
 ·rename_i er s he
  rw [he] at h
  exact absurd h (exprW_bad e _ _ _ he)
def x29 : XC := .seq (.reg [⟨some 2,.alloc 57,none⟩,⟨some 3,.alloc 29,none⟩]) (.seq (.seq (.reg [⟨some 4,.move (.tmp 0),none⟩,⟨some 5,.call ⟨.builtin .len,#[.tmp 4],#[9]⟩,none⟩,⟨some 6,.binOp .gtr 3 (.tmp 5) (.const (.int .i64 20000)) 3,none⟩]) (.cond (.tmp 6) (.seq (.drawn 2 [⟨some 7,.load 57 (.tmp 2),none⟩,⟨some 8,.call ⟨.value (.func 65),#[.const (.int .i64 2),.const (.int .i64 0)],#[3,3]⟩,none⟩,⟨none,.store 57 (.tmp 2) (.tmp 7),none⟩,⟨none,.store 29 (.tmp 3) (.tmp 8),none⟩]) .ret) .skip)) (.seq (.reg [⟨some 9,.makeFunc (.func 66) #[] #[.tmp 3,.tmp 2],none⟩,⟨none,.defer ⟨.value (.tmp 9),#[],#[]⟩,none⟩]) (.seq (.reg [⟨some 11,.move (.tmp 0),none⟩,⟨some 12,.call ⟨.value (.func 68),#[.tmp 11],#[9]⟩,none⟩,⟨some 10,.move (.tmp 12),none⟩,⟨some 13,.extract (.tmp 10) 0,none⟩,⟨some 14,.extract (.tmp 10) 1,none⟩,⟨none,.store 57 (.tmp 2) (.tmp 13),none⟩,⟨none,.store 29 (.tmp 3) (.tmp 14),none⟩]) (.seq (.seq (.reg [⟨some 15,.fieldAddr 29 (.tmp 3) 0,none⟩,⟨some 16,.load 3 (.tmp 15),none⟩,⟨some 17,.binOp .eql 3 (.tmp 16) (.const (.int .i64 0)) 3,none⟩]) (.cond (.tmp 17) (.reg [⟨some 18,.load 57 (.tmp 2),none⟩,⟨some 19,.call ⟨.value (.func 69),#[.tmp 18],#[57]⟩,none⟩,⟨none,.store 29 (.tmp 3) (.tmp 19),none⟩]) .skip)) (.seq (.drawn 7 [⟨some 20,.load 57 (.tmp 2),none⟩,⟨some 21,.load 29 (.tmp 3),none⟩,⟨none,.store 57 (.tmp 2) (.tmp 20),none⟩,⟨none,.store 29 (.tmp 3) (.tmp 21),none⟩]) .ret)))))
@[simp] theorem x29_s {C e s K} : type_of% (@X_at C e s K _ _ x29.eq_1) := X_at x29.eq_1
def an29 : Ann := ⟨[(2,.mix 2),(7,.mix3 2 1)],[],[]⟩
@[simp] theorem an29_a : an29.clsOf 2 = .mix 2 ∧ an29.clsOf 7 = .mix3 2 1 ∧ an29.frzOf 2 = [] ∧ an29.frzOf 7 = [] := ⟨rfl,rfl,rfl,rfl⟩
theorem fdx_parse : FD Try.prog 29 (cxA an29) (preX 2 x29) 9 66 [.tmp 3,.tmp 2] (dropX 3 x29) [.cell 2 57,.cell 3 29] Try.f29 := fdA Try.func29 mixed (by decide +kernel) (by kernel_rfl) (by kernel_rfl)
theorem Parse_first (t : ByteArray) : CallOK Try.prog 29 [.str t] [] (.tuple [.agg (exr (parseX t).1),.agg [.int .i64 (parseX t).2.1,.int .i64 (parseX t).2.2]]) [] := by
 have hf1 := fault_first 2 0
 refine FD.os fdx_parse ?_
 simp only [x29,preX,dropX]
 unfold parseX
 by_cases hm : 20000 < t.size
 ·rw [if_pos hm]
  have hm' : (20000 : Int) < (t.size : Int) := by omega
  (refine Sg.h ?_;try repeat' ((first | (with_reducible first|refine brA ?_|refine brE fun _=>?_|refine spl ⟨?_,?_⟩<;>intro _) | refine clo hf1 ?_) <;> ((try simp -implicitDefEqProofs [hm',exr_zEx]); (try simp -implicitDefEqProofs(disch:=first|assumption|(try simp only[lens]);omega -splitDisjunctions) [hm',exr_zEx]))))
 ·rw [if_neg hm]
  have hm' : ¬ (20000 : Int) < (t.size : Int) := by omega
  have hs : t.size ≤ 1000000 := by omega
  have h0 := parsed_first t hs
  generalize parsedO t = R at *
  obtain ⟨e,c,a⟩ := R
  dsimp only at *
  have h1 := Check_first e
  by_cases hc : c = 0
  ·rw [if_neg (by simp [hc])]
   subst hc
   by_cases hk : (checkX e).1 = 0
   ·rw [if_neg (by simp [hk])]
    rw [checkX_zero hk] at h1
    have hp := parse1x_ok e
    (refine Sg.h ?_;try repeat' ((first | (with_reducible first|refine brA ?_|refine brE fun _=>?_|refine spl ⟨?_,?_⟩<;>intro _) | refine clo hf1 ?_ | refine clo h0 ?_ | refine clo h1 ?_) <;> ((try simp -implicitDefEqProofs [hm']); (try simp -implicitDefEqProofs(disch:=first|assumption|(try simp only[lens]);omega -splitDisjunctions) [hm']))))
    repeat' (first | refine And.intro ?_ ?_)
    all_goals (refine DRec.sub (s2 := [.rows 2 [[.int .i64 0,.int .i64 0]],.rows 4 [exr e]]) [1,0] (by simpa using hp) ?_)
    all_goals ((refine Sg.h ?_;try repeat' ((with_reducible first|refine brA ?_|refine brE fun _=>?_|refine spl ⟨?_,?_⟩<;>intro _)<;> ((try simp -implicitDefEqProofs); (try simp -implicitDefEqProofs(disch:=first|assumption|(try simp only[lens]);omega -splitDisjunctions))))))
   ·rw [if_pos hk]
    generalize checkX e = q at *
    obtain ⟨c2,a2⟩ := q
    dsimp only at *
    have hp := parse1x_bad c2 a2 hk e
    (refine Sg.h ?_;try repeat' ((first | (with_reducible first|refine brA ?_|refine brE fun _=>?_|refine spl ⟨?_,?_⟩<;>intro _) | refine clo hf1 ?_ | refine clo h0 ?_ | refine clo h1 ?_) <;> ((try simp -implicitDefEqProofs [hm',hk]); (try simp -implicitDefEqProofs(disch:=first|assumption|(try simp only[lens]);omega -splitDisjunctions) [hm',hk]))))
    repeat' (first | refine And.intro ?_ ?_)
    all_goals (refine DRec.sub (s2 := [.rows 2 [[.int .i64 c2,.int .i64 a2]],.rows 4 [[.int .i64 0,.str ⟨#[]⟩,.nilsl,.nilsl]]]) [1,0] (by simpa using hp) ?_)
    all_goals ((refine Sg.h ?_;try repeat' ((with_reducible first|refine brA ?_|refine brE fun _=>?_|refine spl ⟨?_,?_⟩<;>intro _)<;> ((try simp -implicitDefEqProofs [exr_zEx]); (try simp -implicitDefEqProofs(disch:=first|assumption|(try simp only[lens]);omega -splitDisjunctions) [exr_zEx])))))
  ·rw [if_pos hc]
   have hp := parse1x_bad c a hc e
   (refine Sg.h ?_;try repeat' ((first | (with_reducible first|refine brA ?_|refine brE fun _=>?_|refine spl ⟨?_,?_⟩<;>intro _) | refine clo hf1 ?_ | refine clo h0 ?_) <;> ((try simp -implicitDefEqProofs [hm',hc]); (try simp -implicitDefEqProofs(disch:=first|assumption|(try simp only[lens]);omega -splitDisjunctions) [hm',hc]))))
   repeat' (first | refine And.intro ?_ ?_)
   all_goals (refine DRec.sub (s2 := [.rows 2 [[.int .i64 c,.int .i64 a]],.rows 4 [[.int .i64 0,.str ⟨#[]⟩,.nilsl,.nilsl]]]) [1,0] (by simpa using hp) ?_)
   all_goals ((refine Sg.h ?_;try repeat' ((with_reducible first|refine brA ?_|refine brE fun _=>?_|refine spl ⟨?_,?_⟩<;>intro _)<;> ((try simp -implicitDefEqProofs [exr_zEx]); (try simp -implicitDefEqProofs(disch:=first|assumption|(try simp only[lens]);omega -splitDisjunctions) [exr_zEx])))))
end Go.Proofs.Ytcllmionhlmjfaa
namespace Go.Proofs.Ytcllmionhlmjfaa
open Go Go.Pv
@[simp] theorem xn_nil : xnilI Try.prog 20 .niliface = some (.bool true) := by kernel_rfl
@[simp] theorem xn_some (t : TypeId) (v : PV) : xnilI Try.prog 20 (.iface t v) = some (.bool false) := by kernel_rfl
end Go.Proofs.Ytcllmionhlmjfaa
namespace Go.Proofs.Ytcllmionhlmjfaa
open Go Go.Pv
theorem Fm.ind {p : Fm → Prop} (h : ∀ f : Fm,(∀ g ∈ f.kids,p g) → p f) : ∀ f,p f
 | .mk k nm kids => h _ fun g hg => Fm.ind h g
termination_by f => SizeOf.sizeOf f
decreasing_by
 have := List.sizeOf_lt_of_mem hg
 simp only [Fm.kids,Fm.mk.sizeOf_spec] at *
 omega
end Go.Proofs.Ytcllmionhlmjfaa
namespace Go.Proofs.Ytcllmionhlmjfaa
open Go Go.Pv
mutual
def ev (n : Nat) (t : Nat → Nat → Bool) (hold : Nat → ByteArray → Bool) : Fm → Nat → Bool
 | .mk k nm kids => fun w =>
  let a := ((evs n t hold kids)[0]?).getD fun _ => false
  let b := ((evs n t hold kids)[1]?).getD fun _ => false
  if k = 1 then hold w nm else if k = 2 then true else if k = 4 then !a w else if k = 5 then a w && b w else if k = 6 then a w || b w else if k = 7 then !a w || b w
  else if k = 8 then (List.range n).all fun v => !t w v || a v else if k = 9 then (List.range n).any fun v => t w v && a v else false
def evs (n : Nat) (t : Nat → Nat → Bool) (hold : Nat → ByteArray → Bool) : List Fm → List (Nat → Bool)
 | [] => []
 | f :: r => ev n t hold f :: evs n t hold r
end
inductive OkF (N : ByteArray → Prop) : Fm → Prop where
 | mk {k : Int} {nm : ByteArray} {kids : List Fm} (h : (kids.length : Int) = kidsN k) (hN : k = 1 → N nm) (g : ∀ f ∈ kids,OkF N f) : OkF N (.mk k nm kids)
mutual
def pre : Fm → List Fm
 | .mk k nm l => .mk k nm l :: pres l
def pres : List Fm → List Fm
 | [] => []
 | f :: r => pre f ++ pres r
end
theorem pre_eq (f : Fm) : pre f = f :: pres f.kids := by cases f with | mk k nm l => rw [pre]; rfl
theorem pres_nil : pres [] = [] := by rw [pres]
theorem pres_cons (f : Fm) (r : List Fm) : pres (f :: r) = pre f ++ pres r := by rw [pres]
def okN (x : Fm) : Prop := 0 ≤ kidsN x.kind ∧ (x.kids.length : Int) = kidsN x.kind ∧ ¬ ((x.kind = 1 ∧ isNameB x.name = false) ∨ (x.kind ≠ 1 ∧ x.name ≠ ⟨#[]⟩))
theorem okF_of_pre : ∀ f : Fm,(∀ x ∈ pre f,okN x) → OkF (fun n => isNameB n = true) f := by
 intro f
 induction f using Fm.ind with
 | h f ih =>
  intro h
  have h0 := h f (by rw [pre_eq]; simp)
  cases f with
  | mk k nm l =>
   refine .mk h0.2.1 (fun hk => ?_) fun g hg => ih g hg fun x hx => h x ?_
   ·have := h0.2.2
    simp only [Fm.kind,Fm.name,hk,true_and,not_or] at this
    simpa using this.1
   ·rw [pre_eq]
    refine List.mem_cons_of_mem _ ?_
    have : ∀ l : List Fm,g ∈ l → x ∈ pres l := by
     intro l
     induction l with
     | nil => intro h; cases h
     | cons a r ihr =>
      intro h
      rw [pres_cons,List.mem_append]
      cases h with
      | head => exact .inl hx
      | tail _ h => exact .inr (ihr h)
    exact this l hg
end Go.Proofs.Ytcllmionhlmjfaa
namespace Go.Proofs.Ytcllmionhlmjfaa
open Go Go.Pv
theorem OkF.nine {N : ByteArray → Prop} {f : Fm} (h : OkF N f) : (∃ nm,N nm ∧ f = .mk 1 nm []) ∨ (∃ nm,f = .mk 2 nm []) ∨ (∃ nm,f = .mk 3 nm []) ∨ (∃ nm a,OkF N a ∧ f = .mk 4 nm [a]) ∨ (∃ nm a b,OkF N a ∧ OkF N b ∧ f = .mk 5 nm [a,b]) ∨
  (∃ nm a b,OkF N a ∧ OkF N b ∧ f = .mk 6 nm [a,b]) ∨ (∃ nm a b,OkF N a ∧ OkF N b ∧ f = .mk 7 nm [a,b]) ∨ (∃ nm a,OkF N a ∧ f = .mk 8 nm [a]) ∨ (∃ nm a,OkF N a ∧ f = .mk 9 nm [a]) := by
 cases h with
 | mk h hN g =>
  rename_i k nm l
  unfold kidsN at h
  have hk : k = 1 ∨ k = 2 ∨ k = 3 ∨ k = 4 ∨ k = 5 ∨ k = 6 ∨ k = 7 ∨ k = 8 ∨ k = 9 := by
   (repeat' split at h) <;> omega
  rcases hk with rfl | rfl | rfl | rfl | rfl | rfl | rfl | rfl | rfl <;> simp at h
  ·subst h; exact .inl ⟨nm,hN rfl,rfl⟩
  ·subst h; exact .inr (.inl ⟨nm,rfl⟩)
  ·subst h; exact .inr (.inr (.inl ⟨nm,rfl⟩))
  ·match l,h with | [a],_ => exact .inr (.inr (.inr (.inl ⟨nm,a,g a (by simp),rfl⟩)))
  ·match l,h with | [a,b],_ => exact .inr (.inr (.inr (.inr (.inl ⟨nm,a,b,g a (by simp),g b (by simp),rfl⟩))))
  ·match l,h with | [a,b],_ => exact .inr (.inr (.inr (.inr (.inr (.inl ⟨nm,a,b,g a (by simp),g b (by simp),rfl⟩)))))
  ·match l,h with | [a,b],_ => exact .inr (.inr (.inr (.inr (.inr (.inr (.inl ⟨nm,a,b,g a (by simp),g b (by simp),rfl⟩))))))
  ·match l,h with | [a],_ => exact .inr (.inr (.inr (.inr (.inr (.inr (.inr (.inl ⟨nm,a,g a (by simp),rfl⟩)))))))
  ·match l,h with | [a],_ => exact .inr (.inr (.inr (.inr (.inr (.inr (.inr (.inr ⟨nm,a,g a (by simp),rfl⟩)))))))
theorem OkF.kid {N : ByteArray → Prop} {f g : Fm} (h : OkF N f) (hg : g ∈ f.kids) : OkF N g := by
 cases h with | mk a b c => exact c g hg
theorem pres_mem {x g : Fm} (hx : x ∈ pre g) : ∀ l : List Fm,g ∈ l → x ∈ pres l
 | a :: r,h => by
  rw [pres_cons,List.mem_append]
  cases h with
  | head => exact .inl hx
  | tail _ h => exact .inr (pres_mem hx r h)
theorem mem_pres {x : Fm} : ∀ l : List Fm,x ∈ pres l → ∃ g ∈ l,x ∈ pre g
 | [],h => by rw [pres_nil] at h; cases h
 | a :: r,h => by
  rw [pres_cons,List.mem_append] at h
  rcases h with h | h
  ·exact ⟨a,by simp,h⟩
  ·obtain ⟨g,h1,h2⟩ := mem_pres r h; exact ⟨g,by simp [h1],h2⟩
theorem pres_len {g : Fm} : ∀ l : List Fm,g ∈ l → (pre g).length ≤ (pres l).length
 | a :: r,h => by
  rw [pres_cons,List.length_append]
  cases h with
  | head => omega
  | tail _ h => have := pres_len r h; omega
theorem pre_sub {N : ByteArray → Prop} (f : Fm) (hf : OkF N f) : ∀ x ∈ pre f,OkF N x ∧ (pre x).length ≤ (pre f).length ∧ ∀ y ∈ pre x,y ∈ pre f := by
 induction f using Fm.ind with
 | h f ih =>
  intro x hx
  rw [pre_eq] at hx
  cases hx with
  | head => exact ⟨hf,Nat.le_refl _,fun y h => h⟩
  | tail _ hx =>
   obtain ⟨g,h1,h2⟩ := mem_pres _ hx
   obtain ⟨h3,h4,h5⟩ := ih g h1 (hf.kid h1) x h2
   refine ⟨h3,?_,fun y hy => ?_⟩
   ·have := pres_len _ h1
    rw [pre_eq f]; simp; omega
   ·rw [pre_eq f]; exact List.mem_cons_of_mem _ (pres_mem (h5 y hy) _ h1)
def Td (f : Fm) : Prop := ∀ x ∈ pre f,okN x
theorem Td.kid {f g : Fm} (h : Td f) (hg : g ∈ f.kids) : Td g := fun x hx => h x (by rw [pre_eq]; exact List.mem_cons_of_mem _ (pres_mem hx _ hg))
theorem Td.ok {f : Fm} (h : Td f) : OkF (fun n => isNameB n = true) f := okF_of_pre f h
theorem Td.nine {f : Fm} (h : Td f) : (∃ nm,isNameB nm = true ∧ f = .mk 1 nm []) ∨ (f = .mk 2 ⟨#[]⟩ []) ∨ (f = .mk 3 ⟨#[]⟩ []) ∨ (∃ a,Td a ∧ f = .mk 4 ⟨#[]⟩ [a]) ∨ (∃ a b,Td a ∧ Td b ∧ f = .mk 5 ⟨#[]⟩ [a,b]) ∨
  (∃ a b,Td a ∧ Td b ∧ f = .mk 6 ⟨#[]⟩ [a,b]) ∨ (∃ a b,Td a ∧ Td b ∧ f = .mk 7 ⟨#[]⟩ [a,b]) ∨ (∃ a,Td a ∧ f = .mk 8 ⟨#[]⟩ [a]) ∨ (∃ a,Td a ∧ f = .mk 9 ⟨#[]⟩ [a]) := by
 have hn := (h f (by rw [pre_eq]; exact List.mem_cons_self)).2.2
 rcases h.ok.nine with ⟨nm,hN,rfl⟩ | ⟨nm,rfl⟩ | ⟨nm,rfl⟩ | ⟨nm,a,ha,rfl⟩ | ⟨nm,a,b,ha,hb,rfl⟩ | ⟨nm,a,b,ha,hb,rfl⟩ | ⟨nm,a,b,ha,hb,rfl⟩ | ⟨nm,a,ha,rfl⟩ | ⟨nm,a,ha,rfl⟩
 all_goals simp only [Fm.kind,Fm.name] at hn
 ·exact .inl ⟨nm,hN,rfl⟩
 all_goals obtain rfl : nm = ⟨#[]⟩ := by (refine Classical.byContradiction fun g => hn (.inr ⟨by decide,g⟩))
 ·exact .inr (.inl rfl)
 ·exact .inr (.inr (.inl rfl))
 ·exact .inr (.inr (.inr (.inl ⟨a,h.kid (by simp [Fm.kids]),rfl⟩)))
 ·exact .inr (.inr (.inr (.inr (.inl ⟨a,b,h.kid (by simp [Fm.kids]),h.kid (by simp [Fm.kids]),rfl⟩))))
 ·exact .inr (.inr (.inr (.inr (.inr (.inl ⟨a,b,h.kid (by simp [Fm.kids]),h.kid (by simp [Fm.kids]),rfl⟩)))))
 ·exact .inr (.inr (.inr (.inr (.inr (.inr (.inl ⟨a,b,h.kid (by simp [Fm.kids]),h.kid (by simp [Fm.kids]),rfl⟩))))))
 ·exact .inr (.inr (.inr (.inr (.inr (.inr (.inr (.inl ⟨a,h.kid (by simp [Fm.kids]),rfl⟩)))))))
 ·exact .inr (.inr (.inr (.inr (.inr (.inr (.inr (.inr ⟨a,h.kid (by simp [Fm.kids]),rfl⟩)))))))
theorem Td.pre {f x : Fm} (h : Td f) (hx : x ∈ pre f) : Td x := fun y hy => h y ((pre_sub f h.ok x hx).2.2 y hy)
section
variable {n : Nat} {t : Nat → Nat → Bool} {hold : Nat → ByteArray → Bool} {w : Nat} {nm : ByteArray} {l : List Fm} {a b : Fm}
end
end Go.Proofs.Ytcllmionhlmjfaa
namespace Go.Proofs.Ytcllmionhlmjfaa
open Go Go.Pv
def levelN (k : Int) : Int := if k = 7 then 1 else if k = 6 then 2 else if k = 5 then 3 else 4
def paren (s : ByteArray) (k least : Int) : ByteArray := if levelN k < least then (⟨#[40]⟩ : ByteArray) ++ s ++ (⟨#[41]⟩ : ByteArray) else s
mutual
def said : Fm → Int → ByteArray
 | .mk k nm l => fun least =>
  let a := ((saids l)[0]?).getD fun _ => ⟨#[]⟩
  let b := ((saids l)[1]?).getD fun _ => ⟨#[]⟩
  paren (if k = 1 then nm else if k = 2 then ⟨#[49]⟩ else if k = 3 then ⟨#[48]⟩ else if k = 4 then (⟨#[126]⟩ : ByteArray) ++ a 4 else if k = 8 then (⟨#[91,93]⟩ : ByteArray) ++ a 4 else if k = 9 then (⟨#[60,62]⟩ : ByteArray) ++ a 4
   else if k = 5 then a 3 ++ (⟨#[32,38,32]⟩ : ByteArray) ++ b 4 else if k = 6 then a 2 ++ (⟨#[32,124,32]⟩ : ByteArray) ++ b 3 else if k = 7 then a 2 ++ (⟨#[32,45,62,32]⟩ : ByteArray) ++ b 1 else ⟨#[]⟩) k least
def saids : List Fm → List (Int → ByteArray)
 | [] => []
 | f :: r => said f :: saids r
end
end Go.Proofs.Ytcllmionhlmjfaa
namespace Go.Proofs.Ytcllmionhlmjfaa
open Go Go.Pv
abbrev Bs := List UInt8
def B (t : ByteArray) (i : Nat) : Bs := t.data.toList.drop i
theorem B_len (t : ByteArray) (i : Nat) : (B t i).length = t.size - i := by unfold B; rw [List.length_drop]; rfl
theorem B_add {t : ByteArray} {i : Nat} {s r : Bs} (h : B t i = s ++ r) : B t (i + s.length) = r := by
 unfold B at *
 rw [← List.drop_drop,h,List.drop_left]
theorem B_cons {t : ByteArray} {i : Nat} {c : UInt8} {r : Bs} (h : B t i = c :: r) : ∃ hi : i < t.size,t[i] = c ∧ B t (i + 1) = r := by
 have h1 : i < t.size := by
  have := B_len t i
  rw [h,List.length_cons] at this; omega
 refine ⟨h1,?_,B_add (s := [c]) h⟩
 unfold B at h
 have h2 : (t.data.toList.drop i)[0]? = some c := by rw [h]; rfl
 rw [List.getElem?_drop,Nat.add_zero,Array.getElem?_toList,Array.getElem?_eq_getElem h1] at h2
 exact Option.some.inj h2
theorem B_end {t : ByteArray} {i : Nat} (h : B t i = []) : ¬ i < t.size := by
 have := B_len t i
 rw [h] at this
 simp at this; omega
theorem bl_B (t : ByteArray) : ∀ r i,t.size - i = r → B t (bl t i) = (B t i).dropWhile isBl := by
 intro r
 induction r with
 | zero =>
  intro i hi
  have : B t i = [] := by
   have := B_len t i
   rw [hi] at this; exact List.eq_nil_of_length_eq_zero this
  rw [bl_end (by omega),this]; rfl
 | succ r ih =>
  intro i hi
  have hlt : i < t.size := by omega
  cases hb : B t i with
  | nil => exact absurd hlt (B_end hb)
  | cons c s =>
   obtain ⟨_,h1,h2⟩ := B_cons hb
   cases hc : isBl c with
   | true => rw [bl_step hlt (by rw [h1]; exact hc),ih (i + 1) (by omega),h2,List.dropWhile_cons,if_pos hc]
   | false => rw [bl_stop hlt (by rw [h1]; exact hc),hb,List.dropWhile_cons,if_neg (by simp [hc])]
theorem B_bl {t : ByteArray} {i : Nat} : B t (bl t i) = (B t i).dropWhile isBl := bl_B t _ i rfl
theorem hp_B {t w : ByteArray} {i : Nat} (hw0 : 0 < w.size) : hp t i w = true ↔ ∃ r,B t i = w.data.toList ++ r := by
 unfold hp
 rw [decide_eq_true_eq]
 have key : i + w.size ≤ t.size → ((t.extract i (i + w.size)).data.toList = (B t i).take w.size) := fun h => by
  rw [ByteArray.data_extract,Array.toList_extract,List.extract_eq_take_drop]
  unfold B
  congr 1; omega
 constructor
 ·rintro ⟨h1,h2⟩
  refine ⟨(B t i).drop w.size,?_⟩
  have := key h1
  rw [h2] at this
  rw [this,List.take_append_drop]
 ·rintro ⟨r,hr⟩
  have hl := B_len t i
  rw [hr,List.length_append] at hl
  have hw : w.data.toList.length = w.size := rfl
  have h1 : i + w.size ≤ t.size := by omega
  refine ⟨h1,?_⟩
  apply ByteArray.ext
  apply Array.toList_inj.1
  rw [key h1,hr,List.take_left' hw]
theorem hp1 {t : ByteArray} {i : Nat} {c : UInt8} : hp t i ⟨#[c]⟩ = decide ((B t i).head? = some c) := by
 rw [Bool.eq_iff_iff,hp_B (w := ⟨#[c]⟩) Nat.zero_lt_one,decide_eq_true_eq]
 show (∃ r,B t i = [c] ++ r) ↔ _
 cases B t i with
 | nil => simp
 | cons x r => simp [eq_comm]
theorem hp2 {t : ByteArray} {i : Nat} {c d : UInt8} : hp t i ⟨#[c,d]⟩ = true ↔ ∃ r,B t i = c :: d :: r := by
 rw [hp_B (w := ⟨#[c,d]⟩) (Nat.succ_pos 1)]; rfl
theorem hp2_no {t : ByteArray} {i : Nat} {c d : UInt8} (h : (B t i).head? ≠ some c) : hp t i ⟨#[c,d]⟩ = false := by
 rw [← Bool.not_eq_true,hp2]
 rintro ⟨r,hr⟩
 rw [hr] at h; exact h rfl
def hd (r : Bs) : Option UInt8 := (r.dropWhile isBl).head?
theorem hp1_bl {t : ByteArray} {e e0 : Nat} {r : Bs} {c : UInt8} (h : bl t e = bl t e0) (hB : B t e0 = r) : hp t (bl t e) ⟨#[c]⟩ = decide (hd r = some c) := by
 rw [hp1,h,B_bl,hB]; rfl
theorem hp2_bl {t : ByteArray} {e e0 : Nat} {r : Bs} {c d : UInt8} (h : bl t e = bl t e0) (hB : B t e0 = r) (hn : hd r ≠ some c) : hp t (bl t e) ⟨#[c,d]⟩ = false := by
 refine hp2_no ?_
 rw [h,B_bl,hB]; exact hn
def Fol (r : Bs) : Prop := r = [] ∨ ∃ c r',r = c :: r' ∧ (c = 32 ∨ c = 41)
section
variable {t : ByteArray} {f : Fm}
end
section
variable {t : ByteArray}
theorem no_blank {i : Nat} {c : UInt8} {r : Bs} (hB : B t i = c :: r) (hc : isBl c = false) : bl t i = i := by
 obtain ⟨h1,h2,_⟩ := B_cons hB
 exact bl_stop h1 (by rw [h2]; exact hc)
theorem hd41 {r : Bs} : hd (41 :: r) = some 41 := rfl
theorem ext_B {i : Nat} {w : ByteArray} {r : Bs} (h : B t i = w.data.toList ++ r) : t.extract i (i + w.data.toList.length) = w := by
 apply ByteArray.ext
 apply Array.toList_inj.1
 rw [ByteArray.data_extract,Array.toList_extract,List.extract_eq_take_drop]
 show (B t i).take _ = _
 rw [h,show i + w.data.toList.length - i = w.data.toList.length by omega,List.take_left]
end
end Go.Proofs.Ytcllmionhlmjfaa
namespace Go.Proofs
open Go.Shelf
end Go.Proofs
namespace Go.Pv
open Go Go.Sort Go.Proofs
set_option linter.unusedVariables false
set_option linter.unusedSimpArgs false
section
variable {C : Ctx} {p : PHeap} {σ : Sig} {s : Store} {w : World}
end
theorem set_same {s : Store} {i : Nat} {o : PObj} (h : s[i]? = some o) : s.set i o = s := by
 apply List.ext_getElem?
 intro j
 rw [List.getElem?_set]
 split
 ·subst_vars
  rw [if_pos (lt_of_getElem? h),h]
 ·rfl
end Go.Pv
