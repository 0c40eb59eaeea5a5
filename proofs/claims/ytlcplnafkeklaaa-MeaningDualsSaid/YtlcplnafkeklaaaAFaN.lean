import Derived.Test.YtlcplnafkeklaaaAFaB
import Derived.Test.YtlcplnafkeklaaaAPvPan
import Derived.Test.YtlcplnafkeklaaaAFaG
import Derived.Test.YtlcplnafkeklaaaAFpA
set_option linter.unusedVariables false
set_option linter.unusedSimpArgs false
set_option maxRecDepth 100000
set_option maxHeartbeats 4000000
set_option linter.unusedSectionVars false
namespace Go.Proofs.Ytlcplnafkeklaaa
open Go Go.Pv
def x47 : XC := .seq (.reg [⟨some 5,.call ⟨.builtin .recover,#[],#[]⟩,none⟩]) (.block 0 (.seq (.reg [⟨some 7,.binOp .eql 20 (.tmp 5) (.const .nilIface) 20,none⟩]) (.cond (.tmp 7) (.reg [⟨some 2,.assign (.tmp 5),none⟩]) (.seq (.reg [⟨some 8,.typeAssert (.tmp 5) 20 100 true,none⟩,⟨some 9,.extract (.tmp 8) 1,none⟩,⟨some 10,.extract (.tmp 8) 0,none⟩]) (.cond (.tmp 9) (.seq (.reg [⟨some 3,.alloc 100,none⟩,⟨none,.store 100 (.tmp 3) (.tmp 10),none⟩]) (.reg [⟨some 11,.move (.tmp 0),none⟩,⟨some 12,.fieldAddr 100 (.tmp 3) 0,none⟩,⟨some 13,.load 36 (.tmp 12),none⟩,⟨some 14,.nilCheck (.tmp 11),none⟩,⟨none,.store 36 (.tmp 14) (.tmp 13),none⟩])) (.seq (.reg [⟨some 4,.assign (.tmp 5),none⟩]) (.reg [⟨some 6,.move (.tmp 4),none⟩,⟨none,.panic (.tmp 6),none⟩])))))))
@[simp] theorem x47_s {C e s K} : type_of% (@X_at C e s K _ _ x47.eq_1) := X_at x47.eq_1
def an47 : Ann := ⟨[],[],[]⟩
theorem fr_caught : FR Try.prog 47 (cxA an47) 5 (sndX x47) [] Try.f47 := frA Try.func47 mixed (by decide +kernel) (by kernel_rfl) (by kernel_rfl)
@[simp] theorem fn_nil : xnilI Try.prog 20 .niliface = some (.bool true) := by kernel_rfl
@[simp] theorem fn_some (t : TypeId) (v : PV) : xnilI Try.prog 20 (.iface t v) = some (.bool false) := by kernel_rfl
theorem caught_none (c a : Int) : CallRec Try.prog 47 none [.ptr 0 0 0] [.rows 2 [[.int .i64 c,.int .i64 a]]] [.rows 2 [[.int .i64 c,.int .i64 a]]] := by
 refine FR.og (v := .tuple []) fr_caught (r := none) (rv := .niliface) rfl ?_
 simp only [x47,sndX]
 (refine Sg.h ?_;try repeat' ((with_reducible first|refine brA ?_|refine brE fun _=>?_|refine spl ⟨?_,?_⟩<;>intro _)<;> ((try simp -implicitDefEqProofs); (try simp -implicitDefEqProofs(disch:=first|assumption|(try simp only[lens]);omega -splitDisjunctions)))))
theorem caught_stop (c a c0 a0 : Int) : CallRec Try.prog 47 (some (stopE c a)) [.ptr 0 0 0] [.rows 2 [[.int .i64 c0,.int .i64 a0]]] [.rows 2 [[.int .i64 c,.int .i64 a]]] := by
 refine FR.og (v := .tuple []) fr_caught (r := some (stopE c a)) (pan_fst c a) ?_
 simp only [x47,sndX]
 (refine Sg.h ?_;try repeat' ((with_reducible first|refine brA ?_|refine brE fun _=>?_|refine spl ⟨?_,?_⟩<;>intro _)<;> ((try simp -implicitDefEqProofs); (try simp -implicitDefEqProofs(disch:=first|assumption|(try simp only[lens]);omega -splitDisjunctions)))))
def checkX (e : Ex) : Int × Int := match exprW e (0,[]) with
 | .ok _ => (0,0)
 | .error (er,_) => (er.1,(er.2 : Int))
def x29 : XC := .seq (.reg [⟨some 1,.box 29 (.tmp 0),none⟩,⟨some 2,.alloc 36,none⟩]) (.seq (.reg [⟨none,.defer ⟨.value (.func 47),#[.tmp 2],#[77]⟩,none⟩]) (.seq (.reg [⟨some 4,.makeMap 63 none,none⟩,⟨some 5,.build 80 #[(1,.tmp 4)],none⟩,⟨some 6,.box 80 (.tmp 5),none⟩,⟨some 3,.assign (.tmp 6),none⟩]) (.seq (.reg [⟨some 7,.move (.tmp 3),none⟩,⟨some 8,.load 29 (.tmp 1),none⟩,⟨some 9,.call ⟨.value (.func 48),#[.tmp 7,.tmp 8],#[78,29]⟩,none⟩]) (.seq (.reg [⟨some 10,.load 36 (.tmp 2),none⟩,⟨none,.store 36 (.tmp 2) (.tmp 10),none⟩]) .ret))))
@[simp] theorem x29_s {C e s K} : type_of% (@X_at C e s K _ _ x29.eq_1) := X_at x29.eq_1
def an29 : Ann := ⟨[],[],[]⟩
theorem fdn_check : FDN Try.prog 29 (cxA an29) (preX 1 x29) 2 47 (dropX 2 x29) [.cell 2 36] Try.f29 := fdnA Try.func29 mixed (by decide +kernel) (by kernel_rfl) (by kernel_rfl)
theorem Check_first (e : Ex) : CallOK Try.prog 29 [.agg (exr e)] [] (.agg [.int .i64 (checkX e).1,.int .i64 (checkX e).2]) [] := by
 have hc := expr_walker e (0,[]) (by simp)
 refine FDN.os fdn_check ?_
 simp only [x29,preX,dropX]
 unfold checkX
 cases hw : exprW e (0,[]) with
 | error er =>
  obtain ⟨er,s'⟩ := er
  rw [hw] at hc
  simp only [ToldW] at hc
  (refine Sg.h ?_;try repeat' ((with_reducible first|refine brA ?_|refine brE fun _=>?_|refine spl ⟨?_,?_⟩<;>intro _)<;> ((try simp -implicitDefEqProofs); (try simp -implicitDefEqProofs(disch:=first|assumption|(try simp only[lens]);omega -splitDisjunctions)))))
  refine CL.psub [3,2] (s2 := wk s') (v := stopE er.1 er.2) (by simpa [liveS,mapI] using hc) ?_
  (refine Sg.h ?_;try repeat' ((with_reducible first|refine brA ?_|refine brE fun _=>?_|refine spl ⟨?_,?_⟩<;>intro _)<;> ((try simp -implicitDefEqProofs); (try simp -implicitDefEqProofs(disch:=first|assumption|(try simp only[lens]);omega -splitDisjunctions)))))
  refine DRecN.sub [1] (caught_stop er.1 er.2 0 0) ?_
  (refine Sg.h ?_;try repeat' ((with_reducible first|refine brA ?_|refine brE fun _=>?_|refine spl ⟨?_,?_⟩<;>intro _)<;> ((try simp -implicitDefEqProofs); (try simp -implicitDefEqProofs(disch:=first|assumption|(try simp only[lens]);omega -splitDisjunctions)))))
 | ok s' =>
  rw [hw] at hc
  simp only [ToldW] at hc
  (refine Sg.h ?_;try repeat' ((with_reducible first|refine brA ?_|refine brE fun _=>?_|refine spl ⟨?_,?_⟩<;>intro _)<;> ((try simp -implicitDefEqProofs); (try simp -implicitDefEqProofs(disch:=first|assumption|(try simp only[lens]);omega -splitDisjunctions)))))
  refine CL.sub [3,2] (s2 := wk s') (v := .tuple []) (by simpa [liveS,mapI] using hc) ?_
  (refine Sg.h ?_;try repeat' ((with_reducible first|refine brA ?_|refine brE fun _=>?_|refine spl ⟨?_,?_⟩<;>intro _)<;> ((try simp -implicitDefEqProofs); (try simp -implicitDefEqProofs(disch:=first|assumption|(try simp only[lens]);omega -splitDisjunctions)))))
  refine DRecN.sub [1] (caught_none 0 0) ?_
  (refine Sg.h ?_;try repeat' ((with_reducible first|refine brA ?_|refine brE fun _=>?_|refine spl ⟨?_,?_⟩<;>intro _)<;> ((try simp -implicitDefEqProofs); (try simp -implicitDefEqProofs(disch:=first|assumption|(try simp only[lens]);omega -splitDisjunctions)))))
def Bad (R : RW) : Prop := ∀ er s,R = .error (er,s) → er.1 ≠ 0
theorem bad_err {c : Int} {p : Nat} {s : WS} (h : c ≠ 0) : Bad (.error ((c,p),s)) := fun er s' e => by cases e; exact h
theorem bad_ok {s : WS} : Bad (.ok s) := fun er s' e => by cases e
theorem manyW_bad {p : Nat} {key : ByteArray} {c : Nat} {s : WS} : Bad (manyW p key c s) := by
 unfold manyW
 split
 ·split
  ·exact bad_ok
  ·exact bad_err (by decide)
 ·exact bad_ok
theorem wordH_bad {nm : ByteArray} {c : Nat} {s : WS} : Bad (wordH nm c s) := by
 unfold wordH
 split
 ·exact bad_err (by decide)
 split
 ·split
  ·exact bad_err (by decide)
  ·exact bad_ok
 split
 ·exact manyW_bad
 ·exact bad_err (by decide)
theorem bad_bind {R : RW} {f : WS → RW} (hf : ∀ s,Bad (f s)) : Bad R → Bad (match R with
  | .ok s => f s
  | .error e => .error e) := by
 cases R with
 | ok s => exact fun _ => hf s
 | error e => exact fun h => h
theorem wordsW_bad (l : List Wd) (ih : ∀ w ∈ l,∀ s,Bad (wordW w s)) : ∀ s,Bad (wordsW l s) := by
 induction l with
 | nil => intro s; rw [wordsW]; exact bad_ok
 | cons w r ihr =>
  intro s
  rw [wordsW]
  exact bad_bind (ihr fun w hw => ih w (by simp [hw])) (ih w (by simp) s)
theorem wordW_bad (w : Wd) : ∀ s,Bad (wordW w s) := by
 induction w using Wd.ind with
 | h w ih =>
  intro s
  rw [wordW_eq]
  exact bad_bind (wordsW_bad _ ih) wordH_bad
theorem exprH_bad {k : Int} {nm : ByteArray} {wc kc : Nat} {s : WS} : Bad (exprH k nm wc kc s) := by
 unfold exprH
 split
 ·exact bad_err (by decide)
 split
 ·exact bad_err (by decide)
 split
 ·exact bad_err (by decide)
 split
 ·split
  ·exact manyW_bad
  ·exact bad_err (by decide)
 split
 ·split
  ·exact bad_ok
  ·exact bad_err (by decide)
 split
 ·exact bad_ok
 ·exact bad_err (by decide)
theorem exprsW_bad (l : List Ex) (ih : ∀ w ∈ l,∀ s,Bad (exprW w s)) : ∀ s,Bad (exprsW l s) := by
 induction l with
 | nil => intro s; rw [exprsW]; exact bad_ok
 | cons w r ihr =>
  intro s
  rw [exprsW]
  exact bad_bind (ihr fun w hw => ih w (by simp [hw])) (ih w (by simp) s)
theorem exprW_bad (e : Ex) : ∀ s,Bad (exprW e s) := by
 induction e using Ex.ind with
 | h e ih =>
  intro s
  rw [exprW_eq]
  exact bad_bind (fun s1 => bad_bind (exprsW_bad _ ih) (wordsW_bad _ (fun w _ => wordW_bad w) s1)) exprH_bad
theorem checkX_zero {e : Ex} (h : (checkX e).1 = 0) : checkX e = (0,0) := by
 unfold checkX at h ⊢
 split
 ·rfl
 ·rename_i er s he
  rw [he] at h
  exact absurd h (exprW_bad e _ _ _ he)
end Go.Proofs.Ytlcplnafkeklaaa
namespace Go.Proofs.Ytlcplnafkeklaaa
open Go Go.Pv
theorem Fm.ind {p : Fm → Prop} (h : ∀ f : Fm,(∀ g ∈ f.kids,p g) → p f) : ∀ f,p f
 | .mk k nm kids => h _ fun g hg => Fm.ind h g
termination_by f => SizeOf.sizeOf f
decreasing_by
 have := List.sizeOf_lt_of_mem hg
 simp only [Fm.kids,Fm.mk.sizeOf_spec] at *
 omega
end Go.Proofs.Ytlcplnafkeklaaa
namespace Go.Proofs.Ytlcplnafkeklaaa
open Go Go.Pv
inductive OkF (N : ByteArray → Prop) : Fm → Prop where
 | mk {k : Int} {nm : ByteArray} {kids : List Fm} (h : (kids.length : Int) = kidsN k) (hN : k = 1 → N nm) (g : ∀ f ∈ kids,OkF N f) : OkF N (.mk k nm kids)
mutual
def pre : Fm → List Fm
 | .mk k nm l => .mk k nm l :: pres l
def pres : List Fm → List Fm
 | [] => []
 | f :: r => pre f ++ pres r
end
theorem pre_eq (f : Fm) : pre f = f :: pres f.kids := by cases f with | mk k nm l => rw [pre]; rfl
theorem pres_nil : pres [] = [] := by rw [pres]
theorem pres_cons (f : Fm) (r : List Fm) : pres (f :: r) = pre f ++ pres r := by rw [pres]
def okN (x : Fm) : Prop := 0 ≤ kidsN x.kind ∧ (x.kids.length : Int) = kidsN x.kind ∧ ¬ ((x.kind = 1 ∧ isNameB x.name = false) ∨ (x.kind ≠ 1 ∧ x.name ≠ ⟨#[]⟩))
theorem okF_of_pre : ∀ f : Fm,(∀ x ∈ pre f,okN x) → OkF (fun n => isNameB n = true) f := by
 intro f
 induction f using Fm.ind with
 | h f ih =>
  intro h
  have h0 := h f (by rw [pre_eq]; simp)
  cases f with
  | mk k nm l =>
   refine .mk h0.2.1 (fun hk => ?_) fun g hg => ih g hg fun x hx => h x ?_
   ·have := h0.2.2
    simp only [Fm.kind,Fm.name,hk,true_and,not_or] at this
    simpa using this.1
   ·rw [pre_eq]
    refine List.mem_cons_of_mem _ ?_
    have : ∀ l : List Fm,g ∈ l → x ∈ pres l := by
     intro l
     induction l with
     | nil => intro h; cases h
     | cons a r ihr =>
      intro h
      rw [pres_cons,List.mem_append]
      cases h with
      | head => exact .inl hx
      | tail _ h => exact .inr (ihr h)
    exact this l hg
end Go.Proofs.Ytlcplnafkeklaaa
namespace Go.Proofs.Ytlcplnafkeklaaa
open Go Go.Pv
theorem OkF.kid {N : ByteArray → Prop} {f g : Fm} (h : OkF N f) (hg : g ∈ f.kids) : OkF N g := by
 cases h with | mk a b c => exact c g hg
theorem pres_mem {x g : Fm} (hx : x ∈ pre g) : ∀ l : List Fm,g ∈ l → x ∈ pres l
 | a :: r,h => by
  rw [pres_cons,List.mem_append]
  cases h with
  | head => exact .inl hx
  | tail _ h => exact .inr (pres_mem hx r h)
theorem mem_pres {x : Fm} : ∀ l : List Fm,x ∈ pres l → ∃ g ∈ l,x ∈ pre g
 | [],h => by rw [pres_nil] at h; cases h
 | a :: r,h => by
  rw [pres_cons,List.mem_append] at h
  rcases h with h | h
  ·exact ⟨a,by simp,h⟩
  ·obtain ⟨g,h1,h2⟩ := mem_pres r h; exact ⟨g,by simp [h1],h2⟩
theorem pres_len {g : Fm} : ∀ l : List Fm,g ∈ l → (pre g).length ≤ (pres l).length
 | a :: r,h => by
  rw [pres_cons,List.length_append]
  cases h with
  | head => omega
  | tail _ h => have := pres_len r h; omega
theorem pre_sub {N : ByteArray → Prop} (f : Fm) (hf : OkF N f) : ∀ x ∈ pre f,OkF N x ∧ (pre x).length ≤ (pre f).length ∧ ∀ y ∈ pre x,y ∈ pre f := by
 induction f using Fm.ind with
 | h f ih =>
  intro x hx
  rw [pre_eq] at hx
  cases hx with
  | head => exact ⟨hf,Nat.le_refl _,fun y h => h⟩
  | tail _ hx =>
   obtain ⟨g,h1,h2⟩ := mem_pres _ hx
   obtain ⟨h3,h4,h5⟩ := ih g h1 (hf.kid h1) x h2
   refine ⟨h3,?_,fun y hy => ?_⟩
   ·have := pres_len _ h1
    rw [pre_eq f]; simp; omega
   ·rw [pre_eq f]; exact List.mem_cons_of_mem _ (pres_mem (h5 y hy) _ h1)
def Td (f : Fm) : Prop := ∀ x ∈ pre f,okN x
theorem Td.kid {f g : Fm} (h : Td f) (hg : g ∈ f.kids) : Td g := fun x hx => h x (by rw [pre_eq]; exact List.mem_cons_of_mem _ (pres_mem hx _ hg))
theorem Td.ok {f : Fm} (h : Td f) : OkF (fun n => isNameB n = true) f := okF_of_pre f h
theorem Td.pre {f x : Fm} (h : Td f) (hx : x ∈ pre f) : Td x := fun y hy => h y ((pre_sub f h.ok x hx).2.2 y hy)
section
variable {n : Nat} {t : Nat → Nat → Bool} {hold : Nat → ByteArray → Bool} {w : Nat} {nm : ByteArray} {l : List Fm} {a b : Fm}
end
end Go.Proofs.Ytlcplnafkeklaaa
namespace Go.Proofs.Ytlcplnafkeklaaa
open Go Go.Pv
def x16_T1 : XC := .seq (.reg [⟨some 20,.move (.tmp 0),none⟩,⟨some 21,.call ⟨.builtin .len,#[.tmp 20],#[9]⟩,none⟩,⟨some 22,.binOp .gtr 3 (.tmp 21) (.const (.int .i64 0)) 3,none⟩,⟨some 23,.move (.tmp 22),none⟩,⟨some 24,.move (.tmp 0),some (some 23,true)⟩,⟨some 25,.call ⟨.builtin .len,#[.tmp 24],#[9]⟩,some (some 23,true)⟩,⟨some 26,.binOp .lss 3 (.tmp 25) (.const (.int .i64 9)) 3,some (some 23,true)⟩,⟨some 27,.pick (.tmp 23) (.tmp 26) (.const (.bool false)),none⟩,⟨some 2,.assign (.tmp 27),none⟩]) .ret
def x16_L0 : XC := .seq (.seq (.reg [⟨some 4,.move (.tmp 3),none⟩,⟨some 5,.move (.tmp 0),none⟩,⟨some 6,.call ⟨.builtin .len,#[.tmp 5],#[9]⟩,none⟩,⟨some 7,.binOp .lss 3 (.tmp 4) (.tmp 6) 3,none⟩]) (.cond (.tmp 7) .skip (.exit 0))) (.seq (.block 1 (.seq (.reg [⟨some 10,.move (.tmp 0),none⟩,⟨some 11,.move (.tmp 3),none⟩,⟨some 12,.index 9 (.tmp 10) (.tmp 11),none⟩,⟨some 13,.binOp .lss 5 (.tmp 12) (.const (.int .u8 97)) 5,none⟩,⟨some 14,.move (.tmp 13),none⟩,⟨some 15,.move (.tmp 0),some (some 14,false)⟩,⟨some 16,.move (.tmp 3),some (some 14,false)⟩,⟨some 17,.index 9 (.tmp 15) (.tmp 16),some (some 14,false)⟩,⟨some 18,.binOp .gtr 5 (.tmp 17) (.const (.int .u8 122)) 5,some (some 14,false)⟩,⟨some 19,.pick (.tmp 14) (.const (.bool true)) (.tmp 18),none⟩]) (.cond (.tmp 19) (.seq (.reg [⟨some 2,.assign (.const (.bool false)),none⟩]) .ret) .skip))) (.reg [⟨some 8,.move (.tmp 3),none⟩,⟨some 9,.binOp .add 3 (.tmp 8) (.const (.int .i64 1)) 3,none⟩,⟨some 3,.assign (.tmp 9),none⟩]))
def x16 : XC := .seq (.reg [⟨some 2,.assign (.const (.bool false)),none⟩]) (.seq (.seq (.reg [⟨some 3,.assign (.const (.int .i64 0)),none⟩]) (.bloop 0 x16_L0)) (x16_T1))
@[simp] theorem x16_s {C e s K} : type_of% (@X_at C e s K _ _ x16_T1.eq_1) ∧ type_of% (@X_at C e s K _ _ x16_L0.eq_1) ∧ type_of% (@X_at C e s K _ _ x16.eq_1) := ⟨X_at x16_T1.eq_1,X_at x16_L0.eq_1,X_at x16.eq_1⟩
def an16 : Ann := ⟨[],[(0,[],[0,3],[0,2])],[]⟩
@[simp] theorem an16_a : an16.loopOf 0 = ([],[0,3],[0,2]) := rfl
theorem fi16 : FI Try.prog 16 (cxA an16) x16 [.tmp 2] Try.f16 := fiA Try.func16 mixed
theorem IsName_ref (t : ByteArray) : CallOK Try.prog 16 [.str t] [] (.bool (isNameB t)) [] := by
 refine fi16.op ?_
 (refine Sg.h ?_;try repeat' ((with_reducible first|refine brA ?_|refine brE fun _=>?_|refine spl ⟨?_,?_⟩<;>intro _)<;> (try simp -implicitDefEqProofs(disch:=first|assumption|(try simp only[lens]);omega -splitDisjunctions))))
 refine W_of fun Q hQ => ?_
 have main : ∀ n i,i + n = t.size → (∀ j (h : j < t.size),j < i → letterB t[j] = true) → Q [(0,.str t),(3,.int .i64 (i : Int))] [] := by
  intro n
  induction n with
  | zero =>
   intro i hi hl
   have hall : t.data.toList.all letterB = true := by
    rw [all_letter]; intro j hj; exact hl j hj (by omega)
   apply hQ
   (refine Sg.h ?_;try repeat' ((with_reducible first|refine brA ?_|refine brE fun _=>?_|refine spl ⟨?_,?_⟩<;>intro _)<;> (try simp -implicitDefEqProofs(disch:=first|assumption|(try simp only[lens]);omega -splitDisjunctions))))
   all_goals (rw [Bool.eq_iff_iff]; simp [isNameB,hall]; omega)
  | succ n ih =>
   intro i hi hl
   have hlt : i < t.size := by omega
   by_cases hb : letterB t[i] = true
   ·have hb' := hb
    simp only [letterB,decide_eq_true_eq] at hb'
    have ih := ih (i + 1) (by omega) (fun j hj hji => by
     by_cases e : j = i
     ·subst e; exact hb
     ·exact hl j hj (by omega))
    apply hQ
    (refine Sg.h ?_;try repeat' ((with_reducible first|refine brA ?_|refine brE fun _=>?_|refine spl ⟨?_,?_⟩<;>intro _)<;> (try simp -implicitDefEqProofs(disch:=first|assumption|(try simp only[lens]);omega -splitDisjunctions))))
    all_goals simpa using ih
   ·have hno : isNameB t = false := by
     have h2 : ¬ t.data.toList.all letterB = true := by
      rw [all_letter]; intro h3; exact hb (h3 i hlt)
     simp [isNameB,h2]
    simp only [letterB,decide_eq_true_eq] at hb
    apply hQ
    (refine Sg.h ?_;try repeat' ((with_reducible first|refine brA ?_|refine brE fun _=>?_|refine spl ⟨?_,?_⟩<;>intro _)<;> (try simp -implicitDefEqProofs(disch:=first|assumption|(try simp only[lens]);omega -splitDisjunctions))))
    all_goals first | (exfalso; have := hb (by omega); omega; done) | simp_all
 refine at2 (main _ 0 (Nat.zero_add _) (fun j h hj => by omega)) ?_ ?_ <;> simp
end Go.Proofs.Ytlcplnafkeklaaa
namespace Go.Proofs.Ytlcplnafkeklaaa
open Go Go.Pv
inductive Nd where
 | e (x : Ex)
 | w (x : Wd)
 deriving Inhabited
def ndr : Nd → List PV
 | .e x => exr x ++ [.str ⟨#[]⟩,.nilsl,.bool false]
 | .w x => [.int .i64 0,.str ⟨#[]⟩,.nilsl,.nilsl] ++ wrd x ++ [.bool true]
theorem ndr_e (x : Ex) : ndr (.e x) = [.int .i64 x.k,.str x.nm,.list (x.words.map wrd),.list (x.kids.map exr),.str ⟨#[]⟩,.nilsl,.bool false] := by rw [ndr,exr_eq]; rfl
theorem ndr_w (x : Wd) : ndr (.w x) = [.int .i64 0,.str ⟨#[]⟩,.nilsl,.nilsl,.str x.nm,.list (x.args.map wrd),.bool true] := by rw [ndr,wrd_eq]; rfl
theorem ndr_flat (p : Nd) : (ndr p).all flatV = true := by
 cases p with
 | e x => rw [ndr_e]; rfl
 | w x => rw [ndr_w]; rfl
instance : FlatRow ndr := ⟨ndr_flat⟩
@[simp] theorem ndr_length (p : Nd) : (ndr p).length = 7 := by
 cases p with
 | e x => rw [ndr_e]; rfl
 | w x => rw [ndr_w]; rfl
@[simp] theorem ndr_isCell (p : Nd) : (∀ x ∈ ndr p,isCell x = true) = True := by
 cases p with
 | e x => rw [ndr_e]; simp
 | w x => rw [ndr_w]; simp
@[simp] theorem ndr_renm {ρ : List Nat} {n : Nat} {p : Nd} : (ndr p).map (renN ρ n) = ndr p := map_id_of (fun v => flat_ren) (ndr_flat p)
@[simp] theorem ndr_derefm {s : Store} {n : Nat} {p : Nd} : (ndr p).map (deref s n) = ndr p := map_id_of (fun v => flat_deref) (ndr_flat p)
@[simp] theorem ndr_frz {F : List Nat} {s : Store} {p : Nd} : (ndr p).map (frzV F s) = ndr p := map_id_of (fun v => frzV_flat) (ndr_flat p)
@[simp] theorem ndr_up {ρ : List Nat} {n : Nat} {p : Nd} : (ndr p).map (upN ρ n) = ndr p := map_id_of (fun v => flat_up) (ndr_flat p)
@[simp] theorem ndr_refs {n : Nat} {p : Nd} : (ndr p).flatMap (refsN n) = [] := by
 cases p with
 | e x => rw [ndr_e]; simp
 | w x => rw [ndr_w]; simp
@[simp] theorem ndr_cat_e (x : Ex) : exr x ++ [PV.str ⟨#[]⟩,.nilsl,.bool false] = ndr (.e x) := rfl
@[simp] theorem ndr_cat_w (x : Wd) : PV.int .i64 0 :: .str ⟨#[]⟩ :: .nilsl :: .nilsl :: (wrd x ++ [.bool true]) = ndr (.w x) := rfl
mutual
def ndW : Wd → List Nd
 | .mk a l => .w (.mk a l) :: ndWs l
def ndWs : List Wd → List Nd
 | [] => []
 | w :: r => ndW w ++ ndWs r
end
theorem ndW_eq (w : Wd) : ndW w = .w w :: ndWs w.args := by cases w with | mk a l => rw [ndW]; rfl
@[simp] theorem ndWs_nil : ndWs [] = [] := by rw [ndWs]
theorem ndWs_app (a b : List Wd) : ndWs (a ++ b) = ndWs a ++ ndWs b := by
 induction a with
 | nil => rw [ndWs]; rfl
 | cons x r ih => rw [List.cons_append,ndWs,ndWs,ih,List.append_assoc]
mutual
def ndE : Ex → List Nd
 | .mk k a ws l => .e (.mk k a ws l) :: (ndWs ws ++ ndEs l)
def ndEs : List Ex → List Nd
 | [] => []
 | w :: r => ndE w ++ ndEs r
end
theorem ndE_eq (x : Ex) : ndE x = .e x :: (ndWs x.words ++ ndEs x.kids) := by cases x with | mk k a ws l => rw [ndE]; rfl
@[simp] theorem ndEs_nil : ndEs [] = [] := by rw [ndEs]
theorem ndEs_app (a b : List Ex) : ndEs (a ++ b) = ndEs a ++ ndEs b := by
 induction a with
 | nil => rw [ndEs]; rfl
 | cons x r ih => rw [List.cons_append,ndEs,ndEs,ih,List.append_assoc]
theorem take_snocE {α : Type} {l : List α} {i : Nat} (h : i < l.length) : l.take (i + 1) = l.take i ++ [l[i]] := by
 rw [List.take_add_one,List.getElem?_eq_getElem h]; rfl
theorem take_more {α : Type} {a b : List α} {m n : Nat} (h : a.length + n = m) : (a ++ b).take m = a ++ b.take n := by
 rw [List.take_append,List.take_of_length_le (by omega),show m - a.length = n by omega]
def x56_T1 : XC := .seq (.reg [⟨some 39,.move (.tmp 5),none⟩,⟨some 4,.assign (.tmp 39),none⟩]) .ret
def x56_L0 : XC := .seq (.seq (.reg [⟨some 7,.move (.tmp 6),none⟩,⟨some 8,.move (.tmp 0),none⟩,⟨some 9,.call ⟨.builtin .len,#[.tmp 8],#[26]⟩,none⟩,⟨some 10,.binOp .lss 3 (.tmp 7) (.tmp 9) 3,none⟩,⟨some 11,.move (.tmp 10),none⟩,⟨some 12,.move (.tmp 5),some (some 11,true)⟩,⟨some 13,.call ⟨.builtin .len,#[.tmp 12],#[72]⟩,some (some 11,true)⟩,⟨some 14,.move (.tmp 1),some (some 11,true)⟩,⟨some 15,.binOp .leq 3 (.tmp 13) (.tmp 14) 3,some (some 11,true)⟩,⟨some 16,.pick (.tmp 11) (.tmp 15) (.const (.bool false)),none⟩]) (.cond (.tmp 16) .skip (.exit 0))) (.seq (.block 1 (.seq (.reg [⟨some 19,.move (.tmp 5),none⟩,⟨some 20,.move (.tmp 0),none⟩,⟨some 21,.move (.tmp 6),none⟩,⟨some 22,.indexAddr 26 (.tmp 20) (.tmp 21),none⟩,⟨some 23,.load 68 (.tmp 22),none⟩,⟨some 24,.build 97 #[(1,.tmp 23),(2,.const (.bool true))],none⟩,⟨some 25,.buildSlice 72 1 #[(0,.tmp 24)],none⟩,⟨some 26,.call ⟨.builtin .append,#[.tmp 19,.tmp 25],#[72,72]⟩,none⟩,⟨some 5,.assign (.tmp 26),none⟩]) (.reg [⟨some 27,.move (.tmp 5),none⟩,⟨some 28,.move (.tmp 0),none⟩,⟨some 29,.move (.tmp 6),none⟩,⟨some 30,.indexAddr 26 (.tmp 28) (.tmp 29),none⟩,⟨some 31,.fieldAddr 68 (.tmp 30) 1,none⟩,⟨some 32,.load 26 (.tmp 31),none⟩,⟨some 33,.move (.tmp 1),none⟩,⟨some 34,.move (.tmp 5),none⟩,⟨some 35,.call ⟨.builtin .len,#[.tmp 34],#[72]⟩,none⟩,⟨some 36,.binOp .sub 3 (.tmp 33) (.tmp 35) 3,none⟩,⟨some 37,.call ⟨.value (.func 56),#[.tmp 32,.tmp 36],#[26,3]⟩,none⟩,⟨some 38,.call ⟨.builtin .append,#[.tmp 27,.tmp 37],#[72,72]⟩,none⟩,⟨some 5,.assign (.tmp 38),none⟩]))) (.reg [⟨some 17,.move (.tmp 6),none⟩,⟨some 18,.binOp .add 3 (.tmp 17) (.const (.int .i64 1)) 3,none⟩,⟨some 6,.assign (.tmp 18),none⟩]))
def x56 : XC := .seq (.reg [⟨some 4,.assign (.const (.slice none 0 0)),none⟩]) (.seq (.reg [⟨some 5,.assign (.const (.slice none 0 0)),none⟩]) (.seq (.seq (.reg [⟨some 6,.assign (.const (.int .i64 0)),none⟩]) (.bloop 0 x56_L0)) (x56_T1)))
@[simp] theorem x56_s {C e s K} : type_of% (@X_at C e s K _ _ x56_T1.eq_1) ∧ type_of% (@X_at C e s K _ _ x56_L0.eq_1) ∧ type_of% (@X_at C e s K _ _ x56.eq_1) := ⟨X_at x56_T1.eq_1,X_at x56_L0.eq_1,X_at x56.eq_1⟩
def an56 : Ann := ⟨[],[(0,[(5,none,7)],[0,1,5,6],[5])],[]⟩
@[simp] theorem an56_a : an56.loopOf 0 = ([(5,none,7)],[0,1,5,6],[5]) := rfl
theorem fi56 : FI Try.prog 56 (cxA an56) x56 [.tmp 4] Try.f56 := fiA Try.func56 mixed
theorem nodesOfWords_of (l : List Wd) (ih : ∀ w ∈ l,∀ m : Nat,m ≤ 1000000 → CallOK Try.prog 56 [.list (w.args.map wrd),.int .i64 ((m : Int) - 1)] [] (.list (((ndWs w.args).take m).map ndr)) []) (m : Nat) (hm : m ≤ 1000000) :
  CallOK Try.prog 56 [.list (l.map wrd),.int .i64 ((m : Int) - 1)] [] (.list (((ndWs l).take m).map ndr)) [] := by
 refine fi56.op ?_
 obtain ⟨R,hR⟩ : ∃ R,(ndWs l).take m = R := ⟨_,rfl⟩
 rw [hR]
 (refine Sg.h ?_;try repeat' ((with_reducible first|refine brA ?_|refine brE fun _=>?_|refine spl ⟨?_,?_⟩<;>intro _)<;> ((try simp -implicitDefEqProofs); (try simp -implicitDefEqProofs(disch:=first|assumption|(try simp only[lens]);omega -splitDisjunctions)))))
 refine W_of fun Q hQ => ?_
 have main : ∀ n i,i + n = l.length → Q [(0,.list (l.map wrd)),(1,.int .i64 ((m : Int) - 1)),(5,.sl 0 0 ((ndWs (l.take i)).take m).length),(6,.int .i64 (i : Int))] [.rows 7 (((ndWs (l.take i)).take m).map ndr)] := by
  intro n
  induction n with
  | zero =>
   intro i hi
   obtain rfl : i = l.length := by omega
   rw [List.take_of_length_le (Nat.le_refl _),hR]
   apply hQ
   clear hQ
   (refine Sg.h ?_;try repeat' ((with_reducible first|refine brA ?_|refine brE fun _=>?_|refine spl ⟨?_,?_⟩<;>intro _)<;> ((try simp -implicitDefEqProofs); (try simp -implicitDefEqProofs(disch:=first|assumption|(try simp only[lens]);omega -splitDisjunctions)))))
  | succ n ihn =>
   intro i hi
   have hil : i < l.length := by omega
   by_cases hO : m ≤ (ndWs (l.take i)).length
   ·have e : (ndWs (l.take i)).take m = R := by
     rw [← hR]
     conv => rhs; rw [← List.take_append_drop i l,ndWs_app]
     rw [List.take_append_of_le_length hO]
    have hlen : R.length = m := by rw [← e,List.length_take]; omega
    rw [e]
    clear ihn e
    have h1 : ¬ (R.length : Int) ≤ (m : Int) - 1 := by omega
    apply hQ
    clear hQ
    (refine Sg.h ?_;try repeat' ((with_reducible first|refine brA ?_|refine brE fun _=>?_|refine spl ⟨?_,?_⟩<;>intro _)<;> ((try simp -implicitDefEqProofs [hil,h1]); (try simp -implicitDefEqProofs(disch:=first|assumption|(try simp only[lens]);omega -splitDisjunctions) [hil,h1]))))
   ·have ihn := ihn (i + 1) (by omega)
    have hc := ih l[i] (List.getElem_mem hil) (m - ((ndWs (l.take i)).length + 1)) (by omega)
    rw [take_snocE hil,ndWs_app,ndWs,ndWs_nil,List.append_nil,ndW_eq,show ndWs (l.take i) ++ .w l[i] :: ndWs l[i].args = (ndWs (l.take i) ++ [.w l[i]]) ++ ndWs l[i].args by simp,take_more (n := m - ((ndWs (l.take i)).length + 1)) (by simp; omega)] at ihn
    rw [List.take_of_length_le (by omega)]
    generalize ndWs (l.take i) = A at *
    have hm1 : ((m - (A.length + 1) : Nat) : Int) - 1 = (m : Int) - 1 - ((A.length : Int) + 1) := by omega
    rw [hm1] at hc
    have hBl : ((ndWs l[i].args).take (m - (A.length + 1))).length ≤ 1000000 := by rw [List.length_take]; omega
    generalize (ndWs l[i].args).take (m - (A.length + 1)) = B at *
    have h1 : (A.length : Int) ≤ (m : Int) - 1 := by omega
    have h2 : A.length ≤ 1000000 := by omega
    apply hQ
    clear hQ
    have hx := wrd_eq l[i]
    have ht : ∀ r : List PV,(A.map ndr ++ [r]).take (A.length + 1) = A.map ndr ++ [r] := fun r => List.take_of_length_le (by simp)
    (refine Sg.h ?_;try repeat' ((first | (with_reducible first|refine brA ?_|refine brE fun _=>?_|refine spl ⟨?_,?_⟩<;>intro _) | refine clo hc ?_) <;> ((try simp -implicitDefEqProofs [hil,h1,hx,ht]); (try simp -implicitDefEqProofs(disch:=first|assumption|(try simp only[lens]);omega -splitDisjunctions) [hil,h1,hx,ht]))))
    refine at2 ihn ?_ ?_
    ·simp
     try omega
    ·simp [ndr_w]
 have h0 := main l.length 0 (Nat.zero_add _)
 simp only [List.take_zero,ndWs_nil,List.take_nil,List.length_nil,List.map_nil] at h0
 exact h0
theorem nodesOfWords_ref (w : Wd) : ∀ m : Nat,m ≤ 1000000 → CallOK Try.prog 56 [.list (w.args.map wrd),.int .i64 ((m : Int) - 1)] [] (.list (((ndWs w.args).take m).map ndr)) [] := by
 induction w using Wd.ind with
 | h w ih => exact nodesOfWords_of w.args ih
def x43_T1 : XC := .seq (.reg [⟨some 51,.move (.tmp 5),none⟩,⟨some 4,.assign (.tmp 51),none⟩]) .ret
def x43_L0 : XC := .seq (.seq (.reg [⟨some 7,.move (.tmp 6),none⟩,⟨some 8,.move (.tmp 0),none⟩,⟨some 9,.call ⟨.builtin .len,#[.tmp 8],#[27]⟩,none⟩,⟨some 10,.binOp .lss 3 (.tmp 7) (.tmp 9) 3,none⟩,⟨some 11,.move (.tmp 10),none⟩,⟨some 12,.move (.tmp 5),some (some 11,true)⟩,⟨some 13,.call ⟨.builtin .len,#[.tmp 12],#[72]⟩,some (some 11,true)⟩,⟨some 14,.move (.tmp 1),some (some 11,true)⟩,⟨some 15,.binOp .leq 3 (.tmp 13) (.tmp 14) 3,some (some 11,true)⟩,⟨some 16,.pick (.tmp 11) (.tmp 15) (.const (.bool false)),none⟩]) (.cond (.tmp 16) .skip (.exit 0))) (.seq (.block 1 (.seq (.reg [⟨some 19,.move (.tmp 5),none⟩,⟨some 20,.move (.tmp 0),none⟩,⟨some 21,.move (.tmp 6),none⟩,⟨some 22,.indexAddr 27 (.tmp 20) (.tmp 21),none⟩,⟨some 23,.load 29 (.tmp 22),none⟩,⟨some 24,.build 97 #[(0,.tmp 23)],none⟩,⟨some 25,.buildSlice 72 1 #[(0,.tmp 24)],none⟩,⟨some 26,.call ⟨.builtin .append,#[.tmp 19,.tmp 25],#[72,72]⟩,none⟩,⟨some 5,.assign (.tmp 26),none⟩]) (.seq (.reg [⟨some 27,.move (.tmp 5),none⟩,⟨some 28,.move (.tmp 0),none⟩,⟨some 29,.move (.tmp 6),none⟩,⟨some 30,.indexAddr 27 (.tmp 28) (.tmp 29),none⟩,⟨some 31,.fieldAddr 29 (.tmp 30) 2,none⟩,⟨some 32,.load 26 (.tmp 31),none⟩,⟨some 33,.move (.tmp 1),none⟩,⟨some 34,.move (.tmp 5),none⟩,⟨some 35,.call ⟨.builtin .len,#[.tmp 34],#[72]⟩,none⟩,⟨some 36,.binOp .sub 3 (.tmp 33) (.tmp 35) 3,none⟩,⟨some 37,.call ⟨.value (.func 56),#[.tmp 32,.tmp 36],#[26,3]⟩,none⟩,⟨some 38,.call ⟨.builtin .append,#[.tmp 27,.tmp 37],#[72,72]⟩,none⟩,⟨some 5,.assign (.tmp 38),none⟩]) (.reg [⟨some 39,.move (.tmp 5),none⟩,⟨some 40,.move (.tmp 0),none⟩,⟨some 41,.move (.tmp 6),none⟩,⟨some 42,.indexAddr 27 (.tmp 40) (.tmp 41),none⟩,⟨some 43,.fieldAddr 29 (.tmp 42) 3,none⟩,⟨some 44,.load 27 (.tmp 43),none⟩,⟨some 45,.move (.tmp 1),none⟩,⟨some 46,.move (.tmp 5),none⟩,⟨some 47,.call ⟨.builtin .len,#[.tmp 46],#[72]⟩,none⟩,⟨some 48,.binOp .sub 3 (.tmp 45) (.tmp 47) 3,none⟩,⟨some 49,.call ⟨.value (.func 43),#[.tmp 44,.tmp 48],#[27,3]⟩,none⟩,⟨some 50,.call ⟨.builtin .append,#[.tmp 39,.tmp 49],#[72,72]⟩,none⟩,⟨some 5,.assign (.tmp 50),none⟩])))) (.reg [⟨some 17,.move (.tmp 6),none⟩,⟨some 18,.binOp .add 3 (.tmp 17) (.const (.int .i64 1)) 3,none⟩,⟨some 6,.assign (.tmp 18),none⟩]))
def x43 : XC := .seq (.reg [⟨some 4,.assign (.const (.slice none 0 0)),none⟩]) (.seq (.reg [⟨some 5,.assign (.const (.slice none 0 0)),none⟩]) (.seq (.seq (.reg [⟨some 6,.assign (.const (.int .i64 0)),none⟩]) (.bloop 0 x43_L0)) (x43_T1)))
@[simp] theorem x43_s {C e s K} : type_of% (@X_at C e s K _ _ x43_T1.eq_1) ∧ type_of% (@X_at C e s K _ _ x43_L0.eq_1) ∧ type_of% (@X_at C e s K _ _ x43.eq_1) := ⟨X_at x43_T1.eq_1,X_at x43_L0.eq_1,X_at x43.eq_1⟩
def an43 : Ann := ⟨[],[(0,[(5,none,7)],[0,1,5,6],[5])],[]⟩
@[simp] theorem an43_a : an43.loopOf 0 = ([(5,none,7)],[0,1,5,6],[5]) := rfl
theorem fi43 : FI Try.prog 43 (cxA an43) x43 [.tmp 4] Try.f43 := fiA Try.func43 mixed
theorem nodesOf_of (l : List Ex) (ih : ∀ w ∈ l,∀ m : Nat,m ≤ 1000000 → CallOK Try.prog 43 [.list (w.kids.map exr),.int .i64 ((m : Int) - 1)] [] (.list (((ndEs w.kids).take m).map ndr)) []) (m : Nat) (hm : m ≤ 1000000) :
  CallOK Try.prog 43 [.list (l.map exr),.int .i64 ((m : Int) - 1)] [] (.list (((ndEs l).take m).map ndr)) [] := by
 refine fi43.op ?_
 obtain ⟨R,hR⟩ : ∃ R,(ndEs l).take m = R := ⟨_,rfl⟩
 rw [hR]
 (refine Sg.h ?_;try repeat' ((with_reducible first|refine brA ?_|refine brE fun _=>?_|refine spl ⟨?_,?_⟩<;>intro _)<;> ((try simp -implicitDefEqProofs); (try simp -implicitDefEqProofs(disch:=first|assumption|(try simp only[lens]);omega -splitDisjunctions)))))
 refine W_of fun Q hQ => ?_
 have main : ∀ n i,i + n = l.length → Q [(0,.list (l.map exr)),(1,.int .i64 ((m : Int) - 1)),(5,.sl 0 0 ((ndEs (l.take i)).take m).length),(6,.int .i64 (i : Int))] [.rows 7 (((ndEs (l.take i)).take m).map ndr)] := by
  intro n
  induction n with
  | zero =>
   intro i hi
   obtain rfl : i = l.length := by omega
   rw [List.take_of_length_le (Nat.le_refl _),hR]
   apply hQ
   clear hQ
   (refine Sg.h ?_;try repeat' ((with_reducible first|refine brA ?_|refine brE fun _=>?_|refine spl ⟨?_,?_⟩<;>intro _)<;> ((try simp -implicitDefEqProofs); (try simp -implicitDefEqProofs(disch:=first|assumption|(try simp only[lens]);omega -splitDisjunctions)))))
  | succ n ihn =>
   intro i hi
   have hil : i < l.length := by omega
   by_cases hO : m ≤ (ndEs (l.take i)).length
   ·have e : (ndEs (l.take i)).take m = R := by
     rw [← hR]
     conv => rhs; rw [← List.take_append_drop i l,ndEs_app]
     rw [List.take_append_of_le_length hO]
    have hlen : R.length = m := by rw [← e,List.length_take]; omega
    rw [e]
    clear ihn e
    have h1 : ¬ (R.length : Int) ≤ (m : Int) - 1 := by omega
    apply hQ
    clear hQ
    (refine Sg.h ?_;try repeat' ((with_reducible first|refine brA ?_|refine brE fun _=>?_|refine spl ⟨?_,?_⟩<;>intro _)<;> ((try simp -implicitDefEqProofs [hil,h1]); (try simp -implicitDefEqProofs(disch:=first|assumption|(try simp only[lens]);omega -splitDisjunctions) [hil,h1]))))
   ·have ihn := ihn (i + 1) (by omega)
    obtain ⟨x,hxe⟩ : ∃ x,l[i] = x := ⟨_,rfl⟩
    have hw := nodesOfWords_of x.words (fun w _ => nodesOfWords_ref w) (m - ((ndEs (l.take i)).length + 1)) (by omega)
    have hc := ih l[i] (List.getElem_mem hil) (m - ((ndEs (l.take i)).length + 1) - ((ndWs x.words).take (m - ((ndEs (l.take i)).length + 1))).length) (by omega)
    have e : (ndEs (l.take (i + 1))).take m = (ndEs (l.take i) ++ [.e x]) ++ (ndWs x.words).take (m - ((ndEs (l.take i)).length + 1)) ++ (ndEs x.kids).take (m - ((ndEs (l.take i)).length + 1) - ((ndWs x.words).take (m - ((ndEs (l.take i)).length + 1))).length) := by
     rw [take_snocE hil,ndEs_app,ndEs,ndEs_nil,List.append_nil,ndE_eq,hxe,show ndEs (l.take i) ++ .e x :: (ndWs x.words ++ ndEs x.kids) = (ndEs (l.take i) ++ [.e x]) ++ (ndWs x.words ++ ndEs x.kids) by simp,take_more (n := m - ((ndEs (l.take i)).length + 1)) (by simp; omega)]
     rw [List.append_assoc (ndEs (l.take i) ++ [Nd.e x])]
     congr 1
     rw [List.take_append]
     congr 1
     by_cases hq : m - ((ndEs (l.take i)).length + 1) ≤ (ndWs x.words).length
     ·rw [List.length_take,Nat.min_eq_left hq,Nat.sub_self,show m - ((ndEs (l.take i)).length + 1) - (ndWs x.words).length = 0 by omega]
     ·rw [List.length_take,Nat.min_eq_right (by omega)]
    rw [e] at ihn
    rw [List.take_of_length_le (by omega)]
    rw [hxe] at hc
    clear e
    generalize ndEs (l.take i) = A at *
    have hm1 : ((m - (A.length + 1) : Nat) : Int) - 1 = (m : Int) - 1 - ((A.length : Int) + 1) := by omega
    rw [hm1] at hw
    have hBl : ((ndWs x.words).take (m - (A.length + 1))).length ≤ m - (A.length + 1) := by rw [List.length_take]; omega
    generalize (ndWs x.words).take (m - (A.length + 1)) = B at *
    have hm2 : ((m - (A.length + 1) - B.length : Nat) : Int) - 1 = (m : Int) - 1 - ((A.length : Int) + 1 + (B.length : Int)) := by omega
    rw [hm2] at hc
    have hCl : ((ndEs x.kids).take (m - (A.length + 1) - B.length)).length ≤ 1000000 := by rw [List.length_take]; omega
    generalize (ndEs x.kids).take (m - (A.length + 1) - B.length) = C at *
    have h1 : (A.length : Int) ≤ (m : Int) - 1 := by omega
    have h2 : A.length ≤ 1000000 := by omega
    have h3 : B.length ≤ 1000000 := by omega
    have hx := exr_eq x
    have ht : ∀ r : List PV,(A.map ndr ++ [r]).take (A.length + 1) = A.map ndr ++ [r] := fun r => List.take_of_length_le (by simp)
    apply hQ
    clear hQ
    have ht2 : ∀ r : List PV,(A.map ndr ++ r :: B.map ndr).take (A.length + 1 + B.length) = A.map ndr ++ r :: B.map ndr := fun r => List.take_of_length_le (by simp; omega)
    (refine Sg.h ?_;try repeat' ((first | (with_reducible first|refine brA ?_|refine brE fun _=>?_|refine spl ⟨?_,?_⟩<;>intro _) | refine clo hw ?_ | refine clo hc ?_) <;> ((try simp -implicitDefEqProofs [hil,h1,hx,ht,ht2,hxe]); (try simp -implicitDefEqProofs(disch:=first|assumption|(try simp only[lens]);omega -splitDisjunctions) [hil,h1,hx,ht,ht2,hxe]))))
    refine at2 ihn ?_ ?_
    ·simp
     try omega
    ·simp [ndr_e]
 have h0 := main l.length 0 (Nat.zero_add _)
 simp only [List.take_zero,ndEs_nil,List.take_nil,List.length_nil,List.map_nil] at h0
 exact h0
theorem nodesOf_ref (w : Ex) : ∀ m : Nat,m ≤ 1000000 → CallOK Try.prog 43 [.list (w.kids.map exr),.int .i64 ((m : Int) - 1)] [] (.list (((ndEs w.kids).take m).map ndr)) [] := by
 induction w using Ex.ind with
 | h w ih => exact nodesOf_of w.kids ih
end Go.Proofs.Ytlcplnafkeklaaa
namespace Go.Proofs.Ytlcplnafkeklaaa
open Go Go.Pv
def chkW (nm : ByteArray) (c : Nat) : Except Int (Option (Bool × ByteArray × Nat)) :=
 if isBigB nm = true then .ok (some (true,nm,c)) else if isNameB nm = true then (if 0 < c then .error 9 else .ok none) else .error 8
def chkX (k : Int) (nm : ByteArray) (wc kc : Nat) : Except Int (Option (Bool × ByteArray × Nat)) :=
 if k < 1 ∨ 10 < k then .error 4 else if (0 ≤ wordsN k ∧ (wc : Int) ≠ wordsN k) ∨ (kc : Int) ≠ kidsX k then .error 9
 else if k = 1 then (if isBigB nm = true then .ok (some (false,nm,wc)) else .error 8)
 else if k = 9 ∨ k = 10 then (if isNameB nm = true then .ok none else .error 8)
 else if nm = ⟨#[]⟩ then .ok none else .error 8
def chkN : Nd → Except Int (Option (Bool × ByteArray × Nat))
 | .w x => chkW x.nm x.args.length
 | .e x => chkX x.k x.nm x.words.length x.kids.length
end Go.Proofs.Ytlcplnafkeklaaa
