import Derived.Test.YtbimioonhfhflaaDFaC
import Derived.Test.YtbimioonhfhflaaDPvOz
import Derived.Test.YtbimioonhfhflaaDFaG
import Derived.Test.YtbimioonhfhflaaDFbA
import Derived.Test.YtbimioonhfhflaaDPvSort
set_option linter.unusedVariables false
set_option linter.unusedSimpArgs false
set_option maxRecDepth 100000
set_option maxHeartbeats 4000000
set_option linter.unusedSectionVars false
namespace Go.Proofs.Ytbimioonhfhflaa
open Go Go.Pv
def x40 : XC:=.seq (.reg [⟨some 5,.call ⟨.builtin .recover,#[],#[]⟩,none⟩]) (.block 0 (.seq (.reg [⟨some 7,.binOp .eql 20 (.tmp 5) (.const .nilIface) 20,none⟩]) (.cond (.tmp 7) (.reg [⟨some 2,.assign (.tmp 5),none⟩]) (.seq (.reg [⟨some 8,.typeAssert (.tmp 5) 20 109 true,none⟩,⟨some 9,.extract (.tmp 8) 1,none⟩,⟨some 10,.extract (.tmp 8) 0,none⟩]) (.cond (.tmp 9) (.seq (.reg [⟨some 3,.alloc 109,none⟩,⟨none,.store 109 (.tmp 3) (.tmp 10),none⟩]) (.reg [⟨some 11,.move (.tmp 0),none⟩,⟨some 12,.fieldAddr 109 (.tmp 3) 0,none⟩,⟨some 13,.load 39 (.tmp 12),none⟩,⟨some 14,.nilCheck (.tmp 11),none⟩,⟨none,.store 39 (.tmp 14) (.tmp 13),none⟩])) (.seq (.reg [⟨some 4,.assign (.tmp 5),none⟩]) (.reg [⟨some 6,.move (.tmp 4),none⟩,⟨none,.panic (.tmp 6),none⟩])))))))
@[simp] theorem x40_s {C e s K} : type_of% (@X_at C e s K _ _ x40.eq_1):=X_at x40.eq_1
def an40 : Ann:=⟨[],[],[]⟩
theorem fr_caught : FR Try.prog 40 (cxA an40) 5 (sndX x40) [] Try.f40:=frA Try.func40 mixed (by decide +kernel) (by kernel_rfl) (by kernel_rfl)
@[simp] theorem fn_nil : xnilI Try.prog 20 .niliface = some (.bool true):=by kernel_rfl
@[simp] theorem fn_some (t : TypeId) (v : PV) : xnilI Try.prog 20 (.iface t v) = some (.bool false):=by kernel_rfl
theorem caught_none (c a : Int) : CallRec Try.prog 40 none [.ptr 0 0 0] [.rows 2 [[.int .i64 c,.int .i64 a]]] [.rows 2 [[.int .i64 c,.int .i64 a]]]:=by
 refine FR.og (v:=.tuple []) fr_caught (r:=none) (rv:=.niliface) rfl ?_
 simp only [x40,sndX]
 (refine Sg.h ?_;try repeat' ((with_reducible first|refine brA ?_|refine brE fun _=>?_|refine spl ⟨?_,?_⟩<;>intro _)<;>((try simp -implicitDefEqProofs(disch:=first|assumption|(try simp only[lens]);omega -splitDisjunctions)))))
theorem caught_stop (c a c0 a0 : Int) : CallRec Try.prog 40 (some (stopE c a)) [.ptr 0 0 0] [.rows 2 [[.int .i64 c0,.int .i64 a0]]] [.rows 2 [[.int .i64 c,.int .i64 a]]]:=by
 refine FR.og (v:=.tuple []) fr_caught (r:=some (stopE c a)) (pan_fst c a) ?_
 simp only [x40,sndX]
 (refine Sg.h ?_;try repeat' ((with_reducible first|refine brA ?_|refine brE fun _=>?_|refine spl ⟨?_,?_⟩<;>intro _)<;>((try simp -implicitDefEqProofs(disch:=first|assumption|(try simp only[lens]);omega -splitDisjunctions)))))
def checkX (e : Ex) : Int × Int:=match exprW e (0,[]) with
 | .ok _=>(0,0)
 | .error (er,_)=>(er.1,(er.2 : Int))
def x23 : XC:=.seq (.reg [⟨some 1,.box 29 (.tmp 0),none⟩,⟨some 2,.alloc 39,none⟩]) (.seq (.reg [⟨none,.defer ⟨.value (.func 40),#[.tmp 2],#[77]⟩,none⟩]) (.seq (.reg [⟨some 4,.makeMap 67 none,none⟩,⟨some 5,.build 80 #[(1,.tmp 4)],none⟩,⟨some 6,.box 80 (.tmp 5),none⟩,⟨some 3,.assign (.tmp 6),none⟩]) (.seq (.reg [⟨some 7,.move (.tmp 3),none⟩,⟨some 8,.load 29 (.tmp 1),none⟩,⟨some 9,.call ⟨.value (.func 41),#[.tmp 7,.tmp 8],#[78,29]⟩,none⟩]) (.seq (.reg [⟨some 10,.load 39 (.tmp 2),none⟩,⟨none,.store 39 (.tmp 2) (.tmp 10),none⟩]) .ret))))
@[simp] theorem x23_s {C e s K} : type_of% (@X_at C e s K _ _ x23.eq_1):=X_at x23.eq_1
def an23 : Ann:=⟨[],[],[]⟩
theorem fdn_check : FDN Try.prog 23 (cxA an23) (preX 1 x23) 2 40 (dropX 2 x23) [.cell 2 39] Try.f23:=fdnA Try.func23 mixed (by decide +kernel) (by kernel_rfl) (by kernel_rfl)
theorem Check_first (e : Ex) : CallOK Try.prog 23 [.agg (exr e)] [] (.agg [.int .i64 (checkX e).1,.int .i64 (checkX e).2]) []:=by
 have hc:=expr_walker e (0,[]) (by simp)
 refine FDN.os fdn_check ?_
 simp only [x23,preX,dropX]
 unfold checkX
 cases hw : exprW e (0,[]) with
 | error er=>
  obtain ⟨er,s'⟩:=er
  rw [hw] at hc
  simp only [ToldW] at hc
  (refine Sg.h ?_;try repeat' ((with_reducible first|refine brA ?_|refine brE fun _=>?_|refine spl ⟨?_,?_⟩<;>intro _)<;>((try simp -implicitDefEqProofs(disch:=first|assumption|(try simp only[lens]);omega -splitDisjunctions)))))
  refine CL.psub [3,2] (s2:=wk s') (v:=stopE er.1 er.2) (by simpa [liveS,mapI] using hc) ?_
  (refine Sg.h ?_;try repeat' ((with_reducible first|refine brA ?_|refine brE fun _=>?_|refine spl ⟨?_,?_⟩<;>intro _)<;>((try simp -implicitDefEqProofs(disch:=first|assumption|(try simp only[lens]);omega -splitDisjunctions)))))
  refine DRecN.sub [1] (caught_stop er.1 er.2 0 0) ?_
  (refine Sg.h ?_;try repeat' ((with_reducible first|refine brA ?_|refine brE fun _=>?_|refine spl ⟨?_,?_⟩<;>intro _)<;>((try simp -implicitDefEqProofs(disch:=first|assumption|(try simp only[lens]);omega -splitDisjunctions)))))
 | ok s'=>
  rw [hw] at hc
  simp only [ToldW] at hc
  (refine Sg.h ?_;try repeat' ((with_reducible first|refine brA ?_|refine brE fun _=>?_|refine spl ⟨?_,?_⟩<;>intro _)<;>((try simp -implicitDefEqProofs(disch:=first|assumption|(try simp only[lens]);omega -splitDisjunctions)))))
  refine CL.sub [3,2] (s2:=wk s') (v:=.tuple []) (by simpa [liveS,mapI] using hc) ?_
  (refine Sg.h ?_;try repeat' ((with_reducible first|refine brA ?_|refine brE fun _=>?_|refine spl ⟨?_,?_⟩<;>intro _)<;>((try simp -implicitDefEqProofs(disch:=first|assumption|(try simp only[lens]);omega -splitDisjunctions)))))
  refine DRecN.sub [1] (caught_none 0 0) ?_
  (refine Sg.h ?_;try repeat' ((with_reducible first|refine brA ?_|refine brE fun _=>?_|refine spl ⟨?_,?_⟩<;>intro _)<;>((try simp -implicitDefEqProofs(disch:=first|assumption|(try simp only[lens]);omega -splitDisjunctions)))))
def Bad (R : RW) : Prop:=∀ er s,R = .error (er,s) → er.1 ≠ 0
theorem bad_err {c : Int} {p : Nat} {s : WS} (h : c ≠ 0) : Bad (.error ((c,p),s)):=fun er s' e=>by cases e;exact h
theorem bad_ok {s : WS} : Bad (.ok s):=fun er s' e=>by cases e
theorem manyW_bad {p : Nat} {key : ByteArray} {c : Nat} {s : WS} : Bad (manyW p key c s):=by
 unfold manyW
 split
 ·split
  ·exact bad_ok
  ·exact bad_err (by decide)
 ·exact bad_ok
theorem wordH_bad {nm : ByteArray} {c : Nat} {s : WS} : Bad (wordH nm c s):=by
 unfold wordH
 split
 ·exact bad_err (by decide)
 split
 ·split
  ·exact bad_err (by decide)
  ·exact bad_ok
 split
 ·exact manyW_bad
 ·exact bad_err (by decide)
theorem bad_bind {R : RW} {f : WS → RW} (hf : ∀ s,Bad (f s)) : Bad R → Bad (match R with
  | .ok s=>f s
  | .error e=>.error e):=by
 cases R with
 | ok s=>exact fun _=>hf s
 | error e=>exact fun h=>h
theorem wordsW_bad (l : List Wd) (ih : ∀ w ∈ l,∀ s,Bad (wordW w s)) : ∀ s,Bad (wordsW l s):=by
 induction l with
 | nil=>intro s;rw [wordsW];exact bad_ok
 | cons w r ihr=>
  intro s
  rw [wordsW]
  exact bad_bind (ihr fun w hw=>ih w (by simp [hw])) (ih w (by simp) s)
theorem wordW_bad (w : Wd) : ∀ s,Bad (wordW w s):=by
 induction w using Wd.ind with
 | h w ih=>
  intro s
  rw [wordW_eq]
  exact bad_bind (wordsW_bad _ ih) wordH_bad
theorem exprH_bad {k : Int} {nm : ByteArray} {wc kc : Nat} {s : WS} : Bad (exprH k nm wc kc s):=by
 unfold exprH
 split
 ·exact bad_err (by decide)
 split
 ·exact bad_err (by decide)
 split
 ·exact bad_err (by decide)
 split
 ·split
  ·exact manyW_bad
  ·exact bad_err (by decide)
 split
 ·split
  ·exact bad_ok
  ·exact bad_err (by decide)
 split
 ·exact bad_ok
 ·exact bad_err (by decide)
theorem exprsW_bad (l : List Ex) (ih : ∀ w ∈ l,∀ s,Bad (exprW w s)) : ∀ s,Bad (exprsW l s):=by
 induction l with
 | nil=>intro s;rw [exprsW];exact bad_ok
 | cons w r ihr=>
  intro s
  rw [exprsW]
  exact bad_bind (ihr fun w hw=>ih w (by simp [hw])) (ih w (by simp) s)
theorem exprW_bad (e : Ex) : ∀ s,Bad (exprW e s):=by
 induction e using Ex.ind with
 | h e ih=>
  intro s
  rw [exprW_eq]
  exact bad_bind (fun s1=>bad_bind (exprsW_bad _ ih) (wordsW_bad _ (fun w _=>wordW_bad w) s1)) exprH_bad
theorem checkX_zero {e : Ex} (h : (checkX e).1 = 0) : checkX e = (0,0):=by
 unfold checkX at h ⊢
 split
 ·rfl
 ·rename_i er s he
  rw [he] at h
  exact absurd h (exprW_bad e _ _ _ he)
end Go.Proofs.Ytbimioonhfhflaa
namespace Go.Proofs.Ytbimioonhfhflaa
open Go Go.Pv
theorem Fm.ind {p : Fm → Prop} (h : ∀ f : Fm,(∀ g ∈ f.kids,p g) → p f) : ∀ f,p f
 | .mk k nm kids=>h _ fun g hg=>Fm.ind h g
termination_by f=>SizeOf.sizeOf f
decreasing_by
 have:=List.sizeOf_lt_of_mem hg
 simp only [Fm.kids,Fm.mk.sizeOf_spec] at *
 omega
end Go.Proofs.Ytbimioonhfhflaa
namespace Go.Proofs.Ytbimioonhfhflaa
open Go Go.Pv
inductive OkF (N : ByteArray → Prop) : Fm → Prop where
 | mk {k : Int} {nm : ByteArray} {kids : List Fm} (h : (kids.length : Int) = kidsN k) (hN : k = 1 → N nm) (g : ∀ f ∈ kids,OkF N f) : OkF N (.mk k nm kids)
mutual
def pre : Fm → List Fm
 | .mk k nm l=>.mk k nm l :: pres l
def pres : List Fm → List Fm
 | []=>[]
 | f :: r=>pre f ++ pres r
end
theorem pre_eq (f : Fm) : pre f = f :: pres f.kids:=by cases f with | mk k nm l=>rw [pre];rfl
theorem pres_nil : pres [] = []:=by rw [pres]
theorem pres_cons (f : Fm) (r : List Fm) : pres (f :: r) = pre f ++ pres r:=by rw [pres]
def okN (x : Fm) : Prop:=0 ≤ kidsN x.kind ∧ (x.kids.length : Int) = kidsN x.kind ∧ ¬ ((x.kind = 1 ∧ isNameB x.name = false) ∨ (x.kind ≠ 1 ∧ x.name ≠ ⟨#[]⟩))
theorem okF_of_pre : ∀ f : Fm,(∀ x ∈ pre f,okN x) → OkF (fun n=>isNameB n = true) f:=by
 intro f
 induction f using Fm.ind with
 | h f ih=>
  intro h
  have h0:=h f (by rw [pre_eq];simp)
  cases f with
  | mk k nm l=>
   refine .mk h0.2.1 (fun hk=>?_) fun g hg=>ih g hg fun x hx=>h x ?_
   ·have := h0.2.2
    simp only [Fm.kind,Fm.name,hk,true_and,not_or] at this
    simpa using this.1
   ·rw [pre_eq]
    refine List.mem_cons_of_mem _ ?_
    have : ∀ l : List Fm,g ∈ l → x ∈ pres l:=by
     intro l
     induction l with
     | nil=>intro h;cases h
     | cons a r ihr=>
      intro h
      rw [pres_cons,List.mem_append]
      cases h with
      | head=>exact .inl hx
      | tail _ h=>exact .inr (ihr h)
    exact this l hg
end Go.Proofs.Ytbimioonhfhflaa
namespace Go.Proofs.Ytbimioonhfhflaa
open Go Go.Pv
theorem OkF.kid {N : ByteArray → Prop} {f g : Fm} (h : OkF N f) (hg : g ∈ f.kids) : OkF N g:=by
 cases h with | mk a b c=>exact c g hg
theorem pres_mem {x g : Fm} (hx : x ∈ pre g) : ∀ l : List Fm,g ∈ l → x ∈ pres l
 | a :: r,h=>by
  rw [pres_cons,List.mem_append]
  cases h with
  | head=>exact .inl hx
  | tail _ h=>exact .inr (pres_mem hx r h)
theorem mem_pres {x : Fm} : ∀ l : List Fm,x ∈ pres l → ∃ g ∈ l,x ∈ pre g
 | [],h=>by rw [pres_nil] at h;cases h
 | a :: r,h=>by
  rw [pres_cons,List.mem_append] at h
  rcases h with h | h
  ·exact ⟨a,by simp,h⟩
  ·obtain ⟨g,h1,h2⟩:=mem_pres r h;exact ⟨g,by simp [h1],h2⟩
theorem pres_len {g : Fm} : ∀ l : List Fm,g ∈ l → (pre g).length ≤ (pres l).length
 | a :: r,h=>by
  rw [pres_cons,List.length_append]
  cases h with
  | head=>omega
  | tail _ h=>have:=pres_len r h;omega
theorem pre_sub {N : ByteArray → Prop} (f : Fm) (hf : OkF N f) : ∀ x ∈ pre f,OkF N x ∧ (pre x).length ≤ (pre f).length ∧ ∀ y ∈ pre x,y ∈ pre f:=by
 induction f using Fm.ind with
 | h f ih=>
  intro x hx
  rw [pre_eq] at hx
  cases hx with
  | head=>exact ⟨hf,Nat.le_refl _,fun y h=>h⟩
  | tail _ hx=>
   obtain ⟨g,h1,h2⟩:=mem_pres _ hx
   obtain ⟨h3,h4,h5⟩:=ih g h1 (hf.kid h1) x h2
   refine ⟨h3,?_,fun y hy=>?_⟩
   ·have := pres_len _ h1
    rw [pre_eq f];simp;omega
   ·rw [pre_eq f];exact List.mem_cons_of_mem _ (pres_mem (h5 y hy) _ h1)
def Td (f : Fm) : Prop:=∀ x ∈ pre f,okN x
theorem Td.kid {f g : Fm} (h : Td f) (hg : g ∈ f.kids) : Td g:=fun x hx=>h x (by rw [pre_eq];exact List.mem_cons_of_mem _ (pres_mem hx _ hg))
theorem Td.ok {f : Fm} (h : Td f) : OkF (fun n=>isNameB n = true) f:=okF_of_pre f h
theorem Td.pre {f x : Fm} (h : Td f) (hx : x ∈ pre f) : Td x:=fun y hy=>h y ((pre_sub f h.ok x hx).2.2 y hy)
section
variable {n : Nat} {t : Nat → Nat → Bool} {hold : Nat → ByteArray → Bool} {w : Nat} {nm : ByteArray} {l : List Fm} {a b : Fm}
end
end Go.Proofs.Ytbimioonhfhflaa
namespace Go.Proofs.Ytbimioonhfhflaa
open Go Go.Pv
def x20 : XC:=.seq (.reg [⟨some 4,.alloc 39,none⟩]) (.seq (.reg [⟨some 5,.move (.tmp 0),none⟩,⟨some 6,.move (.tmp 1),none⟩,⟨some 7,.build 39 #[(0,.tmp 5),(1,.tmp 6)],none⟩,⟨none,.store 39 (.tmp 4) (.tmp 7),none⟩]) .ret)
@[simp] theorem x20_s {C e s K} : type_of% (@X_at C e s K _ _ x20.eq_1):=X_at x20.eq_1
def an20 : Ann:=⟨[],[],[]⟩
theorem fi20 : FI Try.prog 20 (cxA an20) x20 [.cell 4 39] Try.f20:=fiA Try.func20 mixed
theorem F_ref (a b : Int) : CallOK Try.prog 20 [.int .i64 a,.int .i64 b] [] (.agg [.int .i64 a,.int .i64 b]) []:=by
 refine fi20.op ?_
 (refine Sg.h ?_;try repeat' ((with_reducible first|refine brA ?_|refine brE fun _=>?_|refine spl ⟨?_,?_⟩<;>intro _)<;> (try simp -implicitDefEqProofs(disch:=first|assumption|(try simp only[lens]);omega -splitDisjunctions))))
def x8_T1 : XC:=.seq (.reg [⟨some 20,.move (.tmp 0),none⟩,⟨some 21,.call ⟨.builtin .len,#[.tmp 20],#[9]⟩,none⟩,⟨some 22,.binOp .gtr 3 (.tmp 21) (.const (.int .i64 0)) 3,none⟩,⟨some 23,.move (.tmp 22),none⟩,⟨some 24,.move (.tmp 0),some (some 23,true)⟩,⟨some 25,.call ⟨.builtin .len,#[.tmp 24],#[9]⟩,some (some 23,true)⟩,⟨some 26,.binOp .lss 3 (.tmp 25) (.const (.int .i64 9)) 3,some (some 23,true)⟩,⟨some 27,.pick (.tmp 23) (.tmp 26) (.const (.bool false)),none⟩,⟨some 2,.assign (.tmp 27),none⟩]) .ret
def x8_L0 : XC:=.seq (.seq (.reg [⟨some 4,.move (.tmp 3),none⟩,⟨some 5,.move (.tmp 0),none⟩,⟨some 6,.call ⟨.builtin .len,#[.tmp 5],#[9]⟩,none⟩,⟨some 7,.binOp .lss 3 (.tmp 4) (.tmp 6) 3,none⟩]) (.cond (.tmp 7) .skip (.exit 0))) (.seq (.block 1 (.seq (.reg [⟨some 10,.move (.tmp 0),none⟩,⟨some 11,.move (.tmp 3),none⟩,⟨some 12,.index 9 (.tmp 10) (.tmp 11),none⟩,⟨some 13,.binOp .lss 5 (.tmp 12) (.const (.int .u8 97)) 5,none⟩,⟨some 14,.move (.tmp 13),none⟩,⟨some 15,.move (.tmp 0),some (some 14,false)⟩,⟨some 16,.move (.tmp 3),some (some 14,false)⟩,⟨some 17,.index 9 (.tmp 15) (.tmp 16),some (some 14,false)⟩,⟨some 18,.binOp .gtr 5 (.tmp 17) (.const (.int .u8 122)) 5,some (some 14,false)⟩,⟨some 19,.pick (.tmp 14) (.const (.bool true)) (.tmp 18),none⟩]) (.cond (.tmp 19) (.seq (.reg [⟨some 2,.assign (.const (.bool false)),none⟩]) .ret) .skip))) (.reg [⟨some 8,.move (.tmp 3),none⟩,⟨some 9,.binOp .add 3 (.tmp 8) (.const (.int .i64 1)) 3,none⟩,⟨some 3,.assign (.tmp 9),none⟩]))
def x8 : XC:=.seq (.reg [⟨some 2,.assign (.const (.bool false)),none⟩]) (.seq (.seq (.reg [⟨some 3,.assign (.const (.int .i64 0)),none⟩]) (.bloop 0 x8_L0)) (x8_T1))
@[simp] theorem x8_s {C e s K} : type_of% (@X_at C e s K _ _ x8_T1.eq_1) ∧ type_of% (@X_at C e s K _ _ x8_L0.eq_1) ∧ type_of% (@X_at C e s K _ _ x8.eq_1):=⟨X_at x8_T1.eq_1,X_at x8_L0.eq_1,X_at x8.eq_1⟩
def an8 : Ann:=⟨[],[(0,[],[0,3],[0,2])],[]⟩
@[simp] theorem an8_a : an8.loopOf 0 = ([],[0,3],[0,2]):=rfl
theorem fi8 : FI Try.prog 8 (cxA an8) x8 [.tmp 2] Try.f8:=fiA Try.func8 mixed
theorem IsName_ref (t : ByteArray) : CallOK Try.prog 8 [.str t] [] (.bool (isNameB t)) []:=by
 refine fi8.op ?_
 (refine Sg.h ?_;try repeat' ((with_reducible first|refine brA ?_|refine brE fun _=>?_|refine spl ⟨?_,?_⟩<;>intro _)<;> (try simp -implicitDefEqProofs(disch:=first|assumption|(try simp only[lens]);omega -splitDisjunctions))))
 refine W_of fun Q hQ=>?_
 have main : ∀ n i,i + n = t.size → (∀ j (h : j < t.size),j < i → letterB t[j] = true) → Q [(0,.str t),(3,.int .i64 (i : Int))] []:=by
  intro n
  induction n with
  | zero=>
   intro i hi hl
   have hall : t.data.toList.all letterB = true:=by
    rw [all_letter];intro j hj;exact hl j hj (by omega)
   apply hQ
   (refine Sg.h ?_;try repeat' ((with_reducible first|refine brA ?_|refine brE fun _=>?_|refine spl ⟨?_,?_⟩<;>intro _)<;> (try simp -implicitDefEqProofs(disch:=first|assumption|(try simp only[lens]);omega -splitDisjunctions))))
   all_goals (rw [Bool.eq_iff_iff];simp [isNameB,hall];omega)
  | succ n ih=>
   intro i hi hl
   have hlt : i < t.size:=by omega
   by_cases hb : letterB t[i] = true
   ·have hb' := hb
    simp only [letterB,decide_eq_true_eq] at hb'
    have ih:=ih (i + 1) (by omega) (fun j hj hji=>by
     by_cases e : j = i
     ·subst e;exact hb
     ·exact hl j hj (by omega))
    apply hQ
    (refine Sg.h ?_;try repeat' ((with_reducible first|refine brA ?_|refine brE fun _=>?_|refine spl ⟨?_,?_⟩<;>intro _)<;> (try simp -implicitDefEqProofs(disch:=first|assumption|(try simp only[lens]);omega -splitDisjunctions))))
    all_goals simpa using ih
   ·have hno : isNameB t = false := by
     have h2 : ¬ t.data.toList.all letterB = true:=by
      rw [all_letter];intro h3;exact hb (h3 i hlt)
     simp [isNameB,h2]
    simp only [letterB,decide_eq_true_eq] at hb
    apply hQ
    (refine Sg.h ?_;try repeat' ((with_reducible first|refine brA ?_|refine brE fun _=>?_|refine spl ⟨?_,?_⟩<;>intro _)<;> (try simp -implicitDefEqProofs(disch:=first|assumption|(try simp only[lens]);omega -splitDisjunctions))))
    all_goals first | (exfalso;have:=hb (by omega);omega;done) | simp_all
 refine at2 (main _ 0 (Nat.zero_add _) (fun j h hj=>by omega)) ?_ ?_ <;> simp
end Go.Proofs.Ytbimioonhfhflaa
namespace Go.Proofs.Ytbimioonhfhflaa
open Go Go.Pv
def x21_T1 : XC:=.seq (.reg [⟨some 42,.move (.tmp 0),none⟩,⟨some 43,.call ⟨.builtin .len,#[.tmp 42],#[9]⟩,none⟩,⟨some 44,.binOp .gtr 3 (.tmp 43) (.const (.int .i64 0)) 3,none⟩,⟨some 45,.move (.tmp 44),none⟩,⟨some 46,.move (.tmp 0),some (some 45,true)⟩,⟨some 47,.call ⟨.builtin .len,#[.tmp 46],#[9]⟩,some (some 45,true)⟩,⟨some 48,.binOp .lss 3 (.tmp 47) (.const (.int .i64 9)) 3,some (some 45,true)⟩,⟨some 49,.pick (.tmp 45) (.tmp 48) (.const (.bool false)),none⟩,⟨some 2,.assign (.tmp 49),none⟩]) .ret
def x21_L0 : XC:=.seq (.seq (.reg [⟨some 6,.move (.tmp 3),none⟩,⟨some 7,.move (.tmp 0),none⟩,⟨some 8,.call ⟨.builtin .len,#[.tmp 7],#[9]⟩,none⟩,⟨some 9,.binOp .lss 3 (.tmp 6) (.tmp 8) 3,none⟩]) (.cond (.tmp 9) .skip (.exit 0))) (.seq (.block 1 (.seq (.reg [⟨some 12,.move (.tmp 0),none⟩,⟨some 13,.move (.tmp 3),none⟩,⟨some 14,.index 9 (.tmp 12) (.tmp 13),none⟩,⟨some 15,.binOp .geq 5 (.tmp 14) (.const (.int .u8 65)) 5,none⟩,⟨some 16,.move (.tmp 15),none⟩,⟨some 17,.move (.tmp 0),some (some 16,true)⟩,⟨some 18,.move (.tmp 3),some (some 16,true)⟩,⟨some 19,.index 9 (.tmp 17) (.tmp 18),some (some 16,true)⟩,⟨some 20,.binOp .leq 5 (.tmp 19) (.const (.int .u8 90)) 5,some (some 16,true)⟩,⟨some 21,.pick (.tmp 16) (.tmp 20) (.const (.bool false)),none⟩,⟨some 4,.assign (.tmp 21),none⟩]) (.seq (.reg [⟨some 22,.move (.tmp 0),none⟩,⟨some 23,.move (.tmp 3),none⟩,⟨some 24,.index 9 (.tmp 22) (.tmp 23),none⟩,⟨some 25,.binOp .geq 5 (.tmp 24) (.const (.int .u8 97)) 5,none⟩,⟨some 26,.move (.tmp 25),none⟩,⟨some 27,.move (.tmp 0),some (some 26,true)⟩,⟨some 28,.move (.tmp 3),some (some 26,true)⟩,⟨some 29,.index 9 (.tmp 27) (.tmp 28),some (some 26,true)⟩,⟨some 30,.binOp .leq 5 (.tmp 29) (.const (.int .u8 122)) 5,some (some 26,true)⟩,⟨some 31,.pick (.tmp 26) (.tmp 30) (.const (.bool false)),none⟩,⟨some 5,.assign (.tmp 31),none⟩]) (.seq (.reg [⟨some 32,.move (.tmp 4),none⟩,⟨some 33,.unOp .not 4 (.tmp 32),none⟩,⟨some 34,.move (.tmp 33),none⟩,⟨some 35,.move (.tmp 5),some (some 34,true)⟩,⟨some 36,.unOp .not 4 (.tmp 35),some (some 34,true)⟩,⟨some 37,.move (.tmp 36),some (some 34,true)⟩,⟨some 38,.move (.tmp 3),some (some 37,false)⟩,⟨some 39,.binOp .eql 3 (.tmp 38) (.const (.int .i64 0)) 3,some (some 37,false)⟩,⟨some 40,.pick (.tmp 37) (.const (.bool true)) (.tmp 39),some (some 34,true)⟩,⟨some 41,.pick (.tmp 34) (.tmp 40) (.const (.bool false)),none⟩]) (.cond (.tmp 41) (.seq (.reg [⟨some 2,.assign (.const (.bool false)),none⟩]) .ret) .skip))))) (.reg [⟨some 10,.move (.tmp 3),none⟩,⟨some 11,.binOp .add 3 (.tmp 10) (.const (.int .i64 1)) 3,none⟩,⟨some 3,.assign (.tmp 11),none⟩]))
def x21 : XC:=.seq (.reg [⟨some 2,.assign (.const (.bool false)),none⟩]) (.seq (.seq (.reg [⟨some 3,.assign (.const (.int .i64 0)),none⟩]) (.bloop 0 x21_L0)) (x21_T1))
@[simp] theorem x21_s {C e s K} : type_of% (@X_at C e s K _ _ x21_T1.eq_1) ∧ type_of% (@X_at C e s K _ _ x21_L0.eq_1) ∧ type_of% (@X_at C e s K _ _ x21.eq_1):=⟨X_at x21_T1.eq_1,X_at x21_L0.eq_1,X_at x21.eq_1⟩
def an21 : Ann:=⟨[],[(0,[],[0,3],[0,2])],[]⟩
@[simp] theorem an21_a : an21.loopOf 0 = ([],[0,3],[0,2]):=rfl
theorem fi21 : FI Try.prog 21 (cxA an21) x21 [.tmp 2] Try.f21:=fiA Try.func21 mixed
theorem IsBig_ref (t : ByteArray) : CallOK Try.prog 21 [.str t] [] (.bool (isBigB t)) []:=by
 refine fi21.op ?_
 obtain ⟨R,hR⟩ : ∃ R,isBigB t = R:=⟨_,rfl⟩
 rw [hR]
 (refine Sg.h ?_;try repeat' ((with_reducible first|refine brA ?_|refine brE fun _=>?_|refine spl ⟨?_,?_⟩<;>intro _)<;>((try simp -implicitDefEqProofs(disch:=first|assumption|(try simp only[lens]);omega -splitDisjunctions)))))
 refine W_of fun Q hQ=>?_
 have main : ∀ n i,i + n = t.size → (decide (1 ≤ t.size ∧ t.size ≤ 8) && (if i = 0 then (t.data.toList.head?.map capB).getD false else true) && (t.data.toList.drop i).all letA) = R → Q [(0,.str t),(3,.int .i64 (i : Int))] []:=by
  intro n
  induction n with
  | zero=>
   intro i hi hR
   obtain rfl : i = t.size:=by omega
   rw [all_end (Nat.le_refl _),Bool.and_true] at hR
   apply hQ
   clear hQ
   by_cases h0 : t.size = 0
   ·rw [decide_eq_false (by omega)] at hR
    subst hR
    have h1 : ¬ (0 : Int) < (t.size : Int):=by omega
    (refine Sg.h ?_;try repeat' ((with_reducible first|refine brA ?_|refine brE fun _=>?_|refine spl ⟨?_,?_⟩<;>intro _)<;>((try simp -implicitDefEqProofs(disch:=first|assumption|(try simp only[lens]);omega -splitDisjunctions) [h1]))))
   ·rw [if_neg h0,Bool.and_true] at hR
    have h1 : (0 : Int) < (t.size : Int):=by omega
    by_cases h8 : t.size ≤ 8
    ·rw [decide_eq_true (by omega)] at hR
     subst hR
     have h2 : (t.size : Int) < 9:=by omega
     (refine Sg.h ?_;try repeat' ((with_reducible first|refine brA ?_|refine brE fun _=>?_|refine spl ⟨?_,?_⟩<;>intro _)<;>((try simp -implicitDefEqProofs(disch:=first|assumption|(try simp only[lens]);omega -splitDisjunctions) [h1,h2]))))
    ·rw [decide_eq_false (by omega)] at hR
     subst hR
     have h2 : ¬ (t.size : Int) < 9:=by omega
     (refine Sg.h ?_;try repeat' ((with_reducible first|refine brA ?_|refine brE fun _=>?_|refine spl ⟨?_,?_⟩<;>intro _)<;>((try simp -implicitDefEqProofs(disch:=first|assumption|(try simp only[lens]);omega -splitDisjunctions) [h1,h2]))))
  | succ n ih=>
   intro i hi hR
   have hlt : i < t.size:=by omega
   have ih:=ih (i + 1) (by omega)
   rw [if_neg (by omega),Bool.and_true] at ih
   rw [all_at hlt] at hR
   have hh : i = 0 → (t.data.toList.head?.map capB).getD false = capB t[i]:=fun h=>by subst h;rw [head_at hlt];rfl
   cases hC : capB t[i] with
   | true=>
    have hL : letA t[i] = true:=by unfold letA;rw [hC,Bool.or_true]
    rw [hL,Bool.true_and] at hR
    have hR : (decide (1 ≤ t.size ∧ t.size ≤ 8) && (t.data.toList.drop (i + 1)).all letA) = R:=by
     rw [← hR]
     by_cases h : i = 0
     ·rw [if_pos h,hh h,hC,Bool.and_true]
     ·rw [if_neg h,Bool.and_true]
    have ih:=ih hR
    simp only [capB,decide_eq_true_eq] at hC
    have g1 : (65 : Int) ≤ (t[i].toNat : Int):=by omega
    have g2 : (t[i].toNat : Int) ≤ 90:=by omega
    have g3 : ¬ (97 : Int) ≤ (t[i].toNat : Int):=by omega
    clear hh hL
    apply hQ
    clear hQ
    (refine Sg.h ?_;try repeat' ((with_reducible first|refine brA ?_|refine brE fun _=>?_|refine spl ⟨?_,?_⟩<;>intro _)<;>((try simp -implicitDefEqProofs(disch:=first|assumption|(try simp only[lens]);omega -splitDisjunctions) [hlt,g1,g2,g3]))))
    all_goals first|exact ih|(refine at2 ih ?_ ?_<;>simp;done)|(exfalso;first|omega|(simp_all;done)|(simp_all;omega))
   | false=>
    have g1 : (65 : Int) ≤ (t[i].toNat : Int) ∧ ¬ (t[i].toNat : Int) ≤ 90 ∨ ¬ (65 : Int) ≤ (t[i].toNat : Int):=by
     simp only [capB,decide_eq_false_iff_not] at hC
     omega
    cases hS : letterB t[i] with
    | true=>
     have hL : letA t[i] = true:=by unfold letA;rw [hS,Bool.true_or]
     simp only [letterB,decide_eq_true_eq] at hS
     have g3 : (97 : Int) ≤ (t[i].toNat : Int):=by omega
     have g4 : (t[i].toNat : Int) ≤ 122:=by omega
     by_cases h : i = 0
     ·rw [if_pos h,hh h,hC,Bool.and_false,Bool.false_and] at hR
      subst hR h
      apply hQ
      clear hQ ih hh
      rcases g1 with ⟨g1,g2⟩ | g1
      ·(refine Sg.h ?_;try repeat' ((with_reducible first|refine brA ?_|refine brE fun _=>?_|refine spl ⟨?_,?_⟩<;>intro _)<;>((try simp -implicitDefEqProofs(disch:=first|assumption|(try simp only[lens]);omega -splitDisjunctions) [hlt,g1,g2,g3,g4]))))
      ·omega
     ·rw [if_neg h,hL,Bool.and_true,Bool.true_and] at hR
      have ih:=ih hR
      have hi0 : ¬ (i : Int) = 0:=by omega
      apply hQ
      clear hQ hh
      rcases g1 with ⟨g1,g2⟩ | g1
      ·(refine Sg.h ?_;try repeat' ((with_reducible first|refine brA ?_|refine brE fun _=>?_|refine spl ⟨?_,?_⟩<;>intro _)<;>((try simp -implicitDefEqProofs(disch:=first|assumption|(try simp only[lens]);omega -splitDisjunctions) [hlt,g1,g2,g3,g4,hi0]))))
       all_goals first|exact ih|(refine at2 ih ?_ ?_<;>simp;done)|(exfalso;first|omega|(simp_all;done)|(simp_all;omega))
      ·omega
    | false=>
     have hL : letA t[i] = false:=by unfold letA;rw [hS,hC];rfl
     rw [hL,Bool.false_and,Bool.and_false] at hR
     subst hR
     have g3 : (97 : Int) ≤ (t[i].toNat : Int) ∧ ¬ (t[i].toNat : Int) ≤ 122 ∨ ¬ (97 : Int) ≤ (t[i].toNat : Int):=by
      simp only [letterB,decide_eq_false_iff_not] at hS
      omega
     apply hQ
     clear hQ ih hh
     rcases g1 with ⟨g1,g2⟩ | g1
     ·rcases g3 with ⟨g3,g4⟩ | g3
      ·(refine Sg.h ?_;try repeat' ((with_reducible first|refine brA ?_|refine brE fun _=>?_|refine spl ⟨?_,?_⟩<;>intro _)<;>((try simp -implicitDefEqProofs(disch:=first|assumption|(try simp only[lens]);omega -splitDisjunctions) [hlt,g1,g2,g3,g4]))))
      ·(refine Sg.h ?_;try repeat' ((with_reducible first|refine brA ?_|refine brE fun _=>?_|refine spl ⟨?_,?_⟩<;>intro _)<;>((try simp -implicitDefEqProofs(disch:=first|assumption|(try simp only[lens]);omega -splitDisjunctions) [hlt,g1,g2,g3]))))
     ·have g3' : ¬ (97 : Int) ≤ (t[i].toNat : Int) := by omega
      (refine Sg.h ?_;try repeat' ((with_reducible first|refine brA ?_|refine brE fun _=>?_|refine spl ⟨?_,?_⟩<;>intro _)<;>((try simp -implicitDefEqProofs(disch:=first|assumption|(try simp only[lens]);omega -splitDisjunctions) [hlt,g1,g3']))))
 refine at2 (main _ 0 (Nat.zero_add _) (by rw [if_pos rfl,List.drop_zero];exact hR)) ?_ ?_ <;> simp
end Go.Proofs.Ytbimioonhfhflaa
namespace Go.Proofs.Ytbimioonhfhflaa
open Go Go.Pv
inductive Nd where
 | e (x : Ex)
 | w (x : Wd)
 deriving Inhabited
def ndr : Nd → List PV
 | .e x=>exr x ++ [.str ⟨#[]⟩,.nilsl,.bool false]
 | .w x=>[.int .i64 0,.str ⟨#[]⟩,.nilsl,.nilsl] ++ wrd x ++ [.bool true]
theorem ndr_e (x : Ex) : ndr (.e x) = [.int .i64 x.k,.str x.nm,.list (x.words.map wrd),.list (x.kids.map exr),.str ⟨#[]⟩,.nilsl,.bool false]:=by rw [ndr,exr_eq];rfl
theorem ndr_w (x : Wd) : ndr (.w x) = [.int .i64 0,.str ⟨#[]⟩,.nilsl,.nilsl,.str x.nm,.list (x.args.map wrd),.bool true]:=by rw [ndr,wrd_eq];rfl
theorem ndr_flat (p : Nd) : (ndr p).all flatV = true:=by
 cases p with
 | e x=>rw [ndr_e];rfl
 | w x=>rw [ndr_w];rfl
instance : FlatRow ndr:=⟨ndr_flat⟩
@[simp] theorem ndr_length (p : Nd) : (ndr p).length = 7:=by
 cases p with
 | e x=>rw [ndr_e];rfl
 | w x=>rw [ndr_w];rfl
@[simp] theorem ndr_isCell (p : Nd) : (∀ x ∈ ndr p,isCell x = true) = True:=by
 cases p with
 | e x=>rw [ndr_e];simp
 | w x=>rw [ndr_w];simp
@[simp] theorem ndr_renm {ρ : List Nat} {n : Nat} {p : Nd} : (ndr p).map (renN ρ n) = ndr p:=map_id_of (fun v=>flat_ren) (ndr_flat p)
@[simp] theorem ndr_derefm {s : Store} {n : Nat} {p : Nd} : (ndr p).map (deref s n) = ndr p:=map_id_of (fun v=>flat_deref) (ndr_flat p)
@[simp] theorem ndr_frz {F : List Nat} {s : Store} {p : Nd} : (ndr p).map (frzV F s) = ndr p:=map_id_of (fun v=>frzV_flat) (ndr_flat p)
@[simp] theorem ndr_up {ρ : List Nat} {n : Nat} {p : Nd} : (ndr p).map (upN ρ n) = ndr p:=map_id_of (fun v=>flat_up) (ndr_flat p)
@[simp] theorem ndr_refs {n : Nat} {p : Nd} : (ndr p).flatMap (refsN n) = []:=by
 cases p with
 | e x=>rw [ndr_e];simp
 | w x=>rw [ndr_w];simp
@[simp] theorem ndr_cat_e (x : Ex) : exr x ++ [PV.str ⟨#[]⟩,.nilsl,.bool false] = ndr (.e x):=rfl
@[simp] theorem ndr_cat_w (x : Wd) : PV.int .i64 0 :: .str ⟨#[]⟩ :: .nilsl :: .nilsl :: (wrd x ++ [.bool true]) = ndr (.w x):=rfl
mutual
def ndW : Wd → List Nd
 | .mk a l=>.w (.mk a l) :: ndWs l
def ndWs : List Wd → List Nd
 | []=>[]
 | w :: r=>ndW w ++ ndWs r
end
theorem ndW_eq (w : Wd) : ndW w = .w w :: ndWs w.args:=by cases w with | mk a l=>rw [ndW];rfl
@[simp] theorem ndWs_nil : ndWs [] = []:=by rw [ndWs]
mutual
def ndE : Ex → List Nd
 | .mk k a ws l=>.e (.mk k a ws l) :: (ndWs ws ++ ndEs l)
def ndEs : List Ex → List Nd
 | []=>[]
 | w :: r=>ndE w ++ ndEs r
end
theorem ndE_eq (x : Ex) : ndE x = .e x :: (ndWs x.words ++ ndEs x.kids):=by cases x with | mk k a ws l=>rw [ndE];rfl
@[simp] theorem ndEs_nil : ndEs [] = []:=by rw [ndEs]
end Go.Proofs.Ytbimioonhfhflaa
namespace Go.Proofs.Ytbimioonhfhflaa
open Go Go.Pv
def chkW (nm : ByteArray) (c : Nat) : Except Int (Option (Bool × ByteArray × Nat)):=
 if isBigB nm = true then .ok (some (true,nm,c)) else if isNameB nm = true then (if 0 < c then .error 9 else .ok none) else .error 8
def chkX (k : Int) (nm : ByteArray) (wc kc : Nat) : Except Int (Option (Bool × ByteArray × Nat)):=
 if k < 1 ∨ 10 < k then .error 4 else if (0 ≤ wordsN k ∧ (wc : Int) ≠ wordsN k) ∨ (kc : Int) ≠ kidsX k then .error 9
 else if k = 1 then (if isBigB nm = true then .ok (some (false,nm,wc)) else .error 8)
 else if k = 9 ∨ k = 10 then (if isNameB nm = true then .ok none else .error 8)
 else if nm = ⟨#[]⟩ then .ok none else .error 8
def chkN : Nd → Except Int (Option (Bool × ByteArray × Nat))
 | .w x=>chkW x.nm x.args.length
 | .e x=>chkX x.k x.nm x.words.length x.kids.length
end Go.Proofs.Ytbimioonhfhflaa
namespace Go.Proofs.Ytbimioonhfhflaa
open Go Go.Pv
def stepW : Nd → WS → RW
 | .w x=>wordH x.nm x.args.length
 | .e x=>exprH x.k x.nm x.words.length x.kids.length
def foldW : List Nd → WS → RW
 | [],s=>.ok s
 | x :: r,s=>match stepW x s with
  | .ok s1=>foldW r s1
  | .error e=>.error e
theorem foldW_app (a b : List Nd) (s : WS) : foldW (a ++ b) s = match foldW a s with
  | .ok s1=>foldW b s1
  | .error e=>.error e:=by
 induction a generalizing s with
 | nil=>rfl
 | cons x r ih=>
  rw [List.cons_append,foldW,foldW]
  cases stepW x s with
  | ok s1=>exact ih s1
  | error e=>rfl
theorem wordsW_fold (l : List Wd) (ih : ∀ w ∈ l,∀ s,wordW w s = foldW (ndW w) s) : ∀ s,wordsW l s = foldW (ndWs l) s:=by
 induction l with
 | nil=>intro s;rw [wordsW,ndWs_nil,foldW]
 | cons w r ihr=>
  intro s
  rw [wordsW,ndWs,foldW_app,← ih w (by simp) s]
  dsimp only
  cases wordW w s with
  | ok s1=>exact ihr (fun w hw=>ih w (by simp [hw])) s1
  | error e=>rfl
theorem wordW_fold (w : Wd) : ∀ s,wordW w s = foldW (ndW w) s:=by
 induction w using Wd.ind with
 | h w ih=>
  intro s
  rw [wordW_eq,ndW_eq,foldW,stepW]
  cases wordH w.nm w.args.length s with
  | ok s1=>exact wordsW_fold _ ih s1
  | error e=>rfl
theorem exprsW_fold (l : List Ex) (ih : ∀ w ∈ l,∀ s,exprW w s = foldW (ndE w) s) : ∀ s,exprsW l s = foldW (ndEs l) s:=by
 induction l with
 | nil=>intro s;rw [exprsW,ndEs_nil,foldW]
 | cons w r ihr=>
  intro s
  rw [exprsW,ndEs,foldW_app,← ih w (by simp) s]
  dsimp only
  cases exprW w s with
  | ok s1=>exact ihr (fun w hw=>ih w (by simp [hw])) s1
  | error e=>rfl
theorem exprW_fold (e : Ex) : ∀ s,exprW e s = foldW (ndE e) s:=by
 induction e using Ex.ind with
 | h e ih=>
  intro s
  rw [exprW_eq,ndE_eq,foldW,stepW]
  cases exprH e.k e.nm e.words.length e.kids.length s with
  | ok s1=>
   dsimp only
   rw [foldW_app,← wordsW_fold _ (fun w _=>wordW_fold w) s1]
   cases wordsW e.words s1 with
   | ok s2=>exact exprsW_fold _ ih s2
   | error e=>rfl
  | error e=>rfl
def encW (b : Bool) (nm : ByteArray) : ByteArray:=(if b = true then (⟨#[102]⟩ : ByteArray) else ⟨#[112]⟩) ++ nm
theorem name_notbig {nm : ByteArray} (h : isNameB nm = true) : isBigB nm = false:=by
 unfold isNameB at h
 rw [Bool.and_eq_true,decide_eq_true_eq] at h
 rw [isBig_eq (by omega)]
 have h2 : letterB nm[0] = true:=by
  have:=h.2
  rw [← List.drop_zero (l:=nm.data.toList),all_at (by omega),Bool.and_eq_true] at this
  exact this.1
 have : capB nm[0] = false:=by
  unfold letterB at h2
  unfold capB
  rw [decide_eq_true_eq] at h2
  rw [decide_eq_false_iff_not];omega
 rw [this,Bool.and_false,Bool.false_and]
theorem stepW_eq (x : Nd) (s : WS) (h : s.1 ≠ 200) : stepW x s = match chkN x with
  | .error c=>.error ((c,s.1),(s.1 + 1,s.2))
  | .ok none=>.ok (s.1 + 1,s.2)
  | .ok (some (b,nm,c))=>manyW s.1 (encW b nm) c (s.1 + 1,s.2):=by
 cases x with
 | w x=>
  rw [stepW,chkN,wordH,chkW,if_neg h]
  by_cases h1 : isNameB x.nm = true
  ·have hnb := name_notbig h1
   rw [if_pos h1,if_neg (c:=isBigB x.nm = true) (by rw [hnb];decide),if_pos h1]
   by_cases h2 : 0 < x.args.length
   ·rw [if_pos h2,if_pos h2]
   ·rw [if_neg h2,if_neg h2]
  ·rw [if_neg h1,if_neg h1]
   by_cases h2 : isBigB x.nm = true
   ·rw [if_pos h2,if_pos h2];rfl
   ·rw [if_neg h2,if_neg h2]
 | e x=>
  rw [stepW,chkN,exprH,chkX,if_neg h]
  by_cases h1 : x.k < 1 ∨ 10 < x.k
  ·rw [if_pos h1,if_pos h1]
  rw [if_neg h1,if_neg h1]
  by_cases h2 : (0 ≤ wordsN x.k ∧ (x.words.length : Int) ≠ wordsN x.k) ∨ (x.kids.length : Int) ≠ kidsX x.k
  ·rw [if_pos h2,if_pos h2]
  rw [if_neg h2,if_neg h2]
  by_cases h3 : x.k = 1
  ·rw [if_pos h3,if_pos h3]
   by_cases h4 : isBigB x.nm = true
   ·rw [if_pos h4,if_pos h4];rfl
   ·rw [if_neg h4,if_neg h4]
  rw [if_neg h3,if_neg h3]
  by_cases h4 : x.k = 9 ∨ x.k = 10
  ·rw [if_pos h4,if_pos h4]
   by_cases h5 : isNameB x.nm = true
   ·rw [if_pos h5,if_pos h5]
   ·rw [if_neg h5,if_neg h5]
  rw [if_neg h4,if_neg h4]
  by_cases h5 : x.nm = ⟨#[]⟩
  ·rw [if_pos h5,if_pos h5]
  ·rw [if_neg h5,if_neg h5]
theorem stepW_200 (x : Nd) (s : WS) (h : s.1 = 200) : stepW x s = .error ((2,0),s):=by
 cases x with
 | w x=>rw [stepW,wordH,if_pos h]
 | e x=>rw [stepW,exprH,if_pos h]
end Go.Proofs.Ytbimioonhfhflaa
