import Derived.Test.YtfhakdonenhnbaaBFaA
import Derived.Test.YtfhakdonenhnbaaBPvRecN
import Derived.Test.YtfhakdonenhnbaaBPvRec
set_option linter.unusedVariables false
set_option linter.unusedSimpArgs false
set_option maxRecDepth 100000
set_option maxHeartbeats 4000000
set_option linter.unusedSectionVars false
namespace Go.Proofs.Ytfhakdonenhnbaa
open Go Go.Pv
@[simp] theorem xi_fst (v : PV) : xiface Try.prog 0 v = some (.iface 0 v):=by kernel_rfl
@[simp] theorem xa_fst (v : PV) : xassert Try.prog 0 true (.iface 0 v) = some (.tuple [v,.bool true]):=by kernel_rfl
section
variable {α : Type} {enc : α → PV} {P : Program} {rs : List ResultVar} {m : Nat} {t : ByteArray} {f : α} {j p q : Nat} {e : AE} {s : Store} {v : Value}
end
def capB (b : UInt8) : Bool:=decide (65 ≤ b.toNat ∧ b.toNat ≤ 90)
def letA (b : UInt8) : Bool:=letterB b || capB b
def isBigB (s : ByteArray) : Bool:=decide (1 ≤ s.size ∧ s.size ≤ 8) && (s.data.toList.head?.map capB).getD false && s.data.toList.all letA
theorem or32 (b : UInt8) : (97 ≤ (b ||| 32).toNat ∧ (b ||| 32).toNat ≤ 122) ↔ letA b = true:=by
 have h : ∀ n,n < 256 → ((97 ≤ (UInt8.ofNat n ||| 32).toNat ∧ (UInt8.ofNat n ||| 32).toNat ≤ 122) ↔ letA (UInt8.ofNat n) = true):=by decide
 have:=h b.toNat b.toNat_lt
 rwa [UInt8.ofNat_toNat] at this
theorem or_u8 (b : UInt8) : orI .u8 (b.toNat : Int) 32 = (((b ||| 32).toNat : Nat) : Int):=by
 have h : ∀ n : Nat,n < 256 → orI .u8 (n : Int) 32 = (((UInt8.ofNat n ||| 32).toNat : Nat) : Int):=by decide +kernel
 have:=h b.toNat b.toNat_lt
 rwa [UInt8.ofNat_toNat] at this
theorem all_at {p : UInt8 → Bool} {s : ByteArray} {i : Nat} (h : i < s.size) : (s.data.toList.drop i).all p = (p s[i] && (s.data.toList.drop (i + 1)).all p):=by
 rw [List.drop_eq_getElem_cons (by exact h)];rfl
theorem all_end {p : UInt8 → Bool} {s : ByteArray} {i : Nat} (h : s.size ≤ i) : (s.data.toList.drop i).all p = true:=by
 rw [List.drop_of_length_le (by exact h)];rfl
theorem head_at {s : ByteArray} (h : 0 < s.size) : s.data.toList.head? = some s[0]:=by
 rw [← List.drop_zero (l:=s.data.toList),List.drop_eq_getElem_cons (by exact h)];rfl
theorem isBig_eq {s : ByteArray} (h : 0 < s.size) : isBigB s = (decide (s.size ≤ 8) && capB s[0] && (s.data.toList.drop 0).all letA):=by
 unfold isBigB
 rw [head_at h,List.drop_zero,show decide (1 ≤ s.size ∧ s.size ≤ 8) = decide (s.size ≤ 8) by rw [decide_eq_decide];omega];rfl
def x36_L0 : XC:=.seq (.reg [⟨some 26,.binOp .lss 3 (.tmp 25) (.tmp 24) 3,none⟩]) (.seq (.cond (.tmp 26) .skip (.exit 0)) (.seq (.block 1 (.seq (.reg [⟨some 27,.move (.tmp 25),none⟩,⟨some 3,.assign (.tmp 27),none⟩]) (.seq (.reg [⟨some 28,.move (.tmp 0),none⟩,⟨some 29,.move (.tmp 3),none⟩,⟨some 30,.index 9 (.tmp 28) (.tmp 29),none⟩,⟨some 31,.binOp .or 5 (.tmp 30) (.const (.int .u8 32)) 5,none⟩,⟨some 4,.assign (.tmp 31),none⟩]) (.seq (.reg [⟨some 32,.move (.tmp 4),none⟩,⟨some 33,.binOp .lss 5 (.tmp 32) (.const (.int .u8 97)) 5,none⟩,⟨some 34,.move (.tmp 33),none⟩,⟨some 35,.move (.tmp 4),some (some 34,false)⟩,⟨some 36,.binOp .gtr 5 (.tmp 35) (.const (.int .u8 122)) 5,some (some 34,false)⟩,⟨some 37,.pick (.tmp 34) (.const (.bool true)) (.tmp 36),none⟩]) (.cond (.tmp 37) (.seq (.reg [⟨some 2,.assign (.const (.bool false)),none⟩]) .ret) .skip))))) (.reg [⟨some 38,.binOp .add 3 (.tmp 25) (.const (.int .i64 1)) 3,none⟩,⟨some 25,.move (.tmp 38),none⟩])))
def x36 : XC:=.seq (.reg [⟨some 2,.assign (.const (.bool false)),none⟩]) (.seq (.seq (.reg [⟨some 5,.move (.tmp 0),none⟩,⟨some 6,.call ⟨.builtin .len,#[.tmp 5],#[9]⟩,none⟩,⟨some 7,.binOp .lss 3 (.tmp 6) (.const (.int .i64 1)) 3,none⟩,⟨some 8,.move (.tmp 7),none⟩,⟨some 9,.move (.tmp 0),some (some 8,false)⟩,⟨some 10,.call ⟨.builtin .len,#[.tmp 9],#[9]⟩,some (some 8,false)⟩,⟨some 11,.binOp .gtr 3 (.tmp 10) (.const (.int .i64 8)) 3,some (some 8,false)⟩,⟨some 12,.pick (.tmp 8) (.const (.bool true)) (.tmp 11),none⟩,⟨some 13,.move (.tmp 12),none⟩,⟨some 14,.move (.tmp 0),some (some 13,false)⟩,⟨some 15,.index 9 (.tmp 14) (.const (.int .i64 0)),some (some 13,false)⟩,⟨some 16,.binOp .lss 5 (.tmp 15) (.const (.int .u8 65)) 5,some (some 13,false)⟩,⟨some 17,.pick (.tmp 13) (.const (.bool true)) (.tmp 16),none⟩,⟨some 18,.move (.tmp 17),none⟩,⟨some 19,.move (.tmp 0),some (some 18,false)⟩,⟨some 20,.index 9 (.tmp 19) (.const (.int .i64 0)),some (some 18,false)⟩,⟨some 21,.binOp .gtr 5 (.tmp 20) (.const (.int .u8 90)) 5,some (some 18,false)⟩,⟨some 22,.pick (.tmp 18) (.const (.bool true)) (.tmp 21),none⟩]) (.cond (.tmp 22) (.seq (.reg [⟨some 2,.assign (.const (.bool false)),none⟩]) .ret) .skip)) (.seq (.seq (.reg [⟨some 23,.move (.tmp 0),none⟩,⟨some 24,.call ⟨.builtin .len,#[.tmp 23],#[9]⟩,none⟩,⟨some 25,.move (.const (.int .i64 0)),none⟩]) (.bloop 0 x36_L0)) (.seq (.reg [⟨some 2,.assign (.const (.bool true)),none⟩]) .ret)))
@[simp] theorem x36_s {C e s K} : type_of% (@X_at C e s K _ _ x36_L0.eq_1) ∧ type_of% (@X_at C e s K _ _ x36.eq_1):=⟨X_at x36_L0.eq_1,X_at x36.eq_1⟩
def an36 : Ann:=⟨[],[(0,[],[0,24,25],[2])],[]⟩
@[simp] theorem an36_a : an36.loopOf 0 = ([],[0,24,25],[2]):=rfl
theorem fi36 : FI Try.prog 36 (cxA an36) x36 [.tmp 2] Try.f36:=fiA Try.func36 mixed
theorem IsBig_first (s : ByteArray) : CallOK Try.prog 36 [.str s] [] (.bool (isBigB s)) []:=by
 refine fi36.op ?_
 by_cases h1 : s.size < 1
 ·have : isBigB s = false := by unfold isBigB; rw [decide_eq_false (by omega)]; rfl
  rw [this]
  have h1' : (s.size : Int) < 1:=by omega
  (refine Sg.h ?_;try repeat' ((with_reducible first|refine brA ?_|refine brE fun _=>?_|refine spl ⟨?_,?_⟩<;>intro _)<;>((try simp -implicitDefEqProofs [h1']);(try simp -implicitDefEqProofs(disch:=first|assumption|(try simp only[lens]);omega -splitDisjunctions) [h1']))))
 by_cases h2 : 8 < s.size
 ·have : isBigB s = false := by unfold isBigB; rw [decide_eq_false (by omega)]; rfl
  rw [this]
  have h1' : ¬ (s.size : Int) < 1:=by omega
  have h2' : (8 : Int) < (s.size : Int):=by omega
  (refine Sg.h ?_;try repeat' ((with_reducible first|refine brA ?_|refine brE fun _=>?_|refine spl ⟨?_,?_⟩<;>intro _)<;>((try simp -implicitDefEqProofs [h1',h2']);(try simp -implicitDefEqProofs(disch:=first|assumption|(try simp only[lens]);omega -splitDisjunctions) [h1',h2']))))
 have h0 : 0 < s.size:=by omega
 have h1' : ¬ (s.size : Int) < 1:=by omega
 have h2' : ¬ (8 : Int) < (s.size : Int):=by omega
 obtain ⟨R,hR⟩ : ∃ R,isBigB s = R:=⟨_,rfl⟩
 rw [hR]
 rw [isBig_eq h0,decide_eq_true (by omega),Bool.true_and] at hR
 cases hc : capB s[0] with
 | false=>
  rw [hc] at hR
  subst hR
  simp only [capB,decide_eq_false_iff_not] at hc
  by_cases h3 : 65 ≤ s[0].toNat
  ·have h4 : ¬ ((s[0].toNat : Int) < 65) := by omega
   have h5 : (90 : Int) < (s[0].toNat : Int):=by omega
   (refine Sg.h ?_;try repeat' ((with_reducible first|refine brA ?_|refine brE fun _=>?_|refine spl ⟨?_,?_⟩<;>intro _)<;>((try simp -implicitDefEqProofs [h1',h2',h0,h4,h5]);(try simp -implicitDefEqProofs(disch:=first|assumption|(try simp only[lens]);omega -splitDisjunctions) [h1',h2',h0,h4,h5]))))
  ·have h4 : ((s[0].toNat : Int) < 65) := by omega
   (refine Sg.h ?_;try repeat' ((with_reducible first|refine brA ?_|refine brE fun _=>?_|refine spl ⟨?_,?_⟩<;>intro _)<;>((try simp -implicitDefEqProofs [h1',h2',h0,h4]);(try simp -implicitDefEqProofs(disch:=first|assumption|(try simp only[lens]);omega -splitDisjunctions) [h1',h2',h0,h4]))))
 | true=>
  rw [hc,Bool.true_and] at hR
  simp only [capB,decide_eq_true_eq] at hc
  have h4 : ¬ ((s[0].toNat : Int) < 65):=by omega
  have h5 : ¬ ((90 : Int) < (s[0].toNat : Int)):=by omega
  (refine Sg.h ?_;try repeat' ((with_reducible first|refine brA ?_|refine brE fun _=>?_|refine spl ⟨?_,?_⟩<;>intro _)<;>((try simp -implicitDefEqProofs [h1',h2',h0,h4,h5]);(try simp -implicitDefEqProofs(disch:=first|assumption|(try simp only[lens]);omega -splitDisjunctions) [h1',h2',h0,h4,h5]))))
  refine W_of fun Q hQ=>?_
  have main : ∀ n i,i + n = s.size → (s.data.toList.drop i).all letA = R → Q [(0,.str s),(24,.int .i64 (s.size : Int)),(25,.int .i64 (i : Int))] []:=by
   intro n
   induction n with
   | zero=>
    intro i hi hR
    rw [all_end (by omega)] at hR
    subst hR
    obtain rfl : i = s.size:=by omega
    apply hQ
    clear hQ
    (refine Sg.h ?_;try repeat' ((with_reducible first|refine brA ?_|refine brE fun _=>?_|refine spl ⟨?_,?_⟩<;>intro _)<;>((try simp -implicitDefEqProofs);(try simp -implicitDefEqProofs(disch:=first|assumption|(try simp only[lens]);omega -splitDisjunctions)))))
   | succ n ih=>
    intro i hi hR
    have hlt : i < s.size:=by omega
    have ih:=ih (i + 1) (by omega)
    clear hc h4 h5
    rw [all_at hlt] at hR
    have ho:=or32 s[i]
    cases hL : letA s[i] with
    | true=>
     rw [hL,Bool.true_and] at hR
     have ih:=ih hR
     rw [hL] at ho
     obtain ⟨g1,g2⟩:=ho.2 rfl
     have hu:=or_u8 s[i]
     generalize (s[i] ||| 32).toNat = u at *
     have g3 : ¬ (u : Int) < 97:=by omega
     have g4 : ¬ (122 : Int) < (u : Int):=by omega
     apply hQ
     clear hQ
     (refine Sg.h ?_;try repeat' ((with_reducible first|refine brA ?_|refine brE fun _=>?_|refine spl ⟨?_,?_⟩<;>intro _)<;>((try simp -implicitDefEqProofs [hlt,hu,g3,g4]);(try simp -implicitDefEqProofs(disch:=first|assumption|(try simp only[lens]);omega -splitDisjunctions) [hlt,hu,g3,g4]))))
     all_goals first|exact ih|(refine at2 ih ?_ ?_<;>simp;done)|(exfalso;first|omega|(simp_all;done)|(simp_all;omega))
    | false=>
     rw [hL] at hR
     subst hR
     rw [hL] at ho
     have hu:=or_u8 s[i]
     generalize (s[i] ||| 32).toNat = u at *
     have g3 : (u : Int) < 97 ∨ ¬ (u : Int) < 97 ∧ (122 : Int) < (u : Int):=by
      have : ¬ (97 ≤ u ∧ u ≤ 122):=fun h=>by simpa using ho.1 h
      omega
     apply hQ
     clear hQ ih
     rcases g3 with g3 | ⟨g3,g4⟩
     ·(refine Sg.h ?_;try repeat' ((with_reducible first|refine brA ?_|refine brE fun _=>?_|refine spl ⟨?_,?_⟩<;>intro _)<;>((try simp -implicitDefEqProofs [hlt,hu,g3]);(try simp -implicitDefEqProofs(disch:=first|assumption|(try simp only[lens]);omega -splitDisjunctions) [hlt,hu,g3]))))
     ·(refine Sg.h ?_;try repeat' ((with_reducible first|refine brA ?_|refine brE fun _=>?_|refine spl ⟨?_,?_⟩<;>intro _)<;>((try simp -implicitDefEqProofs [hlt,hu,g3,g4]);(try simp -implicitDefEqProofs(disch:=first|assumption|(try simp only[lens]);omega -splitDisjunctions) [hlt,hu,g3,g4]))))
  all_goals first|exact main _ 0 (Nat.zero_add _) hR|(refine at2 main _ 0 (Nat.zero_add _) hR ?_ ?_<;>simp;done)|(exfalso;first|omega|(simp_all;done)|(simp_all;omega))
end Go.Proofs.Ytfhakdonenhnbaa
namespace Go.Proofs.Ytfhakdonenhnbaa
open Go Go.Pv
def mapI (L : List (ByteArray × Int)) : List (PV × PV):=L.map fun p=>(.str p.1,.int .i64 p.2)
def lookI (s : ByteArray) : List (ByteArray × Int) → Option Int
 | []=>none
 | p :: r=>if s = p.1 then some p.2 else lookI s r
@[simp] theorem mapI_ren {ρ : List Nat} (L : List (ByteArray × Int)) : (mapI L).map (fun p=>(renN ρ 4 p.1,renN ρ 4 p.2)) = mapI L:=by simp [mapI]
@[simp] theorem mapI_up {ρ : List Nat} {n : Nat} (L : List (ByteArray × Int)) : (mapI L).map (fun p=>(upN ρ n p.1,upN ρ n p.2)) = mapI L:=by
 cases n <;> simp [mapI]
@[simp] theorem mapI_refs (L : List (ByteArray × Int)) : ((mapI L).flatMap fun p=>refsN 4 p.2) = []:=by
 induction L with
 | nil=>rfl
 | cons a r ih=>exact ih
theorem mapI_snoc (L : List (ByteArray × Int)) (s : ByteArray) (n : Int) : mapI L ++ [(.str s,.int .i64 n)] = mapI (L ++ [(s,n)]):=by simp [mapI]
abbrev WS:=Nat × List (ByteArray × Int)
@[simp] theorem rg2 : List.range 2 = [0,1]:=rfl
section
variable {P : Program} {rs : List ResultVar} {m : Nat} {s' : WS} {er : Int × Nat} {e : AE} {s : Store} {v : Value}
end
section
variable {C : WC} {f : Operand} {args : Array Operand} {d : Option Tmp} {fid : FuncId} {vs : List PV} {e : AE} {rest : Store} {s s' : WS} {K : KS} {ops : List LOp}
end
end Go.Proofs.Ytfhakdonenhnbaa
namespace Go.Proofs.Ytfhakdonenhnbaa
open Go Go.Pv
@[simp] theorem fn_nil : xnilI Try.prog 20 .niliface = some (.bool true):=by kernel_rfl
@[simp] theorem fn_some (t : TypeId) (v : PV) : xnilI Try.prog 20 (.iface t v) = some (.bool false):=by kernel_rfl
end Go.Proofs.Ytfhakdonenhnbaa
namespace Go.Proofs.Ytfhakdonenhnbaa
open Go Go.Pv
theorem Fm.ind {p : Fm → Prop} (h : ∀ f : Fm,(∀ g ∈ f.kids,p g) → p f) : ∀ f,p f
 | .mk k nm kids=>h _ fun g hg=>Fm.ind h g
termination_by f=>SizeOf.sizeOf f
decreasing_by
 have:=List.sizeOf_lt_of_mem hg
 simp only [Fm.kids,Fm.mk.sizeOf_spec] at *
 omega
end Go.Proofs.Ytfhakdonenhnbaa
namespace Go.Proofs.Ytfhakdonenhnbaa
open Go Go.Pv
inductive OkF (N : ByteArray → Prop) : Fm → Prop where
 | mk {k : Int} {nm : ByteArray} {kids : List Fm} (h : (kids.length : Int) = kidsN k) (hN : k = 1 → N nm) (g : ∀ f ∈ kids,OkF N f) : OkF N (.mk k nm kids)
mutual
def pre : Fm → List Fm
 | .mk k nm l=>.mk k nm l :: pres l
def pres : List Fm → List Fm
 | []=>[]
 | f :: r=>pre f ++ pres r
end
theorem pre_eq (f : Fm) : pre f = f :: pres f.kids:=by cases f with | mk k nm l=>rw [pre];rfl
theorem pres_nil : pres [] = []:=by rw [pres]
theorem pres_cons (f : Fm) (r : List Fm) : pres (f :: r) = pre f ++ pres r:=by rw [pres]
def okN (x : Fm) : Prop:=0 ≤ kidsN x.kind ∧ (x.kids.length : Int) = kidsN x.kind ∧ ¬ ((x.kind = 1 ∧ isNameB x.name = false) ∨ (x.kind ≠ 1 ∧ x.name ≠ ⟨#[]⟩))
theorem okF_of_pre : ∀ f : Fm,(∀ x ∈ pre f,okN x) → OkF (fun n=>isNameB n = true) f:=by
 intro f
 induction f using Fm.ind with
 | h f ih=>
  intro h
  have h0:=h f (by rw [pre_eq];simp)
  cases f with
  | mk k nm l=>
   refine .mk h0.2.1 (fun hk=>?_) fun g hg=>ih g hg fun x hx=>h x ?_
   ·have := h0.2.2
    simp only [Fm.kind,Fm.name,hk,true_and,not_or] at this
    simpa using this.1
   ·rw [pre_eq]
    refine List.mem_cons_of_mem _ ?_
    have : ∀ l : List Fm,g ∈ l → x ∈ pres l:=by
     intro l
     induction l with
     | nil=>intro h;cases h
     | cons a r ihr=>
      intro h
      rw [pres_cons,List.mem_append]
      cases h with
      | head=>exact .inl hx
      | tail _ h=>exact .inr (ihr h)
    exact this l hg
end Go.Proofs.Ytfhakdonenhnbaa
namespace Go.Proofs.Ytfhakdonenhnbaa
open Go Go.Pv
theorem OkF.kid {N : ByteArray → Prop} {f g : Fm} (h : OkF N f) (hg : g ∈ f.kids) : OkF N g:=by
 cases h with | mk a b c=>exact c g hg
theorem pres_mem {x g : Fm} (hx : x ∈ pre g) : ∀ l : List Fm,g ∈ l → x ∈ pres l
 | a :: r,h=>by
  rw [pres_cons,List.mem_append]
  cases h with
  | head=>exact .inl hx
  | tail _ h=>exact .inr (pres_mem hx r h)
theorem mem_pres {x : Fm} : ∀ l : List Fm,x ∈ pres l → ∃ g ∈ l,x ∈ pre g
 | [],h=>by rw [pres_nil] at h;cases h
 | a :: r,h=>by
  rw [pres_cons,List.mem_append] at h
  rcases h with h | h
  ·exact ⟨a,by simp,h⟩
  ·obtain ⟨g,h1,h2⟩:=mem_pres r h;exact ⟨g,by simp [h1],h2⟩
theorem pres_len {g : Fm} : ∀ l : List Fm,g ∈ l → (pre g).length ≤ (pres l).length
 | a :: r,h=>by
  rw [pres_cons,List.length_append]
  cases h with
  | head=>omega
  | tail _ h=>have:=pres_len r h;omega
theorem pre_sub {N : ByteArray → Prop} (f : Fm) (hf : OkF N f) : ∀ x ∈ pre f,OkF N x ∧ (pre x).length ≤ (pre f).length ∧ ∀ y ∈ pre x,y ∈ pre f:=by
 induction f using Fm.ind with
 | h f ih=>
  intro x hx
  rw [pre_eq] at hx
  cases hx with
  | head=>exact ⟨hf,Nat.le_refl _,fun y h=>h⟩
  | tail _ hx=>
   obtain ⟨g,h1,h2⟩:=mem_pres _ hx
   obtain ⟨h3,h4,h5⟩:=ih g h1 (hf.kid h1) x h2
   refine ⟨h3,?_,fun y hy=>?_⟩
   ·have := pres_len _ h1
    rw [pre_eq f];simp;omega
   ·rw [pre_eq f];exact List.mem_cons_of_mem _ (pres_mem (h5 y hy) _ h1)
def Td (f : Fm) : Prop:=∀ x ∈ pre f,okN x
theorem Td.kid {f g : Fm} (h : Td f) (hg : g ∈ f.kids) : Td g:=fun x hx=>h x (by rw [pre_eq];exact List.mem_cons_of_mem _ (pres_mem hx _ hg))
theorem Td.ok {f : Fm} (h : Td f) : OkF (fun n=>isNameB n = true) f:=okF_of_pre f h
theorem Td.pre {f x : Fm} (h : Td f) (hx : x ∈ pre f) : Td x:=fun y hy=>h y ((pre_sub f h.ok x hx).2.2 y hy)
section
variable {n : Nat} {t : Nat → Nat → Bool} {hold : Nat → ByteArray → Bool} {w : Nat} {nm : ByteArray} {l : List Fm} {a b : Fm}
end
end Go.Proofs.Ytfhakdonenhnbaa
namespace Go.Proofs.Ytfhakdonenhnbaa
open Go Go.Pv
structure Fn where
 name : ByteArray
 ar : Int
 tab : List Int
 deriving Inhabited
structure Pd where
 name : ByteArray
 ar : Int
 bits : List Bool
 deriving Inhabited
structure Stc where
 n : Int
 funs : List Fn
 preds : List Pd
def fnRow (f : Fn) : List PV:=[.str f.name,.int .i64 f.ar,.list (f.tab.map intRow)]
def pdRow (p : Pd) : List PV:=[.str p.name,.int .i64 p.ar,.list (p.bits.map boolRow)]
def stc (S : Stc) : List PV:=[.int .i64 S.n,.list (S.funs.map fnRow),.list (S.preds.map pdRow)]
instance : FlatRow fnRow:=⟨fun _=>rfl⟩
instance : FlatRow pdRow:=⟨fun _=>rfl⟩
@[simp] theorem fn_len {f : Fn} : (fnRow f).length = 3:=rfl
@[simp] theorem fn_cell {f : Fn} : (∀ x ∈ fnRow f,isCell x = true) = True:=by simp [fnRow]
@[simp] theorem fn_cell2 {f : Fn} : (fnRow f).all isCell = true:=rfl
@[simp] theorem fn_get0 {f : Fn} : (fnRow f)[0]? = some (.str f.name):=rfl
@[simp] theorem fn_get1 {f : Fn} : (fnRow f)[1]? = some (.int .i64 f.ar):=rfl
@[simp] theorem fn_get2 {f : Fn} : (fnRow f)[2]? = some (.list (f.tab.map intRow)):=rfl
@[simp] theorem pd_len {f : Pd} : (pdRow f).length = 3:=rfl
@[simp] theorem pd_cell {f : Pd} : (∀ x ∈ pdRow f,isCell x = true) = True:=by simp [pdRow]
@[simp] theorem pd_cell2 {f : Pd} : (pdRow f).all isCell = true:=rfl
@[simp] theorem pd_get0 {f : Pd} : (pdRow f)[0]? = some (.str f.name):=rfl
@[simp] theorem pd_get1 {f : Pd} : (pdRow f)[1]? = some (.int .i64 f.ar):=rfl
@[simp] theorem pd_get2 {f : Pd} : (pdRow f)[2]? = some (.list (f.bits.map boolRow)):=rfl
@[simp] theorem fn_ge0 {f : Fn} (h : 0 < (fnRow f).length) : (fnRow f)[0] = .str f.name:=rfl
@[simp] theorem fn_ge1 {f : Fn} (h : 1 < (fnRow f).length) : (fnRow f)[1] = .int .i64 f.ar:=rfl
@[simp] theorem fn_ge2 {f : Fn} (h : 2 < (fnRow f).length) : (fnRow f)[2] = .list (f.tab.map intRow):=rfl
@[simp] theorem fn_take3 {f : Fn} : (fnRow f).take 3 = fnRow f:=rfl
@[simp] theorem fn_drop1 {f : Fn} : (fnRow f).drop 1 = [.int .i64 f.ar,.list (f.tab.map intRow)]:=rfl
@[simp] theorem fn_drop2 {f : Fn} : (fnRow f).drop 2 = [.list (f.tab.map intRow)]:=rfl
@[simp] theorem fn_drop3 {f : Fn} : (fnRow f).drop 3 = []:=rfl
@[simp] theorem fn_tail {f : Fn} : (fnRow f).tail = [.int .i64 f.ar,.list (f.tab.map intRow)]:=rfl
theorem fn_flat (f : Fn) : (fnRow f).all flatV = true:=rfl
@[simp] theorem fn_renm {f : Fn} {ρ : List Nat} {n : Nat} : (fnRow f).map (renN ρ n) = fnRow f:=map_id_of (fun v=>flat_ren) (fn_flat f)
@[simp] theorem fn_derefm {f : Fn} {s : Store} {n : Nat} : (fnRow f).map (deref s n) = fnRow f:=map_id_of (fun v=>flat_deref) (fn_flat f)
@[simp] theorem fn_frz {f : Fn} {F : List Nat} {s : Store} : (fnRow f).map (frzV F s) = fnRow f:=map_id_of (fun v=>frzV_flat) (fn_flat f)
@[simp] theorem fn_up {f : Fn} {ρ : List Nat} {n : Nat} : (fnRow f).map (upN ρ n) = fnRow f:=map_id_of (fun v=>flat_up) (fn_flat f)
@[simp] theorem fn_refs {f : Fn} {n : Nat} : (fnRow f).flatMap (refsN n) = []:=by simp [fnRow]
@[simp] theorem fn_soft {f : Fn} : (fnRow f).map soft1 = fnRow f:=rfl
@[simp] theorem pd_ge0 {f : Pd} (h : 0 < (pdRow f).length) : (pdRow f)[0] = .str f.name:=rfl
@[simp] theorem pd_ge1 {f : Pd} (h : 1 < (pdRow f).length) : (pdRow f)[1] = .int .i64 f.ar:=rfl
@[simp] theorem pd_ge2 {f : Pd} (h : 2 < (pdRow f).length) : (pdRow f)[2] = .list (f.bits.map boolRow):=rfl
@[simp] theorem pd_take3 {f : Pd} : (pdRow f).take 3 = pdRow f:=rfl
@[simp] theorem pd_drop1 {f : Pd} : (pdRow f).drop 1 = [.int .i64 f.ar,.list (f.bits.map boolRow)]:=rfl
@[simp] theorem pd_drop2 {f : Pd} : (pdRow f).drop 2 = [.list (f.bits.map boolRow)]:=rfl
@[simp] theorem pd_drop3 {f : Pd} : (pdRow f).drop 3 = []:=rfl
@[simp] theorem pd_tail {f : Pd} : (pdRow f).tail = [.int .i64 f.ar,.list (f.bits.map boolRow)]:=rfl
theorem pd_flat (f : Pd) : (pdRow f).all flatV = true:=rfl
@[simp] theorem pd_renm {f : Pd} {ρ : List Nat} {n : Nat} : (pdRow f).map (renN ρ n) = pdRow f:=map_id_of (fun v=>flat_ren) (pd_flat f)
@[simp] theorem pd_derefm {f : Pd} {s : Store} {n : Nat} : (pdRow f).map (deref s n) = pdRow f:=map_id_of (fun v=>flat_deref) (pd_flat f)
@[simp] theorem pd_frz {f : Pd} {F : List Nat} {s : Store} : (pdRow f).map (frzV F s) = pdRow f:=map_id_of (fun v=>frzV_flat) (pd_flat f)
@[simp] theorem pd_up {f : Pd} {ρ : List Nat} {n : Nat} : (pdRow f).map (upN ρ n) = pdRow f:=map_id_of (fun v=>flat_up) (pd_flat f)
@[simp] theorem pd_refs {f : Pd} {n : Nat} : (pdRow f).flatMap (refsN n) = []:=by simp [pdRow]
@[simp] theorem pd_soft {f : Pd} : (pdRow f).map soft1 = pdRow f:=rfl
def tabF (N : Int) (f : Fn) : Int:=if f.ar < 0 ∨ 3 < f.ar then 3 else if (f.tab.length : Int) ≠ N ^ f.ar.toNat then 9 else if f.tab.any (fun x=>decide (x < 0 ∨ N ≤ x)) = true then 5 else 0
def bitF (N : Int) (p : Pd) : Int:=if p.ar < 0 ∨ 3 < p.ar then 3 else if (p.bits.length : Int) ≠ N ^ p.ar.toNat then 9 else 0
def funsF (N : Int) : List Fn → List Fn → Nat → Int × Int
 | _,[],_=>(0,0)
 | pre,f :: r,i=>if isBigB f.name = false ∨ (pre.any fun g=>decide (g.name = f.name)) = true then (8,(i : Int)) else if tabF N f ≠ 0 then (tabF N f,(i : Int)) else funsF N (pre ++ [f]) r (i + 1)
def predsF (N : Int) : List Pd → List Pd → Nat → Int × Int
 | _,[],_=>(0,0)
 | pre,p :: r,i=>if isBigB p.name = false ∨ (pre.any fun g=>decide (g.name = p.name)) = true then (8,(i : Int)) else if bitF N p ≠ 0 then (bitF N p,(i : Int)) else predsF N (pre ++ [p]) r (i + 1)
def stcF (S : Stc) : Int × Int:=if S.n < 1 ∨ 8 < S.n ∨ 10 < S.funs.length ∨ 10 < S.preds.length then (2,0) else if (funsF S.n [] S.funs 0).1 ≠ 0 then funsF S.n [] S.funs 0 else predsF S.n [] S.preds S.funs.length
end Go.Proofs.Ytfhakdonenhnbaa
namespace Go.Proofs.Ytfhakdonenhnbaa
open Go Go.Pv
def at0 (l : List Nat) (i : Nat) : Nat:=l.getD i 0
def bitAt (p : Pd) (i : Nat) : Bool:=p.bits.getD i false
def eqsB (xs ys : List Nat) : Bool:=(List.range xs.length).all fun i=>(List.range xs.length).all fun k=>decide (at0 xs i = at0 xs k) == decide (at0 ys i = at0 ys k)
def predB (A B : Nat) (p q : Pd) (xs ys : List Nat) : Bool:=
 if p.ar = 0 then bitAt p 0 == bitAt q 0
 else if p.ar = 1 then (List.range xs.length).all fun k=>bitAt p (at0 xs k) == bitAt q (at0 ys k)
 else if p.ar = 2 then (List.range xs.length).all fun k=>(List.range xs.length).all fun m=>bitAt p (at0 xs k + at0 xs m * A) == bitAt q (at0 ys k + at0 ys m * B)
 else true
def predsB (A B : Nat) (P Q : List Pd) (xs ys : List Nat) : Bool:=(P.zip Q).all fun r=>predB A B r.1 r.2 xs ys
def fitB (A B : Nat) (P Q : List Pd) (xs ys : List Nat) : Bool:=eqsB xs ys && predsB A B P Q xs ys
def winF (A B : Nat) (P Q : List Pd) : Nat → List Nat → List Nat → Bool
 | 0,xs,ys=>fitB A B P Q xs ys
 | r + 1,xs,ys=>fitB A B P Q xs ys && (((List.range A).all fun x=>(List.range B).any fun y=>winF A B P Q r (xs ++ [x]) (ys ++ [y])) && (List.range B).all fun y=>(List.range A).any fun x=>winF A B P Q r (xs ++ [x]) (ys ++ [y]))
abbrev Mem:=List (List Int × Bool)
def padI (l : List Nat) : List Int:=(l ++ List.replicate (4 - l.length) 0).map fun (n : Nat)=>(n : Int)
def posC (xs ys : List Nat) : List Int:=(xs.length : Int) :: (padI xs ++ padI ys)
def keyC (xs ys : List Nat) (r : Nat) : List Int:=posC xs ys ++ (r : Int) :: List.replicate 8 0
def lkM (c : List Int) : Mem → Nat → Option (Nat × Bool)
 | [],_=>none
 | p :: es,i=>if c = p.1 then some (i,p.2) else lkM c es (i + 1)
def ptM (c : List Int) (b : Bool) (es : Mem) : Mem:=match lkM c es 0 with
 | some (j,_)=>es.set j (c,b)
 | none=>es ++ [(c,b)]
def anyS {σ : Type} (f : Nat → σ → Bool × σ) : List Nat → σ → Bool × σ
 | [],s=>(false,s)
 | y :: r,s=>if (f y s).1 = true then (true,(f y s).2) else anyS f r (f y s).2
def allS {σ : Type} (f : Nat → σ → Bool × σ) : List Nat → Bool → σ → Bool × σ
 | [],b,s=>(b,s)
 | x :: r,b,s=>if b = true then allS f r (f x s).1 (f x s).2 else allS f r false s
def winS (A B : Nat) (P Q : List Pd) : Nat → List Nat → List Nat → Mem → Bool × Mem
 | 0,xs,ys,es=>(fitB A B P Q xs ys,es)
 | r + 1,xs,ys,es => if fitB A B P Q xs ys = true then (match lkM (keyC xs ys (r + 1)) es 0 with
   | some (_,b)=>(b,es)
   | none=>
    let q1:=allS (fun x=>anyS (fun y=>winS A B P Q r (xs ++ [x]) (ys ++ [y])) (List.range B)) (List.range A) true es
    let q2:=allS (fun y=>anyS (fun x=>winS A B P Q r (xs ++ [x]) (ys ++ [y])) (List.range A)) (List.range B) q1.1 q1.2
    (q2.1,ptM (keyC xs ys (r + 1)) q2.1 q2.2))
  else (false,es)
def askC (A B : Nat) (P Q : List Pd) (c : List Int) : Bool:=
 winF A B P Q (c.getD 9 0).toNat (((c.drop 1).take (c.getD 0 0).toNat).map Int.toNat) (((c.drop 5).take (c.getD 0 0).toNat).map Int.toNat)
def MemOk (A B : Nat) (P Q : List Pd) (es : Mem) : Prop:=∀ p ∈ es,p.2 = askC A B P Q p.1
def KeysOk (es : Mem) : Prop:=∀ p ∈ es,p.1.length = 18 ∧ ∀ z ∈ p.1,0 ≤ z ∧ z ≤ 8
section
variable {A B : Nat} {P Q : List Pd}
theorem padI_len {l : List Nat} (h : l.length ≤ 4) : (padI l).length = 4:=by simp [padI];omega
theorem padI_get {l : List Nat} {i : Nat} (h : l.length ≤ 4) (hi : i < 4) : (padI l)[i]? = some ((at0 l i : Nat) : Int):=by
 unfold padI at0
 rw [List.getElem?_map,List.getElem?_append]
 split
 ·rename_i hl
  rw [List.getElem?_eq_getElem hl,List.getD_eq_getElem?_getD,List.getElem?_eq_getElem hl];rfl
 ·rename_i hl
  rw [List.getElem?_replicate,if_pos (by omega),List.getD_eq_getElem?_getD,List.getElem?_eq_none (by omega)];rfl
theorem padI_take {l : List Nat} : ((padI l).take l.length).map Int.toNat = l:=by
 unfold padI
 rw [← List.map_take,List.take_left' rfl,List.map_map]
 induction l with
 | nil=>rfl
 | cons a r ih=>simp [ih]
theorem keyC_len {xs ys : List Nat} {r : Nat} (hx : xs.length ≤ 4) (hy : ys.length ≤ 4) : (keyC xs ys r).length = 18:=by
 have h1:=padI_len hx
 have h2:=padI_len hy
 simp [keyC,posC,h1,h2]
theorem askC_key {xs ys : List Nat} {r : Nat} (hx : xs.length ≤ 4) (hy : ys.length = xs.length) : askC A B P Q (keyC xs ys r) = winF A B P Q r xs ys:=by
 have h1:=padI_len hx
 have h2:=padI_len (l:=ys) (by omega)
 have e9 : (keyC xs ys r).getD 9 0 = (r : Int):=by
  rw [List.getD_eq_getElem?_getD]
  unfold keyC posC
  rw [List.cons_append,List.getElem?_cons_succ,List.getElem?_append_right (by simp [h1,h2]),List.length_append,h1,h2];rfl
 have e0 : (keyC xs ys r).getD 0 0 = (xs.length : Int):=rfl
 unfold askC
 rw [e9,e0,Int.toNat_natCast,Int.toNat_natCast]
 congr 1
 ·unfold keyC posC
  rw [List.cons_append,List.drop_succ_cons,List.drop_zero,List.append_assoc,List.take_append_of_le_length (by omega),padI_take]
 ·unfold keyC posC
  rw [List.cons_append,List.drop_succ_cons,List.append_assoc,List.drop_left' h1,List.take_append_of_le_length (by omega),← hy,padI_take]
theorem lkM_mem {c : List Int} : ∀ {es : Mem} {i j : Nat} {b : Bool},lkM c es i = some (j,b) → (c,b) ∈ es ∧ i ≤ j ∧ es[j - i]? = some (c,b)
 | [],_,_,_,h=>by cases h
 | p :: es,i,j,b,h=>by
  unfold lkM at h
  split at h
  ·rename_i hc
   cases h
   subst hc
   simp
  ·obtain ⟨h1,h2,h3⟩ := lkM_mem h
   refine ⟨List.mem_cons_of_mem _ h1,by omega,?_⟩
   rw [show j - i = (j - (i + 1)) + 1 by omega,List.getElem?_cons_succ];exact h3
theorem ptM_mem {c : List Int} {b : Bool} {es : Mem} {p : List Int × Bool} (h : p ∈ ptM c b es) : p = (c,b) ∨ p ∈ es:=by
 unfold ptM at h
 split at h
 ·exact (List.mem_or_eq_of_mem_set h).symm
 ·rcases List.mem_append.1 h with h | h
  ·exact .inr h
  ·exact .inl (List.mem_singleton.1 h)
def Keeps (ok : Mem → Prop) (b : Bool) (q : Bool × Mem) : Prop:=q.1 = b ∧ ok q.2
theorem anyS_ok {ok : Mem → Prop} {f : Nat → Mem → Bool × Mem} {g : Nat → Bool} : ∀ {l : List Nat},(∀ y ∈ l,∀ es,ok es → Keeps ok (g y) (f y es)) → ∀ es,ok es → Keeps ok (l.any g) (anyS f l es)
 | [],_,es,h=>⟨rfl,h⟩
 | y :: r,hf,es,h=>by
  obtain ⟨h1,h2⟩:=hf y (by simp) es h
  unfold anyS
  rw [List.any_cons]
  cases hg : g y with
  | true=>rw [if_pos (h1.trans hg)];exact ⟨rfl,h2⟩
  | false=>rw [if_neg (by rw [h1,hg];simp),Bool.false_or];exact anyS_ok (fun z hz=>hf z (by simp [hz])) _ h2
theorem allS_ok {ok : Mem → Prop} {f : Nat → Mem → Bool × Mem} {g : Nat → Bool} : ∀ {l : List Nat},(∀ y ∈ l,∀ es,ok es → Keeps ok (g y) (f y es)) → ∀ b es,ok es → Keeps ok (b && l.all g) (allS f l b es)
 | [],_,b,es,h=>⟨(Bool.and_true b).symm,h⟩
 | y :: r,hf,b,es,h=>by
  unfold allS
  rw [List.all_cons]
  cases b with
  | true=>
   obtain ⟨h1,h2⟩:=hf y (by simp) es h
   rw [if_pos rfl,h1,Bool.true_and]
   exact allS_ok (fun z hz=>hf z (by simp [hz])) _ _ h2
  | false=>
   rw [if_neg (by simp),Bool.false_and]
   have:=allS_ok (l:=r) (fun z hz=>hf z (by simp [hz])) false es h
   rwa [Bool.false_and] at this
theorem winS_ok {ok : Mem → Prop} (hput : ∀ xs ys r es,xs.length ≤ 4 → ys.length = xs.length → (∀ x ∈ xs,x < A) → (∀ y ∈ ys,y < B) → r ≤ 4 → ok es → ok (ptM (keyC xs ys r) (winF A B P Q r xs ys) es)) (hget : ∀ es,ok es → MemOk A B P Q es) : ∀ (r : Nat) (xs ys : List Nat),xs.length + r ≤ 4 → ys.length = xs.length → (∀ x ∈ xs,x < A) → (∀ y ∈ ys,y < B) → ∀ es,ok es → Keeps ok (winF A B P Q r xs ys) (winS A B P Q r xs ys es)
 | 0,xs,ys,_,_,_,_,es,h=>⟨rfl,h⟩
 | r + 1,xs,ys,hx,hy,hA,hB,es,h=>by
  have hp:=hput xs ys (r + 1)
  have hk:=askC_key (A:=A) (B:=B) (P:=P) (Q:=Q) (xs:=xs) (ys:=ys) (r:=r + 1) (by omega) hy
  have hg:=hget es h
  have ih : ∀ x,x < A → ∀ y,y < B → ∀ es,ok es → Keeps ok (winF A B P Q r (xs ++ [x]) (ys ++ [y])) (winS A B P Q r (xs ++ [x]) (ys ++ [y]) es):=fun x hxA y hyB es h=>
   winS_ok hput hget r (xs ++ [x]) (ys ++ [y]) (by simp;omega) (by simp [hy]) (fun z hz=>by rcases List.mem_append.1 hz with h | h;exact hA z h;rw [List.mem_singleton.1 h];exact hxA) (fun z hz=>by rcases List.mem_append.1 hz with h | h;exact hB z h;rw [List.mem_singleton.1 h];exact hyB) es h
  obtain ⟨w,hw⟩ : ∃ w,winF A B P Q (r + 1) xs ys = w:=⟨_,rfl⟩
  have hw':=hw
  rw [winF] at hw
  rw [hw'] at hk hp ⊢
  unfold winS
  cases hf : fitB A B P Q xs ys with
  | false=>rw [if_neg (by simp)];rw [hf,Bool.false_and] at hw;exact ⟨hw,h⟩
  | true=>
   rw [if_pos rfl]
   rw [hf,Bool.true_and] at hw
   cases hl : lkM (keyC xs ys (r + 1)) es 0 with
   | some q=>
    obtain ⟨j,b⟩:=q
    have:=hg _ (lkM_mem hl).1
    exact ⟨by rw [← hk];exact this,h⟩
   | none=>
    dsimp only
    have a1:=allS_ok (ok:=ok) (l:=List.range A) (f:=fun x=>anyS (fun y=>winS A B P Q r (xs ++ [x]) (ys ++ [y])) (List.range B)) (g:=fun x=>(List.range B).any fun y=>winF A B P Q r (xs ++ [x]) (ys ++ [y]))
     (fun x hx es h=>anyS_ok (fun y hy es h=>ih x (List.mem_range.1 hx) y (List.mem_range.1 hy) es h) es h) true es h
    obtain ⟨a2,a3⟩:=a1
    generalize allS (fun x=>anyS (fun y=>winS A B P Q r (xs ++ [x]) (ys ++ [y])) (List.range B)) (List.range A) true es = q1 at *
    have b1:=allS_ok (ok:=ok) (l:=List.range B) (f:=fun y=>anyS (fun x=>winS A B P Q r (xs ++ [x]) (ys ++ [y])) (List.range A)) (g:=fun y=>(List.range A).any fun x=>winF A B P Q r (xs ++ [x]) (ys ++ [y]))
     (fun y hy es h=>anyS_ok (fun x hx es h=>ih x (List.mem_range.1 hx) y (List.mem_range.1 hy) es h) es h) q1.1 q1.2 a3
    obtain ⟨b2,b3⟩:=b1
    have b2:=b2.trans (show _ = w by rw [a2,Bool.true_and];exact hw)
    generalize allS (fun y=>anyS (fun x=>winS A B P Q r (xs ++ [x]) (ys ++ [y])) (List.range A)) (List.range B) q1.1 q1.2 = q2 at *
    refine ⟨b2,?_⟩
    dsimp only
    rw [b2]
    exact hp _ (by omega) hy hA hB (by omega) b3
end
def MemG (A B : Nat) (P Q : List Pd) (es : Mem) : Prop:=MemOk A B P Q es ∧ KeysOk es
theorem keyC_ok {A B : Nat} (hA : A ≤ 8) (hB : B ≤ 8) {xs ys : List Nat} {r : Nat} (hx : xs.length ≤ 4) (hy : ys.length = xs.length) (h1 : ∀ x ∈ xs,x < A) (h2 : ∀ y ∈ ys,y < B) (hr : r ≤ 4) : ∀ z ∈ keyC xs ys r,0 ≤ z ∧ z ≤ 8:=by
 intro z hz
 have pad : ∀ (l : List Nat),(∀ x ∈ l,x < 8) → z ∈ padI l → 0 ≤ z ∧ z ≤ 8:=by
  intro l hl h
  unfold padI at h
  obtain ⟨n,hn,rfl⟩:=List.mem_map.1 h
  rcases List.mem_append.1 hn with h | h
  ·have:=hl n h;omega
  ·have:=List.eq_of_mem_replicate h;omega
 unfold keyC posC at hz
 rcases List.mem_append.1 hz with h | h
 ·rcases List.mem_cons.1 h with rfl | h
  ·omega
  ·rcases List.mem_append.1 h with h | h
   ·exact pad _ (fun x hx=>by have:=h1 x hx;omega) h
   ·exact pad _ (fun x hx=>by have:=h2 x hx;omega) h
 ·rcases List.mem_cons.1 h with rfl | h
  ·omega
  ·have:=List.eq_of_mem_replicate h;omega
theorem winS_spec {A B : Nat} {P Q : List Pd} (hA : A ≤ 8) (hB : B ≤ 8) (r : Nat) (xs ys : List Nat) (hx : xs.length + r ≤ 4) (hy : ys.length = xs.length) (h1 : ∀ x ∈ xs,x < A) (h2 : ∀ y ∈ ys,y < B) (es : Mem) (h : MemG A B P Q es) :
  (winS A B P Q r xs ys es).1 = winF A B P Q r xs ys ∧ MemG A B P Q (winS A B P Q r xs ys es).2:=by
 refine winS_ok (ok:=MemG A B P Q) (fun xs ys r es hx hy h1 h2 hr h=>⟨fun p hp=>?_,fun p hp=>?_⟩) (fun es h=>h.1) r xs ys hx hy h1 h2 es h
 ·rcases ptM_mem hp with rfl | hp
  ·exact (askC_key hx hy).symm
  ·exact h.1 p hp
 ·rcases ptM_mem hp with rfl | hp
  ·exact ⟨keyC_len hx (by omega),keyC_ok hA hB hx hy h1 h2 hr⟩
  ·exact h.2 p hp
end Go.Proofs.Ytfhakdonenhnbaa
