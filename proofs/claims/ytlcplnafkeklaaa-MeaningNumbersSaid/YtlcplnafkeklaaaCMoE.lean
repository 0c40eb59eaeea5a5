import Derived.Test.YtlcplnafkeklaaaCMnW
import Derived.Test.YtlcplnafkeklaaaCMnA
set_option linter.unusedVariables false
set_option linter.unusedSimpArgs false
set_option maxRecDepth 100000
set_option maxHeartbeats 4000000
namespace Go.Proofs.Ytlcplnafkeklaaa
open Go Go.Pv
def wX : Wd:=.mk ⟨#[120]⟩ []
def wY : Wd:=.mk ⟨#[121]⟩ []
def sameX : Ex:=.mk 9 ⟨#[120]⟩ [] [.mk 9 ⟨#[121]⟩ [] [.mk 2 ⟨#[]⟩ [wX,wY] []]]
theorem callOK_softR {P : Program} {f : FuncId} {args : List PV} {v v' : PV} {s s' : Store} (h : CallOK P f args s v' s') (hs : Soft v v') : CallOK P f args s v s':=by
 intro pub σ w cargs hb ha
 refine (h pub σ w cargs hb ha).mono ?_
 rintro e w' ⟨cv,pub',σ',rfl,h1,h2⟩
 exact ⟨cv,pub',σ',rfl,h1,hs.rel h2⟩
def rawX : PV:=.agg [.int .i64 9,.str ⟨#[120]⟩,.nilsl,.list [[.int .i64 9,.str ⟨#[121]⟩,.nilsl,.list [[.int .i64 2,.str ⟨#[]⟩,.list [[.str ⟨#[120]⟩,.nilsl],[.str ⟨#[121]⟩,.nilsl]],.nilsl]]]]]
attribute [local irreducible] X
def x20 : XC:=.seq (.reg [⟨some 0,.alloc 29,none⟩]) (.seq (.reg [⟨some 2,.build 68 #[(0,.const (.string ⟨#[120]⟩))],none⟩,⟨some 3,.build 68 #[(0,.const (.string ⟨#[121]⟩))],none⟩,⟨some 4,.buildSlice 26 2 #[(0,.tmp 2),(1,.tmp 3)],none⟩,⟨some 1,.assign (.tmp 4),none⟩]) (.seq (.reg [⟨some 5,.move (.tmp 1),none⟩,⟨some 6,.build 29 #[(0,.const (.int .i64 2)),(2,.tmp 5)],none⟩,⟨some 7,.buildSlice 27 1 #[(0,.tmp 6)],none⟩,⟨some 8,.build 29 #[(0,.const (.int .i64 9)),(1,.const (.string ⟨#[121]⟩)),(3,.tmp 7)],none⟩,⟨some 9,.buildSlice 27 1 #[(0,.tmp 8)],none⟩,⟨some 10,.build 29 #[(0,.const (.int .i64 9)),(1,.const (.string ⟨#[120]⟩)),(3,.tmp 9)],none⟩,⟨none,.store 29 (.tmp 0) (.tmp 10),none⟩]) .ret))
@[simp] theorem x20_s {C e s K} : type_of% (@X_at C e s K _ _ x20.eq_1):=X_at x20.eq_1
def an20 : Ann:=⟨[],[],[]⟩
theorem fi20 : FI Try.prog 20 (cxA an20) x20 [.cell 0 29] Try.f20:=fiA Try.func20 mixed
theorem sameThings_raw : CallOK Try.prog 20 [] [] rawX []:=by
 unfold rawX
 refine fi20.op ?_
 (refine Sg.h ?_;try repeat' ((with_reducible first|refine brA ?_|refine brE fun _=>?_|refine spl ⟨?_,?_⟩<;>intro _)<;>((try simp -implicitDefEqProofs);(try simp -implicitDefEqProofs(disch:=first|assumption|(try simp only[lens]);omega -splitDisjunctions)))))
theorem sameThings_law : CallOK Try.prog 20 [] [] (.agg (exr sameX)) []:=by
 have e : exr sameX = [.int .i64 9,.str ⟨#[120]⟩,.list [],.list [[.int .i64 9,.str ⟨#[121]⟩,.list [],.list [[.int .i64 2,.str ⟨#[]⟩,.list [[.str ⟨#[120]⟩,.list []],[.str ⟨#[121]⟩,.list []]],.list []]]]]]:=by
  simp [sameX,wX,wY,exr,exrs,wrd,wrds]
 rw [e]
 refine callOK_softR sameThings_raw ?_
 unfold rawX
 exact .agg (.cons .refl (.cons .refl (.cons .nil (.cons (.list (.cons (.cons .refl (.cons .refl (.cons .nil (.cons (.list (.cons (.cons .refl (.cons .refl (.cons (.list (.cons (.cons .refl (.cons .nil .nil)) (.cons (.cons .refl (.cons .nil .nil)) .nil))) (.cons .nil .nil)))) .nil)) .nil)))) .nil)) .nil))))
set_option maxRecDepth 100000
theorem begun1 : valF ⟨1,[],[]⟩ sameX [] [] = (0,0) ∧ valB ⟨1,[],[]⟩ sameX [] [] = true:=⟨by kernel_rfl,by kernel_rfl⟩
theorem begun2 : valF ⟨2,[],[]⟩ sameX [] [] = (0,0) ∧ valB ⟨2,[],[]⟩ sameX [] [] = false:=⟨by kernel_rfl,by kernel_rfl⟩
def x6 : XC:=.seq (.reg [⟨some 0,.assign (.const (.bool false)),none⟩]) (.seq (.reg [⟨some 6,.build 25 #[(0,.const (.int .i64 1))],none⟩,⟨some 7,.call ⟨.value (.func 20),#[],#[]⟩,none⟩,⟨some 8,.call ⟨.value (.func 10),#[.tmp 6,.tmp 7,.const (.slice none 0 0),.const (.slice none 0 0)],#[25,29,30,31]⟩,none⟩,⟨some 5,.move (.tmp 8),none⟩,⟨some 9,.extract (.tmp 5) 0,none⟩,⟨some 10,.extract (.tmp 5) 1,none⟩,⟨some 2,.alloc 36,none⟩,⟨some 1,.assign (.tmp 9),none⟩,⟨none,.store 36 (.tmp 2) (.tmp 10),none⟩]) (.seq (.reg [⟨some 12,.build 25 #[(0,.const (.int .i64 2))],none⟩,⟨some 13,.call ⟨.value (.func 20),#[],#[]⟩,none⟩,⟨some 14,.call ⟨.value (.func 10),#[.tmp 12,.tmp 13,.const (.slice none 0 0),.const (.slice none 0 0)],#[25,29,30,31]⟩,none⟩,⟨some 11,.move (.tmp 14),none⟩,⟨some 15,.extract (.tmp 11) 0,none⟩,⟨some 16,.extract (.tmp 11) 1,none⟩,⟨some 4,.alloc 36,none⟩,⟨some 3,.assign (.tmp 15),none⟩,⟨none,.store 36 (.tmp 4) (.tmp 16),none⟩]) (.seq (.reg [⟨some 17,.fieldAddr 36 (.tmp 2) 0,none⟩,⟨some 18,.load 3 (.tmp 17),none⟩,⟨some 19,.binOp .eql 3 (.tmp 18) (.const (.int .i64 0)) 3,none⟩,⟨some 20,.move (.tmp 19),none⟩,⟨some 21,.fieldAddr 36 (.tmp 4) 0,some (some 20,true)⟩,⟨some 22,.load 3 (.tmp 21),some (some 20,true)⟩,⟨some 23,.binOp .eql 3 (.tmp 22) (.const (.int .i64 0)) 3,some (some 20,true)⟩,⟨some 24,.pick (.tmp 20) (.tmp 23) (.const (.bool false)),none⟩,⟨some 25,.move (.tmp 24),none⟩,⟨some 26,.move (.tmp 1),some (some 25,true)⟩,⟨some 27,.pick (.tmp 25) (.tmp 26) (.const (.bool false)),none⟩,⟨some 28,.move (.tmp 27),none⟩,⟨some 29,.move (.tmp 3),some (some 28,true)⟩,⟨some 30,.unOp .not 4 (.tmp 29),some (some 28,true)⟩,⟨some 31,.pick (.tmp 28) (.tmp 30) (.const (.bool false)),none⟩,⟨some 0,.assign (.tmp 31),none⟩]) .ret)))
@[simp] theorem x6_s {C e s K} : type_of% (@X_at C e s K _ _ x6.eq_1):=X_at x6.eq_1
def an6 : Ann:=⟨[],[],[]⟩
theorem fi6 : FI Try.prog 6 (cxA an6) x6 [.tmp 0] Try.f6:=fiA Try.func6 mixed
theorem meaningBegun_law : CallOK Try.prog 6 [] [] (.bool true) []:=by
 have h0:=sameThings_law
 have h1:=Value_meaning ⟨1,[],[]⟩ sameX [] []
 have h2:=Value_meaning ⟨2,[],[]⟩ sameX [] []
 rw [begun1.1,begun1.2] at h1
 rw [begun2.1,begun2.2] at h2
 have h1:=callOK_softA (args:=[.agg [.int .i64 1,.nilsl,.nilsl],.agg (exr sameX),.nilsl,.nilsl]) h1 (.cons (.agg (.cons .refl (.cons .nil (.cons .nil .nil)))) (.cons .refl (.cons .nil (.cons .nil .nil))))
 have h2:=callOK_softA (args:=[.agg [.int .i64 2,.nilsl,.nilsl],.agg (exr sameX),.nilsl,.nilsl]) h2 (.cons (.agg (.cons .refl (.cons .nil (.cons .nil .nil)))) (.cons .refl (.cons .nil (.cons .nil .nil))))
 generalize sameX = q at *
 refine fi6.op ?_
 (refine Sg.h ?_;try repeat' ((first|(with_reducible first|refine brA ?_|refine brE fun _=>?_|refine spl ⟨?_,?_⟩<;>intro _)|refine clo h0 ?_|refine clo h1 ?_|refine clo h2 ?_)<;>((try simp -implicitDefEqProofs);(try simp -implicitDefEqProofs(disch:=first|assumption|(try simp only[lens]);omega -splitDisjunctions)))))
end Go.Proofs.Ytlcplnafkeklaaa
namespace Go.Proofs.Ytlcplnafkeklaaa
open Go Go.Pv
theorem valF_iff {S : Stc} {e : Ex} {ns : List ByteArray} {vs : List Int} : (valF S e ns vs).1 = 0 ↔ ((stcF S).1 = 0 ∧ (checkX e).1 = 0 ∧ ns.length = vs.length ∧ ns.length ≤ 20 ∧ (namF S.n ns vs 0).1 = 0 ∧ exK S.funs S.preds [] e ns = true ∧ hugeF S.n (deepF e) = false):=by
 constructor
 ·intro h
  obtain ⟨a,b,c,d,e,f,g,_⟩:=valF_zero h
  exact ⟨a,b,c,d,e,f,g⟩
 ·rintro ⟨a,b,c,d,e,f,g⟩
  unfold valF
  rw [if_neg (fun h=>h a),if_neg (fun h=>h b),if_neg (by omega),if_neg (fun h=>h e),if_neg (by simp [f]),if_neg (by simp [g])]
end Go.Proofs.Ytlcplnafkeklaaa
namespace Go.Proofs.Ytlcplnafkeklaaa
open Go Go.Pv
def piV (N b v : Int) : Int:=(v + b) % N
def mvN (N b : Int) : Nat → Int → Int
 | 0,_=>0
 | a + 1,p=>piV N b (p % N) + N * mvN N b a (p / N)
section
variable {N b : Int}
theorem piV_range (h : 0 < N) (v : Int) : 0 ≤ piV N b v ∧ piV N b v < N:=⟨Int.emod_nonneg _ (by omega),Int.emod_lt_of_pos _ h⟩
theorem piV_inj (h : 0 < N) {u v : Int} (h1 : 0 ≤ u ∧ u < N) (h2 : 0 ≤ v ∧ v < N) (he : piV N b u = piV N b v) : u = v:=by
 unfold piV at he
 have:=(Int.emod_add_cancel_right b).1 he
 rw [Int.emod_eq_of_lt h1.1 h1.2,Int.emod_eq_of_lt h2.1 h2.2] at this
 exact this
theorem mvN_range (h : 0 < N) : ∀ (a : Nat) (p : Int),0 ≤ mvN N b a p ∧ mvN N b a p < N ^ a
 | 0,p=>by rw [mvN];simp
 | a + 1,p=>by
  have ih:=mvN_range h a (p / N)
  have h1:=piV_range (b:=b) h (p % N)
  rw [mvN,Int.pow_succ]
  have e1 : 0 ≤ N * mvN N b a (p / N):=Int.mul_nonneg (by omega) ih.1
  have e2 : N * (mvN N b a (p / N) + 1) ≤ N * N ^ a:=Int.mul_le_mul_of_nonneg_left (by omega) (by omega)
  rw [Int.mul_add,Int.mul_one] at e2
  rw [Int.mul_comm (N ^ a)]
  omega
theorem split_inj (h : 0 < N) {x y u v : Int} (hx : 0 ≤ x ∧ x < N) (hu : 0 ≤ u ∧ u < N) (he : x + N * y = u + N * v) : x = u ∧ y = v:=by
 have h1 : x = u:=by
  have:=congrArg (· % N) he
  rw [Int.add_mul_emod_self_left,Int.add_mul_emod_self_left,Int.emod_eq_of_lt hx.1 hx.2,Int.emod_eq_of_lt hu.1 hu.2] at this
  exact this
 refine ⟨h1,?_⟩
 subst h1
 have : N * y = N * v:=by omega
 exact Int.eq_of_mul_eq_mul_left (by omega) this
theorem mvN_inj (h : 0 < N) : ∀ (a : Nat) (p q : Int),0 ≤ p → p < N ^ a → 0 ≤ q → q < N ^ a → mvN N b a p = mvN N b a q → p = q
 | 0,p,q,h1,h2,h3,h4,_=>by rw [Int.pow_zero] at h2 h4;omega
 | a + 1,p,q,h1,h2,h3,h4,he=>by
  rw [mvN,mvN] at he
  obtain ⟨e1,e2⟩:=split_inj h (piV_range h _) (piV_range h _) he
  have m1:=piV_inj h ⟨Int.emod_nonneg p (by omega),Int.emod_lt_of_pos p h⟩ ⟨Int.emod_nonneg q (by omega),Int.emod_lt_of_pos q h⟩ e1
  rw [Int.pow_succ] at h2 h4
  have m2:=mvN_inj h a (p / N) (q / N) (Int.ediv_nonneg h1 (by omega)) (Int.ediv_lt_of_lt_mul h h2) (Int.ediv_nonneg h3 (by omega)) (Int.ediv_lt_of_lt_mul h h4) e2
  rw [← Int.emod_add_mul_ediv p N,← Int.emod_add_mul_ediv q N,m1,m2]
end
def putAll {α : Type} (z : α) (m : Nat → Nat) (g : Nat → α) (len : Nat) : Nat → List α
 | 0=>List.replicate len z
 | k + 1=>(putAll z m g len k).set (m k) (g k)
theorem putAll_len {α : Type} {z : α} {m : Nat → Nat} {g : Nat → α} {len : Nat} : ∀ k,(putAll z m g len k).length = len
 | 0=>by rw [putAll,List.length_replicate]
 | k + 1=>by rw [putAll,List.length_set,putAll_len k]
theorem putAll_get {α : Type} {z : α} {m : Nat → Nat} {g : Nat → α} {len : Nat} (hm : ∀ j,j < len → m j < len) (hi : ∀ i j,i < len → j < len → m i = m j → i = j) : ∀ k,k ≤ len → ∀ j,j < k → (putAll z m g len k)[m j]? = some (g j)
 | 0,_,j,hj=>absurd hj (by omega)
 | k + 1,hk,j,hj=>by
  rw [putAll]
  by_cases he : j = k
  ·subst he
   rw [List.getElem?_set_self (by rw [putAll_len];exact hm j (by omega))]
  ·rw [List.getElem?_set_ne (fun g => he (hi k j (by omega) (by omega) g).symm)]
   exact putAll_get hm hi k (by omega) j (by omega)
theorem putAll_mem {α : Type} {z : α} {m : Nat → Nat} {g : Nat → α} {len : Nat} : ∀ k,∀ x ∈ putAll z m g len k,x = z ∨ ∃ j,j < k ∧ x = g j
 | 0,x,hx=>.inl (List.eq_of_mem_replicate (by rw [putAll] at hx;exact hx))
 | k + 1,x,hx=>by
  rw [putAll] at hx
  rcases List.mem_or_eq_of_mem_set hx with h | h
  ·rcases putAll_mem k x h with h | ⟨j,h1,h2⟩
   ·exact .inl h
   ·exact .inr ⟨j,by omega,h2⟩
  ·exact .inr ⟨k,by omega,h⟩
def mvK (N b : Int) (a : Nat) (j : Nat) : Nat:=(mvN N b a (j : Int)).toNat
def renT (N b : Int) (a : Nat) (T : List Int) : List Int:=putAll 0 (mvK N b a) (fun j=>piV N b (T.getD j 0)) T.length T.length
def renB (N b : Int) (a : Nat) (T : List Bool) : List Bool:=putAll false (mvK N b a) (fun j=>T.getD j false) T.length T.length
def renFn (N b : Int) (f : Fn) : Fn:=⟨f.name,f.ar,renT N b f.ar.toNat f.tab⟩
def renPd (N b : Int) (f : Pd) : Pd:=⟨f.name,f.ar,renB N b f.ar.toNat f.bits⟩
def renS (b : Int) (S : Stc) : Stc:=⟨S.n,S.funs.map (renFn S.n b),S.preds.map (renPd S.n b)⟩
section
variable {N b : Int}
theorem mvK_lt (h : 0 < N) {a len : Nat} (hl : (len : Int) = N ^ a) (j : Nat) : mvK N b a j < len:=by
 have:=mvN_range (b:=b) h a (j : Int)
 unfold mvK
 omega
theorem mvK_inj (h : 0 < N) {a len : Nat} (hl : (len : Int) = N ^ a) (i j : Nat) (hi : i < len) (hj : j < len) (he : mvK N b a i = mvK N b a j) : i = j:=by
 have h1:=mvN_range (b:=b) h a (i : Int)
 have h2:=mvN_range (b:=b) h a (j : Int)
 unfold mvK at he
 have:=mvN_inj (b:=b) h a (i : Int) (j : Int) (by omega) (by omega) (by omega) (by omega) (by omega)
 omega
theorem renT_get (h : 0 < N) {a : Nat} {T : List Int} (hl : (T.length : Int) = N ^ a) {p : Int} (h0 : 0 ≤ p) (h1 : p < N ^ a) : (renT N b a T).getD (mvN N b a p).toNat 0 = piV N b (T.getD p.toNat 0):=by
 have:=putAll_get (z:=0) (g:=fun j=>piV N b (T.getD j 0)) (fun j _=>mvK_lt (b:=b) h hl j) (fun i j=>mvK_inj h hl i j) T.length (Nat.le_refl _) p.toNat (by omega)
 rw [List.getD_eq_getElem?_getD]
 unfold renT
 rw [show (mvN N b a p).toNat = mvK N b a p.toNat by unfold mvK;rw [Int.toNat_of_nonneg h0],this]
 rfl
theorem renB_get (h : 0 < N) {a : Nat} {T : List Bool} (hl : (T.length : Int) = N ^ a) {p : Int} (h0 : 0 ≤ p) (h1 : p < N ^ a) : (renB N b a T).getD (mvN N b a p).toNat false = T.getD p.toNat false:=by
 have:=putAll_get (z:=false) (g:=fun j=>T.getD j false) (fun j _=>mvK_lt (b:=b) h hl j) (fun i j=>mvK_inj h hl i j) T.length (Nat.le_refl _) p.toNat (by omega)
 rw [List.getD_eq_getElem?_getD]
 unfold renB
 rw [show (mvN N b a p).toNat = mvK N b a p.toNat by unfold mvK;rw [Int.toNat_of_nonneg h0],this]
 rfl
theorem ren_tabF (h : 0 < N) {f : Fn} (hf : tabF N f = 0) : tabF N (renFn N b f) = 0:=by
 obtain ⟨t1,t2,t3,t4⟩:=tabF_zero hf
 unfold tabF renFn
 dsimp only
 rw [if_neg (by omega),if_neg (by unfold renT;rw [putAll_len];exact fun g=>g t3),if_neg]
 rw [List.any_eq_true]
 rintro ⟨x,hx,hd⟩
 have hd:=of_decide_eq_true hd
 rcases putAll_mem _ x hx with rfl | ⟨j,_,rfl⟩
 ·omega
 ·have:=piV_range (b:=b) h (f.tab.getD j 0);omega
theorem ren_bitF {f : Pd} (hf : bitF N f = 0) : bitF N (renPd N b f) = 0:=by
 obtain ⟨t1,t2,t3⟩:=bitF_zero hf
 unfold bitF renPd
 dsimp only
 rw [if_neg (by omega),if_neg (by unfold renB;rw [putAll_len];exact fun g=>g t3)]
theorem funsF_map {g : Fn → Fn} (hg : ∀ f,(g f).name = f.name) (ht : ∀ f,tabF N f = 0 → tabF N (g f) = 0) : ∀ (r pre : List Fn) (i : Nat),(funsF N pre r i).1 = 0 → (funsF N (pre.map g) (r.map g) i).1 = 0
 | [],pre,i,_=>by rw [List.map_nil,funsF]
 | f :: r,pre,i,h=>by
  rw [funsF] at h
  rw [List.map_cons,funsF,hg]
  have e : ((pre.map g).any fun q=>decide (q.name = f.name)) = pre.any fun q=>decide (q.name = f.name):=by
   rw [List.any_map];congr 1;funext q;simp [hg]
  rw [e]
  split at h
  ·exact absurd h (fun g=>by cases g)
  rename_i h1
  rw [if_neg h1]
  split at h
  ·rename_i h2;exact absurd h h2
  rename_i h2
  rw [if_neg (fun g=>g (ht f (Decidable.not_not.1 h2)))]
  have:=funsF_map hg ht r (pre ++ [f]) (i + 1) h
  rw [List.map_append] at this
  exact this
theorem predsF_map {g : Pd → Pd} (hg : ∀ f,(g f).name = f.name) (ht : ∀ f,bitF N f = 0 → bitF N (g f) = 0) : ∀ (r pre : List Pd) (i : Nat),(predsF N pre r i).1 = 0 → (predsF N (pre.map g) (r.map g) i).1 = 0
 | [],pre,i,_=>by rw [List.map_nil,predsF]
 | f :: r,pre,i,h=>by
  rw [predsF] at h
  rw [List.map_cons,predsF,hg]
  have e : ((pre.map g).any fun q=>decide (q.name = f.name)) = pre.any fun q=>decide (q.name = f.name):=by
   rw [List.any_map];congr 1;funext q;simp [hg]
  rw [e]
  split at h
  ·exact absurd h (fun g=>by cases g)
  rename_i h1
  rw [if_neg h1]
  split at h
  ·rename_i h2;exact absurd h h2
  rename_i h2
  rw [if_neg (fun g=>g (ht f (Decidable.not_not.1 h2)))]
  have:=predsF_map hg ht r (pre ++ [f]) (i + 1) h
  rw [List.map_append] at this
  exact this
theorem ren_stcF {S : Stc} (h : (stcF S).1 = 0) : (stcF (renS b S)).1 = 0:=by
 obtain ⟨s0,_⟩:=stcF_zero h
 unfold stcF at h ⊢
 unfold renS
 dsimp only
 rw [List.length_map,List.length_map]
 split at h
 ·exact absurd h (fun g=>by cases g)
 rename_i h1
 rw [if_neg h1]
 split at h
 ·rename_i h2;exact absurd h h2
 rename_i h2
 have a:=funsF_map (N:=S.n) (g:=renFn S.n b) (fun _=>rfl) (fun f=>ren_tabF s0) S.funs [] 0 (Decidable.not_not.1 h2)
 have c:=predsF_map (N:=S.n) (g:=renPd S.n b) (fun _=>rfl) (fun f=>ren_bitF) S.preds [] S.funs.length h
 rw [List.map_nil] at a c
 rw [if_neg (fun g=>g a)]
 exact c
theorem funAt_ren (x : ByteArray) (F : List Fn) : funAt x (F.map (renFn N b)) = (funAt x F).map (renFn N b):=by
 unfold funAt
 rw [List.find?_map]
 rfl
theorem predAt_ren (x : ByteArray) (P : List Pd) : predAt x (P.map (renPd N b)) = (predAt x P).map (renPd N b):=by
 unfold predAt
 rw [List.find?_map]
 rfl
theorem any_map_fn (o : Option Fn) (c : Int) : (o.map (renFn N b)).any (fun f=>decide (f.ar = c)) = o.any fun f=>decide (f.ar = c):=by cases o <;> rfl
theorem any_map_pd (o : Option Pd) (c : Int) : (o.map (renPd N b)).any (fun f=>decide (f.ar = c)) = o.any fun f=>decide (f.ar = c):=by cases o <;> rfl
theorem kwF_ren {F : List Fn} {L : Ev} {B : List ByteArray} (w : Wd) : kwF (F.map (renFn N b)) L B w = kwF F L B w:=by
 induction w using Wd.ind with
 | h w ih=>
  rw [kwF_eq,kwF_eq,kwsF_all,kwsF_all,funAt_ren,any_map_fn]
  have : w.args.all (kwF (F.map (renFn N b)) L B) = w.args.all (kwF F L B):=by
   rw [Bool.eq_iff_iff,List.all_eq_true,List.all_eq_true]
   exact ⟨fun h x hx=>(ih x hx) ▸ h x hx,fun h x hx=>(ih x hx).symm ▸ h x hx⟩
  rw [this]
theorem exK_ren {F : List Fn} {P : List Pd} {L : Ev} (e : Ex) : ∀ B,exK (F.map (renFn N b)) (P.map (renPd N b)) L e B = exK F P L e B:=by
 induction e using Ex.ind with
 | h e ih=>
  intro B
  rw [exK_eq,exK_eq,kwsF_all,kwsF_all,exsK_all,exsK_all,predAt_ren,any_map_pd]
  have h1 : e.words.all (kwF (F.map (renFn N b)) L B) = e.words.all (kwF F L B):=by
   rw [Bool.eq_iff_iff,List.all_eq_true,List.all_eq_true]
   exact ⟨fun h x hx=>(kwF_ren x) ▸ h x hx,fun h x hx=>(kwF_ren x).symm ▸ h x hx⟩
  have h2 : (e.kids.all fun q=>exK (F.map (renFn N b)) (P.map (renPd N b)) L q (bindB e.k e.nm B)) = e.kids.all fun q=>exK F P L q (bindB e.k e.nm B):=by
   rw [Bool.eq_iff_iff,List.all_eq_true,List.all_eq_true]
   exact ⟨fun h x hx=>(ih x hx _) ▸ h x hx,fun h x hx=>(ih x hx _).symm ▸ h x hx⟩
  rw [h1,h2]
theorem place_ren {F F' : List Fn} {E E' : ByteArray → Int} (h : 0 < N) : ∀ {l : List Wd},(∀ w ∈ l,0 ≤ wordV N F E w ∧ wordV N F E w < N ∧ wordV N F' E' w = piV N b (wordV N F E w)) → placeV N F' E' l = mvN N b l.length (placeV N F E l)
 | [],_=>by rw [placeV];rfl
 | w :: r,hl=>by
  have h1:=hl w (by simp)
  rw [placeV,placeV,place_ren h fun w hw=>hl w (by simp [hw]),h1.2.2,List.length_cons,mvN]
  have e1 : (placeV N F E r * N + wordV N F E w) % N = wordV N F E w:=by
   rw [Int.add_comm,Int.add_mul_emod_self_right,Int.emod_eq_of_lt h1.1 h1.2.1]
  have e2 : (placeV N F E r * N + wordV N F E w) / N = placeV N F E r:=by
   rw [Int.add_comm,Int.add_mul_ediv_right _ _ (by omega),Int.ediv_eq_zero_of_lt h1.1 h1.2.1,Int.zero_add]
  rw [e1,e2,Int.mul_comm,Int.add_comm]
theorem word_ren {F : List Fn} (h : 0 < N) (hF : FunsOk N F) {B : List ByteArray} {E E' : ByteArray → Int} (hE : ∀ x,(B.any fun y=>decide (x = y)) = true → 0 ≤ E x ∧ E x < N ∧ E' x = piV N b (E x)) (w : Wd) (hk : kwF F [] B w = true) : 0 ≤ wordV N F E w ∧ wordV N F E w < N ∧ wordV N (F.map (renFn N b)) E' w = piV N b (wordV N F E w):=by
 induction w using Wd.ind with
 | h w ih=>
  rw [kwF_eq] at hk
  rw [wordV_eq,wordV_eq]
  by_cases hn : isNameB w.nm = true
  ·rw [if_pos hn] at hk ⊢
   rw [if_pos hn]
   exact hE _ (by simpa [lookI] using hk)
  ·rw [if_neg hn,Bool.and_eq_true,kwsF_all] at hk
   have hall:=List.all_eq_true.1 hk.2
   have ih:=fun a ha=>ih a ha (hall a ha)
   rw [if_neg hn,if_neg hn,funAt_ren]
   cases hf : funAt w.nm F with
   | none=>rw [hf] at hk;exact absurd hk.1 (by simp)
   | some f=>
    rw [hf] at hk
    have har : f.ar = (w.args.length : Int):=by simpa using hk.1
    obtain ⟨t1,t2,t3,t4⟩:=tabF_zero (hF f (funAt_mem hf))
    rw [har,Int.toNat_natCast] at t3
    have hp:=place_range h (E:=E) (l:=w.args) fun a ha=>⟨(ih a ha).1,(ih a ha).2.1⟩
    rw [Option.map_some,Option.getD_some,Option.getD_some,place_ren h ih]
    have hl : (placeV N F E w.args).toNat < f.tab.length:=by omega
    have hr:=renT_get (b:=b) h t3 hp.1 hp.2
    unfold renFn
    dsimp only
    rw [har,Int.toNat_natCast,hr]
    have hm : f.tab.getD (placeV N F E w.args).toNat 0 ∈ f.tab:=by
     rw [List.getD_eq_getElem?_getD,List.getElem?_eq_getElem hl]
     exact List.getElem_mem hl
    exact ⟨(t4 _ hm).1,(t4 _ hm).2,rfl⟩
theorem range_pi (h : 0 < N) {p q : Int → Bool} (hpq : ∀ x,0 ≤ x → x < N → q (piV N b x) = p x) : ((List.range N.toNat).all fun x=>q (x : Int)) = ((List.range N.toNat).all fun x=>p (x : Int)) ∧ ((List.range N.toNat).any fun x=>q (x : Int)) = ((List.range N.toNat).any fun x=>p (x : Int)):=by
 have onto : ∀ y : Int,0 ≤ y → y < N → ∃ x,0 ≤ x ∧ x < N ∧ piV N b x = y:=by
  intro y h0 h1
  refine ⟨(y - b) % N,Int.emod_nonneg _ (by omega),Int.emod_lt_of_pos _ h,?_⟩
  unfold piV
  rw [Int.emod_add_emod,Int.sub_add_cancel,Int.emod_eq_of_lt h0 h1]
 constructor
 ·rw [Bool.eq_iff_iff,List.all_eq_true,List.all_eq_true]
  constructor
  ·intro hq x hx
   rw [List.mem_range] at hx
   have hr:=piV_range (b:=b) h (x : Int)
   have:=hq (piV N b (x : Int)).toNat (by rw [List.mem_range];omega)
   rw [Int.toNat_of_nonneg hr.1,hpq _ (by omega) (by omega)] at this
   exact this
  ·intro hp x hx
   rw [List.mem_range] at hx
   obtain ⟨y,h0,h1,h2⟩:=onto (x : Int) (by omega) (by omega)
   have:=hp y.toNat (by rw [List.mem_range];omega)
   rw [Int.toNat_of_nonneg h0,← hpq y h0 h1,h2] at this
   exact this
 ·rw [Bool.eq_iff_iff,List.any_eq_true,List.any_eq_true]
  constructor
  ·rintro ⟨x,hx,hq⟩
   rw [List.mem_range] at hx
   obtain ⟨y,h0,h1,h2⟩:=onto (x : Int) (by omega) (by omega)
   refine ⟨y.toNat,by rw [List.mem_range];omega,?_⟩
   rw [Int.toNat_of_nonneg h0,← hpq y h0 h1,h2]
   exact hq
  ·rintro ⟨x,hx,hp⟩
   rw [List.mem_range] at hx
   have hr:=piV_range (b:=b) h (x : Int)
   refine ⟨(piV N b (x : Int)).toNat,by rw [List.mem_range];omega,?_⟩
   rw [Int.toNat_of_nonneg hr.1,hpq _ (by omega) (by omega)]
   exact hp
theorem val_ren {F : List Fn} {P : List Pd} (h : 0 < N) (hF : FunsOk N F) (hP : PredsOk N P) (e : Ex) : ∀ (B : List ByteArray) (E E' : ByteArray → Int),exK F P [] e B = true → exOk F P e = true → (∀ x,(B.any fun y => decide (x = y)) = true → 0 ≤ E x ∧ E x < N ∧ E' x = piV N b (E x)) →
  valV N (F.map (renFn N b)) (P.map (renPd N b)) e E' = valV N F P e E:=by
 induction e using Ex.ind with
 | h e ih=>
  intro B E E' hk hok hE
  rw [exK_eq,Bool.and_eq_true,Bool.and_eq_true,kwsF_all,exsK_all] at hk
  obtain ⟨⟨hk1,hkw⟩,hkk⟩:=hk
  rw [exOk_eq,Bool.and_eq_true,exsOk_all] at hok
  obtain ⟨hh,hks⟩:=hok
  unfold exH at hh
  rw [Bool.and_eq_true,Bool.and_eq_true] at hh
  obtain ⟨⟨hws,hsh⟩,hpr⟩:=hh
  obtain ⟨j1,j10,hkc,hw2⟩:=of_decide_eq_true hsh
  have hkw:=List.all_eq_true.1 hkw
  have hkk:=List.all_eq_true.1 hkk
  have hks:=List.all_eq_true.1 hks
  have hw:=fun w hw=>word_ren h hF hE w (hkw w hw)
  rw [valV_eq,valV_eq]
  unfold valH
  have kid : ∀ i E E',(∀ x,((bindB e.k e.nm B).any fun y=>decide (x = y)) = true → 0 ≤ E x ∧ E x < N ∧ E' x = piV N b (E x)) → ((e.kids.map (valV N (F.map (renFn N b)) (P.map (renPd N b)))).getD i fun _=>false) E' = ((e.kids.map (valV N F P)).getD i fun _=>false) E:=by
   intro i E E' hE
   rw [List.getD_eq_getElem?_getD,List.getD_eq_getElem?_getD,List.getElem?_map,List.getElem?_map]
   by_cases hi : i < e.kids.length
   ·rw [List.getElem?_eq_getElem hi]
    have hm:=List.getElem_mem hi
    exact ih _ hm _ E E' (hkk _ hm) (hks _ hm) hE
   ·rw [List.getElem?_eq_none (by omega)];rfl
  by_cases k1 : e.k = 1
  ·rw [if_pos k1,if_pos k1,predAt_ren]
   rw [decide_eq_true k1,Bool.not_true,Bool.false_or] at hpr
   cases hp : predAt e.nm P with
   | none=>rw [hp] at hpr;exact absurd hpr (by simp)
   | some p=>
    rw [hp] at hpr
    have har : p.ar = (e.words.length : Int):=by simpa using hpr
    obtain ⟨p1,p2,p3⟩:=bitF_zero (hP p (predAt_mem hp))
    rw [har,Int.toNat_natCast] at p3
    have hpl:=place_range h (E:=E) (l:=e.words) fun a ha=>⟨(hw a ha).1,(hw a ha).2.1⟩
    rw [Option.map_some,Option.getD_some,Option.getD_some,place_ren h hw]
    have hr:=renB_get (b:=b) h p3 hpl.1 hpl.2
    unfold renPd
    dsimp only
    rw [har,Int.toNat_natCast,hr]
  rw [if_neg k1,if_neg k1]
  by_cases k2 : e.k = 2
  ·rw [if_pos k2,if_pos k2]
   obtain ⟨x,y,hxy⟩ : ∃ x y,e.words = [x,y]:=by
    match h : e.words,hw2 k2 with
    | [a,c],_=>exact ⟨a,c,rfl⟩
   rw [hxy] at hw ⊢
   simp only [List.getD_cons_zero,List.getD_cons_succ]
   have hx:=hw x (by simp)
   have hy:=hw y (by simp)
   rw [hx.2.2,hy.2.2]
   congr 1
   exact propext ⟨fun g=>piV_inj h ⟨hx.1,hx.2.1⟩ ⟨hy.1,hy.2.1⟩ g,fun g=>by rw [g]⟩
  rw [if_neg k2,if_neg k2]
  by_cases k910 : e.k = 9 ∨ e.k = 10
  ·have hq := range_pi (b := b) h (p := fun x => ((e.kids.map (valV N F P)).getD 0 fun _ => false) (updE E e.nm x)) (q := fun x => ((e.kids.map (valV N (F.map (renFn N b)) (P.map (renPd N b)))).getD 0 fun _ => false) (updE E' e.nm x)) (fun x h0 h1 => by
    refine kid 0 _ _ fun y hy=>?_
    rw [bindB,if_pos k910,List.any_append,Bool.or_eq_true] at hy
    unfold updE
    by_cases hyn : y = e.nm
    ·rw [if_pos hyn,if_pos hyn]
     exact ⟨h0,h1,rfl⟩
    ·rw [if_neg hyn,if_neg hyn]
     refine hE y (hy.resolve_right ?_)
     simp [hyn])
   simp only [if_neg (show ¬ e.k = 3 by omega),if_neg (show ¬ e.k = 5 by omega),if_neg (show ¬ e.k = 6 by omega),if_neg (show ¬ e.k = 7 by omega),if_neg (show ¬ e.k = 8 by omega)]
   by_cases k9 : e.k = 9
   ·rw [if_pos k9,if_pos k9];exact hq.1
   ·rw [if_neg k9,if_neg k9,if_pos (by omega),if_pos (by omega)];exact hq.2
  ·have hB : bindB e.k e.nm B = B := by rw [bindB,if_neg k910]
   rw [hB] at kid
   rw [kid 0 E E' hE,kid 1 E E' hE]
   simp only [if_neg (show ¬ e.k = 9 by omega),if_neg (show ¬ e.k = 10 by omega)]
theorem lastI_map {g : Int → Int} (x : ByteArray) : ∀ (ns : List ByteArray) (vs : List Int),lastI x ns (vs.map g) = (lastI x ns vs).map g
 | [],_=>by rw [lastI,lastI];rfl;all_goals simp
 | n :: r,[]=>rfl
 | n :: r,v :: q=>by
  rw [List.map_cons,lastI,lastI,lastI_map x r q]
  cases lastI x r q with
  | some m=>rfl
  | none=>
   dsimp only [Option.map_none]
   split <;> rfl
theorem namF_ren (h : 0 < N) : ∀ (ns : List ByteArray) (vs : List Int) (i : Nat),(namF N ns vs i).1 = 0 → (namF N ns (vs.map (piV N b)) i).1 = 0
 | [],vs,i,_=>by rw [namF];simp
 | n :: r,[],i,_=>rfl
 | n :: r,v :: q,i,hz=>by
  rw [namF] at hz
  rw [List.map_cons,namF]
  split at hz
  ·exact absurd hz (fun g=>by cases g)
  rename_i h1
  split at hz
  ·exact absurd hz (fun g=>by cases g)
  rw [if_neg h1,if_neg (by have:=piV_range (b:=b) h v;omega)]
  exact namF_ren h r q (i + 1) hz
theorem numbers {S : Stc} {e : Ex} {ns : List ByteArray} {vs : List Int} (hz : (valF S e ns vs).1 = 0) : valF (renS b S) e ns (vs.map (piV S.n b)) = (0,0) ∧ valB (renS b S) e ns (vs.map (piV S.n b)) = valB S e ns vs:=by
 obtain ⟨z1,z2,z3,z4,z5,z6,z7⟩:=valF_iff.1 hz
 obtain ⟨s0,s8,sF,sP,snF,snP,sOF,sOP,sz⟩:=stcF_zero z1
 obtain ⟨en,eo⟩:=checkM_ok z2
 have hz' : (valF (renS b S) e ns (vs.map (piV S.n b))).1 = 0:=by
  rw [valF_iff]
  refine ⟨ren_stcF z1,z2,by rw [List.length_map];exact z3,z4,namF_ren s0 ns vs 0 z5,?_,z7⟩
  unfold renS
  dsimp only
  rw [exK_ren]
  exact z6
 refine ⟨(valF_zero hz').2.2.2.2.2.2.2,?_⟩
 rw [valB,valB,if_pos hz,if_pos hz']
 have hrg:=namF_zero z3 z5
 unfold renS
 dsimp only
 refine val_ren s0 sOF sOP e ns _ _ z6 (exK_ok e eo ns z6) fun x hx=>?_
 rw [← lastI_some z3] at hx
 unfold envLs
 rw [lastI_map]
 cases hl : lastI x ns vs with
 | none=>rw [hl] at hx;cases hx
 | some m=>exact ⟨(lastI_range hrg m hl).1,(lastI_range hrg m hl).2,rfl⟩
end
end Go.Proofs.Ytlcplnafkeklaaa
namespace Go.Proofs.Ytlcplnafkeklaaa
open Go Go.Pv
def x44_T1 : XC:=.seq (.reg [⟨some 36,.move (.tmp 7),none⟩,⟨some 6,.assign (.tmp 36),none⟩]) .ret
def x44_L0 : XC:=.seq (.seq (.reg [⟨some 10,.move (.tmp 9),none⟩,⟨some 11,.move (.tmp 1),none⟩,⟨some 12,.binOp .lss 3 (.tmp 10) (.tmp 11) 3,none⟩]) (.cond (.tmp 12) .skip (.exit 0))) (.seq (.block 1 (.seq (.drawn 6 [⟨some 15,.move (.tmp 7),none⟩,⟨some 16,.move (.tmp 0),none⟩,⟨some 17,.fieldAddr 25 (.tmp 2) 0,none⟩,⟨some 18,.load 3 (.tmp 17),none⟩,⟨some 19,.binOp .rem 3 (.tmp 16) (.tmp 18) 3,none⟩,⟨some 20,.load 3 (.tmp 3),none⟩,⟨some 21,.binOp .add 3 (.tmp 19) (.tmp 20) 3,none⟩,⟨some 22,.fieldAddr 25 (.tmp 2) 0,none⟩,⟨some 23,.load 3 (.tmp 22),none⟩,⟨some 24,.binOp .rem 3 (.tmp 21) (.tmp 23) 3,none⟩,⟨some 25,.move (.tmp 8),none⟩,⟨some 26,.binOp .mul 3 (.tmp 24) (.tmp 25) 3,none⟩,⟨some 27,.binOp .add 3 (.tmp 15) (.tmp 26) 3,none⟩,⟨some 7,.assign (.tmp 27),none⟩]) (.seq (.reg [⟨some 28,.move (.tmp 0),none⟩,⟨some 29,.fieldAddr 25 (.tmp 2) 0,none⟩,⟨some 30,.load 3 (.tmp 29),none⟩,⟨some 31,.binOp .quo 3 (.tmp 28) (.tmp 30) 3,none⟩,⟨some 0,.assign (.tmp 31),none⟩]) (.reg [⟨some 32,.move (.tmp 8),none⟩,⟨some 33,.fieldAddr 25 (.tmp 2) 0,none⟩,⟨some 34,.load 3 (.tmp 33),none⟩,⟨some 35,.binOp .mul 3 (.tmp 32) (.tmp 34) 3,none⟩,⟨some 8,.assign (.tmp 35),none⟩])))) (.reg [⟨some 13,.move (.tmp 9),none⟩,⟨some 14,.binOp .add 3 (.tmp 13) (.const (.int .i64 1)) 3,none⟩,⟨some 9,.assign (.tmp 14),none⟩]))
def x44 : XC:=.seq (.reg [⟨some 6,.assign (.const (.int .i64 0)),none⟩]) (.seq (.reg [⟨some 7,.assign (.const (.int .i64 0)),none⟩]) (.seq (.reg [⟨some 8,.assign (.const (.int .i64 1)),none⟩]) (.seq (.seq (.reg [⟨some 9,.assign (.const (.int .i64 0)),none⟩]) (.bloop 0 x44_L0)) (x44_T1))))
@[simp] theorem x44_s {C e s K} : type_of% (@X_at C e s K _ _ x44_T1.eq_1) ∧ type_of% (@X_at C e s K _ _ x44_L0.eq_1) ∧ type_of% (@X_at C e s K _ _ x44.eq_1):=⟨X_at x44_T1.eq_1,X_at x44_L0.eq_1,X_at x44.eq_1⟩
def an44 : Ann:=⟨[],[(0,[],[0,1,2,3,7,8,9],[7])],[]⟩
@[simp] theorem an44_a : an44.clsOf 6 = .draw ∧ an44.frzOf 6 = [] ∧ an44.loopOf 0 = ([],[0,1,2,3,7,8,9],[7]):=⟨rfl,rfl,rfl⟩
theorem fi44 : FI Try.prog 44 (cxA an44) x44 [.tmp 6] Try.f44:=fiA Try.func44 mixed
theorem move_law (n b : Int) (h0 : 0 < n) (h8 : n ≤ 8) (hb0 : 0 ≤ b) (hb : b ≤ 100) (X Y : List (List PV)) (a : Nat) (ha : a ≤ 3) (p : Int) (hp0 : 0 ≤ p) (hp : p < n ^ a) : CallOK Try.prog 44 [.int .i64 p,.int .i64 (a : Int),.iptr [.int .i64 n,.list X,.list Y],.iptr [.int .i64 b]] [] (.int .i64 (mvN n b a p)) []:=by
 obtain ⟨R,hR⟩ : ∃ R,mvN n b a p = R:=⟨_,rfl⟩
 rw [hR]
 refine fi44.op ?_
 (refine Sg.h ?_;try repeat' ((with_reducible first|refine brA ?_|refine brE fun _=>?_|refine spl ⟨?_,?_⟩<;>intro _)<;>((try simp -implicitDefEqProofs);(try simp -implicitDefEqProofs(disch:=first|assumption|(try simp only[lens]);omega -splitDisjunctions)))))
 refine W_of fun Q hQ=>?_
 have main : ∀ r i p out,i + r = a → 0 ≤ p → p < n ^ r → 0 ≤ out → out < n ^ i → out + n ^ i * mvN n b r p = R → Q [(0,.int .i64 p),(1,.int .i64 (a : Int)),(2,.iptr [.int .i64 n,.list X,.list Y]),(3,.iptr [.int .i64 b]),(7,.int .i64 out),(8,.int .i64 (n ^ i)),(9,.int .i64 (i : Int))] []:=by
  intro r
  induction r with
  | zero=>
   intro i p out hi hp0 hp ho0 ho hR
   rw [mvN,Int.mul_zero,Int.add_zero] at hR
   subst hR
   obtain rfl : i = a:=by omega
   generalize n ^ i = st at *
   apply hQ
   clear hQ
   (refine Sg.h ?_;try repeat' ((with_reducible first|refine brA ?_|refine brE fun _=>?_|refine spl ⟨?_,?_⟩<;>intro _)<;>((try simp -implicitDefEqProofs);(try simp -implicitDefEqProofs(disch:=first|assumption|(try simp only[lens]);omega -splitDisjunctions)))))
  | succ r ih=>
   intro i p out hi hp0 hp ho0 ho hR
   have hst:=pow8 h0 h8 (k:=i) (by omega)
   have hst1:=pow8 h0 h8 (k:=i + 1) (by omega)
   have hpr:=pow8 h0 h8 (k:=r + 1) (by omega)
   have hu0:=Int.emod_nonneg p (show n ≠ 0 by omega)
   have hu1:=Int.emod_lt_of_pos p h0
   have hw:=piV_range (b:=b) h0 (p % n)
   have hq0:=Int.ediv_nonneg hp0 (show 0 ≤ n by omega)
   rw [Int.pow_succ] at hp
   have hq1:=Int.ediv_lt_of_lt_mul h0 hp
   have hql : p / n ≤ p:=Int.ediv_le_self n hp0
   have hps : n ^ i * n = n ^ (i + 1):=(Int.pow_succ _ _).symm
   rw [mvN,Int.mul_add,← Int.mul_assoc,← Int.add_assoc,hps] at hR
   have hm0 : 0 ≤ n ^ i * piV n b (p % n):=Int.mul_nonneg (by omega) hw.1
   have hm1 : n ^ i * (piV n b (p % n) + 1) ≤ n ^ i * n:=Int.mul_le_mul_of_nonneg_left (by omega) (by omega)
   rw [Int.mul_add,Int.mul_one,hps] at hm1
   have ih:=ih (i + 1) (p / n) (out + n ^ i * piV n b (p % n)) (by omega) hq0 hq1 (by omega) (by omega) hR
   have t1 : p.tmod n = p % n:=Int.tmod_eq_emod_of_nonneg hp0
   have t2 : (p % n + b).tmod n = piV n b (p % n):=Int.tmod_eq_emod_of_nonneg (by omega)
   have t3 : p.tdiv n = p / n:=Int.tdiv_eq_ediv_of_nonneg hp0
   have e3 : piV n b (p % n) * n ^ i = n ^ i * piV n b (p % n):=Int.mul_comm _ _
   have e4 : n ^ i * n = n ^ (i + 1):=(Int.pow_succ _ _).symm
   have hia : (i : Int) < (a : Int):=by omega
   have hpl : p ≤ 262144:=by rw [Int.pow_succ] at hpr;omega
   clear hp hpr hq1 hps
   generalize piV n b (p % n) = w at *
   generalize p % n = u at *
   generalize p / n = p' at *
   generalize n ^ (i + 1) = st' at *
   generalize n ^ i = st at *
   generalize st * w = m at *
   apply hQ
   clear hQ hR
   have hn0 : ¬ n = 0:=by omega
   (refine Sg.h ?_;try repeat' ((with_reducible first|refine brA ?_|refine brE fun _=>?_|refine spl ⟨?_,?_⟩<;>intro _)<;>((try simp -implicitDefEqProofs [hia,t1,t2,t3,e3,e4,hn0]);(try simp -implicitDefEqProofs(disch:=first|assumption|(try simp only[lens]);omega -splitDisjunctions) [hia,t1,t2,t3,e3,e4,hn0]))))
   all_goals first|exact ih|(refine at2 ih ?_ ?_<;>simp;done)|(exfalso;first|omega|(simp_all;done)|(simp_all;omega))
 refine at2 (main a 0 p 0 (Nat.zero_add _) hp0 hp (by omega) (by simp) (by rw [Int.pow_zero,Int.one_mul,Int.zero_add];exact hR)) ?_ ?_
 ·simp
 ·rfl
end Go.Proofs.Ytlcplnafkeklaaa
