import Derived.Test.YtbdionmmfigfiaaDNtZ
set_option linter.unusedVariables false
set_option linter.unusedSimpArgs false
set_option maxRecDepth 100000
set_option maxHeartbeats 4000000
namespace Go.Proofs.Ytbdionmmfigfiaa
open Go Go.Pv
def srJ {R : Type} (S : List Bool → List (Nat × Nat) → Option R) (A : List Ln) (u : List Bool) (axs : List (Nat × Nat)) (i : Nat) : List Nat → Option R
 | [] => none
 | j :: r => if (!u[j]! && fitB A[i]! A[j]!) = true then match S (u.set j true) (axs ++ [(i,j)]) with
   | some x => some x
   | none => srJ S A u axs i r
  else srJ S A u axs i r
def srS (T : List (Nat × Nat) → Bool) (A : List Ln) : Nat → List Bool → List (Nat × Nat) → Option (List Bool × List (Nat × Nat))
 | 0,_,_ => none
 | f + 1,u,axs => match u.findIdx? (fun x => decide (false = x)) with
  | none => if T axs = true then some (u,axs) else none
  | some i => srJ (srS T A f) A (u.set i true) axs i (List.range' (i + 1) (A.length - (i + 1)))
def Inv (A : List Ln) (u : List Bool) (axs : List (Nat × Nat)) : Prop := u.length = A.length ∧ (∀ a ∈ axs,a.1 < A.length ∧ a.2 < A.length ∧ fits A[a.1]! A[a.2]!) ∧ (flat2 axs).Nodup ∧ ∀ k,k < A.length → (u[k]! = true ↔ k ∈ flat2 axs)
theorem nodup_le : ∀ (n : Nat) (l : List Nat),l.Nodup → (∀ x ∈ l,x < n) → l.length ≤ n
 | 0,l,_,h => by
  cases l with
  | nil => exact Nat.le_refl _
  | cons x r => exact absurd (h x (by simp)) (by omega)
 | n + 1,l,hd,h => by
  by_cases hm : n ∈ l
  ·have h1 := nodup_le n (l.erase n) (hd.erase n) fun x hx => by
    have h2 := h x (List.mem_of_mem_erase hx)
    have h3 : x ≠ n := fun e => by subst e; exact (hd.not_mem_erase) hx
    omega
   have := List.length_erase_of_mem hm
   omega
  ·have := nodup_le n l hd fun x hx => by
    have h2 := h x hx
    have h3 : x ≠ n := fun e => hm (e ▸ hx)
    omega
   omega
theorem flat2_len (axs : List (Nat × Nat)) : (flat2 axs).length = 2 * axs.length := by
 induction axs with
 | nil => rfl
 | cons a r ih => rw [show flat2 (a :: r) = a.1 :: a.2 :: flat2 r from rfl,List.length_cons,List.length_cons,ih,List.length_cons]; omega
theorem Inv.len {A : List Ln} {u : List Bool} {axs : List (Nat × Nat)} (h : Inv A u axs) : 2 * axs.length ≤ A.length := by
 rw [← flat2_len]
 refine nodup_le _ _ h.2.2.1 fun x hx => ?_
 obtain ⟨a,ha,hx⟩ := List.mem_flatMap.1 hx
 have := h.2.1 a ha
 simp at hx
 rcases hx with rfl | rfl
 ·exact this.1
 ·exact this.2.1
theorem Inv.nil (A : List Ln) : Inv A (List.replicate A.length false) [] := by
 refine ⟨by simp,by simp,by simp [flat2],fun k hk => ?_⟩
 rw [getElem!_pos _ k (by simpa using hk)]
 simp [flat2]
theorem Inv.lk {A : List Ln} {u : List Bool} {axs : List (Nat × Nat)} (h : Inv A u axs) (hf : u.findIdx? (fun x => decide (false = x)) = none) : Lk A axs := by
 rw [List.findIdx?_eq_none_iff] at hf
 refine ⟨h.2.1,h.2.2.1,fun k hk => (h.2.2.2 k hk).1 ?_⟩
 have hk' : k < u.length := by rw [h.1]; exact hk
 have := hf u[k] (List.getElem_mem hk')
 rw [getElem!_pos u k hk']
 simpa using this
theorem Inv.more {A : List Ln} {u : List Bool} {axs : List (Nat × Nat)} (h : Inv A u axs) {i j : Nat} (hf : u.findIdx? (fun x => decide (false = x)) = some i) (hij : i < j) (hj : j < A.length) (hok : (!(u.set i true)[j]! && fitB A[i]! A[j]!) = true) : Inv A ((u.set i true).set j true) (axs ++ [(i,j)]) := by
 rw [List.findIdx?_eq_some_iff_getElem] at hf
 obtain ⟨hi,h1,h2⟩ := hf
 rw [Bool.and_eq_true,Bool.not_eq_true',set_get! hi,if_neg (by omega),fitB_iff] at hok
 have hi' : i < A.length := by rw [← h.1]; exact hi
 have hui : u[i]! = false := by rw [getElem!_pos u i hi]; simpa using h1
 have hget : ∀ k,((u.set i true).set j true)[k]! = if k = j then true else if k = i then true else u[k]! := fun k => by rw [set_get! (by rw [List.length_set,h.1]; exact hj),set_get! hi]
 have n1 : i ∉ flat2 axs := fun g => by rw [(h.2.2.2 i hi').2 g] at hui; cases hui
 have n2 : j ∉ flat2 axs := fun g => by have := (h.2.2.2 j hj).2 g; rw [hok.1] at this; cases this
 have e : flat2 (axs ++ [(i,j)]) = flat2 axs ++ [i,j] := by unfold flat2; rw [List.flatMap_append]; rfl
 refine ⟨by simp [h.1],?_,?_,?_⟩
 ·intro a ha
  rcases List.mem_append.1 ha with ha | ha
  ·exact h.2.1 a ha
  ·rw [List.mem_singleton] at ha
   subst ha
   exact ⟨hi',hj,hok.2⟩
 ·rw [e,List.nodup_append]
  refine ⟨h.2.2.1,by rw [List.nodup_cons]; exact ⟨by simp; omega,by simp⟩,?_⟩
  intro x hx y hy
  simp only [List.mem_cons,List.not_mem_nil,or_false] at hy
  rcases hy with rfl | rfl
  ·exact fun g => n1 (g ▸ hx)
  ·exact fun g => n2 (g ▸ hx)
 ·intro k hk
  rw [hget,e,List.mem_append]
  by_cases g1 : k = j
  ·simp [g1]
  by_cases g2 : k = i
  ·simp [g2]
  rw [if_neg g1,if_neg g2,h.2.2.2 k hk]
  simp [g1,g2]
theorem srJ_some {A : List Ln} {R : Type} {S : List Bool → List (Nat × Nat) → Option R} {u : List Bool} {axs : List (Nat × Nat)} {i : Nat} {x : R} : ∀ {l : List Nat},srJ S A u axs i l = some x → ∃ j ∈ l,(!u[j]! && fitB A[i]! A[j]!) = true ∧ S (u.set j true) (axs ++ [(i,j)]) = some x
 | [],h => by cases h
 | j :: r,h => by
  rw [srJ] at h
  split at h
  ·rename_i h1
   cases hs : S (u.set j true) (axs ++ [(i,j)]) with
   | some y => rw [hs] at h; exact ⟨j,by simp,h1,by rw [hs]; exact h⟩
   | none =>
    rw [hs] at h
    obtain ⟨k,h2,h3,h4⟩ := srJ_some h
    exact ⟨k,by simp [h2],h3,h4⟩
  ·obtain ⟨k,h2,h3,h4⟩ := srJ_some h
   exact ⟨k,by simp [h2],h3,h4⟩
theorem srS_some {T : List (Nat × Nat) → Bool} {A : List Ln} : ∀ {f : Nat} {u : List Bool} {axs : List (Nat × Nat)} {x : List Bool × List (Nat × Nat)},Inv A u axs → srS T A f u axs = some x → Lk A x.2 ∧ T x.2 = true ∧ Inv A x.1 x.2
 | 0,_,_,_,_,h => by cases h
 | f + 1,u,axs,x,hi,h => by
  rw [srS] at h
  cases hf : u.findIdx? (fun x => decide (false = x)) with
  | none =>
   rw [hf] at h
   dsimp only at h
   split at h
   ·rename_i ht; cases h; exact ⟨hi.lk hf,ht,hi⟩
   ·cases h
  | some i =>
   rw [hf] at h
   dsimp only at h
   obtain ⟨j,h1,h2,h3⟩ := srJ_some h
   rw [List.mem_range'_1] at h1
   exact srS_some (hi.more hf (by omega) (by omega) h2) h3
def usedR (u : List Bool) (r : Option (List Bool × List (Nat × Nat))) : List Bool := match r with
 | some x => x.1
 | none => u
def x42_T3 : XC := .seq (.reg [⟨some 74,.move (.tmp 3),none⟩,⟨some 75,.move (.tmp 9),none⟩,⟨some 76,.indexAddr 64 (.tmp 74) (.tmp 75),none⟩,⟨none,.store 4 (.tmp 76) (.const (.bool false)),none⟩]) (.seq (.reg [⟨some 8,.assign (.const (.bool false)),none⟩]) .ret)
def x42_L2 : XC := .seq (.seq (.reg [⟨some 35,.move (.tmp 10),none⟩,⟨some 36,.move (.tmp 1),none⟩,⟨some 37,.call ⟨.builtin .len,#[.tmp 36],#[22]⟩,none⟩,⟨some 38,.binOp .lss 3 (.tmp 35) (.tmp 37) 3,none⟩]) (.cond (.tmp 38) .skip (.exit 2))) (.seq (.block 3 (.seq (.seq (.drawn 10 [⟨some 41,.move (.tmp 3),none⟩,⟨some 42,.move (.tmp 10),none⟩,⟨some 43,.indexAddr 64 (.tmp 41) (.tmp 42),none⟩,⟨some 44,.load 4 (.tmp 43),none⟩,⟨some 45,.move (.tmp 44),none⟩,⟨some 46,.move (.tmp 1),some (some 45,false)⟩,⟨some 47,.move (.tmp 9),some (some 45,false)⟩,⟨some 48,.indexAddr 22 (.tmp 46) (.tmp 47),some (some 45,false)⟩,⟨some 49,.load 24 (.tmp 48),some (some 45,false)⟩,⟨some 50,.move (.tmp 1),some (some 45,false)⟩,⟨some 51,.move (.tmp 10),some (some 45,false)⟩,⟨some 52,.indexAddr 22 (.tmp 50) (.tmp 51),some (some 45,false)⟩,⟨some 53,.load 24 (.tmp 52),some (some 45,false)⟩,⟨some 54,.call ⟨.value (.func 43),#[.tmp 49,.tmp 53],#[24,24]⟩,some (some 45,false)⟩,⟨some 55,.unOp .not 4 (.tmp 54),some (some 45,false)⟩,⟨some 56,.pick (.tmp 45) (.const (.bool true)) (.tmp 55),none⟩]) (.cond (.tmp 56) (.exit 3) .skip)) (.seq (.reg [⟨some 57,.move (.tmp 3),none⟩,⟨some 58,.move (.tmp 10),none⟩,⟨some 59,.indexAddr 64 (.tmp 57) (.tmp 58),none⟩,⟨none,.store 4 (.tmp 59) (.const (.bool true)),none⟩]) (.seq (.seq (.reg [⟨some 60,.move (.tmp 0),none⟩,⟨some 61,.move (.tmp 1),none⟩,⟨some 62,.move (.tmp 2),none⟩,⟨some 63,.call ⟨.builtin .append,#[.const (.slice none 0 0),.tmp 62],#[25,25]⟩,none⟩,⟨some 64,.move (.tmp 9),none⟩,⟨some 65,.move (.tmp 10),none⟩,⟨some 66,.build 33 #[(0,.tmp 64),(1,.tmp 65)],none⟩,⟨some 67,.buildSlice 25 1 #[(0,.tmp 66)],none⟩,⟨some 68,.call ⟨.builtin .append,#[.tmp 63,.tmp 67],#[25,25]⟩,none⟩,⟨some 69,.move (.tmp 3),none⟩,⟨some 70,.call ⟨.value (.func 42),#[.tmp 60,.tmp 61,.tmp 68,.tmp 69],#[22,22,25,64]⟩,none⟩]) (.cond (.tmp 70) (.seq (.reg [⟨some 8,.assign (.const (.bool true)),none⟩]) .ret) .skip)) (.reg [⟨some 71,.move (.tmp 3),none⟩,⟨some 72,.move (.tmp 10),none⟩,⟨some 73,.indexAddr 64 (.tmp 71) (.tmp 72),none⟩,⟨none,.store 4 (.tmp 73) (.const (.bool false)),none⟩]))))) (.reg [⟨some 39,.move (.tmp 10),none⟩,⟨some 40,.binOp .add 3 (.tmp 39) (.const (.int .i64 1)) 3,none⟩,⟨some 10,.assign (.tmp 40),none⟩]))
def x42_T1 : XC := .seq (.seq (.reg [⟨some 23,.move (.tmp 9),none⟩,⟨some 24,.move (.tmp 1),none⟩,⟨some 25,.call ⟨.builtin .len,#[.tmp 24],#[22]⟩,none⟩,⟨some 26,.binOp .eql 3 (.tmp 23) (.tmp 25) 3,none⟩]) (.cond (.tmp 26) (.seq (.reg [⟨some 27,.move (.tmp 0),none⟩,⟨some 28,.move (.tmp 2),none⟩,⟨some 29,.call ⟨.value (.func 21),#[.tmp 27,.tmp 28],#[22,25]⟩,none⟩,⟨some 8,.assign (.tmp 29),none⟩]) .ret) .skip)) (.seq (.reg [⟨some 30,.move (.tmp 3),none⟩,⟨some 31,.move (.tmp 9),none⟩,⟨some 32,.indexAddr 64 (.tmp 30) (.tmp 31),none⟩,⟨none,.store 4 (.tmp 32) (.const (.bool true)),none⟩]) (.seq (.seq (.reg [⟨some 33,.move (.tmp 9),none⟩,⟨some 34,.binOp .add 3 (.tmp 33) (.const (.int .i64 1)) 3,none⟩,⟨some 10,.assign (.tmp 34),none⟩]) (.bloop 2 x42_L2)) (x42_T3)))
def x42_L0 : XC := .seq (.seq (.reg [⟨some 11,.move (.tmp 9),none⟩,⟨some 12,.move (.tmp 1),none⟩,⟨some 13,.call ⟨.builtin .len,#[.tmp 12],#[22]⟩,none⟩,⟨some 14,.binOp .lss 3 (.tmp 11) (.tmp 13) 3,none⟩,⟨some 15,.move (.tmp 14),none⟩,⟨some 16,.move (.tmp 3),some (some 15,true)⟩,⟨some 17,.move (.tmp 9),some (some 15,true)⟩,⟨some 18,.indexAddr 64 (.tmp 16) (.tmp 17),some (some 15,true)⟩,⟨some 19,.load 4 (.tmp 18),some (some 15,true)⟩,⟨some 20,.pick (.tmp 15) (.tmp 19) (.const (.bool false)),none⟩]) (.cond (.tmp 20) .skip (.exit 0))) (.block 1 (.reg [⟨some 21,.move (.tmp 9),none⟩,⟨some 22,.binOp .add 3 (.tmp 21) (.const (.int .i64 1)) 3,none⟩,⟨some 9,.assign (.tmp 22),none⟩]))
def x42 : XC := .seq (.reg [⟨some 8,.assign (.const (.bool false)),none⟩]) (.seq (.reg [⟨some 9,.assign (.const (.int .i64 0)),none⟩]) (.seq (.bloop 0 x42_L0) (x42_T1)))
@[simp] theorem x42_s {C e s K} : type_of% (@X_at C e s K _ _ x42_T3.eq_1) ∧ type_of% (@X_at C e s K _ _ x42_L2.eq_1) ∧ type_of% (@X_at C e s K _ _ x42_T1.eq_1) ∧ type_of% (@X_at C e s K _ _ x42_L0.eq_1) ∧ type_of% (@X_at C e s K _ _ x42.eq_1) := ⟨X_at x42_T3.eq_1,X_at x42_L2.eq_1,X_at x42_T1.eq_1,X_at x42_L0.eq_1,X_at x42.eq_1⟩
def an42 : Ann := ⟨[(10,.mix 13)],[(2,[],[0,1,2,3,9,10],[3,8,9]),(0,[],[0,1,2,3,9],[0,1,2,3,9])],[]⟩
@[simp] theorem an42_a : an42.clsOf 10 = .mix 13 ∧ an42.frzOf 10 = [] ∧ an42.loopOf 2 = ([],[0,1,2,3,9,10],[3,8,9]) ∧ an42.loopOf 0 = ([],[0,1,2,3,9],[0,1,2,3,9]) := ⟨rfl,rfl,rfl,rfl⟩
theorem fi42 : FI Try.prog 42 (cxA an42) x42 [.tmp 8] Try.f42 := fiA Try.func42 mixed
theorem linkable_ref (ts : List Lt) (hs : szTs ts ≤ 1000) (hs0 : 0 < szTs ts) (hn : ts.length ≤ 1000) (hP : (pqTs 0 ts).length ≤ 10) (hA : (atTs ts).length ≤ 200) : ∀ (f : Nat) (u : List Bool) (axs : List (Nat × Nat)),Inv (atTs ts) u axs → axs.length + f = (atTs ts).length + 1 →
  CallOK Try.prog 42 [.list ((ts.map lnOf).map lnr),.list ((atTs ts).map lnr),.list ((cst axs).map relRow),.sl 0 0 u.length] [.rows 1 (u.map boolRow)] (.bool (srS (corB ts) (atTs ts) f u axs).isSome) [.rows 1 ((usedR u (srS (corB ts) (atTs ts) f u axs)).map boolRow)] := by
 intro f
 induction f with
 | zero => intro u axs hi hl; have := hi.len; omega
 | succ f ih =>
  intro u axs hi hl
  have hsw := Switched_ref ts axs hs hs0 hn (by have := hi.len; omega) (by
   intro a ha
   have := hi.2.1 a ha
   rw [atTs_len]
   exact ⟨this.1,this.2.1⟩) hP
  have hal := hi.len
  rw [srS]
  refine fi42.og ?_
  cases hf : u.findIdx? (fun x => decide (false = x)) with
  | none =>
   dsimp only
   have hr : (if corB ts axs = true then some (u,axs) else none).isSome = corB ts axs := by cases corB ts axs <;> rfl
   have hu : usedR u (if corB ts axs = true then some (u,axs) else none) = u := by cases corB ts axs <;> rfl
   rw [hr,hu]
   rw [List.findIdx?_eq_none_iff] at hf
   have hall : ∀ k (h : k < u.length),u[k] = true := fun k h => by have := hf u[k] (List.getElem_mem h); simpa using this
   have hul := hi.1
   clear ih hi hf
   generalize corB ts axs = b at *
   generalize ts.map lnOf = L at *
   generalize cst axs = C at *
   generalize atTs ts = A at *
   (refine Sg.h ?_;try repeat' ((with_reducible first|refine brA ?_|refine brE fun _=>?_|refine spl ⟨?_,?_⟩<;>intro _)<;> ((try simp -implicitDefEqProofs); (try simp -implicitDefEqProofs(disch:=first|assumption|(try simp only[lens]);omega -splitDisjunctions)))))
   refine W_of fun Q hQ => ?_
   have main : ∀ k x,x + k = u.length → Q [(0,.list (L.map lnr)),(1,.list (A.map lnr)),(2,.list (C.map relRow)),(3,.sl 0 0 u.length),(9,.int .i64 (x : Int))] [.rows 1 (u.map boolRow)] := by
    intro k
    induction k with
    | zero =>
     intro x hx
     have h1 : ¬ (x : Int) < (A.length : Int) := by omega
     have h2 : (x : Int) = (A.length : Int) := by omega
     apply hQ
     clear hQ
     (refine Sg.h ?_;try repeat' ((first | (with_reducible first|refine brA ?_|refine brE fun _=>?_|refine spl ⟨?_,?_⟩<;>intro _) | refine clo hsw ?_) <;> ((try simp -implicitDefEqProofs [h1,h2]); (try simp -implicitDefEqProofs(disch:=first|assumption|(try simp only[lens]);omega -splitDisjunctions) [h1,h2]))))
    | succ k ih =>
     intro x hx
     have h1 : (x : Int) < (A.length : Int) := by omega
     have h3 : x < u.length := by omega
     have h4 := hall x h3
     have ih := ih (x + 1) (by omega)
     apply hQ
     clear hQ
     (refine Sg.h ?_;try repeat' ((with_reducible first|refine brA ?_|refine brE fun _=>?_|refine spl ⟨?_,?_⟩<;>intro _)<;> ((try simp -implicitDefEqProofs [h1,h3,h4]); (try simp -implicitDefEqProofs(disch:=first|assumption|(try simp only[lens]);omega -splitDisjunctions) [h1,h3,h4]))))
     all_goals first | exact ih | (refine at2 ih ?_ ?_ <;> simp; done) | (exfalso; first | omega | (simp_all; done) | (simp_all; omega))
   refine at2 (main u.length 0 (Nat.zero_add _)) ?_ ?_
   ·rfl
   ·rfl
  | some i =>
   dsimp only
   have hmore := fun j (h1 : i < j) (h2 : j < (atTs ts).length) h3 => hi.more hf h1 h2 h3
   rw [List.findIdx?_eq_some_iff_getElem] at hf
   obtain ⟨hil,h1,h2⟩ := hf
   have hui : u[i] = false := by simpa using h1
   have hub : ∀ k (h : k < u.length),k < i → u[k] = true := fun k h hk => by have := h2 k hk; simpa using this
   have hul := hi.1
   obtain ⟨R,hR⟩ : ∃ R,srJ (srS (corB ts) (atTs ts) f) (atTs ts) (u.set i true) axs i (List.range' (i + 1) ((atTs ts).length - (i + 1))) = R := ⟨_,rfl⟩
   rw [hR]
   have hrest := fun j (h1 : i < j) (h2 : j < (atTs ts).length) h3 => ih ((u.set i true).set j true) (axs ++ [(i,j)]) (hmore j h1 h2 h3) (by rw [List.length_append,List.length_singleton]; omega)
   clear ih hmore hi hsw
   have hcs : ∀ j : Nat,cst (axs ++ [(i,j)]) = cst axs ++ [((i : Int),(j : Int))] := fun j => by simp [cst]
   have hcl : (cst axs).length ≤ 200 := by simp [cst]; omega
   generalize srS (corB ts) (atTs ts) f = S at *
   generalize ts.map lnOf = L at *
   simp only [hcs,List.length_set] at hrest
   generalize cst axs = C at *
   generalize atTs ts = A at *
   (refine Sg.h ?_;try repeat' ((with_reducible first|refine brA ?_|refine brE fun _=>?_|refine spl ⟨?_,?_⟩<;>intro _)<;> ((try simp -implicitDefEqProofs); (try simp -implicitDefEqProofs(disch:=first|assumption|(try simp only[lens]);omega -splitDisjunctions)))))
   refine W_of fun Q hQ => ?_
   have main : ∀ k x,x + k = i → Q [(0,.list (L.map lnr)),(1,.list (A.map lnr)),(2,.list (C.map relRow)),(3,.sl 0 0 u.length),(9,.int .i64 (x : Int))] [.rows 1 (u.map boolRow)] := by
    intro k
    induction k with
    | succ k ih =>
     intro x hx
     have h1 : (x : Int) < (A.length : Int) := by omega
     have h3 : x < u.length := by omega
     have h4 := hub x h3 (by omega)
     have ih := ih (x + 1) (by omega)
     apply hQ
     clear hQ
     (refine Sg.h ?_;try repeat' ((with_reducible first|refine brA ?_|refine brE fun _=>?_|refine spl ⟨?_,?_⟩<;>intro _)<;> ((try simp -implicitDefEqProofs [h1,h3,h4]); (try simp -implicitDefEqProofs(disch:=first|assumption|(try simp only[lens]);omega -splitDisjunctions) [h1,h3,h4]))))
     all_goals first | exact ih | (refine at2 ih ?_ ?_ <;> simp; done) | (exfalso; first | omega | (simp_all; done) | (simp_all; omega))
    | zero =>
     intro x hx
     obtain rfl : x = i := by omega
     have h1 : (x : Int) < (A.length : Int) := by omega
     have h3 : ¬ (x : Int) = (A.length : Int) := by omega
     apply hQ
     clear hQ
     have hset0 : (u.map boolRow).set x [.bool true] = (u.set x true).map boolRow := by simp [boolRow_eq]
     have hback0 : (u.set x true).set x false = u := by
      rw [List.set_set]
      apply List.ext_getElem
      ·simp
      ·intro y g1 g2
       rw [List.getElem_set]
       split
       ·rename_i e; subst e; exact hui.symm
       ·rfl
     have hu1l : (u.set x true).length = u.length := by simp
     generalize u.set x true = u1 at *
     (refine Sg.h ?_;try repeat' ((with_reducible first|refine brA ?_|refine brE fun _=>?_|refine spl ⟨?_,?_⟩<;>intro _)<;> ((try simp -implicitDefEqProofs [h1,hil,hui,h3,hset0]); (try simp -implicitDefEqProofs(disch:=first|assumption|(try simp only[lens]);omega -splitDisjunctions) [h1,hil,hui,h3,hset0]))))
     refine W_of fun Q2 hQ2 => ?_
     have main2 : ∀ k j,j + k = A.length → x < j → srJ S A u1 axs x (List.range' j k) = R → Q2 [(0,.list (L.map lnr)),(1,.list (A.map lnr)),(2,.list (C.map relRow)),(3,.sl 0 0 u.length),(9,.int .i64 (x : Int)),(10,.int .i64 (j : Int))] [.rows 1 (u1.map boolRow)] := by
      intro k
      induction k with
      | zero =>
       intro j hj hxj hR
       rw [List.range'_zero,srJ] at hR
       subst hR
       have hj' : ¬ (j : Int) < (A.length : Int) := by omega
       have hx2 : x < u1.length := by omega
       have hset : (u1.map boolRow).set x [.bool false] = u.map boolRow := by rw [← hback0]; simp [boolRow_eq]
       have hun : usedR u none = u := rfl
       apply hQ2
       clear hQ2
       (refine Sg.h ?_;try repeat' ((with_reducible first|refine brA ?_|refine brE fun _=>?_|refine spl ⟨?_,?_⟩<;>intro _)<;> ((try simp -implicitDefEqProofs [hj',hx2,hset,hun]); (try simp -implicitDefEqProofs(disch:=first|assumption|(try simp only[lens]);omega -splitDisjunctions) [hj',hx2,hset,hun]))))
      | succ k ih2 =>
       intro j hj hxj hR
       have hjA : j < A.length := by omega
       rw [List.range'_succ,srJ] at hR
       have ih2 := ih2 (j + 1) (by omega) (by omega)
       have hrest := hrest j hxj hjA
       have hft := fits_ref A[x] A[j]
       have hxA : x < A.length := by omega
       rw [getElem!_pos A x hxA,getElem!_pos A j hjA] at hR hrest
       have hju : j < u1.length := by omega
       rw [getElem!_pos u1 j hju] at hR hrest
       generalize hxx : A[x] = X at *
       generalize hyy : A[j] = Y at *
       have hj' : (j : Int) < (A.length : Int) := by omega
       cases hb : u1[j] with
       | true =>
        rw [hb] at hR
        rw [if_neg (by simp)] at hR
        have ih2 := ih2 hR
        apply hQ2
        clear hQ2
        (refine Sg.h ?_;try repeat' ((with_reducible first|refine brA ?_|refine brE fun _=>?_|refine spl ⟨?_,?_⟩<;>intro _)<;> ((try simp -implicitDefEqProofs [hj',hju,hb]); (try simp -implicitDefEqProofs(disch:=first|assumption|(try simp only[lens]);omega -splitDisjunctions) [hj',hju,hb]))))
        all_goals first | exact ih2 | (refine at2 ih2 ?_ ?_ <;> simp; done) | (exfalso; first | omega | (simp_all; done) | (simp_all; omega))
       | false =>
        cases hfb : fitB X Y with
        | false =>
         rw [hb,hfb] at hR
         rw [if_neg (by simp)] at hR
         have ih2 := ih2 hR
         rw [hfb] at hft
         apply hQ2
         clear hQ2
         (refine Sg.h ?_;try repeat' ((first | (with_reducible first|refine brA ?_|refine brE fun _=>?_|refine spl ⟨?_,?_⟩<;>intro _) | refine clo hft ?_) <;> ((try simp -implicitDefEqProofs [hj',hju,hb,hjA,hxA,hxx,hyy]); (try simp -implicitDefEqProofs(disch:=first|assumption|(try simp only[lens]);omega -splitDisjunctions) [hj',hju,hb,hjA,hxA,hxx,hyy]))))
         all_goals first | exact ih2 | (refine at2 ih2 ?_ ?_ <;> simp; done) | (exfalso; first | omega | (simp_all; done) | (simp_all; omega))
        | true =>
         rw [hb,hfb] at hR hrest
         rw [if_pos (by simp)] at hR
         have hrest := hrest (by simp)
         rw [hfb] at hft
         have hu2 : (u1.set j true).length = u.length := by simp [hu1l]
         have hback : (u1.set j true).set j false = u1 := by
          rw [List.set_set]
          apply List.ext_getElem
          ·simp
          ·intro y g1 g2
           rw [List.getElem_set]
           split
           ·rename_i e; subst e; exact hb.symm
           ·rfl
         have hset : (u1.map boolRow).set j [.bool true] = (u1.set j true).map boolRow := by simp [boolRow_eq]
         have hset2 : ((u1.set j true).map boolRow).set j [.bool false] = u1.map boolRow := by rw [← hback]; simp [boolRow_eq]
         have hj2 : j < (u1.set j true).length := by simpa using hju
         have htk : List.take (C.length + 1) (C.map relRow ++ [[.int .i64 (x : Int),.int .i64 (j : Int)]]) = C.map relRow ++ [[.int .i64 (x : Int),.int .i64 (j : Int)]] := List.take_of_length_le (by simp)
         cases hS : S (u1.set j true) (axs ++ [(x,j)]) with
         | some y =>
          rw [hS] at hR hrest
          dsimp only at hR
          subst hR
          clear ih2 hback hset2
          generalize u1.set j true = u2 at *
          apply hQ2
          clear hQ2
          (refine Sg.h ?_;try repeat' ((first | (with_reducible first|refine brA ?_|refine brE fun _=>?_|refine spl ⟨?_,?_⟩<;>intro _) | refine clo hft ?_) <;> ((try simp -implicitDefEqProofs [hj',hju,hb,hjA,hxA,hxx,hyy,hset]); (try simp -implicitDefEqProofs(disch:=first|assumption|(try simp only[lens]);omega -splitDisjunctions) [hj',hju,hb,hjA,hxA,hxx,hyy,hset]))))
          refine ⟨⟨fun row a b _ e => by subst e; simp,by omega⟩,by omega,?_⟩
          refine CL.giv [3] ?_
          (refine Sg.h ?_;try repeat' ((with_reducible first|refine brA ?_|refine brE fun _=>?_|refine spl ⟨?_,?_⟩<;>intro _)<;> ((try simp -implicitDefEqProofs); (try simp -implicitDefEqProofs(disch:=first|assumption|(try simp only[lens]);omega -splitDisjunctions)))))
          try simp only [htk]
          refine CL.sub [0] (hc := by simpa [relRow_eq] using hrest) ?_
          (refine Sg.h ?_;try repeat' ((with_reducible first|refine brA ?_|refine brE fun _=>?_|refine spl ⟨?_,?_⟩<;>intro _)<;> ((try simp -implicitDefEqProofs); (try simp -implicitDefEqProofs(disch:=first|assumption|(try simp only[lens]);omega -splitDisjunctions)))))
          rfl
         | none =>
          rw [hS] at hR hrest
          dsimp only at hR
          have ih2 := ih2 hR
          have hun : usedR (u1.set j true) none = u1.set j true := rfl
          rw [hun] at hrest
          clear hback
          generalize u1.set j true = u2 at *
          apply hQ2
          clear hQ2
          (refine Sg.h ?_;try repeat' ((first | (with_reducible first|refine brA ?_|refine brE fun _=>?_|refine spl ⟨?_,?_⟩<;>intro _) | refine clo hft ?_) <;> ((try simp -implicitDefEqProofs [hj',hju,hb,hjA,hxA,hxx,hyy,hset]); (try simp -implicitDefEqProofs(disch:=first|assumption|(try simp only[lens]);omega -splitDisjunctions) [hj',hju,hb,hjA,hxA,hxx,hyy,hset]))))
          refine ⟨⟨fun row a b _ e => by subst e; simp,by omega⟩,by omega,?_⟩
          refine CL.giv [3] ?_
          (refine Sg.h ?_;try repeat' ((with_reducible first|refine brA ?_|refine brE fun _=>?_|refine spl ⟨?_,?_⟩<;>intro _)<;> ((try simp -implicitDefEqProofs); (try simp -implicitDefEqProofs(disch:=first|assumption|(try simp only[lens]);omega -splitDisjunctions)))))
          try simp only [htk]
          refine CL.sub [0] (hc := by simpa [relRow_eq] using hrest) ?_
          (refine Sg.h ?_;try repeat' ((with_reducible first|refine brA ?_|refine brE fun _=>?_|refine spl ⟨?_,?_⟩<;>intro _)<;> ((try simp -implicitDefEqProofs [hju,hj2,hset2]); (try simp -implicitDefEqProofs(disch:=first|assumption|(try simp only[lens]);omega -splitDisjunctions) [hju,hj2,hset2]))))
          all_goals first | exact ih2 | (refine at2 ih2 ?_ ?_ <;> simp; done) | (exfalso; first | omega | (simp_all; done) | (simp_all; omega))
     refine at2 (main2 (A.length - (x + 1)) (x + 1) (by omega) (by omega) hR) ?_ ?_
     ·simp
     ·rfl
   refine at2 (main i 0 (Nat.zero_add _)) ?_ ?_
   ·rfl
   ·rfl
theorem callOK_nils {P : Program} {f : FuncId} {args args' : List PV} {v : PV} {s s' : Store} (h : CallOK P f args' s v s') (hs : SoftL args' args) : CallOK P f args s v s' := by
 intro pub σ w cargs hb ha
 have hg := hs.get (pub := pub)
 refine h pub σ w cargs hb ⟨by rw [ha.1,hg.1],fun j x y hx hy => ?_⟩
 have hjl := lt_of_getElem? hx
 have hyj : args[j]? = some (args[j]'(by have := hg.1; omega)) := List.getElem?_eq_getElem _
 exact hg.2 j x _ hx hyj σ y (ha.2 j _ y hyj hy)
noncomputable def lnkB (ts : List Lt) : Bool := (srS (corB ts) (atTs ts) ((atTs ts).length + 1) (List.replicate (atTs ts).length false) []).isSome
def x19 : XC := .seq (.reg [⟨some 2,.assign (.const (.bool false)),none⟩]) (.seq (.reg [⟨some 4,.move (.tmp 0),none⟩,⟨some 5,.call ⟨.value (.func 12),#[.tmp 4],#[22]⟩,none⟩,⟨some 3,.assign (.tmp 5),none⟩]) (.seq (.seq (.reg [⟨some 6,.move (.tmp 3),none⟩,⟨some 7,.call ⟨.builtin .len,#[.tmp 6],#[22]⟩,none⟩,⟨some 8,.binOp .rem 3 (.tmp 7) (.const (.int .i64 2)) 3,none⟩,⟨some 9,.binOp .eql 3 (.tmp 8) (.const (.int .i64 1)) 3,none⟩]) (.cond (.tmp 9) (.seq (.reg [⟨some 2,.assign (.const (.bool false)),none⟩]) .ret) .skip)) (.seq (.reg [⟨some 10,.move (.tmp 0),none⟩,⟨some 11,.move (.tmp 3),none⟩,⟨some 12,.move (.tmp 3),none⟩,⟨some 13,.call ⟨.builtin .len,#[.tmp 12],#[22]⟩,none⟩,⟨some 14,.makeSlice 64 (.tmp 13) (.tmp 13),none⟩,⟨some 15,.call ⟨.value (.func 42),#[.tmp 10,.tmp 11,.const (.slice none 0 0),.tmp 14],#[22,22,25,64]⟩,none⟩,⟨some 2,.assign (.tmp 15),none⟩]) .ret)))
@[simp] theorem x19_s {C e s K} : type_of% (@X_at C e s K _ _ x19.eq_1) := X_at x19.eq_1
def an19 : Ann := ⟨[],[],[]⟩
theorem fi19 : FI Try.prog 19 (cxA an19) x19 [.tmp 2] Try.f19 := fiA Try.func19 mixed
theorem Linkable_ref (ts : List Lt) (hs : szTs ts ≤ 200) (hs0 : 0 < szTs ts) (hn : ts.length ≤ 1000) (hP : (pqTs 0 ts).length ≤ 10) (hA : (atTs ts).length ≤ 200) :
  ∃ b,CallOK Try.prog 19 [.list ((ts.map lnOf).map lnr)] [] (.bool b) [] ∧ (b = true → lnkB ts = true) := by
 have hv := Leaves_ref (ts.map lnOf)
 have hvl : lvR (ts.map lnOf) = atTs ts := by
  unfold lvR
  rw [List.take_of_length_le (by rw [(ndLs_lt ts).1]; omega),(ndLs_lt ts).2]
 rw [hvl] at hv
 have hk := linkable_ref ts (by omega) hs0 hn hP hA ((atTs ts).length + 1) (List.replicate (atTs ts).length false) [] (.nil _) (by simp)
 replace hk := callOK_nils hk (.cons .refl (.cons .refl (.cons .nil (.cons .refl .nil))))
 unfold lnkB
 generalize srS (corB ts) (atTs ts) ((atTs ts).length + 1) (List.replicate (atTs ts).length false) [] = R at *
 rw [List.length_replicate] at hk
 generalize usedR (List.replicate (atTs ts).length false) R = U at *
 generalize ts.map lnOf = L at *
 generalize atTs ts = A at *
 by_cases h : A.length % 2 = 1
 ·refine ⟨false,?_,fun e => Bool.noConfusion e⟩
  refine fi19.op ?_
  have h' : (A.length : Int).tmod 2 = 1 := by rw [Int.tmod_eq_emod_of_nonneg (by omega)]; omega
  (refine Sg.h ?_;try repeat' ((first | (with_reducible first|refine brA ?_|refine brE fun _=>?_|refine spl ⟨?_,?_⟩<;>intro _) | refine clo hv ?_) <;> ((try simp -implicitDefEqProofs [h']); (try simp -implicitDefEqProofs(disch:=first|assumption|(try simp only[lens]);omega -splitDisjunctions) [h']))))
 ·refine ⟨R.isSome,?_,id⟩
  refine fi19.op ?_
  have h' : ¬ (A.length : Int).tmod 2 = 1 := by rw [Int.tmod_eq_emod_of_nonneg (by omega)]; omega
  have hrep : (List.replicate A.length false).map boolRow = List.replicate A.length [PV.bool false] := by simp [boolRow_eq]
  rw [hrep] at hk
  (refine Sg.h ?_;try repeat' ((first | (with_reducible first|refine brA ?_|refine brE fun _=>?_|refine spl ⟨?_,?_⟩<;>intro _) | refine clo hv ?_) <;> ((try simp -implicitDefEqProofs [h']); (try simp -implicitDefEqProofs(disch:=first|assumption|(try simp only[lens]);omega -splitDisjunctions) [h']))))
  refine CL.sub [0] (hc := by simpa using hk) ?_
  (refine Sg.h ?_;try repeat' ((with_reducible first|refine brA ?_|refine brE fun _=>?_|refine spl ⟨?_,?_⟩<;>intro _)<;> ((try simp -implicitDefEqProofs); (try simp -implicitDefEqProofs(disch:=first|assumption|(try simp only[lens]);omega -splitDisjunctions)))))
end Go.Proofs.Ytbdionmmfigfiaa
namespace Go.Proofs.Ytbdionmmfigfiaa
open Go Go.Pv
def sh6 (G : List PV) (A : List Ln) (u : List Bool) (m : Nat) (X : List (List PV)) : Store := [.rows 1 [[.sl 5 0 u.length]],.rows 1 [[.iptr G]],.rows 1 [[.sl 6 0 m]],.rows 1 [[.list (A.map lnr)]],.rows 1 [[.fn (.func 40) [] [.ptr 0 0 0,.ptr 1 0 0,.ptr 2 0 0,.ptr 3 0 0,.ptr 4 0 0]]],.rows 1 (u.map boolRow),.rows 2 X]
def sh7 (G : List PV) (A : List Ln) (u : List Bool) (m : Nat) (X : List (List PV)) : Store := [.rows 1 [[.sl 5 0 u.length]],.rows 1 [[.iptr G]],.rows 1 [[.sl 7 0 m]],.rows 1 [[.list (A.map lnr)]],.rows 1 [[.fn (.func 40) [] [.ptr 0 0 0,.ptr 1 0 0,.ptr 2 0 0,.ptr 3 0 0,.ptr 4 0 0]]],.rows 1 (u.map boolRow),.dead,.rows 2 X]
def pFin (G : List PV) (A : List Ln) (u : List Bool) (axs : List (Int × Int)) (v v1 : PV) (s1 : Store) : Prop := ∃ J,gcFin 7 v (sh6 G A u axs.length (axs.map relRow ++ J)) v1 s1 ∨ gcFin 7 v (sh7 G A u axs.length (axs.map relRow ++ J)) v1 s1
theorem lt7 {P : Nat → Prop} (h : P 0 ∧ P 1 ∧ P 2 ∧ P 3 ∧ P 4 ∧ P 5 ∧ P 6) : ∀ i,i < 7 → P i := by
 intro i hi
 match i,hi with
 | 0,_ => exact h.1
 | 1,_ => exact h.2.1
 | 2,_ => exact h.2.2.1
 | 3,_ => exact h.2.2.2.1
 | 4,_ => exact h.2.2.2.2.1
 | 5,_ => exact h.2.2.2.2.2.1
 | 6,_ => exact h.2.2.2.2.2.2
theorem ren_pfn (ρ : List Nat) (h : ∀ i,i < 5 → ρ[i]? = some i) : Ren ρ (.fn (.func 40) [] [.ptr 0 0 0,.ptr 1 0 0,.ptr 2 0 0,.ptr 3 0 0,.ptr 4 0 0]) (.fn (.func 40) [] [.ptr 0 0 0,.ptr 1 0 0,.ptr 2 0 0,.ptr 3 0 0,.ptr 4 0 0]) := by
 refine .fn rfl (fun k x y h1 h2 => by simp at h1) rfl (fun k x y h1 h2 => ?_)
 rw [h1] at h2
 cases h2
 match k,lt_of_getElem? h1 with
 | 0,_ => cases h1; exact .ptr (h 0 (by omega))
 | 1,_ => cases h1; exact .ptr (h 1 (by omega))
 | 2,_ => cases h1; exact .ptr (h 2 (by omega))
 | 3,_ => cases h1; exact .ptr (h 3 (by omega))
 | 4,_ => cases h1; exact .ptr (h 4 (by omega))
theorem ren_one {ρ : List Nat} {x y : PV} (h : Ren ρ x y) : RenObj ρ (.rows 1 [[x]]) (.rows 1 [[y]]) :=
 .rows (Nat.le_refl _) fun r row row' h1 h2 => by
  match r,lt_of_getElem? h1 with
  | 0,_ =>
   cases h1; cases h2
   refine ⟨rfl,fun k a b h3 h4 => ?_⟩
   match k,lt_of_getElem? h3 with
   | 0,_ => cases h3; cases h4; exact h
theorem pFin_ret {G : List PV} {A : List Ln} {u : List Bool} {axs : List (Int × Int)} {b : Bool} {v1 : PV} {s1 : Store} (h : pFin G A u axs (.bool b) v1 s1) : RetView 7 v1 s1 (.bool b) (sh7 G A u axs.length (axs.map relRow)) := by
 obtain ⟨J,h | h⟩ := h
 ·refine RetView.trans (gcFin_ret h) (RetView.moved [0,1,2,3,4,5,6,6] (lt7 ⟨rfl,rfl,rfl,rfl,rfl,rfl,rfl⟩) rfl ?_ ?_ .bool)
  ·intro i j k hi hj g1 g2
   have hi' : i < 8 := lt_of_getElem? hi
   have hj' : j < 8 := lt_of_getElem? hj
   have n1 : i ≠ 6 := fun e => g1 (by subst e; rfl)
   have n2 : j ≠ 6 := fun e => g2 (by subst e; rfl)
   have val : ∀ x y : Nat,x < 8 → [0,1,2,3,4,5,6,6][x]? = some y → x ≠ 6 → (x < 6 ∧ y = x) ∨ (x = 7 ∧ y = 6) := by
    intro x y hx h hn
    match x,hx with
    | 0,_ | 1,_ | 2,_ | 3,_ | 4,_ | 5,_ | 7,_ => simp at h; omega
    | 6,_ => exact absurd rfl hn
   have v1 := val i k hi' hi n1
   have v2 := val j k hj' hj n2
   omega
  ·intro i o' hi
   have hi' : i < 8 := lt_of_getElem? hi
   match i,hi' with
   | 0,_ => cases hi; exact ⟨0,_,rfl,rfl,ren_one (.sl rfl)⟩
   | 1,_ => cases hi; exact ⟨1,_,rfl,rfl,ren_one .iptr⟩
   | 2,_ => cases hi; exact ⟨2,_,rfl,rfl,ren_one (.sl rfl)⟩
   | 3,_ => cases hi; exact ⟨3,_,rfl,rfl,ren_one .list⟩
   | 4,_ => cases hi; exact ⟨4,_,rfl,rfl,ren_one (ren_pfn _ fun i hi => lt7 (P := fun i => [0,1,2,3,4,5,6,6][i]? = some i) ⟨rfl,rfl,rfl,rfl,rfl,rfl,rfl⟩ i (by omega))⟩
   | 5,_ => cases hi; exact ⟨5,_,rfl,rfl,.flatm _⟩
   | 6,_ => cases hi; exact ⟨6,_,rfl,rfl,.dead⟩
   | 7,_ => cases hi; exact ⟨6,_,rfl,rfl,.less _ _⟩
 ·refine RetView.trans (gcFin_ret h) (RetView.moved [0,1,2,3,4,5,6,7] (lt7 ⟨rfl,rfl,rfl,rfl,rfl,rfl,rfl⟩) rfl ?_ ?_ .bool)
  ·intro i j k hi hj g1 g2
   exact (List.getElem?_inj (lt_of_getElem? hi) (by decide)).1 (hi.trans hj.symm)
  ·intro i o' hi
   have hi' : i < 8 := lt_of_getElem? hi
   match i,hi' with
   | 0,_ => cases hi; exact ⟨0,_,rfl,rfl,ren_one (.sl rfl)⟩
   | 1,_ => cases hi; exact ⟨1,_,rfl,rfl,ren_one .iptr⟩
   | 2,_ => cases hi; exact ⟨2,_,rfl,rfl,ren_one (.sl rfl)⟩
   | 3,_ => cases hi; exact ⟨3,_,rfl,rfl,ren_one .list⟩
   | 4,_ => cases hi; exact ⟨4,_,rfl,rfl,ren_one (ren_pfn _ fun i hi => lt7 (P := fun i => [0,1,2,3,4,5,6,7][i]? = some i) ⟨rfl,rfl,rfl,rfl,rfl,rfl,rfl⟩ i (by omega))⟩
   | 5,_ => cases hi; exact ⟨5,_,rfl,rfl,.flatm _⟩
   | 6,_ => cases hi; exact ⟨6,_,rfl,rfl,.dead⟩
   | 7,_ => cases hi; exact ⟨7,_,rfl,rfl,.less _ _⟩
end Go.Proofs.Ytbdionmmfigfiaa
