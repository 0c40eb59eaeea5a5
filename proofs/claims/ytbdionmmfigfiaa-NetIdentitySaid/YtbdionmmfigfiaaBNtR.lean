import Derived.Test.YtbdionmmfigfiaaBNtP
import Derived.Test.YtbdionmmfigfiaaBPvQg
set_option linter.unusedVariables false
set_option linter.unusedSimpArgs false
set_option maxRecDepth 100000
set_option maxHeartbeats 4000000
namespace Go.Proofs.Ytbdionmmfigfiaa
open Go Go.Pv
instance : DecidableEq Stp := fun s t => decidable_of_iff ((s.a,s.b,s.c,s.d) = (t.a,t.b,t.c,t.d)) ⟨fun h => by cases s; cases t; simp at h; simp [h],fun h => by rw [h]⟩
theorem permC {l m : List Stp} (h : ∀ s,l.count s = m.count s) : l.Perm m := List.perm_iff_count.2 h
theorem get!_app1 {A B : List Nat} {i : Nat} (h : i < A.length) : (A ++ B)[i]! = A[i]! := by
 rw [getElem!_pos _ i (by simp; omega),getElem!_pos _ i h,List.getElem_append_left h]
theorem get!_app2 {A B : List Nat} {i : Nat} (h : i < B.length) : (A ++ B)[A.length + i]! = B[i]! := by
 rw [getElem!_pos _ _ (by simp; omega),getElem!_pos _ i h,List.getElem_append_right (by omega)]
 congr 1; omega
theorem get!_map {A : List Nat} {φ : Nat → Nat} {i : Nat} (h : i < A.length) : (A.map φ)[i]! = φ A[i]! := by
 rw [getElem!_pos _ _ (by simp; omega),getElem!_pos _ i h,List.getElem_map]
theorem axS_map {A : List Nat} {φ : Nat → Nat} {an : List (Nat × Nat)} (h : ∀ a ∈ an,a.1 < A.length ∧ a.2 < A.length) : axS (A.map φ) an = (axS A an).map (mapS φ) := by
 unfold axS
 rw [List.map_map]
 refine List.map_congr_left fun a ha => ?_
 simp only [Function.comp]
 rw [get!_map (h a ha).1,get!_map (h a ha).2]
 rfl
theorem mem_ends_map {φ : Nat → Nat} {T : List Stp} {e : Nat × Nat} (h : e ∈ ends (T.map (mapS φ))) : ∃ s ∈ T,e = (φ s.a,φ s.b) := by
 obtain ⟨s,hs,rfl⟩ := mem_ends.1 h
 obtain ⟨t,ht,rfl⟩ := List.mem_map.1 hs
 exact ⟨t,ht,rfl⟩
theorem con_ends_map {φ : Nat → Nat} {T : List Stp} {x y : Nat} (h : Con (ends T) x y) : Con (ends (T.map (mapS φ))) (φ x) (φ y) :=
 h.hom φ fun e he => by
  obtain ⟨s,hs,rfl⟩ := mem_ends.1 he
  exact .edge (mem_ends.2 ⟨mapS φ s,List.mem_map_of_mem hs,rfl⟩)
theorem cor_can {ts : List Lt} {an : List (Nat × Nat)} (h : CorT ts an) : ∃ T,(axS (lnTs 0 ts) an ++ stTs 0 ts).Perm T ∧ Can T [] ∧ ∀ x y,x < szTs ts → y < szTs ts → Con (ends T) x y := by
 obtain ⟨T,h1,h2,h3⟩ := h.can
 exact ⟨T,h1,h2,fun x y hx hy => by have := h3 x y hx hy; rwa [List.append_nil] at this⟩
theorem par_perm (p : List Lt) (x y : Lt) (an : List (Nat × Nat)) (h : ∀ a ∈ an,a.1 < (atTs (p ++ [x,y])).length ∧ a.2 < (atTs (p ++ [x,y])).length) (φ : Nat → Nat) (hφ : φ = fun z => if z < szTs p then z else z + 1) :
  (axS (lnTs 0 (p ++ [.op true x y])) an ++ stTs 0 (p ++ [.op true x y])).Perm ((axS (lnTs 0 (p ++ [x,y])) an ++ stTs 0 (p ++ [x,y])).map (mapS φ) ++ [paS (szTs p,szTs p + 1,szTs p + 1 + szT x)]) := by
 have e1 : lnTs 0 (p ++ [.op true x y]) = (lnTs 0 (p ++ [x,y])).map φ := by
  rw [lnTs_app,lnTs_app,List.map_append,lnTs_map p 0 0 φ (fun i hi => by subst hφ; simp [hi])]
  congr 1
  simp only [lnTs,lnT,List.append_nil,List.map_append,Nat.zero_add]
  rw [lnT_map x (szTs p) (szTs p + 1) φ (fun i hi => by subst hφ; dsimp only; rw [if_neg (by omega)]; omega),lnT_map y (szTs p + szT x) (szTs p + 1 + szT x) φ (fun i hi => by subst hφ; dsimp only; rw [if_neg (by omega)]; omega)]
 rw [e1,axS_map (by rw [atTs_len]; exact h)]
 have e2 : (stTs 0 (p ++ [x,y])).map (mapS φ) = stTs 0 p ++ (stT (szTs p + 1) x ++ stT (szTs p + 1 + szT x) y) := by
  rw [stTs_app,List.map_append,stTs_map p 0 0 φ (fun i hi => by subst hφ; simp [hi])]
  congr 1
  simp only [stTs,List.append_nil,List.map_append,Nat.zero_add]
  rw [stT_map x (szTs p) (szTs p + 1) φ (fun i hi => by subst hφ; dsimp only; rw [if_neg (by omega)]; omega),stT_map y (szTs p + szT x) (szTs p + 1 + szT x) φ (fun i hi => by subst hφ; dsimp only; rw [if_neg (by omega)]; omega)]
 rw [List.map_append,e2,stTs_app]
 refine permC fun s => ?_
 simp only [stTs,stT,List.append_nil,List.count_append,if_true,Nat.zero_add]
 omega
theorem par_cor (p : List Lt) (x y : Lt) (an : List (Nat × Nat)) (h : ∀ a ∈ an,a.1 < (atTs (p ++ [x,y])).length ∧ a.2 < (atTs (p ++ [x,y])).length) : CorT (p ++ [.op true x y]) an ↔ CorT (p ++ [x,y]) an := by
 obtain ⟨φ,hφ⟩ : ∃ φ : Nat → Nat,φ = fun z => if z < szTs p then z else z + 1 := ⟨_,rfl⟩
 have hp := par_perm p x y an h φ hφ
 have hs1 : szTs (p ++ [x,y]) = szTs p + (szT x + szT y) := by rw [szTs_app]; simp [szTs]
 have hs2 : szTs (p ++ [.op true x y]) = szTs p + (1 + szT x + szT y) := by rw [szTs_app]; simp [szTs,szT]
 have hx := szT_pos x
 have hy := szT_pos y
 have hn : ∀ z,φ z ≠ szTs p := by intro z; subst hφ; dsimp only; split <;> omega
 constructor
 ·intro hc
  refine Full.part (n := szTs (p ++ [x,y])) hc (φ := φ) (ρ := fun z => if z ≤ szTs p then z else z - 1) hp ?_ ?_ ?_ (by simp) (by simp)
  ·intro z; subst hφ; dsimp only; split <;> split <;> omega
  ·intro z hz; subst hφ; dsimp only; split <;> omega
  ·intro s hs
   rw [List.mem_singleton] at hs
   subst hs
   show (if szTs p ≤ szTs p then szTs p else szTs p - 1) = (if szTs p + 1 ≤ szTs p then szTs p + 1 else szTs p + 1 - 1)
   rw [if_pos (Nat.le_refl _),if_neg (by omega)]
   omega
 ·intro hc
  obtain ⟨T,t1,t2,t3⟩ := cor_can hc
  have hT : (axS (lnTs 0 (p ++ [.op true x y])) an ++ stTs 0 (p ++ [.op true x y])).Perm (T.map (mapS φ) ++ [paS (szTs p,szTs p + 1,szTs p + 1 + szT x)]) := hp.trans ((t1.map _).append_right _)
  unfold CorT
  refine Full.perm ?_ hT.symm
  refine Can.full (t2.put (φ := φ) (ρ := fun z => if z ≤ szTs p then z else z - 1) (L' := []) ?_ (by simp) (by simp)) ?_
  ·intro z; subst hφ; dsimp only; split <;> split <;> omega
  rw [List.append_nil]
  have hcon : ∀ a b,a < szTs (p ++ [x,y]) → b < szTs (p ++ [x,y]) → Con (ends (T.map (mapS φ))) (φ a) (φ b) := fun a b ha hb => con_ends_map (t3 a b ha hb)
  refine .step (s := paS (szTs p,szTs p + 1,szTs p + 1 + szT x)) (T := []) (by rfl) ?_ ?_ (.nil ?_)
  ·have := hcon (szTs p) (szTs p + szT x) (by omega) (by omega)
   rw [show φ (szTs p) = szTs p + 1 by subst hφ; simp,show φ (szTs p + szT x) = szTs p + 1 + szT x by subst hφ; dsimp only; rw [if_neg (by omega)]; omega] at this
   exact this
  ·intro g
   have := g.closed (fun z => z = szTs p) (fun e he => by
    obtain ⟨s,hs,rfl⟩ := mem_ends_map he
    simp [hn])
   simp [paS] at this
  ·have hall : ∀ a,a < szTs (p ++ [.op true x y]) → Con ((szTs p,szTs p + 1) :: ends (T.map (mapS φ))) a (szTs p + 1) := by
    intro a ha
    by_cases e : a = szTs p
    ·subst e; exact .edge (by simp)
    ·have : ∃ b,b < szTs (p ++ [x,y]) ∧ φ b = a := by
      by_cases g : a < szTs p
      ·exact ⟨a,by omega,by subst hφ; simp [g]⟩
      ·exact ⟨a - 1,by omega,by subst hφ; dsimp only; rw [if_neg (by omega)]; omega⟩
     obtain ⟨b,hb,rfl⟩ := this
     have := hcon b (szTs p) hb (by omega)
     rw [show φ (szTs p) = szTs p + 1 by subst hφ; simp] at this
     exact this.more _
   intro a b ha hb
   exact (hall a ha).trans (hall b hb).symm
theorem lk_in {A : List Ln} {an : List (Nat × Nat)} (h : Lk A an) : ∀ a ∈ an,a.1 < A.length ∧ a.2 < A.length := fun a ha => ⟨(h.1 a ha).1,(h.1 a ha).2.1⟩
theorem dlT_sz (t : Lt) : szT (dlT t) = szT t := by
 induction t with
 | atom => rfl
 | op p a b ha hb => rw [dlT,szT,szT,ha,hb]
theorem dlT_at (t : Lt) : atT (dlT t) = (atT t).map fun x => .mk 1 x.nm (!x.no) [] := by
 induction t with
 | atom nm no => rfl
 | op p a b ha hb => rw [dlT,atT,atT,ha,hb,List.map_append]
theorem dlT_ok (t : Lt) (h : LtOk t) : LtOk (dlT t) := by
 induction t with
 | atom nm no => exact h
 | op p a b ha hb => exact ⟨ha h.1,hb h.2⟩
theorem dlT_len (t : Lt) : (atT (dlT t)).length = (atT t).length := by rw [dlT_at,List.length_map]
theorem Con.alone {L : List (Nat × Nat)} {z y : Nat} (h : Con L z y) (hL : ∀ e ∈ L,e.1 ≠ z ∧ e.2 ≠ z) : y = z :=
 (h.closed (fun w => w = z) fun e he => ⟨fun g => absurd g (hL e he).1,fun g => absurd g (hL e he).2⟩).1 rfl
def zpS (a b : Nat) (t : Lt) : List Stp := ((lnT a t).zip (lnT b (dlT t))).map edS
def Iso (L : List (Nat × Nat)) (lo hi : Nat) : Prop := ∀ e ∈ L,(e.1 < lo ∨ hi ≤ e.1) ∧ (e.2 < lo ∨ hi ≤ e.2)
theorem id_can (t : Lt) : ∀ (a b : Nat),a + szT t ≤ b ∨ b + szT t ≤ a → ∃ S : List Stp,S.Perm (zpS a b t ++ (stT a t ++ stT b (dlT t))) ∧ (∀ s ∈ S,((a ≤ s.a ∧ s.a < a + szT t) ∨ (b ≤ s.a ∧ s.a < b + szT t)) ∧ ((a ≤ s.b ∧ s.b < a + szT t) ∨ (b ≤ s.b ∧ s.b < b + szT t))) ∧
  (∀ L : List (Nat × Nat),Iso L a (a + szT t) → Iso L b (b + szT t) → Can S L) ∧ ∀ x,(a ≤ x ∧ x < a + szT t) ∨ (b ≤ x ∧ x < b + szT t) → Con (ends S) x a := by
 induction t with
 | atom nm no =>
  intro a b hab
  simp only [szT] at hab ⊢
  refine ⟨[edS (a,b)],by simp [zpS,lnT,dlT,stT],?_,?_,?_⟩
  ·intro s hs
   rw [List.mem_singleton] at hs
   subst hs
   simp only [edS]
   omega
  ·intro L h1 h2
   refine .cons (.refl _) (fun g => ?_) (.nil _)
   have : b = a := g.alone (fun e he => by have := h1 e he; simp only [edS]; omega)
   omega
  ·intro x hx
   have : x = a ∨ x = b := by omega
   rcases this with rfl | rfl
   ·exact .refl _
   ·exact (Con.edge (by simp [ends,edS])).symm
 | op p t1 t2 ih1 ih2 =>
  intro a b hab
  simp only [szT] at hab ⊢
  have s1 := szT_pos t1
  have s2 := szT_pos t2
  obtain ⟨S1,p1,i1,c1,e1⟩ := ih1 (a + 1) (b + 1) (by omega)
  obtain ⟨S2,p2,i2,c2,e2⟩ := ih2 (a + 1 + szT t1) (b + 1 + szT t1) (by omega)
  -- the tensor's node x,the par's node y
  obtain ⟨x,y,hxy,hpq⟩ : ∃ x y,((x = a ∧ y = b) ∨ (x = b ∧ y = a)) ∧ ∀ s,List.count s (if p = true then [paS (a,a + 1,a + 1 + szT t1)] else [edS (a,a + 1),edS (a,a + 1 + szT t1)]) + List.count s (if (!p) = true then [paS (b,b + 1,b + 1 + szT t1)] else [edS (b,b + 1),edS (b,b + 1 + szT t1)]) = List.count s [edS (x,x + 1),edS (x,x + 1 + szT t1),paS (y,y + 1,y + 1 + szT t1)] := by
   cases p with
   | true =>
    refine ⟨b,a,.inr ⟨rfl,rfl⟩,fun s => ?_⟩
    simp only [if_true,Bool.not_true,Bool.false_eq_true,if_false]
    rw [show [edS (b,b + 1),edS (b,b + 1 + szT t1),paS (a,a + 1,a + 1 + szT t1)] = [edS (b,b + 1),edS (b,b + 1 + szT t1)] ++ [paS (a,a + 1,a + 1 + szT t1)] from rfl,List.count_append,Nat.add_comm]
   | false =>
    refine ⟨a,b,.inl ⟨rfl,rfl⟩,fun s => ?_⟩
    simp only [if_true,Bool.not_false,Bool.false_eq_true,if_false]
    rw [show [edS (a,a + 1),edS (a,a + 1 + szT t1),paS (b,b + 1,b + 1 + szT t1)] = [edS (a,a + 1),edS (a,a + 1 + szT t1)] ++ [paS (b,b + 1,b + 1 + szT t1)] from rfl,List.count_append]
  have hx1 : Con (ends S1) (x + 1) (a + 1) := e1 _ (by omega)
  have hy1 : Con (ends S1) (y + 1) (a + 1) := e1 _ (by omega)
  have hx2 : Con (ends S2) (x + 1 + szT t1) (a + 1 + szT t1) := e2 _ (by omega)
  have hy2 : Con (ends S2) (y + 1 + szT t1) (a + 1 + szT t1) := e2 _ (by omega)
  have j1 : ∀ e ∈ ends S1,((a + 1 ≤ e.1 ∧ e.1 < a + 1 + szT t1) ∨ (b + 1 ≤ e.1 ∧ e.1 < b + 1 + szT t1)) ∧ ((a + 1 ≤ e.2 ∧ e.2 < a + 1 + szT t1) ∨ (b + 1 ≤ e.2 ∧ e.2 < b + 1 + szT t1)) := fun e he => by
   obtain ⟨s,hs,rfl⟩ := mem_ends.1 he
   exact i1 s hs
  have j2 : ∀ e ∈ ends S2,((a + 1 + szT t1 ≤ e.1 ∧ e.1 < a + 1 + szT t1 + szT t2) ∨ (b + 1 + szT t1 ≤ e.1 ∧ e.1 < b + 1 + szT t1 + szT t2)) ∧ ((a + 1 + szT t1 ≤ e.2 ∧ e.2 < a + 1 + szT t1 + szT t2) ∨ (b + 1 + szT t1 ≤ e.2 ∧ e.2 < b + 1 + szT t1 + szT t2)) := fun e he => by
   obtain ⟨s,hs,rfl⟩ := mem_ends.1 he
   exact i2 s hs
  refine ⟨S1 ++ (S2 ++ [edS (x,x + 1),edS (x,x + 1 + szT t1),paS (y,y + 1,y + 1 + szT t1)]),?_,?_,?_,?_⟩
  ·refine permC fun s => ?_
   have q1 := p1.count_eq s
   have q2 := p2.count_eq s
   have q3 := hpq s
   rw [zpS,dlT,stT,stT,dlT_sz,lnT,lnT,dlT_sz,List.zip_append (by rw [atT_len,atT_len,dlT_len]),List.map_append]
   simp only [List.count_append,zpS] at q1 q2 q3 ⊢
   omega
  ·intro s hs
   rcases List.mem_append.1 hs with hs | hs
   ·have := i1 s hs; omega
   rcases List.mem_append.1 hs with hs | hs
   ·have := i2 s hs; omega
   simp only [List.mem_cons,List.not_mem_nil,or_false] at hs
   rcases hs with rfl | rfl | rfl <;> simp only [edS,paS] <;> omega
  ·intro L h1 h2
   refine (c1 L (fun e he => by have := h1 e he; omega) (fun e he => by have := h2 e he; omega)).app ((c2 _ (fun e he => ?_) (fun e he => ?_)).app ?_)
   ·rcases List.mem_append.1 he with he | he
    ·have := j1 e he; omega
    ·have := h1 e he; omega
   ·rcases List.mem_append.1 he with he | he
    ·have := j1 e he; omega
    ·have := h2 e he; omega
   have jj : ∀ e ∈ ends S2 ++ (ends S1 ++ L),e.1 ≠ a ∧ e.1 ≠ b ∧ e.2 ≠ a ∧ e.2 ≠ b := by
    intro e he
    rcases List.mem_append.1 he with he | he
    ·have := j2 e he; omega
    rcases List.mem_append.1 he with he | he
    ·have := j1 e he; omega
    ·have := h1 e he; have := h2 e he; omega
   refine .cons (.refl _) (fun g => ?_) (.cons (.refl _) (fun g => ?_) (.cons ?_ (fun g => ?_) (.nil _)))
   ·have : x + 1 = x := g.alone (fun e he => by have := jj e he; simp only [edS]; omega)
    omega
   ·have : x + 1 + szT t1 = x ∨ (a + 1 ≤ x + 1 + szT t1 ∧ x + 1 + szT t1 < a + 1 + szT t1) ∨ (b + 1 ≤ x + 1 + szT t1 ∧ x + 1 + szT t1 < b + 1 + szT t1) := (g.closed (fun z => z = x ∨ (a + 1 ≤ z ∧ z < a + 1 + szT t1) ∨ (b + 1 ≤ z ∧ z < b + 1 + szT t1)) (fun e he => by
     rcases List.mem_cons.1 he with rfl | he
     ·exact ⟨fun _ => .inr (by simp only [edS]; omega),fun _ => .inl rfl⟩
     rcases List.mem_append.1 he with he | he
     ·have := j2 e he; omega
     rcases List.mem_append.1 he with he | he
     ·have := j1 e he; omega
     ·have := h1 e he; have := h2 e he; omega)).1 (.inl rfl)
    omega
   ·simp only [paS,edS]
    have m1 : ∀ {u v : Nat},Con (ends S1) u v → Con ((x,x + 1 + szT t1) :: (x,x + 1) :: (ends S2 ++ (ends S1 ++ L))) u v := fun h => h.mono fun e he => by simp [he]
    have m2 : ∀ {u v : Nat},Con (ends S2) u v → Con ((x,x + 1 + szT t1) :: (x,x + 1) :: (ends S2 ++ (ends S1 ++ L))) u v := fun h => h.mono fun e he => by simp [he]
    exact (((m1 hy1).trans (m1 hx1).symm).trans (Con.edge (a := x) (b := x + 1) (by simp)).symm).trans ((Con.edge (a := x) (b := x + 1 + szT t1) (by simp)).trans ((m2 hx2).trans (m2 hy2).symm))
   ·have : y + 1 = y := g.alone (fun e he => by
     rcases List.mem_cons.1 he with rfl | he
     ·simp only [edS,paS]; omega
     rcases List.mem_cons.1 he with rfl | he
     ·simp only [edS,paS]; omega
     have := jj e he; simp only [paS]; omega)
    omega
  ·obtain ⟨E,hE⟩ : ∃ E,ends (S1 ++ (S2 ++ [edS (x,x + 1),edS (x,x + 1 + szT t1),paS (y,y + 1,y + 1 + szT t1)])) = E := ⟨_,rfl⟩
   rw [hE]
   have m1 : ∀ {u v : Nat},Con (ends S1) u v → Con E u v := fun h => h.mono fun e he => by rw [← hE,ends_app]; simp [he]
   have m2 : ∀ {u v : Nat},Con (ends S2) u v → Con E u v := fun h => h.mono fun e he => by rw [← hE,ends_app,ends_app]; simp [he]
   have k1 : Con E x (x + 1) := .edge (by rw [← hE,ends_app,ends_app]; simp [ends,edS,paS])
   have k2 : Con E x (x + 1 + szT t1) := .edge (by rw [← hE,ends_app,ends_app]; simp [ends,edS,paS])
   have k3 : Con E y (y + 1) := .edge (by rw [← hE,ends_app,ends_app]; simp [ends,edS,paS])
   have all1 : ∀ z,(a + 1 ≤ z ∧ z < a + 1 + szT t1) ∨ (b + 1 ≤ z ∧ z < b + 1 + szT t1) → Con E z x := fun z hz => (m1 (e1 z hz)).trans ((m1 hx1).symm.trans k1.symm)
   have all2 : ∀ z,(a + 1 + szT t1 ≤ z ∧ z < a + 1 + szT t1 + szT t2) ∨ (b + 1 + szT t1 ≤ z ∧ z < b + 1 + szT t1 + szT t2) → Con E z x := fun z hz => (m2 (e2 z hz)).trans ((m2 hx2).symm.trans k2.symm)
   have ally : Con E y x := k3.trans (all1 _ (by omega))
   have all : ∀ z,(a ≤ z ∧ z < a + (1 + szT t1 + szT t2)) ∨ (b ≤ z ∧ z < b + (1 + szT t1 + szT t2)) → Con E z x := by
    intro z hz
    by_cases g1 : z = x
    ·subst g1; exact .refl _
    by_cases g2 : z = y
    ·subst g2; exact ally
    by_cases g3 : (a + 1 ≤ z ∧ z < a + 1 + szT t1) ∨ (b + 1 ≤ z ∧ z < b + 1 + szT t1)
    ·exact all1 z g3
    ·exact all2 z (by omega)
   intro z hz
   exact (all z hz).trans (all a (by omega)).symm
def strL (n k : Nat) : List (Nat × Nat) := (List.range k).map fun i => (i,n + i)
theorem strL_succ (n k : Nat) : strL n (k + 1) = strL n k ++ [(k,n + k)] := by unfold strL; rw [List.range_succ,List.map_append]; rfl
theorem strL_flat (n : Nat) : ∀ k,k ≤ n → (flat2 (strL n k)).Nodup ∧ ∀ x,x ∈ flat2 (strL n k) ↔ x < k ∨ (n ≤ x ∧ x < n + k) := by
 intro k
 induction k with
 | zero => intro _; refine ⟨by simp [strL,flat2],fun x => ?_⟩; simp [strL,flat2]
 | succ k ih =>
  intro hk
  obtain ⟨h1,h2⟩ := ih (by omega)
  have e : flat2 (strL n (k + 1)) = flat2 (strL n k) ++ [k,n + k] := by rw [strL_succ]; unfold flat2; rw [List.flatMap_append]; rfl
  rw [e]
  refine ⟨?_,fun x => ?_⟩
  ·rw [List.nodup_append]
   refine ⟨h1,?_,?_⟩
   ·rw [List.nodup_cons]; refine ⟨?_,by simp⟩; simp; omega
   ·intro u hu v hv
    have := (h2 u).1 hu
    simp only [List.mem_cons,List.not_mem_nil,or_false] at hv
    omega
  ·rw [List.mem_append,h2]
   simp only [List.mem_cons,List.not_mem_nil,or_false]
   omega
theorem str_lk (t : Lt) : Lk (atTs [t,dlT t]) (strL (atT t).length (atT t).length) := by
 have hA : atTs [t,dlT t] = atT t ++ (atT t).map fun x => .mk 1 x.nm (!x.no) [] := by simp [atTs,dlT_at]
 obtain ⟨h1,h2⟩ := strL_flat (atT t).length (atT t).length (Nat.le_refl _)
 rw [hA]
 refine ⟨?_,h1,?_⟩
 ·intro a ha
  obtain ⟨i,hi,rfl⟩ := List.mem_map.1 ha
  rw [List.mem_range] at hi
  rw [List.length_append,List.length_map]
  refine ⟨by dsimp only; omega,by dsimp only; omega,?_⟩
  dsimp only
  rw [getElem!_pos _ i (by rw [List.length_append]; omega),getElem!_pos _ ((atT t).length + i) (by rw [List.length_append,List.length_map]; omega),List.getElem_append_left hi,List.getElem_append_right (by omega)]
  simp [fits,ln_mk]
 ·intro k hk
  rw [List.length_append,List.length_map] at hk
  exact (h2 k).2 (by omega)
theorem str_cor (t : Lt) : CorT [t,dlT t] (strL (atT t).length (atT t).length) := by
 obtain ⟨S,h1,h2,h3,h4⟩ := id_can t 0 (szT t) (by omega)
 have hz : axS (lnTs 0 [t,dlT t]) (strL (atT t).length (atT t).length) = zpS 0 (szT t) t := by
  have l1 : (lnT 0 t).length = (atT t).length := atT_len t 0
  have l2 : (lnT (szT t) (dlT t)).length = (atT t).length := by rw [atT_len,dlT_len]
  have e : lnTs 0 [t,dlT t] = lnT 0 t ++ lnT (szT t) (dlT t) := by simp [lnTs]
  rw [e]
  apply List.ext_getElem
  ·simp [axS,strL,zpS,l1,l2]
  ·intro i g1 g2
   have gi : i < (atT t).length := by simpa [axS,strL] using g1
   simp only [axS,strL,zpS,List.getElem_map,List.getElem_range,List.getElem_zip]
   rw [get!_app1 (by omega),← l1,get!_app2 (by omega),getElem!_pos _ i (by omega),getElem!_pos _ i (by omega)]
 unfold CorT
 rw [hz]
 have hs : stTs 0 [t,dlT t] = stT 0 t ++ stT (szT t) (dlT t) := by simp [stTs]
 rw [hs]
 refine Full.perm ?_ h1
 rw [← List.append_nil S]
 refine (h3 [] (by simp [Iso]) (by simp [Iso])).full (.nil fun x y hx hy => ?_)
 have hsz : szTs [t,dlT t] = szT t + szT t := by simp [szTs,dlT_sz]
 rw [List.append_nil]
 exact (h4 x (by omega)).trans (h4 y (by omega)).symm
end Go.Proofs.Ytbdionmmfigfiaa
namespace Go.Pv
open Go
theorem callOK_softR {P : Program} {f : FuncId} {args : List PV} {v v' : PV} {s s' : Store} (h : CallOK P f args s v' s') (hs : Soft v v') : CallOK P f args s v s' := by
 intro pub σ w cargs hb ha
 refine (h pub σ w cargs hb ha).mono ?_
 rintro e w' ⟨cv,pub',σ',rfl,h1,h2⟩
 exact ⟨cv,pub',σ',rfl,h1,hs.rel h2⟩
end Go.Pv
namespace Go.Proofs.Ytbdionmmfigfiaa
open Go Go.Pv
def pB : ByteArray := ⟨#[112]⟩
def idL (par : Bool) : Lt := .op par (.atom pB false) (.atom pB true)
def x33 : XC := .seq (.reg [⟨some 2,.assign (.const (.slice none 0 0)),none⟩]) (.seq (.reg [⟨some 3,.move (.tmp 0),none⟩,⟨some 4,.build 24 #[(0,.const (.int .i64 1)),(1,.const (.string ⟨#[112]⟩))],none⟩,⟨some 5,.build 24 #[(0,.const (.int .i64 1)),(1,.const (.string ⟨#[112]⟩)),(2,.const (.bool true))],none⟩,⟨some 6,.buildSlice 22 2 #[(0,.tmp 4),(1,.tmp 5)],none⟩,⟨some 7,.build 24 #[(0,.tmp 3),(3,.tmp 6)],none⟩,⟨some 8,.buildSlice 22 1 #[(0,.tmp 7)],none⟩,⟨some 2,.assign (.tmp 8),none⟩]) .ret)
@[simp] theorem x33_s {C e s K} : type_of% (@X_at C e s K _ _ x33.eq_1) := X_at x33.eq_1
def an33 : Ann := ⟨[],[],[]⟩
theorem fi33 : FI Try.prog 33 (cxA an33) x33 [.tmp 2] Try.f33 := fiA Try.func33 mixed
theorem identity_law (par : Bool) : CallOK Try.prog 33 [.int .i64 (if par = true then 3 else 2)] [] (.list (([idL par].map lnOf).map lnr)) [] := by
 have e : ([idL par].map lnOf).map lnr = [[.int .i64 (if par = true then 3 else 2),.str ⟨#[]⟩,.bool false,.list [[.int .i64 1,.str pB,.bool false,.list []],[.int .i64 1,.str pB,.bool true,.list []]]]] := by
  simp only [List.map_cons,List.map_nil,idL,lnOf,lnr_eq,ln_mk]
 rw [e]
 refine callOK_softR (v' := .list [[.int .i64 (if par = true then 3 else 2),.str ⟨#[]⟩,.bool false,.list [[.int .i64 1,.str pB,.bool false,.nilsl],[.int .i64 1,.str pB,.bool true,.nilsl]]]]) (fi33.op ?_) ?_
 ·generalize (if par = true then (3 : Int) else 2) = k
  unfold pB
  (refine Sg.h ?_;try repeat' ((with_reducible first|refine brA ?_|refine brE fun _=>?_|refine spl ⟨?_,?_⟩<;>intro _)<;> ((try simp -implicitDefEqProofs); (try simp -implicitDefEqProofs(disch:=first|assumption|(try simp only[lens]);omega -splitDisjunctions)))))
 ·exact .list (.cons (.cons .refl (.cons .refl (.cons .refl (.cons (.list (.cons (.cons .refl (.cons .refl (.cons .refl (.cons .nil .nil)))) (.cons (.cons .refl (.cons .refl (.cons .refl (.cons .nil .nil)))) .nil))) .nil)))) .nil)
theorem idL_ok (par : Bool) : ∀ t ∈ [idL par],LtOk t := by
 intro t ht
 rw [List.mem_singleton] at ht
 subst ht
 exact ⟨by unfold LtOk; decide,by unfold LtOk; decide⟩
theorem idL_lk (par : Bool) : Lk (atTs [idL par]) [(0,1)] := by
 have h := str_lk (.atom pB false)
 have e : atTs [.atom pB false,dlT (.atom pB false)] = atTs [idL par] := rfl
 rw [e] at h
 exact h
theorem idL_par : corB [idL true] [(0,1)] = true := by
 rw [corB_iff]
 have h := str_cor (.atom pB false)
 exact (par_cor [] (.atom pB false) (.atom pB true) [(0,1)] (by intro a ha; rw [List.mem_singleton] at ha; subst ha; exact ⟨by decide,by decide⟩)).2 h
theorem idL_ten : corB [idL false] [(0,1)] = false := by
 rw [Bool.eq_false_iff]
 intro h
 have h : Full 3 [edS (1,2),edS (0,1),edS (0,2)] [] := corB_iff.1 h
 have h1 := h.exch (s := edS (1,2)) (T := [edS (0,1),edS (0,2)]) (.refl _) (.refl _)
 have h2 := h1.exch (s := edS (0,1)) (T := [edS (0,2)]) (.refl _) (.refl _)
 refine h2.later (s := edS (0,2)) (by simp) ?_
 exact (Con.edge (a := 0) (b := 1) (by simp [edS])).trans (Con.edge (a := 1) (b := 2) (by simp [edS]))
def x8 : XC := .seq (.reg [⟨some 0,.assign (.const (.bool false)),none⟩]) (.seq (.reg [⟨some 6,.call ⟨.value (.func 33),#[.const (.int .i64 3)],#[3]⟩,none⟩,⟨some 7,.build 33 #[(0,.const (.int .i64 0)),(1,.const (.int .i64 1))],none⟩,⟨some 8,.buildSlice 25 1 #[(0,.tmp 7)],none⟩,⟨some 9,.call ⟨.value (.func 13),#[.tmp 6,.tmp 8],#[22,25]⟩,none⟩,⟨some 5,.move (.tmp 9),none⟩,⟨some 10,.extract (.tmp 5) 0,none⟩,⟨some 11,.extract (.tmp 5) 1,none⟩,⟨some 2,.alloc 29,none⟩,⟨some 1,.assign (.tmp 10),none⟩,⟨none,.store 29 (.tmp 2) (.tmp 11),none⟩]) (.seq (.reg [⟨some 13,.call ⟨.value (.func 33),#[.const (.int .i64 2)],#[3]⟩,none⟩,⟨some 14,.build 33 #[(0,.const (.int .i64 0)),(1,.const (.int .i64 1))],none⟩,⟨some 15,.buildSlice 25 1 #[(0,.tmp 14)],none⟩,⟨some 16,.call ⟨.value (.func 13),#[.tmp 13,.tmp 15],#[22,25]⟩,none⟩,⟨some 12,.move (.tmp 16),none⟩,⟨some 17,.extract (.tmp 12) 0,none⟩,⟨some 18,.extract (.tmp 12) 1,none⟩,⟨some 4,.alloc 29,none⟩,⟨some 3,.assign (.tmp 17),none⟩,⟨none,.store 29 (.tmp 4) (.tmp 18),none⟩]) (.seq (.reg [⟨some 19,.fieldAddr 29 (.tmp 2) 0,none⟩,⟨some 20,.load 3 (.tmp 19),none⟩,⟨some 21,.binOp .eql 3 (.tmp 20) (.const (.int .i64 0)) 3,none⟩,⟨some 22,.move (.tmp 21),none⟩,⟨some 23,.fieldAddr 29 (.tmp 4) 0,some (some 22,true)⟩,⟨some 24,.load 3 (.tmp 23),some (some 22,true)⟩,⟨some 25,.binOp .eql 3 (.tmp 24) (.const (.int .i64 0)) 3,some (some 22,true)⟩,⟨some 26,.pick (.tmp 22) (.tmp 25) (.const (.bool false)),none⟩,⟨some 27,.move (.tmp 26),none⟩,⟨some 28,.move (.tmp 1),some (some 27,true)⟩,⟨some 29,.pick (.tmp 27) (.tmp 28) (.const (.bool false)),none⟩,⟨some 30,.move (.tmp 29),none⟩,⟨some 31,.move (.tmp 3),some (some 30,true)⟩,⟨some 32,.unOp .not 4 (.tmp 31),some (some 30,true)⟩,⟨some 33,.pick (.tmp 30) (.tmp 32) (.const (.bool false)),none⟩,⟨some 0,.assign (.tmp 33),none⟩]) .ret)))
@[simp] theorem x8_s {C e s K} : type_of% (@X_at C e s K _ _ x8.eq_1) := X_at x8.eq_1
def an8 : Ann := ⟨[],[],[]⟩
theorem fi8 : FI Try.prog 8 (cxA an8) x8 [.tmp 0] Try.f8 := fiA Try.func8 mixed
theorem netBegun_law : CallOK Try.prog 8 [] [] (.bool true) [] := by
 have i3 := identity_law true
 have i2 := identity_law false
 rw [if_pos rfl] at i3
 rw [if_neg (by decide)] at i2
 have h (par : Bool) := Correct_ok [idL par] [(0,1)] (idL_ok par) (by simp) (by simp) (by cases par <;> decide) (by cases par <;> decide) (idL_lk par)
 have h3 := h true
 have h2 := h false
 rw [idL_par] at h3
 rw [idL_ten] at h2
 have e : (cst [(0,1)]).map relRow = [[.int .i64 0,.int .i64 1]] := rfl
 rw [e] at h2 h3
 clear h
 generalize ([idL true].map lnOf).map lnr = l3 at *
 generalize ([idL false].map lnOf).map lnr = l2 at *
 refine fi8.op ?_
 (refine Sg.h ?_;try repeat' ((first | (with_reducible first|refine brA ?_|refine brE fun _=>?_|refine spl ⟨?_,?_⟩<;>intro _) | refine clo i3 ?_) <;> ((try simp -implicitDefEqProofs); (try simp -implicitDefEqProofs(disch:=first|assumption|(try simp only[lens]);omega -splitDisjunctions)))))
 refine CL.giv [0] ?_
 (refine Sg.h ?_;try repeat' ((first | (with_reducible first|refine brA ?_|refine brE fun _=>?_|refine spl ⟨?_,?_⟩<;>intro _) | refine clo h3 ?_ | refine clo i2 ?_) <;> ((try simp -implicitDefEqProofs); (try simp -implicitDefEqProofs(disch:=first|assumption|(try simp only[lens]);omega -splitDisjunctions)))))
 refine CL.giv [2] ?_
 (refine Sg.h ?_;try repeat' ((first | (with_reducible first|refine brA ?_|refine brE fun _=>?_|refine spl ⟨?_,?_⟩<;>intro _) | refine clo h2 ?_) <;> ((try simp -implicitDefEqProofs); (try simp -implicitDefEqProofs(disch:=first|assumption|(try simp only[lens]);omega -splitDisjunctions)))))
end Go.Proofs.Ytbdionmmfigfiaa
