import Derived.Test.YtbdionmmfigfiaaDNtP
set_option linter.unusedVariables false
set_option linter.unusedSimpArgs false
set_option maxRecDepth 100000
set_option maxHeartbeats 4000000
namespace Go.Proofs.Ytbdionmmfigfiaa
open Go Go.Pv
instance : DecidableEq Stp := fun s t => decidable_of_iff ((s.a,s.b,s.c,s.d) = (t.a,t.b,t.c,t.d)) ⟨fun h => by cases s; cases t; simp at h; simp [h],fun h => by rw [h]⟩
theorem permC {l m : List Stp} (h : ∀ s,l.count s = m.count s) : l.Perm m := List.perm_iff_count.2 h
theorem get!_app1 {A B : List Nat} {i : Nat} (h : i < A.length) : (A ++ B)[i]! = A[i]! := by
 rw [getElem!_pos _ i (by simp; omega),getElem!_pos _ i h,List.getElem_append_left h]
theorem get!_app2 {A B : List Nat} {i : Nat} (h : i < B.length) : (A ++ B)[A.length + i]! = B[i]! := by
 rw [getElem!_pos _ _ (by simp; omega),getElem!_pos _ i h,List.getElem_append_right (by omega)]
 congr 1; omega
theorem get!_map {A : List Nat} {φ : Nat → Nat} {i : Nat} (h : i < A.length) : (A.map φ)[i]! = φ A[i]! := by
 rw [getElem!_pos _ _ (by simp; omega),getElem!_pos _ i h,List.getElem_map]
theorem axS_map {A : List Nat} {φ : Nat → Nat} {an : List (Nat × Nat)} (h : ∀ a ∈ an,a.1 < A.length ∧ a.2 < A.length) : axS (A.map φ) an = (axS A an).map (mapS φ) := by
 unfold axS
 rw [List.map_map]
 refine List.map_congr_left fun a ha => ?_
 simp only [Function.comp]
 rw [get!_map (h a ha).1,get!_map (h a ha).2]
 rfl
theorem mem_ends_map {φ : Nat → Nat} {T : List Stp} {e : Nat × Nat} (h : e ∈ ends (T.map (mapS φ))) : ∃ s ∈ T,e = (φ s.a,φ s.b) := by
 obtain ⟨s,hs,rfl⟩ := mem_ends.1 h
 obtain ⟨t,ht,rfl⟩ := List.mem_map.1 hs
 exact ⟨t,ht,rfl⟩
theorem con_ends_map {φ : Nat → Nat} {T : List Stp} {x y : Nat} (h : Con (ends T) x y) : Con (ends (T.map (mapS φ))) (φ x) (φ y) :=
 h.hom φ fun e he => by
  obtain ⟨s,hs,rfl⟩ := mem_ends.1 he
  exact .edge (mem_ends.2 ⟨mapS φ s,List.mem_map_of_mem hs,rfl⟩)
theorem cor_can {ts : List Lt} {an : List (Nat × Nat)} (h : CorT ts an) : ∃ T,(axS (lnTs 0 ts) an ++ stTs 0 ts).Perm T ∧ Can T [] ∧ ∀ x y,x < szTs ts → y < szTs ts → Con (ends T) x y := by
 obtain ⟨T,h1,h2,h3⟩ := h.can
 exact ⟨T,h1,h2,fun x y hx hy => by have := h3 x y hx hy; rwa [List.append_nil] at this⟩
theorem par_perm (p : List Lt) (x y : Lt) (an : List (Nat × Nat)) (h : ∀ a ∈ an,a.1 < (atTs (p ++ [x,y])).length ∧ a.2 < (atTs (p ++ [x,y])).length) (φ : Nat → Nat) (hφ : φ = fun z => if z < szTs p then z else z + 1) :
  (axS (lnTs 0 (p ++ [.op true x y])) an ++ stTs 0 (p ++ [.op true x y])).Perm ((axS (lnTs 0 (p ++ [x,y])) an ++ stTs 0 (p ++ [x,y])).map (mapS φ) ++ [paS (szTs p,szTs p + 1,szTs p + 1 + szT x)]) := by
 have e1 : lnTs 0 (p ++ [.op true x y]) = (lnTs 0 (p ++ [x,y])).map φ := by
  rw [lnTs_app,lnTs_app,List.map_append,lnTs_map p 0 0 φ (fun i hi => by subst hφ; simp [hi])]
  congr 1
  simp only [lnTs,lnT,List.append_nil,List.map_append,Nat.zero_add]
  rw [lnT_map x (szTs p) (szTs p + 1) φ (fun i hi => by subst hφ; dsimp only; rw [if_neg (by omega)]; omega),lnT_map y (szTs p + szT x) (szTs p + 1 + szT x) φ (fun i hi => by subst hφ; dsimp only; rw [if_neg (by omega)]; omega)]
 rw [e1,axS_map (by rw [atTs_len]; exact h)]
 have e2 : (stTs 0 (p ++ [x,y])).map (mapS φ) = stTs 0 p ++ (stT (szTs p + 1) x ++ stT (szTs p + 1 + szT x) y) := by
  rw [stTs_app,List.map_append,stTs_map p 0 0 φ (fun i hi => by subst hφ; simp [hi])]
  congr 1
  simp only [stTs,List.append_nil,List.map_append,Nat.zero_add]
  rw [stT_map x (szTs p) (szTs p + 1) φ (fun i hi => by subst hφ; dsimp only; rw [if_neg (by omega)]; omega),stT_map y (szTs p + szT x) (szTs p + 1 + szT x) φ (fun i hi => by subst hφ; dsimp only; rw [if_neg (by omega)]; omega)]
 rw [List.map_append,e2,stTs_app]
 refine permC fun s => ?_
 simp only [stTs,stT,List.append_nil,List.count_append,if_true,Nat.zero_add]
 omega
theorem par_cor (p : List Lt) (x y : Lt) (an : List (Nat × Nat)) (h : ∀ a ∈ an,a.1 < (atTs (p ++ [x,y])).length ∧ a.2 < (atTs (p ++ [x,y])).length) : CorT (p ++ [.op true x y]) an ↔ CorT (p ++ [x,y]) an := by
 obtain ⟨φ,hφ⟩ : ∃ φ : Nat → Nat,φ = fun z => if z < szTs p then z else z + 1 := ⟨_,rfl⟩
 have hp := par_perm p x y an h φ hφ
 have hs1 : szTs (p ++ [x,y]) = szTs p + (szT x + szT y) := by rw [szTs_app]; simp [szTs]
 have hs2 : szTs (p ++ [.op true x y]) = szTs p + (1 + szT x + szT y) := by rw [szTs_app]; simp [szTs,szT]
 have hx := szT_pos x
 have hy := szT_pos y
 have hn : ∀ z,φ z ≠ szTs p := by intro z; subst hφ; dsimp only; split <;> omega
 constructor
 ·intro hc
  refine Full.part (n := szTs (p ++ [x,y])) hc (φ := φ) (ρ := fun z => if z ≤ szTs p then z else z - 1) hp ?_ ?_ ?_ (by simp) (by simp)
  ·intro z; subst hφ; dsimp only; split <;> split <;> omega
  ·intro z hz; subst hφ; dsimp only; split <;> omega
  ·intro s hs
   rw [List.mem_singleton] at hs
   subst hs
   show (if szTs p ≤ szTs p then szTs p else szTs p - 1) = (if szTs p + 1 ≤ szTs p then szTs p + 1 else szTs p + 1 - 1)
   rw [if_pos (Nat.le_refl _),if_neg (by omega)]
   omega
 ·intro hc
  obtain ⟨T,t1,t2,t3⟩ := cor_can hc
  have hT : (axS (lnTs 0 (p ++ [.op true x y])) an ++ stTs 0 (p ++ [.op true x y])).Perm (T.map (mapS φ) ++ [paS (szTs p,szTs p + 1,szTs p + 1 + szT x)]) := hp.trans ((t1.map _).append_right _)
  unfold CorT
  refine Full.perm ?_ hT.symm
  refine Can.full (t2.put (φ := φ) (ρ := fun z => if z ≤ szTs p then z else z - 1) (L' := []) ?_ (by simp) (by simp)) ?_
  ·intro z; subst hφ; dsimp only; split <;> split <;> omega
  rw [List.append_nil]
  have hcon : ∀ a b,a < szTs (p ++ [x,y]) → b < szTs (p ++ [x,y]) → Con (ends (T.map (mapS φ))) (φ a) (φ b) := fun a b ha hb => con_ends_map (t3 a b ha hb)
  refine .step (s := paS (szTs p,szTs p + 1,szTs p + 1 + szT x)) (T := []) (by rfl) ?_ ?_ (.nil ?_)
  ·have := hcon (szTs p) (szTs p + szT x) (by omega) (by omega)
   rw [show φ (szTs p) = szTs p + 1 by subst hφ; simp,show φ (szTs p + szT x) = szTs p + 1 + szT x by subst hφ; dsimp only; rw [if_neg (by omega)]; omega] at this
   exact this
  ·intro g
   have := g.closed (fun z => z = szTs p) (fun e he => by
    obtain ⟨s,hs,rfl⟩ := mem_ends_map he
    simp [hn])
   simp [paS] at this
  ·have hall : ∀ a,a < szTs (p ++ [.op true x y]) → Con ((szTs p,szTs p + 1) :: ends (T.map (mapS φ))) a (szTs p + 1) := by
    intro a ha
    by_cases e : a = szTs p
    ·subst e; exact .edge (by simp)
    ·have : ∃ b,b < szTs (p ++ [x,y]) ∧ φ b = a := by
      by_cases g : a < szTs p
      ·exact ⟨a,by omega,by subst hφ; simp [g]⟩
      ·exact ⟨a - 1,by omega,by subst hφ; dsimp only; rw [if_neg (by omega)]; omega⟩
     obtain ⟨b,hb,rfl⟩ := this
     have := hcon b (szTs p) hb (by omega)
     rw [show φ (szTs p) = szTs p + 1 by subst hφ; simp] at this
     exact this.more _
   intro a b ha hb
   exact (hall a ha).trans (hall b hb).symm
theorem lk_in {A : List Ln} {an : List (Nat × Nat)} (h : Lk A an) : ∀ a ∈ an,a.1 < A.length ∧ a.2 < A.length := fun a ha => ⟨(h.1 a ha).1,(h.1 a ha).2.1⟩
theorem dlT_sz (t : Lt) : szT (dlT t) = szT t := by
 induction t with
 | atom => rfl
 | op p a b ha hb => rw [dlT,szT,szT,ha,hb]
theorem dlT_at (t : Lt) : atT (dlT t) = (atT t).map fun x => .mk 1 x.nm (!x.no) [] := by
 induction t with
 | atom nm no => rfl
 | op p a b ha hb => rw [dlT,atT,atT,ha,hb,List.map_append]
theorem dlT_len (t : Lt) : (atT (dlT t)).length = (atT t).length := by rw [dlT_at,List.length_map]
theorem Con.alone {L : List (Nat × Nat)} {z y : Nat} (h : Con L z y) (hL : ∀ e ∈ L,e.1 ≠ z ∧ e.2 ≠ z) : y = z :=
 (h.closed (fun w => w = z) fun e he => ⟨fun g => absurd g (hL e he).1,fun g => absurd g (hL e he).2⟩).1 rfl
def zpS (a b : Nat) (t : Lt) : List Stp := ((lnT a t).zip (lnT b (dlT t))).map edS
def Iso (L : List (Nat × Nat)) (lo hi : Nat) : Prop := ∀ e ∈ L,(e.1 < lo ∨ hi ≤ e.1) ∧ (e.2 < lo ∨ hi ≤ e.2)
theorem id_can (t : Lt) : ∀ (a b : Nat),a + szT t ≤ b ∨ b + szT t ≤ a → ∃ S : List Stp,S.Perm (zpS a b t ++ (stT a t ++ stT b (dlT t))) ∧ (∀ s ∈ S,((a ≤ s.a ∧ s.a < a + szT t) ∨ (b ≤ s.a ∧ s.a < b + szT t)) ∧ ((a ≤ s.b ∧ s.b < a + szT t) ∨ (b ≤ s.b ∧ s.b < b + szT t))) ∧
  (∀ L : List (Nat × Nat),Iso L a (a + szT t) → Iso L b (b + szT t) → Can S L) ∧ ∀ x,(a ≤ x ∧ x < a + szT t) ∨ (b ≤ x ∧ x < b + szT t) → Con (ends S) x a := by
 induction t with
 | atom nm no =>
  intro a b hab
  simp only [szT] at hab ⊢
  refine ⟨[edS (a,b)],by simp [zpS,lnT,dlT,stT],?_,?_,?_⟩
  ·intro s hs
   rw [List.mem_singleton] at hs
   subst hs
   simp only [edS]
   omega
  ·intro L h1 h2
   refine .cons (.refl _) (fun g => ?_) (.nil _)
   have : b = a := g.alone (fun e he => by have := h1 e he; simp only [edS]; omega)
   omega
  ·intro x hx
   have : x = a ∨ x = b := by omega
   rcases this with rfl | rfl
   ·exact .refl _
   ·exact (Con.edge (by simp [ends,edS])).symm
 | op p t1 t2 ih1 ih2 =>
  intro a b hab
  simp only [szT] at hab ⊢
  have s1 := szT_pos t1
  have s2 := szT_pos t2
  obtain ⟨S1,p1,i1,c1,e1⟩ := ih1 (a + 1) (b + 1) (by omega)
  obtain ⟨S2,p2,i2,c2,e2⟩ := ih2 (a + 1 + szT t1) (b + 1 + szT t1) (by omega)
  -- the tensor's node x,the par's node y
  obtain ⟨x,y,hxy,hpq⟩ : ∃ x y,((x = a ∧ y = b) ∨ (x = b ∧ y = a)) ∧ ∀ s,List.count s (if p = true then [paS (a,a + 1,a + 1 + szT t1)] else [edS (a,a + 1),edS (a,a + 1 + szT t1)]) + List.count s (if (!p) = true then [paS (b,b + 1,b + 1 + szT t1)] else [edS (b,b + 1),edS (b,b + 1 + szT t1)]) = List.count s [edS (x,x + 1),edS (x,x + 1 + szT t1),paS (y,y + 1,y + 1 + szT t1)] := by
   cases p with
   | true =>
    refine ⟨b,a,.inr ⟨rfl,rfl⟩,fun s => ?_⟩
    simp only [if_true,Bool.not_true,Bool.false_eq_true,if_false]
    rw [show [edS (b,b + 1),edS (b,b + 1 + szT t1),paS (a,a + 1,a + 1 + szT t1)] = [edS (b,b + 1),edS (b,b + 1 + szT t1)] ++ [paS (a,a + 1,a + 1 + szT t1)] from rfl,List.count_append,Nat.add_comm]
   | false =>
    refine ⟨a,b,.inl ⟨rfl,rfl⟩,fun s => ?_⟩
    simp only [if_true,Bool.not_false,Bool.false_eq_true,if_false]
    rw [show [edS (a,a + 1),edS (a,a + 1 + szT t1),paS (b,b + 1,b + 1 + szT t1)] = [edS (a,a + 1),edS (a,a + 1 + szT t1)] ++ [paS (b,b + 1,b + 1 + szT t1)] from rfl,List.count_append]
  have hx1 : Con (ends S1) (x + 1) (a + 1) := e1 _ (by omega)
  have hy1 : Con (ends S1) (y + 1) (a + 1) := e1 _ (by omega)
  have hx2 : Con (ends S2) (x + 1 + szT t1) (a + 1 + szT t1) := e2 _ (by omega)
  have hy2 : Con (ends S2) (y + 1 + szT t1) (a + 1 + szT t1) := e2 _ (by omega)
  have j1 : ∀ e ∈ ends S1,((a + 1 ≤ e.1 ∧ e.1 < a + 1 + szT t1) ∨ (b + 1 ≤ e.1 ∧ e.1 < b + 1 + szT t1)) ∧ ((a + 1 ≤ e.2 ∧ e.2 < a + 1 + szT t1) ∨ (b + 1 ≤ e.2 ∧ e.2 < b + 1 + szT t1)) := fun e he => by
   obtain ⟨s,hs,rfl⟩ := mem_ends.1 he
   exact i1 s hs
  have j2 : ∀ e ∈ ends S2,((a + 1 + szT t1 ≤ e.1 ∧ e.1 < a + 1 + szT t1 + szT t2) ∨ (b + 1 + szT t1 ≤ e.1 ∧ e.1 < b + 1 + szT t1 + szT t2)) ∧ ((a + 1 + szT t1 ≤ e.2 ∧ e.2 < a + 1 + szT t1 + szT t2) ∨ (b + 1 + szT t1 ≤ e.2 ∧ e.2 < b + 1 + szT t1 + szT t2)) := fun e he => by
   obtain ⟨s,hs,rfl⟩ := mem_ends.1 he
   exact i2 s hs
  refine ⟨S1 ++ (S2 ++ [edS (x,x + 1),edS (x,x + 1 + szT t1),paS (y,y + 1,y + 1 + szT t1)]),?_,?_,?_,?_⟩
  ·refine permC fun s => ?_
   have q1 := p1.count_eq s
   have q2 := p2.count_eq s
   have q3 := hpq s
   rw [zpS,dlT,stT,stT,dlT_sz,lnT,lnT,dlT_sz,List.zip_append (by rw [atT_len,atT_len,dlT_len]),List.map_append]
   simp only [List.count_append,zpS] at q1 q2 q3 ⊢
   omega
  ·intro s hs
   rcases List.mem_append.1 hs with hs | hs
   ·have := i1 s hs; omega
   rcases List.mem_append.1 hs with hs | hs
   ·have := i2 s hs; omega
   simp only [List.mem_cons,List.not_mem_nil,or_false] at hs
   rcases hs with rfl | rfl | rfl <;> simp only [edS,paS] <;> omega
  ·intro L h1 h2
   refine (c1 L (fun e he => by have := h1 e he; omega) (fun e he => by have := h2 e he; omega)).app ((c2 _ (fun e he => ?_) (fun e he => ?_)).app ?_)
   ·rcases List.mem_append.1 he with he | he
    ·have := j1 e he; omega
    ·have := h1 e he; omega
   ·rcases List.mem_append.1 he with he | he
    ·have := j1 e he; omega
    ·have := h2 e he; omega
   have jj : ∀ e ∈ ends S2 ++ (ends S1 ++ L),e.1 ≠ a ∧ e.1 ≠ b ∧ e.2 ≠ a ∧ e.2 ≠ b := by
    intro e he
    rcases List.mem_append.1 he with he | he
    ·have := j2 e he; omega
    rcases List.mem_append.1 he with he | he
    ·have := j1 e he; omega
    ·have := h1 e he; have := h2 e he; omega
   refine .cons (.refl _) (fun g => ?_) (.cons (.refl _) (fun g => ?_) (.cons ?_ (fun g => ?_) (.nil _)))
   ·have : x + 1 = x := g.alone (fun e he => by have := jj e he; simp only [edS]; omega)
    omega
   ·have : x + 1 + szT t1 = x ∨ (a + 1 ≤ x + 1 + szT t1 ∧ x + 1 + szT t1 < a + 1 + szT t1) ∨ (b + 1 ≤ x + 1 + szT t1 ∧ x + 1 + szT t1 < b + 1 + szT t1) := (g.closed (fun z => z = x ∨ (a + 1 ≤ z ∧ z < a + 1 + szT t1) ∨ (b + 1 ≤ z ∧ z < b + 1 + szT t1)) (fun e he => by
     rcases List.mem_cons.1 he with rfl | he
     ·exact ⟨fun _ => .inr (by simp only [edS]; omega),fun _ => .inl rfl⟩
     rcases List.mem_append.1 he with he | he
     ·have := j2 e he; omega
     rcases List.mem_append.1 he with he | he
     ·have := j1 e he; omega
     ·have := h1 e he; have := h2 e he; omega)).1 (.inl rfl)
    omega
   ·simp only [paS,edS]
    have m1 : ∀ {u v : Nat},Con (ends S1) u v → Con ((x,x + 1 + szT t1) :: (x,x + 1) :: (ends S2 ++ (ends S1 ++ L))) u v := fun h => h.mono fun e he => by simp [he]
    have m2 : ∀ {u v : Nat},Con (ends S2) u v → Con ((x,x + 1 + szT t1) :: (x,x + 1) :: (ends S2 ++ (ends S1 ++ L))) u v := fun h => h.mono fun e he => by simp [he]
    exact (((m1 hy1).trans (m1 hx1).symm).trans (Con.edge (a := x) (b := x + 1) (by simp)).symm).trans ((Con.edge (a := x) (b := x + 1 + szT t1) (by simp)).trans ((m2 hx2).trans (m2 hy2).symm))
   ·have : y + 1 = y := g.alone (fun e he => by
     rcases List.mem_cons.1 he with rfl | he
     ·simp only [edS,paS]; omega
     rcases List.mem_cons.1 he with rfl | he
     ·simp only [edS,paS]; omega
     have := jj e he; simp only [paS]; omega)
    omega
  ·obtain ⟨E,hE⟩ : ∃ E,ends (S1 ++ (S2 ++ [edS (x,x + 1),edS (x,x + 1 + szT t1),paS (y,y + 1,y + 1 + szT t1)])) = E := ⟨_,rfl⟩
   rw [hE]
   have m1 : ∀ {u v : Nat},Con (ends S1) u v → Con E u v := fun h => h.mono fun e he => by rw [← hE,ends_app]; simp [he]
   have m2 : ∀ {u v : Nat},Con (ends S2) u v → Con E u v := fun h => h.mono fun e he => by rw [← hE,ends_app,ends_app]; simp [he]
   have k1 : Con E x (x + 1) := .edge (by rw [← hE,ends_app,ends_app]; simp [ends,edS,paS])
   have k2 : Con E x (x + 1 + szT t1) := .edge (by rw [← hE,ends_app,ends_app]; simp [ends,edS,paS])
   have k3 : Con E y (y + 1) := .edge (by rw [← hE,ends_app,ends_app]; simp [ends,edS,paS])
   have all1 : ∀ z,(a + 1 ≤ z ∧ z < a + 1 + szT t1) ∨ (b + 1 ≤ z ∧ z < b + 1 + szT t1) → Con E z x := fun z hz => (m1 (e1 z hz)).trans ((m1 hx1).symm.trans k1.symm)
   have all2 : ∀ z,(a + 1 + szT t1 ≤ z ∧ z < a + 1 + szT t1 + szT t2) ∨ (b + 1 + szT t1 ≤ z ∧ z < b + 1 + szT t1 + szT t2) → Con E z x := fun z hz => (m2 (e2 z hz)).trans ((m2 hx2).symm.trans k2.symm)
   have ally : Con E y x := k3.trans (all1 _ (by omega))
   have all : ∀ z,(a ≤ z ∧ z < a + (1 + szT t1 + szT t2)) ∨ (b ≤ z ∧ z < b + (1 + szT t1 + szT t2)) → Con E z x := by
    intro z hz
    by_cases g1 : z = x
    ·subst g1; exact .refl _
    by_cases g2 : z = y
    ·subst g2; exact ally
    by_cases g3 : (a + 1 ≤ z ∧ z < a + 1 + szT t1) ∨ (b + 1 ≤ z ∧ z < b + 1 + szT t1)
    ·exact all1 z g3
    ·exact all2 z (by omega)
   intro z hz
   exact (all z hz).trans (all a (by omega)).symm
def strL (n k : Nat) : List (Nat × Nat) := (List.range k).map fun i => (i,n + i)
theorem strL_succ (n k : Nat) : strL n (k + 1) = strL n k ++ [(k,n + k)] := by unfold strL; rw [List.range_succ,List.map_append]; rfl
theorem strL_flat (n : Nat) : ∀ k,k ≤ n → (flat2 (strL n k)).Nodup ∧ ∀ x,x ∈ flat2 (strL n k) ↔ x < k ∨ (n ≤ x ∧ x < n + k) := by
 intro k
 induction k with
 | zero => intro _; refine ⟨by simp [strL,flat2],fun x => ?_⟩; simp [strL,flat2]
 | succ k ih =>
  intro hk
  obtain ⟨h1,h2⟩ := ih (by omega)
  have e : flat2 (strL n (k + 1)) = flat2 (strL n k) ++ [k,n + k] := by rw [strL_succ]; unfold flat2; rw [List.flatMap_append]; rfl
  rw [e]
  refine ⟨?_,fun x => ?_⟩
  ·rw [List.nodup_append]
   refine ⟨h1,?_,?_⟩
   ·rw [List.nodup_cons]; refine ⟨?_,by simp⟩; simp; omega
   ·intro u hu v hv
    have := (h2 u).1 hu
    simp only [List.mem_cons,List.not_mem_nil,or_false] at hv
    omega
  ·rw [List.mem_append,h2]
   simp only [List.mem_cons,List.not_mem_nil,or_false]
   omega
theorem str_lk (t : Lt) : Lk (atTs [t,dlT t]) (strL (atT t).length (atT t).length) := by
 have hA : atTs [t,dlT t] = atT t ++ (atT t).map fun x => .mk 1 x.nm (!x.no) [] := by simp [atTs,dlT_at]
 obtain ⟨h1,h2⟩ := strL_flat (atT t).length (atT t).length (Nat.le_refl _)
 rw [hA]
 refine ⟨?_,h1,?_⟩
 ·intro a ha
  obtain ⟨i,hi,rfl⟩ := List.mem_map.1 ha
  rw [List.mem_range] at hi
  rw [List.length_append,List.length_map]
  refine ⟨by dsimp only; omega,by dsimp only; omega,?_⟩
  dsimp only
  rw [getElem!_pos _ i (by rw [List.length_append]; omega),getElem!_pos _ ((atT t).length + i) (by rw [List.length_append,List.length_map]; omega),List.getElem_append_left hi,List.getElem_append_right (by omega)]
  simp [fits,ln_mk]
 ·intro k hk
  rw [List.length_append,List.length_map] at hk
  exact (h2 k).2 (by omega)
theorem str_cor (t : Lt) : CorT [t,dlT t] (strL (atT t).length (atT t).length) := by
 obtain ⟨S,h1,h2,h3,h4⟩ := id_can t 0 (szT t) (by omega)
 have hz : axS (lnTs 0 [t,dlT t]) (strL (atT t).length (atT t).length) = zpS 0 (szT t) t := by
  have l1 : (lnT 0 t).length = (atT t).length := atT_len t 0
  have l2 : (lnT (szT t) (dlT t)).length = (atT t).length := by rw [atT_len,dlT_len]
  have e : lnTs 0 [t,dlT t] = lnT 0 t ++ lnT (szT t) (dlT t) := by simp [lnTs]
  rw [e]
  apply List.ext_getElem
  ·simp [axS,strL,zpS,l1,l2]
  ·intro i g1 g2
   have gi : i < (atT t).length := by simpa [axS,strL] using g1
   simp only [axS,strL,zpS,List.getElem_map,List.getElem_range,List.getElem_zip]
   rw [get!_app1 (by omega),← l1,get!_app2 (by omega),getElem!_pos _ i (by omega),getElem!_pos _ i (by omega)]
 unfold CorT
 rw [hz]
 have hs : stTs 0 [t,dlT t] = stT 0 t ++ stT (szT t) (dlT t) := by simp [stTs]
 rw [hs]
 refine Full.perm ?_ h1
 rw [← List.append_nil S]
 refine (h3 [] (by simp [Iso]) (by simp [Iso])).full (.nil fun x y hx hy => ?_)
 have hsz : szTs [t,dlT t] = szT t + szT t := by simp [szTs,dlT_sz]
 rw [List.append_nil]
 exact (h4 x (by omega)).trans (h4 y (by omega)).symm
end Go.Proofs.Ytbdionmmfigfiaa
namespace Go.Proofs.Ytbdionmmfigfiaa
open Go Go.Pv
inductive Swi : List (Nat × Nat × Nat) → List (Nat × Nat) → Prop where
 | nil : Swi [] []
 | left {p : Nat × Nat × Nat} {P : List (Nat × Nat × Nat)} {Q : List (Nat × Nat)} (h : Swi P Q) : Swi (p :: P) ((p.1,p.2.1) :: Q)
 | right {p : Nat × Nat × Nat} {P : List (Nat × Nat × Nat)} {Q : List (Nat × Nat)} (h : Swi P Q) : Swi (p :: P) ((p.1,p.2.2) :: Q)
theorem Swi.mem {P : List (Nat × Nat × Nat)} {Q : List (Nat × Nat)} (h : Swi P Q) : ∀ e ∈ Q,∃ p ∈ P,e = (p.1,p.2.1) ∨ e = (p.1,p.2.2) := by
 induction h with
 | nil => intro e he; cases he
 | left _ ih =>
  intro e he
  rcases List.mem_cons.1 he with rfl | he
  ·exact ⟨_,List.mem_cons_self ..,.inl rfl⟩
  ·obtain ⟨p,hp,h⟩ := ih e he; exact ⟨p,by simp [hp],h⟩
 | right _ ih =>
  intro e he
  rcases List.mem_cons.1 he with rfl | he
  ·exact ⟨_,List.mem_cons_self ..,.inr rfl⟩
  ·obtain ⟨p,hp,h⟩ := ih e he; exact ⟨p,by simp [hp],h⟩
theorem Swi.choose (P : List (Nat × Nat × Nat)) (c : Nat × Nat × Nat → Bool) : Swi P (P.map fun p => (p.1,if c p = true then p.2.2 else p.2.1)) := by
 induction P with
 | nil => exact .nil
 | cons p r ih =>
  rw [List.map_cons]
  cases c p with
  | true => exact .right ih
  | false => exact .left ih
theorem Swi.split {A B : List (Nat × Nat × Nat)} {p : Nat × Nat × Nat} : ∀ {Q : List (Nat × Nat)},Swi (A ++ p :: B) Q → ∃ e Q',Q.Perm (e :: Q') ∧ Swi (A ++ B) Q' ∧ (e = (p.1,p.2.1) ∨ e = (p.1,p.2.2)) := by
 induction A with
 | nil =>
  intro Q h
  cases h with
  | left h => exact ⟨_,_,.refl _,h,.inl rfl⟩
  | right h => exact ⟨_,_,.refl _,h,.inr rfl⟩
 | cons a A ih =>
  intro Q h
  cases h with
  | left h =>
   obtain ⟨e,Q',h1,h2,h3⟩ := ih h
   exact ⟨e,_,(h1.cons _).trans (.swap _ _ _),.left h2,h3⟩
  | right h =>
   obtain ⟨e,Q',h1,h2,h3⟩ := ih h
   exact ⟨e,_,(h1.cons _).trans (.swap _ _ _),.right h2,h3⟩
theorem Swi.join {A B : List (Nat × Nat × Nat)} {p : Nat × Nat × Nat} : ∀ {Q : List (Nat × Nat)},Swi (A ++ B) Q → ∃ Q',Q'.Perm ((p.1,p.2.1) :: Q) ∧ Swi (A ++ p :: B) Q' := by
 induction A with
 | nil => intro Q h; exact ⟨_,.refl _,.left h⟩
 | cons a A ih =>
  intro Q h
  cases h with
  | left h =>
   obtain ⟨Q',h1,h2⟩ := ih h
   exact ⟨_,(h1.cons _).trans (.swap _ _ _),.left h2⟩
  | right h =>
   obtain ⟨Q',h1,h2⟩ := ih h
   exact ⟨_,(h1.cons _).trans (.swap _ _ _),.right h2⟩
theorem Full.switch {n : Nat} {S : List Stp} {L : List (Nat × Nat)} (h : Full n S L) : ∀ {A : List (Nat × Nat)} {P : List (Nat × Nat × Nat)} {Q : List (Nat × Nat)},S.Perm (A.map edS ++ P.map paS) → Swi P Q → Full n ((A ++ Q).map edS) L := by
 induction h with
 | nil h =>
  intro A P Q hp hs
  have := List.append_eq_nil_iff.1 (List.nil_perm.1 hp)
  obtain rfl : A = [] := List.map_eq_nil_iff.1 this.1
  obtain rfl : P = [] := List.map_eq_nil_iff.1 this.2
  cases hs
  exact .nil h
 | @step S T s L hq h1 h2 h ih =>
  intro A P Q hp hs
  have hm : s ∈ A.map edS ++ P.map paS := hp.mem_iff.1 (hq.mem_iff.2 (List.mem_cons_self ..))
  rcases List.mem_append.1 hm with hm | hm
  ·obtain ⟨e,he,rfl⟩ := List.mem_map.1 hm
   obtain ⟨A1,A2,rfl⟩ := List.append_of_mem he
   have p1 : (A1 ++ e :: A2).Perm (e :: (A1 ++ A2)) := List.perm_middle
   have hT : T.Perm ((A1 ++ A2).map edS ++ P.map paS) := by
    refine List.Perm.cons_inv ((hq.symm.trans hp).trans ?_)
    rw [← List.cons_append]
    exact (p1.map edS).append_right _
   have := ih hT hs
   refine .step (s := edS e) (T := ((A1 ++ A2) ++ Q).map edS) ?_ h1 h2 this
   have p2 : (A1 ++ e :: A2 ++ Q).Perm (e :: (A1 ++ A2 ++ Q)) := by rw [← List.cons_append]; exact p1.append_right _
   exact p2.map edS
  ·obtain ⟨p,hp2,rfl⟩ := List.mem_map.1 hm
   obtain ⟨P1,P2,rfl⟩ := List.append_of_mem hp2
   obtain ⟨e,Q',q1,q2,q3⟩ := hs.split
   have p1 : (P1 ++ p :: P2).Perm (p :: (P1 ++ P2)) := List.perm_middle
   have hT : T.Perm (A.map edS ++ (P1 ++ P2).map paS) := by
    refine List.Perm.cons_inv ((hq.symm.trans hp).trans ?_)
    exact (((p1.map paS).append_left _).trans List.perm_middle)
   have f := ih hT q2
   have hk : Con L p.2.1 p.2.2 := h1
   have hn : ¬ Con L p.1 p.2.1 := h2
   have p2 : (A ++ Q).Perm (e :: (A ++ Q')) := (q1.append_left A).trans List.perm_middle
   refine Full.perm ?_ (p2.map edS).symm
   rcases q3 with rfl | rfl
   ·exact .step (s := edS (p.1,p.2.1)) (T := (A ++ Q').map edS) (.refl _) (.refl _) hn f
   ·refine .step (s := edS (p.1,p.2.2)) (T := (A ++ Q').map edS) (.refl _) (.refl _) (fun g => hn (g.trans hk.symm)) (f.congr fun x y => ?_)
    show Con ((p.1,p.2.1) :: L) x y ↔ Con ((p.1,p.2.2) :: L) x y
    constructor
    ·intro g
     refine g.hom id fun e he => ?_
     rcases List.mem_cons.1 he with rfl | he
     ·exact (Con.edge (a := p.1) (b := p.2.2) (by simp)).trans (hk.symm.more _)
     ·exact .edge (by simp [he])
    ·intro g
     refine g.hom id fun e he => ?_
     rcases List.mem_cons.1 he with rfl | he
     ·exact (Con.edge (a := p.1) (b := p.2.1) (by simp)).trans (hk.more _)
     ·exact .edge (by simp [he])
theorem Full.free {n : Nat} {S : List Stp} {L : List (Nat × Nat)} (h : Full n S L) : 0 < n → (∀ s ∈ S,s.b < n) → ∃ x,x < n ∧ ∀ s ∈ S,¬ Con L x s.a := by
 induction h with
 | nil _ => intro hn _; exact ⟨0,hn,by simp⟩
 | @step S T s L hq h1 h2 h ih =>
  intro hn hb
  obtain ⟨x,hx,hx2⟩ := ih hn fun t ht => hb t (hq.mem_iff.2 (by simp [ht]))
  by_cases hs : Con L x s.a
  ·refine ⟨s.b,hb s (hq.mem_iff.2 (by simp)),fun t ht => ?_⟩
   rcases List.mem_cons.1 (hq.mem_iff.1 ht) with rfl | ht
   ·exact fun g => h2 g.symm
   ·exact fun g => hx2 t ht (((hs.more _).trans (.edge (by simp))).trans (g.more _))
  ·refine ⟨x,hx,fun t ht => ?_⟩
   rcases List.mem_cons.1 (hq.mem_iff.1 ht) with rfl | ht
   ·exact hs
   ·exact fun g => hx2 t ht (g.more _)
theorem Full.con {n : Nat} {S : List Stp} {L : List (Nat × Nat)} (h : Full n S L) (X : Nat → Prop) (hL : ∀ e ∈ L,(X e.1 ↔ X e.2)) (hS : ∀ s ∈ S,(X s.a ↔ X s.b)) {x y : Nat} (hx : x < n) (hy : y < n) : X x ↔ X y := by
 obtain ⟨T,h1,_,h3⟩ := h.can
 refine (h3 x y hx hy).closed X fun e he => ?_
 rcases List.mem_append.1 he with he | he
 ·obtain ⟨s,hs,rfl⟩ := mem_ends.1 he
  exact hS s (h1.mem_iff.2 hs)
 ·exact hL e he
theorem full_of_switch {n : Nat} (hn : 0 < n) : ∀ (m : Nat) (P : List (Nat × Nat × Nat)) (L : List (Nat × Nat)),P.length = m → (∀ p ∈ P,p.1 < n ∧ p.2.1 < n ∧ p.2.2 < n) → (∀ Q,Swi P Q → Full n (Q.map edS) L) → Full n (P.map paS) L := by
 intro m
 induction m with
 | zero =>
  intro P L hP _ h
  obtain rfl := List.eq_nil_of_length_eq_zero hP
  exact h [] .nil
 | succ m ih =>
  intro P L hP hb h
  have hex : ∃ p ∈ P,Con L p.2.1 p.2.2 := by
   refine Classical.byContradiction fun hno => ?_
   have hno : ∀ p ∈ P,¬ Con L p.2.1 p.2.2 := fun p hp g => hno ⟨p,hp,g⟩
   have f0 := h _ (Swi.choose P fun _ => false)
   obtain ⟨x,hx,hx2⟩ := f0.free hn fun s hs => by
    obtain ⟨e,he,rfl⟩ := List.mem_map.1 hs
    obtain ⟨p,hp,rfl⟩ := List.mem_map.1 he
    exact (hb p hp).2.1
   have hx3 : ∀ p ∈ P,¬ Con L x p.1 := fun p hp => hx2 (edS (p.1,if (fun _ => false) p = true then p.2.2 else p.2.1)) (List.mem_map_of_mem (List.mem_map_of_mem (f := fun p : Nat × Nat × Nat => (p.1,if (fun _ => false) p = true then p.2.2 else p.2.1)) hp))
   have f1 := h _ (Swi.choose P fun p => @decide (Con L x p.2.1) (Classical.propDecidable _))
   have hne : P ≠ [] := by intro e; subst e; cases hP
   obtain ⟨p,hp⟩ := List.exists_mem_of_ne_nil P hne
   have := (f1.con (fun z => Con L x z) (fun e he => ⟨fun g => g.trans (.edge he),fun g => g.trans (Con.edge he).symm⟩) (fun s hs => by
    obtain ⟨e,he,rfl⟩ := List.mem_map.1 hs
    obtain ⟨q,hq,rfl⟩ := List.mem_map.1 he
    have h1 := hx3 q hq
    refine ⟨fun g => absurd g h1,fun g => absurd g ?_⟩
    simp only [edS]
    by_cases hc : Con L x q.2.1
    ·rw [if_pos (by simpa using hc)]
     exact fun g => hno q hq (hc.symm.trans g)
    ·rw [if_neg (by simpa using hc)]
     exact hc) hx (hb p hp).1).1 (.refl x)
   exact hx3 p hp this
  obtain ⟨p,hp,hc⟩ := hex
  obtain ⟨A,B,rfl⟩ := List.append_of_mem hp
  have p1 : (A ++ p :: B).Perm (p :: (A ++ B)) := List.perm_middle
  have hstep : ∀ Q,Swi (A ++ B) Q → Full n ((p.1,p.2.1) :: Q |>.map edS) L := fun Q hQ => by
   obtain ⟨Q',q1,q2⟩ := Swi.join (p := p) hQ
   exact (h Q' q2).perm (q1.map edS)
  have hnc : ¬ Con L p.1 p.2.1 := (hstep _ (Swi.choose (A ++ B) fun _ => false)).later (s := edS (p.1,p.2.1)) (by simp)
  refine .step (s := paS p) (T := (A ++ B).map paS) (p1.map paS) hc hnc (ih (A ++ B) _ ?_ (fun q hq => hb q (p1.mem_iff.2 (by simp [hq]))) fun Q hQ => ?_)
  ·have := p1.length_eq; simp at this hP ⊢; omega
  ·exact (hstep Q hQ).exch (s := edS (p.1,p.2.1)) (T := Q.map edS) (.refl _) (.refl _)
theorem danos_regnier {n : Nat} (hn : 0 < n) (E : List (Nat × Nat)) (P : List (Nat × Nat × Nat)) (hP : ∀ p ∈ P,p.1 < n ∧ p.2.1 < n ∧ p.2.2 < n) :
  Full n (E.map edS ++ P.map paS) [] ↔ ∀ Q,Swi P Q → Full n ((E ++ Q).map edS) [] := by
 constructor
 ·intro h Q hQ
  exact h.switch (.refl _) hQ
 ·intro h
  have : ∀ (E : List (Nat × Nat)) (L : List (Nat × Nat)),(∀ Q,Swi P Q → Full n ((E ++ Q).map edS) L) → Full n (E.map edS ++ P.map paS) L := by
   intro E
   induction E with
   | nil => intro L h; exact full_of_switch hn _ P L rfl hP (by simpa using h)
   | cons e r ih =>
    intro L h
    have h0 := h _ (Swi.choose P fun _ => false)
    have hnc : ¬ Con L e.1 e.2 := h0.later (s := edS e) (by simp)
    exact .step (s := edS e) (T := r.map edS ++ P.map paS) (.refl _) (.refl _) hnc (ih _ fun Q hQ => (h Q hQ).exch (s := edS e) (T := (r ++ Q).map edS) (.refl _) (.refl _))
  exact this E [] h
end Go.Proofs.Ytbdionmmfigfiaa
namespace Go.Proofs.Ytbdionmmfigfiaa
open Go Go.Pv
def stepC (c : List Nat) (e : Nat × Nat) : List Nat := c.map fun z => if z = c[e.1]! then c[e.2]! else z
def treeL : List (Nat × Nat) → List Nat → Bool
 | [],_ => true
 | e :: r,c => if c[e.1]! = c[e.2]! then false else treeL r (stepC c e)
def treeB (n : Nat) (Q : List (Nat × Nat)) : Bool := decide ((Q.length : Int) = (n : Int) - 1) && treeL Q (List.range n)
theorem stepC_len (c : List Nat) (e : Nat × Nat) : (stepC c e).length = c.length := by unfold stepC; rw [List.length_map]
theorem stepC_get {c : List Nat} {e : Nat × Nat} {x : Nat} (hx : x < c.length) : (stepC c e)[x]! = if c[x]! = c[e.1]! then c[e.2]! else c[x]! := by
 unfold stepC
 rw [getElem!_pos _ x (by simpa using hx),List.getElem_map,getElem!_pos c x hx]
def RepC (c : List Nat) (L : List (Nat × Nat)) : Prop := ∀ x y,x < c.length → y < c.length → (c[x]! = c[y]! ↔ Con L x y)
theorem RepC.step {c : List Nat} {L : List (Nat × Nat)} (h : RepC c L) {e : Nat × Nat} (h1 : e.1 < c.length) (h2 : e.2 < c.length) : RepC (stepC c e) (e :: L) := by
 intro x y hx hy
 rw [stepC_len] at hx hy
 obtain ⟨a,b⟩ := e
 rw [stepC_get hx,stepC_get hy,con_cons,← h x y hx hy,← h x a hx h1,← h b y h2 hy,← h x b hx h2,← h a y h1 hy]
 dsimp only
 by_cases g1 : c[x]! = c[a]! <;> by_cases g2 : c[y]! = c[a]!
 ·rw [if_pos g1,if_pos g2]
  exact ⟨fun _ => .inl (g1.trans g2.symm),fun _ => rfl⟩
 ·rw [if_pos g1,if_neg g2]
  constructor
  ·intro h; exact .inr (.inl ⟨g1,h⟩)
  ·rintro (h | ⟨_,h⟩ | ⟨h,g⟩)
   ·exact absurd (h.symm.trans g1) g2
   ·exact h
   ·exact absurd g.symm g2
 ·rw [if_neg g1,if_pos g2]
  constructor
  ·intro h; exact .inr (.inr ⟨h,g2.symm⟩)
  ·rintro (h | ⟨h,_⟩ | ⟨h,_⟩)
   ·exact absurd (h.trans g2) g1
   ·exact absurd h g1
   ·exact h
 ·rw [if_neg g1,if_neg g2]
  constructor
  ·intro h; exact .inl h
  ·rintro (h | ⟨h,_⟩ | ⟨_,h⟩)
   ·exact h
   ·exact absurd h g1
   ·exact absurd h.symm g2
def numC (n : Nat) (c : List Nat) : Nat := ((List.range n).filter fun v => decide (v ∈ c)).length
theorem numC_step {n : Nat} {c : List Nat} {e : Nat × Nat} (hc : ∀ v ∈ c,v < n) (h1 : e.1 < c.length) (h2 : e.2 < c.length) (hne : c[e.1]! ≠ c[e.2]!) : numC n (stepC c e) + 1 = numC n c := by
 have m1 : c[e.1]! ∈ c := by rw [getElem!_pos c _ h1]; exact List.getElem_mem ..
 have m2 : c[e.2]! ∈ c := by rw [getElem!_pos c _ h2]; exact List.getElem_mem ..
 unfold numC stepC
 generalize c[e.1]! = a at *
 generalize c[e.2]! = b at *
 have hf : (List.range n).filter (fun v => decide (v ∈ c.map fun z => if z = a then b else z)) = ((List.range n).filter fun v => decide (v ∈ c)).erase a := by
  rw [List.Nodup.erase_eq_filter (List.Pairwise.filter _ List.nodup_range),List.filter_filter]
  refine List.filter_congr fun v _ => ?_
  rw [Bool.eq_iff_iff]
  simp only [decide_eq_true_eq,Bool.and_eq_true,bne_iff_ne,ne_eq,List.mem_map]
  constructor
  ·rintro ⟨z,hz,rfl⟩
   by_cases h : z = a
   ·rw [if_pos h]; exact ⟨fun g => hne g.symm,m2⟩
   ·rw [if_neg h]; exact ⟨h,hz⟩
  ·rintro ⟨h,hv⟩
   exact ⟨v,hv,by rw [if_neg h]⟩
 have hm : a ∈ (List.range n).filter fun v => decide (v ∈ c) := List.mem_filter.2 ⟨List.mem_range.2 (hc a m1),by simpa using m1⟩
 rw [hf,List.length_erase_of_mem hm]
 have := List.length_pos_of_mem hm
 omega
theorem stepC_lt {n : Nat} {c : List Nat} {e : Nat × Nat} (hc : ∀ v ∈ c,v < n) (h2 : e.2 < c.length) : ∀ v ∈ stepC c e,v < n := by
 intro v hv
 obtain ⟨z,hz,rfl⟩ := List.mem_map.1 hv
 split
 ·rw [getElem!_pos c _ h2]; exact hc _ (List.getElem_mem ..)
 ·exact hc z hz
theorem numC_one {n : Nat} {c : List Nat} (hc : ∀ v ∈ c,v < n) (hn : 0 < c.length) : numC n c = 1 ↔ ∀ x y,x < c.length → y < c.length → c[x]! = c[y]! := by
 have hmem : ∀ x,x < c.length → c[x]! ∈ (List.range n).filter fun v => decide (v ∈ c) := fun x hx => by
  rw [getElem!_pos c x hx]
  exact List.mem_filter.2 ⟨List.mem_range.2 (hc _ (List.getElem_mem ..)),by simp⟩
 unfold numC
 constructor
 ·intro h x y hx hy
  obtain ⟨v,hv⟩ := List.length_eq_one_iff.1 h
  have h1 := hmem x hx
  have h2 := hmem y hy
  rw [hv,List.mem_singleton] at h1 h2
  rw [h1,h2]
 ·intro h
  have hnd : ((List.range n).filter fun v => decide (v ∈ c)).Nodup := List.Pairwise.filter _ List.nodup_range
  have hall : ∀ v ∈ (List.range n).filter (fun v => decide (v ∈ c)),v = c[0]! := by
   intro v hv
   have := (List.mem_filter.1 hv).2
   simp only [decide_eq_true_eq] at this
   obtain ⟨i,hi,rfl⟩ := List.mem_iff_getElem.1 this
   have := h i 0 hi hn
   rwa [getElem!_pos c i hi] at this
  have hm := hmem 0 hn
  generalize (List.range n).filter (fun v => decide (v ∈ c)) = F at *
  match F,hm,hnd,hall with
  | [v],_,_,_ => rfl
  | v :: w :: r,_,hnd,hall =>
   have h1 := hall v (by simp)
   have h2 := hall w (by simp)
   rw [List.nodup_cons] at hnd
   exact absurd (by rw [h1,h2]; simp) hnd.1
theorem treeL_ok {n : Nat} (hn : 0 < n) : ∀ (Q : List (Nat × Nat)) (c : List Nat) (L : List (Nat × Nat)),c.length = n → (∀ v ∈ c,v < n) → RepC c L → (∀ e ∈ Q,e.1 < n ∧ e.2 < n) → ((numC n c = Q.length + 1 ∧ treeL Q c = true) ↔ Full n (Q.map edS) L) := by
 intro Q
 induction Q with
 | nil =>
  intro c L hl hc hr _
  rw [treeL,List.length_nil,Nat.zero_add,numC_one hc (by omega)]
  constructor
  ·rintro ⟨h,_⟩
   exact .nil fun x y hx hy => (hr x y (by omega) (by omega)).1 (h x y (by omega) (by omega))
  ·intro h
   refine ⟨fun x y hx hy => ?_,rfl⟩
   cases h with
   | nil h => exact (hr x y hx hy).2 (h x y (by omega) (by omega))
   | step hp => exact absurd (List.nil_perm.1 hp) (by simp)
 | cons e r ih =>
  intro c L hl hc hr hQ
  obtain ⟨h1,h2⟩ := hQ e (by simp)
  rw [treeL]
  by_cases h : c[e.1]! = c[e.2]!
  ·rw [if_pos h]
   refine ⟨fun g => Bool.noConfusion g.2,fun g => ?_⟩
   exact absurd ((hr _ _ (by omega) (by omega)).1 h) (g.later (s := edS e) (by simp))
  ·rw [if_neg h]
   have hnum := numC_step hc (by omega) (by omega) h
   have ih := ih (stepC c e) (e :: L) (by rw [stepC_len]; exact hl) (stepC_lt hc (by omega)) (hr.step (by omega) (by omega)) fun f hf => hQ f (by simp [hf])
   rw [List.length_cons]
   constructor
   ·rintro ⟨g1,g2⟩
    exact .step (s := edS e) (.refl _) (.refl _) (fun g => h ((hr _ _ (by omega) (by omega)).2 g)) (ih.1 ⟨by omega,g2⟩)
   ·intro g
    obtain ⟨g1,g2⟩ := ih.2 (g.exch (s := edS e) (T := r.map edS) (.refl _) (.refl _))
    exact ⟨by omega,g2⟩
theorem treeB_ok {n : Nat} (hn : 0 < n) (Q : List (Nat × Nat)) (hQ : ∀ e ∈ Q,e.1 < n ∧ e.2 < n) : treeB n Q = true ↔ Full n (Q.map edS) [] := by
 have hr : RepC (List.range n) [] := by
  intro x y hx hy
  rw [getElem!_pos _ x hx,getElem!_pos _ y hy,List.getElem_range,List.getElem_range]
  constructor
  ·rintro rfl; exact .refl _
  ·intro h
   exact (h.closed (fun z => x = z) (by simp)).1 rfl
 have hnum : numC n (List.range n) = n := by
  unfold numC
  rw [List.filter_eq_self.2 (by intro v hv; simpa using hv),List.length_range]
 have := treeL_ok hn Q (List.range n) [] List.length_range (by simp) hr hQ
 rw [← this,hnum]
 unfold treeB
 rw [Bool.and_eq_true,decide_eq_true_eq]
 refine and_congr_left fun _ => ?_
 omega
end Go.Proofs.Ytbdionmmfigfiaa
