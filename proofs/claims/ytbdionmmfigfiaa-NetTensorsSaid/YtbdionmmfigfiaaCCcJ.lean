import Derived.Test.YtbdionmmfigfiaaCNtP
import Derived.Test.YtbdionmmfigfiaaCPvQg
set_option linter.unusedVariables false
set_option linter.unusedSimpArgs false
set_option maxRecDepth 100000
namespace Go.Proofs.Ytbdionmmfigfiaa
open Go Go.Pv
instance : DecidableEq Stp := fun s t => decidable_of_iff ((s.a,s.b,s.c,s.d) = (t.a,t.b,t.c,t.d)) ⟨fun h => by cases s; cases t; simp at h; simp [h],fun h => by rw [h]⟩
theorem permC {l m : List Stp} (h : ∀ s,l.count s = m.count s) : l.Perm m := List.perm_iff_count.2 h
theorem axS_app {A : List Nat} {an bn : List (Nat × Nat)} : axS A (an ++ bn) = axS A an ++ axS A bn := by unfold axS; rw [List.map_append]
theorem get!_app1 {A B : List Nat} {i : Nat} (h : i < A.length) : (A ++ B)[i]! = A[i]! := by
 rw [getElem!_pos _ i (by simp; omega),getElem!_pos _ i h,List.getElem_append_left h]
theorem get!_app2 {A B : List Nat} {i : Nat} (h : i < B.length) : (A ++ B)[A.length + i]! = B[i]! := by
 rw [getElem!_pos _ _ (by simp; omega),getElem!_pos _ i h,List.getElem_append_right (by omega)]
 congr 1; omega
theorem get!_map {A : List Nat} {φ : Nat → Nat} {i : Nat} (h : i < A.length) : (A.map φ)[i]! = φ A[i]! := by
 rw [getElem!_pos _ _ (by simp; omega),getElem!_pos _ i h,List.getElem_map]
def shf (n : Nat) (bn : List (Nat × Nat)) : List (Nat × Nat) := bn.map fun b => (n + b.1,n + b.2)
theorem axS_left {A B : List Nat} {an : List (Nat × Nat)} (h : ∀ a ∈ an,a.1 < A.length ∧ a.2 < A.length) : axS (A ++ B) an = axS A an := by
 unfold axS
 refine List.map_congr_left fun a ha => ?_
 rw [get!_app1 (h a ha).1,get!_app1 (h a ha).2]
theorem axS_right {A B : List Nat} {bn : List (Nat × Nat)} (h : ∀ a ∈ bn,a.1 < B.length ∧ a.2 < B.length) : axS (A ++ B) (shf A.length bn) = axS B bn := by
 unfold axS shf
 rw [List.map_map]
 refine List.map_congr_left fun a ha => ?_
 simp only [Function.comp]
 rw [get!_app2 (h a ha).1,get!_app2 (h a ha).2]
theorem axS_map {A : List Nat} {φ : Nat → Nat} {an : List (Nat × Nat)} (h : ∀ a ∈ an,a.1 < A.length ∧ a.2 < A.length) : axS (A.map φ) an = (axS A an).map (mapS φ) := by
 unfold axS
 rw [List.map_map]
 refine List.map_congr_left fun a ha => ?_
 simp only [Function.comp]
 rw [get!_map (h a ha).1,get!_map (h a ha).2]
 rfl
theorem axS_in {A : List Nat} {an : List (Nat × Nat)} {n : Nat} (h : ∀ a ∈ an,a.1 < A.length ∧ a.2 < A.length) (hA : ∀ x ∈ A,x < n) : ∀ s ∈ axS A an,s.a < n ∧ s.b < n := by
 intro s hs
 obtain ⟨a,ha,rfl⟩ := List.mem_map.1 hs
 obtain ⟨h1,h2⟩ := h a ha
 exact ⟨hA _ (by show A[a.1]! ∈ A; rw [getElem!_pos A _ h1]; exact List.getElem_mem ..),hA _ (by show A[a.2]! ∈ A; rw [getElem!_pos A _ h2]; exact List.getElem_mem ..)⟩
theorem mem_ends_map {φ : Nat → Nat} {T : List Stp} {e : Nat × Nat} (h : e ∈ ends (T.map (mapS φ))) : ∃ s ∈ T,e = (φ s.a,φ s.b) := by
 obtain ⟨s,hs,rfl⟩ := mem_ends.1 h
 obtain ⟨t,ht,rfl⟩ := List.mem_map.1 hs
 exact ⟨t,ht,rfl⟩
theorem con_ends_map {φ : Nat → Nat} {T : List Stp} {x y : Nat} (h : Con (ends T) x y) : Con (ends (T.map (mapS φ))) (φ x) (φ y) :=
 h.hom φ fun e he => by
  obtain ⟨s,hs,rfl⟩ := mem_ends.1 he
  exact .edge (mem_ends.2 ⟨mapS φ s,List.mem_map_of_mem hs,rfl⟩)
theorem cor_can {ts : List Lt} {an : List (Nat × Nat)} (h : CorT ts an) : ∃ T,(axS (lnTs 0 ts) an ++ stTs 0 ts).Perm T ∧ Can T [] ∧ ∀ x y,x < szTs ts → y < szTs ts → Con (ends T) x y := by
 obtain ⟨T,h1,h2,h3⟩ := h.can
 exact ⟨T,h1,h2,fun x y hx hy => by have := h3 x y hx hy; rwa [List.append_nil] at this⟩
theorem cor_in {ts : List Lt} {an : List (Nat × Nat)} (h : ∀ a ∈ an,a.1 < (atTs ts).length ∧ a.2 < (atTs ts).length) : ∀ s ∈ axS (lnTs 0 ts) an ++ stTs 0 ts,s.a < szTs ts ∧ s.b < szTs ts := by
 intro s hs
 rcases List.mem_append.1 hs with hs | hs
 ·refine axS_in (by rw [atTs_len]; exact h) (fun x hx => ?_) s hs
  have := lnTs_in ts 0 x hx
  omega
 ·have := stTs_in ts 0 s hs
  exact ⟨by have := this.2.1; omega,by have := this.2.2.2.1; omega⟩
theorem par_perm (p : List Lt) (x y : Lt) (an : List (Nat × Nat)) (h : ∀ a ∈ an,a.1 < (atTs (p ++ [x,y])).length ∧ a.2 < (atTs (p ++ [x,y])).length) (φ : Nat → Nat) (hφ : φ = fun z => if z < szTs p then z else z + 1) :
  (axS (lnTs 0 (p ++ [.op true x y])) an ++ stTs 0 (p ++ [.op true x y])).Perm ((axS (lnTs 0 (p ++ [x,y])) an ++ stTs 0 (p ++ [x,y])).map (mapS φ) ++ [paS (szTs p,szTs p + 1,szTs p + 1 + szT x)]) := by
 have e1 : lnTs 0 (p ++ [.op true x y]) = (lnTs 0 (p ++ [x,y])).map φ := by
  rw [lnTs_app,lnTs_app,List.map_append,lnTs_map p 0 0 φ (fun i hi => by subst hφ; simp [hi])]
  congr 1
  simp only [lnTs,lnT,List.append_nil,List.map_append,Nat.zero_add]
  rw [lnT_map x (szTs p) (szTs p + 1) φ (fun i hi => by subst hφ; dsimp only; rw [if_neg (by omega)]; omega),lnT_map y (szTs p + szT x) (szTs p + 1 + szT x) φ (fun i hi => by subst hφ; dsimp only; rw [if_neg (by omega)]; omega)]
 rw [e1,axS_map (by rw [atTs_len]; exact h)]
 have e2 : (stTs 0 (p ++ [x,y])).map (mapS φ) = stTs 0 p ++ (stT (szTs p + 1) x ++ stT (szTs p + 1 + szT x) y) := by
  rw [stTs_app,List.map_append,stTs_map p 0 0 φ (fun i hi => by subst hφ; simp [hi])]
  congr 1
  simp only [stTs,List.append_nil,List.map_append,Nat.zero_add]
  rw [stT_map x (szTs p) (szTs p + 1) φ (fun i hi => by subst hφ; dsimp only; rw [if_neg (by omega)]; omega),stT_map y (szTs p + szT x) (szTs p + 1 + szT x) φ (fun i hi => by subst hφ; dsimp only; rw [if_neg (by omega)]; omega)]
 rw [List.map_append,e2,stTs_app]
 refine permC fun s => ?_
 simp only [stTs,stT,List.append_nil,List.count_append,if_true,Nat.zero_add]
 omega
theorem par_cor (p : List Lt) (x y : Lt) (an : List (Nat × Nat)) (h : ∀ a ∈ an,a.1 < (atTs (p ++ [x,y])).length ∧ a.2 < (atTs (p ++ [x,y])).length) : CorT (p ++ [.op true x y]) an ↔ CorT (p ++ [x,y]) an := by
 obtain ⟨φ,hφ⟩ : ∃ φ : Nat → Nat,φ = fun z => if z < szTs p then z else z + 1 := ⟨_,rfl⟩
 have hp := par_perm p x y an h φ hφ
 have hs1 : szTs (p ++ [x,y]) = szTs p + (szT x + szT y) := by rw [szTs_app]; simp [szTs]
 have hs2 : szTs (p ++ [.op true x y]) = szTs p + (1 + szT x + szT y) := by rw [szTs_app]; simp [szTs,szT]
 have hx := szT_pos x
 have hy := szT_pos y
 have hn : ∀ z,φ z ≠ szTs p := by intro z; subst hφ; dsimp only; split <;> omega
 constructor
 ·intro hc
  refine Full.part (n := szTs (p ++ [x,y])) hc (φ := φ) (ρ := fun z => if z ≤ szTs p then z else z - 1) hp ?_ ?_ ?_ (by simp) (by simp)
  ·intro z; subst hφ; dsimp only; split <;> split <;> omega
  ·intro z hz; subst hφ; dsimp only; split <;> omega
  ·intro s hs
   rw [List.mem_singleton] at hs
   subst hs
   show (if szTs p ≤ szTs p then szTs p else szTs p - 1) = (if szTs p + 1 ≤ szTs p then szTs p + 1 else szTs p + 1 - 1)
   rw [if_pos (Nat.le_refl _),if_neg (by omega)]
   omega
 ·intro hc
  obtain ⟨T,t1,t2,t3⟩ := cor_can hc
  have hT : (axS (lnTs 0 (p ++ [.op true x y])) an ++ stTs 0 (p ++ [.op true x y])).Perm (T.map (mapS φ) ++ [paS (szTs p,szTs p + 1,szTs p + 1 + szT x)]) := hp.trans ((t1.map _).append_right _)
  unfold CorT
  refine Full.perm ?_ hT.symm
  refine Can.full (t2.put (φ := φ) (ρ := fun z => if z ≤ szTs p then z else z - 1) (L' := []) ?_ (by simp) (by simp)) ?_
  ·intro z; subst hφ; dsimp only; split <;> split <;> omega
  rw [List.append_nil]
  have hcon : ∀ a b,a < szTs (p ++ [x,y]) → b < szTs (p ++ [x,y]) → Con (ends (T.map (mapS φ))) (φ a) (φ b) := fun a b ha hb => con_ends_map (t3 a b ha hb)
  refine .step (s := paS (szTs p,szTs p + 1,szTs p + 1 + szT x)) (T := []) (by rfl) ?_ ?_ (.nil ?_)
  ·have := hcon (szTs p) (szTs p + szT x) (by omega) (by omega)
   rw [show φ (szTs p) = szTs p + 1 by subst hφ; simp,show φ (szTs p + szT x) = szTs p + 1 + szT x by subst hφ; dsimp only; rw [if_neg (by omega)]; omega] at this
   exact this
  ·intro g
   have := g.closed (fun z => z = szTs p) (fun e he => by
    obtain ⟨s,hs,rfl⟩ := mem_ends_map he
    simp [hn])
   simp [paS] at this
  ·have hall : ∀ a,a < szTs (p ++ [.op true x y]) → Con ((szTs p,szTs p + 1) :: ends (T.map (mapS φ))) a (szTs p + 1) := by
    intro a ha
    by_cases e : a = szTs p
    ·subst e; exact .edge (by simp)
    ·have : ∃ b,b < szTs (p ++ [x,y]) ∧ φ b = a := by
      by_cases g : a < szTs p
      ·exact ⟨a,by omega,by subst hφ; simp [g]⟩
      ·exact ⟨a - 1,by omega,by subst hφ; dsimp only; rw [if_neg (by omega)]; omega⟩
     obtain ⟨b,hb,rfl⟩ := this
     have := hcon b (szTs p) hb (by omega)
     rw [show φ (szTs p) = szTs p + 1 by subst hφ; simp] at this
     exact this.more _
   intro a b ha hb
   exact (hall a ha).trans (hall b hb).symm
theorem lk_in {A : List Ln} {an : List (Nat × Nat)} (h : Lk A an) : ∀ a ∈ an,a.1 < A.length ∧ a.2 < A.length := fun a ha => ⟨(h.1 a ha).1,(h.1 a ha).2.1⟩
theorem beside_cor (l m : List Lt) (an bn : List (Nat × Nat)) (hl : 1 ≤ szTs l) (hm : 1 ≤ szTs m) (ha : ∀ a ∈ an,a.1 < (atTs l).length ∧ a.2 < (atTs l).length) (hb : ∀ a ∈ bn,a.1 < (atTs m).length ∧ a.2 < (atTs m).length) :
  ¬ CorT (l ++ m) (an ++ shf (atTs l).length bn) := by
 intro hc
 obtain ⟨T,t1,t2,t3⟩ := cor_can hc
 have hl0 : (lnTs 0 l).length = (atTs l).length := atTs_len l 0
 have := (t3 0 (szTs l) (by rw [szTs_app]; omega) (by rw [szTs_app]; omega)).closed (fun z => z < szTs l) (fun e he => by
  obtain ⟨s,hs,rfl⟩ := mem_ends.1 he
  have hs := t1.symm.mem_iff.1 hs
  rw [lnTs_app,axS_app,axS_left (A := lnTs 0 l) (B := lnTs (0 + szTs l) m) (by rw [hl0]; exact ha),← hl0,axS_right (A := lnTs 0 l) (B := lnTs (0 + szTs l) m) (by rw [atTs_len]; exact hb),stTs_app,Nat.zero_add] at hs
  rcases List.mem_append.1 hs with hs | hs
  ·rcases List.mem_append.1 hs with hs | hs
   ·have := axS_in (n := szTs l) (by rw [hl0]; exact ha) (fun x hx => by have := lnTs_in l 0 x hx; omega) s hs
    simp [this.1,this.2]
   ·obtain ⟨a,ha,rfl⟩ := List.mem_map.1 hs
    obtain ⟨h1,h2⟩ := hb a ha
    rw [← atTs_len m (szTs l)] at h1 h2
    have g1 := lnTs_in m (szTs l) _ (List.getElem_mem h1)
    have g2 := lnTs_in m (szTs l) _ (List.getElem_mem h2)
    simp only [edS]
    rw [getElem!_pos (lnTs (szTs l) m) a.1 h1,getElem!_pos (lnTs (szTs l) m) a.2 h2]
    omega
  ·rcases List.mem_append.1 hs with hs | hs
   ·obtain ⟨_,h1,_,h2,_⟩ := stTs_in l 0 s hs
    omega
   ·obtain ⟨h1,_,h2,_⟩ := stTs_in m _ s hs
    omega)
 omega
theorem ten_perm (p q : List Lt) (x y : Lt) (an bn : List (Nat × Nat)) (ha : ∀ a ∈ an,a.1 < (atTs (p ++ [x])).length ∧ a.2 < (atTs (p ++ [x])).length) (hb : ∀ a ∈ bn,a.1 < (atTs (y :: q)).length ∧ a.2 < (atTs (y :: q)).length)
  (φ ψ : Nat → Nat) (hφ : φ = fun z => if z < szTs p then z else if z < szTs p + szT x then z + 1 else z + (szTs p + (1 + szT x + szT y + szTs q))) (hψ : ψ = fun z => szTs p + szT x + 1 + z) :
  (axS (lnTs 0 (p ++ .op false x y :: q)) (an ++ shf (atTs (p ++ [x])).length bn) ++ stTs 0 (p ++ .op false x y :: q)).Perm
   ((axS (lnTs 0 (p ++ [x])) an ++ stTs 0 (p ++ [x])).map (mapS φ) ++ ((axS (lnTs 0 (y :: q)) bn ++ stTs 0 (y :: q)).map (mapS ψ) ++ [edS (szTs p,szTs p + 1),edS (szTs p,szTs p + szT x + 1)])) := by
 have f1 : (lnTs 0 (p ++ [x])).map φ = lnTs 0 p ++ lnT (szTs p + 1) x := by
  rw [lnTs_app,List.map_append,lnTs_map p 0 0 φ (fun i hi => by subst hφ; simp [hi])]
  congr 1
  simp only [lnTs,List.append_nil,Nat.zero_add]
  rw [lnT_map x (szTs p) (szTs p + 1) φ (fun i hi => by subst hφ; dsimp only; rw [if_neg (by omega),if_pos (by omega)]; omega)]
 have f2 : (lnTs 0 (y :: q)).map ψ = lnT (szTs p + 1 + szT x) y ++ lnTs (szTs p + (1 + szT x + szT y)) q := by
  simp only [lnTs,List.map_append,Nat.zero_add]
  rw [lnT_map y 0 (szTs p + 1 + szT x) ψ (fun i hi => by subst hψ; dsimp only; omega),lnTs_map q (szT y) (szTs p + (1 + szT x + szT y)) ψ (fun i hi => by subst hψ; dsimp only; omega)]
 have g1 : (stTs 0 (p ++ [x])).map (mapS φ) = stTs 0 p ++ stT (szTs p + 1) x := by
  rw [stTs_app,List.map_append,stTs_map p 0 0 φ (fun i hi => by subst hφ; simp [hi])]
  congr 1
  simp only [stTs,List.append_nil,Nat.zero_add]
  rw [stT_map x (szTs p) (szTs p + 1) φ (fun i hi => by subst hφ; dsimp only; rw [if_neg (by omega),if_pos (by omega)]; omega)]
 have g2 : (stTs 0 (y :: q)).map (mapS ψ) = stT (szTs p + 1 + szT x) y ++ stTs (szTs p + (1 + szT x + szT y)) q := by
  simp only [stTs,List.map_append,Nat.zero_add]
  rw [stT_map y 0 (szTs p + 1 + szT x) ψ (fun i hi => by subst hψ; dsimp only; omega),stTs_map q (szT y) (szTs p + (1 + szT x + szT y)) ψ (fun i hi => by subst hψ; dsimp only; omega)]
 have e1 : lnTs 0 (p ++ .op false x y :: q) = (lnTs 0 (p ++ [x])).map φ ++ (lnTs 0 (y :: q)).map ψ := by
  rw [f1,f2,lnTs_app]
  simp only [lnTs,lnT,szT,Nat.zero_add,List.append_assoc]
 have hl : ((lnTs 0 (p ++ [x])).map φ).length = (atTs (p ++ [x])).length := by rw [List.length_map,atTs_len]
 rw [e1,axS_app,axS_left (A := (lnTs 0 (p ++ [x])).map φ) (B := (lnTs 0 (y :: q)).map ψ) (by rw [hl]; exact ha),← hl,axS_right (A := (lnTs 0 (p ++ [x])).map φ) (B := (lnTs 0 (y :: q)).map ψ) (by rw [List.length_map,atTs_len]; exact hb),axS_map (by rw [atTs_len]; exact ha),axS_map (by rw [atTs_len]; exact hb),List.map_append,List.map_append,g1,g2,stTs_app]
 refine permC fun s => ?_
 simp only [stTs,stT,szT,List.count_append,Nat.zero_add,Bool.false_eq_true,if_false,show szTs p + szT x + 1 = szTs p + 1 + szT x by omega]
 omega
theorem ten_cor (p q : List Lt) (x y : Lt) (an bn : List (Nat × Nat)) (ha : ∀ a ∈ an,a.1 < (atTs (p ++ [x])).length ∧ a.2 < (atTs (p ++ [x])).length) (hb : ∀ a ∈ bn,a.1 < (atTs (y :: q)).length ∧ a.2 < (atTs (y :: q)).length) :
  CorT (p ++ .op false x y :: q) (an ++ shf (atTs (p ++ [x])).length bn) ↔ CorT (p ++ [x]) an ∧ CorT (y :: q) bn := by
 obtain ⟨φ,hφ⟩ : ∃ φ : Nat → Nat,φ = fun z => if z < szTs p then z else if z < szTs p + szT x then z + 1 else z + (szTs p + (1 + szT x + szT y + szTs q)) := ⟨_,rfl⟩
 obtain ⟨ψ,hψ⟩ : ∃ ψ : Nat → Nat,ψ = fun z => szTs p + szT x + 1 + z := ⟨_,rfl⟩
 obtain ⟨ρ1,hρ1⟩ : ∃ ρ : Nat → Nat,ρ = fun z => if z ≤ szTs p then z else if z ≤ szTs p + szT x then z - 1 else if z < szTs p + szT x + (szTs p + (1 + szT x + szT y + szTs q)) then szTs p else z - (szTs p + (1 + szT x + szT y + szTs q)) := ⟨_,rfl⟩
 obtain ⟨ρ2,hρ2⟩ : ∃ ρ : Nat → Nat,ρ = fun z => z - (szTs p + szT x + 1) := ⟨_,rfl⟩
 have hp := ten_perm p q x y an bn ha hb φ ψ hφ hψ
 have hx := szT_pos x
 have hy := szT_pos y
 have hs1 : szTs (p ++ [x]) = szTs p + szT x := by rw [szTs_app]; simp [szTs]
 have hs2 : szTs (y :: q) = szT y + szTs q := by rw [szTs]
 have hs3 : szTs (p ++ .op false x y :: q) = szTs p + (1 + szT x + szT y + szTs q) := by rw [szTs_app]; simp [szTs,szT]
 have hA := cor_in ha
 have hB := cor_in hb
 have hBR : ∀ s ∈ (axS (lnTs 0 (y :: q)) bn ++ stTs 0 (y :: q)).map (mapS ψ),(szTs p + szT x + 1 ≤ s.a ∧ s.a < szTs p + (1 + szT x + szT y + szTs q)) ∧ (szTs p + szT x + 1 ≤ s.b ∧ s.b < szTs p + (1 + szT x + szT y + szTs q)) := by
  intro s hs
  obtain ⟨t,ht,rfl⟩ := List.mem_map.1 hs
  have := hB t ht
  subst hψ
  simp only [mapS]
  omega
 have hAR : ∀ s ∈ (axS (lnTs 0 (p ++ [x])) an ++ stTs 0 (p ++ [x])).map (mapS φ),s.a ≤ szTs p + szT x ∧ s.b ≤ szTs p + szT x := by
  intro s hs
  obtain ⟨t,ht,rfl⟩ := List.mem_map.1 hs
  have := hA t ht
  subst hφ
  simp only [mapS]
  constructor
  ·split
   ·omega
   ·rw [if_pos (by omega)]; omega
  ·split
   ·omega
   ·rw [if_pos (by omega)]; omega
 have r1 : ∀ z,ρ1 (φ z) = z := by
  intro z
  subst hφ; subst hρ1
  dsimp only
  by_cases h : z < szTs p
  ·rw [if_pos h,if_pos (by omega)]
  ·rw [if_neg h]
   by_cases h2 : z < szTs p + szT x
   ·rw [if_pos h2,if_neg (by omega),if_pos (by omega)]; omega
   ·rw [if_neg h2,if_neg (by omega),if_neg (by omega),if_neg (by omega)]; omega
 have r2 : ∀ z,ρ2 (ψ z) = z := by intro z; subst hψ; subst hρ2; dsimp only; omega
 constructor
 ·intro hc
  constructor
  ·refine Full.part (n := szTs (p ++ [x])) hc (φ := φ) (ρ := ρ1) (R := (axS (lnTs 0 (y :: q)) bn ++ stTs 0 (y :: q)).map (mapS ψ) ++ [edS (szTs p,szTs p + 1),edS (szTs p,szTs p + szT x + 1)]) (S := axS (lnTs 0 (p ++ [x])) an ++ stTs 0 (p ++ [x])) hp r1 ?_ ?_ (by simp) (by simp)
   ·intro z hz; subst hφ; dsimp only; split
    ·omega
    ·rw [if_pos (by omega)]; omega
   ·have c1 : ∀ w,szTs p + szT x + 1 ≤ w → w < szTs p + (1 + szT x + szT y + szTs q) → ρ1 w = szTs p := by
     intro w h1 h2; subst hρ1; dsimp only; rw [if_neg (by omega),if_neg (by omega),if_pos (by omega)]
    have c2 : ρ1 (szTs p) = szTs p := by subst hρ1; dsimp only; rw [if_pos (Nat.le_refl _)]
    have c3 : ρ1 (szTs p + 1) = szTs p := by subst hρ1; dsimp only; rw [if_neg (by omega),if_pos (by omega)]; omega
    intro s hs
    rcases List.mem_append.1 hs with hs | hs
    ·have := hBR s hs
     rw [c1 _ this.1.1 this.1.2,c1 _ this.2.1 this.2.2]
    ·simp only [List.mem_cons,List.not_mem_nil,or_false] at hs
     rcases hs with rfl | rfl
     ·exact c2.trans c3.symm
     ·exact c2.trans (c1 _ (Nat.le_refl _) (by omega)).symm
  ·refine Full.part (n := szTs (y :: q)) hc (φ := ψ) (ρ := ρ2) (R := (axS (lnTs 0 (p ++ [x])) an ++ stTs 0 (p ++ [x])).map (mapS φ) ++ [edS (szTs p,szTs p + 1),edS (szTs p,szTs p + szT x + 1)]) (S := axS (lnTs 0 (y :: q)) bn ++ stTs 0 (y :: q)) ?_ r2 ?_ ?_ (by simp) (by simp)
   ·refine hp.trans ?_
    rw [← List.append_assoc,← List.append_assoc]
    exact List.Perm.append_right _ List.perm_append_comm
   ·intro z hz; subst hψ; dsimp only; omega
   ·intro s hs
    subst hρ2
    rcases List.mem_append.1 hs with hs | hs
    ·have := hAR s hs
     dsimp only
     omega
    ·simp only [List.mem_cons,List.not_mem_nil,or_false] at hs
     rcases hs with rfl | rfl <;> simp only [edS] <;> omega
 ·rintro ⟨hc1,hc2⟩
  obtain ⟨T1,t1,t2,t3⟩ := cor_can hc1
  obtain ⟨T2,u1,u2,u3⟩ := cor_can hc2
  have hT1 : ∀ s ∈ T1.map (mapS φ),s.a ≤ szTs p + szT x ∧ s.b ≤ szTs p + szT x := fun s hs => hAR s ((t1.map _).mem_iff.2 hs)
  have hT2 : ∀ s ∈ T2.map (mapS ψ),(szTs p + szT x + 1 ≤ s.a ∧ s.a < szTs p + (1 + szT x + szT y + szTs q)) ∧ (szTs p + szT x + 1 ≤ s.b ∧ s.b < szTs p + (1 + szT x + szT y + szTs q)) := fun s hs => hBR s ((u1.map _).mem_iff.2 hs)
  have hn : ∀ z,φ z ≠ szTs p := by
   intro z; subst hφ; dsimp only
   split
   ·omega
   ·split <;> omega
  have k1 : ∀ a b,a < szTs (p ++ [x]) → b < szTs (p ++ [x]) → Con (ends (T1.map (mapS φ))) (φ a) (φ b) := fun a b ha hb => con_ends_map (t3 a b ha hb)
  have k2 : ∀ a b,a < szTs (y :: q) → b < szTs (y :: q) → Con (ends (T2.map (mapS ψ))) (ψ a) (ψ b) := fun a b ha hb => con_ends_map (u3 a b ha hb)
  have p0 : φ (szTs p) = szTs p + 1 := by subst hφ; dsimp only; rw [if_neg (by omega),if_pos (by omega)]
  have q0 : ψ 0 = szTs p + szT x + 1 := by subst hψ; rfl
  unfold CorT
  refine Full.perm (S := T1.map (mapS φ) ++ (T2.map (mapS ψ) ++ [edS (szTs p,szTs p + 1),edS (szTs p,szTs p + szT x + 1)])) ?_ ((hp.trans (((t1.map _).append ((u1.map _).append_right _)))).symm)
  refine Can.full (t2.put (φ := φ) (ρ := ρ1) (L' := []) r1 (by simp) (by simp)) ?_
  refine Can.full (u2.put (φ := ψ) (ρ := ρ2) r2 ?_ (by simp)) ?_
  ·intro e he
   rw [List.append_nil] at he
   obtain ⟨s,hs,rfl⟩ := mem_ends.1 he
   have := hT1 s hs
   have e1 : ρ2 s.a = 0 := by subst hρ2; dsimp only; omega
   have e2 : ρ2 s.b = 0 := by subst hρ2; dsimp only; omega
   dsimp only
   rw [e1,e2]
   exact .refl _
  rw [List.append_nil]
  refine .step (s := edS (szTs p,szTs p + 1)) (T := [edS (szTs p,szTs p + szT x + 1)]) (by rfl) (.refl _) ?_ (.step (s := edS (szTs p,szTs p + szT x + 1)) (T := []) (by rfl) (.refl _) ?_ (.nil ?_))
  ·intro g
   have := g.closed (fun z => z = szTs p) (fun e he => by
    rcases List.mem_append.1 he with he | he
    ·obtain ⟨s,hs,rfl⟩ := mem_ends.1 he
     have := hT2 s hs
     dsimp only
     omega
    ·obtain ⟨s,hs,rfl⟩ := mem_ends_map he
     simp [hn])
   simp [edS] at this
  ·intro g
   have := g.closed (fun z => z ≤ szTs p + szT x) (fun e he => by
    rcases List.mem_cons.1 he with rfl | he
    ·simp only [edS]; omega
    rcases List.mem_append.1 he with he | he
    ·obtain ⟨s,hs,rfl⟩ := mem_ends.1 he
     have := hT2 s hs
     dsimp only
     omega
    ·obtain ⟨s,hs,rfl⟩ := mem_ends.1 he
     have := hT1 s hs
     dsimp only
     omega)
   simp only [edS] at this
   omega
  ·have hall : ∀ a,a < szTs (p ++ .op false x y :: q) → Con ((szTs p,szTs p + szT x + 1) :: (szTs p,szTs p + 1) :: (ends (T2.map (mapS ψ)) ++ ends (T1.map (mapS φ)))) a (szTs p) := by
    intro a ha
    by_cases e : a = szTs p
    ·subst e; exact .refl _
    by_cases g : a ≤ szTs p + szT x
    ·obtain ⟨b,hb,rfl⟩ : ∃ b,b < szTs (p ++ [x]) ∧ φ b = a := by
      by_cases g : a < szTs p
      ·exact ⟨a,by omega,by subst hφ; simp [g]⟩
      ·exact ⟨a - 1,by omega,by subst hφ; dsimp only; rw [if_neg (by omega),if_pos (by omega)]; omega⟩
     have h1 := k1 b (szTs p) hb (by omega)
     rw [p0] at h1
     refine (h1.mono fun e he => by simp [he]).trans ?_
     exact (Con.edge (by simp)).symm
    ·obtain ⟨b,hb,rfl⟩ : ∃ b,b < szTs (y :: q) ∧ ψ b = a := ⟨a - (szTs p + szT x + 1),by omega,by subst hψ; dsimp only; omega⟩
     have h1 := k2 b 0 hb (by omega)
     rw [q0] at h1
     refine (h1.mono fun e he => by simp [he]).trans ?_
     exact (Con.edge (by simp)).symm
   intro a b ha hb
   exact (hall a ha).trans (hall b hb).symm
theorem dlT_sz (t : Lt) : szT (dlT t) = szT t := by
 induction t with
 | atom => rfl
 | op p a b ha hb => rw [dlT,szT,szT,ha,hb]
theorem dlT_at (t : Lt) : atT (dlT t) = (atT t).map fun x => .mk 1 x.nm (!x.no) [] := by
 induction t with
 | atom nm no => rfl
 | op p a b ha hb => rw [dlT,atT,atT,ha,hb,List.map_append]
theorem dlT_len (t : Lt) : (atT (dlT t)).length = (atT t).length := by rw [dlT_at,List.length_map]
theorem Con.alone {L : List (Nat × Nat)} {z y : Nat} (h : Con L z y) (hL : ∀ e ∈ L,e.1 ≠ z ∧ e.2 ≠ z) : y = z :=
 (h.closed (fun w => w = z) fun e he => ⟨fun g => absurd g (hL e he).1,fun g => absurd g (hL e he).2⟩).1 rfl
def zpS (a b : Nat) (t : Lt) : List Stp := ((lnT a t).zip (lnT b (dlT t))).map edS
def Iso (L : List (Nat × Nat)) (lo hi : Nat) : Prop := ∀ e ∈ L,(e.1 < lo ∨ hi ≤ e.1) ∧ (e.2 < lo ∨ hi ≤ e.2)
theorem id_can (t : Lt) : ∀ (a b : Nat),a + szT t ≤ b ∨ b + szT t ≤ a → ∃ S : List Stp,S.Perm (zpS a b t ++ (stT a t ++ stT b (dlT t))) ∧ (∀ s ∈ S,((a ≤ s.a ∧ s.a < a + szT t) ∨ (b ≤ s.a ∧ s.a < b + szT t)) ∧ ((a ≤ s.b ∧ s.b < a + szT t) ∨ (b ≤ s.b ∧ s.b < b + szT t))) ∧
  (∀ L : List (Nat × Nat),Iso L a (a + szT t) → Iso L b (b + szT t) → Can S L) ∧ ∀ x,(a ≤ x ∧ x < a + szT t) ∨ (b ≤ x ∧ x < b + szT t) → Con (ends S) x a := by
 induction t with
 | atom nm no =>
  intro a b hab
  simp only [szT] at hab ⊢
  refine ⟨[edS (a,b)],by simp [zpS,lnT,dlT,stT],?_,?_,?_⟩
  ·intro s hs
   rw [List.mem_singleton] at hs
   subst hs
   simp only [edS]
   omega
  ·intro L h1 h2
   refine .cons (.refl _) (fun g => ?_) (.nil _)
   have : b = a := g.alone (fun e he => by have := h1 e he; simp only [edS]; omega)
   omega
  ·intro x hx
   have : x = a ∨ x = b := by omega
   rcases this with rfl | rfl
   ·exact .refl _
   ·exact (Con.edge (by simp [ends,edS])).symm
 | op p t1 t2 ih1 ih2 =>
  intro a b hab
  simp only [szT] at hab ⊢
  have s1 := szT_pos t1
  have s2 := szT_pos t2
  obtain ⟨S1,p1,i1,c1,e1⟩ := ih1 (a + 1) (b + 1) (by omega)
  obtain ⟨S2,p2,i2,c2,e2⟩ := ih2 (a + 1 + szT t1) (b + 1 + szT t1) (by omega)
  -- the tensor's node x,the par's node y
  obtain ⟨x,y,hxy,hpq⟩ : ∃ x y,((x = a ∧ y = b) ∨ (x = b ∧ y = a)) ∧ ∀ s,List.count s (if p = true then [paS (a,a + 1,a + 1 + szT t1)] else [edS (a,a + 1),edS (a,a + 1 + szT t1)]) + List.count s (if (!p) = true then [paS (b,b + 1,b + 1 + szT t1)] else [edS (b,b + 1),edS (b,b + 1 + szT t1)]) = List.count s [edS (x,x + 1),edS (x,x + 1 + szT t1),paS (y,y + 1,y + 1 + szT t1)] := by
   cases p with
   | true =>
    refine ⟨b,a,.inr ⟨rfl,rfl⟩,fun s => ?_⟩
    simp only [if_true,Bool.not_true,Bool.false_eq_true,if_false]
    rw [show [edS (b,b + 1),edS (b,b + 1 + szT t1),paS (a,a + 1,a + 1 + szT t1)] = [edS (b,b + 1),edS (b,b + 1 + szT t1)] ++ [paS (a,a + 1,a + 1 + szT t1)] from rfl,List.count_append,Nat.add_comm]
   | false =>
    refine ⟨a,b,.inl ⟨rfl,rfl⟩,fun s => ?_⟩
    simp only [if_true,Bool.not_false,Bool.false_eq_true,if_false]
    rw [show [edS (a,a + 1),edS (a,a + 1 + szT t1),paS (b,b + 1,b + 1 + szT t1)] = [edS (a,a + 1),edS (a,a + 1 + szT t1)] ++ [paS (b,b + 1,b + 1 + szT t1)] from rfl,List.count_append]
  have hx1 : Con (ends S1) (x + 1) (a + 1) := e1 _ (by omega)
  have hy1 : Con (ends S1) (y + 1) (a + 1) := e1 _ (by omega)
  have hx2 : Con (ends S2) (x + 1 + szT t1) (a + 1 + szT t1) := e2 _ (by omega)
  have hy2 : Con (ends S2) (y + 1 + szT t1) (a + 1 + szT t1) := e2 _ (by omega)
  have j1 : ∀ e ∈ ends S1,((a + 1 ≤ e.1 ∧ e.1 < a + 1 + szT t1) ∨ (b + 1 ≤ e.1 ∧ e.1 < b + 1 + szT t1)) ∧ ((a + 1 ≤ e.2 ∧ e.2 < a + 1 + szT t1) ∨ (b + 1 ≤ e.2 ∧ e.2 < b + 1 + szT t1)) := fun e he => by
   obtain ⟨s,hs,rfl⟩ := mem_ends.1 he
   exact i1 s hs
  have j2 : ∀ e ∈ ends S2,((a + 1 + szT t1 ≤ e.1 ∧ e.1 < a + 1 + szT t1 + szT t2) ∨ (b + 1 + szT t1 ≤ e.1 ∧ e.1 < b + 1 + szT t1 + szT t2)) ∧ ((a + 1 + szT t1 ≤ e.2 ∧ e.2 < a + 1 + szT t1 + szT t2) ∨ (b + 1 + szT t1 ≤ e.2 ∧ e.2 < b + 1 + szT t1 + szT t2)) := fun e he => by
   obtain ⟨s,hs,rfl⟩ := mem_ends.1 he
   exact i2 s hs
  refine ⟨S1 ++ (S2 ++ [edS (x,x + 1),edS (x,x + 1 + szT t1),paS (y,y + 1,y + 1 + szT t1)]),?_,?_,?_,?_⟩
  ·refine permC fun s => ?_
   have q1 := p1.count_eq s
   have q2 := p2.count_eq s
   have q3 := hpq s
   rw [zpS,dlT,stT,stT,dlT_sz,lnT,lnT,dlT_sz,List.zip_append (by rw [atT_len,atT_len,dlT_len]),List.map_append]
   simp only [List.count_append,zpS] at q1 q2 q3 ⊢
   omega
  ·intro s hs
   rcases List.mem_append.1 hs with hs | hs
   ·have := i1 s hs; omega
   rcases List.mem_append.1 hs with hs | hs
   ·have := i2 s hs; omega
   simp only [List.mem_cons,List.not_mem_nil,or_false] at hs
   rcases hs with rfl | rfl | rfl <;> simp only [edS,paS] <;> omega
  ·intro L h1 h2
   refine (c1 L (fun e he => by have := h1 e he; omega) (fun e he => by have := h2 e he; omega)).app ((c2 _ (fun e he => ?_) (fun e he => ?_)).app ?_)
   ·rcases List.mem_append.1 he with he | he
    ·have := j1 e he; omega
    ·have := h1 e he; omega
   ·rcases List.mem_append.1 he with he | he
    ·have := j1 e he; omega
    ·have := h2 e he; omega
   have jj : ∀ e ∈ ends S2 ++ (ends S1 ++ L),e.1 ≠ a ∧ e.1 ≠ b ∧ e.2 ≠ a ∧ e.2 ≠ b := by
    intro e he
    rcases List.mem_append.1 he with he | he
    ·have := j2 e he; omega
    rcases List.mem_append.1 he with he | he
    ·have := j1 e he; omega
    ·have := h1 e he; have := h2 e he; omega
   refine .cons (.refl _) (fun g => ?_) (.cons (.refl _) (fun g => ?_) (.cons ?_ (fun g => ?_) (.nil _)))
   ·have : x + 1 = x := g.alone (fun e he => by have := jj e he; simp only [edS]; omega)
    omega
   ·have : x + 1 + szT t1 = x ∨ (a + 1 ≤ x + 1 + szT t1 ∧ x + 1 + szT t1 < a + 1 + szT t1) ∨ (b + 1 ≤ x + 1 + szT t1 ∧ x + 1 + szT t1 < b + 1 + szT t1) := (g.closed (fun z => z = x ∨ (a + 1 ≤ z ∧ z < a + 1 + szT t1) ∨ (b + 1 ≤ z ∧ z < b + 1 + szT t1)) (fun e he => by
     rcases List.mem_cons.1 he with rfl | he
     ·exact ⟨fun _ => .inr (by simp only [edS]; omega),fun _ => .inl rfl⟩
     rcases List.mem_append.1 he with he | he
     ·have := j2 e he; omega
     rcases List.mem_append.1 he with he | he
     ·have := j1 e he; omega
     ·have := h1 e he; have := h2 e he; omega)).1 (.inl rfl)
    omega
   ·simp only [paS,edS]
    have m1 : ∀ {u v : Nat},Con (ends S1) u v → Con ((x,x + 1 + szT t1) :: (x,x + 1) :: (ends S2 ++ (ends S1 ++ L))) u v := fun h => h.mono fun e he => by simp [he]
    have m2 : ∀ {u v : Nat},Con (ends S2) u v → Con ((x,x + 1 + szT t1) :: (x,x + 1) :: (ends S2 ++ (ends S1 ++ L))) u v := fun h => h.mono fun e he => by simp [he]
    exact (((m1 hy1).trans (m1 hx1).symm).trans (Con.edge (a := x) (b := x + 1) (by simp)).symm).trans ((Con.edge (a := x) (b := x + 1 + szT t1) (by simp)).trans ((m2 hx2).trans (m2 hy2).symm))
   ·have : y + 1 = y := g.alone (fun e he => by
     rcases List.mem_cons.1 he with rfl | he
     ·simp only [edS,paS]; omega
     rcases List.mem_cons.1 he with rfl | he
     ·simp only [edS,paS]; omega
     have := jj e he; simp only [paS]; omega)
    omega
  ·obtain ⟨E,hE⟩ : ∃ E,ends (S1 ++ (S2 ++ [edS (x,x + 1),edS (x,x + 1 + szT t1),paS (y,y + 1,y + 1 + szT t1)])) = E := ⟨_,rfl⟩
   rw [hE]
   have m1 : ∀ {u v : Nat},Con (ends S1) u v → Con E u v := fun h => h.mono fun e he => by rw [← hE,ends_app]; simp [he]
   have m2 : ∀ {u v : Nat},Con (ends S2) u v → Con E u v := fun h => h.mono fun e he => by rw [← hE,ends_app,ends_app]; simp [he]
   have k1 : Con E x (x + 1) := .edge (by rw [← hE,ends_app,ends_app]; simp [ends,edS,paS])
   have k2 : Con E x (x + 1 + szT t1) := .edge (by rw [← hE,ends_app,ends_app]; simp [ends,edS,paS])
   have k3 : Con E y (y + 1) := .edge (by rw [← hE,ends_app,ends_app]; simp [ends,edS,paS])
   have all1 : ∀ z,(a + 1 ≤ z ∧ z < a + 1 + szT t1) ∨ (b + 1 ≤ z ∧ z < b + 1 + szT t1) → Con E z x := fun z hz => (m1 (e1 z hz)).trans ((m1 hx1).symm.trans k1.symm)
   have all2 : ∀ z,(a + 1 + szT t1 ≤ z ∧ z < a + 1 + szT t1 + szT t2) ∨ (b + 1 + szT t1 ≤ z ∧ z < b + 1 + szT t1 + szT t2) → Con E z x := fun z hz => (m2 (e2 z hz)).trans ((m2 hx2).symm.trans k2.symm)
   have ally : Con E y x := k3.trans (all1 _ (by omega))
   have all : ∀ z,(a ≤ z ∧ z < a + (1 + szT t1 + szT t2)) ∨ (b ≤ z ∧ z < b + (1 + szT t1 + szT t2)) → Con E z x := by
    intro z hz
    by_cases g1 : z = x
    ·subst g1; exact .refl _
    by_cases g2 : z = y
    ·subst g2; exact ally
    by_cases g3 : (a + 1 ≤ z ∧ z < a + 1 + szT t1) ∨ (b + 1 ≤ z ∧ z < b + 1 + szT t1)
    ·exact all1 z g3
    ·exact all2 z (by omega)
   intro z hz
   exact (all z hz).trans (all a (by omega)).symm
def strL (n k : Nat) : List (Nat × Nat) := (List.range k).map fun i => (i,n + i)
theorem strL_succ (n k : Nat) : strL n (k + 1) = strL n k ++ [(k,n + k)] := by unfold strL; rw [List.range_succ,List.map_append]; rfl
theorem strL_flat (n : Nat) : ∀ k,k ≤ n → (flat2 (strL n k)).Nodup ∧ ∀ x,x ∈ flat2 (strL n k) ↔ x < k ∨ (n ≤ x ∧ x < n + k) := by
 intro k
 induction k with
 | zero => intro _; refine ⟨by simp [strL,flat2],fun x => ?_⟩; simp [strL,flat2]
 | succ k ih =>
  intro hk
  obtain ⟨h1,h2⟩ := ih (by omega)
  have e : flat2 (strL n (k + 1)) = flat2 (strL n k) ++ [k,n + k] := by rw [strL_succ]; unfold flat2; rw [List.flatMap_append]; rfl
  rw [e]
  refine ⟨?_,fun x => ?_⟩
  ·rw [List.nodup_append]
   refine ⟨h1,?_,?_⟩
   ·rw [List.nodup_cons]; refine ⟨?_,by simp⟩; simp; omega
   ·intro u hu v hv
    have := (h2 u).1 hu
    simp only [List.mem_cons,List.not_mem_nil,or_false] at hv
    omega
  ·rw [List.mem_append,h2]
   simp only [List.mem_cons,List.not_mem_nil,or_false]
   omega
theorem str_lk (t : Lt) : Lk (atTs [t,dlT t]) (strL (atT t).length (atT t).length) := by
 have hA : atTs [t,dlT t] = atT t ++ (atT t).map fun x => .mk 1 x.nm (!x.no) [] := by simp [atTs,dlT_at]
 obtain ⟨h1,h2⟩ := strL_flat (atT t).length (atT t).length (Nat.le_refl _)
 rw [hA]
 refine ⟨?_,h1,?_⟩
 ·intro a ha
  obtain ⟨i,hi,rfl⟩ := List.mem_map.1 ha
  rw [List.mem_range] at hi
  rw [List.length_append,List.length_map]
  refine ⟨by dsimp only; omega,by dsimp only; omega,?_⟩
  dsimp only
  rw [getElem!_pos _ i (by rw [List.length_append]; omega),getElem!_pos _ ((atT t).length + i) (by rw [List.length_append,List.length_map]; omega),List.getElem_append_left hi,List.getElem_append_right (by omega)]
  simp [fits,ln_mk]
 ·intro k hk
  rw [List.length_append,List.length_map] at hk
  exact (h2 k).2 (by omega)
theorem str_cor (t : Lt) : CorT [t,dlT t] (strL (atT t).length (atT t).length) := by
 obtain ⟨S,h1,h2,h3,h4⟩ := id_can t 0 (szT t) (by omega)
 have hz : axS (lnTs 0 [t,dlT t]) (strL (atT t).length (atT t).length) = zpS 0 (szT t) t := by
  have l1 : (lnT 0 t).length = (atT t).length := atT_len t 0
  have l2 : (lnT (szT t) (dlT t)).length = (atT t).length := by rw [atT_len,dlT_len]
  have e : lnTs 0 [t,dlT t] = lnT 0 t ++ lnT (szT t) (dlT t) := by simp [lnTs]
  rw [e]
  apply List.ext_getElem
  ·simp [axS,strL,zpS,l1,l2]
  ·intro i g1 g2
   have gi : i < (atT t).length := by simpa [axS,strL] using g1
   simp only [axS,strL,zpS,List.getElem_map,List.getElem_range,List.getElem_zip]
   rw [get!_app1 (by omega),← l1,get!_app2 (by omega),getElem!_pos _ i (by omega),getElem!_pos _ i (by omega)]
 unfold CorT
 rw [hz]
 have hs : stTs 0 [t,dlT t] = stT 0 t ++ stT (szT t) (dlT t) := by simp [stTs]
 rw [hs]
 refine Full.perm ?_ h1
 rw [← List.append_nil S]
 refine (h3 [] (by simp [Iso]) (by simp [Iso])).full (.nil fun x y hx hy => ?_)
 have hsz : szTs [t,dlT t] = szT t + szT t := by simp [szTs,dlT_sz]
 rw [List.append_nil]
 exact (h4 x (by omega)).trans (h4 y (by omega)).symm
end Go.Proofs.Ytbdionmmfigfiaa
namespace Go.Pv
open Go
theorem callOK_softR {P : Program} {f : FuncId} {args : List PV} {v v' : PV} {s s' : Store} (h : CallOK P f args s v' s') (hs : Soft v v') : CallOK P f args s v s' := by
 intro pub σ w cargs hb ha
 refine (h pub σ w cargs hb ha).mono ?_
 rintro e w' ⟨cv,pub',σ',rfl,h1,h2⟩
 exact ⟨cv,pub',σ',rfl,h1,hs.rel h2⟩
end Go.Pv
