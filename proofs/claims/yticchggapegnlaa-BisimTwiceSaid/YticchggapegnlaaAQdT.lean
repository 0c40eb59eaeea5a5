import Derived.Test.YticchggapegnlaaAQdA
import Derived.Test.YticchggapegnlaaATy
set_option linter.unusedVariables false
set_option linter.unusedSimpArgs false
set_option maxRecDepth 100000
set_option maxHeartbeats 4000000
namespace Go.Proofs.Yticchggapegnlaa
open Go Go.Pv
section
variable {κ : Type} [DecidableEq κ]
def addD (acc : List κ) (x : κ) : List κ := if x ∈ acc then acc else acc ++ [x]
def dd (l : List κ) : List κ := l.foldl addD []
def grp (l : List κ) : List Nat := l.map fun k => (dd l).idxOf k
theorem dd_snoc (l : List κ) (x : κ) : dd (l ++ [x]) = addD (dd l) x := by unfold dd; rw [List.foldl_append]; rfl
theorem mem_addD {acc : List κ} {x y : κ} : y ∈ addD acc x ↔ y ∈ acc ∨ y = x := by
 unfold addD
 split
 ·rename_i h; exact ⟨.inl,fun g => g.elim id fun e => e ▸ h⟩
 ·simp
theorem mem_foldD : ∀ (l acc : List κ) (y : κ),y ∈ l.foldl addD acc ↔ y ∈ acc ∨ y ∈ l
 | [],acc,y => by simp
 | x :: r,acc,y => by rw [List.foldl_cons,mem_foldD r,mem_addD,List.mem_cons,or_assoc]
theorem mem_dd {l : List κ} {y : κ} : y ∈ dd l ↔ y ∈ l := by unfold dd; rw [mem_foldD]; simp
theorem addD_pre (acc : List κ) (x : κ) : acc <+: addD acc x := by
 unfold addD; split
 ·exact List.prefix_rfl
 ·exact List.prefix_append _ _
theorem foldD_pre : ∀ (l acc : List κ),acc <+: l.foldl addD acc
 | [],acc => List.prefix_rfl
 | x :: r,acc => (addD_pre acc x).trans (foldD_pre r _)
theorem dd_pre (a b : List κ) : dd a <+: dd (a ++ b) := by unfold dd; rw [List.foldl_append]; exact foldD_pre b _
theorem addD_nodup {acc : List κ} (h : acc.Nodup) (x : κ) : (addD acc x).Nodup := by
 unfold addD
 split
 ·exact h
 ·rename_i hx
  rw [List.nodup_append]
  exact ⟨h,by simp,fun a ha b hb => by rw [List.mem_singleton.1 hb]; rintro rfl; exact hx ha⟩
theorem foldD_nodup : ∀ (l acc : List κ),acc.Nodup → (l.foldl addD acc).Nodup
 | [],acc,h => h
 | x :: r,acc,h => foldD_nodup r _ (addD_nodup h x)
theorem dd_nodup (l : List κ) : (dd l).Nodup := foldD_nodup l [] List.nodup_nil
theorem dd_len (l : List κ) : (dd l).length ≤ l.length := by
 have : ∀ (l acc : List κ),(l.foldl addD acc).length ≤ acc.length + l.length := by
  intro l
  induction l with
  | nil => intro acc; simp
  | cons x r ih =>
   intro acc
   rw [List.foldl_cons]
   have h1 := ih (addD acc x)
   have h2 : (addD acc x).length ≤ acc.length + 1 := by unfold addD; split <;> simp
   rw [List.length_cons]; omega
 simpa [dd] using this l []
theorem idx_pre {a b : List κ} (h : a <+: b) {x : κ} (hx : x ∈ a) : b.idxOf x = a.idxOf x := by
 obtain ⟨t,rfl⟩ := h
 rw [List.idxOf_append,if_pos hx]
@[simp] theorem grp_length (l : List κ) : (grp l).length = l.length := by simp [grp]
theorem grp_get (l : List κ) {i : Nat} (h : i < l.length) : (grp l)[i]'(by simpa using h) = (dd l).idxOf l[i] := by simp [grp]
theorem grp_iff {l : List κ} {i j : Nat} (hi : i < l.length) (hj : j < l.length) : (grp l)[i]'(by simpa using hi) = (grp l)[j]'(by simpa using hj) ↔ l[i] = l[j] := by
 rw [grp_get l hi,grp_get l hj]
 refine ⟨fun h => ?_,fun h => by rw [h]⟩
 have h1 := List.getElem_idxOf (List.idxOf_lt_length_of_mem (mem_dd.2 (List.getElem_mem hi)))
 have h2 := List.getElem_idxOf (List.idxOf_lt_length_of_mem (mem_dd.2 (List.getElem_mem hj)))
 rw [← h1,← h2]
 congr 1
theorem grp_new {l : List κ} {u : Nat} (hu : u < l.length) (h : l[u] ∉ l.take u) : (grp l)[u]'(by simpa using hu) = (dd (l.take u)).length ∧ (dd (l.take (u + 1))).length = (dd (l.take u)).length + 1 := by
 have h1 : dd (l.take (u + 1)) = dd (l.take u) ++ [l[u]] := by
  rw [take_snoc hu,dd_snoc,addD,if_neg (fun g => h (mem_dd.1 g))]
 have h2 : dd (l.take (u + 1)) <+: dd l := by
  have := dd_pre (l.take (u + 1)) (l.drop (u + 1))
  rwa [List.take_append_drop] at this
 refine ⟨?_,by rw [h1]; simp⟩
 rw [grp_get l hu,idx_pre h2 (by rw [h1]; simp),h1,List.idxOf_append,if_neg (fun g => h (mem_dd.1 g))]
 simp
theorem grp_old {l : List κ} {u : Nat} (hu : u < l.length) (h : l[u] ∈ l.take u) : (dd (l.take (u + 1))).length = (dd (l.take u)).length := by
 rw [take_snoc hu,dd_snoc,addD,if_pos (mem_dd.2 h)]
end
section
variable {κ ι : Type} [DecidableEq κ] [DecidableEq ι]
theorem dd_map (f : κ → ι) (l : List κ) : dd (l.map f) = dd ((dd l).map f) := by
 have key : ∀ l : List κ,(∀ y ∈ (dd l).map f,y ∈ l.map f) := by
  intro l y hy
  obtain ⟨x,hx,rfl⟩ := List.mem_map.1 hy
  exact List.mem_map.2 ⟨x,mem_dd.1 hx,rfl⟩
 suffices h : ∀ n,n ≤ l.length → dd ((l.take n).map f) = dd ((dd (l.take n)).map f) by
  have := h l.length (Nat.le_refl _)
  rwa [List.take_length] at this
 intro n
 induction n with
 | zero => intro _; rfl
 | succ n ih =>
  intro hn
  rw [take_snoc (show n < l.length by omega),List.map_append,List.map_singleton,dd_snoc,ih (by omega),dd_snoc]
  by_cases hx : l[n] ∈ dd (l.take n)
  ·have h1 : addD (dd (l.take n)) l[n] = dd (l.take n) := by unfold addD; rw [if_pos hx]
   have h2 : f l[n] ∈ dd ((dd (l.take n)).map f) := mem_dd.2 (List.mem_map.2 ⟨_,hx,rfl⟩)
   rw [h1,addD,if_pos h2]
  ·have h1 : addD (dd (l.take n)) l[n] = dd (l.take n) ++ [l[n]] := by unfold addD; rw [if_neg hx]
   rw [h1,List.map_append,List.map_singleton,dd_snoc]
theorem dd_eq_of_nodup : ∀ {l : List κ},l.Nodup → dd l = l := by
 intro l h
 suffices hh : ∀ (l acc : List κ),(acc ++ l).Nodup → l.foldl addD acc = acc ++ l by
  simpa [dd] using hh l [] (by simpa using h)
 intro l
 induction l with
 | nil => intro acc _; simp
 | cons x r ih =>
  intro acc h
  have hx : x ∉ acc := by
   rw [List.nodup_append] at h
   exact fun g => h.2.2 x g x (by simp) rfl
  rw [List.foldl_cons,addD,if_neg hx,ih (acc ++ [x]) (by simpa using h)]
  simp
theorem nodup_of_dd_len {l : List κ} (h : (dd l).length = l.length) : l.Nodup := by
 suffices hh : ∀ (l acc : List κ),acc.Nodup → (l.foldl addD acc).length = acc.length + l.length → (acc ++ l).Nodup by
  simpa using hh l [] List.nodup_nil (by simpa [dd] using h)
 intro l
 induction l with
 | nil => intro acc h _; simpa using h
 | cons x r ih =>
  intro acc ha h
  rw [List.foldl_cons] at h
  have hle : ∀ (l acc : List κ),(l.foldl addD acc).length ≤ acc.length + l.length := by
   intro l
   induction l with
   | nil => intro acc; simp
   | cons x r ih =>
    intro acc
    rw [List.foldl_cons]
    have h1 := ih (addD acc x)
    have h2 : (addD acc x).length ≤ acc.length + 1 := by unfold addD; split <;> simp
    rw [List.length_cons]; omega
  have h1 := hle r (addD acc x)
  rw [List.length_cons] at h
  by_cases hx : x ∈ acc
  ·have : addD acc x = acc := by unfold addD; rw [if_pos hx]
   rw [this] at h1 h; omega
  ·have e : addD acc x = acc ++ [x] := by unfold addD; rw [if_neg hx]
   rw [e] at h
   have := ih (acc ++ [x]) (e ▸ addD_nodup ha x) (by rw [h]; simp; omega)
   simpa using this
theorem idx_get {l : List κ} (h : l.Nodup) {j : Nat} (hj : j < l.length) : l.idxOf l[j] = j := by
 have hm := List.getElem_idxOf (List.idxOf_lt_length_of_mem (List.getElem_mem hj))
 exact (List.getElem_inj (h₀ := List.idxOf_lt_length_of_mem (List.getElem_mem hj)) (h₁ := hj) h).1 hm
theorem dd_coarse (f : κ → ι) (l : List κ) : (dd (l.map f)).length ≤ (dd l).length ∧ ((dd (l.map f)).length = (dd l).length → ∀ x ∈ l,∀ y ∈ l,f x = f y → x = y) := by
 rw [dd_map]
 have h1 := dd_len ((dd l).map f)
 rw [List.length_map] at h1
 refine ⟨h1,fun h x hx y hy hxy => ?_⟩
 have hnd := nodup_of_dd_len (l := (dd l).map f) (by rw [h,List.length_map])
 rw [List.nodup_iff_pairwise_ne,List.pairwise_map] at hnd
 exact Classical.byContradiction fun hne => by
  obtain ⟨i,hi,rfl⟩ := List.mem_iff_getElem.1 (mem_dd.2 hx)
  obtain ⟨j,hj,rfl⟩ := List.mem_iff_getElem.1 (mem_dd.2 hy)
  rcases Nat.lt_trichotomy i j with hij | hij | hij
  ·exact (List.pairwise_iff_getElem.1 hnd i j hi hj hij) hxy
  ·subst hij; exact hne rfl
  ·exact (List.pairwise_iff_getElem.1 hnd j i hj hi hij) hxy.symm
theorem grp_inj (f : κ → ι) (l : List κ) (h : ∀ x ∈ l,∀ y ∈ l,f x = f y → x = y) : grp (l.map f) = grp l := by
 have hdd : dd (l.map f) = (dd l).map f := by
  rw [dd_map]
  refine dd_eq_of_nodup ?_
  rw [List.nodup_iff_pairwise_ne,List.pairwise_map]
  refine (List.nodup_iff_pairwise_ne.1 (dd_nodup l)).imp_of_mem ?_
  intro a b ha hb hab e
  exact hab (h a (mem_dd.1 ha) b (mem_dd.1 hb) e)
 apply List.ext_getElem (by simp)
 intro i h1 h2
 have hi : i < l.length := by simpa using h2
 rw [grp_get _ (by simpa using hi),grp_get _ hi,hdd]
 simp only [List.getElem_map]
 have hm : l[i] ∈ dd l := mem_dd.2 (List.getElem_mem hi)
 have hj := List.idxOf_lt_length_of_mem hm
 have hg := List.getElem_idxOf hj
 generalize (dd l).idxOf l[i] = j at *
 rw [← hg]
 have : (List.map f (dd l))[j]'(by simpa using hj) = f (dd l)[j] := by simp
 rw [← this]
 exact (idx_get (by
  rw [List.nodup_iff_pairwise_ne,List.pairwise_map]
  refine (List.nodup_iff_pairwise_ne.1 (dd_nodup l)).imp_of_mem ?_
  intro a b ha hb hab e
  exact hab (h a (mem_dd.1 ha) b (mem_dd.1 hb) e)) _)
end
theorem grp_grp {κ : Type} [DecidableEq κ] (l : List κ) : grp (grp l) = grp l := by
 have : grp l = l.map fun k => (dd l).idxOf k := rfl
 rw [this,grp_inj _ l ?_]
 ·rfl
 ·intro x hx y hy h
  have h1 := List.getElem_idxOf (List.idxOf_lt_length_of_mem (mem_dd.2 hx))
  have h2 := List.getElem_idxOf (List.idxOf_lt_length_of_mem (mem_dd.2 hy))
  rw [← h1,← h2]
  congr 1
theorem dd_grp_len {κ : Type} [DecidableEq κ] (L : List κ) : (dd (grp L)).length = (dd L).length := by
 have hinj : ∀ x ∈ L,∀ y ∈ L,(dd L).idxOf x = (dd L).idxOf y → x = y := by
  intro x hx y hy h
  have h1 := List.getElem_idxOf (List.idxOf_lt_length_of_mem (mem_dd.2 hx))
  have h2 := List.getElem_idxOf (List.idxOf_lt_length_of_mem (mem_dd.2 hy))
  rw [← h1,← h2]
  congr 1
 have hdd : dd (grp L) = (dd L).map fun k => (dd L).idxOf k := by
  show dd (L.map fun k => (dd L).idxOf k) = _
  rw [dd_map]
  refine dd_eq_of_nodup ?_
  rw [List.nodup_iff_pairwise_ne,List.pairwise_map]
  refine (List.nodup_iff_pairwise_ne.1 (dd_nodup L)).imp_of_mem ?_
  intro a b ha hb hab e
  exact hab (hinj a (mem_dd.1 ha) b (mem_dd.1 hb) e)
 rw [hdd,List.length_map]
def keyN (T : List (List Bool)) (S : List Nat) (u : Nat) : Nat × List Nat := (S.getD u 0,seesS T S u)
def nextS (T : List (List Bool)) (S : List Nat) : List Nat := grp ((List.range S.length).map (keyN T S))
def stg (T : List (List Bool)) (S0 : List Nat) : Nat → List Nat
 | 0 => S0
 | i + 1 => nextS T (stg T S0 i)
theorem nextS_length (T : List (List Bool)) (S : List Nat) : (nextS T S).length = S.length := by simp [nextS]
theorem stg_length (T : List (List Bool)) (S0 : List Nat) : ∀ i,(stg T S0 i).length = S0.length
 | 0 => rfl
 | i + 1 => by rw [stg,nextS_length,stg_length]
theorem nextS_fst (T : List (List Bool)) (S : List Nat) : ((List.range S.length).map (keyN T S)).map Prod.fst = S := by
 apply List.ext_getElem (by simp)
 intro i h1 h2
 simp [keyN,List.getD_eq_getElem?_getD,List.getElem?_eq_getElem h2]
theorem stg_grp (T : List (List Bool)) {S0 : List Nat} (h : grp S0 = S0) : ∀ i,grp (stg T S0 i) = stg T S0 i
 | 0 => h
 | i + 1 => by rw [stg,nextS,grp_grp]
theorem next_grow (T : List (List Bool)) {S : List Nat} (h : grp S = S) : nextS T S = S ∨ (dd S).length < (dd (nextS T S)).length := by
 have hk := nextS_fst T S
 generalize hL : (List.range S.length).map (keyN T S) = L at hk
 have hn : nextS T S = grp L := by rw [nextS,hL]
 obtain ⟨h1,h2⟩ := dd_coarse Prod.fst L
 rw [hk] at h1 h2
 have h3 := dd_grp_len L
 rw [hn,h3]
 by_cases he : (dd S).length = (dd L).length
 ·left
  have := grp_inj Prod.fst L (h2 he)
  rw [hk,h] at this
  exact this.symm
 ·right; omega
theorem stg_stop (T : List (List Bool)) {S0 : List Nat} (h : grp S0 = S0) : ∃ K,K ≤ S0.length ∧ stg T S0 (K + 1) = stg T S0 K ∧ ∀ i < K,stg T S0 (i + 1) ≠ stg T S0 i := by
 have key : ∀ k i,S0.length ≤ (dd (stg T S0 i)).length + k → (∀ j < i,stg T S0 (j + 1) ≠ stg T S0 j) → i ≤ (dd (stg T S0 i)).length → ∃ K,K ≤ S0.length ∧ stg T S0 (K + 1) = stg T S0 K ∧ ∀ i < K,stg T S0 (i + 1) ≠ stg T S0 i := by
  intro k
  induction k with
  | zero =>
   intro i hk hj hi
   have hl := dd_len (stg T S0 i)
   rw [stg_length] at hl
   refine ⟨i,by omega,?_,hj⟩
   rcases next_grow T (stg_grp T h i) with h1 | h1
   ·exact h1
   ·have := dd_len (nextS T (stg T S0 i))
    rw [nextS_length,stg_length] at this; omega
  | succ k ih =>
   intro i hk hj hi
   have hl := dd_len (stg T S0 i)
   rw [stg_length] at hl
   rcases next_grow T (stg_grp T h i) with h1 | h1
   ·exact ⟨i,by omega,h1,hj⟩
   ·refine ih (i + 1) (by show _ ≤ (dd (nextS T (stg T S0 i))).length + k; omega) ?_ (by show _ ≤ (dd (nextS T (stg T S0 i))).length; omega)
    intro j hji
    by_cases e : j = i
    ·subst e
     intro g
     have g2 : nextS T (stg T S0 j) = stg T S0 j := g
     rw [g2] at h1; omega
    ·exact hj j (by omega)
 exact key S0.length 0 (by omega) (fun j hj => by omega) (Nat.zero_le _)
end Go.Proofs.Yticchggapegnlaa
namespace Go.Proofs.Yticchggapegnlaa
open Go Go.Pv
def seeB (rel : List (Int × Int)) (u v : Nat) : Bool := decide (((u : Int),(v : Int)) ∈ rel)
def tabB (n : Nat) (rel : List (Int × Int)) : List (List Bool) := (List.range n).map fun u => (List.range n).map (seeB rel u)
def rowsB0 (n i : Nat) : List (List Bool) := (List.range n).map fun u => if u < i then List.replicate n false else []
theorem rowsB0_zero (n : Nat) : rowsB0 n 0 = List.replicate n [] := by simp [rowsB0,List.map_const']
theorem rowsB0_all (n : Nat) : rowsB0 n n = tabB n [] := by
 unfold rowsB0 tabB
 apply List.map_congr_left
 intro u hu
 rw [List.mem_range] at hu
 rw [if_pos hu]
 apply List.ext_getElem (by simp)
 intro v h1 h2
 simp [seeB]
theorem rowsB0_next {n i : Nat} (h : i < n) : (rowsB0 n i).set i (List.replicate n false) = rowsB0 n (i + 1) := by
 apply List.ext_getElem (by simp [rowsB0])
 intro u h1 h2
 rw [List.getElem_set]
 simp only [rowsB0,List.getElem_map,List.getElem_range]
 by_cases e : i = u
 ·subst e; rw [if_pos rfl,if_pos (by omega)]
 ·rw [if_neg e]
  by_cases h3 : u < i
  ·rw [if_pos h3,if_pos (by omega)]
  ·rw [if_neg h3,if_neg (by omega)]
@[simp] theorem rowsB0_length (n i : Nat) : (rowsB0 n i).length = n := by simp [rowsB0]
@[simp] theorem tabB_length (n : Nat) (rel : List (Int × Int)) : (tabB n rel).length = n := by simp [tabB]
theorem tabB_len {n u : Nat} {rel : List (Int × Int)} (h : u < (tabB n rel).length) : (tabB n rel)[u].length = n := by simp [tabB]
theorem tabB_next {n a b : Nat} {rel : List (Int × Int)} (ha : a < n) (hb : b < n) : (tabB n rel).set a (((tabB n rel).getD a []).set b true) = tabB n (rel ++ [((a : Int),(b : Int))]) := by
 rw [List.getD_eq_getElem?_getD,List.getElem?_eq_getElem (by simpa using ha),Option.getD_some]
 apply List.ext_getElem (by simp)
 intro u h1 h2
 rw [List.getElem_set]
 by_cases e : a = u
 ·subst e
  rw [if_pos rfl]
  apply List.ext_getElem (by simp [tabB])
  intro v h3 h4
  rw [List.getElem_set]
  by_cases e2 : b = v
  ·subst e2; simp [tabB,seeB]
  ·rw [if_neg e2]
   have : ¬ ((v : Int) = (b : Int)) := by omega
   simp [tabB,seeB,this]
 ·rw [if_neg e]
  have : ¬ ((u : Int) = (a : Int)) := by omega
  simp [tabB,seeB,this]
def x27_T3 : XC := .seq (.reg [⟨some 38,.move (.tmp 3),none⟩,⟨some 2,.assign (.tmp 38),none⟩]) .ret
def x27_L2 : XC := .seq (.reg [⟨some 26,.binOp .lss 3 (.tmp 25) (.tmp 24) 3,none⟩]) (.seq (.cond (.tmp 26) .skip (.exit 2)) (.seq (.block 3 (.seq (.reg [⟨some 27,.indexAddr 22 (.tmp 23) (.tmp 25),none⟩,⟨some 28,.load 32 (.tmp 27),none⟩,⟨some 6,.alloc 32,none⟩,⟨none,.store 32 (.tmp 6) (.tmp 28),none⟩]) (.drawn 10 [⟨some 29,.move (.tmp 3),none⟩,⟨some 30,.indexAddr 32 (.tmp 6) (.const (.int .i64 0)),none⟩,⟨some 31,.load 3 (.tmp 30),none⟩,⟨some 32,.indexAddr 52 (.tmp 29) (.tmp 31),none⟩,⟨some 33,.load 46 (.tmp 32),none⟩,⟨some 34,.indexAddr 32 (.tmp 6) (.const (.int .i64 1)),none⟩,⟨some 35,.load 3 (.tmp 34),none⟩,⟨some 36,.indexAddr 46 (.tmp 33) (.tmp 35),none⟩,⟨none,.store 4 (.tmp 36) (.const (.bool true)),none⟩]))) (.reg [⟨some 37,.binOp .add 3 (.tmp 25) (.const (.int .i64 1)) 3,none⟩,⟨some 25,.move (.tmp 37),none⟩])))
def x27_T1 : XC := .seq (.seq (.reg [⟨some 22,.fieldAddr 25 (.tmp 1) 1,none⟩,⟨some 23,.load 22 (.tmp 22),none⟩,⟨some 24,.call ⟨.builtin .len,#[.tmp 23],#[22]⟩,none⟩,⟨some 25,.move (.const (.int .i64 0)),none⟩]) (.bloop 2 x27_L2)) (x27_T3)
def x27_L0 : XC := .seq (.reg [⟨some 13,.binOp .lss 3 (.tmp 12) (.tmp 11) 3,none⟩]) (.seq (.cond (.tmp 13) .skip (.exit 0)) (.seq (.block 1 (.seq (.reg [⟨some 14,.move (.tmp 12),none⟩,⟨some 4,.assign (.tmp 14),none⟩]) (.reg [⟨some 15,.move (.tmp 3),none⟩,⟨some 16,.move (.tmp 4),none⟩,⟨some 17,.fieldAddr 25 (.tmp 1) 0,none⟩,⟨some 18,.load 3 (.tmp 17),none⟩,⟨some 19,.makeSlice 46 (.tmp 18) (.tmp 18),none⟩,⟨some 20,.indexAddr 52 (.tmp 15) (.tmp 16),none⟩,⟨none,.store 46 (.tmp 20) (.tmp 19),none⟩]))) (.reg [⟨some 21,.binOp .add 3 (.tmp 12) (.const (.int .i64 1)) 3,none⟩,⟨some 12,.move (.tmp 21),none⟩])))
def x27 : XC := .seq (.reg [⟨some 1,.box 25 (.tmp 0),none⟩,⟨some 2,.assign (.const (.slice none 0 0)),none⟩]) (.seq (.reg [⟨some 7,.fieldAddr 25 (.tmp 1) 0,none⟩,⟨some 8,.load 3 (.tmp 7),none⟩,⟨some 9,.makeSlice 52 (.tmp 8) (.tmp 8),none⟩,⟨some 3,.assign (.tmp 9),none⟩]) (.seq (.seq (.reg [⟨some 10,.move (.tmp 3),none⟩,⟨some 11,.call ⟨.builtin .len,#[.tmp 10],#[52]⟩,none⟩,⟨some 12,.move (.const (.int .i64 0)),none⟩]) (.bloop 0 x27_L0)) (x27_T1)))
@[simp] theorem x27_s {C e s K} : type_of% (@X_at C e s K _ _ x27_T3.eq_1) ∧ type_of% (@X_at C e s K _ _ x27_L2.eq_1) ∧ type_of% (@X_at C e s K _ _ x27_T1.eq_1) ∧ type_of% (@X_at C e s K _ _ x27_L0.eq_1) ∧ type_of% (@X_at C e s K _ _ x27.eq_1) := ⟨X_at x27_T3.eq_1,X_at x27_L2.eq_1,X_at x27_T1.eq_1,X_at x27_L0.eq_1,X_at x27.eq_1⟩
def an27 : Ann := ⟨[],[(2,[(3,some 4000,1)],[3,23,24,25],[3]),(0,[(3,some 4000,1)],[1,3,11,12],[1,3])],[]⟩
@[simp] theorem an27_a : an27.clsOf 10 = .draw ∧ an27.frzOf 10 = [] ∧ an27.loopOf 2 = ([(3,some 4000,1)],[3,23,24,25],[3]) ∧ an27.loopOf 0 = ([(3,some 4000,1)],[1,3,11,12],[1,3]) := ⟨rfl,rfl,rfl,rfl⟩
theorem fi27 : FI Try.prog 27 (cxA an27) x27 [.tmp 2] Try.f27 := fiA Try.func27 mixed
theorem table_bisim (m : Mdl) (n : Nat) (hn : m.n = n) (hs : n ≤ 1024) (hrel : ∀ p ∈ m.rel,0 ≤ p.1 ∧ p.1 < n ∧ 0 ≤ p.2 ∧ p.2 < n) : CallOK Try.prog 27 [.agg (mdl m)] [] (.list ((tabB n m.rel).map bitRow)) [] := by
 obtain ⟨mn,rel,tr⟩ := m
 simp only at hn hrel
 subst hn
 refine fi27.op ?_
 (refine Sg.h ?_;try repeat' ((with_reducible first|refine brA ?_|refine brE fun _=>?_|refine spl ⟨?_,?_⟩<;>intro _)<;> ((try simp -implicitDefEqProofs); (try simp -implicitDefEqProofs(disch:=first|assumption|(try simp only[lens]);omega -splitDisjunctions)))))
 refine HT_new (b := 2) (n := n) (ρ0 := [0,1]) rfl rfl rfl rfl rfl (by simp) (by simp) (by simp) ?_
 simp
 refine W_of fun Q hQ => ?_
 have main : ∀ r i,i + r = n → Q [(1,.ptr 0 0 0),(3,.sl 1 0 n),(11,.int .i64 (n : Int)),(12,.int .i64 (i : Int))] (.rows 3 [mdl ⟨n,rel,tr⟩] :: .rows 1 (tabRows 2 ((rowsB0 n i).map List.length)) :: tabObjs 1 ((rowsB0 n i).map (List.map boolRow))) := by
  intro r
  induction r with
  | zero =>
   intro i hi
   have hin : n = i := by omega
   clear hi
   subst hin
   rw [rowsB0_all]
   apply hQ
   clear hQ
   (refine Sg.h ?_;try repeat' ((with_reducible first|refine brA ?_|refine brE fun _=>?_|refine spl ⟨?_,?_⟩<;>intro _)<;> ((try simp -implicitDefEqProofs); (try simp -implicitDefEqProofs(disch:=first|assumption|(try simp only[lens]);omega -splitDisjunctions)))))
   refine HT_keep0 (pre := [_,_]) (b := 2) (ρ0 := [0,1]) rfl rfl rfl rfl (by simp) flat_tab (by simp) (by simp) (by simp) ?_
   (refine Sg.h ?_;try repeat' ((with_reducible first|refine brA ?_|refine brE fun _=>?_|refine spl ⟨?_,?_⟩<;>intro _)<;> ((try simp -implicitDefEqProofs); (try simp -implicitDefEqProofs(disch:=first|assumption|(try simp only[lens]);omega -splitDisjunctions)))))
   refine HT_keep0 (pre := [_,_]) (b := 2) (ρ0 := [1]) rfl rfl rfl rfl (by simp) flat_tab (by simp) (by simp) (by simp) ?_
   simp
   refine W_of fun Q2 hQ2 => ?_
   have main2 : ∀ r k,k + r = rel.length → Q2 [(3,.sl 0 0 n),(23,.list (rel.map relRow)),(24,.int .i64 (rel.length : Int)),(25,.int .i64 (k : Int))] (.rows 1 (tabRows 1 ((tabB n (rel.take k)).map List.length)) :: tabObjs 1 ((tabB n (rel.take k)).map (List.map boolRow))) := by
    intro r
    induction r with
    | zero =>
     intro k hk
     rw [List.take_of_length_le (by omega)]
     have htl : (tabB n rel).length = n := tabB_length _ _
     generalize tabB n rel = T at *
     apply hQ2
     clear hQ2
     (refine Sg.h ?_;try repeat' ((with_reducible first|refine brA ?_|refine brE fun _=>?_|refine spl ⟨?_,?_⟩<;>intro _)<;> ((try simp -implicitDefEqProofs); (try simp -implicitDefEqProofs(disch:=first|assumption|(try simp only[lens]);omega -splitDisjunctions)))))
     refine HT_keep0 (pre := [_]) (b := 1) (ρ0 := [0]) rfl rfl rfl rfl (by simp) flat_tab (by simp) (by simp) (by simp) ?_
     (refine Sg.h ?_;try repeat' ((with_reducible first|refine brA ?_|refine brE fun _=>?_|refine spl ⟨?_,?_⟩<;>intro _)<;> ((try simp -implicitDefEqProofs [htl]); (try simp -implicitDefEqProofs(disch:=first|assumption|(try simp only[lens]);omega -splitDisjunctions) [htl]))))
     rw [List.take_of_length_le (by simp [htl]),deref_tab1' (g := boolRow)]
     rfl
    | succ r ih =>
     intro k hk
     have hkl : k < rel.length := by omega
     have ih := ih (k + 1) (by omega)
     obtain ⟨p1,p2,p3,p4⟩ := hrel _ (List.getElem_mem hkl)
     obtain ⟨a,ha⟩ := Int.eq_ofNat_of_zero_le p1
     obtain ⟨b,hb⟩ := Int.eq_ofNat_of_zero_le p3
     have han : a < n := by omega
     have hbn : b < n := by omega
     have hp : rel[k] = ((a : Int),(b : Int)) := by rw [← ha,← hb]
     rw [take_snoc hkl,hp,← tabB_next han hbn] at ih
     have hrow : ∀ h : a < (tabB n (rel.take k)).length,(tabB n (rel.take k))[a].length = n := fun h => tabB_len h
     have htl : (tabB n (rel.take k)).length = n := tabB_length _ _
     clear hrel
     generalize tabB n (rel.take k) = T at *
     have haT : a < T.length := by omega
     have hrow := hrow haT
     rw [List.getD_eq_getElem?_getD,List.getElem?_eq_getElem haT,Option.getD_some] at ih
     have hget : (tabObjs 1 (T.map (List.map boolRow)) ++ [PObj.rows 2 [[.int .i64 (a : Int),.int .i64 (b : Int)]]])[a]? = some (.rows 1 (T[a].map boolRow)) := by
      rw [List.getElem?_append_left (by simpa using haT),tabObjs_get]; simp [haT]
     have hset : (tabObjs 1 (T.map (List.map boolRow)) ++ [PObj.rows 2 [[.int .i64 (a : Int),.int .i64 (b : Int)]]]).set a (.rows 1 ((T[a].map boolRow).set b [.bool true])) = tabObjs 1 ((T.map (List.map boolRow)).set a ((T[a].map boolRow).set b [.bool true])) ++ [PObj.rows 2 [[.int .i64 (a : Int),.int .i64 (b : Int)]]] := by
      rw [List.set_append_left _ _ (by simpa using haT),tabObjs_set]
     have hlen : (T.set a (T[a].set b true)).map List.length = T.map List.length := by
      apply List.ext_getElem (by simp)
      intro j h1 h2
      simp only [List.getElem_map,List.getElem_set]
      split
      ·subst_vars; simp
      ·rfl
     rw [hlen] at ih
     apply hQ2
     clear hQ2
     (refine Sg.h ?_;try repeat' ((with_reducible first|refine brA ?_|refine brE fun _=>?_|refine spl ⟨?_,?_⟩<;>intro _)<;> ((try simp -implicitDefEqProofs [hkl,ha,hb,htl,hrow,hget,hset]); (try simp -implicitDefEqProofs(disch:=first|assumption|(try simp only[lens]);omega -splitDisjunctions) [hkl,ha,hb,htl,hrow,hget,hset]))))
     rw [show (List.map (List.map boolRow) T).set a ((List.map boolRow T[a]).set b [PV.bool true]) = (T.set a (T[a].set b true)).map (List.map boolRow) from by rw [List.map_set,List.map_set]; rfl]
     have hTl : (T.set a (T[a].set b true)).length = n := by simp [htl]
     generalize T.set a (T[a].set b true) = T2 at *
     refine HT_keep (pre := [_]) (b := 1) (ρ0 := [0]) rfl rfl rfl rfl (by simp [hTl,htl]) flat_tab (by simp) (by simp) (by simp) ?_
     (refine Sg.h ?_;try repeat' ((with_reducible first|refine brA ?_|refine brE fun _=>?_|refine spl ⟨?_,?_⟩<;>intro _)<;> ((try simp -implicitDefEqProofs [hTl,htl]); (try simp -implicitDefEqProofs(disch:=first|assumption|(try simp only[lens]);omega -splitDisjunctions) [hTl,htl]))))
     all_goals first | exact ih | (refine at2 ih ?_ ?_ <;> simp; done) | (exfalso; first | omega | (simp_all; done) | (simp_all; omega))
   all_goals first | exact (main2 _ 0 (Nat.zero_add _)) | (refine at2 (main2 _ 0 (Nat.zero_add _)) ?_ ?_ <;> simp; done) | (exfalso; first | omega | (simp_all; done) | (simp_all; omega))
  | succ r ih =>
   intro i hi
   have hin : i < n := by omega
   have ih := ih (i + 1) (by omega)
   rw [← rowsB0_next hin] at ih
   apply hQ
   clear hQ
   (refine Sg.h ?_;try repeat' ((with_reducible first|refine brA ?_|refine brE fun _=>?_|refine spl ⟨?_,?_⟩<;>intro _)<;> ((try simp -implicitDefEqProofs [hin]); (try simp -implicitDefEqProofs(disch:=first|assumption|(try simp only[lens]);omega -splitDisjunctions) [hin]))))
   refine HT_put0 (pre := [_,_]) (b := 2) (ρ0 := [0,1]) (ys := (List.replicate n false).map boolRow) rfl rfl rfl rfl (by simpa using hin) (by simp) (by simp; omega) (by simp) flat_tab flat_rows (by simp) (by simp) (by simp) ?_
   (refine Sg.h ?_;try repeat' ((with_reducible first|refine brA ?_|refine brE fun _=>?_|refine spl ⟨?_,?_⟩<;>intro _)<;> ((try simp -implicitDefEqProofs); (try simp -implicitDefEqProofs(disch:=first|assumption|(try simp only[lens]);omega -splitDisjunctions)))))
   simpa [List.map_set] using ih
 simpa [rowsB0_zero] using main n 0 (by omega)
end Go.Proofs.Yticchggapegnlaa
