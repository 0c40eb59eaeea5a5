import Derived.Test.YticchggapegnlaaAQFm
import Derived.Test.YticchggapegnlaaAQdT
set_option linter.unusedVariables false
set_option linter.unusedSimpArgs false
set_option maxRecDepth 100000
set_option maxHeartbeats 4000000
namespace Go.Proofs.Yticchggapegnlaa
open Go Go.Pv
theorem fault_kripke (c a : Int) (s : Store) : CallOK Try.prog 39 [.int .i64 c,.int .i64 a] s (.agg [.int .i64 c,.int .i64 a]) s := by
 refine CallOK.frame ?_ ?_
 ·refine callOK_of Try.func39 rfl rfl Try.ntmps39 (by simp) ?_
  rw [Try.results39]
  dsimp only [light,regL,dsts,lopsL,lop,nth]
  (have F_ := True.intro); repeat' (first | (with_reducible refine stp ?_) | (with_reducible refine hq _ _ ?_; clear hq q) | (with_reducible refine hk _ _ ?_; clear hk k) | (with_reducible refine EvL.regA (fun k hk => ?_)) | ((with_reducible apply WOps.call); (· fail)) | (with_reducible refine WOps.auto F_ (fun q hq => ?_)) | ((with_reducible refine EvL.condA ?_ ?_); all_goals (intro h <;> (try simp only [hna,hnb,hnc,ne_eq,reduceCtorEq,Int.reduceEq,gt_iff_lt,ge_iff_le] at h) <;> (try (exfalso; omega; done)))) | (with_reducible refine EvL.drawnA (fun k hk => ?_)) | (with_reducible refine EvL.mixA (fun k hk => ?_)) | (with_reducible refine EvL.mix2A (fun k hk => ?_)) | (with_reducible refine WMix.bothA F_ ?_ ?_) | (with_reducible refine WOps.takeA ?_) | (with_reducible refine WOps.passA ?_) | ((with_reducible refine WOps.splitA ?_ ?_); all_goals (intro h <;> simp only [h] <;> (try simp only [hna,hnb,hnc,ne_eq,reduceCtorEq,Int.reduceEq,gt_iff_lt,ge_iff_le] at h) <;> (try (exfalso; omega; done)))) | (with_reducible refine WMix.takeA ?_) | (with_reducible refine WMix.passA ?_) | (with_reducible refine WMix.consA F_ ?_) | (with_reducible refine WMix.makeA F_ ?_) | ((with_reducible refine And.intro ?_ ?_); (· omega)) | ((with_reducible refine And.intro (fun h => ?_) (fun h => ?_)) <;> (try simp only [Decidable.not_not] at h) <;> (try simp only [h])) | (with_reducible intro hl))
  (refine finA ?_; try exact trivial)
 ·simp [flat_int,Flat.closed]
def flt (c a : Int) : PV := .agg [.int .i64 c,.int .i64 a]
theorem flt_eq : ∀ c a : Int,flt c a = .agg [.int .i64 c,.int .i64 a] := fun _ _ => rfl
def relFault (n : Int) : List (Int × Int) → Int → Option (Int × Int)
 | [],_ => none
 | p :: r,i => if min p.1 p.2 < 0 ∨ max p.1 p.2 ≥ n then some (3,i) else relFault n r (i + 1)
def trFault : List (List ByteArray) → Int → Option (Int × Int)
 | [],_ => none
 | l :: r,i => if 30 < l.length then some (2,i) else if l.all isNameB then trFault r (i + 1) else some (8,i)
def kripkeCheck (m : Mdl) : Int × Int :=
 if m.n < 1 ∨ m.n > 40 ∨ m.rel.length > 2000 then (2,0) else
 if (m.tr.length : Int) ≠ m.n then (9,0) else
 ((relFault m.n m.rel 0).orElse fun _ => trFault m.tr 0).getD (0,0)
theorem relFault_drop (n : Int) (l : List (Int × Int)) (i : Nat) (h : i < l.length) (j : Int) : relFault n (l.drop i) j = if min l[i].1 l[i].2 < 0 ∨ max l[i].1 l[i].2 ≥ n then some (3,j) else relFault n (l.drop (i + 1)) (j + 1) := by
 rw [List.drop_eq_getElem_cons h,relFault]
theorem trFault_drop (l : List (List ByteArray)) (i : Nat) (h : i < l.length) (j : Int) : trFault (l.drop i) j = if 30 < l[i].length then some (2,j) else if l[i].all isNameB then trFault (l.drop (i + 1)) (j + 1) else some (8,j) := by
 rw [List.drop_eq_getElem_cons h,trFault]
theorem check_kripke (m : Mdl) (s : Store) : CallOK Try.prog 25 [.agg (mdl m)] s (flt (kripkeCheck m).1 (kripkeCheck m).2) s := by
 refine CallOK.frame ?_ ?_
 ·refine callOK_of Try.func25 rfl rfl Try.ntmps25 (by simp) ?_
  rw [Try.results25]
  dsimp only [light,regL,dsts,lopsL,lop,nth]
  have hmax : maxLen = 9223372036854775807 := rfl
  unfold mdl
  (have F_ := True.intro); repeat' (first | (with_reducible refine stp ?_) | (with_reducible refine hq _ _ ?_; clear hq q) | (with_reducible refine hk _ _ ?_; clear hk k) | (with_reducible refine EvL.regA (fun k hk => ?_)) | ((with_reducible apply WOps.call); (· exact dOK); (· exact vOK); (· first | assumption | exact EnT.h); (· exact argsOK (x := by first | exact fault_kripke _ _ _))) | (with_reducible refine WOps.auto F_ (fun q hq => ?_)) | ((with_reducible refine EvL.condA ?_ ?_); all_goals (intro h <;> (try simp only [hna,hnb,hnc,ne_eq,reduceCtorEq,Int.reduceEq,gt_iff_lt,ge_iff_le] at h) <;> (try (exfalso; omega; done)))) | (with_reducible refine EvL.drawnA (fun k hk => ?_)) | (with_reducible refine EvL.mixA (fun k hk => ?_)) | (with_reducible refine EvL.mix2A (fun k hk => ?_)) | (with_reducible refine WMix.bothA F_ ?_ ?_) | (with_reducible refine WOps.takeA ?_) | (with_reducible refine WOps.passA ?_) | ((with_reducible refine WOps.splitA ?_ ?_); all_goals (intro h <;> simp only [h] <;> (try simp only [hna,hnb,hnc,ne_eq,reduceCtorEq,Int.reduceEq,gt_iff_lt,ge_iff_le] at h) <;> (try (exfalso; omega; done)))) | (with_reducible refine WMix.takeA ?_) | (with_reducible refine WMix.passA ?_) | ((with_reducible apply WMix.cons); (· exact dOK); (· decide); (· intro t; (with_reducible apply WG.call); (· exact vOK); (· first | assumption | exact EnT.h); (· exact argsOK (x := by first | exact fault_kripke _ _ _)))) | (with_reducible refine WMix.consA F_ ?_) | (with_reducible refine WMix.makeA F_ ?_) | ((with_reducible refine And.intro ?_ ?_); (· omega)) | ((with_reducible refine And.intro (fun h => ?_) (fun h => ?_)) <;> (try simp only [Decidable.not_not] at h) <;> (try simp only [h])) | (with_reducible intro hl))
  all_goals first | ((refine finA ?_; try exact trivial); simp only [flt,kripkeCheck,PV.agg.injEq,List.cons.injEq,PV.int.injEq,true_and,and_true]; (first | rw [if_pos (by omega)] | (rw [if_neg (by omega),if_pos (by omega)])); exact ⟨rfl,rfl⟩; done) | skip
  have h1 : ¬ (m.n < 1 ∨ m.n > 40 ∨ m.rel.length > 2000) := by omega
  have h2 : ¬ (m.tr.length : Int) ≠ m.n := by omega
  have hk : kripkeCheck m = ((relFault m.n m.rel 0).orElse fun _ => trFault m.tr 0).getD (0,0) := by
   unfold kripkeCheck; rw [if_neg h1,if_neg h2]
  rw [hk]
  refine EvL.loop (X := Nat) (fun i => [(1,.ptr 0 0 0),(2,.ptr 1 0 0),(32,.list (m.rel.map relRow)),(33,.int .i64 (m.rel.length : Int)),(34,.int .i64 (i : Int))])
   (fun i => [.rows 3 [mdl m],.rows 2 [[.int .i64 0,.int .i64 0]]]) (fun i => i ≤ m.rel.length ∧ relFault m.n m.rel 0 = relFault m.n (m.rel.drop i) i) (fun i => m.rel.length - i) 0 ⟨by omega,rfl⟩
   (View.of [0,1] _ (by simp) (by decide) (by unfold mdl; (refine vw ?_; try exact trivial)) (by (refine vw ?_; try exact trivial))) (fun i hi => ?_)
  unfold mdl
  by_cases hlt : i < m.rel.length
  ·have hrow : (m.rel.map relRow)[i]? = some (relRow m.rel[i]) := map_get _ _ _ _ (List.getElem?_eq_getElem hlt)
   have hw := wrap_up i (by omega)
   have hd := relFault_drop m.n m.rel i hlt i
   (have F_ := And.intro @hrow (And.intro @relRow_eq (@hw))); repeat' (first | (with_reducible refine stp ?_) | (with_reducible refine hq _ _ ?_; clear hq q) | (with_reducible refine hk _ _ ?_; clear hk k) | (with_reducible refine EvL.regA (fun k hk => ?_)) | ((with_reducible apply WOps.call); (· exact dOK); (· exact vOK); (· first | assumption | exact EnT.h); (· exact argsOK (x := by first | exact fault_kripke _ _ _))) | (with_reducible refine WOps.auto F_ (fun q hq => ?_)) | ((with_reducible refine EvL.condA ?_ ?_); all_goals (intro h <;> (try simp only [hna,hnb,hnc,ne_eq,reduceCtorEq,Int.reduceEq,gt_iff_lt,ge_iff_le] at h) <;> (try (exfalso; omega; done)))) | (with_reducible refine EvL.drawnA (fun k hk => ?_)) | (with_reducible refine EvL.mixA (fun k hk => ?_)) | (with_reducible refine EvL.mix2A (fun k hk => ?_)) | (with_reducible refine WMix.bothA F_ ?_ ?_) | (with_reducible refine WOps.takeA ?_) | (with_reducible refine WOps.passA ?_) | ((with_reducible refine WOps.splitA ?_ ?_); all_goals (intro h <;> simp only [h] <;> (try simp only [hna,hnb,hnc,ne_eq,reduceCtorEq,Int.reduceEq,gt_iff_lt,ge_iff_le] at h) <;> (try (exfalso; omega; done)))) | (with_reducible refine WMix.takeA ?_) | (with_reducible refine WMix.passA ?_) | ((with_reducible apply WMix.cons); (· exact dOK); (· decide); (· intro t; (with_reducible apply WG.call); (· exact vOK); (· first | assumption | exact EnT.h); (· exact argsOK (x := by first | exact fault_kripke _ _ _)))) | (with_reducible refine WMix.consA F_ ?_) | (with_reducible refine WMix.makeA F_ ?_) | ((with_reducible refine And.intro ?_ ?_); (· omega)) | ((with_reducible refine And.intro (fun h => ?_) (fun h => ?_)) <;> (try simp only [Decidable.not_not] at h) <;> (try simp only [h])) | (with_reducible intro hl))
   all_goals first | ((refine finA ?_; try exact trivial); rw [hi.2,hd,if_pos (by omega)]; rfl) | skip
   refine ⟨i + 1,⟨by omega,?_⟩,by omega,View.of [0,1] _ (by simp) (by decide) (by (refine vw ?_; try exact trivial)) (by (refine vw ?_; try exact trivial))⟩
   rw [hi.2,hd,if_neg (by omega)]; rfl
  ·have hd : m.rel.drop i = [] := List.drop_eq_nil_of_le (by omega)
   have hr : relFault m.n m.rel 0 = none := by rw [hi.2,hd]; rfl
   rw [hr]
   (have F_ := @relRow_eq); repeat' (first | (with_reducible refine stp ?_) | (with_reducible refine hq _ _ ?_; clear hq q) | (with_reducible refine hk _ _ ?_; clear hk k) | (with_reducible refine EvL.regA (fun k hk => ?_)) | ((with_reducible apply WOps.call); (· exact dOK); (· exact vOK); (· first | assumption | exact EnT.h); (· exact argsOK (x := by first | exact fault_kripke _ _ _))) | (with_reducible refine WOps.auto F_ (fun q hq => ?_)) | ((with_reducible refine EvL.condA ?_ ?_); all_goals (intro h <;> (try simp only [hna,hnb,hnc,ne_eq,reduceCtorEq,Int.reduceEq,gt_iff_lt,ge_iff_le] at h) <;> (try (exfalso; omega; done)))) | (with_reducible refine EvL.drawnA (fun k hk => ?_)) | (with_reducible refine EvL.mixA (fun k hk => ?_)) | (with_reducible refine EvL.mix2A (fun k hk => ?_)) | (with_reducible refine WMix.bothA F_ ?_ ?_) | (with_reducible refine WOps.takeA ?_) | (with_reducible refine WOps.passA ?_) | ((with_reducible refine WOps.splitA ?_ ?_); all_goals (intro h <;> simp only [h] <;> (try simp only [hna,hnb,hnc,ne_eq,reduceCtorEq,Int.reduceEq,gt_iff_lt,ge_iff_le] at h) <;> (try (exfalso; omega; done)))) | (with_reducible refine WMix.takeA ?_) | (with_reducible refine WMix.passA ?_) | ((with_reducible apply WMix.cons); (· exact dOK); (· decide); (· intro t; (with_reducible apply WG.call); (· exact vOK); (· first | assumption | exact EnT.h); (· exact argsOK (x := by first | exact fault_kripke _ _ _)))) | (with_reducible refine WMix.consA F_ ?_) | (with_reducible refine WMix.makeA F_ ?_) | ((with_reducible refine And.intro ?_ ?_); (· omega)) | ((with_reducible refine And.intro (fun h => ?_) (fun h => ?_)) <;> (try simp only [Decidable.not_not] at h) <;> (try simp only [h])) | (with_reducible intro hl))
   show EvL _ _ _ _ _ _ _
   refine EvL.loop (X := Nat) (fun i => [(2,.ptr 1 0 0),(59,.list (m.tr.map strsRow)),(60,.int .i64 (m.tr.length : Int)),(61,.int .i64 (i : Int))])
    (fun i => [.rows 3 [mdl m],.rows 2 [[.int .i64 0,.int .i64 0]]]) (fun i => i ≤ m.tr.length ∧ trFault m.tr 0 = trFault (m.tr.drop i) i) (fun i => m.tr.length - i) 0 ⟨by omega,rfl⟩
    (View.of [0,1] _ (by simp) (by decide) (by unfold mdl; (refine vw ?_; try exact trivial)) (by (refine vw ?_; try exact trivial))) (fun i hi => ?_)
   unfold mdl
   by_cases hlt : i < m.tr.length
   ·have hrow : (m.tr.map strsRow)[i]? = some (strsRow m.tr[i]) := map_get _ _ _ _ (List.getElem?_eq_getElem hlt)
    have hw := wrap_up i (by omega)
    have hd := trFault_drop m.tr i hlt i
    (have F_ := And.intro @hrow (And.intro @strsRow_eq (@hw))); repeat' (first | (with_reducible refine stp ?_) | (with_reducible refine hq _ _ ?_; clear hq q) | (with_reducible refine hk _ _ ?_; clear hk k) | (with_reducible refine EvL.regA (fun k hk => ?_)) | ((with_reducible apply WOps.call); (· exact dOK); (· exact vOK); (· first | assumption | exact EnT.h); (· exact argsOK (x := by first | exact fault_kripke _ _ _))) | (with_reducible refine WOps.auto F_ (fun q hq => ?_)) | ((with_reducible refine EvL.condA ?_ ?_); all_goals (intro h <;> (try simp only [hna,hnb,hnc,ne_eq,reduceCtorEq,Int.reduceEq,gt_iff_lt,ge_iff_le] at h) <;> (try (exfalso; omega; done)))) | (with_reducible refine EvL.drawnA (fun k hk => ?_)) | (with_reducible refine EvL.mixA (fun k hk => ?_)) | (with_reducible refine EvL.mix2A (fun k hk => ?_)) | (with_reducible refine WMix.bothA F_ ?_ ?_) | (with_reducible refine WOps.takeA ?_) | (with_reducible refine WOps.passA ?_) | ((with_reducible refine WOps.splitA ?_ ?_); all_goals (intro h <;> simp only [h] <;> (try simp only [hna,hnb,hnc,ne_eq,reduceCtorEq,Int.reduceEq,gt_iff_lt,ge_iff_le] at h) <;> (try (exfalso; omega; done)))) | (with_reducible refine WMix.takeA ?_) | (with_reducible refine WMix.passA ?_) | ((with_reducible apply WMix.cons); (· exact dOK); (· decide); (· intro t; (with_reducible apply WG.call); (· exact vOK); (· first | assumption | exact EnT.h); (· exact argsOK (x := by first | exact fault_kripke _ _ _)))) | (with_reducible refine WMix.consA F_ ?_) | (with_reducible refine WMix.makeA F_ ?_) | ((with_reducible refine And.intro ?_ ?_); (· omega)) | ((with_reducible refine And.intro (fun h => ?_) (fun h => ?_)) <;> (try simp only [Decidable.not_not] at h) <;> (try simp only [h])) | (with_reducible intro hl))
    all_goals first | ((refine finA ?_; try exact trivial); rw [hi.2,hd,if_pos (by omega)]; rfl) | skip
    refine EvL.loop (X := Nat) (fun j => [(2,.ptr 1 0 0),(5,.int .i64 (i : Int)),(59,.list (m.tr.map strsRow)),(60,.int .i64 (m.tr.length : Int)),(61,.int .i64 (i : Int)),(71,.list (m.tr[i].map strRow)),(72,.int .i64 (m.tr[i].length : Int)),(73,.int .i64 (j : Int))])
     (fun j => [.rows 3 [mdl m],.rows 2 [[.int .i64 0,.int .i64 0]]]) (fun j => j ≤ m.tr[i].length ∧ m.tr[i].all isNameB = (m.tr[i].drop j).all isNameB) (fun j => m.tr[i].length - j) 0 ⟨by omega,rfl⟩
     (View.of [0,1] _ (by simp) (by decide) (by unfold mdl; (refine vw ?_; try exact trivial)) (by (refine vw ?_; try exact trivial))) (fun j hj => ?_)
    unfold mdl
    by_cases hjl : j < m.tr[i].length
    ·have hrow2 : (m.tr[i].map strRow)[j]? = some (strRow m.tr[i][j]) := map_get _ _ _ _ (List.getElem?_eq_getElem hjl)
     have hw2 := wrap_up j (by omega)
     have hd2 : (m.tr[i].drop j).all isNameB = (isNameB m.tr[i][j] && (m.tr[i].drop (j + 1)).all isNameB) := by rw [List.drop_eq_getElem_cons hjl,List.all_cons]
     (have F_ := And.intro @hrow2 (And.intro @strRow_eq (@hw2))); repeat' (first | (with_reducible refine stp ?_) | (with_reducible refine hq _ _ ?_; clear hq q) | (with_reducible refine hk _ _ ?_; clear hk k) | (with_reducible refine EvL.regA (fun k hk => ?_)) | ((with_reducible apply WOps.call); (· exact dOK); (· exact vOK); (· first | assumption | exact EnT.h); (· exact argsOK (x := by first | exact fault_kripke _ _ _ | exact isName_formula _ _))) | (with_reducible refine WOps.auto F_ (fun q hq => ?_)) | ((with_reducible refine EvL.condA ?_ ?_); all_goals (intro h <;> (try simp only [hna,hnb,hnc,ne_eq,reduceCtorEq,Int.reduceEq,gt_iff_lt,ge_iff_le] at h) <;> (try (exfalso; omega; done)))) | (with_reducible refine EvL.drawnA (fun k hk => ?_)) | (with_reducible refine EvL.mixA (fun k hk => ?_)) | (with_reducible refine EvL.mix2A (fun k hk => ?_)) | (with_reducible refine WMix.bothA F_ ?_ ?_) | (with_reducible refine WOps.takeA ?_) | (with_reducible refine WOps.passA ?_) | ((with_reducible refine WOps.splitA ?_ ?_); all_goals (intro h <;> simp only [h] <;> (try simp only [hna,hnb,hnc,ne_eq,reduceCtorEq,Int.reduceEq,gt_iff_lt,ge_iff_le] at h) <;> (try (exfalso; omega; done)))) | (with_reducible refine WMix.takeA ?_) | (with_reducible refine WMix.passA ?_) | ((with_reducible apply WMix.cons); (· exact dOK); (· decide); (· intro t; (with_reducible apply WG.call); (· exact vOK); (· first | assumption | exact EnT.h); (· exact argsOK (x := by first | exact fault_kripke _ _ _ | exact isName_formula _ _)))) | (with_reducible refine WMix.consA F_ ?_) | (with_reducible refine WMix.makeA F_ ?_) | ((with_reducible refine And.intro ?_ ?_); (· omega)) | ((with_reducible refine And.intro (fun h => ?_) (fun h => ?_)) <;> (try simp only [Decidable.not_not] at h) <;> (try simp only [h])) | (with_reducible intro hl))
     ·(refine finA ?_; try exact trivial)
      rw [hi.2,hd,if_neg (by omega),hj.2,hd2,h]; rfl
     ·refine ⟨j + 1,⟨by omega,?_⟩,by omega,View.of [0,1] _ (by simp) (by decide) (by (refine vw ?_; try exact trivial)) (by (refine vw ?_; try exact trivial))⟩
      rw [hj.2,hd2,h,Bool.true_and]
    ·have he2 : m.tr[i].drop j = [] := List.drop_eq_nil_of_le (by omega)
     (have F_ := @hw); repeat' (first | (with_reducible refine stp ?_) | (with_reducible refine hq _ _ ?_; clear hq q) | (with_reducible refine hk _ _ ?_; clear hk k) | (with_reducible refine EvL.regA (fun k hk => ?_)) | ((with_reducible apply WOps.call); (· exact dOK); (· exact vOK); (· first | assumption | exact EnT.h); (· exact argsOK (x := by first | exact fault_kripke _ _ _ | exact isName_formula _ _))) | (with_reducible refine WOps.auto F_ (fun q hq => ?_)) | ((with_reducible refine EvL.condA ?_ ?_); all_goals (intro h <;> (try simp only [hna,hnb,hnc,ne_eq,reduceCtorEq,Int.reduceEq,gt_iff_lt,ge_iff_le] at h) <;> (try (exfalso; omega; done)))) | (with_reducible refine EvL.drawnA (fun k hk => ?_)) | (with_reducible refine EvL.mixA (fun k hk => ?_)) | (with_reducible refine EvL.mix2A (fun k hk => ?_)) | (with_reducible refine WMix.bothA F_ ?_ ?_) | (with_reducible refine WOps.takeA ?_) | (with_reducible refine WOps.passA ?_) | ((with_reducible refine WOps.splitA ?_ ?_); all_goals (intro h <;> simp only [h] <;> (try simp only [hna,hnb,hnc,ne_eq,reduceCtorEq,Int.reduceEq,gt_iff_lt,ge_iff_le] at h) <;> (try (exfalso; omega; done)))) | (with_reducible refine WMix.takeA ?_) | (with_reducible refine WMix.passA ?_) | ((with_reducible apply WMix.cons); (· exact dOK); (· decide); (· intro t; (with_reducible apply WG.call); (· exact vOK); (· first | assumption | exact EnT.h); (· exact argsOK (x := by first | exact fault_kripke _ _ _ | exact isName_formula _ _)))) | (with_reducible refine WMix.consA F_ ?_) | (with_reducible refine WMix.makeA F_ ?_) | ((with_reducible refine And.intro ?_ ?_); (· omega)) | ((with_reducible refine And.intro (fun h => ?_) (fun h => ?_)) <;> (try simp only [Decidable.not_not] at h) <;> (try simp only [h])) | (with_reducible intro hl))
     have hall : m.tr[i].all isNameB = true := by rw [hj.2,he2]; rfl
     refine ⟨i + 1,⟨by omega,?_⟩,by omega,View.of [0,1] _ (by simp) (by decide) (by (refine vw ?_; try exact trivial)) (by (refine vw ?_; try exact trivial))⟩
     rw [hi.2,hd,if_neg (by omega),hall,if_pos rfl]; rfl
   ·have hd : m.tr.drop i = [] := List.drop_eq_nil_of_le (by omega)
    have hr2 : trFault m.tr 0 = none := by rw [hi.2,hd]; rfl
    rw [hr2]
    (have F_ := @strsRow_eq); repeat' (first | (with_reducible refine stp ?_) | (with_reducible refine hq _ _ ?_; clear hq q) | (with_reducible refine hk _ _ ?_; clear hk k) | (with_reducible refine EvL.regA (fun k hk => ?_)) | ((with_reducible apply WOps.call); (· exact dOK); (· exact vOK); (· first | assumption | exact EnT.h); (· exact argsOK (x := by first | exact fault_kripke _ _ _))) | (with_reducible refine WOps.auto F_ (fun q hq => ?_)) | ((with_reducible refine EvL.condA ?_ ?_); all_goals (intro h <;> (try simp only [hna,hnb,hnc,ne_eq,reduceCtorEq,Int.reduceEq,gt_iff_lt,ge_iff_le] at h) <;> (try (exfalso; omega; done)))) | (with_reducible refine EvL.drawnA (fun k hk => ?_)) | (with_reducible refine EvL.mixA (fun k hk => ?_)) | (with_reducible refine EvL.mix2A (fun k hk => ?_)) | (with_reducible refine WMix.bothA F_ ?_ ?_) | (with_reducible refine WOps.takeA ?_) | (with_reducible refine WOps.passA ?_) | ((with_reducible refine WOps.splitA ?_ ?_); all_goals (intro h <;> simp only [h] <;> (try simp only [hna,hnb,hnc,ne_eq,reduceCtorEq,Int.reduceEq,gt_iff_lt,ge_iff_le] at h) <;> (try (exfalso; omega; done)))) | (with_reducible refine WMix.takeA ?_) | (with_reducible refine WMix.passA ?_) | ((with_reducible apply WMix.cons); (· exact dOK); (· decide); (· intro t; (with_reducible apply WG.call); (· exact vOK); (· first | assumption | exact EnT.h); (· exact argsOK (x := by first | exact fault_kripke _ _ _)))) | (with_reducible refine WMix.consA F_ ?_) | (with_reducible refine WMix.makeA F_ ?_) | ((with_reducible refine And.intro ?_ ?_); (· omega)) | ((with_reducible refine And.intro (fun h => ?_) (fun h => ?_)) <;> (try simp only [Decidable.not_not] at h) <;> (try simp only [h])) | (with_reducible intro hl))
    (refine finA ?_; try exact trivial)
    rfl
 ·intro a ha; simp only [List.mem_cons,List.not_mem_nil,or_false] at ha; subst ha
  exact closed_agg (by simp [mdl,flat_int,Flat.closed,closed_list])
end Go.Proofs.Yticchggapegnlaa
namespace Go.Proofs.Yticchggapegnlaa
open Go Go.Pv
def outG (G : List Nat) (u : Nat) (x : Int) : List Int := (G.take u).map (fun n : Nat => (n : Int)) ++ x :: List.replicate (G.length - u - 1) 0
theorem outG_len {G : List Nat} {u : Nat} {x : Int} (h : u < G.length) : (outG G u x).length = G.length := by simp [outG]; omega
theorem outG_at {G : List Nat} {u : Nat} {x : Int} (h : u < G.length) : (outG G u x)[u]'(by rw [outG_len h]; exact h) = x := by
 unfold outG
 rw [List.getElem_append_right (by simp; omega)]
 simp [Nat.min_eq_left (Nat.le_of_lt h)]
theorem outG_old {G : List Nat} {u v : Nat} {x : Int} (h : u < G.length) (hv : v < u) : (outG G u x)[v]'(by rw [outG_len h]; omega) = (G[v]'(by omega) : Int) := by
 unfold outG
 rw [List.getElem_append_left (by simp; omega)]
 simp
theorem outG_set {G : List Nat} {u : Nat} {x y : Int} (h : u < G.length) : (outG G u x).set u y = outG G u y := by
 unfold outG
 rw [List.set_append_right _ _ (by simp; omega)]
 simp [Nat.min_eq_left (Nat.le_of_lt h)]
def outZ (G : List Nat) (u : Nat) : List Int := (G.take u).map (fun n : Nat => (n : Int)) ++ List.replicate (G.length - u) 0
theorem outZ_len {G : List Nat} {u : Nat} (h : u ≤ G.length) : (outZ G u).length = G.length := by simp [outZ]; omega
theorem outZ_set {G : List Nat} {u : Nat} {x : Int} (h : u < G.length) : (outZ G u).set u x = outG G u x := by
 unfold outZ outG
 rw [List.set_append_right _ _ (by simp; omega)]
 obtain ⟨k,hk⟩ : ∃ k,G.length - u = k + 1 := ⟨G.length - u - 1,by omega⟩
 simp [Nat.min_eq_left (Nat.le_of_lt h),hk,List.replicate_succ]
theorem outG_next {G : List Nat} {u : Nat} (h : u < G.length) : outG G u (G[u] : Int) = outZ G (u + 1) := by
 unfold outG outZ
 rw [take_snoc h,List.map_append,List.append_assoc]
 congr 1
theorem outZ_all {G : List Nat} : (outZ G G.length).map intRow = G.map numRow := by
 unfold outZ
 rw [List.take_length,map_int]; simp
def x41_T3 : XC := .seq (.reg [⟨some 46,.move (.tmp 5),none⟩,⟨some 4,.assign (.tmp 46),none⟩]) .ret
def x41_T2 : XC := .seq (.reg [⟨some 34,.move (.tmp 5),none⟩,⟨some 35,.move (.tmp 7),none⟩,⟨some 36,.indexAddr 61 (.tmp 34) (.tmp 35),none⟩,⟨some 37,.load 3 (.tmp 36),none⟩,⟨some 38,.binOp .lss 3 (.tmp 37) (.const (.int .i64 0)) 3,none⟩]) (.cond (.tmp 38) (.seq (.reg [⟨some 39,.move (.tmp 5),none⟩,⟨some 40,.move (.tmp 7),none⟩,⟨some 41,.move (.tmp 6),none⟩,⟨some 42,.indexAddr 61 (.tmp 39) (.tmp 40),none⟩,⟨none,.store 3 (.tmp 42) (.tmp 41),none⟩]) (.reg [⟨some 43,.move (.tmp 6),none⟩,⟨some 44,.binOp .add 3 (.tmp 43) (.const (.int .i64 1)) 3,none⟩,⟨some 6,.assign (.tmp 44),none⟩])) .skip)
def x41_L2 : XC := .seq (.reg [⟨some 20,.binOp .lss 3 (.tmp 19) (.tmp 18) 3,none⟩]) (.seq (.cond (.tmp 20) .skip (.exit 2)) (.seq (.block 3 (.seq (.reg [⟨some 21,.move (.tmp 19),none⟩,⟨some 8,.assign (.tmp 21),none⟩]) (.seq (.reg [⟨some 22,.move (.tmp 1),none⟩,⟨some 23,.move (.tmp 7),none⟩,⟨some 24,.move (.tmp 8),none⟩,⟨some 25,.call ⟨.value (.tmp 22),#[.tmp 23,.tmp 24],#[3,3]⟩,none⟩]) (.cond (.tmp 25) (.seq (.reg [⟨some 26,.move (.tmp 5),none⟩,⟨some 27,.move (.tmp 7),none⟩,⟨some 28,.move (.tmp 5),none⟩,⟨some 29,.move (.tmp 8),none⟩,⟨some 30,.indexAddr 61 (.tmp 28) (.tmp 29),none⟩,⟨some 31,.load 3 (.tmp 30),none⟩,⟨some 32,.indexAddr 61 (.tmp 26) (.tmp 27),none⟩,⟨none,.store 3 (.tmp 32) (.tmp 31),none⟩]) (.exit 2)) .skip)))) (.reg [⟨some 33,.binOp .add 3 (.tmp 19) (.const (.int .i64 1)) 3,none⟩,⟨some 19,.move (.tmp 33),none⟩])))
def x41_L0 : XC := .seq (.reg [⟨some 13,.binOp .lss 3 (.tmp 12) (.tmp 11) 3,none⟩]) (.seq (.cond (.tmp 13) .skip (.exit 0)) (.seq (.block 1 (.seq (.reg [⟨some 14,.move (.tmp 12),none⟩,⟨some 7,.assign (.tmp 14),none⟩]) (.seq (.reg [⟨some 15,.move (.tmp 5),none⟩,⟨some 16,.move (.tmp 7),none⟩,⟨some 17,.indexAddr 61 (.tmp 15) (.tmp 16),none⟩,⟨none,.store 3 (.tmp 17) (.const (.int .i64 (-1))),none⟩]) (.seq (.seq (.reg [⟨some 18,.move (.tmp 7),none⟩,⟨some 19,.move (.const (.int .i64 0)),none⟩]) (.bloop 2 x41_L2)) (x41_T2))))) (.reg [⟨some 45,.binOp .add 3 (.tmp 12) (.const (.int .i64 1)) 3,none⟩,⟨some 12,.move (.tmp 45),none⟩])))
def x41 : XC := .seq (.reg [⟨some 4,.assign (.const (.slice none 0 0)),none⟩]) (.seq (.reg [⟨some 9,.move (.tmp 0),none⟩,⟨some 10,.makeSlice 61 (.tmp 9) (.tmp 9),none⟩,⟨some 5,.assign (.tmp 10),none⟩]) (.seq (.reg [⟨some 6,.assign (.const (.int .i64 0)),none⟩]) (.seq (.seq (.reg [⟨some 11,.move (.tmp 0),none⟩,⟨some 12,.move (.const (.int .i64 0)),none⟩]) (.bloop 0 x41_L0)) (x41_T3))))
@[simp] theorem x41_s {C e s K} : type_of% (@X_at C e s K _ _ x41_T3.eq_1) ∧ type_of% (@X_at C e s K _ _ x41_T2.eq_1) ∧ type_of% (@X_at C e s K _ _ x41_L2.eq_1) ∧ type_of% (@X_at C e s K _ _ x41_L0.eq_1) ∧ type_of% (@X_at C e s K _ _ x41.eq_1) := ⟨X_at x41_T3.eq_1,X_at x41_T2.eq_1,X_at x41_L2.eq_1,X_at x41_L0.eq_1,X_at x41.eq_1⟩
def an41 : Ann := ⟨[],[(2,[],[1,5,6,7,11,12,18,19],[1,5,6,7,11,12]),(0,[],[1,5,6,11,12],[5])],[]⟩
@[simp] theorem an41_a : an41.loopOf 2 = ([],[1,5,6,7,11,12,18,19],[1,5,6,7,11,12]) ∧ an41.loopOf 0 = ([],[1,5,6,11,12],[5]) := ⟨rfl,rfl⟩
theorem fi41 : FI Try.prog 41 (cxA an41) x41 [.tmp 4] Try.f41 := fiA Try.func41 mixed
theorem group_bisim {κ : Type} [DecidableEq κ] (l : List κ) (hl : l.length ≤ 1000000) (fid : Nat) [EnT Try.prog fid] (ys : List PV) [hy : FlatL ys] (h : ∀ u v (hu : u < l.length) (hv : v < l.length),CallOK Try.prog fid (.int .i64 (u : Int) :: .int .i64 (v : Int) :: ys) [] (.bool (decide (l[u] = l[v]))) []) :
  CallOK Try.prog 41 [.int .i64 (l.length : Int),.fn (.func fid) [] ys] [] (.list ((grp l).map numRow)) [] := by
 have hcl : ∀ a b : Int,∀ v ∈ .int .i64 a :: .int .i64 b :: ys,Closed v := by
  intro a b v hv
  simp only [List.mem_cons] at hv
  rcases hv with rfl | rfl | hv
  ·exact cl_int
  ·exact cl_int
  ·exact hy.closed v hv
 refine fi41.op ?_
 obtain ⟨G,hG⟩ : ∃ G,G = grp l := ⟨_,rfl⟩
 have hGl : G.length = l.length := by rw [hG,grp_length]
 have hz : List.replicate l.length [PV.int .i64 0] = (outZ G 0).map intRow := by simp [outZ,hGl]
 rw [← hG,← outZ_all]
 (refine Sg.h ?_;try repeat' ((with_reducible first|refine brA ?_|refine brE fun _=>?_|refine spl ⟨?_,?_⟩<;>intro _)<;> ((try simp -implicitDefEqProofs [hz]); (try simp -implicitDefEqProofs(disch:=first|assumption|(try simp only[lens]);omega -splitDisjunctions) [hz]))))
 refine W_of fun Q hQ => ?_
 have main : ∀ r u,u + r = l.length → Q [(1,.fn (.func fid) [] ys),(5,.sl 0 0 l.length),(6,.int .i64 ((dd (l.take u)).length : Int)),(11,.int .i64 (l.length : Int)),(12,.int .i64 (u : Int))] [.rows 1 ((outZ G u).map intRow)] := by
  intro r
  induction r with
  | zero =>
   intro u hu
   obtain rfl : u = l.length := by omega
   have hol := outZ_len (G := G) (u := l.length) (by omega)
   rw [← hGl] at hol ⊢
   rw [hGl] at hol ⊢
   apply hQ
   clear hQ
   rw [show outZ G G.length = outZ G l.length by rw [hGl]]
   generalize outZ G l.length = O at *
   (refine Sg.h ?_;try repeat' ((with_reducible first|refine brA ?_|refine brE fun _=>?_|refine spl ⟨?_,?_⟩<;>intro _)<;> ((try simp -implicitDefEqProofs [hol,hGl]); (try simp -implicitDefEqProofs(disch:=first|assumption|(try simp only[lens]);omega -splitDisjunctions) [hol,hGl]))))
   all_goals (first | (rw [List.take_of_length_le (by simp [hol])]; done) | skip)
  | succ r ih =>
   intro u hu
   have huL : u < l.length := by omega
   have huG : u < G.length := by omega
   have ih := ih (u + 1) (by omega)
   have hgl := outG_len (x := -1) huG
   have hol := outZ_len (G := G) (u := u) (by omega)
   have hset := outZ_set (x := -1) huG
   have hGu : G[u] = (grp l)[u]'(by simpa using huL) := by subst hG; rfl
   have hdl : (dd (l.take u)).length ≤ u := Nat.le_trans (dd_len (l.take u)) (List.length_take_le u l)
   have hset' : (List.map intRow (outZ G u)).set u [.int .i64 (-1)] = (outG G u (-1)).map intRow := by rw [← hset,List.map_set]; rfl
   apply hQ
   clear hQ
   (refine Sg.h ?_;try repeat' ((with_reducible first|refine brA ?_|refine brE fun _=>?_|refine spl ⟨?_,?_⟩<;>intro _)<;> ((try simp -implicitDefEqProofs [huL,hol,hGl,hset']); (try simp -implicitDefEqProofs(disch:=first|assumption|(try simp only[lens]);omega -splitDisjunctions) [huL,hol,hGl,hset']))))
   refine W_of fun Q2 hQ2 => ?_
   have main2 : ∀ k v,v + k = u → (∀ j (hj : j < v) (hjl : j < l.length),l[u] ≠ l[j]) → Q2 [(1,.fn (.func fid) [] ys),(5,.sl 0 0 l.length),(6,.int .i64 ((dd (l.take u)).length : Int)),(7,.int .i64 (u : Int)),(11,.int .i64 (l.length : Int)),(12,.int .i64 (u : Int)),(18,.int .i64 (u : Int)),(19,.int .i64 (v : Int))] [.rows 1 ((outG G u (-1)).map intRow)] := by
    intro k
    induction k with
    | zero =>
     intro v hv hno
     have hnew := grp_new huL (by
      intro hm
      obtain ⟨j,hj,e⟩ := List.mem_iff_getElem.1 hm
      simp only [List.length_take] at hj
      rw [List.getElem_take] at e
      exact hno j (by omega) (by omega) e.symm)
     rw [hnew.2,← outG_next huG,hGu,hnew.1] at ih
     have hat := outG_at (x := -1) huG
     have hset2 : (List.map intRow (outG G u (-1))).set u [.int .i64 ((dd (l.take u)).length : Int)] = (outG G u ((dd (l.take u)).length : Int)).map intRow := by rw [← outG_set (x := -1) (y := ((dd (l.take u)).length : Int)) huG,List.map_set]; rfl
     have hat' : (List.map intRow (outG G u (-1)))[u]'(by simp; omega) = [.int .i64 (-1)] := by rw [List.getElem_map, hat]; rfl
     apply hQ2
     clear hQ2
     (refine Sg.h ?_;try repeat' ((with_reducible first|refine brA ?_|refine brE fun _=>?_|refine spl ⟨?_,?_⟩<;>intro _)<;> ((try simp -implicitDefEqProofs [huL,hgl,hGl,hat',hset2]); (try simp -implicitDefEqProofs(disch:=first|assumption|(try simp only[lens]);omega -splitDisjunctions) [huL,hgl,hGl,hat',hset2]))))
     all_goals first | exact ih | (refine at2 ih ?_ ?_ <;> simp; done) | (exfalso; first | omega | (simp_all; done) | (simp_all; omega))
    | succ k ih2 =>
     intro v hv hno
     have hvl : v < l.length := by omega
     have hvu : v < u := by omega
     have hc := h u v huL hvl
     have hold := outG_old (x := -1) huG hvu
     have hold' : (List.map intRow (outG G u (-1)))[v]'(by simp; omega) = [.int .i64 (G[v] : Int)] := by rw [List.getElem_map, hold]; rfl
     apply hQ2
     clear hQ2
     by_cases he : l[u] = l[v]
     ·have hm : l[u] ∈ l.take u := by rw [he]; exact List.mem_iff_getElem.2 ⟨v,by simp; omega,by simp⟩
      have hgv : G[v] = G[u] := by subst hG; exact (grp_iff hvl huL).2 he.symm
      rw [grp_old huL hm,← outG_next huG,← hgv] at ih
      have hset2 : (List.map intRow (outG G u (-1))).set u [.int .i64 (G[v] : Int)] = (outG G u (G[v] : Int)).map intRow := by rw [← outG_set (x := -1) (y := (G[v] : Int)) huG,List.map_set]; rfl
      have hat' : (List.map intRow (outG G u (G[v] : Int)))[u]'(by simp [outG_len huG]; omega) = [.int .i64 (G[v] : Int)] := by rw [List.getElem_map, outG_at huG]; rfl
      have hgl2 := outG_len (x := (G[v] : Int)) huG
      rw [decide_eq_true he] at hc
      (refine Sg.h ?_;try repeat' ((with_reducible first|refine brA ?_|refine brE fun _=>?_|refine spl ⟨?_,?_⟩<;>intro _)<;> ((try simp -implicitDefEqProofs [hvu,hgl,hgl2,hGl,hold',hset2,hat']); (try simp -implicitDefEqProofs(disch:=first|assumption|(try simp only[lens]);omega -splitDisjunctions) [hvu,hgl,hgl2,hGl,hold',hset2,hat']))))
      refine CL.clo hc ?_ (hcl _ _)
      (refine Sg.h ?_;try repeat' ((with_reducible first|refine brA ?_|refine brE fun _=>?_|refine spl ⟨?_,?_⟩<;>intro _)<;> ((try simp -implicitDefEqProofs [hvl,huL,hvu,hgl,hgl2,hGl,hold',hset2,hat']); (try simp -implicitDefEqProofs(disch:=first|assumption|(try simp only[lens]);omega -splitDisjunctions) [hvl,huL,hvu,hgl,hgl2,hGl,hold',hset2,hat']))))
      all_goals first | exact ih | (refine at2 ih ?_ ?_ <;> simp; done) | (exfalso; first | omega | (simp_all; done) | (simp_all; omega))
     ·have ih2 := ih2 (v + 1) (by omega) (fun j hj hjl => by
       rcases Nat.lt_or_ge j v with h1 | h1
       ·exact hno j h1 hjl
       ·have : j = v := by omega
        subst this; exact he)
      rw [decide_eq_false he] at hc
      (refine Sg.h ?_;try repeat' ((with_reducible first|refine brA ?_|refine brE fun _=>?_|refine spl ⟨?_,?_⟩<;>intro _)<;> ((try simp -implicitDefEqProofs [hvu,hgl,hGl]); (try simp -implicitDefEqProofs(disch:=first|assumption|(try simp only[lens]);omega -splitDisjunctions) [hvu,hgl,hGl]))))
      refine CL.clo hc ?_ (hcl _ _)
      (refine Sg.h ?_;try repeat' ((with_reducible first|refine brA ?_|refine brE fun _=>?_|refine spl ⟨?_,?_⟩<;>intro _)<;> ((try simp -implicitDefEqProofs [hvu,hgl,hGl]); (try simp -implicitDefEqProofs(disch:=first|assumption|(try simp only[lens]);omega -splitDisjunctions) [hvu,hgl,hGl]))))
      all_goals first | exact ih2 | (refine at2 ih2 ?_ ?_ <;> simp; done) | (exfalso; first | omega | (simp_all; done) | (simp_all; omega))
   all_goals first | exact (main2 _ 0 (Nat.zero_add _) (fun j hj _ => by omega)) | (refine at2 (main2 _ 0 (Nat.zero_add _) (fun j hj _ => by omega)) ?_ ?_ <;> simp; done) | (exfalso; first | omega | (simp_all; done) | (simp_all; omega))
 all_goals first | exact (main _ 0 (Nat.zero_add _)) | (refine at2 (main _ 0 (Nat.zero_add _)) ?_ ?_ <;> simp [hGl]; done) | (exfalso; first | omega | (simp_all; done) | (simp_all; omega))
end Go.Proofs.Yticchggapegnlaa
