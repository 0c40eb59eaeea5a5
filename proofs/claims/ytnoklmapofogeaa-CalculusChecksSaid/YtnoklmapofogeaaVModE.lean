/-
  sequentref.Vast and sequentref.Walk, told without memory.
-/
import Derived.Test.YtnoklmapofogeaaVFormA
namespace Go.Proofs.Ytnoklmapofogeaa
open Go Go.Pv
set_option linter.unusedVariables false
set_option linter.unusedSimpArgs false
set_option maxRecDepth 100000
set_option maxHeartbeats 4000000

theorem Fm.ind {p : Fm → Prop} (h : ∀ f : Fm, (∀ g ∈ f.kids, p g) → p f) : ∀ f, p f
  | .mk k nm kids => h _ fun g hg => Fm.ind h g
termination_by f => SizeOf.sizeOf f
decreasing_by
  have := List.sizeOf_lt_of_mem hg
  simp only [Fm.kids, Fm.mk.sizeOf_spec] at *
  omega

mutual
def vastB : Fm → Int → Bool
  | .mk _ _ kids, d => decide (25000 < d) || (decide (25000 < (kids.length : Int)) || vastsB kids (d + 1))
def vastsB : List Fm → Int → Bool
  | [], _ => false
  | f :: r, d => vastB f d || vastsB r d
end
theorem vastB_eq (f : Fm) (d : Int) : vastB f d = (decide (25000 < d) || (decide (25000 < (f.kids.length : Int)) || vastsB f.kids (d + 1))) := by
  cases f with | mk k nm l => rw [vastB]; rfl
theorem vastsB_drop (l : List Fm) (i : Nat) (h : i < l.length) (d : Int) : vastsB (l.drop i) d = (vastB l[i] d || vastsB (l.drop (i + 1)) d) := by
  rw [List.drop_eq_getElem_cons h, vastsB]

theorem vast_ref (f : Fm) : ∀ (d : Int), 0 ≤ d → d ≤ 25001 → ∀ s : Store, CallOK Try.prog 20 [.agg (frm f), .int .i64 d] s (.bool (vastB f d)) s := by
  induction f using Fm.ind with
  | h f ih =>
  intro d hd0 hd1 s
  refine CallOK.frame ?_ ?_
  · refine callOK_of Try.func20 rfl rfl Try.ntmps20 (by simp) ?_
    rw [Try.results20]
    dsimp only [light, regL, dsts, lopsL, lop, nth]
    have hmax : maxLen = 9223372036854775807 := rfl
    have hv := vastB_eq f d
    (have F_ := And.intro @frm_length (And.intro @frm_take (And.intro @frm_drop3 (And.intro @frm_drop2 (And.intro @frm_get0 (And.intro @frm_get1 (@frm_get2))))))); repeat' (first | (with_reducible refine stp ?_) | (with_reducible refine hq _ _ ?_; clear hq q) | (with_reducible refine hk _ _ ?_; clear hk k) | (with_reducible refine EvL.regA (fun k hk => ?_)) | ((with_reducible apply WOps.call); (· exact dOK); (· exact vOK); (· first | assumption | exact EnT.h); (· exact argsOK (x := by first | fail))) | (with_reducible refine WOps.auto F_ (fun q hq => ?_)) | ((with_reducible refine EvL.condA ?_ ?_); all_goals (intro h <;> (try simp only [hna, hnb, hnc, ne_eq, reduceCtorEq, Int.reduceEq, gt_iff_lt, ge_iff_le] at h) <;> (try (exfalso; omega; done)))) | (with_reducible refine EvL.drawnA (fun k hk => ?_)) | (with_reducible refine EvL.mixA (fun k hk => ?_)) | (with_reducible refine EvL.mix2A (fun k hk => ?_)) | (with_reducible refine WMix.bothA F_ ?_ ?_) | (with_reducible refine WOps.takeA ?_) | (with_reducible refine WOps.passA ?_) | ((with_reducible refine WOps.splitA ?_ ?_); all_goals (intro h <;> simp only [h] <;> (try simp only [hna, hnb, hnc, ne_eq, reduceCtorEq, Int.reduceEq, gt_iff_lt, ge_iff_le] at h) <;> (try (exfalso; omega; done)))) | (with_reducible refine WMix.takeA ?_) | (with_reducible refine WMix.passA ?_) | ((with_reducible apply WMix.cons); (· exact dOK); (· decide); (· intro t; (with_reducible apply WG.call); (· exact vOK); (· first | assumption | exact EnT.h); (· exact argsOK (x := by first | fail)))) | (with_reducible refine WMix.consA F_ ?_) | (with_reducible refine WMix.makeA F_ ?_) | ((with_reducible refine And.intro ?_ ?_); (· omega)) | ((with_reducible refine And.intro (fun h => ?_) (fun h => ?_)) <;> (try simp only [Decidable.not_not] at h) <;> (try simp only [h])) | (with_reducible intro hl))
    · (refine finA ?_; try exact trivial)
      rw [hv, decide_eq_true ‹25000 < d›]; rfl
    · (refine finA ?_; try exact trivial)
      rw [hv, decide_eq_true h]; simp
    · rename_i hl
      have hd2 : d + 1 ≤ 25001 := by omega
      have hwd : IntKind.i64.wrap (d + 1) = d + 1 := wrapi (by omega) (by omega)
      refine EvL.loop (X := Nat) (fun i => [(1, .int .i64 d), (2, .ptr 0 0 0), (5, .int .i64 (i : Int))])
        (fun i => [.rows 3 [frm f]]) (fun i => i ≤ f.kids.length ∧ vastB f d = vastsB (f.kids.drop i) (d + 1)) (fun i => f.kids.length - i) 0 ⟨by omega, by rw [hv, decide_eq_false (by omega), decide_eq_false (by omega)]; rfl⟩
        (View.of [0] _ (by simp) (by decide) (by (refine vw ?_; try exact trivial); exact frm_ren _ _) (by (refine vw ?_; try exact trivial))) (fun i hi => ?_)
      by_cases hlt : i < f.kids.length
      · have hrow : (f.kids.map frm)[i]? = some (frm f.kids[i]) := map_get _ _ _ _ (List.getElem?_eq_getElem hlt)
        have hw := wrap_up i (by omega)
        have hd := vastsB_drop f.kids i hlt (d + 1)
        (have F_ := And.intro @hrow (And.intro @hw (And.intro @hwd (And.intro @frm_length (And.intro @frm_cell (And.intro @frm_take (And.intro @frm_drop3 (And.intro @frm_drop2 (And.intro @frm_get0 (And.intro @frm_get1 (@frm_get2))))))))))); repeat' (first | (with_reducible refine stp ?_) | (with_reducible refine hq _ _ ?_; clear hq q) | (with_reducible refine hk _ _ ?_; clear hk k) | (with_reducible refine EvL.regA (fun k hk => ?_)) | ((with_reducible apply WOps.call); (· exact dOK); (· exact vOK); (· first | assumption | exact EnT.h); (· exact argsOK (x := by first | exact ih _ (List.getElem_mem hlt) _ (by omega) hd2 _))) | (with_reducible refine WOps.auto F_ (fun q hq => ?_)) | ((with_reducible refine EvL.condA ?_ ?_); all_goals (intro h <;> (try simp only [hna, hnb, hnc, ne_eq, reduceCtorEq, Int.reduceEq, gt_iff_lt, ge_iff_le] at h) <;> (try (exfalso; omega; done)))) | (with_reducible refine EvL.drawnA (fun k hk => ?_)) | (with_reducible refine EvL.mixA (fun k hk => ?_)) | (with_reducible refine EvL.mix2A (fun k hk => ?_)) | (with_reducible refine WMix.bothA F_ ?_ ?_) | (with_reducible refine WOps.takeA ?_) | (with_reducible refine WOps.passA ?_) | ((with_reducible refine WOps.splitA ?_ ?_); all_goals (intro h <;> simp only [h] <;> (try simp only [hna, hnb, hnc, ne_eq, reduceCtorEq, Int.reduceEq, gt_iff_lt, ge_iff_le] at h) <;> (try (exfalso; omega; done)))) | (with_reducible refine WMix.takeA ?_) | (with_reducible refine WMix.passA ?_) | ((with_reducible apply WMix.cons); (· exact dOK); (· decide); (· intro t; (with_reducible apply WG.call); (· exact vOK); (· first | assumption | exact EnT.h); (· exact argsOK (x := by first | exact ih _ (List.getElem_mem hlt) _ (by omega) hd2 _)))) | (with_reducible refine WMix.consA F_ ?_) | (with_reducible refine WMix.makeA F_ ?_) | ((with_reducible refine And.intro ?_ ?_); (· omega)) | ((with_reducible refine And.intro (fun h => ?_) (fun h => ?_)) <;> (try simp only [Decidable.not_not] at h) <;> (try simp only [h])) | (with_reducible intro hl))
        · (refine finA ?_; try exact trivial)
          rw [hi.2, hd, h]; rfl
        · refine ⟨i + 1, ⟨by omega, ?_⟩, by omega, View.of [0] _ (by simp) (by decide) (by (refine vw ?_; try exact trivial); exact frm_ren _ _) (by (refine vw ?_; try exact trivial))⟩
          rw [hi.2, hd, h]; rfl
      · (have F_ := And.intro @frm_length (And.intro @frm_take (And.intro @frm_drop3 (And.intro @frm_drop2 (And.intro @frm_get0 (And.intro @frm_get1 (@frm_get2))))))); repeat' (first | (with_reducible refine stp ?_) | (with_reducible refine hq _ _ ?_; clear hq q) | (with_reducible refine hk _ _ ?_; clear hk k) | (with_reducible refine EvL.regA (fun k hk => ?_)) | ((with_reducible apply WOps.call); (· exact dOK); (· exact vOK); (· first | assumption | exact EnT.h); (· exact argsOK (x := by first | fail))) | (with_reducible refine WOps.auto F_ (fun q hq => ?_)) | ((with_reducible refine EvL.condA ?_ ?_); all_goals (intro h <;> (try simp only [hna, hnb, hnc, ne_eq, reduceCtorEq, Int.reduceEq, gt_iff_lt, ge_iff_le] at h) <;> (try (exfalso; omega; done)))) | (with_reducible refine EvL.drawnA (fun k hk => ?_)) | (with_reducible refine EvL.mixA (fun k hk => ?_)) | (with_reducible refine EvL.mix2A (fun k hk => ?_)) | (with_reducible refine WMix.bothA F_ ?_ ?_) | (with_reducible refine WOps.takeA ?_) | (with_reducible refine WOps.passA ?_) | ((with_reducible refine WOps.splitA ?_ ?_); all_goals (intro h <;> simp only [h] <;> (try simp only [hna, hnb, hnc, ne_eq, reduceCtorEq, Int.reduceEq, gt_iff_lt, ge_iff_le] at h) <;> (try (exfalso; omega; done)))) | (with_reducible refine WMix.takeA ?_) | (with_reducible refine WMix.passA ?_) | ((with_reducible apply WMix.cons); (· exact dOK); (· decide); (· intro t; (with_reducible apply WG.call); (· exact vOK); (· first | assumption | exact EnT.h); (· exact argsOK (x := by first | fail)))) | (with_reducible refine WMix.consA F_ ?_) | (with_reducible refine WMix.makeA F_ ?_) | ((with_reducible refine And.intro ?_ ?_); (· omega)) | ((with_reducible refine And.intro (fun h => ?_) (fun h => ?_)) <;> (try simp only [Decidable.not_not] at h) <;> (try simp only [h])) | (with_reducible intro hl))
        (refine finA ?_; try exact trivial)
        rw [hi.2, List.drop_eq_nil_of_le (by omega)]; rfl
  · intro a ha; simp only [List.mem_cons, List.not_mem_nil, or_false] at ha
    rcases ha with rfl | rfl
    · exact closed_frm f
    · exact (flat_int _ _).closed

theorem kids_len {pub : PHeap} {σ : Sig} {args : List PV} {cargs : Array Value} (h : RelA pub σ args cargs) (j : Nat) (f : Fm) (hv : args[j]? = some (.agg (frm f))) : f.kids.length ≤ maxLen := by
  obtain ⟨c, hc⟩ := relA_at h j _ hv
  obtain ⟨c', hc'⟩ := rel_agg_at hc 2 _ (frm_get2 f)
  simpa using rel_list_len hc'

mutual
def walkL : Fm → Int → List Fm
  | .mk k nm kids, most => walkK kids [.mk k nm kids] most
def walkK : List Fm → List Fm → Int → List Fm
  | [], out, _ => out
  | f :: r, out, most => if (out.length : Int) ≤ most then walkK r (out ++ walkL f (most - out.length)) most else out
end
theorem walkL_eq (f : Fm) (most : Int) : walkL f most = walkK f.kids [f] most := by
  cases f with | mk k nm l => rw [walkL]; rfl
theorem walkK_drop (l : List Fm) (i : Nat) (h : i < l.length) (out : List Fm) (most : Int) : walkK (l.drop i) out most = if (out.length : Int) ≤ most then walkK (l.drop (i + 1)) (out ++ walkL l[i] (most - out.length)) most else out := by
  rw [List.drop_eq_getElem_cons h, walkK]
theorem walkK_len (l : List Fm) (ih : ∀ f ∈ l, ∀ most : Int, 0 ≤ most → 1 ≤ (walkL f most).length ∧ ((walkL f most).length : Int) ≤ most + 1) : ∀ (out : List Fm) (most : Int), 1 ≤ out.length → (out.length : Int) ≤ most + 1 → 1 ≤ (walkK l out most).length ∧ ((walkK l out most).length : Int) ≤ most + 1 := by
  induction l with
  | nil => intro out most h1 h2; rw [walkK]; exact ⟨h1, h2⟩
  | cons f r ih2 =>
    intro out most h1 h2
    rw [walkK]
    split
    · rename_i h3
      obtain ⟨h4, h5⟩ := ih f (by simp) (most - out.length) (by omega)
      exact ih2 (fun g hg => ih g (by simp [hg])) _ most (by simp; omega) (by simp; omega)
    · exact ⟨h1, h2⟩
theorem walk_len (f : Fm) : ∀ most : Int, 0 ≤ most → 1 ≤ (walkL f most).length ∧ ((walkL f most).length : Int) ≤ most + 1 := by
  induction f using Fm.ind with
  | h f ih => intro most hm; rw [walkL_eq]; exact walkK_len _ ih _ _ (by simp) (by simp; omega)

theorem frms_rows (l : List Fm) : (∀ row : List PV, row ∈ List.map frm l → row.length = 3 ∧ row.all isCell = true) ↔ True :=
  iff_true_intro fun row h => by
    rw [List.mem_map] at h
    obtain ⟨f, _, rfl⟩ := h
    exact ⟨frm_length f, frm_cell f⟩

theorem walk_ref (f : Fm) : ∀ (most : Int), 0 ≤ most → most ≤ 200000 → ∀ s : Store, CallOK Try.prog 62 [.agg (frm f), .int .i64 most] s (.list ((walkL f most).map frm)) s := by
  induction f using Fm.ind with
  | h f ih =>
  intro most hm0 hm1 s
  refine CallOK.given (f.kids.length ≤ maxLen) (fun _ _ _ h => kids_len h 0 f rfl) fun hkl => ?_
  refine CallOK.frame ?_ ?_
  · refine callOK_of Try.func62 rfl rfl Try.ntmps62 (by simp) ?_
    rw [Try.results62]
    dsimp only [light, regL, dsts, lopsL, lop, nth]
    have hmax : maxLen = 9223372036854775807 := rfl
    have hv := walkL_eq f most
    (have F_ := And.intro @frm_length (And.intro @frm_take (And.intro @frm_cell (And.intro @frm_drop3 (And.intro @frm_drop2 (And.intro @frm_get0 (And.intro @frm_get1 (@frm_get2)))))))); repeat' (first | (with_reducible refine stp ?_) | (with_reducible refine hq _ _ ?_; clear hq q) | (with_reducible refine hk _ _ ?_; clear hk k) | (with_reducible refine EvL.regA (fun k hk => ?_)) | ((with_reducible apply WOps.call); (· exact dOK); (· exact vOK); (· first | assumption | exact EnT.h); (· exact argsOK (x := by first | fail))) | (with_reducible refine WOps.auto F_ (fun q hq => ?_)) | ((with_reducible refine EvL.condA ?_ ?_); all_goals (intro h <;> (try simp only [hna, hnb, hnc, ne_eq, reduceCtorEq, Int.reduceEq, gt_iff_lt, ge_iff_le] at h) <;> (try (exfalso; omega; done)))) | (with_reducible refine EvL.drawnA (fun k hk => ?_)) | (with_reducible refine EvL.mixA (fun k hk => ?_)) | (with_reducible refine EvL.mix2A (fun k hk => ?_)) | (with_reducible refine WMix.bothA F_ ?_ ?_) | (with_reducible refine WOps.takeA ?_) | (with_reducible refine WOps.passA ?_) | ((with_reducible refine WOps.splitA ?_ ?_); all_goals (intro h <;> simp only [h] <;> (try simp only [hna, hnb, hnc, ne_eq, reduceCtorEq, Int.reduceEq, gt_iff_lt, ge_iff_le] at h) <;> (try (exfalso; omega; done)))) | (with_reducible refine WMix.takeA ?_) | (with_reducible refine WMix.passA ?_) | ((with_reducible apply WMix.cons); (· exact dOK); (· decide); (· intro t; (with_reducible apply WG.call); (· exact vOK); (· first | assumption | exact EnT.h); (· exact argsOK (x := by first | fail)))) | (with_reducible refine WMix.consA F_ ?_) | (with_reducible refine WMix.makeA F_ ?_) | ((with_reducible refine And.intro ?_ ?_); (· omega)) | ((with_reducible refine And.intro (fun h => ?_) (fun h => ?_)) <;> (try simp only [Decidable.not_not] at h) <;> (try simp only [h])) | (with_reducible intro hl))
    refine EvL.loop (X := Nat × List Fm) (fun x => [(1, .int .i64 most), (2, .ptr 0 0 0), (5, .sl 1 0 x.2.length), (6, .int .i64 (x.1 : Int))])
      (fun x => [.rows 3 [frm f], .rows 3 (x.2.map frm)]) (fun x => x.1 ≤ f.kids.length ∧ 1 ≤ x.2.length ∧ (x.2.length : Int) ≤ most + 1 ∧ walkL f most = walkK (f.kids.drop x.1) x.2 most) (fun x => f.kids.length - x.1) (0, [f]) ⟨by simp, by simp, by simp; omega, hv⟩
      (View.of [0, 1] _ (by simp) (by decide) (by (refine vw ?_; try exact trivial); exact ⟨frm_ren _ _, frm_ren _ _⟩) (by (refine vw ?_; try exact trivial))) (fun x hx => ?_)
    obtain ⟨i, out⟩ := x
    obtain ⟨hi, ho1, ho2, hx⟩ := hx
    simp only at hi ho1 ho2 hx
    by_cases hlt : i < f.kids.length
    · have hrow : (f.kids.map frm)[i]? = some (frm f.kids[i]) := map_get _ _ _ _ (List.getElem?_eq_getElem hlt)
      have hw := wrap_up i (by omega)
      have hd := walkK_drop f.kids i hlt out most
      have hto : (out.map frm).take out.length = out.map frm := List.take_of_length_le (by simp)
      have hsub : IntKind.i64.wrap (most - (out.length : Int)) = most - out.length := wrapi (by omega) (by omega)
      by_cases hle : (out.length : Int) ≤ most
      · have hlen := walk_len f.kids[i] (most - out.length) (by omega)
        (have F_ := And.intro @hrow (And.intro @hw (And.intro @hsub (And.intro @hto (And.intro @hle (And.intro @frms_rows (And.intro @frm_length (And.intro @frm_cell (And.intro @frm_take (And.intro @frm_drop3 (And.intro @frm_drop2 (And.intro @frm_get0 (And.intro @frm_get1 (@frm_get2)))))))))))))); repeat' (first | (with_reducible refine stp ?_) | (with_reducible refine hq _ _ ?_; clear hq q) | (with_reducible refine hk _ _ ?_; clear hk k) | (with_reducible refine EvL.regA (fun k hk => ?_)) | ((with_reducible apply WOps.call); (· exact dOK); (· exact vOK); (· first | assumption | exact EnT.h); (· exact argsOK (x := by first | exact ih _ (List.getElem_mem hlt) _ (by omega) (by omega) _))) | (with_reducible refine WOps.auto F_ (fun q hq => ?_)) | ((with_reducible refine EvL.condA ?_ ?_); all_goals (intro h <;> (try simp only [hna, hnb, hnc, ne_eq, reduceCtorEq, Int.reduceEq, gt_iff_lt, ge_iff_le] at h) <;> (try (exfalso; omega; done)))) | (with_reducible refine EvL.drawnA (fun k hk => ?_)) | (with_reducible refine EvL.mixA (fun k hk => ?_)) | (with_reducible refine EvL.mix2A (fun k hk => ?_)) | (with_reducible refine WMix.bothA F_ ?_ ?_) | (with_reducible refine WOps.takeA ?_) | (with_reducible refine WOps.passA ?_) | ((with_reducible refine WOps.splitA ?_ ?_); all_goals (intro h <;> simp only [h] <;> (try simp only [hna, hnb, hnc, ne_eq, reduceCtorEq, Int.reduceEq, gt_iff_lt, ge_iff_le] at h) <;> (try (exfalso; omega; done)))) | (with_reducible refine WMix.takeA ?_) | (with_reducible refine WMix.passA ?_) | ((with_reducible apply WMix.cons); (· exact dOK); (· decide); (· intro t; (with_reducible apply WG.call); (· exact vOK); (· first | assumption | exact EnT.h); (· exact argsOK (x := by first | exact ih _ (List.getElem_mem hlt) _ (by omega) (by omega) _)))) | (with_reducible refine WMix.consA F_ ?_) | (with_reducible refine WMix.makeA F_ ?_) | ((with_reducible refine And.intro ?_ ?_); (· omega)) | ((with_reducible refine And.intro (fun h => ?_) (fun h => ?_)) <;> (try simp only [Decidable.not_not] at h) <;> (try simp only [h])) | (with_reducible intro hl))
        rw [← List.map_append]
        refine ⟨(i + 1, out ++ walkL f.kids[i] (most - out.length)), ⟨by simp only; omega, by simp only [List.length_append]; omega, by simp only [List.length_append]; omega, ?_⟩, by simp only; omega, View.of [0, 2] _ (by simp) (by decide) (by (refine vw ?_; try exact trivial); exact ⟨frm_ren _ _, frms_ren _ _⟩) (by (refine vw ?_; try exact trivial))⟩
        simp only
        rw [hx, hd, if_pos hle]
      · (have F_ := And.intro @hrow (And.intro @hw (And.intro @hsub (And.intro @hto (And.intro @hle (And.intro @frm_length (And.intro @frm_cell (And.intro @frm_take (And.intro @frm_drop3 (And.intro @frm_drop2 (And.intro @frm_get0 (And.intro @frm_get1 (@frm_get2))))))))))))); repeat' (first | (with_reducible refine stp ?_) | (with_reducible refine hq _ _ ?_; clear hq q) | (with_reducible refine hk _ _ ?_; clear hk k) | (with_reducible refine EvL.regA (fun k hk => ?_)) | ((with_reducible apply WOps.call); (· exact dOK); (· exact vOK); (· first | assumption | exact EnT.h); (· exact argsOK (x := by first | fail))) | (with_reducible refine WOps.auto F_ (fun q hq => ?_)) | ((with_reducible refine EvL.condA ?_ ?_); all_goals (intro h <;> (try simp only [hna, hnb, hnc, ne_eq, reduceCtorEq, Int.reduceEq, gt_iff_lt, ge_iff_le] at h) <;> (try (exfalso; omega; done)))) | (with_reducible refine EvL.drawnA (fun k hk => ?_)) | (with_reducible refine EvL.mixA (fun k hk => ?_)) | (with_reducible refine EvL.mix2A (fun k hk => ?_)) | (with_reducible refine WMix.bothA F_ ?_ ?_) | (with_reducible refine WOps.takeA ?_) | (with_reducible refine WOps.passA ?_) | ((with_reducible refine WOps.splitA ?_ ?_); all_goals (intro h <;> simp only [h] <;> (try simp only [hna, hnb, hnc, ne_eq, reduceCtorEq, Int.reduceEq, gt_iff_lt, ge_iff_le] at h) <;> (try (exfalso; omega; done)))) | (with_reducible refine WMix.takeA ?_) | (with_reducible refine WMix.passA ?_) | ((with_reducible apply WMix.cons); (· exact dOK); (· decide); (· intro t; (with_reducible apply WG.call); (· exact vOK); (· first | assumption | exact EnT.h); (· exact argsOK (x := by first | fail)))) | (with_reducible refine WMix.consA F_ ?_) | (with_reducible refine WMix.makeA F_ ?_) | ((with_reducible refine And.intro ?_ ?_); (· omega)) | ((with_reducible refine And.intro (fun h => ?_) (fun h => ?_)) <;> (try simp only [Decidable.not_not] at h) <;> (try simp only [h])) | (with_reducible intro hl))
        (refine finA ?_; try exact trivial)
        rw [hx, hd, if_neg hle]
        simp only [List.length_map, Nat.le_refl, if_true, hto, frms_deref]
    · (have F_ := And.intro @frm_length (And.intro @frm_take (And.intro @frm_drop3 (And.intro @frm_drop2 (And.intro @frm_get0 (And.intro @frm_get1 (@frm_get2))))))); repeat' (first | (with_reducible refine stp ?_) | (with_reducible refine hq _ _ ?_; clear hq q) | (with_reducible refine hk _ _ ?_; clear hk k) | (with_reducible refine EvL.regA (fun k hk => ?_)) | ((with_reducible apply WOps.call); (· exact dOK); (· exact vOK); (· first | assumption | exact EnT.h); (· exact argsOK (x := by first | fail))) | (with_reducible refine WOps.auto F_ (fun q hq => ?_)) | ((with_reducible refine EvL.condA ?_ ?_); all_goals (intro h <;> (try simp only [hna, hnb, hnc, ne_eq, reduceCtorEq, Int.reduceEq, gt_iff_lt, ge_iff_le] at h) <;> (try (exfalso; omega; done)))) | (with_reducible refine EvL.drawnA (fun k hk => ?_)) | (with_reducible refine EvL.mixA (fun k hk => ?_)) | (with_reducible refine EvL.mix2A (fun k hk => ?_)) | (with_reducible refine WMix.bothA F_ ?_ ?_) | (with_reducible refine WOps.takeA ?_) | (with_reducible refine WOps.passA ?_) | ((with_reducible refine WOps.splitA ?_ ?_); all_goals (intro h <;> simp only [h] <;> (try simp only [hna, hnb, hnc, ne_eq, reduceCtorEq, Int.reduceEq, gt_iff_lt, ge_iff_le] at h) <;> (try (exfalso; omega; done)))) | (with_reducible refine WMix.takeA ?_) | (with_reducible refine WMix.passA ?_) | ((with_reducible apply WMix.cons); (· exact dOK); (· decide); (· intro t; (with_reducible apply WG.call); (· exact vOK); (· first | assumption | exact EnT.h); (· exact argsOK (x := by first | fail)))) | (with_reducible refine WMix.consA F_ ?_) | (with_reducible refine WMix.makeA F_ ?_) | ((with_reducible refine And.intro ?_ ?_); (· omega)) | ((with_reducible refine And.intro (fun h => ?_) (fun h => ?_)) <;> (try simp only [Decidable.not_not] at h) <;> (try simp only [h])) | (with_reducible intro hl))
      have hto : (out.map frm).take out.length = out.map frm := List.take_of_length_le (by simp)
      (refine finA ?_; try exact trivial)
      rw [hx, List.drop_eq_nil_of_le (by omega), walkK]
      simp only [List.length_map, Nat.le_refl, if_true, hto, frms_deref]
  · intro a ha; simp only [List.mem_cons, List.not_mem_nil, or_false] at ha
    rcases ha with rfl | rfl
    · exact closed_frm f
    · exact (flat_int _ _).closed

end Go.Proofs.Ytnoklmapofogeaa
