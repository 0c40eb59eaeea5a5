/-
  Plain laws for ModalEvals: the document's answers on frames are the program's.
-/
import Derived.Test.YtbmpmmbcfabeeaaMdP
import Derived.Test.YtbmpmmbcfabeeaaQTx
import Derived.Test.YtbmpmmbcfabeeaaQRB
import Derived.Test.YtbmpmmbcfabeeaaQRD
namespace Go.Proofs.Ytbmpmmbcfabeeaa
open Go Go.Pv
set_option linter.unusedVariables false
set_option linter.unusedSimpArgs false
set_option maxRecDepth 100000

theorem seeT_sees (m : Mdl) (i j : Nat) : seeT m i j = sees m.rel i j := by
  unfold seeT sees
  rw [Bool.eq_iff_iff, decide_eq_true_iff, List.any_eq_true]
  constructor
  · intro h; exact ⟨_, h, by simp⟩
  · rintro ⟨⟨p1, p2⟩, hp, h⟩
    simp only [Bool.and_eq_true, beq_iff_eq] at h
    rw [← h.1, ← h.2]; exact hp
theorem relBad_fault {n : Int} : ∀ (l : List (Int × Int)) (i : Nat), relBad n l i = relFault n l i
  | [], i => rfl
  | p :: r, i => by
    rw [relBad, relFault]
    have e := relBad_fault (n := n) r (i + 1)
    rw [show ((i + 1 : Nat) : Int) = (i : Int) + 1 by omega] at e
    by_cases h : relOK n p = true
    · rw [if_pos h, if_neg, e]
      simp [relOK] at h; omega
    · rw [if_neg h, if_pos]
      simp [relOK] at h
      omega
theorem trBad_fault : ∀ (l : List (List ByteArray)) (i : Nat), trBad l i = trFault l i
  | [], i => rfl
  | p :: r, i => by
    rw [trBad, trFault]
    have e := trBad_fault r (i + 1)
    rw [show ((i + 1 : Nat) : Int) = (i : Int) + 1 by omega] at e
    rw [e]
theorem mfault_kripke (m : Mdl) : mfault m 40 2000 = kripkeCheck m := by
  unfold mfault kripkeCheck
  rw [relBad_fault, trBad_fault]
  by_cases h : m.n < 1 ∨ (40 : Int) < m.n ∨ (2000 : Int) < m.rel.length
  · rw [if_pos h, if_pos (by omega)]
  · rw [if_neg h, if_neg (show ¬ (m.n < 1 ∨ m.n > 40 ∨ m.rel.length > 2000) by omega)]
    by_cases h2 : (m.tr.length : Int) ≠ m.n
    · rw [if_pos h2, if_pos h2]
    · rw [if_neg h2, if_neg h2]
      cases e : relFault m.n m.rel ((0 : Nat) : Int) with
      | some x => rfl
      | none => rfl
theorem ev_congr {n : Nat} {t t' : Nat → Nat → Bool} {h h' : Nat → ByteArray → Bool} {N : ByteArray → Prop} (ht : ∀ i j, i < n → j < n → t i j = t' i j) (hh : ∀ w x, w < n → N x → h w x = h' w x) :
    ∀ f, OkF N f → ∀ w, w < n → ev n t h f w = ev n t' h' f w := by
  intro f hf
  induction hf with
  | mk hl hN g ih =>
    rename_i k nm kids
    have hf : OkF N (.mk k nm kids) := .mk hl hN g
    intro w hw
    have ih := fun f hf => ih f hf
    rcases hf.nine with ⟨nm, hn, e⟩ | ⟨nm, e⟩ | ⟨nm, e⟩ | ⟨nm, a, ha, e⟩ | ⟨nm, a, b, ha, hb, e⟩ | ⟨nm, a, b, ha, hb, e⟩ | ⟨nm, a, b, ha, hb, e⟩ | ⟨nm, a, ha, e⟩ | ⟨nm, a, ha, e⟩ <;> rw [e] <;> cases e
    · rw [ev_1, ev_1, hh w _ hw hn]
    · rw [ev_2, ev_2]
    · rw [ev_3, ev_3]
    · rw [ev_4, ev_4, ih a (by simp) w hw]
    · rw [ev_5, ev_5, ih a (by simp) w hw, ih b (by simp) w hw]
    · rw [ev_6, ev_6, ih a (by simp) w hw, ih b (by simp) w hw]
    · rw [ev_7, ev_7, ih a (by simp) w hw, ih b (by simp) w hw]
    · rw [Bool.eq_iff_iff, ev_8, ev_8]
      exact ⟨fun q v hv e => by rw [← ih a (by simp) v hv]; exact q v hv (by rw [ht w v hw hv]; exact e), fun q v hv e => by rw [ih a (by simp) v hv]; exact q v hv (by rw [← ht w v hw hv]; exact e)⟩
    · rw [Bool.eq_iff_iff, ev_9, ev_9]
      exact ⟨fun ⟨v, hv, e, q⟩ => ⟨v, hv, by rw [← ht w v hw hv]; exact e, by rw [← ih a (by simp) v hv]; exact q⟩, fun ⟨v, hv, e, q⟩ => ⟨v, hv, by rw [ht w v hw hv]; exact e, by rw [ih a (by simp) v hv]; exact q⟩⟩
theorem frame_at (m : Mdl) (n : Nat) (hn : m.n = n) (i j : Nat) (hi : i < n) (hj : j < n) : tabAt (frameOf m) i j = sees m.rel i j := by simp [tabAt, frameOf, hn, hi, hj]
theorem evL_atB (m x : Mdl) (n : Nat) (hn : m.n = n) (hr : x.rel = m.rel) {h : Nat → ByteArray → Bool} {N : ByteArray → Prop} (f : Fm) (hf : OkF N f) (hh : ∀ w y, w < n → N y → h w y = holdM x w y) : evL (frameOf m) h f = atB x n f := by
  unfold evL atB
  have hl : (frameOf m).length = n := by simp [frameOf, hn]
  rw [hl]
  refine List.map_congr_left fun w hw => ?_
  rw [List.mem_range] at hw
  refine ev_congr (fun i j hi hj => ?_) hh f hf w hw
  rw [frame_at m n hn i j hi hj, seeT_sees, hr]
theorem evM_atB (m : Mdl) (n : Nat) (hn : m.n = n) (f : Fm) (hf : OkF (fun n => isNameB n = true) f) : evL (frameOf m) (holdOf m) f = atB m n f :=
  evL_atB m m n hn rfl f hf fun w y _ _ => rfl
/-! the shape -/
theorem seen_all {m : Mdl} {n u : Nat} {p : Nat → Bool} : (seenL m n u).all p = (List.range n).all fun v => !seeT m u v || p v := by
  unfold seenL; rw [List.all_filter]
theorem shape_eq (m : Mdl) (n : Nat) (h1 : 1 ≤ n) : sixB (rsA m n) (rsB m n n) (rsC m n n) (rsD m n n) (rsE m n n) (rsF m n n) = (shapeL n fun i j => sees m.rel i j).map .bool := by
  have hs : (fun i j => sees m.rel i j) = seeT m := by funext i j; rw [seeT_sees]
  rw [hs]
  have e0 : rsA m n = allN n fun u => seeT m u u := rfl
  have e1 : rsB m n n = transF n (seeT m) := by
    unfold rsB transF steps sP1; simp only [seen_all]
  have e2 : rsC m n n = steps n (seeT m) fun u v w => seeT m v u := by
    unfold rsC steps; simp only [seen_all]
    congr 1; funext u; congr 1; funext v; congr 1
    rw [Bool.eq_iff_iff, List.all_eq_true]
    exact ⟨fun h _ _ => h, fun h => h 0 (by rw [List.mem_range]; omega)⟩
  have e3 : rsD m n n = steps n (seeT m) fun u v w => !seeT m u w || seeT m v w := by
    unfold rsD steps sP3; simp only [seen_all]
  have e4 : rsE m n n = allN n fun u => (List.range n).any (seeT m u) := by
    unfold rsE allN; congr 1; funext u
    rw [Bool.eq_iff_iff, decide_eq_true_iff, List.any_eq_true]
    unfold seenL
    rw [ne_eq, List.filter_eq_nil_iff]
    constructor
    · intro h
      refine Classical.byContradiction fun g => h fun a ha e => g ⟨a, ha, e⟩
    · rintro ⟨a, ha, e⟩ h; exact h a ha e
  have e5 : rsF m n n = (transF n (seeT m) && allN n fun u => !seeT m u u) := by
    rw [← e1]
    unfold rsF rsB allN
    rw [Bool.eq_iff_iff, Bool.and_eq_true, List.all_eq_true, List.all_eq_true, List.all_eq_true]
    simp only [Bool.and_eq_true]
    exact ⟨fun h => ⟨fun u hu => (h u hu).2, fun u hu => (h u hu).1⟩, fun h u hu => ⟨h.2 u hu, h.1 u hu⟩⟩
  rw [e0, e1, e2, e3, e4, e5]
  rfl
/-! everywhere -/
theorem idx_get {l : List ByteArray} {x : ByteArray} (h : x ∈ l) : ∃ i : Nat, idx l x = (i : Int) ∧ l[i]? = some x := by
  unfold idx
  cases hf : l.findIdx? (fun y => decide (x = y)) with
  | some i =>
    obtain ⟨h1, h2, _⟩ := List.findIdx?_eq_some_iff_getElem.1 hf
    exact ⟨i, rfl, by rw [List.getElem?_eq_getElem h1, of_decide_eq_true h2]⟩
  | none =>
    rw [List.findIdx?_eq_none_iff] at hf
    have := hf x h
    simp at this
/-- the model of the row k -/
def rowM (m : Mdl) (n : Nat) (ns : List ByteArray) (k : Nat) : Mdl := ⟨n, m.rel, (List.range n).map fun w => rowL ns (k / 2 ^ (w * ns.length) % 2 ^ ns.length)⟩
def evryB (m : Mdl) (n : Nat) (ns : List ByteArray) (f : Fm) : Bool := (List.range (2 ^ (n * ns.length))).all fun k => (atB (rowM m n ns k) n f).all id
theorem allK_atB (m : Mdl) (n : Nat) (hn : m.n = n) (f : Fm) (h : (formulaCheck f).1 = 0) (k : Nat) : allK (frameOf m) (namesF f) f k = (atB (rowM m n (namesF f) k) n f).all id := by
  unfold allK
  rw [evL_atB m (rowM m n (namesF f) k) n hn rfl f (namesF_okF h) fun w x hw hx => ?_]
  · rw [Bool.eq_iff_iff, List.all_eq_true]
    simp only [Bool.not_eq_true', decide_eq_false_iff_not, id]
    constructor
    · intro g b hb; cases b
      · exact absurd hb g
      · rfl
    · intro g hb; exact absurd (g _ hb) (by decide)
  · unfold holdK holdM rowM
    simp only
    rw [List.getElem?_map, List.getElem?_range hw, Option.map_some, Option.getD_some]
    obtain ⟨i, h1, h2⟩ := idx_get hx
    have hil : i < (namesF f).length := (List.getElem?_eq_some_iff.1 h2).1
    rw [h1, Int.toNat_natCast, Bool.eq_iff_iff, memB_iff, rowL_mem _ (namesF_nodup f) i _ x h2, Nat.testBit_mod_two_pow, Nat.testBit_div_two_pow]
    simp [hil, Nat.add_comm]
theorem holds_evry (m : Mdl) (n : Nat) (hn : m.n = n) (f : Fm) (h : (formulaCheck f).1 = 0) : (List.range (2 ^ (n * (namesF f).length))).all (allK (frameOf m) (namesF f) f) = evryB m n (namesF f) f := by
  unfold evryB
  congr 1
  funext k
  exact allK_atB m n hn f h k
end Go.Proofs.Ytbmpmmbcfabeeaa
