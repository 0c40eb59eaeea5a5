/-
  Plain laws for ModlogDecides: the model that speaks against a formula.
-/
import Derived.Test.YtliockncjdeloaaQRD
import Derived.Test.YtliockncjdeloaaQRB
namespace Go.Proofs.Ytliockncjdeloaa
open Go Go.Pv
set_option linter.unusedVariables false
set_option linter.unusedSimpArgs false

theorem add_pre (c : Sc) (x y : Nat) (l : List Nat) : ∃ t, c.add x l y = l ++ t := by
  unfold Sc.add; split
  · exact ⟨[y], rfl⟩
  · exact ⟨[], (List.append_nil _).symm⟩
theorem add_mem (c : Sc) (x y : Nat) (l : List Nat) (h : c.sees x y = true) : y ∈ c.add x l y := by
  unfold Sc.add; split
  · simp
  · rename_i hn
    rw [h, Bool.true_and] at hn
    simp only [Bool.not_eq_true', Bool.not_eq_false, List.any_eq_true, decide_eq_true_iff, Bool.not_eq_eq_eq_not] at hn
    simp at hn
    exact hn
theorem foldl_add (c : Sc) (x : Nat) : ∀ (w l : List Nat), (∃ t, w.foldl (c.add x) l = l ++ t) ∧ ∀ y ∈ w, c.sees x y = true → y ∈ w.foldl (c.add x) l
  | [], l => ⟨⟨[], (List.append_nil _).symm⟩, fun y h => by cases h⟩
  | a :: w, l => by
    obtain ⟨⟨t, ht⟩, hm⟩ := foldl_add c x w (c.add x l a)
    obtain ⟨t2, ht2⟩ := add_pre c x a l
    rw [List.foldl_cons]
    refine ⟨⟨t2 ++ t, by rw [ht, ht2, List.append_assoc]⟩, fun y hy hs => ?_⟩
    cases hy with
    | head => rw [ht]; exact List.mem_append_left _ (add_mem c x a l hs)
    | tail _ hy => exact hm y hy hs
theorem reach_props (c : Sc) : ∀ n i l, i + n = c.worlds.length + 1 → i ≤ l.length → c.In l → (∀ j (h : j < l.length), j < i → ∀ y ∈ c.worlds, c.sees l[j] y = true → y ∈ l) →
    c.In (c.reach n i l) ∧ (∃ t, c.reach n i l = l ++ t) ∧ ∀ x ∈ c.reach n i l, ∀ y ∈ c.worlds, c.sees x y = true → y ∈ c.reach n i l
  | 0, i, l, hn, hi, hI, hc => by have := hI.le; omega
  | n + 1, i, l, hn, hi, hI, hc => by
    unfold Sc.reach
    split
    · rename_i hl
      have hA : c.adds l[i] c.worlds.length l = c.worlds.foldl (c.add l[i]) l := by unfold Sc.adds; rw [List.take_length]
      obtain ⟨⟨t, ht⟩, hm⟩ := foldl_add c l[i] c.worlds l
      rw [← hA] at ht hm
      obtain ⟨r1, ⟨t2, r2⟩, r3⟩ := reach_props c n (i + 1) (c.adds l[i] c.worlds.length l) (by omega) (by rw [ht]; simp; omega) (hI.adds _ _) (by
        intro j hj hji y hy hs
        have hjl : j < l.length := by omega
        have e : (c.adds l[i] c.worlds.length l)[j] = l[j] := by
          have : (c.adds l[i] c.worlds.length l)[j]? = some l[j] := by rw [ht, List.getElem?_append_left hjl, List.getElem?_eq_getElem hjl]
          rw [List.getElem?_eq_getElem hj] at this; exact Option.some.inj this
        rw [e] at hs
        by_cases h2 : j = i
        · subst h2; exact hm y hy hs
        · rw [ht]; exact List.mem_append_left _ (hc j hjl (by omega) y hy hs))
      exact ⟨r1, ⟨t ++ t2, by rw [r2, ht, List.append_assoc]⟩, r3⟩
    · rename_i hl
      refine ⟨hI, ⟨[], (List.append_nil _).symm⟩, fun x hx y hy hs => ?_⟩
      obtain ⟨j, hj, rfl⟩ := List.mem_iff_getElem.1 hx
      exact hc j hj (by omega) y hy hs
/-- truth hangs on what is of the model's worlds alone -/
theorem ev_congr {n : Nat} {t t' : Nat → Nat → Bool} {hold hold' : Nat → ByteArray → Bool} (ht : ∀ u v, u < n → v < n → t u v = t' u v) (hh : ∀ w nm, w < n → hold w nm = hold' w nm) (f : Fm) (hf : OkF (fun n => isNameB n = true) f) :
    ∀ w, w < n → ev n t hold f w = ev n t' hold' f w := by
  induction f using Fm.ind with
  | h f ih =>
    intro w hw
    rcases hf.nine with ⟨nm, hn, rfl⟩ | ⟨nm, rfl⟩ | ⟨nm, rfl⟩ | ⟨nm, a, ha, rfl⟩ | ⟨nm, a, b, ha, hb, rfl⟩ | ⟨nm, a, b, ha, hb, rfl⟩ | ⟨nm, a, b, ha, hb, rfl⟩ | ⟨nm, a, ha, rfl⟩ | ⟨nm, a, ha, rfl⟩
    · rw [ev_1, ev_1, hh w nm hw]
    · rw [ev_2, ev_2]
    · rw [ev_3, ev_3]
    · rw [ev_4, ev_4, ih a (by simp) ha w hw]
    · rw [ev_5, ev_5, ih a (by simp) ha w hw, ih b (by simp) hb w hw]
    · rw [ev_6, ev_6, ih a (by simp) ha w hw, ih b (by simp) hb w hw]
    · rw [ev_7, ev_7, ih a (by simp) ha w hw, ih b (by simp) hb w hw]
    · rw [Bool.eq_iff_iff, ev_8, ev_8]
      exact ⟨fun h v hv hs => (ih a (by simp) ha v hv) ▸ h v hv (by rw [ht w v hw hv]; exact hs), fun h v hv hs => (ih a (by simp) ha v hv) ▸ h v hv (by rw [← ht w v hw hv]; exact hs)⟩
    · rw [Bool.eq_iff_iff, ev_9, ev_9]
      exact ⟨fun ⟨v, hv, hs, h⟩ => ⟨v, hv, by rw [← ht w v hw hv]; exact hs, (ih a (by simp) ha v hv) ▸ h⟩, fun ⟨v, hv, hs, h⟩ => ⟨v, hv, by rw [ht w v hw hv]; exact hs, (ih a (by simp) ha v hv) ▸ h⟩⟩
theorem frame_congr {lg n : Nat} {t t' : Nat → Nat → Bool} (ht : ∀ u v, u < n → v < n → t u v = t' u v) (F : Frame lg n t) : Frame lg n t' where
  ser := fun h u hu => by
    obtain ⟨v, hv, e⟩ := F.ser h u hu
    exact ⟨v, hv, by rw [← ht u v hu hv]; exact e⟩
  refl := fun h u hu => by rw [← ht u u hu hu]; exact F.refl h u hu
  trans := fun h u v w hu hv hw h1 h2 => by
    rw [← ht u w hu hw]
    exact F.trans h u v w hu hv hw (by rw [ht u v hu hv]; exact h1) (by rw [ht v w hv hw]; exact h2)
  symm := fun h u v hu hv h1 => by
    rw [← ht v u hv hu]
    exact F.symm h u v hu hv (by rw [ht u v hu hv]; exact h1)
  irr := fun h u hu => by rw [← ht u u hu hu]; exact F.irr h u hu
theorem mem_relsJ (c : Sc) (x i : Nat) (l : List Nat) (p : Int × Int) : ∀ j, p ∈ c.relsJ x i l j ↔ ∃ v, v < j ∧ c.sees x ((l[v]?).getD 0) = true ∧ p = ((i : Int), (v : Int))
  | 0 => by simp [Sc.relsJ]
  | j + 1 => by
    have ih := mem_relsJ c x i l p j
    unfold Sc.relsJ
    split
    · rename_i h
      rw [List.mem_append, ih, List.mem_singleton]
      constructor
      · rintro (⟨v, h1, h2, h3⟩ | h3)
        · exact ⟨v, by omega, h2, h3⟩
        · exact ⟨j, by omega, h, h3⟩
      · rintro ⟨v, h1, h2, h3⟩
        by_cases e : v = j
        · subst e; exact .inr h3
        · exact .inl ⟨v, by omega, h2, h3⟩
    · rename_i h
      rw [ih]
      constructor
      · rintro ⟨v, h1, h2, h3⟩; exact ⟨v, by omega, h2, h3⟩
      · rintro ⟨v, h1, h2, h3⟩
        by_cases e : v = j
        · subst e; exact absurd h2 h
        · exact ⟨v, by omega, h2, h3⟩
theorem mem_rels (c : Sc) (l : List Nat) (p : Int × Int) : ∀ k, p ∈ c.rels l k ↔ ∃ u v, u < k ∧ v < l.length ∧ c.sees ((l[u]?).getD 0) ((l[v]?).getD 0) = true ∧ p = ((u : Int), (v : Int))
  | 0 => by simp [Sc.rels]
  | k + 1 => by
    have ih := mem_rels c l p k
    unfold Sc.rels
    rw [List.mem_append, ih, mem_relsJ]
    constructor
    · rintro (⟨u, v, h1, h2, h3, h4⟩ | ⟨v, h2, h3, h4⟩)
      · exact ⟨u, v, by omega, h2, h3, h4⟩
      · exact ⟨k, v, by omega, h2, h3, h4⟩
    · rintro ⟨u, v, h1, h2, h3, h4⟩
      by_cases e : u = k
      · subst e; exact .inr ⟨v, h2, h3, h4⟩
      · exact .inl ⟨u, v, by omega, h2, h3, h4⟩
theorem mdl_see (c : Sc) (R : List Nat) (u v : Nat) (hu : u < R.length) (hv : v < R.length) : seeT (c.mdl R) u v = c.tab R u v := by
  unfold seeT Sc.tab atR
  rw [Bool.eq_iff_iff, decide_eq_true_iff]
  show _ ∈ c.rels R R.length ↔ _
  rw [mem_rels]
  constructor
  · rintro ⟨u', v', h1, h2, h3, h4⟩
    simp only [Prod.mk.injEq, Int.natCast_inj] at h4
    rw [h4.1, h4.2]; exact h3
  · intro h
    exact ⟨u, v, hu, hv, h, rfl⟩
theorem mdl_hold (c : Sc) (R : List Nat) (w : Nat) (nm : ByteArray) (hw : w < R.length) : holdM (c.mdl R) w nm = c.hold R w nm := by
  unfold holdM Sc.hold atR Sc.mdl
  simp [hw]
theorem relBad_ok {n : Int} : ∀ (l : List (Int × Int)) (i : Nat), (∀ p ∈ l, 0 ≤ p.1 ∧ p.1 < n ∧ 0 ≤ p.2 ∧ p.2 < n) → relBad n l i = none
  | [], _, _ => rfl
  | a :: r, i, h => by
    unfold relBad
    have ha := h a (by simp)
    rw [if_pos (by simp [relOK]; omega)]
    exact relBad_ok r _ fun p hp => h p (by simp [hp])
theorem trBad_ok : ∀ (l : List (List ByteArray)) (i : Nat), (∀ x ∈ l, x.length ≤ 30 ∧ x.all isNameB = true) → trBad l i = none
  | [], _, _ => rfl
  | a :: r, i, h => by
    unfold trBad
    have ha := h a (by simp)
    rw [if_neg (by omega), if_pos ha.2]
    exact trBad_ok r _ fun p hp => h p (by simp [hp])
/-- the model that is told -/
theorem decM_false {lg : Int} {f : Fm} (hE : (decE lg f).1 = 0) (hB : decB lg f = false) :
    ∃ n : Nat, MdOK (decM lg f) n ∧ (decM lg f).tr.length = n ∧ 1 ≤ n ∧ (mfault (decM lg f) 1024 1048576).1 = 0 ∧ ofLogicB (decM lg f) n lg = true ∧ ev n (seeT (decM lg f)) (holdM (decM lg f)) f 0 = false := by
  obtain ⟨hT, h1, h8⟩ := decE_zero hE
  have hp10 : (partsS [] (pre f)).length ≤ 10 := by
    unfold decE at hE
    split at hE
    · rename_i h; exact absurd hE h
    · split at hE
      · cases hE
      · split at hE
        · cases hE
        · omega
  obtain ⟨lgn, rfl⟩ : ∃ k : Nat, lg = (k : Int) := ⟨lg.toNat, by omega⟩
  unfold decB at hB
  rw [hE] at hB
  simp only [decide_true, Bool.true_and, Int.toNat_natCast] at hB
  unfold decided at hB
  obtain ⟨i, hi⟩ : ∃ i, (lastW lgn f).findIdx? noZero = some i := by
    cases h : (lastW lgn f).findIdx? noZero with
    | none => rw [h] at hB; cases hB
    | some i => exact ⟨i, rfl⟩
  have hsm := lastW_small lgn f hp10
  have hdm : decM (lgn : Int) f = (lastC lgn f).mdl ((lastC lgn f).reach ((lastW lgn f).length + 1) 0 [((lastW lgn f)[i]?).getD 0]) := by
    unfold decM
    rw [if_pos hE, Int.toNat_natCast, hi]
  obtain ⟨hil, hz⟩ : ∃ h : i < (lastW lgn f).length, noZero (lastW lgn f)[i] = true := by
    rw [List.findIdx?_eq_some_iff_getElem] at hi
    exact ⟨hi.1, hi.2.1⟩
  have hget : ((lastW lgn f)[i]?).getD 0 = (lastW lgn f)[i] := by rw [List.getElem?_eq_getElem hil]; rfl
  rw [hget] at hdm
  have hwl : (lastC lgn f).worlds = lastW lgn f := rfl
  have hIn : (lastC lgn f).In [(lastW lgn f)[i]] := ⟨by simp, fun x hx => by rw [List.mem_singleton] at hx; rw [hx, hwl]; exact List.getElem_mem hil⟩
  obtain ⟨r1, ⟨t, r2⟩, r3⟩ := reach_props (lastC lgn f) ((lastW lgn f).length + 1) 0 [(lastW lgn f)[i]] (by rw [hwl]; omega) (by simp) hIn (fun j h hj => by omega)
  generalize hR : (lastC lgn f).reach ((lastW lgn f).length + 1) 0 [(lastW lgn f)[i]] = R at hdm r1 r2 r3
  have hRl : 1 ≤ R.length := by rw [r2]; simp
  have hR4 : R.length ≤ 1024 := Nat.le_trans r1.le (by rw [hwl]; exact hsm.2)
  have P := parts_all hT
  have S := lastW_stays lgn f R (fun x hx => by have := r1.sub x hx; rwa [hwl] at this) (fun x hx y hy hs => r3 x hx y (by rw [hwl]; exact hy) hs)
  have hsee : ∀ u v, u < R.length → v < R.length → seeT (decM (lgn : Int) f) u v = (sceneOf lgn (partsS [] (pre f)) (lastW lgn f)).tab R u v := fun u v hu hv => by rw [hdm]; exact mdl_see _ R u v hu hv
  have hhold : ∀ w nm, w < R.length → holdM (decM (lgn : Int) f) w nm = (sceneOf lgn (partsS [] (pre f)) (lastW lgn f)).hold R w nm := fun w nm hw => by rw [hdm]; exact mdl_hold _ R w nm hw
  have hrel : ∀ p ∈ (decM (lgn : Int) f).rel, 0 ≤ p.1 ∧ p.1 < (R.length : Int) ∧ 0 ≤ p.2 ∧ p.2 < (R.length : Int) := by
    rw [hdm]
    intro p hp
    obtain ⟨u, v, hu, hv, _, rfl⟩ := (mem_rels _ R p R.length).1 hp
    simp only; omega
  have hn : (decM (lgn : Int) f).n = (R.length : Int) := by rw [hdm]; rfl
  have htr : (decM (lgn : Int) f).tr.length = R.length := by rw [hdm]; simp [Sc.mdl]
  have hfr : Frame lgn R.length (seeT (decM (lgn : Int) f)) := frame_congr (fun u v hu hv => (hsee u v hu hv).symm) (tab_frame P S)
  refine ⟨R.length, ⟨hn, hR4, hrel⟩, htr, hRl, ?_, (ofLogic_frame (by omega) (by omega)).2 hfr, ?_⟩
  · unfold mfault
    have hrl : (decM (lgn : Int) f).rel.length ≤ 1048576 := by
      rw [hdm]
      have := (lastC lgn f).rels_len R R.length
      exact Nat.le_trans this (Nat.le_trans (Nat.mul_le_mul hR4 hR4) (by decide))
    rw [hn, if_neg (by omega), if_neg (by rw [htr]; simp), relBad_ok _ _ hrel, trBad_ok]
    · rfl
    · rw [hdm]
      intro x hx
      simp only [Sc.mdl, List.mem_map] at hx
      obtain ⟨y, hy, rfl⟩ := hx
      refine ⟨Nat.le_trans (Sc.names_len _ _ _) (by show (partsS [] (pre f)).length ≤ 30; omega), ?_⟩
      rw [List.all_eq_true]
      intro nm hnm
      obtain ⟨j, hj, hk, _, rfl⟩ := (mem_names _).1 hnm
      have hj : j < (partsS [] (pre f)).length := hj
      have hg := P.td _ (List.getElem_mem hj)
      have hkd : (partsS [] (pre f))[j].kind = 1 := by
        have := kind_at (lg := lgn) (ws := lastW lgn f) (List.getElem?_eq_getElem hj)
        rw [← this]; exact hk
      have hnm : (lastC lgn f).nameOf j = (partsS [] (pre f))[j].name := by
        show (((partsS [] (pre f))[j]?).map Fm.name).getD default = _
        rw [List.getElem?_eq_getElem hj]; rfl
      rw [hnm]
      rcases hg.ok.nine with ⟨nm, hn, e⟩ | ⟨nm, e⟩ | ⟨nm, e⟩ | ⟨nm, a, ha, e⟩ | ⟨nm, a, b, ha, hb, e⟩ | ⟨nm, a, b, ha, hb, e⟩ | ⟨nm, a, b, ha, hb, e⟩ | ⟨nm, a, ha, e⟩ | ⟨nm, a, ha, e⟩ <;> rw [e] at hkd ⊢ <;> simp at hkd
      exact hn
  · obtain ⟨r, hr⟩ := partsS_head f
    rw [ev_congr hsee hhold f hT.ok 0 (by omega), truth P S f 0 (by rw [hr]; rfl) 0 (by omega)]
    have : atR R 0 = (lastW lgn f)[i] := by rw [r2]; rfl
    rw [this]
    simpa [noZero] using hz
theorem decM_true {lg : Int} {f : Fm} (hB : decB lg f = true) : decM lg f = mdl0 := by
  unfold decB at hB
  rw [Bool.and_eq_true, decide_eq_true_iff] at hB
  unfold decM
  rw [if_pos hB.1]
  have := hB.2
  unfold decided at this
  cases h : (lastW lg.toNat f).findIdx? noZero with
  | none => rfl
  | some i => rw [h] at this; cases this
theorem decM_fault {lg : Int} {f : Fm} (hE : (decE lg f).1 ≠ 0) : decM lg f = mdl0 := by
  unfold decM; rw [if_neg hE]
end Go.Proofs.Ytliockncjdeloaa
