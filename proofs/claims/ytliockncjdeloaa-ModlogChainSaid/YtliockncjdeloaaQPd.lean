/-
  Plain law: soundness of the elimination; completeness.
-/
import Derived.Test.YtliockncjdeloaaQPc
namespace Go.Proofs.Ytliockncjdeloaa
open Go Go.Pv
set_option linter.unusedVariables false
set_option linter.unusedSimpArgs false
set_option linter.unusedSectionVars false
set_option maxRecDepth 100000

section
variable {lg : Nat} {l : List Fm} (P : Parts l) {n : Nat} {t : Nat → Nat → Bool} {hold : Nat → ByteArray → Bool} (F : Frame lg n t) {ws : List Nat}
include P F
theorem typ_fine (hI : ∀ v, v < n → typ l n t hold v ∈ ws) {w : Nat} (hw : w < n) {i : Nat} (hil : i < l.length) : (sceneOf lg l ws).fine (typ l n t hold w) i = true := by
  have hg := List.getElem?_eq_getElem hil
  generalize hgg : l[i] = g at hg
  have htd : Td g := P.td g (hgg ▸ List.getElem_mem hil)
  have hkind := kind_at (lg := lg) (ws := ws) hg
  have hlg : (sceneOf lg l ws).lg = lg := rfl
  have hwo : (sceneOf lg l ws).worlds = ws := rfl
  unfold Sc.fine Sc.needs
  rw [hkind, typ_bit hg]
  rcases htd.nine with ⟨nm, hn, rfl⟩ | rfl | rfl | ⟨a, ha, rfl⟩ | ⟨a, b, ha, hb, rfl⟩ | ⟨a, b, ha, hb, rfl⟩ | ⟨a, b, ha, hb, rfl⟩ | ⟨a, ha, rfl⟩ | ⟨a, ha, rfl⟩
  all_goals try (simp [Fm.kind]; done)
  · rw [show decide ((Fm.mk 8 ⟨#[]⟩ [a]).kind = 8) = true from rfl, show decide ((Fm.mk 8 ⟨#[]⟩ [a]).kind = 9) = false from rfl]
    cases he : ev n t hold (.mk 8 ⟨#[]⟩ [a]) w
    · have key : ∃ u, u < n ∧ t w u = true ∧ ev n t hold a u = false ∧ (lg = 8 → ev n t hold (.mk 8 ⟨#[]⟩ [a]) u = true) := by
        obtain ⟨v, hv, htv, hev⟩ := ev_8f.1 he
        by_cases h8 : lg = 8
        · obtain ⟨u, hu, h1, h2, h3⟩ := last_of (F.trans (by omega)) (F.irr h8) (fun u => ev n t hold a u = false) hw hv htv hev
          refine ⟨u, hu, h1, h2, fun _ => ev_8.2 fun x hx htx => ?_⟩
          have := h3 x hx htx
          simpa using this
        · exact ⟨v, hv, htv, hev, fun h => absurd h h8⟩
      obtain ⟨u, hu, h1, h2, h3⟩ := key
      have hany : (sceneOf lg l ws).worlds.any ((sceneOf lg l ws).shows (typ l n t hold w) i false) = true := by
        rw [List.any_eq_true]
        refine ⟨typ l n t hold u, hI u hu, ?_⟩
        unfold Sc.shows
        rw [typ_kid P hg (show (Fm.mk 8 ⟨#[]⟩ [a]).kids[0]? = some a from rfl), typ_bit hg, h2, hlg, typ_sees P F hw hu h1 (fun h8 => ?_)]
        · by_cases h8 : lg = 8
          · simp [h3 h8]
          · simp [h8]
        · rw [← Bool.not_eq_true, alike_iff]
          intro h
          have := h i _ hg (.inl rfl)
          rw [typ_bit hg, typ_bit hg, he, h3 h8] at this
          cases this
      rw [hany]; simp
    · simp
  · rw [show decide ((Fm.mk 9 ⟨#[]⟩ [a]).kind = 8) = false from rfl, show decide ((Fm.mk 9 ⟨#[]⟩ [a]).kind = 9) = true from rfl]
    cases he : ev n t hold (.mk 9 ⟨#[]⟩ [a]) w
    · simp
    · have key : ∃ u, u < n ∧ t w u = true ∧ ev n t hold a u = true ∧ (lg = 8 → ev n t hold (.mk 9 ⟨#[]⟩ [a]) u = false) := by
        obtain ⟨v, hv, htv, hev⟩ := ev_9.1 he
        by_cases h8 : lg = 8
        · obtain ⟨u, hu, h1, h2, h3⟩ := last_of (F.trans (by omega)) (F.irr h8) (fun u => ev n t hold a u = true) hw hv htv hev
          refine ⟨u, hu, h1, h2, fun _ => ?_⟩
          rw [← Bool.not_eq_true, ev_9]
          rintro ⟨x, hx, htx, hex⟩
          exact h3 x hx htx hex
        · exact ⟨v, hv, htv, hev, fun h => absurd h h8⟩
      obtain ⟨u, hu, h1, h2, h3⟩ := key
      have hany : (sceneOf lg l ws).worlds.any ((sceneOf lg l ws).shows (typ l n t hold w) i true) = true := by
        rw [List.any_eq_true]
        refine ⟨typ l n t hold u, hI u hu, ?_⟩
        unfold Sc.shows
        rw [typ_kid P hg (show (Fm.mk 9 ⟨#[]⟩ [a]).kids[0]? = some a from rfl), typ_bit hg, h2, hlg, typ_sees P F hw hu h1 (fun h8 => ?_)]
        · by_cases h8 : lg = 8
          · simp [h3 h8]
          · simp [h8]
        · rw [← Bool.not_eq_true, alike_iff]
          intro h
          have := h i _ hg (.inr rfl)
          rw [typ_bit hg, typ_bit hg, he, h3 h8] at this
          cases this
      rw [hany]; simp
theorem typ_whole (hI : ∀ v, v < n → typ l n t hold v ∈ ws) {w : Nat} (hw : w < n) : (sceneOf lg l ws).whole (typ l n t hold w) = true := by
  unfold Sc.whole
  rw [Bool.and_eq_true]
  constructor
  · unfold Sc.some
    by_cases h2 : lg = 2
    · obtain ⟨v, hv, ht⟩ := F.ser h2 w hw
      rw [Bool.or_eq_true]
      refine .inr ?_
      rw [List.take_length, List.any_eq_true]
      exact ⟨_, hI v hv, typ_sees P F hw hv ht (fun h => by omega)⟩
    · rw [show (sceneOf lg l ws).lg = lg from rfl]; simp [h2]
  · unfold Sc.allFine
    rw [List.all_eq_true]
    exact fun i hi => typ_fine P F hI hw (List.mem_range.1 hi)
theorem typ_first {w : Nat} (hw : w < n) : typ l n t hold w ∈ (List.range (2 ^ l.length)).filter (sceneOf lg l []).locl :=
  List.mem_filter.2 ⟨List.mem_range.2 (bitsN_lt _ _), typ_locl P F hw⟩
theorem typ_stays (hI : ∀ v, v < n → typ l n t hold v ∈ ws) : ∀ w, w < n → typ l n t hold w ∈ ws.filter (sceneOf lg l ws).whole := fun w hw =>
  List.mem_filter.2 ⟨hI w hw, typ_whole P F hI hw⟩
end
/-- a model of one world -/
def oneT (lg : Nat) (u v : Nat) : Bool := decide (lg ≠ 8)
theorem oneT_frame (lg : Nat) : Frame lg 1 (oneT lg) where
  ser := fun h u hu => ⟨0, by decide, by unfold oneT; rw [decide_eq_true]; omega⟩
  refl := fun h u hu => by unfold oneT; rw [decide_eq_true]; omega
  trans := fun h u v w hu hv hw h1 h2 => h1
  symm := fun h u v hu hv h1 => h1
  irr := fun h u hu => by unfold oneT; rw [decide_eq_false]; omega
noncomputable def decided (lg : Nat) (f : Fm) : Bool := ((lastW lg f).findIdx? noZero).isNone
theorem decided_iff {lg : Nat} {f : Fm} : decided lg f = true ↔ ∀ x ∈ lastW lg f, x.testBit 0 = true := by
  unfold decided
  rw [Option.isNone_iff_eq_none, List.findIdx?_eq_none_iff]
  simp [noZero]
theorem decided_sound {lg : Nat} {f : Fm} (hf : Td f) (h : decided lg f = true) : ValidF lg f := by
  intro n t hold F w hw
  have P := parts_all hf
  have h1 : ∀ v, v < n → typ (partsS [] (pre f)) n t hold v ∈ lastW lg f :=
    elim_inv (fun ws => ∀ v, v < n → typ (partsS [] (pre f)) n t hold v ∈ ws) (fun ws hI => typ_stays P F hI) _ _ (fun v hv => typ_first P F hv)
  have h2 := decided_iff.1 h _ (h1 w hw)
  obtain ⟨r, hr⟩ := partsS_head f
  rwa [typ_bit (show (partsS [] (pre f))[0]? = some f by rw [hr]; rfl)] at h2
end Go.Proofs.Ytliockncjdeloaa
