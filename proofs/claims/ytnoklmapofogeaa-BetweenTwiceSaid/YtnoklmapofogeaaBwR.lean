/-
  Plain laws of between: what is projected is true where the formula can be made true.
-/
import Derived.Test.YtnoklmapofogeaaBwQ
namespace Go.Proofs.Ytnoklmapofogeaa
open Go Go.Pv
set_option linter.unusedVariables false
set_option linter.unusedSimpArgs false
set_option maxRecDepth 100000

theorem has_mem (l : List ByteArray) (x : ByteArray) : hasStr l x = memB x l := rfl
theorem namesS_nodup (l : List Fm) : (namesS l).Nodup := ris_nodup (comp_ok _).1
theorem mem_namesS {l : List Fm} (h : ∀ f ∈ l, (pre f).length ≤ 200) (x : ByteArray) : x ∈ namesS l ↔ ∃ f ∈ l, ∃ y ∈ pre f, y.kind = 1 ∧ y.name = x := by
  have e : ∀ f ∈ l, nodesGo 200 200 [f] = pre f := fun f hf => by
    rw [nodesGo_take 200 200 [f] (by omega), pres_cons, pres_nil, List.append_nil, List.take_of_length_le (h f hf)]
  unfold namesS
  rw [(comp_ok _).2]
  unfold varsS varsL
  simp only [List.mem_map, List.mem_filter, List.mem_flatMap, decide_eq_true_eq]
  constructor
  · rintro ⟨y, ⟨⟨f, hf, hy⟩, hk⟩, rfl⟩
    rw [e f hf] at hy
    exact ⟨f, hf, y, hy, hk, rfl⟩
  · rintro ⟨f, hf, y, hy, hk, rfl⟩
    exact ⟨y, ⟨⟨f, hf, by rw [e f hf]; exact hy⟩, hk⟩, rfl⟩
theorem plain_le {l : List Fm} (h : (plainL l).1 = 0) : ∀ f ∈ l, (pre f).length ≤ 200 := fun f hf => ((plainF_iff f).1 (plainL_all h f hf)).2
theorem plain_pl {l : List Fm} (h : (plainL l).1 = 0) : ∀ f ∈ l, Pl f := fun f hf => ((plainF_iff f).1 (plainL_all h f hf)).1
theorem names_names {l : List Fm} (h : (plainL l).1 = 0) : ∀ x ∈ namesS l, isNameB x = true := by
  intro x hx
  obtain ⟨f, hf, y, hy, hk, rfl⟩ := (mem_namesS (plain_le h) x).1 hx
  have := (plain_pl h f hf).1 y hy
  cases hb : isNameB y.name with
  | true => rfl
  | false => exact absurd (.inl ⟨hk, hb⟩) this.2.2
/-- a formula's value hangs on its names alone -/
theorem tv_names {f : Fm} {ns : List ByteArray} (hpl : Pl f) (hn : ∀ y ∈ pre f, y.kind = 1 → y.name ∈ ns) {u v : ByteArray → Bool} (h : ∀ x ∈ ns, u x = v x) : tv u f = tv v f := tv_congr f hpl fun y hy hk => h _ (hn y hy hk)
theorem names_one {f : Fm} (h : (plainF f).1 = 0) : ∀ y ∈ pre f, y.kind = 1 → y.name ∈ namesS [f] := fun y hy hk =>
  (mem_namesS (fun g hg => by simp at hg; rw [hg]; exact ((plainF_iff _).1 h).2) _).2 ⟨_, List.mem_cons_self, y, hy, hk, rfl⟩
theorem inN_sub {f : Fm} {ns : List ByteArray} {x : ByteArray} (h : x ∈ inN f ns) : x ∈ namesS [f] := (List.mem_filter.1 h).1
theorem proj_iff {f : Fm} (ns : List ByteArray) (h : (plainF f).1 = 0) (h6 : (namesS [f]).length ≤ 6) (v : ByteArray → Bool) : tv v (projF f ns) = true ↔ ∃ u, (∀ x ∈ inN f ns, u x = v x) ∧ tv u f = true := by
  have hpL : (plainL [f]).1 = 0 := by rw [plainL_one]; exact h
  have hnm := names_names hpL
  have hpl := ((plainF_iff f).1 h).1
  have hone := names_one h
  unfold projF
  rw [choose_tv, List.nil_append, some_iff h]
  · constructor
    · rintro ⟨p, hp⟩
      refine ⟨_, fun x hx => ?_, hp⟩
      rw [Bool.eq_iff_iff, memB_iff, List.mem_append, List.mem_filter, List.mem_filter]
      constructor
      · rintro (h1 | h1)
        · exact h1.2
        · exfalso
          have := (List.mem_filter.1 h1.1).2
          rw [has_mem, Bool.not_eq_true', Bool.eq_false_iff] at this
          exact this (memB_iff.2 hx)
      · exact fun h1 => .inl ⟨hx, h1⟩
    · rintro ⟨u, hu, hf⟩
      refine ⟨u, ?_⟩
      rw [← hf]
      refine tv_names hpl hone fun x hx => ?_
      rw [Bool.eq_iff_iff, memB_iff, List.mem_append, List.mem_filter, List.mem_filter]
      by_cases hi : x ∈ inN f ns
      · rw [← hu x hi]
        constructor
        · rintro (h1 | h1)
          · exact h1.2
          · exact h1.2
        · exact fun h1 => .inl ⟨hi, h1⟩
      · constructor
        · rintro (h1 | h1)
          · exact absurd h1.1 hi
          · exact h1.2
        · intro h1
          refine .inr ⟨List.mem_filter.2 ⟨hx, ?_⟩, h1⟩
          rw [has_mem, Bool.not_eq_true', Bool.eq_false_iff]
          exact fun g => hi (memB_iff.1 g)
  · exact fun x hx => hnm x (List.mem_filter.1 hx).1
  · exact fun x hx => hnm x (inN_sub (List.mem_filter.1 hx).1)
  · have h1 : (outN f ns).length ≤ 6 := Nat.le_trans (List.length_filter_le _ _) h6
    have h2 : (inN f ns).length ≤ 6 := Nat.le_trans (List.length_filter_le _ _) h6
    have h3 := List.length_filter_le v (inN f ns)
    omega
  · exact (namesS_nodup _).filter _
theorem proj_good {f : Fm} (ns : List ByteArray) (h : (plainF f).1 = 0) (h6 : (namesS [f]).length ≤ 6) : Good (inN f ns) 442 (projF f ns) := by
  have hpL : (plainL [f]).1 = 0 := by rw [plainL_one]; exact h
  have h2 : (inN f ns).length ≤ 6 := Nat.le_trans (List.length_filter_le _ _) h6
  have := Nat.pow_le_pow_right (show 0 < 2 by decide) h2
  exact (choose_good _ _ _ fun x hx => names_names hpL x (inN_sub hx)).mono (fun x hx => hx) (by omega)
theorem memB_row {ns : List ByteArray} (hd : ns.Nodup) (k : Nat) {x : ByteArray} : memB x (rowL ns k) = true → x ∈ ns := fun h => rowL_sub _ _ _ (memB_iff.1 h)
/-- a row of some names, out of a row of all -/
theorem row_common {all ins : List ByteArray} (hd : all.Nodup) (hi : ∃ q : ByteArray → Bool, ins = all.filter q) (m k : Nat) : (rowL all m).filter (fun x => memB x ins) = rowL ins k ↔ ∀ x ∈ ins, memB x (rowL all m) = memB x (rowL ins k) := by
  obtain ⟨q, rfl⟩ := hi
  have hd2 : (all.filter q).Nodup := hd.filter _
  constructor
  · intro h x hx
    rw [Bool.eq_iff_iff, memB_iff, memB_iff, ← h, List.mem_filter]
    exact ⟨fun g => ⟨g, memB_iff.2 hx⟩, fun g => g.1⟩
  · intro h
    rw [rowL_filter all hd m, rowL_filter _ hd2 k, List.filter_filter, List.filter_filter]
    refine List.filter_congr fun x hx => ?_
    rw [Bool.eq_iff_iff, Bool.and_eq_true, Bool.and_eq_true, memB_iff (L := all.filter q), List.mem_filter]
    constructor
    · rintro ⟨⟨h1, h2⟩, h3⟩
      exact ⟨by rw [← h x (List.mem_filter.2 ⟨h1, h2⟩)]; exact h3, h2⟩
    · rintro ⟨h1, h2⟩
      exact ⟨⟨hx, h2⟩, by rw [h x (List.mem_filter.2 ⟨hx, h2⟩)]; exact h1⟩
theorem inN_filter (f : Fm) (ns : List ByteArray) : ∃ q : ByteArray → Bool, inN f ns = (namesS [f]).filter q := ⟨_, rfl⟩
theorem proj_rows {f : Fm} (ns : List ByteArray) (h : (plainF f).1 = 0) (h6 : (namesS [f]).length ≤ 6) (k : Nat) :
    ((List.range (2 ^ (namesS [f]).length)).any fun m => tv (fun x => memB x (rowL (namesS [f]) m)) f && decide ((rowL (namesS [f]) m).filter (fun x => memB x (inN f ns)) = rowL (inN f ns) k)) = tv (fun x => memB x (rowL (inN f ns) k)) (projF f ns) := by
  have hpl := ((plainF_iff f).1 h).1
  have hone := names_one h
  have hd := namesS_nodup [f]
  rw [Bool.eq_iff_iff, proj_iff ns h h6, List.any_eq_true]
  constructor
  · rintro ⟨m, hm, hb⟩
    rw [Bool.and_eq_true, decide_eq_true_eq, row_common hd (inN_filter f ns)] at hb
    exact ⟨_, hb.2, hb.1⟩
  · rintro ⟨u, hu, hf⟩
    obtain ⟨m, hm, he⟩ := row_have hd u
    refine ⟨m, List.mem_range.2 hm, ?_⟩
    have hv : ∀ x ∈ namesS [f], memB x (rowL (namesS [f]) m) = u x := fun x hx => by
      rw [he, Bool.eq_iff_iff, memB_iff, List.mem_filter]; exact ⟨fun g => g.2, fun g => ⟨hx, g⟩⟩
    rw [Bool.and_eq_true, decide_eq_true_eq, row_common hd (inN_filter f ns)]
    refine ⟨by rw [← hf]; exact tv_names hpl hone hv, fun x hx => ?_⟩
    rw [hv x (inN_sub hx), hu x hx]
end Go.Proofs.Ytnoklmapofogeaa
