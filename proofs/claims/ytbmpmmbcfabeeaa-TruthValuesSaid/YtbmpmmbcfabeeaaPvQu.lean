/-
  Values seen as data: two tables at the loops' heads.
-/
import Derived.Test.YtbmpmmbcfabeeaaPvQt
namespace Go.Pv
open Go
set_option linter.unusedVariables false
set_option linter.unusedSimpArgs false

/-- a table that is made row by row -/
def stG {α : Type} (S : Nat → List α) (n x : Nat) (cur : List α) : List (List α) := (List.range n).map fun u => if u < x then S u else if u = x then cur else []
section
variable {α : Type} {S : Nat → List α} {n x : Nat} {cur cur' : List α}
@[simp] theorem stG_length : (stG S n x cur).length = n := by simp [stG]
theorem stG_getE (h : x < (stG S n x cur).length) : (stG S n x cur)[x] = cur := by simp [stG]
theorem stG_zero : stG S n 0 [] = List.replicate n [] := by simp [stG, List.map_const']
theorem stG_all : stG S n n [] = (List.range n).map S := List.map_congr_left fun u hu => by
  rw [if_pos (List.mem_range.1 hu)]
theorem stG_next : stG S n x (S x) = stG S n (x + 1) [] := List.map_congr_left fun u hu => by
  by_cases h : u < x
  · rw [if_pos h, if_pos (by omega)]
  · by_cases h2 : u = x
    · subst h2; simp
    · rw [if_neg h, if_neg h2, if_neg (by omega)]; split <;> rfl
theorem stG_set : (stG S n x cur).set x cur' = stG S n x cur' := by
  apply List.ext_getElem (by simp [stG])
  intro i h1 h2
  rw [List.getElem_set]
  simp only [stG, List.getElem_map, List.getElem_range]
  split
  · rename_i e; subst e; simp
  · rename_i e
    have e2 : ¬ i = x := fun h => e h.symm
    simp only [if_neg e2]
theorem stG_lset {k : Nat} (h : cur'.length = k) : ((stG S n x cur).map List.length).set x k = (stG S n x cur').map List.length := by
  rw [← stG_set (cur := cur) (cur' := cur'), List.map_set, h]
theorem stG_rset {g : α → List PV} : ((stG S n x cur).map (List.map g)).set x (cur'.map g) = (stG S n x cur').map (List.map g) := by
  rw [← stG_set (cur := cur) (cur' := cur'), List.map_set]
end
theorem ren_rowsOf2 : ∀ (ids lens : List Nat) (ρ : List Nat), lens.length = ids.length → (∀ i ∈ ids, i ∉ ρ) → ids.Nodup →
    ∀ (pre post : List Nat), (∀ i ∈ ids, i ∉ pre) → (rowsOf ids lens).map (List.map (renN (ρ ++ (pre ++ (ids ++ post))) 4)) = tabRows (ρ.length + pre.length) lens
  | [], [], ρ, _, _, _, pre, _, _ => rfl
  | [], _ :: _, _, h, _, _, _, _, _ => by simp at h
  | _ :: _, [], _, h, _, _, _, _, _ => by simp at h
  | i :: ids, l :: lens, ρ, h, hd, hn, pre, post, hp => by
    rw [List.nodup_cons] at hn
    have e : pre ++ (i :: ids ++ post) = (pre ++ [i]) ++ (ids ++ post) := by simp
    have ih := ren_rowsOf2 ids lens ρ (by simpa using h) (fun j hj => hd j (by simp [hj])) hn.2 (pre ++ [i]) post (fun j hj => by
      rw [List.mem_append, not_or]
      refine ⟨hp j (by simp [hj]), ?_⟩
      simp only [List.mem_cons, List.not_mem_nil, or_false]
      rintro rfl; exact hn.1 hj)
    simp only [rowsOf, tabRows, List.map_cons, List.map_nil]
    rw [e, ih]
    congr 1
    · have : posn i (ρ ++ (pre ++ [i] ++ (ids ++ post))) 0 = some (ρ.length + pre.length) := by
        rw [posn_append _ _ _ _ (hd i (by simp)), List.append_assoc, posn_append _ _ _ _ (hp i (by simp))]
        simp [posn]
      simp only [List.append_assoc, List.cons_append, List.nil_append] at this
      simp [renN, ren0, this]
    · simp [Nat.add_assoc]
/-- the heads, the two tables' own objects told apart -/
def liveK2 (ρ : List Nat) (s : Store) (k1 : Nat) (o1 : PObj) (k2 : Nat) (o2 : PObj) : List Nat → Store
  | [] => []
  | i :: r => (if i = k1 then o1 else if i = k2 then o2 else renObj ρ ((s[i]?).getD .dead)) :: liveK2 ρ s k1 o1 k2 o2 r
theorem liveK2_eq {ρ : List Nat} {s : Store} {k1 k2 : Nat} {o1 o2 : PObj} (h1 : renObj ρ ((s[k1]?).getD .dead) = o1) (h2 : renObj ρ ((s[k2]?).getD .dead) = o2) : ∀ r, liveS ρ s r = liveK2 ρ s k1 o1 k2 o2 r
  | [] => rfl
  | i :: r => by
    rw [liveS_cons, liveK2, liveK2_eq h1 h2 r]
    by_cases e : i = k1
    · subst e; rw [if_pos rfl, h1]
    · rw [if_neg e]
      by_cases e : i = k2
      · subst e; rw [if_pos rfl, h2]
      · rw [if_neg e]
@[simp] theorem liveK2_nil {ρ : List Nat} {s : Store} {k1 k2 : Nat} {o1 o2 : PObj} : liveK2 ρ s k1 o1 k2 o2 [] = [] := rfl
@[simp] theorem liveK2_cons {ρ r : List Nat} {s : Store} {k1 k2 i : Nat} {o1 o2 : PObj} : liveK2 ρ s k1 o1 k2 o2 (i :: r) = (if i = k1 then o1 else if i = k2 then o2 else renObj ρ ((s[i]?).getD .dead)) :: liveK2 ρ s k1 o1 k2 o2 r := rfl

section
variable {C : WC} {e : AE} {s S : Store} {q : AE → Store → Prop} {t t' z z' k k' zk zk' b : Nat} {L ids ids' lens lens' ρ0 : List Nat} {xss yss : List (List (List PV))}
theorem HT_core2 (hs : voidTs e [(t, 0, z), (t', 0, z')] s = S) (hk : tabIx (envOf e t) = some k) (hk' : tabIx (envOf e t') = some k') (hr : S[k]? = some (.rows zk (rowsOf ids lens))) (hr' : S[k']? = some (.rows zk' (rowsOf ids' lens')))
    (hlen : lens.length = ids.length) (hlen' : lens'.length = ids'.length) (hm : C.m ≤ S.length)
    (hg : grow S 64 (mrefs S C.m ++ refsL e L) (List.range C.m) = ρ0) (hnd : (ids ++ ids').Nodup) (hdis : ∀ i ∈ ids ++ ids', i ∉ ρ0) (hin : ∀ i ∈ ids ++ ids', i < S.length) (hxl : ids.length = xss.length) (hxl' : ids'.length = yss.length)
    (hx : ∀ (j i : Nat) (xs : List (List PV)), ids[j]? = some i → xss[j]? = some xs → S[i]? = some (.rows z xs)) (hf : ∀ xs ∈ xss, ∀ row ∈ xs, row.all flatV = true)
    (hx' : ∀ (j i : Nat) (xs : List (List PV)), ids'[j]? = some i → yss[j]? = some xs → S[i]? = some (.rows z' xs)) (hf' : ∀ xs ∈ yss, ∀ row ∈ xs, row.all flatV = true)
    (h : q (liveE (ρ0 ++ (ids ++ ids')) e L) (liveK2 (ρ0 ++ (ids ++ ids')) S k (.rows zk (tabRows ρ0.length lens)) k' (.rows zk' (tabRows (ρ0.length + ids.length) lens')) ρ0 ++ (tabObjs z xss ++ tabObjs z' yss))) : HT C [(t, 0, z), (t', 0, z')] L e s q := by
  have h1 : ∀ L : List Nat, (L.flatMap fun t => refsN 4 (envOf e t)) = refsL e L := by
    intro L; induction L with
    | nil => rfl
    | cons t r ih => rw [List.flatMap_cons, ih]; rfl
  have h2 : ∀ (ρ L : List Nat), (L.map fun t => (t, renN ρ 4 (envOf e t))) = liveE ρ e L := by
    intro ρ L; induction L with
    | nil => rfl
    | cons t r ih => rw [List.map_cons, ih]; rfl
  have h3 : ∀ (ρ L : List Nat), (L.map fun i => renObj ρ ((S[i]?).getD .dead)) = liveS ρ S L := by
    intro ρ L; induction L with
    | nil => rfl
    | cons t r ih => rw [List.map_cons, ih]; rfl
  unfold HT withGc voids
  dsimp only
  rw [hs]
  refine ⟨hm, ?_⟩
  unfold gcStep
  rw [h1, hg]
  obtain ⟨n1, n2, n3⟩ := List.nodup_append.1 hnd
  have d1 : ∀ i ∈ ids, i ∉ ρ0 := fun i hi => hdis i (List.mem_append_left _ hi)
  have d2 : ∀ i ∈ ids', i ∉ ρ0 := fun i hi => hdis i (List.mem_append_right _ hi)
  have hgT : growT S e [(t, 0, z), (t', 0, z')] ρ0 = ρ0 ++ (ids ++ ids') := by
    simp only [growT, tabCell]
    rw [hk, hk']
    simp only [growT1, rowsAt, hr, hr']
    rw [tabRefs_rowsOf ids lens hlen, tabRefs_rowsOf ids' lens' hlen', grow_ids _ ids ρ0 (by simp) n1 d1 (fun i hi => hin i (List.mem_append_left _ hi)),
      grow_ids _ ids' (ρ0 ++ ids) (by simp) n2 (fun i hi h => by
        rcases List.mem_append.1 h with h | h
        · exact d2 i hi h
        · exact n3 i h i hi rfl) (fun i hi => hin i (List.mem_append_right _ hi)), List.append_assoc]
  rw [hgT, h2, h3, liveS_append, liveS_append, liveS_tab ids xss hxl hx hf, liveS_tab ids' yss hxl' hx' hf', liveK2_eq (k1 := k) (o1 := .rows zk (tabRows ρ0.length lens)) (k2 := k') (o2 := .rows zk' (tabRows (ρ0.length + ids.length) lens'))]
  · exact h
  · rw [hr, Option.getD_some]
    show PObj.rows zk ((rowsOf ids lens).map (List.map (renN (ρ0 ++ (ids ++ ids')) 4))) = _
    have := ren_rowsOf2 ids lens ρ0 hlen d1 n1 [] ids' (fun _ _ h => by cases h)
    simp only [List.nil_append, List.length_nil, Nat.add_zero] at this
    rw [this]
  · rw [hr', Option.getD_some]
    show PObj.rows zk' ((rowsOf ids' lens').map (List.map (renN (ρ0 ++ (ids ++ ids')) 4))) = _
    have := ren_rowsOf2 ids' lens' ρ0 hlen' d2 n2 ids [] (fun i hi h => n3 i h i hi rfl)
    simp only [List.append_nil] at this
    rw [this]
theorem voidTs_rowsOf2 {ids lens ids' lens' : List Nat} (hk : tabIx (envOf e t) = some k) (hk' : tabIx (envOf e t') = some k') (hr : s[k]? = some (.rows zk (rowsOf ids lens))) (hr' : s[k']? = some (.rows zk' (rowsOf ids' lens'))) : voidTs e [(t, 0, z), (t', 0, z')] s = s := by
  have h1 := voidTs_rowsOf (z := z) (c := 0) (t := t) (e := e) (s := s) hk hr
  have h2 := voidTs_rowsOf (z := z') (c := 0) (t := t') (e := e) (s := s) hk' hr'
  simp only [voidTs] at h1 h2 ⊢
  rw [h1, h2]
theorem range'_get {b n j i : Nat} (h : (List.range' b n)[j]? = some i) : i = b + j ∧ j < n := by
  rw [List.getElem?_eq_some_iff] at h
  obtain ⟨hj, h⟩ := h
  rw [List.getElem_range'] at h
  simp only [List.length_range'] at hj
  omega
/-- both tables' rows lie where they lay -/
theorem HT_keep2 {n n' : Nat} {pre post : Store} (hs : s = pre ++ (tabObjs z xss ++ (tabObjs z' yss ++ post))) (hb : pre.length = b) (hk : tabIx (envOf e t) = some k) (hk' : tabIx (envOf e t') = some k') (hkb : pre[k]? = some (.rows zk (tabRows b lens))) (hkb' : pre[k']? = some (.rows zk' (tabRows (b + n) lens')))
    (hn : xss.length = n) (hn' : yss.length = n') (hl : lens.length = n) (hl' : lens'.length = n')
    (hf : ∀ xs ∈ xss, ∀ row ∈ xs, row.all flatV = true) (hf' : ∀ xs ∈ yss, ∀ row ∈ xs, row.all flatV = true) (hm : C.m ≤ b) (hg : grow s 64 (mrefs s C.m ++ refsL e L) (List.range C.m) = ρ0) (hρ : ∀ i ∈ ρ0, i < b)
    (h : q (liveE (ρ0 ++ (List.range' b n ++ List.range' (b + n) n')) e L) (liveK2 (ρ0 ++ (List.range' b n ++ List.range' (b + n) n')) s k (.rows zk (tabRows ρ0.length lens)) k' (.rows zk' (tabRows (ρ0.length + n) lens')) ρ0 ++ (tabObjs z xss ++ tabObjs z' yss))) : HT C [(t, 0, z), (t', 0, z')] L e s q := by
  subst hn hn'
  have hk1 : s[k]? = some (.rows zk (rowsOf (List.range' b xss.length) lens)) := by
    rw [hs, List.getElem?_append_left (lt_of_getElem? hkb), hkb, tabRows_eq, hl]
  have hk2 : s[k']? = some (.rows zk' (rowsOf (List.range' (b + xss.length) yss.length) lens')) := by
    rw [hs, List.getElem?_append_left (lt_of_getElem? hkb'), hkb', tabRows_eq, hl']
  have hsl : s.length = b + xss.length + yss.length + post.length := by rw [hs]; simp; omega
  refine HT_core2 (xss := xss) (yss := yss) (voidTs_rowsOf2 hk hk' hk1 hk2) hk hk' hk1 hk2 (by simp [hl]) (by simp [hl']) (by omega) hg ?_ ?_ ?_ (by simp) (by simp) ?_ hf ?_ hf' (by simpa using h)
  · rw [List.nodup_append]
    refine ⟨List.nodup_range', List.nodup_range', fun a ha c hc => ?_⟩
    rw [List.mem_range'_1] at ha hc; omega
  · intro i hi hi2
    have := hρ i hi2
    rw [List.mem_append, List.mem_range'_1, List.mem_range'_1] at hi
    omega
  · intro i hi
    rw [List.mem_append, List.mem_range'_1, List.mem_range'_1] at hi
    omega
  · intro j i xs h1 h2
    obtain ⟨rfl, hj⟩ := range'_get h1
    rw [hs, List.getElem?_append_right (by omega), hb, Nat.add_sub_cancel_left, List.getElem?_append_left (by simpa using hj), tabObjs_get, h2]; rfl
  · intro j i xs h1 h2
    obtain ⟨rfl, hj⟩ := range'_get h1
    rw [hs, List.getElem?_append_right (by omega), hb, List.getElem?_append_right (by simp; omega), List.getElem?_append_left (by simp; omega), tabObjs_get, show b + xss.length + j - b - (tabObjs z xss).length = j by simp; omega, h2]; rfl
/-- a row of each is another one, which has been made; the old ones are gone -/
theorem HT_putd2 {n n' : Nat} {pre post : Store} {r id id' len len' : Nat} {us vs : List (List PV)} (hs : s = pre ++ ((tabObjs z xss).set r .dead ++ ((tabObjs z' yss).set r .dead ++ post))) (hb : pre.length = b) (hk : tabIx (envOf e t) = some k) (hk' : tabIx (envOf e t') = some k')
    (hkb : pre[k]? = some (.rows zk ((tabRows b lens).set r [.sl id 0 len]))) (hkb' : pre[k']? = some (.rows zk' ((tabRows (b + n) lens').set r [.sl id' 0 len'])))
    (hn : xss.length = n) (hn' : yss.length = n') (hr : r < n) (hr' : r < n') (hl : lens.length = n) (hl' : lens'.length = n')
    (hid : b + n + n' ≤ id) (hid' : b + n + n' ≤ id') (hne : id ≠ id') (hids : s[id]? = some (.rows z us)) (hids' : s[id']? = some (.rows z' vs))
    (hf : ∀ xs ∈ xss, ∀ row ∈ xs, row.all flatV = true) (hf' : ∀ xs ∈ yss, ∀ row ∈ xs, row.all flatV = true) (hfu : ∀ row ∈ us, row.all flatV = true) (hfv : ∀ row ∈ vs, row.all flatV = true)
    (hm : C.m ≤ b) (hg : grow s 64 (mrefs s C.m ++ refsL e L) (List.range C.m) = ρ0) (hρ : ∀ i ∈ ρ0, i < b)
    (h : q (liveE (ρ0 ++ ((List.range' b n).set r id ++ (List.range' (b + n) n').set r id')) e L) (liveK2 (ρ0 ++ ((List.range' b n).set r id ++ (List.range' (b + n) n').set r id')) s k (.rows zk (tabRows ρ0.length (lens.set r len))) k' (.rows zk' (tabRows (ρ0.length + n) (lens'.set r len'))) ρ0 ++ (tabObjs z (xss.set r us) ++ tabObjs z' (yss.set r vs)))) : HT C [(t, 0, z), (t', 0, z')] L e s q := by
  subst hn hn'
  have hk1 : s[k]? = some (.rows zk (rowsOf ((List.range' b xss.length).set r id) (lens.set r len))) := by
    rw [hs, List.getElem?_append_left (lt_of_getElem? hkb), hkb, tabRows_eq, hl, rowsOf_set]
  have hk2 : s[k']? = some (.rows zk' (rowsOf ((List.range' (b + xss.length) yss.length).set r id') (lens'.set r len'))) := by
    rw [hs, List.getElem?_append_left (lt_of_getElem? hkb'), hkb', tabRows_eq, hl', rowsOf_set]
  have hsl : s.length = b + xss.length + yss.length + post.length := by rw [hs]; simp; omega
  have hidl := lt_of_getElem? hids
  have hidl' := lt_of_getElem? hids'
  have hmem : ∀ i, i ∈ (List.range' b xss.length).set r id → (b ≤ i ∧ i < b + xss.length) ∨ i = id := by
    intro i hi
    rcases List.mem_or_eq_of_mem_set hi with hi | hi
    · rw [List.mem_range'_1] at hi; exact .inl hi
    · exact .inr hi
  have hmem' : ∀ i, i ∈ (List.range' (b + xss.length) yss.length).set r id' → (b + xss.length ≤ i ∧ i < b + xss.length + yss.length) ∨ i = id' := by
    intro i hi
    rcases List.mem_or_eq_of_mem_set hi with hi | hi
    · rw [List.mem_range'_1] at hi; exact .inl hi
    · exact .inr hi
  have hnd1 : ∀ b n id : Nat, b + n ≤ id → ((List.range' b n).set r id).Nodup := by
    intro b n id hid
    rw [List.nodup_iff_pairwise_ne, List.pairwise_iff_getElem]
    intro x y hx hy hxy
    simp only [List.length_set, List.length_range'] at hx hy
    rw [List.getElem_set, List.getElem_set, List.getElem_range', List.getElem_range']
    split <;> split <;> omega
  have hget : ∀ (b n id j i : Nat), ((List.range' b n).set r id)[j]? = some i → (j = r ∧ i = id) ∨ (j ≠ r ∧ i = b + j ∧ j < n) := by
    intro b n id j i h
    rw [List.getElem?_set] at h
    split at h
    · rename_i e
      split at h
      · cases h; exact .inl ⟨e.symm, rfl⟩
      · cases h
    · rename_i e
      obtain ⟨h1, h2⟩ := range'_get h
      exact .inr ⟨fun h => e h.symm, h1, h2⟩
  refine HT_core2 (xss := xss.set r us) (yss := yss.set r vs) (voidTs_rowsOf2 hk hk' hk1 hk2) hk hk' hk1 hk2 (by simp [hl]) (by simp [hl']) (by omega) hg ?_ ?_ ?_ (by simp) (by simp) ?_ ?_ ?_ ?_ (by simpa using h)
  · rw [List.nodup_append]
    refine ⟨hnd1 _ _ _ (by omega), hnd1 _ _ _ (by omega), fun a ha c hc => ?_⟩
    have := hmem a ha
    have := hmem' c hc
    omega
  · intro i hi hi2
    have := hρ i hi2
    rcases List.mem_append.1 hi with hi | hi
    · have := hmem i hi; omega
    · have := hmem' i hi; omega
  · intro i hi
    rcases List.mem_append.1 hi with hi | hi
    · have := hmem i hi; omega
    · have := hmem' i hi; omega
  · intro j i xs h1 h2
    rcases hget _ _ _ _ _ h1 with ⟨rfl, rfl⟩ | ⟨hj, rfl, hjl⟩
    · rw [List.getElem?_set, if_pos rfl, if_pos hr] at h2
      cases h2; exact hids
    · rw [List.getElem?_set, if_neg (fun e => hj e.symm)] at h2
      rw [hs, List.getElem?_append_right (by omega), hb, Nat.add_sub_cancel_left, List.getElem?_append_left (by simpa using hjl), List.getElem?_set, if_neg (fun e => hj e.symm), tabObjs_get, h2]; rfl
  · intro xs hx
    rcases List.mem_or_eq_of_mem_set hx with hx | rfl
    · exact hf xs hx
    · exact hfu
  · intro j i xs h1 h2
    rcases hget _ _ _ _ _ h1 with ⟨rfl, rfl⟩ | ⟨hj, rfl, hjl⟩
    · rw [List.getElem?_set, if_pos rfl, if_pos hr'] at h2
      cases h2; exact hids'
    · rw [List.getElem?_set, if_neg (fun e => hj e.symm)] at h2
      rw [hs, List.getElem?_append_right (by omega), hb, List.getElem?_append_right (by simp; omega), List.getElem?_append_left (by simp; omega), show b + xss.length + j - b - ((tabObjs z xss).set r PObj.dead).length = j by simp; omega, List.getElem?_set, if_neg (fun e => hj e.symm), tabObjs_get, h2]; rfl
  · intro xs hx
    rcases List.mem_or_eq_of_mem_set hx with hx | rfl
    · exact hf' xs hx
    · exact hfv
/-- two tables whose rows are nil -/
theorem HT_new2 {n n' : Nat} (hs : s.length = b) (hk : tabIx (envOf e t) = some k) (hk' : tabIx (envOf e t') = some k') (hne : k ≠ k') (hkb : s[k]? = some (.rows zk (List.replicate n [.nilsl]))) (hkb' : s[k']? = some (.rows zk' (List.replicate n' [.nilsl])))
    (hS : (s.set k (.rows zk (tabRows b (List.replicate n 0)))).set k' (.rows zk' (tabRows (b + n) (List.replicate n' 0))) ++ (tabObjs z (List.replicate n []) ++ tabObjs z' (List.replicate n' [])) = S)
    (hm : C.m ≤ b) (hg : grow S 64 (mrefs S C.m ++ refsL e L) (List.range C.m) = ρ0) (hρ : ∀ i ∈ ρ0, i < b)
    (h : q (liveE (ρ0 ++ (List.range' b n ++ List.range' (b + n) n')) e L) (liveK2 (ρ0 ++ (List.range' b n ++ List.range' (b + n) n')) S k (.rows zk (tabRows ρ0.length (List.replicate n 0))) k' (.rows zk' (tabRows (ρ0.length + n) (List.replicate n' 0))) ρ0 ++ (tabObjs z (List.replicate n []) ++ tabObjs z' (List.replicate n' [])))) : HT C [(t, 0, z), (t', 0, z')] L e s q := by
  have hlt := lt_of_getElem? hkb
  have hlt' := lt_of_getElem? hkb'
  have hv : voidTs e [(t, 0, z), (t', 0, z')] s = S := by
    simp only [voidTs, tabCell, hk, hk', voidT1, rowsAt, hkb]
    rw [List.length_replicate, voidT_new hkb n (Nat.le_refl _), hs]
    have h2 : (s.set k (.rows zk (tabRows b (List.replicate n 0) ++ List.replicate (n - n) [.nilsl])) ++ tabObjs z (List.replicate n []))[k']? = some (.rows zk' (List.replicate n' [.nilsl])) := by
      rw [List.getElem?_append_left (by simpa using hlt'), List.getElem?_set, if_neg hne, hkb']
    rw [h2]
    dsimp only
    rw [List.length_replicate, voidT_new h2 n' (Nat.le_refl _), ← hS]
    rw [List.set_append_left _ _ (by simpa using hlt')]
    simp [hs]
  have hSl : S.length = b + n + n' := by rw [← hS]; simp [hs]; omega
  have hk1 : S[k]? = some (.rows zk (rowsOf (List.range' b n) (List.replicate n 0))) := by
    rw [← hS, List.getElem?_append_left (by simpa using hlt), List.getElem?_set, if_neg (fun e => hne e.symm), List.getElem?_set, if_pos rfl, if_pos hlt, tabRows_eq]; simp
  have hk2 : S[k']? = some (.rows zk' (rowsOf (List.range' (b + n) n') (List.replicate n' 0))) := by
    rw [← hS, List.getElem?_append_left (by simpa using hlt'), List.getElem?_set, if_pos rfl, if_pos (by simpa using hlt'), tabRows_eq]; simp
  refine HT_core2 (xss := List.replicate n []) (yss := List.replicate n' []) hv hk hk' hk1 hk2 (by simp) (by simp) (by omega) hg ?_ ?_ ?_ (by simp) (by simp) ?_ ?_ ?_ ?_ (by simpa using h)
  · rw [List.nodup_append]
    refine ⟨List.nodup_range', List.nodup_range', fun a ha c hc => ?_⟩
    rw [List.mem_range'_1] at ha hc; omega
  · intro i hi hi2
    have := hρ i hi2
    rw [List.mem_append, List.mem_range'_1, List.mem_range'_1] at hi
    omega
  · intro i hi
    rw [List.mem_append, List.mem_range'_1, List.mem_range'_1] at hi
    omega
  · intro j i xs h1 h2
    obtain ⟨rfl, hj⟩ := range'_get h1
    rw [← hS, List.getElem?_append_right (by simp; omega), List.getElem?_append_left (by simp; omega), tabObjs_get]
    simp only [List.length_set, hs, Nat.add_sub_cancel_left, h2]; rfl
  · intro xs hx; rw [List.mem_replicate] at hx; rw [hx.2]; simp
  · intro j i xs h1 h2
    obtain ⟨rfl, hj⟩ := range'_get h1
    rw [← hS, List.getElem?_append_right (by simp; omega), List.getElem?_append_right (by simp; omega), tabObjs_get]
    simp only [List.length_set, hs, tabObjs_length, List.length_replicate, show b + n + j - b - n = j by omega, h2]; rfl
  · intro xs hx; rw [List.mem_replicate] at hx; rw [hx.2]; simp
end
/-- two tables that are told as plain data -/
theorem deref_two {n z z' b : Nat} {o1 o2 : PObj} {α β : Type} {g : α → List PV} {g' : β → List PV} [FlatRow g] [FlatRow g'] {T : List (List α)} {T' : List (List β)} (hb : 2 + T.length = b) :
    (tabRows 2 (T.map List.length)).map (List.map (deref (o1 :: o2 :: (tabObjs z (T.map (List.map g)) ++ tabObjs z' (T'.map (List.map g')))) (n + 1))) = (T.map fun xs => [.list (xs.map g)]) ∧
    (tabRows b (T'.map List.length)).map (List.map (deref (o1 :: o2 :: (tabObjs z (T.map (List.map g)) ++ tabObjs z' (T'.map (List.map g')))) (n + 1))) = T'.map fun xs => [.list (xs.map g')] := by
  constructor
  · have := deref_tab (n := n) (z := z) (pre := [o1, o2]) (post := tabObjs z' (T'.map (List.map g'))) 0 (xss := T.map (List.map g)) flat_tab 2 rfl
    simpa [Function.comp_def] using this
  · have := deref_tab (n := n) (z := z') (pre := o1 :: o2 :: tabObjs z (T.map (List.map g))) (post := []) 0 (xss := T'.map (List.map g')) flat_tab b (by simp; omega)
    simpa [Function.comp_def] using this
end Go.Pv
