import Derived.Test.YticchggapegnlaaAPvQg
import Derived.Test.YticchggapegnlaaAPvFz
import Derived.Test.YticchggapegnlaaChecked
set_option linter.unusedVariables false
set_option linter.unusedSimpArgs false
namespace Go.Pv
open Go
def tabRows : Nat → List Nat → List (List PV)
 | _,[] => []
 | b,l :: r => [.sl b 0 l] :: tabRows (b + 1) r
def tabObjs (z : Nat) (xss : List (List (List PV))) : Store := xss.map (PObj.rows z)
def rowsOf : List Nat → List Nat → List (List PV)
 | i :: r,l :: ls => [.sl i 0 l] :: rowsOf r ls
 | _,_ => []
theorem tabRows_eq (b : Nat) (ls : List Nat) : tabRows b ls = rowsOf (List.range' b ls.length) ls := by
 induction ls generalizing b with
 | nil => rfl
 | cons l r ih => rw [tabRows,ih,List.length_cons,List.range'_succ,rowsOf]
theorem rowsOf_set : ∀ (ids ls : List Nat) (r i l : Nat),(rowsOf ids ls).set r [.sl i 0 l] = rowsOf (ids.set r i) (ls.set r l)
 | [],ls,r,i,l => by rw [List.set_nil]; cases ls <;> rfl
 | a :: ids,[],r,i,l => by rw [List.set_nil]; cases r <;> rfl
 | a :: ids,b :: ls,0,i,l => rfl
 | a :: ids,b :: ls,r + 1,i,l => by
  show _ :: (rowsOf ids ls).set r _ = _ :: rowsOf (ids.set r i) (ls.set r l)
  rw [rowsOf_set]
@[simp] theorem tabRows_length {b : Nat} {ls : List Nat} : (tabRows b ls).length = ls.length := by
 induction ls generalizing b with
 | nil => rfl
 | cons l r ih => simp [tabRows,ih]
@[simp] theorem tabRows_get {b i : Nat} {ls : List Nat} : (tabRows b ls)[i]? = (ls[i]?).map fun l => [.sl (i + b) 0 l] := by
 induction ls generalizing b i with
 | nil => rfl
 | cons l r ih =>
  cases i with
  | zero => simp [tabRows]
  | succ i => simp only [tabRows,List.getElem?_cons_succ,ih]; rw [show i + (b + 1) = i + 1 + b by omega]
@[simp] theorem tabRows_getElem {b i : Nat} {ls : List Nat} (h : i < (tabRows b ls).length) : (tabRows b ls)[i] = [.sl (i + b) 0 (ls[i]'(by simpa using h))] := by
 have := tabRows_get (b := b) (i := i) (ls := ls)
 rw [List.getElem?_eq_getElem h,List.getElem?_eq_getElem (by simpa using h)] at this
 exact Option.some.inj this
@[simp] theorem tabObjs_length {z : Nat} {xss : List (List (List PV))} : (tabObjs z xss).length = xss.length := by simp [tabObjs]
@[simp] theorem tabObjs_get {z i : Nat} {xss : List (List (List PV))} : (tabObjs z xss)[i]? = (xss[i]?).map (PObj.rows z) := by simp [tabObjs]
@[simp] theorem tabObjs_getElem {z i : Nat} {xss : List (List (List PV))} (h : i < (tabObjs z xss).length) : (tabObjs z xss)[i] = .rows z (xss[i]'(by simpa using h)) := by simp [tabObjs]
@[simp] theorem tabObjs_set {z i : Nat} {xss : List (List (List PV))} {xs : List (List PV)} : (tabObjs z xss).set i (.rows z xs) = tabObjs z (xss.set i xs) := by simp [tabObjs,List.map_set]
theorem tabRows_snoc (b : Nat) (ls : List Nat) (l : Nat) : tabRows b (ls ++ [l]) = tabRows b ls ++ [[.sl (b + ls.length) 0 l]] := by
 induction ls generalizing b with
 | nil => rfl
 | cons a r ih => simp only [List.cons_append,tabRows,ih,List.length_cons]; rw [show b + 1 + r.length = b + (r.length + 1) by omega]
theorem tabObjs_snoc (z : Nat) (xss : List (List (List PV))) (xs : List (List PV)) : tabObjs z (xss ++ [xs]) = tabObjs z xss ++ [.rows z xs] := by simp [tabObjs]
theorem grow_ids {s : Store} : ∀ (n : Nat) (ids acc : List Nat),ids.length ≤ n → ids.Nodup → (∀ i ∈ ids,i ∉ acc) → (∀ i ∈ ids,i < s.length) → grow s n (ids.map fun i => (i,false)) acc = acc ++ ids
 | 0,ids,acc,h,_,_,_ => by
  have : ids = [] := List.length_eq_zero_iff.1 (by omega)
  subst this; simp [grow]
 | n + 1,[],acc,_,_,_,_ => by simp [grow]
 | n + 1,i :: ids,acc,h,hn,hd,hi => by
  rw [List.nodup_cons] at hn
  simp only [List.map_cons]
  unfold grow
  rw [if_neg (hd i (by simp)),if_pos (hi i (by simp)),if_neg (by simp),grow_ids n ids (acc ++ [i]) (by simp at h; omega) hn.2 ?_ (fun j hj => hi j (by simp [hj]))]
  ·simp
  ·intro j hj
   rw [List.mem_append,not_or]
   refine ⟨hd j (by simp [hj]),?_⟩
   simp only [List.mem_cons,List.not_mem_nil,or_false]
   rintro rfl
   exact hn.1 hj
theorem tabRefs_rowsOf : ∀ (ids lens : List Nat),lens.length = ids.length → tabRefs (rowsOf ids lens) = ids.map fun i => (i,false)
 | [],[],_ => rfl
 | [],_ :: _,h => by simp at h
 | _ :: _,[],h => by simp at h
 | i :: ids,l :: lens,h => by
  have := tabRefs_rowsOf ids lens (by simpa using h)
  simp only [rowsOf,tabRefs,List.flatMap_cons] at this ⊢
  rw [this]; simp [refsN]
theorem posn_append : ∀ (ρ ids : List Nat) (i k : Nat),i ∉ ρ → posn i (ρ ++ ids) k = posn i ids (k + ρ.length)
 | [],ids,i,k,_ => rfl
 | a :: ρ,ids,i,k,h => by
  simp only [List.mem_cons,not_or] at h
  simp only [List.cons_append,posn]
  rw [if_neg (fun e => h.1 e.symm),posn_append ρ ids i (k + 1) h.2]
  simp only [List.length_cons]
  congr 1; omega
theorem ren_rowsOf : ∀ (ids lens : List Nat) (ρ : List Nat),lens.length = ids.length → (∀ i ∈ ids,i ∉ ρ) → ids.Nodup →
  ∀ (pre : List Nat),(∀ i ∈ ids,i ∉ pre) → (rowsOf ids lens).map (List.map (renN (ρ ++ (pre ++ ids)) 4)) = tabRows (ρ.length + pre.length) lens
 | [],[],ρ,_,_,_,pre,_ => rfl
 | [],_ :: _,_,h,_,_,_,_ => by simp at h
 | _ :: _,[],_,h,_,_,_,_ => by simp at h
 | i :: ids,l :: lens,ρ,h,hd,hn,pre,hp => by
  rw [List.nodup_cons] at hn
  have e : pre ++ i :: ids = (pre ++ [i]) ++ ids := by simp
  have ih := ren_rowsOf ids lens ρ (by simpa using h) (fun j hj => hd j (by simp [hj])) hn.2 (pre ++ [i]) (fun j hj => by
   rw [List.mem_append,not_or]
   refine ⟨hp j (by simp [hj]),?_⟩
   simp only [List.mem_cons,List.not_mem_nil,or_false]
   rintro rfl; exact hn.1 hj)
  simp only [rowsOf,tabRows,List.map_cons,List.map_nil]
  rw [e,ih]
  congr 1
  ·have : posn i (ρ ++ (pre ++ i :: ids)) 0 = some (ρ.length + pre.length) := by
    rw [posn_append _ _ _ _ (hd i (by simp)),posn_append _ _ _ _ (hp i (by simp))]
    simp [posn]
   simp [renN,ren0,this]
  ·simp [Nat.add_assoc]
theorem liveS_append (ρ : List Nat) (s : Store) : ∀ a b : List Nat,liveS ρ s (a ++ b) = liveS ρ s a ++ liveS ρ s b
 | [],b => rfl
 | i :: a,b => by rw [List.cons_append,liveS_cons,liveS_cons,liveS_append ρ s a b,List.cons_append]
theorem renObj_flat {ρ : List Nat} {z : Nat} {xs : List (List PV)} (h : ∀ row ∈ xs,row.all flatV = true) : renObj ρ (.rows z xs) = .rows z xs := by
 show PObj.rows z (xs.map (List.map (renN ρ 4))) = _
 congr 1
 exact (List.map_congr_left fun row hr => map_id_of (fun v => flat_ren) (h row hr)).trans (List.map_id _)
theorem liveS_tab {ρ : List Nat} {S : Store} {z : Nat} : ∀ (ids : List Nat) (xss : List (List (List PV))),ids.length = xss.length → (∀ (j i : Nat) (xs : List (List PV)),ids[j]? = some i → xss[j]? = some xs → S[i]? = some (.rows z xs)) → (∀ xs ∈ xss,∀ row ∈ xs,row.all flatV = true) → liveS ρ S ids = tabObjs z xss
 | [],[],_,_,_ => rfl
 | [],_ :: _,h,_,_ => by simp at h
 | _ :: _,[],h,_,_ => by simp at h
 | i :: ids,xs :: xss,h,g,hf => by
  rw [liveS_cons,g 0 i xs rfl rfl,liveS_tab ids xss (by simpa using h) (fun j i' xs' h1 h2 => g (j + 1) i' xs' (by simpa using h1) (by simpa using h2)) (fun y hy => hf y (by simp [hy]))]
  rw [Option.getD_some,renObj_flat (hf xs (by simp))]; rfl
def liveK (ρ : List Nat) (s : Store) (k : Nat) (o : PObj) : List Nat → Store
 | [] => []
 | i :: r => (if i = k then o else renObj ρ ((s[i]?).getD .dead)) :: liveK ρ s k o r
theorem liveK_eq {ρ : List Nat} {s : Store} {k : Nat} {o : PObj} (h : renObj ρ ((s[k]?).getD .dead) = o) : ∀ r,liveS ρ s r = liveK ρ s k o r
 | [] => rfl
 | i :: r => by
  rw [liveS_cons,liveK,liveK_eq h r]
  by_cases e : i = k
  ·subst e; rw [if_pos rfl,h]
  ·rw [if_neg e]
@[simp] theorem liveK_nil {ρ : List Nat} {s : Store} {k : Nat} {o : PObj} : liveK ρ s k o [] = [] := rfl
@[simp] theorem liveK_cons {ρ r : List Nat} {s : Store} {k i : Nat} {o : PObj} : liveK ρ s k o (i :: r) = (if i = k then o else renObj ρ ((s[i]?).getD .dead)) :: liveK ρ s k o r := rfl
section
variable {C : WC} {e : AE} {s S : Store} {q : AE → Store → Prop} {t c z k zk b : Nat} {L ids lens ρ0 : List Nat} {xss : List (List (List PV))}
theorem HT_core (hs : voidTs e [(t,c,z)] s = S) (hk : tabIx (tabCell S c (envOf e t)) = some k) (hr : S[k]? = some (.rows zk (rowsOf ids lens))) (hlen : lens.length = ids.length) (hm : C.m ≤ S.length)
  (hg : grow S 64 (mrefs S C.m ++ refsL e L) (List.range C.m) = ρ0) (hnd : ids.Nodup) (hdis : ∀ i ∈ ids,i ∉ ρ0) (hin : ∀ i ∈ ids,i < S.length) (hxl : ids.length = xss.length)
  (hx : ∀ (j i : Nat) (xs : List (List PV)),ids[j]? = some i → xss[j]? = some xs → S[i]? = some (.rows z xs)) (hf : ∀ xs ∈ xss,∀ row ∈ xs,row.all flatV = true)
  (h : q (liveE (ρ0 ++ ids) e L) (liveK (ρ0 ++ ids) S k (.rows zk (tabRows ρ0.length lens)) ρ0 ++ tabObjs z xss)) : HT C [(t,c,z)] L e s q := by
 have h1 : ∀ L : List Nat,(L.flatMap fun t => refsN 4 (envOf e t)) = refsL e L := by
  intro L; induction L with
  | nil => rfl
  | cons t r ih => rw [List.flatMap_cons,ih]; rfl
 have h2 : ∀ (ρ L : List Nat),(L.map fun t => (t,renN ρ 4 (envOf e t))) = liveE ρ e L := by
  intro ρ L; induction L with
  | nil => rfl
  | cons t r ih => rw [List.map_cons,ih]; rfl
 have h3 : ∀ (ρ L : List Nat),(L.map fun i => renObj ρ ((S[i]?).getD .dead)) = liveS ρ S L := by
  intro ρ L; induction L with
  | nil => rfl
  | cons t r ih => rw [List.map_cons,ih]; rfl
 unfold HT withGc voids
 dsimp only
 rw [hs]
 refine ⟨hm,?_⟩
 unfold gcStep
 rw [h1,hg]
 have hgT : growT S e [(t,c,z)] ρ0 = ρ0 ++ ids := by
  simp only [growT]
  rw [hk]
  simp only [growT1,rowsAt,hr]
  rw [tabRefs_rowsOf ids lens hlen]
  exact grow_ids _ ids ρ0 (by simp) hnd hdis hin
 rw [hgT,h2,h3,liveS_append,liveS_tab ids xss hxl hx hf,liveK_eq (k := k) (o := .rows zk (tabRows ρ0.length lens))]
 ·exact h
 ·rw [hr,Option.getD_some]
  show PObj.rows zk ((rowsOf ids lens).map (List.map (renN (ρ0 ++ ids) 4))) = _
  have := ren_rowsOf ids lens ρ0 hlen hdis hnd [] (fun _ _ h => by cases h)
  simp only [List.nil_append,List.length_nil,Nat.add_zero] at this
  rw [this]
theorem voidAt_none {z k r : Nat} {s : Store} {zk : Nat} {rows : List (List PV)} (hk : s[k]? = some (.rows zk rows)) (h : ∀ row,rows[r]? = some (.nilsl :: row) → False) : voidAt z k r s = s := by
 unfold voidAt
 rw [hk]
 dsimp only
 split
 ·rename_i row hr; exact (h row hr).elim
 ·rfl
theorem voidT_none {z k : Nat} {s : Store} {zk : Nat} {rows : List (List PV)} (hk : s[k]? = some (.rows zk rows)) (h : ∀ (r : Nat) row,rows[r]? = some (.nilsl :: row) → False) : ∀ r,voidT z k r s = s
 | 0 => rfl
 | r + 1 => by rw [voidT,voidT_none hk h r,voidAt_none hk (h r)]
theorem rowsOf_nonil : ∀ (ids lens : List Nat) (r : Nat) (row : List PV),(rowsOf ids lens)[r]? = some (.nilsl :: row) → False
 | [],ls,r,row,h => by cases ls <;> simp [rowsOf] at h
 | _ :: _,[],r,row,h => by simp [rowsOf] at h
 | i :: ids,l :: ls,0,row,h => by simp [rowsOf] at h
 | i :: ids,l :: ls,r + 1,row,h => rowsOf_nonil ids ls r row (by simpa [rowsOf] using h)
theorem voidTs_rowsOf {ids lens : List Nat} (hk : tabIx (tabCell s c (envOf e t)) = some k) (hr : s[k]? = some (.rows zk (rowsOf ids lens))) : voidTs e [(t,c,z)] s = s := by
 simp only [voidTs,hk,voidT1]
 exact voidT_none hr (fun r row h => rowsOf_nonil ids lens r row h) _
theorem HT_keep {pre post : Store} (hs : s = pre ++ (tabObjs z xss ++ post)) (hb : pre.length = b) (hk : tabIx (tabCell s c (envOf e t)) = some k) (hkb : pre[k]? = some (.rows zk (tabRows b lens))) (hl : lens.length = xss.length)
  (hf : ∀ xs ∈ xss,∀ row ∈ xs,row.all flatV = true) (hm : C.m ≤ b) (hg : grow s 64 (mrefs s C.m ++ refsL e L) (List.range C.m) = ρ0) (hρ : ∀ i ∈ ρ0,i < b ∨ b + xss.length ≤ i)
  (h : q (liveE (ρ0 ++ List.range' b xss.length) e L) (liveK (ρ0 ++ List.range' b xss.length) s k (.rows zk (tabRows ρ0.length lens)) ρ0 ++ tabObjs z xss)) : HT C [(t,c,z)] L e s q := by
 have hk1 : s[k]? = some (.rows zk (rowsOf (List.range' b xss.length) lens)) := by
  rw [hs,List.getElem?_append_left (lt_of_getElem? hkb),hkb,tabRows_eq,hl]
 refine HT_core (voidTs_rowsOf hk hk1) hk hk1 (by simp [hl]) ?_ hg List.nodup_range' ?_ ?_ (by simp) ?_ hf h
 ·rw [hs]; simp; omega
 ·intro i hi hi2
  rw [List.mem_range'_1] at hi
  have := hρ i hi2
  omega
 ·intro i hi
  rw [List.mem_range'_1] at hi
  rw [hs]; simp; omega
 ·intro j i xs h1 h2
  rw [List.getElem?_eq_some_iff] at h1
  obtain ⟨hj,h1⟩ := h1
  rw [List.getElem_range'] at h1
  simp only [List.length_range'] at hj
  have : i = b + j := by omega
  subst this
  rw [hs,List.getElem?_append_right (by omega),hb,Nat.add_sub_cancel_left,List.getElem?_append_left (by simpa using hj),tabObjs_get,h2]; rfl
theorem HT_put {pre tl post : Store} {r id len : Nat} {ys : List (List PV)} (hs : s = pre ++ (tl ++ post)) (hb : pre.length = b) (htl : tl.length = xss.length) (hr : r < xss.length)
  (htl' : ∀ (j : Nat),j ≠ r → tl[j]? = (xss[j]?).map (PObj.rows z)) (hk : tabIx (tabCell s c (envOf e t)) = some k) (hkb : pre[k]? = some (.rows zk ((tabRows b lens).set r [.sl id 0 len]))) (hl : lens.length = xss.length)
  (hid : b + xss.length ≤ id) (hids : s[id]? = some (.rows z ys)) (hf : ∀ xs ∈ xss,∀ row ∈ xs,row.all flatV = true) (hfy : ∀ row ∈ ys,row.all flatV = true)
  (hm : C.m ≤ b) (hg : grow s 64 (mrefs s C.m ++ refsL e L) (List.range C.m) = ρ0) (hρ : ∀ i ∈ ρ0,(i < b ∨ b + xss.length ≤ i) ∧ i ≠ id)
  (h : q (liveE (ρ0 ++ (List.range' b xss.length).set r id) e L) (liveK (ρ0 ++ (List.range' b xss.length).set r id) s k (.rows zk (tabRows ρ0.length (lens.set r len))) ρ0 ++ tabObjs z (xss.set r ys))) : HT C [(t,c,z)] L e s q := by
 have hk1 : s[k]? = some (.rows zk (rowsOf ((List.range' b xss.length).set r id) (lens.set r len))) := by
  rw [hs,List.getElem?_append_left (lt_of_getElem? hkb),hkb,tabRows_eq,hl,rowsOf_set]
 have hmem : ∀ i,i ∈ (List.range' b xss.length).set r id → (b ≤ i ∧ i < b + xss.length) ∨ i = id := by
  intro i hi
  rcases List.mem_or_eq_of_mem_set hi with hi | hi
  ·rw [List.mem_range'_1] at hi; exact .inl hi
  ·exact .inr hi
 have hidl := lt_of_getElem? hids
 refine HT_core (voidTs_rowsOf hk hk1) hk hk1 (by simp [hl]) ?_ hg ?_ ?_ ?_ (by simp) ?_ ?_ h
 ·rw [hs]; simp; omega
 ·rw [List.nodup_iff_pairwise_ne,List.pairwise_iff_getElem]
  intro x y hx hy hxy
  simp only [List.length_set,List.length_range'] at hx hy
  rw [List.getElem_set,List.getElem_set,List.getElem_range',List.getElem_range']
  split <;> split <;> omega
 ·intro i hi hi2
  have := hρ i hi2
  have := hmem i hi
  omega
 ·intro i hi
  rcases hmem i hi with h | rfl
  ·rw [hs]; simp; omega
  ·exact hidl
 ·intro j i xs h1 h2
  rw [List.getElem?_eq_some_iff] at h1
  obtain ⟨hj,h1⟩ := h1
  simp only [List.length_set,List.length_range'] at hj
  rw [List.getElem_set,List.getElem_range'] at h1
  rw [List.getElem?_set] at h2
  split at h1
  ·rename_i e1
   subst e1 h1
   rw [if_pos rfl,if_pos hr] at h2
   cases h2; exact hids
  ·rename_i e1
   rw [if_neg e1] at h2
   have : i = b + j := by omega
   subst this
   rw [hs,List.getElem?_append_right (by omega),hb,Nat.add_sub_cancel_left,List.getElem?_append_left (by omega),htl' j (fun e => e1 e.symm),h2]; rfl
 ·intro xs hx
  rcases List.mem_or_eq_of_mem_set hx with hx | rfl
  ·exact hf xs hx
  ·exact hfy
theorem voidT_new {zk n : Nat} (hk : s[k]? = some (.rows zk (List.replicate n [.nilsl]))) : ∀ r,r ≤ n → voidT z k r s = s.set k (.rows zk (tabRows s.length (List.replicate r 0) ++ List.replicate (n - r) [.nilsl])) ++ tabObjs z (List.replicate r [])
 | 0,_ => by
  have hlt := lt_of_getElem? hk
  have : s.set k (.rows zk (List.replicate n [PV.nilsl])) = s := by
   apply List.ext_getElem? ; intro i
   rw [List.getElem?_set]; split
   ·rename_i e; subst e; first | exact hk.symm | (rw [if_pos hlt]; exact hk.symm)
   ·rfl
  show s = _
  simp [tabRows,tabObjs,this]
 | r + 1,h => by
  have hlt := lt_of_getElem? hk
  rw [voidT,voidT_new hk r (by omega)]
  have hkk : (s.set k (.rows zk (tabRows s.length (List.replicate r 0) ++ List.replicate (n - r) [.nilsl])) ++ tabObjs z (List.replicate r []))[k]? = some (.rows zk (tabRows s.length (List.replicate r 0) ++ List.replicate (n - r) [.nilsl])) := by
   rw [List.getElem?_append_left (by simpa using hlt),List.getElem?_set,if_pos rfl,if_pos hlt]
  obtain ⟨d,hd⟩ : ∃ d,n - r = d + 1 := ⟨n - r - 1,by omega⟩
  have hrr : (tabRows s.length (List.replicate r 0) ++ List.replicate (n - r) [PV.nilsl])[r]? = some [PV.nilsl] := by
   rw [List.getElem?_append_right (by simp),hd]; simp [List.replicate_succ]
  unfold voidAt
  rw [hkk]
  dsimp only
  rw [hrr]
  dsimp only
  rw [show n - (r + 1) = d by omega,hd,List.replicate_succ' (n := r) (a := (0 : Nat)),tabRows_snoc,tabObjs_snoc_rep]
  rw [List.set_append_left _ _ (by simpa using hlt),List.set_set,← List.append_assoc]
  congr 3
  rw [List.set_append_right _ _ (by simp)]
  simp only [tabRows_length,List.length_replicate,Nat.sub_self,List.length_append,List.length_set,tabObjs_length,List.replicate_succ,List.set_cons_zero,List.append_assoc,List.cons_append,List.nil_append]
where
 tabObjs_snoc_rep {z r : Nat} : tabObjs z (List.replicate (r + 1) []) = tabObjs z (List.replicate r []) ++ [.rows z []] := by
  rw [List.replicate_succ',tabObjs_snoc]
theorem HT_new {zk n : Nat} (hs : s.length = b) (hk : tabIx (tabCell s c (envOf e t)) = some k) (hkb : s[k]? = some (.rows zk (List.replicate n [.nilsl])))
  (hS : s.set k (.rows zk (tabRows b (List.replicate n 0))) ++ tabObjs z (List.replicate n []) = S) (hk2 : tabIx (tabCell S c (envOf e t)) = some k)
  (hm : C.m ≤ b) (hg : grow S 64 (mrefs S C.m ++ refsL e L) (List.range C.m) = ρ0) (hρ : ∀ i ∈ ρ0,i < b)
  (h : q (liveE (ρ0 ++ List.range' b n) e L) (liveK (ρ0 ++ List.range' b n) S k (.rows zk (tabRows ρ0.length (List.replicate n 0))) ρ0 ++ tabObjs z (List.replicate n []))) : HT C [(t,c,z)] L e s q := by
 have hlt := lt_of_getElem? hkb
 have hv : voidTs e [(t,c,z)] s = S := by
  simp only [voidTs,hk,voidT1,rowsAt,hkb]
  rw [List.length_replicate,voidT_new hkb n (Nat.le_refl _),hs,← hS]; simp
 have hk1 : S[k]? = some (.rows zk (rowsOf (List.range' b n) (List.replicate n 0))) := by
  rw [← hS,List.getElem?_append_left (by simpa using hlt),List.getElem?_set,if_pos rfl,if_pos hlt,tabRows_eq]; simp
 have hSl : S.length = b + n := by rw [← hS]; simp [hs]
 refine HT_core (xss := List.replicate n []) hv hk2 hk1 (by simp) (by omega) hg List.nodup_range' ?_ ?_ (by simp) ?_ ?_ h
 ·intro i hi hi2
  rw [List.mem_range'_1] at hi
  have := hρ i hi2
  omega
 ·intro i hi
  rw [List.mem_range'_1] at hi
  omega
 ·intro j i xs h1 h2
  rw [List.getElem?_eq_some_iff] at h1
  obtain ⟨hj,h1⟩ := h1
  rw [List.getElem_range'] at h1
  have : i = b + j := by omega
  subst this
  rw [← hS,List.getElem?_append_right (by simp; omega),tabObjs_get]
  simp only [List.length_set,hs,Nat.add_sub_cancel_left,h2]; rfl
 ·intro xs hx
  rw [List.mem_replicate] at hx
  rw [hx.2]; simp
theorem HT_keep0 {pre : Store} (hs : s = pre ++ tabObjs z xss) (hb : pre.length = b) (hk : tabIx (tabCell s c (envOf e t)) = some k) (hkb : pre[k]? = some (.rows zk (tabRows b lens))) (hl : lens.length = xss.length)
  (hf : ∀ xs ∈ xss,∀ row ∈ xs,row.all flatV = true) (hm : C.m ≤ b) (hg : grow s 64 (mrefs s C.m ++ refsL e L) (List.range C.m) = ρ0) (hρ : ∀ i ∈ ρ0,i < b ∨ b + xss.length ≤ i)
  (h : q (liveE (ρ0 ++ List.range' b xss.length) e L) (liveK (ρ0 ++ List.range' b xss.length) s k (.rows zk (tabRows ρ0.length lens)) ρ0 ++ tabObjs z xss)) : HT C [(t,c,z)] L e s q :=
 HT_keep (post := []) (by rw [List.append_nil]; exact hs) hb hk hkb hl hf hm hg hρ h
theorem HT_put0 {pre post : Store} {r id len : Nat} {ys : List (List PV)} (hs : s = pre ++ (tabObjs z xss ++ post)) (hb : pre.length = b) (hk : tabIx (tabCell s c (envOf e t)) = some k) (hkb : pre[k]? = some (.rows zk ((tabRows b lens).set r [.sl id 0 len]))) (hr : r < xss.length) (hl : lens.length = xss.length)
  (hid : b + xss.length ≤ id) (hids : s[id]? = some (.rows z ys)) (hf : ∀ xs ∈ xss,∀ row ∈ xs,row.all flatV = true) (hfy : ∀ row ∈ ys,row.all flatV = true)
  (hm : C.m ≤ b) (hg : grow s 64 (mrefs s C.m ++ refsL e L) (List.range C.m) = ρ0) (hρ : ∀ i ∈ ρ0,(i < b ∨ b + xss.length ≤ i) ∧ i ≠ id)
  (h : q (liveE (ρ0 ++ (List.range' b xss.length).set r id) e L) (liveK (ρ0 ++ (List.range' b xss.length).set r id) s k (.rows zk (tabRows ρ0.length (lens.set r len))) ρ0 ++ tabObjs z (xss.set r ys))) : HT C [(t,c,z)] L e s q :=
 HT_put hs hb (by simp) hr (fun j hj => by simp) hk hkb hl hid hids hf hfy hm hg hρ h
end
theorem flat_rows {α : Type} {g : α → List PV} [FlatRow g] {T : List α} : ∀ row ∈ T.map g,row.all flatV = true := by
 intro row hr
 rw [List.mem_map] at hr
 obtain ⟨a,_,rfl⟩ := hr
 exact FlatRow.flat a
theorem flat_tab {α : Type} {g : α → List PV} [FlatRow g] {T : List (List α)} : ∀ xs ∈ T.map (List.map g),∀ row ∈ xs,row.all flatV = true := by
 intro xs hx row hr
 rw [List.mem_map] at hx
 obtain ⟨l,_,rfl⟩ := hx
 rw [List.mem_map] at hr
 obtain ⟨a,_,rfl⟩ := hr
 exact FlatRow.flat a
attribute [simp] List.set_append_left List.set_append_right
theorem deref_tab {n z : Nat} {pre post : Store} (f : Nat) {xss : List (List (List PV))} (hf : ∀ xs ∈ xss,∀ row ∈ xs,row.all flatV = true) : ∀ (b : Nat) (hp : pre.length = b),
  (tabRows b (xss.map List.length)).map (List.map (deref (pre ++ (tabObjs z xss ++ post)) (n + 1))) = xss.map fun xs => [.list xs] := by
 induction xss generalizing pre with
 | nil => intro b hp; rfl
 | cons xs r ih =>
  intro b hp
  simp only [List.map_cons,tabRows,List.map_nil]
  have h0 : (pre ++ (tabObjs z (xs :: r) ++ post))[b]? = some (.rows z xs) := by
   rw [List.getElem?_append_right (by omega),hp,Nat.sub_self]; rfl
  have e : pre ++ (tabObjs z (xs :: r) ++ post) = (pre ++ [.rows z xs]) ++ (tabObjs z r ++ post) := by simp [tabObjs]
  congr 1
  ·simp only [deref,h0,Nat.zero_add,Nat.le_refl,if_true,List.drop_zero,List.take_length]
   congr 2
   exact (List.map_congr_left fun row hr => map_id_of (fun v => flat_deref) (hf xs (by simp) row hr)).trans (List.map_id _)
  ·rw [e]
   exact ih (fun y hy => hf y (by simp [hy])) (b + 1) (by simp [hp])
theorem deref_tab1 {n z : Nat} {o0 : PObj} {xss : List (List (List PV))} (hf : ∀ xs ∈ xss,∀ row ∈ xs,row.all flatV = true) : (tabRows 1 (xss.map List.length)).map (List.map (deref (o0 :: tabObjs z xss) (n + 1))) = xss.map fun xs => [.list xs] := by
 have := deref_tab (n := n) (z := z) (pre := [o0]) (post := []) 0 hf 1 rfl
 simpa using this
theorem deref_tab1' {n z : Nat} {o0 : PObj} {α : Type} {g : α → List PV} [FlatRow g] {T : List (List α)} : (tabRows 1 (T.map List.length)).map (List.map (deref (o0 :: tabObjs z (T.map (List.map g))) (n + 1))) = T.map fun xs => [.list (xs.map g)] := by
 have := deref_tab1 (n := n) (z := z) (o0 := o0) (xss := T.map (List.map g)) flat_tab
 simpa [Function.comp_def] using this
end Go.Pv
namespace Go.Proofs.Yticchggapegnlaa
open Go Go.Pv
theorem ty1 : tinfo Try.prog 1 = some ⟨1,false,(some [.nilfn]),.fn,none⟩ := by kernel_rfl
theorem zo1 : zeroOf Try.prog 1 = (some [.nilfn]) := by kernel_rfl
instance : TyT Try.prog 1 ⟨1,false,(some [.nilfn]),.fn,none⟩ := ⟨ty1⟩
instance : ZoT Try.prog 1 (some [.nilfn]) := ⟨zo1⟩
theorem ty2 : tinfo Try.prog 2 = some ⟨1,false,(some [.int .i64 0]),.int .i64,none⟩ := by kernel_rfl
theorem zo2 : zeroOf Try.prog 2 = (some [.int .i64 0]) := by kernel_rfl
instance : TyT Try.prog 2 ⟨1,false,(some [.int .i64 0]),.int .i64,none⟩ := ⟨ty2⟩
instance : ZoT Try.prog 2 (some [.int .i64 0]) := ⟨zo2⟩
theorem ty3 : tinfo Try.prog 3 = some ⟨1,false,(some [.int .i64 0]),.int .i64,none⟩ := by kernel_rfl
theorem zo3 : zeroOf Try.prog 3 = (some [.int .i64 0]) := by kernel_rfl
instance : TyT Try.prog 3 ⟨1,false,(some [.int .i64 0]),.int .i64,none⟩ := ⟨ty3⟩
instance : ZoT Try.prog 3 (some [.int .i64 0]) := ⟨zo3⟩
theorem ty4 : tinfo Try.prog 4 = some ⟨1,false,(some [.bool false]),.bool,none⟩ := by kernel_rfl
theorem zo4 : zeroOf Try.prog 4 = (some [.bool false]) := by kernel_rfl
instance : TyT Try.prog 4 ⟨1,false,(some [.bool false]),.bool,none⟩ := ⟨ty4⟩
instance : ZoT Try.prog 4 (some [.bool false]) := ⟨zo4⟩
theorem ty5 : tinfo Try.prog 5 = some ⟨1,false,(some [.int .u8 0]),.int .u8,none⟩ := by kernel_rfl
theorem zo5 : zeroOf Try.prog 5 = (some [.int .u8 0]) := by kernel_rfl
instance : TyT Try.prog 5 ⟨1,false,(some [.int .u8 0]),.int .u8,none⟩ := ⟨ty5⟩
instance : ZoT Try.prog 5 (some [.int .u8 0]) := ⟨zo5⟩
theorem ty9 : tinfo Try.prog 9 = some ⟨1,false,(some [.str ⟨#[]⟩]),.string,none⟩ := by kernel_rfl
theorem zo9 : zeroOf Try.prog 9 = (some [.str ⟨#[]⟩]) := by kernel_rfl
instance : TyT Try.prog 9 ⟨1,false,(some [.str ⟨#[]⟩]),.string,none⟩ := ⟨ty9⟩
instance : ZoT Try.prog 9 (some [.str ⟨#[]⟩]) := ⟨zo9⟩
theorem ty12 : tinfo Try.prog 12 = some ⟨1,false,(some [.int .u64 0]),.int .u64,none⟩ := by kernel_rfl
theorem zo12 : zeroOf Try.prog 12 = (some [.int .u64 0]) := by kernel_rfl
instance : TyT Try.prog 12 ⟨1,false,(some [.int .u64 0]),.int .u64,none⟩ := ⟨ty12⟩
instance : ZoT Try.prog 12 (some [.int .u64 0]) := ⟨zo12⟩
theorem ty21 : tinfo Try.prog 21 = some ⟨1,false,(some [.int .i32 0]),.int .i32,none⟩ := by kernel_rfl
theorem zo21 : zeroOf Try.prog 21 = (some [.int .i32 0]) := by kernel_rfl
instance : TyT Try.prog 21 ⟨1,false,(some [.int .i32 0]),.int .i32,none⟩ := ⟨ty21⟩
instance : ZoT Try.prog 21 (some [.int .i32 0]) := ⟨zo21⟩
theorem ty22 : tinfo Try.prog 22 = some ⟨1,false,(some [.nilsl]),.slice 32 2 16 true (some [.int .i64 0,.int .i64 0]),none⟩ := by kernel_rfl
theorem zo22 : zeroOf Try.prog 22 = (some [.nilsl]) := by kernel_rfl
instance : TyT Try.prog 22 ⟨1,false,(some [.nilsl]),.slice 32 2 16 true (some [.int .i64 0,.int .i64 0]),none⟩ := ⟨ty22⟩
instance : ZoT Try.prog 22 (some [.nilsl]) := ⟨zo22⟩
theorem ty23 : tinfo Try.prog 23 = some ⟨1,false,(some [.nilsl]),.slice 62 1 24 false (some [.nilsl]),none⟩ := by kernel_rfl
theorem zo23 : zeroOf Try.prog 23 = (some [.nilsl]) := by kernel_rfl
instance : TyT Try.prog 23 ⟨1,false,(some [.nilsl]),.slice 62 1 24 false (some [.nilsl]),none⟩ := ⟨ty23⟩
instance : ZoT Try.prog 23 (some [.nilsl]) := ⟨zo23⟩
theorem ty24 : tinfo Try.prog 24 = some ⟨3,true,(some [.int .i64 0,.nilsl,.nilsl]),.struct [(0,3,1,false),(1,22,1,false),(2,23,1,false)],(some [(0,.int .i64),(1,.other),(2,.other)])⟩ := by kernel_rfl
theorem zo24 : zeroOf Try.prog 24 = (some [.int .i64 0,.nilsl,.nilsl]) := by kernel_rfl
instance : TyT Try.prog 24 ⟨3,true,(some [.int .i64 0,.nilsl,.nilsl]),.struct [(0,3,1,false),(1,22,1,false),(2,23,1,false)],(some [(0,.int .i64),(1,.other),(2,.other)])⟩ := ⟨ty24⟩
instance : ZoT Try.prog 24 (some [.int .i64 0,.nilsl,.nilsl]) := ⟨zo24⟩
theorem ty25 : tinfo Try.prog 25 = some ⟨3,true,(some [.int .i64 0,.nilsl,.nilsl]),.struct [(0,3,1,false),(1,22,1,false),(2,23,1,false)],(some [(0,.int .i64),(1,.other),(2,.other)])⟩ := by kernel_rfl
theorem zo25 : zeroOf Try.prog 25 = (some [.int .i64 0,.nilsl,.nilsl]) := by kernel_rfl
instance : TyT Try.prog 25 ⟨3,true,(some [.int .i64 0,.nilsl,.nilsl]),.struct [(0,3,1,false),(1,22,1,false),(2,23,1,false)],(some [(0,.int .i64),(1,.other),(2,.other)])⟩ := ⟨ty25⟩
instance : ZoT Try.prog 25 (some [.int .i64 0,.nilsl,.nilsl]) := ⟨zo25⟩
theorem ty26 : tinfo Try.prog 26 = some ⟨1,false,(some [.nilfn]),.fn,none⟩ := by kernel_rfl
theorem zo26 : zeroOf Try.prog 26 = (some [.nilfn]) := by kernel_rfl
instance : TyT Try.prog 26 ⟨1,false,(some [.nilfn]),.fn,none⟩ := ⟨ty26⟩
instance : ZoT Try.prog 26 (some [.nilfn]) := ⟨zo26⟩
theorem ty27 : tinfo Try.prog 27 = some ⟨1,false,(some [.nilsl]),.slice 3 1 8 false (some [.int .i64 0]),none⟩ := by kernel_rfl
theorem zo27 : zeroOf Try.prog 27 = (some [.nilsl]) := by kernel_rfl
instance : TyT Try.prog 27 ⟨1,false,(some [.nilsl]),.slice 3 1 8 false (some [.int .i64 0]),none⟩ := ⟨ty27⟩
instance : ZoT Try.prog 27 (some [.nilsl]) := ⟨zo27⟩
theorem ty28 : tinfo Try.prog 28 = some ⟨2,true,(some [.int .i64 0,.int .i64 0]),.struct [(0,3,1,false),(1,3,1,false)],(some [(0,.int .i64),(1,.int .i64)])⟩ := by kernel_rfl
theorem zo28 : zeroOf Try.prog 28 = (some [.int .i64 0,.int .i64 0]) := by kernel_rfl
instance : TyT Try.prog 28 ⟨2,true,(some [.int .i64 0,.int .i64 0]),.struct [(0,3,1,false),(1,3,1,false)],(some [(0,.int .i64),(1,.int .i64)])⟩ := ⟨ty28⟩
instance : ZoT Try.prog 28 (some [.int .i64 0,.int .i64 0]) := ⟨zo28⟩
theorem ty29 : tinfo Try.prog 29 = some ⟨2,true,(some [.int .i64 0,.int .i64 0]),.struct [(0,3,1,false),(1,3,1,false)],(some [(0,.int .i64),(1,.int .i64)])⟩ := by kernel_rfl
theorem zo29 : zeroOf Try.prog 29 = (some [.int .i64 0,.int .i64 0]) := by kernel_rfl
instance : TyT Try.prog 29 ⟨2,true,(some [.int .i64 0,.int .i64 0]),.struct [(0,3,1,false),(1,3,1,false)],(some [(0,.int .i64),(1,.int .i64)])⟩ := ⟨ty29⟩
instance : ZoT Try.prog 29 (some [.int .i64 0,.int .i64 0]) := ⟨zo29⟩
theorem ty32 : tinfo Try.prog 32 = some ⟨2,true,(some [.int .i64 0,.int .i64 0]),.array 2 3 1 false,(some [(0,.int .i64),(1,.int .i64)])⟩ := by kernel_rfl
theorem zo32 : zeroOf Try.prog 32 = (some [.int .i64 0,.int .i64 0]) := by kernel_rfl
instance : TyT Try.prog 32 ⟨2,true,(some [.int .i64 0,.int .i64 0]),.array 2 3 1 false,(some [(0,.int .i64),(1,.int .i64)])⟩ := ⟨ty32⟩
instance : ZoT Try.prog 32 (some [.int .i64 0,.int .i64 0]) := ⟨zo32⟩
theorem ty40 : tinfo Try.prog 40 = some ⟨1,false,(some [.nilfn]),.fn,none⟩ := by kernel_rfl
theorem zo40 : zeroOf Try.prog 40 = (some [.nilfn]) := by kernel_rfl
instance : TyT Try.prog 40 ⟨1,false,(some [.nilfn]),.fn,none⟩ := ⟨ty40⟩
instance : ZoT Try.prog 40 (some [.nilfn]) := ⟨zo40⟩
theorem ty41 : tinfo Try.prog 41 = some ⟨1,false,(some [.nilfn]),.fn,none⟩ := by kernel_rfl
theorem zo41 : zeroOf Try.prog 41 = (some [.nilfn]) := by kernel_rfl
instance : TyT Try.prog 41 ⟨1,false,(some [.nilfn]),.fn,none⟩ := ⟨ty41⟩
instance : ZoT Try.prog 41 (some [.nilfn]) := ⟨zo41⟩
theorem ty42 : tinfo Try.prog 42 = some ⟨1,false,(some [.nilfn]),.fn,none⟩ := by kernel_rfl
theorem zo42 : zeroOf Try.prog 42 = (some [.nilfn]) := by kernel_rfl
instance : TyT Try.prog 42 ⟨1,false,(some [.nilfn]),.fn,none⟩ := ⟨ty42⟩
instance : ZoT Try.prog 42 (some [.nilfn]) := ⟨zo42⟩
theorem ty43 : tinfo Try.prog 43 = some ⟨1,false,(some [.nilfn]),.fn,none⟩ := by kernel_rfl
theorem zo43 : zeroOf Try.prog 43 = (some [.nilfn]) := by kernel_rfl
instance : TyT Try.prog 43 ⟨1,false,(some [.nilfn]),.fn,none⟩ := ⟨ty43⟩
instance : ZoT Try.prog 43 (some [.nilfn]) := ⟨zo43⟩
theorem ty44 : tinfo Try.prog 44 = some ⟨1,false,(some [.nilfn]),.fn,none⟩ := by kernel_rfl
theorem zo44 : zeroOf Try.prog 44 = (some [.nilfn]) := by kernel_rfl
instance : TyT Try.prog 44 ⟨1,false,(some [.nilfn]),.fn,none⟩ := ⟨ty44⟩
instance : ZoT Try.prog 44 (some [.nilfn]) := ⟨zo44⟩
theorem ty45 : tinfo Try.prog 45 = some ⟨1,false,(some [.nilfn]),.fn,none⟩ := by kernel_rfl
theorem zo45 : zeroOf Try.prog 45 = (some [.nilfn]) := by kernel_rfl
instance : TyT Try.prog 45 ⟨1,false,(some [.nilfn]),.fn,none⟩ := ⟨ty45⟩
instance : ZoT Try.prog 45 (some [.nilfn]) := ⟨zo45⟩
theorem ty46 : tinfo Try.prog 46 = some ⟨1,false,(some [.nilsl]),.slice 4 1 1 false (some [.bool false]),none⟩ := by kernel_rfl
theorem zo46 : zeroOf Try.prog 46 = (some [.nilsl]) := by kernel_rfl
instance : TyT Try.prog 46 ⟨1,false,(some [.nilsl]),.slice 4 1 1 false (some [.bool false]),none⟩ := ⟨ty46⟩
instance : ZoT Try.prog 46 (some [.nilsl]) := ⟨zo46⟩
theorem ty47 : tinfo Try.prog 47 = some ⟨1,false,(some [.nilfn]),.fn,none⟩ := by kernel_rfl
theorem zo47 : zeroOf Try.prog 47 = (some [.nilfn]) := by kernel_rfl
instance : TyT Try.prog 47 ⟨1,false,(some [.nilfn]),.fn,none⟩ := ⟨ty47⟩
instance : ZoT Try.prog 47 (some [.nilfn]) := ⟨zo47⟩
theorem ty48 : tinfo Try.prog 48 = some ⟨1,false,(some [.nilfn]),.fn,none⟩ := by kernel_rfl
theorem zo48 : zeroOf Try.prog 48 = (some [.nilfn]) := by kernel_rfl
instance : TyT Try.prog 48 ⟨1,false,(some [.nilfn]),.fn,none⟩ := ⟨ty48⟩
instance : ZoT Try.prog 48 (some [.nilfn]) := ⟨zo48⟩
theorem ty50 : tinfo Try.prog 50 = some ⟨1,false,(some [.nilfn]),.fn,none⟩ := by kernel_rfl
theorem zo50 : zeroOf Try.prog 50 = (some [.nilfn]) := by kernel_rfl
instance : TyT Try.prog 50 ⟨1,false,(some [.nilfn]),.fn,none⟩ := ⟨ty50⟩
instance : ZoT Try.prog 50 (some [.nilfn]) := ⟨zo50⟩
theorem ty51 : tinfo Try.prog 51 = some ⟨1,false,(some [.nilfn]),.fn,none⟩ := by kernel_rfl
theorem zo51 : zeroOf Try.prog 51 = (some [.nilfn]) := by kernel_rfl
instance : TyT Try.prog 51 ⟨1,false,(some [.nilfn]),.fn,none⟩ := ⟨ty51⟩
instance : ZoT Try.prog 51 (some [.nilfn]) := ⟨zo51⟩
theorem ty52 : tinfo Try.prog 52 = some ⟨1,false,(some [.nilsl]),.slice 46 1 24 false (some [.nilsl]),none⟩ := by kernel_rfl
theorem zo52 : zeroOf Try.prog 52 = (some [.nilsl]) := by kernel_rfl
instance : TyT Try.prog 52 ⟨1,false,(some [.nilsl]),.slice 46 1 24 false (some [.nilsl]),none⟩ := ⟨ty52⟩
instance : ZoT Try.prog 52 (some [.nilsl]) := ⟨zo52⟩
theorem ty59 : tinfo Try.prog 59 = some ⟨1,false,(some [.nilsl]),.slice 61 1 24 false (some [.nilsl]),none⟩ := by kernel_rfl
theorem zo59 : zeroOf Try.prog 59 = (some [.nilsl]) := by kernel_rfl
instance : TyT Try.prog 59 ⟨1,false,(some [.nilsl]),.slice 61 1 24 false (some [.nilsl]),none⟩ := ⟨ty59⟩
instance : ZoT Try.prog 59 (some [.nilsl]) := ⟨zo59⟩
theorem ty61 : tinfo Try.prog 61 = some ⟨1,false,(some [.nilsl]),.slice 3 1 8 false (some [.int .i64 0]),none⟩ := by kernel_rfl
theorem zo61 : zeroOf Try.prog 61 = (some [.nilsl]) := by kernel_rfl
instance : TyT Try.prog 61 ⟨1,false,(some [.nilsl]),.slice 3 1 8 false (some [.int .i64 0]),none⟩ := ⟨ty61⟩
instance : ZoT Try.prog 61 (some [.nilsl]) := ⟨zo61⟩
theorem ty62 : tinfo Try.prog 62 = some ⟨1,false,(some [.nilsl]),.slice 9 1 16 false (some [.str ⟨#[]⟩]),none⟩ := by kernel_rfl
theorem zo62 : zeroOf Try.prog 62 = (some [.nilsl]) := by kernel_rfl
instance : TyT Try.prog 62 ⟨1,false,(some [.nilsl]),.slice 9 1 16 false (some [.str ⟨#[]⟩]),none⟩ := ⟨ty62⟩
instance : ZoT Try.prog 62 (some [.nilsl]) := ⟨zo62⟩
theorem zv4 : zvOf Try.prog 4 = some (.bool false) := by kernel_rfl
instance : ZvT Try.prog 4 (.bool false) := ⟨zv4⟩
theorem mixed : Try.prog.follows .mixedOrders = true := by kernel_rfl
instance : MixT Try.prog := ⟨mixed⟩
theorem en3 : Enters Try.prog 3 := Try.call3
instance : EnT Try.prog 3 := ⟨en3⟩
theorem en6 : Enters Try.prog 6 := Try.call6
instance : EnT Try.prog 6 := ⟨en6⟩
theorem en7 : Enters Try.prog 7 := Try.call7
instance : EnT Try.prog 7 := ⟨en7⟩
theorem en8 : Enters Try.prog 8 := Try.call8
instance : EnT Try.prog 8 := ⟨en8⟩
theorem en9 : Enters Try.prog 9 := Try.call9
instance : EnT Try.prog 9 := ⟨en9⟩
theorem en25 : Enters Try.prog 25 := Try.call25
instance : EnT Try.prog 25 := ⟨en25⟩
theorem en26 : Enters Try.prog 26 := Try.call26
instance : EnT Try.prog 26 := ⟨en26⟩
theorem en27 : Enters Try.prog 27 := Try.call27
instance : EnT Try.prog 27 := ⟨en27⟩
theorem en28 : Enters Try.prog 28 := Try.call28
instance : EnT Try.prog 28 := ⟨en28⟩
theorem en29 : Enters Try.prog 29 := Try.call29
instance : EnT Try.prog 29 := ⟨en29⟩
theorem en39 : Enters Try.prog 39 := Try.call39
instance : EnT Try.prog 39 := ⟨en39⟩
theorem en40 : Enters Try.prog 40 := Try.call40
instance : EnT Try.prog 40 := ⟨en40⟩
theorem en41 : Enters Try.prog 41 := Try.call41
instance : EnT Try.prog 41 := ⟨en41⟩
theorem en42 : Enters Try.prog 42 := Try.call42
instance : EnT Try.prog 42 := ⟨en42⟩
theorem en43 : Enters Try.prog 43 := Try.call43
instance : EnT Try.prog 43 := ⟨en43⟩
theorem en44 : Enters Try.prog 44 := Try.call44
instance : EnT Try.prog 44 := ⟨en44⟩
theorem en45 : Enters Try.prog 45 := Try.call45
instance : EnT Try.prog 45 := ⟨en45⟩
theorem en46 : Enters Try.prog 46 := Try.call46
instance : EnT Try.prog 46 := ⟨en46⟩
theorem en47 : Enters Try.prog 47 := Try.call47
instance : EnT Try.prog 47 := ⟨en47⟩
theorem en48 : Enters Try.prog 48 := Try.call48
instance : EnT Try.prog 48 := ⟨en48⟩
theorem en49 : Enters Try.prog 49 := Try.call49
instance : EnT Try.prog 49 := ⟨en49⟩
theorem en50 : Enters Try.prog 50 := Try.call50
instance : EnT Try.prog 50 := ⟨en50⟩
theorem en51 : Enters Try.prog 51 := Try.call51
instance : EnT Try.prog 51 := ⟨en51⟩
end Go.Proofs.Yticchggapegnlaa
