/-
  Values seen as data, the text on maps: making one, looking up, laying in.
-/
import Derived.Test.YtliockncjdeloaaPvOpsF
namespace Go.Pv
open Go Go.RowKit
set_option linter.unusedVariables false
set_option linter.unusedSimpArgs false

/-- are two keys the same? told of plain ones -/
def keyEq : PV → PV → Option Bool
  | .int k a, .int k' b => if k = k' then some (a == b) else none
  | .str a, .str b => some (decide (a = b))
  | .bool a, .bool b => some (a == b)
  | _, _ => none
/-- the first entry with a key -/
def findP (k : PV) : List (PV × PV) → Nat → Option (Option (Nat × PV))
  | [], _ => some none
  | (k', v) :: r, i => match keyEq k k' with
    | some true => some (some (i, v))
    | some false => findP k r (i + 1)
    | none => none
def entsP (s : Store) : PV → Option (List (PV × PV))
  | .nilmap => some []
  | .imap es => some es
  | .mapv i => match s[i]? with
    | some (.map es) => some es
    | _ => none
  | _ => none
def keyKind : TK → PV → Bool
  | .int _, .int _ _ => true
  | .string, .str _ => true
  | .bool, .bool _ => true
  | _, _ => false
/-- a type's zero value -/
def zvOf (P : Program) (T : TypeId) : Option PV := ((P.info? T).bind (·.zero)).map (ofConst 4)
def WLookup (P : Program) (kti : TI) (et : TypeId) (s : Store) (m x : PV) (k : PV → Bool → Prop) : Prop :=
  ∃ es r, entsP s m = some es ∧ keyKind kti.kind x = true ∧ findP x es 0 = some r ∧ match r with
    | some (_, v) => k v true
    | none => ∃ z, zvOf P et = some z ∧ k z false
def putP (x v : PV) (es : List (PV × PV)) : Option (Nat × PV) → List (PV × PV)
  | some (j, _) => es.set j (x, v)
  | none => es ++ [(x, v)]
def WMapUpdate (kti : TI) (s : Store) (m x v : PV) (k : Store → Prop) : Prop :=
  ∃ i es r, m = .mapv i ∧ s[i]? = some (.map es) ∧ keyKind kti.kind x = true ∧ findP x es 0 = some r ∧ k (s.set i (.map (putP x v es r)))

def notNil : PV → Bool
  | .ptr _ _ _ => true
  | .iptr _ => true
  | _ => false

section
variable {P : Program} {N m : Nat} {e : Env} {s : Store} {o : Oper} {k : PV → Store → Prop} {pub : PHeap} {σ : Sig} {w : World}
theorem keyEq_now {d : TypeDesc} {kti : TI} (hkd : tkOf P d = kti.kind) {x y : PV} {cx cy : Value} {b : Bool} (hk : keyKind kti.kind x = true) (h : keyEq x y = some b) (hx : Rel pub σ x cx) (hy : Rel pub σ y cy) :
    Instr.sameNow d cx cy = some b := by
  cases x <;> cases y <;> simp only [keyEq] at h <;> first | (cases h; done) | skip
  all_goals (cases hx; cases hy)
  · split at h
    · rename_i hkk
      cases h
      subst hkk
      rw [← hkd] at hk
      obtain ⟨k', hd⟩ : ∃ k', tkOf P d = .int k' := by
        revert hk; generalize tkOf P d = q; intro hk; cases q <;> simp [keyKind] at hk; exact ⟨_, rfl⟩
      obtain rfl := tkOf_int hd
      simp [Instr.sameNow]
    · cases h
  · cases h
    rw [← hkd] at hk
    have hd : tkOf P d = .bool := by revert hk; generalize tkOf P d = q; intro hk; cases q <;> simp [keyKind] at hk; rfl
    obtain rfl := tkOf_bool hd
    simp [Instr.sameNow]
  · cases h
    rw [← hkd] at hk
    have hd : tkOf P d = .string := by revert hk; generalize tkOf P d = q; intro hk; cases q <;> simp [keyKind] at hk; rfl
    obtain rfl := tkOf_string hd
    simp only [Instr.sameNow, Option.some.injEq]
    rw [beq_toListBytes, str_beq]
theorem findP_now {d : TypeDesc} {kti : TI} (hkd : tkOf P d = kti.kind) {x : PV} {cx : Value} (hk : keyKind kti.kind x = true) (hx : Rel pub σ x cx) : ∀ (es : List (PV × PV)) (xs : List MapEntry) (i : Nat) (r : Option (Nat × PV)),
    xs.length = es.length → (∀ (j : Nat) (k v : PV) (e : MapEntry), es[j]? = some (k, v) → xs[j]? = some e → Rel pub σ k e.key ∧ Rel pub σ v e.val) → findP x es i = some r →
    ∃ r', Instr.findNow d cx xs i = some r' ∧ ((r = none ∧ r' = none) ∨ ∃ j v cv key, r = some (j + i, v) ∧ r' = some (j + i, cv) ∧ Rel pub σ v cv ∧ es[j]? = some (key, v) ∧ keyEq x key = some true)
  | [], [], i, r, hl, hr, hf => by cases hf; exact ⟨none, rfl, .inl ⟨rfl, rfl⟩⟩
  | (k', v) :: es, e :: xs, i, r, hl, hr, hf => by
    have h0 := hr 0 k' v e rfl rfl
    unfold findP at hf
    split at hf
    · rename_i hq
      cases hf
      refine ⟨some (i, e.val), ?_, .inr ⟨0, v, e.val, k', by simp, by simp, h0.2, rfl, hq⟩⟩
      simp [Instr.findNow, keyEq_now hkd hk hq hx h0.1]
    · rename_i hq
      obtain ⟨r', h1, h2⟩ := findP_now hkd hk hx es xs (i + 1) r (by simpa using hl) (fun j k v e a b => hr (j + 1) k v e (by simpa using a) (by simpa using b)) hf
      refine ⟨r', by simp [Instr.findNow, keyEq_now hkd hk hq hx h0.1, h1], ?_⟩
      rcases h2 with h2 | ⟨j, v', cv, key, h3, h4, h5, h6, h7⟩
      · exact .inl h2
      · exact .inr ⟨j + 1, v', cv, key, by rw [h3]; congr 2; omega, by rw [h4]; congr 2; omega, h5, by simpa using h6, h7⟩
    · cases hf
theorem run_checkKey {T : TypeId} {d : TypeDesc} {kti : TI} (hT : P.underlying T = some d) (hkd : tkOf P d = kti.kind) {x : PV} {cx : Value} (hk : keyKind kti.kind x = true) (hx : Rel pub σ x cx) (b : Bool) : (Instr.checkKey b 10000 T cx).run P w = .ok () w := by
  have : (d = .bool ∨ d = .string ∨ ∃ k, d = .int k) := by
    rw [← hkd] at hk
    cases x <;> cases hq : tkOf P d <;> simp [hq, keyKind] at hk
    · exact .inr (.inr ⟨_, tkOf_int hq⟩)
    · exact .inl (tkOf_bool hq)
    · exact .inr (.inl (tkOf_string hq))
  have e : (10000 : Nat) = 9999 + 1 := rfl
  rw [e, Instr.checkKey]
  rcases this with rfl | rfl | ⟨k, rfl⟩ <;> simp [run_underlying' hT]
theorem run_findKey {T : TypeId} {d : TypeDesc} {cx : Value} {xs : List MapEntry} {r : Option (Nat × Value)} (hT : P.underlying T = some d) (h : Instr.findNow d cx xs 0 = some r) : (Instr.findKey T cx xs).run P w = .ok r w := by
  simp [Instr.findKey, run_underlying' hT, h]
theorem tkOf_map {d : TypeDesc} {kt et : TypeId} (h : tkOf P d = .map kt et) : d = .map kt et := by
  cases d <;> simp only [tkOf] at h <;> first | (cases h; done) | (cases h; rfl) | (split at h <;> cases h)

theorem ok_makeMap {T : TypeId} (ho : o.op = .makeMap T none) (h : k (.mapv s.length) (s ++ [.map []])) : OpOK P N o e s k := by
  intro C pub σ a w next Q hs he hn
  have hle := hs.toBase.le_add ⟨w.heap.size, 0, 0, 1⟩
  have hrun : (execOp a.eval o).run P w = .ok (.value (.map (some w.heap.size))) { w with heap := w.heap.push (.map #[] 0) } := by
    simp [execOp, ho, Instr.makeMap]
  refine wp_value hrun (hn _ _ _ pub _ _ h (hs.push _ _ ⟨w.heap.size, 0, 0, 1⟩ rfl ?_) (he.mono PHeap.le.rfl' hle) ?_)
  · exact ⟨_, Sig.add_same _ _ _, hs.toBase.pub_size (Nat.le_refl _), rfl, rfl, rfl, #[], 0, by simp, rfl, fun j k v e a => by simp at a⟩
  · exact Rel.mapv (Sig.add_same σ s.length ⟨w.heap.size, 0, 0, 1⟩)

/-- what a map's value tells of the memory -/
theorem ents_run {C : Ctx} (hs : SR C pub σ s w) {m : PV} {cm : Value} {es : List (PV × PV)} (h : entsP s m = some es) (hr : Rel pub σ m cm) :
    (cm = .map none ∧ es = []) ∨ ∃ b xs clock, cm = .map (some b) ∧ w.heap[b]? = some (.map xs clock) ∧ xs.toList.length = es.length ∧ ∀ (j : Nat) (k v : PV) (e : MapEntry), es[j]? = some (k, v) → xs.toList[j]? = some e → Rel pub σ k e.key ∧ Rel pub σ v e.val := by
  cases m <;> simp only [entsP] at h <;> first | (cases h; done) | skip
  · cases hr; cases h; exact .inl ⟨rfl, rfl⟩
  · cases hr with
    | mapv hσ =>
      split at h
      · rename_i es' hi
        cases h
        obtain ⟨l, h1, h2, h3, h4, h5, xs, clock, h6, h7, h8⟩ := hs.obj _ _ hi
        rw [hσ] at h1; cases h1
        exact .inr ⟨_, xs, clock, rfl, h6, by simpa using h7, fun j k v e a b => h8 j k v e a (by simpa using b)⟩
      · cases h
  · cases hr with
    | imap hb hsz hk hv =>
      cases h
      exact .inr ⟨_, _, _, rfl, hs.pubIn _ _ hb, by simpa using hsz, fun j k v e a b => ⟨(hk j k v e a (by simpa using b)).up (noSig_le _), (hv j k v e a (by simpa using b)).up (noSig_le _)⟩⟩

theorem zv_rel {T : TypeId} {z : PV} (hz : zvOf P T = some z) : ∃ zv, (zeroValue T).run P w = .ok zv w ∧ Rel pub σ z zv := by
  simp only [zvOf, Option.map_eq_some_iff, Option.bind_eq_some_iff] at hz
  obtain ⟨zv, ⟨i, h1, h2⟩, rfl⟩ := hz
  exact ⟨zv, by simp [zeroValue, run_typeInfo' h1, h2], ofConst_rel _ _ _ _⟩

theorem ok_lookup {T kt et : TypeId} {x y : Operand} {ok : Bool} {ti kti : TI} (ho : o.op = .lookup T x y ok) (ht : tinfo P T = some ti) (hkd : ti.kind = .map kt et) (hk : tinfo P kt = some kti)
    (h : WLookup P kti et s (evO e x) (evO e y) fun v b => k (if ok = true then .tuple [v, .bool b] else v) s) : ReadOK P N o e s k := by
  intro C pub σ a w hs he
  obtain ⟨i, d, h1, h2, rfl⟩ := tinfo_some ht
  obtain rfl := tkOf_map hkd
  obtain ⟨ki, kd, hk1, hk2, rfl⟩ := tinfo_some hk
  obtain ⟨es, r, he1, hkk, hf, hr⟩ := h
  have hx := evO_rel he x
  have hy := evO_rel he y
  obtain ⟨cx, hcx⟩ : ∃ cx, a.eval x = cx := ⟨_, rfl⟩
  obtain ⟨cy, hcy⟩ : ∃ cy, a.eval y = cy := ⟨_, rfl⟩
  rw [hcx] at hx; rw [hcy] at hy
  have fin : ∀ v b cv, k (if ok = true then .tuple [v, .bool b] else v) s → Rel pub σ v cv → (Instr.lookup T cx cy ok).run P w = .ok (if ok = true then .tuple #[cv, .bool b] else cv) w →
      ∃ v cv, k v s ∧ Rel pub σ v cv ∧ (execOp a.eval o).run P w = .ok (.value cv) w := by
    intro v b cv h1 h2 h3
    refine ⟨_, _, h1, ?_, by simp [execOp, ho, hcx, hcy, h3]; rfl⟩
    cases ok
    · simpa using h2
    · simp only [if_true]
      refine .tuple rfl fun j v' c hv' hc => ?_
      match j, hv', hc with
      | 0, hv', hc => simp at hv' hc; subst hv' hc; exact h2
      | 1, hv', hc => simp at hv' hc; subst hv' hc; exact .bool
      | j + 2, hv', hc => simp at hv'
  have hck := fun b => run_checkKey (w := w) hk2 rfl hkk hy b
  rcases ents_run hs he1 hx with ⟨rfl, rfl⟩ | ⟨b, xs, clock, rfl, hb, hl, hxs⟩
  · cases hf
    obtain ⟨z, hz, hkz⟩ := hr
    obtain ⟨zv, hz1, hz2⟩ := zv_rel (pub := pub) (σ := σ) (w := w) hz
    have hfk : (Instr.findKey kt cy []).run P w = .ok none w := run_findKey hk2 rfl
    refine fin z false zv hkz hz2 ?_
    simp [Instr.lookup, run_underlying' h2, hck, hfk, hz1]
  · obtain ⟨r', hn, hrr⟩ := findP_now (P := P) (d := kd) rfl hkk hy es xs.toList 0 r hl hxs hf
    have hfk := run_findKey (w := w) hk2 hn
    have hget : (getObj b).run P w = .ok (.map xs clock) w := by simp [getObj, Sem.run, hb]
    rcases hrr with ⟨rfl, rfl⟩ | ⟨j, v, cv, key, rfl, rfl, hv, _, _⟩
    · obtain ⟨z, hz, hkz⟩ := hr
      obtain ⟨zv, hz1, hz2⟩ := zv_rel (pub := pub) (σ := σ) (w := w) hz
      refine fin z false zv hkz hz2 ?_
      simp [Instr.lookup, run_underlying' h2, hck, hget, hfk, hz1]
    · refine fin v true cv hr hv ?_
      simp [Instr.lookup, run_underlying' h2, hck, hget, hfk]

theorem ok_mapUpdate {T kt et : TypeId} {x y z : Operand} {ti kti : TI} (ho : o.op = .mapUpdate T x y z) (ht : tinfo P T = some ti) (hkd : ti.kind = .map kt et) (hk : tinfo P kt = some kti)
    (h : WMapUpdate kti s (evO e x) (evO e y) (evO e z) fun s' => k (.tuple []) s') : OpOK P N o e s k := by
  intro C pub σ a w next Q hs he hn
  obtain ⟨i, d, h1, h2, rfl⟩ := tinfo_some ht
  obtain rfl := tkOf_map hkd
  obtain ⟨ki, kd, hk1, hk2, rfl⟩ := tinfo_some hk
  obtain ⟨i, es, r, hm, hi, hkk, hf, hkk2⟩ := h
  have hx := evO_rel he x
  have hy := evO_rel he y
  have hz := evO_rel he z
  obtain ⟨cx, hcx⟩ : ∃ cx, a.eval x = cx := ⟨_, rfl⟩
  obtain ⟨cy, hcy⟩ : ∃ cy, a.eval y = cy := ⟨_, rfl⟩
  obtain ⟨cz, hcz⟩ : ∃ cz, a.eval z = cz := ⟨_, rfl⟩
  rw [hcx, hm] at hx; rw [hcy] at hy; rw [hcz] at hz
  cases hx with
  | mapv hσ =>
    rename_i l
    obtain ⟨l', g1, g2, g3, g4, g5, xs, clock, g6, g7, g8⟩ := hs.obj i _ hi
    rw [hσ] at g1; cases g1
    have hlb : l.b < w.heap.size := (ObjOK.alive hs.obj ⟨_, hi, by simp, hσ, by omega⟩).2
    obtain ⟨r', hnow, hrr⟩ := findP_now (P := P) (d := kd) rfl hkk hy es xs.toList 0 r (by simpa using g7) (fun j k v e a b => g8 j k v e a (by simpa using b)) hf
    have hck := fun b => run_checkKey (w := w) hk2 rfl hkk hy b
    have hfk := run_findKey (w := w) hk2 hnow
    have hget : (getObj l.b).run P w = .ok (.map xs clock) w := by simp [getObj, Sem.run, g6]
    have hset : ∀ ob, (setObj l.b ob).run P w = .ok () { w with heap := w.heap.setIfInBounds l.b ob } := by
      intro ob; simp [setObj, Sem.run, g6]
    rcases hrr with ⟨rfl, rfl⟩ | ⟨j, v, cv, key, rfl, rfl, hv, hjk, hkeq⟩
    · have hrun : (execOp a.eval o).run P w = .ok .skip { w with heap := w.heap.setIfInBounds l.b (.map (xs.push ⟨cy, cz, clock⟩) (clock + 1)) } := by
        simp [execOp, ho, hcx, hcy, hcz, Instr.mapUpdate, run_underlying' h2, hck, hget, hfk, hset]
      refine wp_skip' hrun (hn _ _ _ pub σ _ hkk2 (hs.write hi (by simp) hσ (by omega) (.map (putP (evO e y) (evO e z) es none)) _ (by simp) ?_) he ?_)
      · refine ⟨l, hσ, g2, g3, g4, g5, xs.push ⟨cy, cz, clock⟩, clock + 1, by simp [Array.getElem?_setIfInBounds, hlb], by simp [putP, g7], fun j k v en ha hb => ?_⟩
        simp only [putP] at ha
        rcases Nat.lt_or_ge j es.length with hj | hj
        · rw [List.getElem?_append_left hj] at ha
          rw [Array.getElem?_push_lt (by omega)] at hb
          exact g8 j k v en ha (by rw [Array.getElem?_eq_getElem (by omega)]; exact hb)
        · have hje : j = es.length := by
            have := lt_of_getElem? ha
            simp at this; omega
          subst hje
          simp at ha
          rw [← g7] at hb
          simp at hb
          obtain ⟨rfl, rfl⟩ := ha
          subst hb
          exact ⟨hy, hz⟩
      · exact .tuple rfl fun j v c hv => by simp at hv
    · have hjl : j < xs.size := by have := lt_of_getElem? hjk; omega
      have hxj : xs[j]? = some xs[j] := Array.getElem?_eq_getElem hjl
      have hold := g8 j key v _ hjk hxj
      have hsame : Instr.sameBits 10000 xs[j].key cy = true := by
        have hkey := hold.1
        generalize xs[j].key = ck at hkey
        cases hq : evO e y <;> rw [hq] at hkeq hy <;> cases key <;> simp only [keyEq] at hkeq <;> first | (cases hkeq; done) | skip
        all_goals (cases hkey; cases hy)
        · split at hkeq
          · rename_i hkk'
            simp only [Option.some.injEq, beq_iff_eq] at hkeq
            subst hkk' hkeq
            simp [Instr.sameBits]
          · cases hkeq
        · simp only [Option.some.injEq, beq_iff_eq] at hkeq
          subst hkeq; simp [Instr.sameBits]
        · simp only [Option.some.injEq, decide_eq_true_eq] at hkeq
          subst hkeq
          simp only [Instr.sameBits]
          rw [beq_toListBytes, str_beq]; simp
      have hstay : (Instr.keyThatStays xs[j].key cy).run P w = .ok cy w := by simp [Instr.keyThatStays, hsame]
      have hrun : (execOp a.eval o).run P w = .ok .skip { w with heap := w.heap.setIfInBounds l.b (.map (xs.modify j fun e => { e with key := cy, val := cz }) clock) } := by
        simp [execOp, ho, hcx, hcy, hcz, Instr.mapUpdate, run_underlying' h2, hck, hget, hfk, hset, hxj, hstay]
      refine wp_skip' hrun (hn _ _ _ pub σ _ hkk2 (hs.write hi (by simp) hσ (by omega) (.map (putP (evO e y) (evO e z) es (some (j + 0, v)))) _ (by simp) ?_) he ?_)
      · refine ⟨l, hσ, g2, g3, g4, g5, _, clock, by simp [Array.getElem?_setIfInBounds, hlb]; rfl, by simp [putP, g7], fun j' k v' en ha hb => ?_⟩
        simp only [putP, Nat.add_zero] at ha
        have hj'l : j' < es.length := by have := lt_of_getElem? ha; simpa using this
        rw [List.getElem?_set] at ha
        rw [Array.getElem?_modify] at hb
        split at ha
        · rename_i hjj
          subst hjj
          simp only [hj'l, if_true, Option.some.injEq, Prod.mk.injEq] at ha
          obtain ⟨rfl, rfl⟩ := ha
          simp only [if_true, hxj, Option.map_some, Option.some.injEq] at hb
          subst hb
          exact ⟨hy, hz⟩
        · rename_i hjj
          rw [if_neg hjj] at hb
          exact g8 j' k v' en ha hb
      · exact .tuple rfl fun j v c hv => by simp at hv
theorem ok_nilCheck {x : Operand} (ho : o.op = .nilCheck x) (hx : notNil (evO e x) = true) (h : k (evO e x) s) : ReadOK P N o e s k := by
  intro C pub σ a w hs he
  have hr := evO_rel he x
  refine ⟨_, a.eval x, h, hr, ?_⟩
  generalize evO e x = v at hx hr
  generalize hv : a.eval x = cv at hr
  cases hr <;> first | (cases hx; done) | (simp [execOp, ho, hv])
end
end Go.Pv
