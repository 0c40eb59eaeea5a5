/-
  Values seen as data, the fifth text: operations on slices, strings and functions.
-/
import Derived.Test.YtliockncjdeloaaPvOps
import Derived.Laws.Append
namespace Go.Pv
open Go Go.RowKit
set_option linter.unusedVariables false
set_option linter.unusedSimpArgs false

section
variable {P : Program} {N : Nat} {o : Oper} {e : Env} {s : Store} {k : PV → Store → Prop}

theorem lt_of_getElem? {α : Type} {l : List α} {n : Nat} {x : α} (h : l[n]? = some x) : n < l.length := by
  rcases Nat.lt_or_ge n l.length with h' | h'
  · exact h'
  · simp [List.getElem?_eq_none h'] at h

theorem ok_indexAddr {T : TypeId} {x y : Operand} {ti : TI} (ho : o.op = .indexAddr T x y) (ht : tinfo P T = some ti) (h : WIndexAddr ti s (evO e x) (evO e y) fun v => k v s) : ReadOK P N o e s k :=
  fun C pub σ a w hs he => by
    obtain ⟨i, d, h1, h2, rfl⟩ := tinfo_some ht
    obtain ⟨kd, ix, hix, h0, h⟩ := h
    have hr := evO_rel he x
    have hry := evO_rel he y
    rw [hix] at hry
    generalize hvy : a.eval y = cy at hry
    cases hry
    split at h
    · rename_i n el esz ag j r off hk heq
      obtain ⟨rfl, ei, hei, rfl, _⟩ := tkOf_array hk
      rw [heq] at hr
      generalize hv : a.eval x = cv at hr
      cases hr with
      | ptr hσ =>
        rename_i l
        refine ⟨_, .pointer (some ⟨l.b, l.o + r * l.esz + (off + ix.toNat * ei.size), none⟩), h.2, .ptr hσ, ?_⟩
        simp [execOp, ho, hv, hvy, Instr.indexAt, asIntOf, run_underlying' h2, Instr.sureAddr, run_sizeOf' hei, h0, h.1, Addr.add_at, Nat.add_assoc]
    · rename_i n el esz ag cells hk heq
      obtain ⟨rfl, ei, hei, rfl, _⟩ := tkOf_array hk
      rw [heq] at hr
      generalize hv : a.eval x = cv at hr
      cases hr with
      | iptr hb hsz hrel =>
        rename_i b o' cs ty fr
        refine ⟨_, .pointer (some ⟨b, o' + ix.toNat * ei.size, none⟩), h.2.2, .iptr hb (by have := h.2.1; simp; omega) ?_, ?_⟩
        · intro j v c hj hc
          rw [List.getElem?_drop] at hj
          exact hrel _ v c hj (by rw [← Nat.add_assoc]; exact hc)
        · simp [execOp, ho, hv, hvy, Instr.indexAt, asIntOf, run_underlying' h2, Instr.sureAddr, run_sizeOf' hei, h0, h.1, Addr.add_at]
    · rename_i el esz by' ag z xs hk heq
      obtain ⟨rfl, ei, hei, rfl, _⟩ := tkOf_slice hk
      rw [heq] at hr
      obtain ⟨row, hrow, hrl, hkk⟩ := h
      have hlt := lt_of_getElem? hrow
      generalize hv : a.eval x = cv at hr
      cases hr with
      | list0 => simp at hlt
      | list hb hlen hcap hw hsz hrel =>
        rename_i b o' cs ty fr esz' cap
        have hw' := hw _ _ hrow
        obtain rfl : esz' = ei.size := by omega
        have hf := row_fits (esz := ei.size) hlt (Nat.le_refl _)
        refine ⟨_, .pointer (some ⟨b, o' + ix.toNat * ei.size, none⟩), hkk, .iptr hb (by omega) ?_, ?_⟩
        · intro j v c hj hc
          exact hrel _ _ _ v c hrow hj hc
        · have hlt' : ix < (xs.length : Int) := by omega
          simp [execOp, ho, hv, hvy, Instr.indexAt, asIntOf, run_underlying' h2, Instr.sureAddr, run_sizeOf' hei, h0, hlt', Addr.add_at]
    · rename_i el esz by' ag z j off len hk heq
      obtain ⟨rfl, ei, hei, rfl, _⟩ := tkOf_slice hk
      rw [heq] at hr
      generalize hv : a.eval x = cv at hr
      cases hr with
      | sl hσ hlen hcap ha =>
        rename_i l a' cap
        obtain ⟨hlt, rows, hi, hkk⟩ := h
        obtain ⟨l', hl1, hl2, _⟩ := hs.obj j _ hi
        rw [hσ] at hl1; cases hl1
        obtain ⟨rfl, _⟩ := ha (by omega)
        refine ⟨_, .pointer (some ⟨l.b, l.o + (off + ix.toNat) * l.esz + 0, none⟩), hkk, .ptr hσ, ?_⟩
        simp [execOp, ho, hv, hvy, Instr.indexAt, asIntOf, run_underlying' h2, Instr.sureAddr, run_sizeOf' hei, h0, hlt, Addr.add_at, hl2, Nat.add_mul, Nat.add_assoc]
    · exact h.elim

theorem run_part {w : World} {T : TypeId} {d : TypeDesc} {i : TypeInfo} (h1 : P.info? T = some i) (h2 : P.underlying T = some d) {cs : Array Value} {off : Nat} (hc : aggOf P T = false → off < cs.size) :
    (part T cs off).run P w = .ok (if aggOf P T then .agg (cs.extract off (off + i.size)) else cs.getD off undef) w := by
  simp only [part, Sem.run_bind, run_isAgg' h2, Result.andThen_ok]
  by_cases ha : aggOf P T = true
  · simp only [ha, if_true, Sem.run_bind, run_sizeOf' h1, Result.andThen_ok, Sem.run_pure]
  · have ha' : aggOf P T = false := by simpa using ha
    have hx := hc ha'
    simp [ha', Array.getElem?_eq_getElem hx, Array.getD, hx]

theorem readP_agg {ti : TI} {pub : PHeap} {σ : Sig} {row : List PV} {arr : Array Value} {off : Nat} {K : PV → Prop} (h : readP ti row off K) (hsz : arr.size = row.length)
    (hr : ∀ (j : Nat) (v : PV) (c : Value), row[j]? = some v → arr[j]? = some c → Rel pub σ v c) :
    (ti.agg = false → off < arr.size) ∧ ∃ v, K v ∧ Rel pub σ v (if ti.agg then .agg (arr.extract off (off + ti.size)) else arr.getD off undef) := by
  unfold readP at h
  by_cases ha : ti.agg = true
  · rw [if_pos ha] at h ⊢
    refine ⟨fun h' => (by rw [ha] at h'; cases h'), PV.agg ((row.drop off).take ti.size), h.2, ?_⟩
    refine Rel.agg (by simp; omega) fun j v c hv hc => ?_
    rw [List.getElem?_take] at hv
    split at hv
    · rename_i hj
      rw [List.getElem?_drop] at hv
      refine hr (off + j) v c hv ?_
      rw [Array.getElem?_extract] at hc
      split at hc
      · exact hc
      · cases hc
    · cases hv
  · rw [if_neg ha] at h ⊢
    obtain ⟨v, hv, hk⟩ := h
    have hlt := lt_of_getElem? hv
    have h2 : arr[off]? = some arr[off] := Array.getElem?_eq_getElem (by omega)
    have h3 : arr.getD off undef = arr[off] := by simp [Array.getD, show off < arr.size by omega]
    exact ⟨fun _ => by omega, v, hk, by rw [h3]; exact hr off v _ hv h2⟩

theorem ok_field {T : TypeId} {x : Operand} {f : Nat} {ti : TI} (ho : o.op = .field T x f) (ht : tinfo P T = some ti) (h : WField ti (evO e x) f fun v => k v s) : ReadOK P N o e s k :=
  fun C pub σ a w hs he => by
    obtain ⟨i, d, h1, h2, rfl⟩ := tinfo_some ht
    obtain ⟨fs, off, t, sz, ag, hk, hf, h⟩ := h
    have hr := evO_rel he x
    obtain ⟨fields, rfl, rfl, hall⟩ := tkOf_struct hk
    rw [List.getElem?_map, Option.map_eq_some_iff] at hf
    obtain ⟨fl, hfl, he'⟩ := hf
    simp only [Prod.mk.injEq] at he'
    obtain ⟨rfl, rfl, rfl, rfl⟩ := he'
    have hfl' : fields[f]? = some fl := by rw [← Array.getElem?_toList]; exact hfl
    obtain ⟨fi, fd, hfi, hfne, hfd⟩ := hall f fl hfl'
    split at h
    · rename_i cells heq
      rw [heq] at hr
      generalize hv : a.eval x = cv at hr
      cases hr with
      | agg hsz hrel =>
        rename_i arr
        obtain ⟨hlt, v, hk', hrv⟩ := readP_agg h hsz hrel
        simp only [hfi, Option.map_some, Option.getD_some] at hrv hlt
        exact ⟨v, _, hk', hrv, by simp [execOp, ho, hv, Instr.field, run_underlying' h2, hfl', asAgg, run_part hfi hfd hlt]⟩
    · exact h.elim

/-- an element of a string, or of an array in a slot -/
def WIndex (ti : TI) (x ix : PV) (k : PV → Prop) : Prop :=
  ∃ kd i, ix = .int kd i ∧ 0 ≤ i ∧ match ti.kind, x with
  | .string, .str t => ∃ h : i.toNat < t.size, k (.int .u8 (t[i.toNat].toNat))
  | _, _ => False

theorem ok_index {T : TypeId} {x y : Operand} {ti : TI} (ho : o.op = .index T x y) (ht : tinfo P T = some ti) (h : WIndex ti (evO e x) (evO e y) fun v => k v s) : ReadOK P N o e s k :=
  fun C pub σ a w hs he => by
    obtain ⟨i, d, h1, h2, rfl⟩ := tinfo_some ht
    obtain ⟨kd, ix, hix, h0, h⟩ := h
    have hr := evO_rel he x
    have hry := evO_rel he y
    rw [hix] at hry
    generalize hvy : a.eval y = cy at hry
    cases hry
    split at h
    · rename_i t hk heq
      obtain rfl := tkOf_string hk
      rw [heq] at hr
      generalize hv : a.eval x = cv at hr
      cases hr
      obtain ⟨hlt, hkk⟩ := h
      exact ⟨_, _, hkk, .int, by simp [execOp, ho, hv, hvy, Instr.index, asIntOf, run_underlying' h2, h0, getElem?_pos t ix.toNat hlt]⟩
    · exact h.elim

theorem ok_len {x : Operand} {T : TypeId} {ti : TI} {n : Nat} {ty : TypeId} (ho : o.op = .call { callee := .builtin .len, args := #[x], argTypes := #[T] }) (ht : tinfo P T = some ti) (hk : lenKind ti (evO e x) = true)
    (hn : lenP (evO e x) = some n) (h : n ≤ maxLen → k (.int .i64 n) s) : ReadOK P N o e s k :=
  fun C pub σ a w hs he => by
    obtain ⟨i, d, h1, h2, rfl⟩ := tinfo_some ht
    have hr := evO_rel he x
    generalize evO e x = px at hr hn hk
    generalize hv : a.eval x = cv at hr
    have hrun : (∃ el, d = .slice el) ∨ d = .string := by
      unfold lenKind at hk
      cases px <;> simp only at hk <;> first | (cases hk; done) | (split at hk <;> first | (cases hk; done) | skip)
      · rename_i h; exact .inr (tkOf_string h)
      all_goals (rename_i h; exact .inl ⟨_, (tkOf_slice h).1⟩)
    have key : ∀ (c : Value) (m : Nat), ((∃ el, d = .slice el) → ∃ b cap, c = .slice b m cap) → (d = .string → ∃ t : ByteArray, c = .string t ∧ t.size = m) → a.eval x = c → (execOp a.eval o).run P w = .ok (.value (.int .i64 m)) w := by
      intro c m hsl hst hc
      rcases hrun with ⟨el, rfl⟩ | rfl
      · obtain ⟨b, cap, rfl⟩ := hsl ⟨el, rfl⟩
        simp [execOp, ho, resolve, invoke, builtin, Builtin.len_, hc, run_underlying' h2, goInt]
      · obtain ⟨t, rfl, rfl⟩ := hst rfl
        simp [execOp, ho, resolve, invoke, builtin, Builtin.len_, hc, run_underlying' h2, goInt]
    have hstr : d = .string → ∀ t, px ≠ .list t := by
      rintro rfl t rfl; simp [lenKind, tkOf] at hk
    have hstr2 : d = .string → ∀ a b c, px ≠ .sl a b c := by
      rintro rfl a b c rfl; simp [lenKind, tkOf] at hk
    have hstr3 : d = .string → px ≠ .nilsl := by
      rintro rfl rfl; simp [lenKind, tkOf] at hk
    have hsl1 : (∃ el, d = .slice el) → ∀ t, px ≠ .str t := by
      rintro ⟨el, rfl⟩ t rfl; simp only [lenKind] at hk; split at hk
      · rename_i heq; cases tkOf_string heq
      · cases hk
    cases hr <;> simp only [lenP, Option.some.injEq] at hn <;> first | (cases hn; done) | subst hn
    · rename_i t ht'
      exact ⟨_, _, h ht', .int, key _ _ (fun hh => absurd rfl (hsl1 hh _)) (fun _ => ⟨_, rfl, rfl⟩) hv⟩
    · exact ⟨_, _, h (by simp [maxLen]), .int, key _ _ (fun _ => ⟨_, _, rfl⟩) (fun hh => absurd rfl (hstr3 hh)) hv⟩
    · exact ⟨_, _, h (by simp [maxLen]), .int, key _ _ (fun _ => ⟨_, _, rfl⟩) (fun hh => absurd rfl (hstr hh _)) hv⟩
    · rename_i hlen hcap _ _ _
      exact ⟨_, _, h (by omega), .int, key _ _ (fun _ => ⟨_, _, rfl⟩) (fun hh => absurd rfl (hstr hh _)) hv⟩
    · exact ⟨_, _, h (by omega), .int, key _ _ (fun _ => ⟨_, _, rfl⟩) (fun hh => absurd rfl (hstr2 hh _ _ _)) hv⟩

theorem ok_min {x y : Operand} {Ts : Array TypeId} {kd : IntKind} {m n : Int} (ho : o.op = .call { callee := .builtin .min, args := #[x, y], argTypes := Ts }) (hx : evO e x = .int kd m) (hy : evO e y = .int kd n)
    (h : k (.int kd (if n < m then n else m)) s) : ReadOK P N o e s k :=
  fun C pub σ a w hs he => by
    have hr := evO_rel he x
    have hry := evO_rel he y
    rw [hx] at hr; rw [hy] at hry
    generalize hv : a.eval x = cv at hr
    generalize hvy : a.eval y = cy at hry
    cases hr; cases hry
    exact ⟨_, _, h, .int, by simp [execOp, ho, resolve, invoke, builtin, Builtin.min_, Builtin.min2, hv, hvy, List.foldlM]⟩
theorem ok_max {x y : Operand} {Ts : Array TypeId} {kd : IntKind} {m n : Int} (ho : o.op = .call { callee := .builtin .max, args := #[x, y], argTypes := Ts }) (hx : evO e x = .int kd m) (hy : evO e y = .int kd n)
    (h : k (.int kd (if n > m then n else m)) s) : ReadOK P N o e s k :=
  fun C pub σ a w hs he => by
    have hr := evO_rel he x
    have hry := evO_rel he y
    rw [hx] at hr; rw [hy] at hry
    generalize hv : a.eval x = cv at hr
    generalize hvy : a.eval y = cy at hry
    cases hr; cases hry
    exact ⟨_, _, h, .int, by simp [execOp, ho, resolve, invoke, builtin, Builtin.max_, Builtin.max2, hv, hvy, List.foldlM]⟩

theorem map_rel {pub : PHeap} {σ : Sig} {a : Act} (he : ER pub σ N e a) (xs : Array Operand) : (xs.map a.eval).size = (xs.toList.map (evO e)).length ∧
    ∀ (j : Nat) (v : PV) (c : Value), (xs.toList.map (evO e))[j]? = some v → (xs.map a.eval)[j]? = some c → Rel pub σ v c := by
  refine ⟨by simp, fun j v c hv hc => ?_⟩
  simp only [List.getElem?_map, Array.getElem?_toList, Array.getElem?_map, Option.map_eq_some_iff] at hv hc
  obtain ⟨u, hu, rfl⟩ := hv
  obtain ⟨u', hu', rfl⟩ := hc
  rw [hu] at hu'; cases hu'
  exact evO_rel he u

theorem ok_makeFunc {f : Fn} {xs ys : Array Operand} (ho : o.op = .makeFunc f xs ys) (h : k (.fn f (xs.toList.map (evO e)) (ys.toList.map (evO e))) s) : ReadOK P N o e s k :=
  fun C pub σ a w hs he =>
    ⟨_, .func f (xs.map a.eval) (ys.map a.eval), h, .fn (map_rel he xs).1 (map_rel he xs).2 (map_rel he ys).1 (map_rel he ys).2, by simp [execOp, ho, Instr.makeFunc]⟩

def Enters (P : Program) (f : FuncId) : Prop := ∀ (args : Array Value) (w : World), (callFunc f args).run P w = .ok (.enter f args) w

theorem RelA.append {pub : PHeap} {σ : Sig} {xs ys : List PV} {xa ya : Array Value} (h : RelA pub σ xs xa) (g : RelA pub σ ys ya) : RelA pub σ (xs ++ ys) (xa ++ ya) := by
  refine ⟨by simp [h.1, g.1], fun j v c hv hc => ?_⟩
  rw [List.getElem?_append] at hv
  rw [Array.getElem?_append] at hc
  rw [h.1] at hc
  split at hv
  · rename_i hj; rw [if_pos hj] at hc; exact h.2 j v c hv hc
  · rename_i hj; rw [if_neg hj] at hc; exact g.2 _ v c hv hc

/-- a call of a function that is known -/
theorem ok_call {f : Operand} {args : Array Operand} {Ts : Array TypeId} {fid : FuncId} {xs ys : List PV} {v : PV} {s' : Store} (ho : o.op = .call { callee := .value f, args := args, argTypes := Ts })
    (hf : evO e f = .fn (.func fid) xs ys) (hen : Enters P fid) (hc : CallOK P fid (xs ++ args.toList.map (evO e) ++ ys) s v s') (h : k v s') : OpOK P N o e s k := by
  intro C pub σ a w next Q hs he hn
  have hr := evO_rel he f
  rw [hf] at hr
  generalize hv : a.eval f = cv at hr
  cases hr with
  | fn hsx hrx hsy hry =>
    rename_i xa ya
    have hA : RelA pub σ (xs ++ args.toList.map (evO e) ++ ys) (xa ++ args.map a.eval ++ ya) := RelA.append (RelA.append ⟨hsx, hrx⟩ (map_rel he args)) ⟨hsy, hry⟩
    have hcall := hc pub σ w _ hs.toBase hA
    have hrun : (execOp a.eval o).run P w = .ok (.enter fid (xa ++ args.map a.eval ++ ya)) w := by
      simp only [execOp, ho, resolve, hv, Deferred.ofValue, pure_bind, invoke]
      exact hen _ w
    unfold Oper.wp
    rw [hrun]
    refine Calls.mono hcall ?_
    rintro en w' ⟨cv, pub', σ', rfl, hs', hrel⟩
    exact hn v s' cv pub' σ' w' h (hs.trans hs') (he.mono hs'.ple hs'.sle) hrel

end
end Go.Pv
