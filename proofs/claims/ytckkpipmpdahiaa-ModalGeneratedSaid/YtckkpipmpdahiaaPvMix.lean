/-
  Values seen as data: a region whose order is open, that may hold calls: all of its operations but those at its end leave the store as it was.
-/
import Derived.Test.YtckkpipmpdahiaaPvDraw
namespace Go.Pv
open Go Go.RowKit
set_option linter.unusedVariables false
set_option linter.unusedSimpArgs false

section
variable {P : Program} {N m : Nat} {e e' : Env} {s : Store} {K : Post}

/-- what an operation does hangs on its operands alone -/
theorem wop_congr {op : Op} {k : PV → Store → Prop} (h : WOp P op e s k) (hx : ∀ x ∈ op.operands, evO e x = evO e' x) : WOp P op e' s k := by
  cases op
  case call c =>
    obtain ⟨cc, cargs, cTs⟩ := c
    have h2 : cargs.toList.map (evO e) = cargs.toList.map (evO e') := List.map_congr_left fun x hm => hx x (by cases cc <;> simp_all [Op.operands, Call.operands])
    cases cc with
    | builtin b => simp only [WOp] at h ⊢; rw [← h2]; exact h
    | value f =>
      have h3 : evO e f = evO e' f := hx f (by simp [Op.operands, Call.operands])
      simp only [WOp] at h ⊢
      rw [← h2, ← h3]; exact h
    | invoke r n => simp only [WOp] at h ⊢; rw [← h2]; exact h
  case build T parts =>
    have h2 : parts.toList.map (fun p => (p.1, evO e p.2)) = parts.toList.map fun p => (p.1, evO e' p.2) := List.map_congr_left fun p hp => by
      rw [hx p.2 (by simp only [Op.operands, List.mem_toArray, List.mem_map]; exact ⟨p, by simpa using hp, rfl⟩)]
    simp only [WOp] at h ⊢
    rw [← h2]; exact h
  case buildSlice T len parts =>
    have h2 : parts.toList.map (fun p => (p.1, evO e p.2)) = parts.toList.map fun p => (p.1, evO e' p.2) := List.map_congr_left fun p hp => by
      rw [hx p.2 (by simp only [Op.operands, List.mem_toArray, List.mem_map]; exact ⟨p, by simpa using hp, rfl⟩)]
    simp only [WOp] at h ⊢
    rw [← h2]; exact h
  case makeFunc f xs ys =>
    have h2 : xs.toList.map (evO e) = xs.toList.map (evO e') := List.map_congr_left fun x hm => hx x (by simp_all [Op.operands])
    have h3 : ys.toList.map (evO e) = ys.toList.map (evO e') := List.map_congr_left fun x hm => hx x (by simp_all [Op.operands])
    simp only [WOp] at h ⊢
    rw [← h2, ← h3]; exact h
  case slice T x lo hi mx =>
    have h0 : evO e x = evO e' x := hx x (by simp [Op.operands])
    have h1 : lo.map (evO e) = lo.map (evO e') := by cases lo with | none => rfl | some y => simp [hx y (by simp [Op.operands])]
    have h2 : hi.map (evO e) = hi.map (evO e') := by cases hi with | none => rfl | some y => simp [hx y (by simp [Op.operands])]
    cases mx with
    | none => simp only [WOp] at h ⊢; rw [← h0, ← h1, ← h2]; exact h
    | some y => exact h.elim
  case unOp u T x =>
    have h0 : evO e x = evO e' x := hx x (by simp [Op.operands])
    cases u <;> simp only [WOp] at h ⊢ <;> first | exact h.elim | (rw [← h0]; exact h)
  case next it b =>
    cases b with
    | true => have h0 : evO e it = evO e' it := hx it (by simp [Op.operands])
              simp only [WOp] at h ⊢; rw [← h0]; exact h
    | false => exact h.elim
  all_goals first | exact h | exact h.elim | (simp only [WOp] at h ⊢; simp [Op.operands] at hx; simp only [← hx]; exact h)

/-- an operation behind its guard -/
def WG (P : Program) (o : LOp) (e : Env) (s : Store) (k : PV → Store → Prop) : Prop := match o.g with
  | none => WOp P o.op e s k
  | some (some d, b) => ∃ t, e d = .bool t ∧ (t = b → WOp P o.op e s k) ∧ (t ≠ b → k (.tuple []) s)
  | some (none, _) => False

/-- a region in an open order: its first operations leave the store 's' as it was (whatever else lies behind it), but at most one that makes an object -/
def WMix (P : Program) (N : Nat) : Nat → List LOp → Env → Store → Store → (Env → Store → Prop) → Prop
  | 0, ops, e, s, f, k => WOps P N ops e (s ++ f) k
  | n + 1, [], e, s, f, k => False
  | n + 1, o :: r, e, s, f, k => (∀ d, o.d = some d → d < N) ∧
    ((∃ v, (∀ t, WG P o e (s ++ t) (fun v' s' => v' = v ∧ s' = s ++ t)) ∧ WMix P N n r (e.upd o.d v) s f k) ∨
     (f = [] ∧ ∃ v f2, f2 ≠ [] ∧ WG P o e s (fun v' s' => v' = v ∧ s' = s ++ f2) ∧ WMix P N n r (e.upd o.d v) s f2 k))

theorem WMix.cons {n : Nat} {o : LOp} {r : List LOp} {f : Store} {k : Env → Store → Prop} {v : PV} (hd : ∀ d, o.d = some d → d < N) (h : ∀ t, WG P o e (s ++ t) (fun v' s' => v' = v ∧ s' = s ++ t)) (g : WMix P N n r (e.upd o.d v) s f k) : WMix P N (n + 1) (o :: r) e s f k := ⟨hd, .inl ⟨v, h, g⟩⟩
theorem WMix.alloc {n : Nat} {d : Option Tmp} {T : TypeId} {z : List PV} {r : List LOp} {k : Env → Store → Prop} (hd : ∀ t, d = some t → t < N) (hz : zeroOf P T = some z) (g : WMix P N n r (e.upd d (.ptr s.length 0 0)) s [.rows z.length [z]] k) : WMix P N (n + 1) (⟨d, .alloc T, none⟩ :: r) e s [] k :=
  ⟨hd, .inr ⟨rfl, _, _, List.cons_ne_nil _ _, ⟨z, hz, rfl, rfl⟩, g⟩⟩
theorem WMix.make {n : Nat} {o : LOp} {r : List LOp} {k : Env → Store → Prop} {v : PV} {f2 : Store} (hd : ∀ d, o.d = some d → d < N) (h : WG P o e s (fun v' s' => v' = v ∧ s' = s ++ f2)) (hf : f2 ≠ []) (g : WMix P N n r (e.upd o.d v) s f2 k) : WMix P N (n + 1) (o :: r) e s [] k := ⟨hd, .inr ⟨rfl, v, f2, hf, h, g⟩⟩
theorem WMix.tail {ops : List LOp} {f : Store} {k : Env → Store → Prop} (h : WOps P N ops e (s ++ f) k) : WMix P N 0 ops e s f k := h
theorem WG.call {d : Option Tmp} {f : Operand} {args : Array Operand} {Ts : Array TypeId} {fid : FuncId} {xs ys : List PV} {v : PV} 
    (hf : evO e f = .fn (.func fid) xs ys) (hen : Enters P fid) (hc : CallOK P fid (xs ++ args.toList.map (evO e) ++ ys) s v s) : WG P ⟨d, .call ⟨.value f, args, Ts⟩, none⟩ e s (fun v' s' => v' = v ∧ s' = s) :=
  ⟨fid, xs, ys, v, s, hf, hen, hc, rfl, rfl⟩

def guardTmp (ops : Array Oper) (o : Oper) : List Tmp := match o.guard with
  | none => []
  | some (j, _) => match (ops[j]?).bind (·.dst) with
    | some t => [t]
    | none => []
/-- may its first 'm' operations be run in any order, and the others alone in theirs? -/
def mixChk (ops : Array Oper) (m : Nat) : Bool :=
  decide (m ≤ ops.size) && (List.range ops.size).all fun i => match ops[i]? with
    | none => false
    | some o => (edgesOn o).all (fun j => decide (j < i)) &&
      (if i < m then ((List.range m).all (fun j => j == i || o.dst.isNone || !((ops[j]?).map (·.dst) == some o.dst))) &&
        (tmpsOf o ++ guardTmp ops o).all fun t => (List.range m).all fun j => !((ops[j]?).map (·.dst) == some (some t)) || (decide (j < i) && reaches ops ops.size i j) || (decide (i < j) && reaches ops ops.size j i)
      else (List.range i).all fun j => reaches ops ops.size i j)
def serial (ops : Array Oper) (i : Nat) : Bool := (List.range i).all fun j => reaches ops ops.size i j
/-- how many may be run in any order -/
def mixM (ops : Array Oper) : Nat := ((List.range (ops.size + 1)).find? fun m => (List.range ops.size).all fun i => decide (i < m) || serial ops i).getD ops.size

def putsE (e : Env) (D : Nat → Option Tmp) (V : Nat → PV) : List Nat → Env
  | [] => e
  | i :: S => (putsE e D V S).upd (D i) (V i)
theorem upd_other {e : Env} {d : Option Tmp} {v : PV} {t : Tmp} (h : d ≠ some t) : e.upd d v t = e t := by
  cases d with
  | none => rfl
  | some d => simp only [Env.upd]; rw [if_neg]; intro h'; subst h'; exact h rfl
theorem upd_same {e : Env} {v : PV} {t : Tmp} : e.upd (some t) v t = v := by simp [Env.upd]
theorem putsE_other {D : Nat → Option Tmp} {V : Nat → PV} {t : Tmp} : ∀ {S : List Nat}, (∀ j ∈ S, D j ≠ some t) → putsE e D V S t = e t := by
  intro S
  induction S with
  | nil => intro _; rfl
  | cons i S ih => intro h; rw [putsE, upd_other (h i (by simp))]; exact ih fun j hj => h j (by simp [hj])
theorem putsE_same {D : Nat → Option Tmp} {V : Nat → PV} {t : Tmp} {i : Nat} (hd : D i = some t) : ∀ {S : List Nat}, i ∈ S → (∀ j ∈ S, D j = some t → j = i) → putsE e D V S t = V i := by
  intro S
  induction S with
  | nil => intro h; cases h
  | cons k S ih =>
    intro hi hu
    by_cases hk : D k = some t
    · have := hu k (by simp) hk
      subst this
      rw [putsE, hd, upd_same]
    · rw [putsE, upd_other hk]
      refine ih ?_ fun j hj => hu j (by simp [hj])
      rcases List.mem_cons.1 hi with rfl | h
      · exact absurd hd hk
      · exact h

/-- the values, in the text's order -/
theorem wmix_vals {ds : List (Option Nat)} {k : Env → Store → Prop} : ∀ (m : Nat) (R : List Oper) (e : Env) (f : Store), WMix P N m (lopsL ds R) e s f k →
    m ≤ R.length ∧ ∃ (V : Nat → PV) (A : Option Nat) (f' : Store), (∀ (i : Nat) (o : Oper), i < m → R[i]? = some o → (∀ d, o.dst = some d → d < N) ∧
        ((A ≠ some i ∧ ∀ t, WG P (lop ds o) (putsE e (fun i => ((R[i]?).map (·.dst)).getD none) V ((List.range i).reverse)) (s ++ t) (fun v' s' => v' = V i ∧ s' = s ++ t)) ∨
         (A = some i ∧ WG P (lop ds o) (putsE e (fun i => ((R[i]?).map (·.dst)).getD none) V ((List.range i).reverse)) s (fun v' s' => v' = V i ∧ s' = s ++ f')))) ∧
      (A = none → f' = f) ∧ (A ≠ none → f = []) ∧ (∀ a, A = some a → a < m) ∧
      WOps P N (lopsL ds (R.drop m)) (putsE e (fun i => ((R[i]?).map (·.dst)).getD none) V ((List.range m).reverse)) (s ++ f') k := by
  intro m
  induction m with
  | zero => intro R e f h; exact ⟨Nat.zero_le _, fun _ => .any, none, f, fun i o hi => absurd hi (Nat.not_lt_zero _), (fun _ => rfl), (fun h => absurd rfl h), (fun a (h : none = some a) => by cases h), (by cases R <;> exact h)⟩
  | succ m ih =>
    intro R e f h
    cases R with
    | nil => exact h.elim
    | cons o R =>
      obtain ⟨hN, h⟩ := h
      have key : ∀ (v : PV) (V : Nat → PV) n, putsE e (fun i => (((o :: R)[i]?).map (·.dst)).getD none) (fun i => if i = 0 then v else V (i - 1)) ((List.range (n + 1)).reverse) = putsE (e.upd (lop ds o).d v) (fun i => ((R[i]?).map (·.dst)).getD none) V ((List.range n).reverse) := by
        intro v V n
        induction n with
        | zero => rfl
        | succ n ih2 =>
          rw [List.range_succ, List.reverse_append]
          conv => rhs; rw [List.range_succ, List.reverse_append]
          simp only [List.reverse_cons, List.reverse_nil, List.nil_append, List.cons_append, putsE]
          rw [ih2]
          simp
      rcases h with ⟨v, hv, hr⟩ | ⟨hf, v, f2, hne, hg, hr⟩
      · obtain ⟨h1, V, A, f', h2, h3, h4, h5, h6⟩ := ih R _ f hr
        refine ⟨by simp; omega, fun i => if i = 0 then v else V (i - 1), A.map (· + 1), f', fun i o' hi ho' => ?_, fun h => h3 (by cases A <;> simp_all), fun h => h4 (by cases A <;> simp_all), fun a ha => ?_, ?_⟩
        · cases i with
          | zero => simp at ho'; subst ho'; exact ⟨hN, .inl ⟨by cases A <;> simp, hv⟩⟩
          | succ i =>
            obtain ⟨g1, g2⟩ := h2 i o' (by omega) (by simpa using ho')
            refine ⟨g1, ?_⟩
            rw [key]
            rcases g2 with ⟨g2, g3⟩ | ⟨g2, g3⟩
            · exact .inl ⟨by cases A <;> simp_all, by simpa using g3⟩
            · exact .inr ⟨by simp [g2], by simpa using g3⟩
        · cases A with
          | none => cases ha
          | some b => have := h5 b rfl; simp at ha; omega
        · rw [key]; simpa using h6
      · subst hf
        obtain ⟨h1, V, A, f', h2, h3, h4, h5, h6⟩ := ih R _ _ hr
        have hA : A = none := by
          cases A with
          | none => rfl
          | some a => exact absurd (h4 (by simp)) hne
        subst hA
        have hf' := h3 rfl
        subst hf'
        refine ⟨by simp; omega, fun i => if i = 0 then v else V (i - 1), some 0, f', fun i o' hi ho' => ?_, (fun h => by cases h), fun _ => rfl, fun a ha => by cases ha; omega, ?_⟩
        · cases i with
          | zero =>
            simp at ho'; subst ho'
            exact ⟨hN, .inr ⟨rfl, hg⟩⟩
          | succ i =>
            obtain ⟨g1, g2⟩ := h2 i o' (by omega) (by simpa using ho')
            refine ⟨g1, ?_⟩
            rw [key]
            rcases g2 with ⟨g2, g3⟩ | ⟨g2, _⟩
            · exact .inl ⟨by simp, by simpa using g3⟩
            · cases g2
        · rw [key]; simpa using h6

theorem WG.run {ops : Array Oper} {o : Oper} {k : PV → Store → Prop} {C : Ctx} {pub : PHeap} {σ : Sig} {a : Act} {w : World} {Q : Act → World → Prop} {Q' : Exit → Act → World → Prop} (h : WG P (lop (dsts ops.toList) o) e s k) (hN : ∀ d, o.dst = some d → d < N) (hs : SR C pub σ s w) (he : ER pub σ N e a)
    (hn : ∀ v s' pub' σ' a' w', k v s' → SR C pub' σ' s' w' → ER pub' σ' N (e.upd o.dst v) a' → Q a' w') :
    if Region.wanted o (yielded ops a.tmps) then o.wp P a w Q Q' else Q (a.put o.dst undef) w := by
  have go : WOp P o.op e s k → o.wp P a w Q Q' := by
    intro hw
    refine wop_ok (N := N) hw C pub σ a w _ _ hs he ?_
    intro v s' cv pub' σ' w' hk' hs' he' hr'
    exact hn v s' pub' σ' _ w' hk' hs' (he'.put _ hN hr')
  unfold WG lop at h
  cases hg : o.guard with
  | none =>
    simp only [hg] at h
    have : Region.wanted o (yielded ops a.tmps) = true := by simp [Region.wanted, hg]
    rw [if_pos this]
    exact go h
  | some g =>
    obtain ⟨j, b⟩ := g
    simp only [hg] at h
    cases hx : nth (dsts ops.toList) j with
    | none => simp only [hx] at h
    | some d =>
      simp only [hx] at h
      obtain ⟨t, ht, h1, h2⟩ := h
      have hdst : (ops[j]?).bind (·.dst) = some d := by
        rw [nth_eq, dsts_eq, List.getElem?_map, Array.getElem?_toList] at hx
        cases hx' : ops[j]? with
        | none => simp [hx'] at hx
        | some oo => simpa [hx'] using hx
      have hrel := he.rel d
      rw [ht] at hrel
      have hval := rel_bool hrel
      have hyield : yielded ops a.tmps j = some t := by
        unfold yielded
        rw [hdst]
        simp only [Option.bind_some]
        cases hx : a.tmps[d]? with
        | none =>
          rw [Array.getD_eq_getD_getElem?, hx] at hval
          simp [undef] at hval
        | some v =>
          rw [Array.getD_eq_getD_getElem?, hx] at hval
          simp at hval
          simp [hval]
      by_cases htb : t = b
      · have : Region.wanted o (yielded ops a.tmps) = true := by simp [Region.wanted, hg, hyield, htb]
        rw [if_pos this]
        exact go (h1 htb)
      · have : Region.wanted o (yielded ops a.tmps) = false := by simp [Region.wanted, hg, hyield, htb]
        rw [if_neg (by simp [this])]
        exact hn _ _ _ _ _ _ (h2 htb) hs (he.put _ hN (.tuple rfl fun j v c h => by simp at h))

theorem wg_congr {ops : Array Oper} {o : Oper} {k : PV → Store → Prop} (h : WG P (lop (dsts ops.toList) o) e s k) (hx : ∀ t ∈ tmpsOf o ++ guardTmp ops o, e t = e' t) : WG P (lop (dsts ops.toList) o) e' s k := by
  have hev : ∀ x ∈ o.op.operands, evO e x = evO e' x := by
    intro x hm
    cases x with
    | tmp t =>
      have := hx t (by
        rw [List.mem_append]; refine .inl ?_
        simp only [tmpsOf, List.mem_filterMap]
        exact ⟨.tmp t, by simpa using hm, rfl⟩)
      simpa [evO] using this
    | const v => rfl
    | global g => rfl
    | func f => rfl
  unfold WG lop at h ⊢
  cases hg : o.guard with
  | none => simp only [hg] at h ⊢; exact wop_congr h hev
  | some g =>
    obtain ⟨j, b⟩ := g
    simp only [hg] at h ⊢
    cases hn : nth (dsts ops.toList) j with
    | none => simp only [hn] at h
    | some d =>
      simp only [hn] at h ⊢
      obtain ⟨t, ht, h1, h2⟩ := h
      have hdst : (ops[j]?).bind (·.dst) = some d := by
        rw [nth_eq, dsts_eq, List.getElem?_map, Array.getElem?_toList] at hn
        cases hx' : ops[j]? with
        | none => simp [hx'] at hn
        | some oo => simpa [hx'] using hn
      have hd : e d = e' d := hx d (by rw [List.mem_append]; refine .inr ?_; simp [guardTmp, hg, hdst])
      exact ⟨t, by rw [← hd]; exact ht, fun h' => wop_congr (h1 h') hev, h2⟩

def filled (A : Option Nat) (f : Store) (S : List Nat) : Store := match A with
  | none => []
  | some a => if a ∈ S then f else []

theorem mix_ok {ops : Array Oper} {m' : Nat} (hchk : mixChk ops m' = true) {k : Env → Store → Prop} {C : Ctx} {pub : PHeap} {σ : Sig} {a : Act} {w : World} {Q : Exit → Act → World → Prop}
    (h : WMix P N m' (lopsL (dsts ops.toList) ops.toList) e s [] k) (hs : SR C pub σ s w) (he : ER pub σ N e a)
    (hk : ∀ e' s' pub' σ' a' w', k e' s' → SR C pub' σ' s' w' → ER pub' σ' N e' a' → Q .normal a' w') (t : Nat) : wpOps P ops Q (Region.schedule true ops t) a w := by
  unfold mixChk at hchk
  rw [Bool.and_eq_true] at hchk
  obtain ⟨hc1, hc2⟩ := hchk
  have hm : m' ≤ ops.size := by simpa using hc1
  rw [List.all_eq_true] at hc2
  have hop : ∀ i, i < ops.size → ∃ o, ops[i]? = some o ∧ (∀ j ∈ edgesOn o, j < i) ∧ (i < m' → (∀ j, j < m' → j ≠ i → o.dst ≠ none → (ops[j]?).map (·.dst) ≠ some o.dst) ∧
      ∀ t ∈ tmpsOf o ++ guardTmp ops o, ∀ j, j < m' → (ops[j]?).map (·.dst) = some (some t) → (j < i ∧ reaches ops ops.size i j = true) ∨ (i < j ∧ reaches ops ops.size j i = true)) ∧
      (m' ≤ i → ∀ j, j < i → reaches ops ops.size i j = true) := by
    intro i hi
    have hx := hc2 i (List.mem_range.2 hi)
    have ho : ops[i]? = some ops[i] := Array.getElem?_eq_getElem hi
    rw [ho] at hx
    simp only [Bool.and_eq_true, List.all_eq_true, decide_eq_true_eq] at hx
    obtain ⟨h1, h2⟩ := hx
    refine ⟨ops[i], ho, h1, fun him => ?_, fun him => ?_⟩
    · rw [if_pos him, Bool.and_eq_true, List.all_eq_true, List.all_eq_true] at h2
      obtain ⟨h3, h4⟩ := h2
      refine ⟨fun j hj hne hsome hd => ?_, fun t ht j hj hd => ?_⟩
      · have := h3 j (List.mem_range.2 hj)
        rw [hd] at this
        simp only [Bool.or_eq_true, beq_iff_eq, Option.isNone_iff_eq_none] at this
        rcases this with (h5 | h5) | h5
        · exact hne h5
        · exact hsome h5
        · simp at h5
      · have := h4 t ht
        rw [List.all_eq_true] at this
        have := this j (List.mem_range.2 hj)
        rw [hd] at this
        simp only [Bool.or_eq_true, Bool.and_eq_true, decide_eq_true_eq] at this
        rcases this with (h5 | h5) | h5
        · simp at h5
        · exact .inl h5
        · exact .inr h5
    · rw [if_neg (by omega), List.all_eq_true] at h2
      exact fun j hj => h2 j (List.mem_range.2 hj)
  obtain ⟨hch, hall⟩ := schedule_chain (fun i o ho j hj => by
    obtain ⟨o', ho', h3, _⟩ := hop i (arr_lt ho)
    rw [ho] at ho'; cases ho'; exact h3 j hj) t
  obtain ⟨_, V, A, f', hV, hA0, _, hA1, hT⟩ := wmix_vals m' ops.toList e [] h
  obtain ⟨fS, hfS⟩ : ∃ fS : List Nat → Store, fS = filled A f' := ⟨_, rfl⟩
  obtain ⟨D, hD⟩ : ∃ D : Nat → Option Tmp, D = fun i => ((ops.toList[i]?).map (·.dst)).getD none := ⟨_, rfl⟩
  rw [← hD] at hV hT
  have hDj : ∀ j o, ops[j]? = some o → D j = o.dst := fun j o ho => by rw [hD]; simp [Array.getElem?_toList, ho]
  have hdist : ∀ i j t, i < m' → j < m' → D i = some t → D j = some t → j = i := by
    intro i j t hi hj h1 h2
    obtain ⟨o, ho, _, h3, _⟩ := hop i (by omega)
    obtain ⟨o', ho', _⟩ := hop j (by omega)
    rcases Nat.decEq j i with hne | heq
    · refine absurd ?_ ((h3 hi).1 j hj hne (by rw [← hDj i o ho, h1]; simp))
      rw [ho']; simp only [Option.map_some, Option.some.injEq]
      rw [← hDj j o' ho', ← hDj i o ho, h1, h2]
    · exact heq
  have hfull : ∀ S : List Nat, (∀ i ∈ S, i < m') → (∀ i, i < m' → i ∈ S) → putsE e D V S = putsE e D V ((List.range m').reverse) := by
    intro S h1 h2
    funext t
    by_cases hex : ∃ j, j < m' ∧ D j = some t
    · obtain ⟨j, hj, hd⟩ := hex
      rw [putsE_same hd (h2 j hj) fun i hi hdi => hdist j i t hj (h1 i hi) hd hdi, putsE_same hd (by simp [hj]) fun i hi hdi => hdist j i t hj (by simpa using hi) hd hdi]
    · rw [putsE_other fun j hj hd => hex ⟨j, h1 j hj, hd⟩, putsE_other fun j hj hd => hex ⟨j, by simpa using hj, hd⟩]
  -- the end: one after the other
  have fin : ∀ (l S : List Nat), Chain ops S l → (∀ i, i < ops.size → i ∈ S ∨ i ∈ l) → (∀ i ∈ S, ∀ o, ops[i]? = some o → ∀ j ∈ edgesOn o, j ∈ S) → ∀ (i : Nat), m' ≤ i → i ≤ ops.size → (∀ j, j ∈ S ↔ j < i) → ∀ (e : Env) (s : Store) (pub : PHeap) (σ : Sig) (a : Act) (w : World), WOps P N (lopsL (dsts ops.toList) (ops.toList.drop i)) e s k → SR C pub σ s w → ER pub σ N e a → wpOps P ops Q l a w := by
    intro l
    induction l with
    | nil =>
      intro S hc hcov hcl i hmi his hS e s pub σ a w hW hs he
      have : i = ops.size := by
        rcases Nat.lt_or_ge i ops.size with h | h
        · rcases hcov i h with h9 | h9
          · exact absurd ((hS i).1 h9) (Nat.lt_irrefl _)
          · cases h9
        · omega
      rw [List.drop_eq_nil_of_le (by simp; omega)] at hW
      exact hk _ _ _ _ _ _ hW hs he
    | cons q l ih =>
      intro S hc hcov hcl i hmi his hS e s pub σ a w hW hs he
      cases hc with
      | cons hi hn hed hrest =>
        rename_i o
        have hq : q < ops.size := arr_lt hi
        obtain ⟨o', ho', hlt, _, h4⟩ := hop q hq
        rw [hi] at ho'; cases ho'
        have hqi : q = i := by
          have h5 : ¬ q < i := fun h => hn ((hS q).2 h)
          rcases Nat.lt_or_ge i q with h6 | h6
          · exact absurd ((hS i).1 (reaches_in hcl _ _ _ o hi hed (h4 (by omega) i h6))) (Nat.lt_irrefl _)
          · omega
        subst hqi
        have hdr : ops.toList.drop q = o :: ops.toList.drop (q + 1) := by
          rw [List.drop_eq_getElem_cons (by simpa using hq)]
          have : ops[q] = o := by rw [Array.getElem?_eq_getElem hq] at hi; exact Option.some.inj hi
          simp [this]
        rw [hdr] at hW
        have hW' : (∀ d, o.dst = some d → d < N) ∧ WG P (lop (dsts ops.toList) o) e s fun v s' => WOps P N (lopsL (dsts ops.toList) (ops.toList.drop (q + 1))) (e.upd o.dst v) s' k := by
          simp only [lopsL, WOps] at hW
          unfold WG
          cases hg : (lop (dsts ops.toList) o).g with
          | none => rw [hg] at hW; exact hW
          | some g =>
            obtain ⟨j, b⟩ := g
            cases j with
            | none => rw [hg] at hW; exact hW.elim
            | some d => rw [hg] at hW; exact hW
        obtain ⟨hN, hG⟩ := hW'
        have hS' : ∀ j, j ∈ q :: S ↔ j < q + 1 := fun j => by
          rw [List.mem_cons, hS j]; omega
        have hrun := WG.run (Q' := Q) (Q := fun a' w' => wpOps P ops Q l a' w') hG hN hs he (fun v s' pub' σ' a' w' hk' hs' he' =>
          ih (q :: S) hrest (fun i hi' => by
            rcases hcov i hi' with h9 | h9
            · exact .inl (by simp [h9])
            · rcases List.mem_cons.1 h9 with rfl | h9
              · exact .inl (by simp)
              · exact .inr h9) (fun p hp op hop' j hj => by
            rcases List.mem_cons.1 hp with rfl | hp
            · rw [hi] at hop'; cases hop'; exact List.mem_cons_of_mem _ (hed j hj)
            · exact List.mem_cons_of_mem _ (hcl p hp op hop' j hj)) (q + 1) (by omega) (by omega) hS' _ _ _ _ _ _ hk' hs' he')
        simp only [wpOps, hi]
        split at hrun
        · rename_i hwt; rw [if_pos hwt]; exact .inl hrun
        · rename_i hwt; rw [if_neg hwt]; exact hrun
  have hfSfull : ∀ S : List Nat, (∀ i, i < m' → i ∈ S) → fS S = f' := by
    intro S h
    rw [hfS]
    cases A with
    | none => exact (hA0 rfl).symm
    | some a => simp [filled, h a (hA1 a rfl)]
  -- whatever the order
  have key : ∀ (l S : List Nat), Chain ops S l → (∀ i, i < ops.size → i ∈ S ∨ i ∈ l) → (∀ i ∈ S, ∀ o, ops[i]? = some o → ∀ j ∈ edgesOn o, j ∈ S) → (∀ i ∈ S, i < m') → ∀ (pub : PHeap) (σ : Sig) (a : Act) (w : World), SR C pub σ (s ++ fS S) w → ER pub σ N (putsE e D V S) a → wpOps P ops Q l a w := by
    intro l
    induction l with
    | nil =>
      intro S hc hcov hcl hlt pub σ a w hs he
      have hcover : ∀ i, i < m' → i ∈ S := fun i hi => by
        rcases hcov i (by omega) with h9 | h9
        · exact h9
        · cases h9
      have hmn : m' = ops.size := by
        rcases Nat.lt_or_ge m' ops.size with h | h
        · rcases hcov m' h with h9 | h9
          · exact absurd (hlt _ h9) (Nat.lt_irrefl _)
          · cases h9
        · omega
      rw [hfull S hlt hcover] at he
      rw [hfSfull S hcover] at hs
      exact fin [] S hc hcov hcl m' (Nat.le_refl _) hm (fun j => ⟨hlt j, hcover j⟩) _ _ _ _ _ _ hT hs he
    | cons q l ih =>
      intro S hc hcov hcl hlt pub σ a w hs he
      have hc0 := hc
      cases hc with
      | cons hi hn hed hrest =>
        rename_i o
        have hq : q < ops.size := arr_lt hi
        obtain ⟨o', ho', hlti, h3, h4⟩ := hop q hq
        rw [hi] at ho'; cases ho'
        rcases Nat.lt_or_ge q m' with hqm | hqm
        · obtain ⟨_, htm⟩ := h3 hqm
          obtain ⟨hN, hG⟩ := hV q o hqm (by rw [Array.getElem?_toList]; exact hi)
          have hops : ∀ (s1 : Store) (kk : PV → Store → Prop), WG P (lop (dsts ops.toList) o) (putsE e D V ((List.range q).reverse)) s1 kk → WG P (lop (dsts ops.toList) o) (putsE e D V S) s1 kk := fun s1 kk hG => wg_congr (e' := putsE e D V S) hG (fun t ht => by
            by_cases hex : ∃ j, j < m' ∧ D j = some t
            · obtain ⟨j, hj, hd⟩ := hex
              obtain ⟨oj, hoj, _⟩ := hop j (by omega)
              have hdj : (ops[j]?).map (·.dst) = some (some t) := by rw [hoj]; simp only [Option.map_some]; rw [← hDj j oj hoj, hd]
              rcases htm t ht j hj hdj with ⟨h5, h6⟩ | ⟨h5, h6⟩
              · have hjS : j ∈ S := reaches_in hcl _ _ _ o hi hed h6
                rw [putsE_same hd hjS fun p hp hdp => hdist j p t hj (hlt p hp) hd hdp, putsE_same hd (by simp [h5]) fun p hp hdp => hdist j p t hj (by simp at hp; omega) hd hdp]
              · have hjS : j ∉ S := fun hjS => hn (reaches_in hcl _ _ _ oj hoj (hcl j hjS oj hoj) h6)
                rw [putsE_other fun p hp hdp => by
                  have := hdist j p t hj (by simp at hp; omega) hd hdp
                  simp at hp; omega, putsE_other fun p hp hdp => hjS (hdist j p t hj (hlt p hp) hd hdp ▸ hp)]
            · rw [putsE_other fun p hp hdp => hex ⟨p, by simp at hp; omega, hdp⟩, putsE_other fun p hp hdp => hex ⟨p, hlt p hp, hdp⟩])
          have hG' : WG P (lop (dsts ops.toList) o) (putsE e D V S) (s ++ fS S) (fun v' s' => v' = V q ∧ s' = s ++ fS (q :: S)) := by
            rcases hG with ⟨hA, hG⟩ | ⟨hA, hG⟩
            · have : fS (q :: S) = fS S := by
                rw [hfS]
                cases A with
                | none => rfl
                | some b =>
                  have hne : ¬ b = q := fun e => hA (by rw [e])
                  simp [filled, hne]
              rw [this]
              exact hops _ _ (hG (fS S))
            · have h1 : fS S = [] := by rw [hfS, hA]; simp [filled, hn]
              have h2 : fS (q :: S) = f' := by rw [hfS, hA]; simp [filled]
              rw [h1, h2, List.append_nil]
              exact hops _ _ hG
          have hrun := WG.run (Q' := Q) (Q := fun a' w' => wpOps P ops Q l a' w') hG' hN hs he (fun v s' pub' σ' a' w' hk' hs' he' => by
            obtain ⟨rfl, rfl⟩ := hk'
            refine ih (q :: S) hrest (fun i hi' => by
              rcases hcov i hi' with h9 | h9
              · exact .inl (by simp [h9])
              · rcases List.mem_cons.1 h9 with rfl | h9
                · exact .inl (by simp)
                · exact .inr h9) (fun p hp op hop' j hj => by
              rcases List.mem_cons.1 hp with rfl | hp
              · rw [hi] at hop'; cases hop'; exact List.mem_cons_of_mem _ (hed j hj)
              · exact List.mem_cons_of_mem _ (hcl p hp op hop' j hj)) (fun p hp => by
              rcases List.mem_cons.1 hp with rfl | hp
              · exact hqm
              · exact hlt p hp) _ _ _ _ hs' ?_
            rw [putsE, hDj q o hi]; exact he')
          simp only [wpOps, hi]
          split at hrun
          · rename_i hwt; rw [if_pos hwt]; exact .inl hrun
          · rename_i hwt; rw [if_neg hwt]; exact hrun
        · have hcover : ∀ j, j < m' → j ∈ S := fun j hj => reaches_in hcl _ _ _ o hi hed (h4 hqm j (by omega))
          rw [hfull S hlt hcover] at he
          rw [hfSfull S hcover] at hs
          exact fin (q :: l) S hc0 hcov hcl m' (Nat.le_refl _) hm (fun j => ⟨hlt j, hcover j⟩) _ _ _ _ _ _ hT hs he
  exact key _ [] hch (fun i hi => .inr (hall i hi)) (fun i hi => by cases hi) (fun i hi => by cases hi) pub σ a w (by rw [hfS]; cases A <;> simpa [filled] using hs) he

theorem EvL.mixk {ops : Array Oper} (n : Nat) (hmix : P.follows .mixedOrders = true) (hchk : mixChk ops n = true) (h : ∀ k : Env → Store → Prop, (∀ e' s', K .normal e' s' → k e' s') → WMix P N n (lopsL (dsts ops.toList) ops.toList) e s [] k) : EvL P N m (.drawn ops) e s K := by
  intro c hc C pub σ a w hm hs he
  cases c <;> simp only [light] at hc <;> first | (cases hc; done) | skip
  rename_i id ops' draw
  cases draw <;> simp only [regL] at hc <;> first | (cases hc; done) | skip
  cases hc
  refine wp_region_draw fun t => ?_
  rw [hmix]
  have hs1 : SR C pub σ s { w with drawn := w.drawn + 1 } := hs.drawn rfl rfl rfl rfl
  exact mix_ok hchk (k := fun e' s' => K .normal e' s') (h _ fun _ _ h => h) hs1 he (fun e' s' pub' σ' a' w' hk hs' he' => ⟨e', s', pub', σ', hk, hs', he'⟩) t
end
end Go.Pv
