/-
  Bits of numbers; truth values in lists; a formula's names.
-/
import Derived.Test.YtnoklmapofogeaaQTw
namespace Go.Proofs.Ytnoklmapofogeaa
open Go Go.Pv
set_option linter.unusedVariables false
set_option linter.unusedSimpArgs false
set_option maxRecDepth 100000
set_option maxHeartbeats 4000000

theorem shr_nat (x i : Nat) (hx : x < 1048576) : shrI .i64 (x : Int) (i : Int) = ((x / 2 ^ i : Nat) : Int) := by
  have h0 : shrI .i64 (x : Int) (i : Int) = (x : Int).fdiv (2 ^ (min i 64)) := rfl
  have h1 : (x : Int).fdiv (2 ^ (min i 64)) = ((x / 2 ^ (min i 64) : Nat) : Int) := by
    rw [Int.fdiv_eq_ediv_of_nonneg _ (Int.le_of_lt (Int.pow_pos (by decide)))]
    simp
  rw [h0, h1]
  by_cases hi : i ≤ 64
  · rw [Nat.min_eq_left hi]
  · have h5 : x < 2 ^ 64 := by omega
    rw [Nat.min_eq_right (by omega), Nat.div_eq_of_lt h5, Nat.div_eq_of_lt (Nat.lt_of_lt_of_le h5 (Nat.pow_le_pow_right (by decide) (by omega)))]
theorem and_nat (x y : Nat) (hx : x < 1048576) (hy : y < 1048576) : andI .i64 (x : Int) (y : Int) = ((x &&& y : Nat) : Int) := by
  have h2 : (BitVec.ofInt 64 (x : Int) &&& BitVec.ofInt 64 (y : Int)).toNat = x &&& y := by
    rw [BitVec.toNat_and]
    simp only [BitVec.ofInt_natCast, BitVec.toNat_ofNat]
    rw [Nat.mod_eq_of_lt (by omega), Nat.mod_eq_of_lt (by omega)]
  have h3 : x &&& y ≤ x := Nat.and_le_left
  show IntKind.i64.wrap (((BitVec.ofInt 64 (x : Int) &&& BitVec.ofInt 64 (y : Int)).toNat : Nat) : Int) = _
  rw [h2, wrap64 (by omega) (by omega)]
theorem has_bits (x i : Nat) (hx : x < 1048576) : andI .i64 (shrI .i64 (x : Int) (i : Int)) 1 = if x.testBit i then 1 else 0 := by
  have h3 : x / 2 ^ i ≤ x := Nat.div_le_self _ _
  rw [shr_nat x i hx, show (1 : Int) = ((1 : Nat) : Int) from rfl, and_nat _ _ (by omega) (by omega), Nat.and_one_is_mod, Nat.testBit_eq_decide_div_mod_eq]
  have := Nat.mod_two_eq_zero_or_one (x / 2 ^ i)
  rcases this with h | h <;> simp [h]
theorem shl_nat (i : Nat) (hi : i ≤ 20) : shlI .i64 1 (i : Int) = ((2 ^ i : Nat) : Int) := by
  have h0 : shlI .i64 1 (i : Int) = IntKind.i64.wrap (1 * 2 ^ (min i 64)) := rfl
  have h : 2 ^ i ≤ 2 ^ 20 := Nat.pow_le_pow_right (by decide) hi
  rw [h0, Nat.min_eq_left (by omega), Int.one_mul, show ((2 : Int) ^ i) = ((2 ^ i : Nat) : Int) by simp]
  generalize 2 ^ i = x at h ⊢
  rw [wrap64 (by omega) (by omega)]
theorem okF_names (ns : List ByteArray) : ∀ f : Fm, OkF (fun n => isNameB n = true) f → (∀ x ∈ pre f, x.kind = 1 → x.name ∈ ns) → OkF (fun n => n ∈ ns) f := by
  intro f h
  induction h with
  | mk hl hN hk ih =>
    rename_i k nm kids
    intro hall
    refine .mk hl (fun e => hall (.mk k nm kids) (by rw [pre_eq]; exact List.mem_cons_self) e) fun g hg => ih g hg fun x hx e => hall x ?_ e
    rw [pre_eq]
    exact List.mem_cons_of_mem _ (pres_mem hx _ hg)
/-- the names of a formula, rising -/
def namesF (f : Fm) : List ByteArray := compL (sortL (varsL (nodesGo 200 200 [f])))
theorem namesF_pre {f : Fm} (h : (formulaCheck f).1 = 0) : nodesGo 200 200 [f] = pre f := by
  obtain ⟨h1, h2⟩ := (formulaCheck_iff f).1 h
  rw [nodesGo_take 200 200 [f] (by omega), pres_cons, pres_nil, List.append_nil, List.take_of_length_le h2]
theorem namesF_mem {f x : Fm} (h : (formulaCheck f).1 = 0) (hx : x ∈ pre f) (hk : x.kind = 1) : x.name ∈ namesF f := by
  unfold namesF
  rw [(comp_ok _).2, namesF_pre h]
  unfold varsL
  exact List.mem_map.2 ⟨x, List.mem_filter.2 ⟨hx, by simpa using hk⟩, rfl⟩
theorem namesF_okF {f : Fm} (h : (formulaCheck f).1 = 0) : OkF (fun n => n ∈ namesF f) f :=
  okF_names _ f (td_check h).ok fun x hx hk => namesF_mem h hx hk
theorem ris_nodup {l : List ByteArray} (h : Ris l) : l.Nodup := by
  unfold Ris at h
  refine h.imp fun {a b} hab e => ?_
  subst e
  exact absurd hab (List.lt_irrefl _)
theorem namesF_nodup (f : Fm) : (namesF f).Nodup := ris_nodup (comp_ok _).1
/-- the document's names are the program's -/
theorem namesIn_eq {f : Fm} (h : (formulaCheck f).1 = 0) : (varsL (walkL f 100000)).foldl insR [] = namesF f := by
  rw [← comp_ins]
  have hp := ((formulaCheck_iff f).1 h).2
  have : walkL f 100000 = nodesGo 200 200 [f] := by
    rw [show (100000 : Int) = ((100000 : Nat) : Int) from rfl, walk_take, namesF_pre h, List.take_of_length_le (by omega)]
  rw [this]; rfl
theorem rowL_mem : ∀ (ns : List ByteArray), ns.Nodup → ∀ (i k : Nat) (x : ByteArray), ns[i]? = some x → (x ∈ rowL ns k ↔ k.testBit i = true)
  | [], _, i, k, x, h => by simp at h
  | a :: r, hd, i, k, x, h => by
    have hsub : ∀ (l : List ByteArray) (k : Nat) (y : ByteArray), y ∈ rowL l k → y ∈ l := by
      intro l
      induction l with
      | nil => intro k y h; exact h
      | cons b r ih =>
        intro k y h
        rw [rowL] at h
        split at h
        · rcases List.mem_cons.1 h with rfl | h
          · exact List.mem_cons_self
          · exact List.mem_cons_of_mem _ (ih _ _ h)
        · exact List.mem_cons_of_mem _ (ih _ _ h)
    rw [List.nodup_cons] at hd
    cases i with
    | zero =>
      simp at h; subst h
      rw [rowL, Nat.testBit_zero]
      split
      · simp [*]
      · simp [*]; exact fun g => hd.1 (hsub _ _ _ g)
    | succ i =>
      rw [List.getElem?_cons_succ] at h
      have ih := rowL_mem r hd.2 i (k / 2) x h
      have hx : x ≠ a := by rintro rfl; exact hd.1 (List.mem_of_getElem? h)
      rw [rowL, Nat.testBit_succ, ← ih]
      split <;> simp [hx]
end Go.Proofs.Ytnoklmapofogeaa
