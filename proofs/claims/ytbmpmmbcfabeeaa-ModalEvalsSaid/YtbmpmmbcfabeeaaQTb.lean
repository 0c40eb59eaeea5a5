/-
  Bits of numbers; truth values in lists; a formula's names.
-/
import Derived.Test.YtbmpmmbcfabeeaaQTw
namespace Go.Proofs.Ytbmpmmbcfabeeaa
open Go Go.Pv
set_option linter.unusedVariables false
set_option linter.unusedSimpArgs false
set_option maxRecDepth 100000
set_option maxHeartbeats 4000000

def indexB (l : List Bool) (v : Bool) : Int := match l.findIdx? (fun x => decide (v = x)) with
  | some i => (i : Int)
  | none => -1
theorem indexB_mem (l : List Bool) (v : Bool) : decide (indexB l v ≥ 0) = decide (v ∈ l) := by
  unfold indexB
  by_cases h : v ∈ l
  · have : (l.findIdx? fun x => decide (v = x)).isSome = true := by
      rw [List.findIdx?_isSome, List.any_eq_true]; exact ⟨v, h, by simp⟩
    obtain ⟨i, hi⟩ := Option.isSome_iff_exists.1 this
    rw [hi]; simp [h]
  · have : l.findIdx? (fun x => decide (v = x)) = none := by
      rw [List.findIdx?_eq_none_iff]; intro x hx; simp; rintro rfl; exact h hx
    rw [this]; simp [h]
def x121_L0 : XC := .seq (.reg [⟨some 9,.binOp .lss 3 (.tmp 8) (.tmp 7) 3,none⟩]) (.seq (.cond (.tmp 9) (.skip) (.exit 0)) (.seq (.block 1 (.seq (.reg [⟨some 10,.move (.tmp 8),none⟩,⟨some 5,.assign (.tmp 10),none⟩]) (.seq (.reg [⟨some 11,.move (.tmp 1),none⟩,⟨some 12,.move (.tmp 0),none⟩,⟨some 13,.move (.tmp 5),none⟩,⟨some 14,.indexAddr 46 (.tmp 12) (.tmp 13),none⟩,⟨some 15,.load 4 (.tmp 14),none⟩,⟨some 16,.binOp .eql 4 (.tmp 11) (.tmp 15) 4,none⟩]) (.cond (.tmp 16) (.seq (.reg [⟨some 17,.move (.tmp 5),none⟩,⟨some 4,.assign (.tmp 17),none⟩]) (.ret)) (.skip))))) (.reg [⟨some 18,.binOp .add 3 (.tmp 8) (.const (.int .i64 1)) 3,none⟩,⟨some 8,.move (.tmp 18),none⟩])))
def x121 : XC := .seq (.reg [⟨some 4,.assign (.const (.int .i64 0)),none⟩]) (.seq (.seq (.reg [⟨some 6,.move (.tmp 0),none⟩,⟨some 7,.call ⟨.builtin .len,#[.tmp 6],#[46]⟩,none⟩,⟨some 8,.move (.const (.int .i64 0)),none⟩]) (.bloop 0 x121_L0)) (.seq (.reg [⟨some 4,.assign (.const (.int .i64 (-1))),none⟩]) (.ret)))
@[simp] theorem x121_s {C : WC} {e : AE} {s : Store} {K : KS} : type_of% (@X_at C e s K _ _ x121_L0.eq_1) ∧ type_of% (@X_at C e s K _ _ x121.eq_1) := ⟨X_at x121_L0.eq_1, X_at x121.eq_1⟩
def an121 : Ann := ⟨[], [(0, [], [0, 1, 7, 8], [4])], []⟩
def cx121 (P : Program) (m : Nat) : WC := ⟨P, m, an121⟩
@[simp] theorem cx121_a {P : Program} {m : Nat} : (cx121 P m).P = P ∧ (cx121 P m).m = m ∧ (cx121 P m).A.loopOf 0 = ([], [0, 1, 7, 8], [4]) := ⟨rfl, rfl, rfl⟩
instance {P : Program} {m f : Nat} [h : EnT P f] : EnT (cx121 P m).P f := h
theorem chk121 : ∀ c, Try.f121.body = some c → chkC Try.f121.ntmps an121 c = true := by intro c h; obtain rfl := Option.some.inj h; decide +kernel
theorem op121 {args : List PV} {v : PV} (h : X (cx121 Try.prog 0) x121 (argsA 0 args) [] (.fin [.tmp 4] fun v1 s1 => deref s1 6 v1 = v)) (hl : args.length ≤ Try.f121.ntmps := by rw [Try.ntmps121]; simp) : CallOK Try.prog 121 args [] v [] :=
  callX (m := 0) (cx121 Try.prog 0) x121 rfl rfl (by kernel_rfl) Try.func121 rfl rfl hl mixed (chk121 _ rfl) (by rw [Try.results121]; exact h)

theorem Index_bools (l : List Bool) (v : Bool) (hl : l.length ≤ 1000) : CallOK Try.prog 121 [.list (l.map boolRow), .bool v] [] (.int .i64 (indexB l v)) [] := by
  refine op121 ?_
  (((try simp (implicitDefEqProofs := false)); (try simp (implicitDefEqProofs := false) (disch := first | assumption | (try simp only [lens]); omega -splitDisjunctions))); all_goals try (repeat' ((first | ((with_reducible first | refine And.intro ?_ ?_ | refine Exists.intro ?_ ?_); first | omega | (simp <;> omega)) | (with_reducible refine spl (And.intro ?_ ?_) <;> intro _)) <;> ((try simp (implicitDefEqProofs := false)); (try simp (implicitDefEqProofs := false) (disch := first | assumption | (try simp only [lens]); omega -splitDisjunctions))))))
  refine W_of fun Q hQ => ?_
  have main : ∀ k i, i + k = l.length → (∀ j (h : j < l.length), j < i → v ≠ l[j]) → Q [(0, .list (l.map boolRow)), (1, .bool v), (7, .int .i64 (l.length : Int)), (8, .int .i64 (i : Int))] [] := by
    intro k
    induction k with
    | zero =>
      intro i hi hb
      have hx : indexB l v = -1 := by
        unfold indexB
        rw [List.findIdx?_eq_none_iff.2]
        intro x hx
        obtain ⟨j, hj, rfl⟩ := List.mem_iff_getElem.1 hx
        simpa using hb j hj (by omega)
      apply hQ
      (((try simp (implicitDefEqProofs := false)); (try simp (implicitDefEqProofs := false) (disch := first | assumption | (try simp only [lens]); omega -splitDisjunctions))); all_goals try (repeat' ((first | ((with_reducible first | refine And.intro ?_ ?_ | refine Exists.intro ?_ ?_); first | omega | (simp <;> omega)) | (with_reducible refine spl (And.intro ?_ ?_) <;> intro _)) <;> ((try simp (implicitDefEqProofs := false)); (try simp (implicitDefEqProofs := false) (disch := first | assumption | (try simp only [lens]); omega -splitDisjunctions))))))
      all_goals simp [hx]
    | succ k ih =>
      intro i hi hb
      have hil : i < l.length := by omega
      have ih := ih (i + 1) (by omega)
      by_cases hv : v = l[i]
      · have hx : indexB l v = i := by
          unfold indexB
          have : l.findIdx? (fun x => decide (v = x)) = some i := by
            rw [List.findIdx?_eq_some_iff_getElem]
            exact ⟨hil, by simpa using hv, fun j hj => by simpa using hb j (by omega) hj⟩
          rw [this]
        apply hQ
        clear hQ ih
        (((try simp (implicitDefEqProofs := false) [hil]); (try simp (implicitDefEqProofs := false) (disch := first | assumption | (try simp only [lens]); omega -splitDisjunctions) [hil])); all_goals try (repeat' ((first | ((with_reducible first | refine And.intro ?_ ?_ | refine Exists.intro ?_ ?_); first | omega | (simp <;> omega)) | (with_reducible refine spl (And.intro ?_ ?_) <;> intro _)) <;> ((try simp (implicitDefEqProofs := false) [hil]); (try simp (implicitDefEqProofs := false) (disch := first | assumption | (try simp only [lens]); omega -splitDisjunctions) [hil])))))
        all_goals simp_all
      · have ih := ih (fun j h hj => by
          by_cases e : j = i
          · subst e; exact hv
          · exact hb j h (by omega))
        apply hQ
        clear hQ
        (((try simp (implicitDefEqProofs := false) [hil, hv]); (try simp (implicitDefEqProofs := false) (disch := first | assumption | (try simp only [lens]); omega -splitDisjunctions) [hil, hv])); all_goals try (repeat' ((first | ((with_reducible first | refine And.intro ?_ ?_ | refine Exists.intro ?_ ?_); first | omega | (simp <;> omega)) | (with_reducible refine spl (And.intro ?_ ?_) <;> intro _)) <;> ((try simp (implicitDefEqProofs := false) [hil, hv]); (try simp (implicitDefEqProofs := false) (disch := first | assumption | (try simp only [lens]); omega -splitDisjunctions) [hil, hv])))))
        all_goals simp_all
  refine at2 (main _ 0 (Nat.zero_add _) (fun j h hj => by omega)) ?_ ?_ <;> simp
def x80 : XC := .seq (.reg [⟨some 4,.assign (.const (.bool false)),none⟩]) (.seq (.reg [⟨some 5,.move (.tmp 0),none⟩,⟨some 6,.move (.tmp 1),none⟩,⟨some 7,.call ⟨.value (.func 121),#[.tmp 5,.tmp 6],#[46,4]⟩,none⟩,⟨some 8,.binOp .geq 3 (.tmp 7) (.const (.int .i64 0)) 3,none⟩,⟨some 4,.assign (.tmp 8),none⟩]) (.ret))
@[simp] theorem x80_s {C : WC} {e : AE} {s : Store} {K : KS} : type_of% (@X_at C e s K _ _ x80.eq_1) := X_at x80.eq_1
def an80 : Ann := ⟨[], [], []⟩
def cx80 (P : Program) (m : Nat) : WC := ⟨P, m, an80⟩
@[simp] theorem cx80_a {P : Program} {m : Nat} : (cx80 P m).P = P ∧ (cx80 P m).m = m := ⟨rfl, rfl⟩
instance {P : Program} {m f : Nat} [h : EnT P f] : EnT (cx80 P m).P f := h
theorem chk80 : ∀ c, Try.f80.body = some c → chkC Try.f80.ntmps an80 c = true := by intro c h; obtain rfl := Option.some.inj h; decide +kernel
theorem op80 {args : List PV} {v : PV} (h : X (cx80 Try.prog 0) x80 (argsA 0 args) [] (.fin [.tmp 4] fun v1 s1 => deref s1 6 v1 = v)) (hl : args.length ≤ Try.f80.ntmps := by rw [Try.ntmps80]; simp) : CallOK Try.prog 80 args [] v [] :=
  callX (m := 0) (cx80 Try.prog 0) x80 rfl rfl (by kernel_rfl) Try.func80 rfl rfl hl mixed (chk80 _ rfl) (by rw [Try.results80]; exact h)

theorem Contains_bools (l : List Bool) (v : Bool) (hl : l.length ≤ 1000) : CallOK Try.prog 80 [.list (l.map boolRow), .bool v] [] (.bool (decide (v ∈ l))) [] := by
  have h := Index_bools l v hl
  rw [← indexB_mem]
  refine op80 ?_
  (((try simp (implicitDefEqProofs := false)); (try simp (implicitDefEqProofs := false) (disch := first | assumption | (try simp only [lens]); omega -splitDisjunctions))); all_goals try (repeat' ((first | ((with_reducible first | refine And.intro ?_ ?_ | refine Exists.intro ?_ ?_); first | omega | (simp <;> omega)) | (with_reducible refine spl (And.intro ?_ ?_) <;> intro _) | (refine CL.see (h) ?_ ?_ ?_; (focus (first | (simp; done) | (simp [scn]; done))); (focus (simp [flats]; done))) | (refine CD.see (h) ?_ ?_ ?_; (focus (first | (simp; done) | (simp [scn]; done))); (focus (simp [flats]; done)))) <;> ((try simp (implicitDefEqProofs := false)); (try simp (implicitDefEqProofs := false) (disch := first | assumption | (try simp only [lens]); omega -splitDisjunctions))))))
  all_goals rfl
theorem shr_nat (x i : Nat) (hx : x < 1048576) : shrI .i64 (x : Int) (i : Int) = ((x / 2 ^ i : Nat) : Int) := by
  have h0 : shrI .i64 (x : Int) (i : Int) = (x : Int).fdiv (2 ^ (min i 64)) := rfl
  have h1 : (x : Int).fdiv (2 ^ (min i 64)) = ((x / 2 ^ (min i 64) : Nat) : Int) := by
    rw [Int.fdiv_eq_ediv_of_nonneg _ (Int.le_of_lt (Int.pow_pos (by decide)))]
    simp
  rw [h0, h1]
  by_cases hi : i ≤ 64
  · rw [Nat.min_eq_left hi]
  · have h5 : x < 2 ^ 64 := by omega
    rw [Nat.min_eq_right (by omega), Nat.div_eq_of_lt h5, Nat.div_eq_of_lt (Nat.lt_of_lt_of_le h5 (Nat.pow_le_pow_right (by decide) (by omega)))]
theorem and_nat (x y : Nat) (hx : x < 1048576) (hy : y < 1048576) : andI .i64 (x : Int) (y : Int) = ((x &&& y : Nat) : Int) := by
  have h2 : (BitVec.ofInt 64 (x : Int) &&& BitVec.ofInt 64 (y : Int)).toNat = x &&& y := by
    rw [BitVec.toNat_and]
    simp only [BitVec.ofInt_natCast, BitVec.toNat_ofNat]
    rw [Nat.mod_eq_of_lt (by omega), Nat.mod_eq_of_lt (by omega)]
  have h3 : x &&& y ≤ x := Nat.and_le_left
  show IntKind.i64.wrap (((BitVec.ofInt 64 (x : Int) &&& BitVec.ofInt 64 (y : Int)).toNat : Nat) : Int) = _
  rw [h2, wrap64 (by omega) (by omega)]
theorem has_bits (x i : Nat) (hx : x < 1048576) : andI .i64 (shrI .i64 (x : Int) (i : Int)) 1 = if x.testBit i then 1 else 0 := by
  have h3 : x / 2 ^ i ≤ x := Nat.div_le_self _ _
  rw [shr_nat x i hx, show (1 : Int) = ((1 : Nat) : Int) from rfl, and_nat _ _ (by omega) (by omega), Nat.and_one_is_mod, Nat.testBit_eq_decide_div_mod_eq]
  have := Nat.mod_two_eq_zero_or_one (x / 2 ^ i)
  rcases this with h | h <;> simp [h]
theorem shl_nat (i : Nat) (hi : i ≤ 20) : shlI .i64 1 (i : Int) = ((2 ^ i : Nat) : Int) := by
  have h0 : shlI .i64 1 (i : Int) = IntKind.i64.wrap (1 * 2 ^ (min i 64)) := rfl
  have h : 2 ^ i ≤ 2 ^ 20 := Nat.pow_le_pow_right (by decide) hi
  rw [h0, Nat.min_eq_left (by omega), Int.one_mul, show ((2 : Int) ^ i) = ((2 ^ i : Nat) : Int) by simp]
  generalize 2 ^ i = x at h ⊢
  rw [wrap64 (by omega) (by omega)]
theorem okF_names (ns : List ByteArray) : ∀ f : Fm, OkF (fun n => isNameB n = true) f → (∀ x ∈ pre f, x.kind = 1 → x.name ∈ ns) → OkF (fun n => n ∈ ns) f := by
  intro f h
  induction h with
  | mk hl hN hk ih =>
    rename_i k nm kids
    intro hall
    refine .mk hl (fun e => hall (.mk k nm kids) (by rw [pre_eq]; exact List.mem_cons_self) e) fun g hg => ih g hg fun x hx e => hall x ?_ e
    rw [pre_eq]
    exact List.mem_cons_of_mem _ (pres_mem hx _ hg)
/-- the names of a formula, rising -/
def namesF (f : Fm) : List ByteArray := compL (sortL (varsL (nodesGo 200 200 [f])))
theorem namesF_pre {f : Fm} (h : (formulaCheck f).1 = 0) : nodesGo 200 200 [f] = pre f := by
  obtain ⟨h1, h2⟩ := (formulaCheck_iff f).1 h
  rw [nodesGo_take 200 200 [f] (by omega), pres_cons, pres_nil, List.append_nil, List.take_of_length_le h2]
theorem namesF_mem {f x : Fm} (h : (formulaCheck f).1 = 0) (hx : x ∈ pre f) (hk : x.kind = 1) : x.name ∈ namesF f := by
  unfold namesF
  rw [(comp_ok _).2, namesF_pre h]
  unfold varsL
  exact List.mem_map.2 ⟨x, List.mem_filter.2 ⟨hx, by simpa using hk⟩, rfl⟩
theorem namesF_okF {f : Fm} (h : (formulaCheck f).1 = 0) : OkF (fun n => n ∈ namesF f) f :=
  okF_names _ f (td_check h).ok fun x hx hk => namesF_mem h hx hk
theorem ris_nodup {l : List ByteArray} (h : Ris l) : l.Nodup := by
  unfold Ris at h
  refine h.imp fun {a b} hab e => ?_
  subst e
  exact absurd hab (List.lt_irrefl _)
theorem namesF_nodup (f : Fm) : (namesF f).Nodup := ris_nodup (comp_ok _).1
/-- the document's names are the program's -/
theorem namesIn_eq {f : Fm} (h : (formulaCheck f).1 = 0) : (varsL (walkL f 100000)).foldl insR [] = namesF f := by
  rw [← comp_ins]
  have hp := ((formulaCheck_iff f).1 h).2
  have : walkL f 100000 = nodesGo 200 200 [f] := by
    rw [show (100000 : Int) = ((100000 : Nat) : Int) from rfl, walk_take, namesF_pre h, List.take_of_length_le (by omega)]
  rw [this]; rfl
theorem rowL_mem : ∀ (ns : List ByteArray), ns.Nodup → ∀ (i k : Nat) (x : ByteArray), ns[i]? = some x → (x ∈ rowL ns k ↔ k.testBit i = true)
  | [], _, i, k, x, h => by simp at h
  | a :: r, hd, i, k, x, h => by
    have hsub : ∀ (l : List ByteArray) (k : Nat) (y : ByteArray), y ∈ rowL l k → y ∈ l := by
      intro l
      induction l with
      | nil => intro k y h; exact h
      | cons b r ih =>
        intro k y h
        rw [rowL] at h
        split at h
        · rcases List.mem_cons.1 h with rfl | h
          · exact List.mem_cons_self
          · exact List.mem_cons_of_mem _ (ih _ _ h)
        · exact List.mem_cons_of_mem _ (ih _ _ h)
    rw [List.nodup_cons] at hd
    cases i with
    | zero =>
      simp at h; subst h
      rw [rowL, Nat.testBit_zero]
      split
      · simp [*]
      · simp [*]; exact fun g => hd.1 (hsub _ _ _ g)
    | succ i =>
      rw [List.getElem?_cons_succ] at h
      have ih := rowL_mem r hd.2 i (k / 2) x h
      have hx : x ≠ a := by rintro rfl; exact hd.1 (List.mem_of_getElem? h)
      rw [rowL, Nat.testBit_succ, ← ih]
      split <;> simp [hx]
end Go.Proofs.Ytbmpmmbcfabeeaa
