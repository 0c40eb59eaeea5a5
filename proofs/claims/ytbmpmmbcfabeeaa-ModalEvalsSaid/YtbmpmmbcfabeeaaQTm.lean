/-
  modal: Holds.
-/
import Derived.Test.YtbmpmmbcfabeeaaQTb
import Derived.Test.YtbmpmmbcfabeeaaMdD
namespace Go.Proofs.Ytbmpmmbcfabeeaa
open Go Go.Pv
set_option linter.unusedVariables false
set_option linter.unusedSimpArgs false
set_option maxRecDepth 100000
set_option maxHeartbeats 4000000

def holdK (ns : List ByteArray) (k w : Nat) (x : ByteArray) : Bool := k.testBit (w * ns.length + (idx ns x).toNat)
theorem idx_in {l : List ByteArray} {x : ByteArray} (h : x ∈ l) : ∃ i : Nat, idx l x = (i : Int) ∧ i < l.length := by
  unfold idx
  cases hf : l.findIdx? (fun y => decide (x = y)) with
  | some i => exact ⟨i, rfl, (List.findIdx?_eq_some_iff_getElem.1 hf).1⟩
  | none =>
    rw [List.findIdx?_eq_none_iff] at hf
    have := hf x h
    simp at this
def x93 : XC := .seq (.reg [⟨some 6,.assign (.const (.bool false)),none⟩]) (.seq (.drawn 1 [⟨some 7,.load 3 (.tmp 2),none⟩,⟨some 8,.move (.tmp 0),none⟩,⟨some 9,.load 53 (.tmp 3),none⟩,⟨some 10,.call ⟨.builtin .len,#[.tmp 9],#[53]⟩,none⟩,⟨some 11,.binOp .mul 3 (.tmp 8) (.tmp 10) 3,none⟩,⟨some 12,.load 53 (.tmp 3),none⟩,⟨some 13,.move (.tmp 1),none⟩,⟨some 14,.call ⟨.value (.func 94),#[.tmp 12,.tmp 13],#[53,9]⟩,none⟩,⟨some 15,.binOp .add 3 (.tmp 11) (.tmp 14) 3,none⟩,⟨some 16,.binOp .shr 3 (.tmp 7) (.tmp 15) 3,none⟩,⟨some 17,.binOp .and 3 (.tmp 16) (.const (.int .i64 1)) 3,none⟩,⟨some 18,.binOp .eql 3 (.tmp 17) (.const (.int .i64 1)) 3,none⟩,⟨some 6,.assign (.tmp 18),none⟩]) (.ret))
@[simp] theorem x93_s {C : WC} {e : AE} {s : Store} {K : KS} : type_of% (@X_at C e s K _ _ x93.eq_1) := X_at x93.eq_1
def an93 : Ann := ⟨[(1, .mix 9)], [], []⟩
def cx93 (P : Program) (m : Nat) : WC := ⟨P, m, an93⟩
@[simp] theorem cx93_a {P : Program} {m : Nat} : (cx93 P m).P = P ∧ (cx93 P m).m = m ∧ (cx93 P m).A.clsOf 1 = .mix 9 ∧ (cx93 P m).A.frzOf 1 = [] := ⟨rfl, rfl, rfl, rfl⟩
instance {P : Program} {m f : Nat} [h : EnT P f] : EnT (cx93 P m).P f := h
theorem chk93 : ∀ c, Try.f93.body = some c → chkC Try.f93.ntmps an93 c = true := by intro c h; obtain rfl := Option.some.inj h; decide +kernel
theorem op93 {args : List PV} {v : PV} (h : X (cx93 Try.prog 0) x93 (argsA 0 args) [] (.fin [.tmp 6] fun v1 s1 => deref s1 6 v1 = v)) (hl : args.length ≤ Try.f93.ntmps := by rw [Try.ntmps93]; simp) : CallOK Try.prog 93 args [] v [] :=
  callX (m := 0) (cx93 Try.prog 0) x93 rfl rfl (by kernel_rfl) Try.func93 rfl rfl hl mixed (chk93 _ rfl) (by rw [Try.results93]; exact h)

theorem Holds1_modal (ns : List ByteArray) (k w : Nat) (x : ByteArray) (hx : x ∈ ns) (hw : w * ns.length + ns.length ≤ 12) (hk : k < 1048576) :
    CallOK Try.prog 93 [.int .i64 (w : Int), .str x, .iptr [.int .i64 (k : Int)], .iptr [.list (ns.map strRow)]] [] (.bool (holdK ns k w x)) [] := by
  have hi := index_strs ns x []
  obtain ⟨i, e, hil⟩ := idx_in hx
  unfold holdK
  rw [e] at hi ⊢
  rw [Int.toNat_natCast]
  have hb := has_bits k (w * ns.length + i) hk
  have hww : (w : Int) * (ns.length : Int) = ((w * ns.length : Nat) : Int) := by simp
  refine op93 ?_
  generalize w * ns.length = a at *
  (((try simp (implicitDefEqProofs := false) [hww]); (try simp (implicitDefEqProofs := false) (disch := first | assumption | (try simp only [lens]); omega -splitDisjunctions) [hww])); all_goals try (repeat' ((first | ((with_reducible first | refine And.intro ?_ ?_ | refine Exists.intro ?_ ?_); first | omega | (simp <;> omega)) | (with_reducible refine spl (And.intro ?_ ?_) <;> intro _) | (refine CL.clo (hi) ?_) | (refine CM.clo (hi) ?_) | (refine CD.clo (hi) ?_)) <;> ((try simp (implicitDefEqProofs := false) [hww]); (try simp (implicitDefEqProofs := false) (disch := first | assumption | (try simp only [lens]); omega -splitDisjunctions) [hww])))))
  rw [show (a : Int) + (i : Int) = ((a + i : Nat) : Int) by simp, hb]
  cases k.testBit (a + i) <;> rfl
theorem relFault_pos {n : Int} : ∀ (l : List (Int × Int)) (i : Int) (x : Int × Int), relFault n l i = some x → x.1 ≠ 0 := fun l i x h => by rw [relFault_some l i x h]; decide
theorem trFault_pos : ∀ (l : List (List ByteArray)) (i : Int) (x : Int × Int), trFault l i = some x → x.1 ≠ 0 := by
  intro l
  induction l with
  | nil => intro i x h; simp [trFault] at h
  | cons p r ih =>
    intro i x h
    rw [trFault] at h
    (repeat' split at h) <;> first | (cases h; simp; done) | exact ih _ _ h
theorem kripkeCheck_zero {m : Mdl} (h : (kripkeCheck m).1 = 0) : kripkeCheck m = (0, 0) := by
  unfold kripkeCheck at h ⊢
  split
  · rename_i h1; rw [if_pos h1] at h; simp at h
  · rename_i h1
    rw [if_neg h1] at h
    split
    · rename_i h2; rw [if_pos h2] at h; simp at h
    · rename_i h2
      rw [if_neg h2] at h
      cases hr : relFault m.n m.rel 0 with
      | some x => rw [hr] at h; exact absurd h (relFault_pos _ _ _ hr)
      | none =>
        rw [hr] at h
        cases ht : trFault m.tr 0 with
        | some x => rw [ht] at h; exact absurd h (trFault_pos _ _ _ ht)
        | none => simp [Option.orElse]

def x92 : XC := .seq (.reg [⟨some 4,.alloc 29,none⟩]) (.seq (.reg [⟨some 5,.move (.tmp 0),none⟩,⟨some 6,.move (.tmp 1),none⟩,⟨some 7,.build 29 #[(0,.tmp 5),(1,.tmp 6)],none⟩,⟨none,.store 29 (.tmp 4) (.tmp 7),none⟩]) (.ret))
@[simp] theorem x92_s {C : WC} {e : AE} {s : Store} {K : KS} : type_of% (@X_at C e s K _ _ x92.eq_1) := X_at x92.eq_1
def an92 : Ann := ⟨[], [], []⟩
def cx92 (P : Program) (m : Nat) : WC := ⟨P, m, an92⟩
@[simp] theorem cx92_a {P : Program} {m : Nat} : (cx92 P m).P = P ∧ (cx92 P m).m = m := ⟨rfl, rfl⟩
instance {P : Program} {m f : Nat} [h : EnT P f] : EnT (cx92 P m).P f := h
theorem chk92 : ∀ c, Try.f92.body = some c → chkC Try.f92.ntmps an92 c = true := by intro c h; obtain rfl := Option.some.inj h; decide +kernel
theorem op92 {args : List PV} {v : PV} (h : X (cx92 Try.prog 0) x92 (argsA 0 args) [] (.fin [.cell 4 29] fun v1 s1 => deref s1 6 v1 = v)) (hl : args.length ≤ Try.f92.ntmps := by rw [Try.ntmps92]; simp) : CallOK Try.prog 92 args [] v [] :=
  callX (m := 0) (cx92 Try.prog 0) x92 rfl rfl (by kernel_rfl) Try.func92 rfl rfl hl mixed (chk92 _ rfl) (by rw [Try.results92]; exact h)

theorem fault_modal (a b : Int) : CallOK Try.prog 92 [.int .i64 a, .int .i64 b] [] (.agg [.int .i64 a, .int .i64 b]) [] := by
  refine op92 ?_
  (((try simp (implicitDefEqProofs := false)); (try simp (implicitDefEqProofs := false) (disch := first | assumption | (try simp only [lens]); omega -splitDisjunctions))); all_goals try (repeat' ((first | ((with_reducible first | refine And.intro ?_ ?_ | refine Exists.intro ?_ ?_); first | omega | (simp <;> omega)) | (with_reducible refine spl (And.intro ?_ ?_) <;> intro _)) <;> ((try simp (implicitDefEqProofs := false)); (try simp (implicitDefEqProofs := false) (disch := first | assumption | (try simp only [lens]); omega -splitDisjunctions))))))
def allK (T : List (List Bool)) (ns : List ByteArray) (f : Fm) (k : Nat) : Bool := !decide (false ∈ evL T (holdK ns k) f)
def holdsV (m : Mdl) (f : Fm) : Bool × (Int × Int) :=
  if (kripkeCheck m).1 ≠ 0 then (false, kripkeCheck m) else if (formulaCheck f).1 ≠ 0 then (false, formulaCheck f)
  else if 12 < m.n.toNat * (namesF f).length then (false, (2, 0)) else ((List.range (2 ^ (m.n.toNat * (namesF f).length))).all (allK (frameOf m) (namesF f) f), (0, 0))
def x40_T1 : XC := .seq (.reg [⟨some 51,.build 29 #[],none⟩,⟨some 4,.assign (.const (.bool true)),none⟩,⟨none,.store 29 (.tmp 5) (.tmp 51),none⟩]) (.ret)
def x40_L0 : XC := .seq (.reg [⟨some 42,.binOp .lss 3 (.tmp 41) (.tmp 40) 3,none⟩]) (.seq (.cond (.tmp 42) (.skip) (.exit 0)) (.seq (.block 1 (.seq (.reg [⟨some 43,.move (.tmp 41),none⟩,⟨some 10,.alloc 3,none⟩,⟨none,.store 3 (.tmp 10) (.tmp 43),none⟩]) (.seq (.reg [⟨some 44,.move (.tmp 9),none⟩,⟨some 45,.load 24 (.tmp 3),none⟩,⟨some 46,.makeFunc (.func 93) #[] #[.tmp 10,.tmp 8],none⟩,⟨some 47,.call ⟨.value (.func 88),#[.tmp 44,.tmp 45,.tmp 46],#[121,24,124]⟩,none⟩,⟨some 48,.call ⟨.value (.func 80),#[.tmp 47,.const (.bool false)],#[46,4]⟩,none⟩]) (.cond (.tmp 48) (.seq (.reg [⟨some 49,.build 29 #[],none⟩,⟨some 4,.assign (.const (.bool false)),none⟩,⟨none,.store 29 (.tmp 5) (.tmp 49),none⟩]) (.ret)) (.skip))))) (.reg [⟨some 50,.binOp .add 3 (.tmp 41) (.const (.int .i64 1)) 3,none⟩,⟨some 41,.move (.tmp 50),none⟩])))
def x40 : XC := .seq (.reg [⟨some 2,.box 61 (.tmp 0),none⟩,⟨some 3,.box 24 (.tmp 1),none⟩,⟨some 4,.assign (.const (.bool false)),none⟩,⟨some 5,.alloc 29,none⟩]) (.seq (.seq (.reg [⟨some 11,.load 61 (.tmp 2),none⟩,⟨some 12,.call ⟨.value (.func 86),#[.tmp 11],#[61]⟩,none⟩,⟨some 6,.alloc 29,none⟩,⟨none,.store 29 (.tmp 6) (.tmp 12),none⟩]) (.seq (.reg [⟨some 13,.fieldAddr 29 (.tmp 6) 0,none⟩,⟨some 14,.load 3 (.tmp 13),none⟩,⟨some 15,.binOp .neq 3 (.tmp 14) (.const (.int .i64 0)) 3,none⟩]) (.cond (.tmp 15) (.seq (.drawn 3 [⟨some 16,.load 29 (.tmp 6),none⟩,⟨some 4,.assign (.const (.bool false)),none⟩,⟨none,.store 29 (.tmp 5) (.tmp 16),none⟩]) (.ret)) (.skip)))) (.seq (.seq (.reg [⟨some 17,.load 24 (.tmp 3),none⟩,⟨some 18,.call ⟨.value (.func 18),#[.tmp 17],#[24]⟩,none⟩,⟨some 7,.alloc 29,none⟩,⟨none,.store 29 (.tmp 7) (.tmp 18),none⟩]) (.seq (.reg [⟨some 19,.fieldAddr 29 (.tmp 7) 0,none⟩,⟨some 20,.load 3 (.tmp 19),none⟩,⟨some 21,.binOp .neq 3 (.tmp 20) (.const (.int .i64 0)) 3,none⟩]) (.cond (.tmp 21) (.seq (.drawn 6 [⟨some 22,.load 29 (.tmp 7),none⟩,⟨some 4,.assign (.const (.bool false)),none⟩,⟨none,.store 29 (.tmp 5) (.tmp 22),none⟩]) (.ret)) (.skip)))) (.seq (.reg [⟨some 23,.load 24 (.tmp 3),none⟩,⟨some 24,.buildSlice 22 1 #[(0,.tmp 23)],none⟩,⟨some 25,.call ⟨.value (.func 91),#[.tmp 24],#[22]⟩,none⟩,⟨some 8,.alloc 53,none⟩,⟨none,.store 53 (.tmp 8) (.tmp 25),none⟩]) (.seq (.seq (.reg [⟨some 26,.fieldAddr 61 (.tmp 2) 0,none⟩,⟨some 27,.load 3 (.tmp 26),none⟩,⟨some 28,.load 53 (.tmp 8),none⟩,⟨some 29,.call ⟨.builtin .len,#[.tmp 28],#[53]⟩,none⟩,⟨some 30,.binOp .mul 3 (.tmp 27) (.tmp 29) 3,none⟩,⟨some 31,.binOp .gtr 3 (.tmp 30) (.const (.int .i64 12)) 3,none⟩]) (.cond (.tmp 31) (.seq (.reg [⟨some 32,.call ⟨.value (.func 92),#[.const (.int .i64 2),.const (.int .i64 0)],#[3,3]⟩,none⟩,⟨some 4,.assign (.const (.bool false)),none⟩,⟨none,.store 29 (.tmp 5) (.tmp 32),none⟩]) (.ret)) (.skip))) (.seq (.reg [⟨some 33,.load 61 (.tmp 2),none⟩,⟨some 34,.call ⟨.value (.func 87),#[.tmp 33],#[61]⟩,none⟩,⟨some 9,.assign (.tmp 34),none⟩]) (.seq (.seq (.reg [⟨some 35,.fieldAddr 61 (.tmp 2) 0,none⟩,⟨some 36,.load 3 (.tmp 35),none⟩,⟨some 37,.load 53 (.tmp 8),none⟩,⟨some 38,.call ⟨.builtin .len,#[.tmp 37],#[53]⟩,none⟩,⟨some 39,.binOp .mul 3 (.tmp 36) (.tmp 38) 3,none⟩,⟨some 40,.binOp .shl 3 (.const (.int .i64 1)) (.tmp 39) 3,none⟩,⟨some 41,.move (.const (.int .i64 0)),none⟩]) (.bloop 0 x40_L0)) (x40_T1)))))))
@[simp] theorem x40_s {C : WC} {e : AE} {s : Store} {K : KS} : type_of% (@X_at C e s K _ _ x40_T1.eq_1) ∧ type_of% (@X_at C e s K _ _ x40_L0.eq_1) ∧ type_of% (@X_at C e s K _ _ x40.eq_1) := ⟨X_at x40_T1.eq_1, X_at x40_L0.eq_1, X_at x40.eq_1⟩
def an40 : Ann := ⟨[], [(0, [], [3, 5, 8, 9, 40, 41], [4, 5])], []⟩
def cx40 (P : Program) (m : Nat) : WC := ⟨P, m, an40⟩
@[simp] theorem cx40_a {P : Program} {m : Nat} : (cx40 P m).P = P ∧ (cx40 P m).m = m ∧ (cx40 P m).A.clsOf 3 = .draw ∧ (cx40 P m).A.clsOf 6 = .draw ∧ (cx40 P m).A.frzOf 3 = [] ∧ (cx40 P m).A.frzOf 6 = [] ∧ (cx40 P m).A.loopOf 0 = ([], [3, 5, 8, 9, 40, 41], [4, 5]) := ⟨rfl, rfl, rfl, rfl, rfl, rfl, rfl⟩
instance {P : Program} {m f : Nat} [h : EnT P f] : EnT (cx40 P m).P f := h
theorem chk40 : ∀ c, Try.f40.body = some c → chkC Try.f40.ntmps an40 c = true := by intro c h; obtain rfl := Option.some.inj h; decide +kernel
theorem op40 {args : List PV} {v : PV} (h : X (cx40 Try.prog 0) x40 (argsA 0 args) [] (.fin [.tmp 4, .cell 5 29] fun v1 s1 => deref s1 6 v1 = v)) (hl : args.length ≤ Try.f40.ntmps := by rw [Try.ntmps40]; simp) : CallOK Try.prog 40 args [] v [] :=
  callX (m := 0) (cx40 Try.prog 0) x40 rfl rfl (by kernel_rfl) Try.func40 rfl rfl hl mixed (chk40 _ rfl) (by rw [Try.results40]; exact h)

theorem Holds_modal (m : Mdl) (f : Fm) : CallOK Try.prog 40 [.agg (mdl m), .agg (frm f)] [] (.tuple [.bool (holdsV m f).1, .agg [.int .i64 (holdsV m f).2.1, .int .i64 (holdsV m f).2.2]]) [] := by
  have hck := check_kripke m []
  have hcf := check_formula f []
  have hn := NamesOf_formula f
  rw [show compL (sortL (varsL (nodesGo 200 200 [f]))) = namesF f from rfl] at hn
  unfold holdsV
  unfold flt at hck
  refine op40 ?_
  by_cases h1 : (kripkeCheck m).1 = 0
  · have h1z := kripkeCheck_zero h1
    rw [if_neg (by simpa using h1)]
    rw [h1z] at hck
    by_cases h2 : (formulaCheck f).1 = 0
    · have h2z := formulaCheck_zero h2
      rw [if_neg (by simpa using h2)]
      rw [h2z] at hcf
      obtain ⟨hm1, hm2, hm3, hm4⟩ := model_of_check m h1
      have hnf := newFrame_modal m (by omega) hm2 hm4 []
      have hof := namesF_okF h2
      have hnl : (namesF f).length ≤ 200 := Nat.le_trans (compL_length _) (by rw [sortL_length]; exact Nat.le_trans (varsL_le _) (nodesGo_len 200 200 [f]))
      have hTl : (frameOf m).length = m.n.toNat := by simp [frameOf]
      have hTr : ∀ row ∈ frameOf m, row.length = (frameOf m).length := by
        intro row hr
        rw [hTl]
        unfold frameOf at hr
        obtain ⟨i, _, rfl⟩ := List.mem_map.1 hr
        simp
      obtain ⟨n, hmn⟩ : ∃ n : Nat, m.n = (n : Int) := ⟨m.n.toNat, by omega⟩
      rw [hmn] at hTl hm1 hm2
      rw [hmn]
      simp only [Int.toNat_natCast] at hTl ⊢
      have hmd : mdl m = [.int .i64 (n : Int), .list (m.rel.map relRow), .list (m.tr.map strsRow)] := by unfold mdl; rw [hmn]
      rw [hmd] at hck hnf ⊢
      have hev := fun (k : Nat) (hq : n * (namesF f).length ≤ 12) (hk : k < 1048576) => eval_modal (frameOf m) hTr (by omega) 93 [] [.iptr [.int .i64 (k : Int)], .iptr [.list ((namesF f).map strRow)]] (holdK (namesF f) k) (fun x => x ∈ namesF f) EnT.h
        (fun w x s hw hx => by
          rw [hTl] at hw
          have hmul : (w + 1) * (namesF f).length ≤ n * (namesF f).length := Nat.mul_le_mul_right _ hw
          rw [Nat.add_mul, Nat.one_mul] at hmul
          exact CallOK.frame (Holds1_modal (namesF f) k w x hx (by omega) hk) (by simp [closed_agg, closed_fn, flatL_fn])) (by simp) (by simp [closed_iptr]) (fun ρ => by simp [RenL]) (fun ρ => ⟨.iptr, .iptr, trivial⟩) f hof []
      have hcl := fun l : List Bool => fun hl => Contains_bools l false hl
      have hel : ∀ h, (evL (frameOf m) h f).length = n := fun h => by unfold evL; simp [hTl]
      have hak : ∀ k, allK (frameOf m) (namesF f) f k = !decide (false ∈ evL (frameOf m) (holdK (namesF f) k) f) := fun _ => rfl
      have hcl2 := fun k => hcl (evL (frameOf m) (holdK (namesF f) k) f) (by rw [hel]; omega)
      generalize allK (frameOf m) (namesF f) f = A at *
      have hev2 : ∀ k : Nat, n * (namesF f).length ≤ 12 → k < 1048576 → ∃ l : List Bool, l.length = n ∧ CallOK Try.prog 88 [.list ((frameOf m).map tabRow), .agg (frm f), .fn (.func 93) [] [.iptr [.int .i64 (k : Int)], .iptr [.list ((namesF f).map strRow)]]] [] (.list (l.map boolRow)) [] ∧ CallOK Try.prog 80 [.list (l.map boolRow), .bool false] [] (.bool (!A k)) [] := fun k h1 h2 =>
        ⟨_, hel _, hev k h1 h2, by rw [hak, Bool.not_not]; exact hcl2 k⟩
      clear hev hcl hcl2 hel hak hof h1z h2z
      generalize namesF f = ns at *
      generalize (frameOf m).map tabRow = T at *
      have hsh : n * ns.length ≤ 12 → shlI .i64 1 ((n * ns.length : Nat) : Int) = ((2 ^ (n * ns.length) : Nat) : Int) := fun h => shl_nat _ (by omega)
      have hmu : (n : Int) * (ns.length : Int) = ((n * ns.length : Nat) : Int) := by simp
      have hmx := Nat.mul_le_mul (show n ≤ 40 by omega) hnl
      by_cases h12 : 12 < n * ns.length
      · rw [if_pos h12]
        clear hsh
        generalize n * ns.length = q at *
        have h12i : (12 : Int) < (q : Int) := by omega
        (((try simp (implicitDefEqProofs := false)); (try simp (implicitDefEqProofs := false) (disch := first | assumption | (try simp only [lens]); omega -splitDisjunctions))); all_goals try (repeat' ((first | ((with_reducible first | refine And.intro ?_ ?_ | refine Exists.intro ?_ ?_); first | omega | (simp <;> omega)) | (with_reducible refine spl (And.intro ?_ ?_) <;> intro _) | (refine CL.clo (hck) ?_) | (refine CM.clo (hck) ?_) | (refine CD.clo (hck) ?_) | (refine CL.clo (hcf) ?_) | (refine CM.clo (hcf) ?_) | (refine CD.clo (hcf) ?_)) <;> ((try simp (implicitDefEqProofs := false)); (try simp (implicitDefEqProofs := false) (disch := first | assumption | (try simp only [lens]); omega -splitDisjunctions))))))
        refine CL.giv [5] ?_
        (((try simp (implicitDefEqProofs := false) [hmu, h12i]); (try simp (implicitDefEqProofs := false) (disch := first | assumption | (try simp only [lens]); omega -splitDisjunctions) [hmu, h12i])); all_goals try (repeat' ((first | ((with_reducible first | refine And.intro ?_ ?_ | refine Exists.intro ?_ ?_); first | omega | (simp <;> omega)) | (with_reducible refine spl (And.intro ?_ ?_) <;> intro _) | (refine CL.clo (hn) ?_) | (refine CM.clo (hn) ?_) | (refine CD.clo (hn) ?_) | (refine CL.clo (fault_modal _ _) ?_) | (refine CM.clo (fault_modal _ _) ?_) | (refine CD.clo (fault_modal _ _) ?_)) <;> ((try simp (implicitDefEqProofs := false) [hmu, h12i]); (try simp (implicitDefEqProofs := false) (disch := first | assumption | (try simp only [lens]); omega -splitDisjunctions) [hmu, h12i])))))
      · rw [if_neg h12]
        have hsh := hsh (by omega)
        generalize hM : 2 ^ (n * ns.length) = M at *
        have hM1 : 1 ≤ M ∧ M ≤ 4096 := by
          rw [← hM]
          exact ⟨Nat.one_le_two_pow, Nat.le_trans (Nat.pow_le_pow_right (by decide) (show n * ns.length ≤ 12 by omega)) (by decide)⟩
        generalize n * ns.length = q at *
        have h12i : ¬ (12 : Int) < (q : Int) := by omega
        clear hM
        (((try simp (implicitDefEqProofs := false)); (try simp (implicitDefEqProofs := false) (disch := first | assumption | (try simp only [lens]); omega -splitDisjunctions))); all_goals try (repeat' ((first | ((with_reducible first | refine And.intro ?_ ?_ | refine Exists.intro ?_ ?_); first | omega | (simp <;> omega)) | (with_reducible refine spl (And.intro ?_ ?_) <;> intro _) | (refine CL.clo (hck) ?_) | (refine CM.clo (hck) ?_) | (refine CD.clo (hck) ?_) | (refine CL.clo (hcf) ?_) | (refine CM.clo (hcf) ?_) | (refine CD.clo (hcf) ?_)) <;> ((try simp (implicitDefEqProofs := false)); (try simp (implicitDefEqProofs := false) (disch := first | assumption | (try simp only [lens]); omega -splitDisjunctions))))))
        refine CL.giv [5] ?_
        (((try simp (implicitDefEqProofs := false) [hmu, h12i, hsh]); (try simp (implicitDefEqProofs := false) (disch := first | assumption | (try simp only [lens]); omega -splitDisjunctions) [hmu, h12i, hsh])); all_goals try (repeat' ((first | ((with_reducible first | refine And.intro ?_ ?_ | refine Exists.intro ?_ ?_); first | omega | (simp <;> omega)) | (with_reducible refine spl (And.intro ?_ ?_) <;> intro _) | (refine CL.clo (hn) ?_) | (refine CM.clo (hn) ?_) | (refine CD.clo (hn) ?_) | (refine CL.clo (hnf) ?_) | (refine CM.clo (hnf) ?_) | (refine CD.clo (hnf) ?_)) <;> ((try simp (implicitDefEqProofs := false) [hmu, h12i, hsh]); (try simp (implicitDefEqProofs := false) (disch := first | assumption | (try simp only [lens]); omega -splitDisjunctions) [hmu, h12i, hsh])))))
        clear hck hcf hn hnf
        have hevq := fun k hk => hev2 k (by omega) hk
        clear hev2
        refine W_of fun Q hQ => ?_
        have main : ∀ r k, k + r = M → (List.range M).all A = ((List.range M).drop k).all A → Q [(3, .ptr 0 0 0), (5, .ptr 1 0 0), (8, .iptr [.list (ns.map strRow)]), (9, .list T), (40, .int .i64 (M : Int)), (41, .int .i64 (k : Int))] [.rows 3 [frm f], .rows 2 [[.int .i64 0, .int .i64 0]]] := by
          intro r
          induction r with
          | zero =>
            intro k hk hv
            obtain rfl : k = M := by omega
            rw [List.drop_of_length_le (by simp), List.all_nil] at hv
            apply hQ
            clear hQ
            rw [hv]
            (((try simp (implicitDefEqProofs := false)); (try simp (implicitDefEqProofs := false) (disch := first | assumption | (try simp only [lens]); omega -splitDisjunctions))); all_goals try (repeat' ((first | ((with_reducible first | refine And.intro ?_ ?_ | refine Exists.intro ?_ ?_); first | omega | (simp <;> omega)) | (with_reducible refine spl (And.intro ?_ ?_) <;> intro _)) <;> ((try simp (implicitDefEqProofs := false)); (try simp (implicitDefEqProofs := false) (disch := first | assumption | (try simp only [lens]); omega -splitDisjunctions))))))
          | succ r ih =>
            intro k hk hv
            have hkM : k < M := by omega
            have ih := ih (k + 1) (by omega)
            rw [List.drop_eq_getElem_cons (by simpa using hkM), List.all_cons, List.getElem_range] at hv
            obtain ⟨l, hl, he, hc⟩ := hevq k (by omega)
            generalize (List.range M).all A = v at *
            apply hQ
            clear hQ
            (((try simp (implicitDefEqProofs := false)); (try simp (implicitDefEqProofs := false) (disch := first | assumption | (try simp only [lens]); omega -splitDisjunctions))); all_goals try (repeat' ((first | ((with_reducible first | refine And.intro ?_ ?_ | refine Exists.intro ?_ ?_); first | omega | (simp <;> omega)) | (with_reducible refine spl (And.intro ?_ ?_) <;> intro _)) <;> ((try simp (implicitDefEqProofs := false)); (try simp (implicitDefEqProofs := false) (disch := first | assumption | (try simp only [lens]); omega -splitDisjunctions))))))
            refine CL.giv [2] ?_
            cases hA : A k
            · rw [hA, Bool.false_and] at hv
              rw [hA] at hc
              subst hv
              (((try simp (implicitDefEqProofs := false)); (try simp (implicitDefEqProofs := false) (disch := first | assumption | (try simp only [lens]); omega -splitDisjunctions))); all_goals try (repeat' ((first | ((with_reducible first | refine And.intro ?_ ?_ | refine Exists.intro ?_ ?_); first | omega | (simp <;> omega)) | (with_reducible refine spl (And.intro ?_ ?_) <;> intro _) | (refine CL.clo (he) ?_) | (refine CM.clo (he) ?_) | (refine CD.clo (he) ?_) | (refine CL.clo (hc) ?_) | (refine CM.clo (hc) ?_) | (refine CD.clo (hc) ?_)) <;> ((try simp (implicitDefEqProofs := false)); (try simp (implicitDefEqProofs := false) (disch := first | assumption | (try simp only [lens]); omega -splitDisjunctions))))))
            · rw [hA, Bool.true_and] at hv
              rw [hA] at hc
              have ih := ih hv
              (((try simp (implicitDefEqProofs := false)); (try simp (implicitDefEqProofs := false) (disch := first | assumption | (try simp only [lens]); omega -splitDisjunctions))); all_goals try (repeat' ((first | ((with_reducible first | refine And.intro ?_ ?_ | refine Exists.intro ?_ ?_); first | omega | (simp <;> omega)) | (with_reducible refine spl (And.intro ?_ ?_) <;> intro _) | (refine CL.clo (he) ?_) | (refine CM.clo (he) ?_) | (refine CD.clo (he) ?_) | (refine CL.clo (hc) ?_) | (refine CM.clo (hc) ?_) | (refine CD.clo (hc) ?_)) <;> ((try simp (implicitDefEqProofs := false)); (try simp (implicitDefEqProofs := false) (disch := first | assumption | (try simp only [lens]); omega -splitDisjunctions))))))
              all_goals first | exact ih | (refine at2 ih ?_ ?_ <;> simp; done) | (exfalso; first | omega | (simp_all; done) | (simp_all; omega))
        have m1 := main (M - 1) 1 (by omega)
        have hv : (List.range M).all A = (A 0 && ((List.range M).drop 1).all A) := by
          have : List.range M = 0 :: (List.range M).drop 1 := by
            conv => lhs; rw [← List.drop_zero (l := List.range M), List.drop_eq_getElem_cons (by simp; omega), List.getElem_range]
          rw [this, List.all_cons]; simp
        obtain ⟨l, hl, he, hc⟩ := hevq 0 (by omega)
        generalize (List.range M).all A = v at *
        have hM0 : 0 < M := by omega
        apply hQ
        clear hQ main
        (((try simp (implicitDefEqProofs := false) [hM0]); (try simp (implicitDefEqProofs := false) (disch := first | assumption | (try simp only [lens]); omega -splitDisjunctions) [hM0])); all_goals try (repeat' ((first | ((with_reducible first | refine And.intro ?_ ?_ | refine Exists.intro ?_ ?_); first | omega | (simp <;> omega)) | (with_reducible refine spl (And.intro ?_ ?_) <;> intro _)) <;> ((try simp (implicitDefEqProofs := false) [hM0]); (try simp (implicitDefEqProofs := false) (disch := first | assumption | (try simp only [lens]); omega -splitDisjunctions) [hM0])))))
        refine CL.giv [2, 3] ?_
        cases hA : A 0
        · rw [hA, Bool.false_and] at hv
          rw [hA] at hc
          subst hv
          (((try simp (implicitDefEqProofs := false)); (try simp (implicitDefEqProofs := false) (disch := first | assumption | (try simp only [lens]); omega -splitDisjunctions))); all_goals try (repeat' ((first | ((with_reducible first | refine And.intro ?_ ?_ | refine Exists.intro ?_ ?_); first | omega | (simp <;> omega)) | (with_reducible refine spl (And.intro ?_ ?_) <;> intro _) | (refine CL.clo (he) ?_) | (refine CM.clo (he) ?_) | (refine CD.clo (he) ?_) | (refine CL.clo (hc) ?_) | (refine CM.clo (hc) ?_) | (refine CD.clo (hc) ?_)) <;> ((try simp (implicitDefEqProofs := false)); (try simp (implicitDefEqProofs := false) (disch := first | assumption | (try simp only [lens]); omega -splitDisjunctions))))))
        · rw [hA, Bool.true_and] at hv
          rw [hA] at hc
          have m1 := m1 hv
          (((try simp (implicitDefEqProofs := false)); (try simp (implicitDefEqProofs := false) (disch := first | assumption | (try simp only [lens]); omega -splitDisjunctions))); all_goals try (repeat' ((first | ((with_reducible first | refine And.intro ?_ ?_ | refine Exists.intro ?_ ?_); first | omega | (simp <;> omega)) | (with_reducible refine spl (And.intro ?_ ?_) <;> intro _) | (refine CL.clo (he) ?_) | (refine CM.clo (he) ?_) | (refine CD.clo (he) ?_) | (refine CL.clo (hc) ?_) | (refine CM.clo (hc) ?_) | (refine CD.clo (hc) ?_)) <;> ((try simp (implicitDefEqProofs := false)); (try simp (implicitDefEqProofs := false) (disch := first | assumption | (try simp only [lens]); omega -splitDisjunctions))))))
          all_goals first | exact m1 | (refine at2 m1 ?_ ?_ <;> simp; done) | (exfalso; first | omega | (simp_all; done) | (simp_all; omega))
    · rw [if_pos (by simpa using h2)]
      generalize formulaCheck f = w at *
      (((try simp (implicitDefEqProofs := false) [h2]); (try simp (implicitDefEqProofs := false) (disch := first | assumption | (try simp only [lens]); omega -splitDisjunctions) [h2])); all_goals try (repeat' ((first | ((with_reducible first | refine And.intro ?_ ?_ | refine Exists.intro ?_ ?_); first | omega | (simp <;> omega)) | (with_reducible refine spl (And.intro ?_ ?_) <;> intro _) | (refine CL.clo (hck) ?_) | (refine CM.clo (hck) ?_) | (refine CD.clo (hck) ?_) | (refine CL.clo (hcf) ?_) | (refine CM.clo (hcf) ?_) | (refine CD.clo (hcf) ?_)) <;> ((try simp (implicitDefEqProofs := false) [h2]); (try simp (implicitDefEqProofs := false) (disch := first | assumption | (try simp only [lens]); omega -splitDisjunctions) [h2])))))
  · rw [if_pos (by simpa using h1)]
    generalize kripkeCheck m = w at *
    (((try simp (implicitDefEqProofs := false) [h1]); (try simp (implicitDefEqProofs := false) (disch := first | assumption | (try simp only [lens]); omega -splitDisjunctions) [h1])); all_goals try (repeat' ((first | ((with_reducible first | refine And.intro ?_ ?_ | refine Exists.intro ?_ ?_); first | omega | (simp <;> omega)) | (with_reducible refine spl (And.intro ?_ ?_) <;> intro _) | (refine CL.clo (hck) ?_) | (refine CM.clo (hck) ?_) | (refine CD.clo (hck) ?_)) <;> ((try simp (implicitDefEqProofs := false) [h1]); (try simp (implicitDefEqProofs := false) (disch := first | assumption | (try simp only [lens]); omega -splitDisjunctions) [h1])))))
end Go.Proofs.Ytbmpmmbcfabeeaa
