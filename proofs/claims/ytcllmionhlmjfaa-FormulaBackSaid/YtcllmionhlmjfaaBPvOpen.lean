import Derived.Test.YtcllmionhlmjfaaBPvQt
import Derived.Test.YtcllmionhlmjfaaBTPa
import Derived.Test.YtcllmionhlmjfaaBFpE
import Derived.Test.YtcllmionhlmjfaaBPvData
import Derived.DataReads
import Derived.ChangeShapes
set_option linter.unusedVariables false
set_option linter.unusedSimpArgs false
set_option maxRecDepth 100000
set_option maxHeartbeats 4000000
namespace Go.Proofs.Ytcllmionhlmjfaa
open Go Go.Pv
def x17_L0 : XC := .seq (.seq (.reg [⟨some 27,.move (.tmp 5),none⟩,⟨some 28,.fieldAddr 24 (.tmp 2) 2,none⟩,⟨some 29,.load 22 (.tmp 28),none⟩,⟨some 30,.call ⟨.builtin .len,#[.tmp 29],#[22]⟩,none⟩,⟨some 31,.binOp .lss 3 (.tmp 27) (.tmp 30) 3,none⟩]) (.cond (.tmp 31) .skip (.exit 0))) (.seq (.block 1 (.seq (.drawn 6 [⟨some 34,.fieldAddr 24 (.tmp 2) 2,none⟩,⟨some 35,.load 22 (.tmp 34),none⟩,⟨some 36,.move (.tmp 5),none⟩,⟨some 37,.indexAddr 22 (.tmp 35) (.tmp 36),none⟩,⟨some 38,.load 24 (.tmp 37),none⟩,⟨some 39,.fieldAddr 24 (.tmp 3) 2,none⟩,⟨some 40,.load 22 (.tmp 39),none⟩,⟨some 41,.move (.tmp 5),none⟩,⟨some 42,.indexAddr 22 (.tmp 40) (.tmp 41),none⟩,⟨some 43,.load 24 (.tmp 42),none⟩,⟨some 44,.call ⟨.value (.func 17),#[.tmp 38,.tmp 43],#[24,24]⟩,none⟩,⟨some 45,.unOp .not 4 (.tmp 44),none⟩]) (.cond (.tmp 45) (.seq (.reg [⟨some 4,.assign (.const (.bool false)),none⟩]) .ret) .skip))) (.reg [⟨some 32,.move (.tmp 5),none⟩,⟨some 33,.binOp .add 3 (.tmp 32) (.const (.int .i64 1)) 3,none⟩,⟨some 5,.assign (.tmp 33),none⟩]))
def x17 : XC := .seq (.reg [⟨some 2,.box 24 (.tmp 0),none⟩,⟨some 3,.box 24 (.tmp 1),none⟩,⟨some 4,.assign (.const (.bool false)),none⟩]) (.seq (.seq (.reg [⟨some 6,.fieldAddr 24 (.tmp 2) 0,none⟩,⟨some 7,.load 3 (.tmp 6),none⟩,⟨some 8,.fieldAddr 24 (.tmp 3) 0,none⟩,⟨some 9,.load 3 (.tmp 8),none⟩,⟨some 10,.binOp .neq 3 (.tmp 7) (.tmp 9) 3,none⟩,⟨some 11,.move (.tmp 10),none⟩,⟨some 12,.fieldAddr 24 (.tmp 2) 1,some (some 11,false)⟩,⟨some 13,.load 9 (.tmp 12),some (some 11,false)⟩,⟨some 14,.fieldAddr 24 (.tmp 3) 1,some (some 11,false)⟩,⟨some 15,.load 9 (.tmp 14),some (some 11,false)⟩,⟨some 16,.binOp .neq 9 (.tmp 13) (.tmp 15) 9,some (some 11,false)⟩,⟨some 17,.pick (.tmp 11) (.const (.bool true)) (.tmp 16),none⟩,⟨some 18,.move (.tmp 17),none⟩,⟨some 19,.fieldAddr 24 (.tmp 2) 2,some (some 18,false)⟩,⟨some 20,.load 22 (.tmp 19),some (some 18,false)⟩,⟨some 21,.call ⟨.builtin .len,#[.tmp 20],#[22]⟩,some (some 18,false)⟩,⟨some 22,.fieldAddr 24 (.tmp 3) 2,some (some 18,false)⟩,⟨some 23,.load 22 (.tmp 22),some (some 18,false)⟩,⟨some 24,.call ⟨.builtin .len,#[.tmp 23],#[22]⟩,some (some 18,false)⟩,⟨some 25,.binOp .neq 3 (.tmp 21) (.tmp 24) 3,some (some 18,false)⟩,⟨some 26,.pick (.tmp 18) (.const (.bool true)) (.tmp 25),none⟩]) (.cond (.tmp 26) (.seq (.reg [⟨some 4,.assign (.const (.bool false)),none⟩]) .ret) .skip)) (.seq (.seq (.reg [⟨some 5,.assign (.const (.int .i64 0)),none⟩]) (.bloop 0 x17_L0)) (.seq (.reg [⟨some 4,.assign (.const (.bool true)),none⟩]) .ret)))
@[simp] theorem x17_s {C e s K} : type_of% (@X_at C e s K _ _ x17_L0.eq_1) ∧ type_of% (@X_at C e s K _ _ x17.eq_1) := ⟨X_at x17_L0.eq_1, X_at x17.eq_1⟩
def an17 : Ann := ⟨[(6, .mix 10)], [(0, [], [2, 3, 5], [4])], []⟩
@[simp] theorem an17_a : an17.clsOf 6 = .mix 10 ∧ an17.frzOf 6 = [] ∧ an17.loopOf 0 = ([], [2, 3, 5], [4]) := ⟨rfl, rfl, rfl⟩
theorem fi17 : FI Try.prog 17 (cxA an17) x17 [.tmp 4] Try.f17 := fiA Try.func17 mixed
theorem Same_ref (f : Fm) : ∀ g : Fm, CallOK Try.prog 17 [.agg (frm f), .agg (frm g)] [] (.bool (sameB f g)) [] := by
 induction f using Fm.ind with
 | h f ih =>
  intro g
  have he := sameB_eq f g
  refine fi17.op ?_
  ((refine Sg.h ?_); try repeat' ((first | (with_reducible first | refine brA ?_ | refine brE fun _ => ?_ | (refine spl ⟨?_, ?_⟩ <;> intro _))) <;> ((try simp -implicitDefEqProofs); (try simp -implicitDefEqProofs (disch := first | assumption | (try simp only [lens]); omega -splitDisjunctions)))))
  all_goals try (rw [he, eqL_len (by omega), Bool.and_false]; done)
  all_goals try (rw [he]; simp_all; done)
  all_goals (
   rename_i hlen
   refine W_of fun Q hQ => ?_
   have main : ∀ n i, i + n = f.kids.length → eqL sameB f.kids g.kids = eqL sameB (f.kids.drop i) (g.kids.drop i) → Q [(2, .ptr 0 0 0), (3, .ptr 1 0 0), (5, .int .i64 (i : Int))] [.rows 3 [frm f], .rows 3 [frm g]] := by
    intro n
    induction n with
    | zero =>
     intro i hi hd
     rw [List.drop_of_length_le (by omega), List.drop_of_length_le (by omega)] at hd
     apply hQ
     ((refine Sg.h ?_); try repeat' ((first | (with_reducible first | refine brA ?_ | refine brE fun _ => ?_ | (refine spl ⟨?_, ?_⟩ <;> intro _))) <;> ((try simp -implicitDefEqProofs); (try simp -implicitDefEqProofs (disch := first | assumption | (try simp only [lens]); omega -splitDisjunctions)))))
     all_goals (rw [he, hd]; simp_all [eqL])
    | succ n ihn =>
     intro i hi hd
     rw [eqL_drop (by omega) (by omega)] at hd
     have ihn := ihn (i + 1) (by omega)
     apply hQ
     ((refine Sg.h ?_); try repeat' ((first | (with_reducible first | refine brA ?_ | refine brE fun _ => ?_ | (refine spl ⟨?_, ?_⟩ <;> intro _)) | refine clo (ih _ (List.getElem_mem _) _) ?_) <;> ((try simp -implicitDefEqProofs); (try simp -implicitDefEqProofs (disch := first | assumption | (try simp only [lens]); omega -splitDisjunctions)))))
     all_goals first | (rw [he, hd]; simp_all; done) | (refine at2 (ihn ?_) ?_ ?_; (· rw [hd]; simp_all); (· simp); (· rfl))
   refine at2 (main _ 0 (Nat.zero_add _) rfl) ?_ ?_ <;> simp)
end Go.Proofs.Ytcllmionhlmjfaa
namespace Go.Proofs.Ytcllmionhlmjfaa
open Go Go.Pv
theorem td_one {k : Int} {f : Fm} (hk : k = 4 ∨ k = 8 ∨ k = 9) (h : Td f) : Td (.mk k ⟨#[]⟩ [f]) := by
 intro x hx
 have : pre (.mk k ⟨#[]⟩ [f]) = .mk k ⟨#[]⟩ [f] :: pre f := pre_of1 k f
 rw [this] at hx
 cases hx with
 | head => exact ok_of1 hk
 | tail _ hx => exact h x hx
theorem td_two {k : Int} {f g : Fm} (hk : k = 5 ∨ k = 6 ∨ k = 7) (h : Td f) (h2 : Td g) : Td (.mk k ⟨#[]⟩ [f, g]) := by
 intro x hx
 have : pre (.mk k ⟨#[]⟩ [f, g]) = .mk k ⟨#[]⟩ [f, g] :: (pre f ++ pre g) := pre_of2 k f g
 rw [this] at hx
 cases hx with
 | head => exact ok_of2 hk
 | tail _ hx =>
  rcases List.mem_append.1 hx with hx | hx
  ·exact h x hx
  ·exact h2 x hx
theorem td_leaf {k : Int} {nm : ByteArray} (h : okN (.mk k nm [])) : Td (.mk k nm []) := by
 intro x hx
 rw [pre_eq] at hx
 have : (Fm.mk k nm []).kids = [] := rfl
 rw [this, pres_nil, List.mem_singleton] at hx
 rw [hx]; exact h
theorem una_td {k : Int} (hk : k = 4 ∨ k = 8 ∨ k = 9) {R : Res} {f : Fm} {j : Nat} (hR : ∀ g e, R = .ok (g, e) → Td g) (h : una k R = .ok (f, j)) : Td f := by
 cases R with
 | ok q =>
  obtain ⟨g, j'⟩ := q
  simp only [una, Except.ok.injEq, Prod.mk.injEq] at h
  rw [← h.1]; exact td_one hk (hR g j' rfl)
 | error q => simp [una] at h
theorem parP_td {t : ByteArray} {R : Res} {f : Fm} {j : Nat} (hR : ∀ g e, R = .ok (g, e) → Td g) (h : parP t R = .ok (f, j)) : Td f := by
 obtain ⟨j', h1, _⟩ := parP_le h
 exact hR f j' h1
theorem notP_td {t : ByteArray} {pn pt : Nat → Res} (h1 : ∀ i g e, pn i = .ok (g, e) → Td g) (h2 : ∀ i g e, pt i = .ok (g, e) → Td g) (i : Nat) : ∀ f j, notP t pn pt i = .ok (f, j) → Td f := by
 intro f j e
 unfold notP at e
 split at e
 ·exact una_td (.inl rfl) (h1 _) e
 split at e
 ·exact una_td (.inr (.inl rfl)) (h1 _) e
 split at e
 ·exact una_td (.inr (.inr rfl)) (h1 _) e
 split at e
 ·exact parP_td (h2 _) e
 split at e
 ·cases e; exact td_leaf (by simp [okN, kidsN, Fm.kind, Fm.name, Fm.kids])
 split at e
 ·cases e; exact td_leaf (by simp [okN, kidsN, Fm.kind, Fm.name, Fm.kids])
 split at e
 ·rename_i hN
  cases e; exact td_leaf (by simp [okN, kidsN, Fm.kind, Fm.name, Fm.kids, hN])
 ·cases e
theorem opL_td {t w : ByteArray} {k : Int} (hk : k = 5 ∨ k = 6 ∨ k = 7) {p : Nat → Res} (h : ∀ i g e, p i = .ok (g, e) → Td g) : ∀ n a i, Td a → ∀ f j, opL t w k p n a i = .ok (f, j) → Td f
 | 0, a, i, _, f, j, e => by cases e
 | n + 1, a, i, ha, f, j, e => by
  unfold opL at e
  split at e
  ·split at e
   ·rename_i g q hq
    exact opL_td hk h n _ q (td_two hk ha (h _ _ _ hq)) f j e
   ·cases e
  ·cases e; exact ha
theorem opP_td {t w : ByteArray} {k : Int} (hk : k = 5 ∨ k = 6 ∨ k = 7) {p : Nat → Res} (h : ∀ i g e, p i = .ok (g, e) → Td g) (i : Nat) : ∀ f j, opP t w k p i = .ok (f, j) → Td f := by
 intro f j e
 unfold opP at e
 split at e
 ·rename_i a q hq
  exact opL_td hk h _ a q (h _ _ _ hq) f j e
 ·cases e
theorem thenP_td {t : ByteArray} {po pt : Nat → Res} (h : ∀ i g e, po i = .ok (g, e) → Td g) (h2 : ∀ i g e, pt i = .ok (g, e) → Td g) (i : Nat) : ∀ f j, thenP t po pt i = .ok (f, j) → Td f := by
 intro f j e
 unfold thenP at e
 split at e
 ·rename_i a q hq
  split at e
  ·split at e
   ·rename_i g r hr
    cases e; exact td_two (.inr (.inr rfl)) (h _ _ _ hq) (h2 _ _ _ hr)
   ·cases e
  ·cases e; exact h _ _ _ hq
 ·cases e
theorem PPf_td (t : ByteArray) : ∀ n, (∀ i g e, (PPf t n).1 i = .ok (g, e) → Td g) ∧ ∀ i g e, (PPf t n).2 i = .ok (g, e) → Td g
 | 0 => ⟨fun i g e h => (by cases h), fun i g e h => (by cases h)⟩
 | n + 1 => by
  have ih := PPf_td t n
  have h1 : ∀ i g e, (PPf t (n + 1)).1 i = .ok (g, e) → Td g := fun i => notP_td ih.1 ih.2 i
  refine ⟨h1, fun i => ?_⟩
  exact thenP_td (opP_td (.inr (.inl rfl)) (opP_td (.inl rfl) h1)) ih.2 i
theorem parse_zero {t : ByteArray} (h : (parseO t).2.1 = 0) : Td (parseO t).1 ∧ (pre (parseO t).1).length ≤ 200 ∧ (parseO t).2.2 = 0 := by
 unfold parseO at h ⊢
 split
 ·rename_i h1; rw [if_pos h1] at h; simp at h
 ·rename_i h1
  rw [if_neg h1] at h
  cases hR : parseR t with
  | error p => rw [hR] at h; simp at h
  | ok q =>
   obtain ⟨f, j⟩ := q
   rw [hR] at h
   simp only at h ⊢
   split
   ·rename_i h2; rw [if_pos h2] at h; simp at h
   ·rename_i h2
    rw [if_neg h2] at h
    split
    ·rename_i h3; rw [if_pos h3] at h; simp at h
    ·rename_i h3
     rw [nodesGo_take 201 201 [f] (by omega), pres_cons, pres_nil, List.append_nil, List.length_take] at h3
     refine ⟨(PPf_td t _).2 0 f j hR, ?_, rfl⟩
     show (pre f).length ≤ 200
     omega
def x5 : XC := .seq (.reg [⟨some 2,.box 24 (.tmp 0),none⟩,⟨some 4,.assign (.const (.bool false)),none⟩]) (.seq (.seq (.reg [⟨some 13,.call ⟨.value (.func 11),#[],#[]⟩,none⟩,⟨some 14,.unOp .not 4 (.tmp 13),none⟩]) (.cond (.tmp 14) (.seq (.reg [⟨some 4,.assign (.const (.bool false)),none⟩]) .ret) .skip)) (.seq (.seq (.reg [⟨some 15,.load 24 (.tmp 2),none⟩,⟨some 16,.call ⟨.value (.func 12),#[.tmp 15,.const (.int .i64 0)],#[24,3]⟩,none⟩]) (.cond (.tmp 16) (.seq (.reg [⟨some 4,.assign (.const (.bool true)),none⟩]) .ret) .skip)) (.seq (.reg [⟨some 18,.load 24 (.tmp 2),none⟩,⟨some 19,.call ⟨.value (.func 15),#[.tmp 18],#[24]⟩,none⟩,⟨some 17,.move (.tmp 19),none⟩,⟨some 20,.extract (.tmp 17) 0,none⟩,⟨some 21,.extract (.tmp 17) 1,none⟩,⟨some 6,.alloc 29,none⟩,⟨some 5,.assign (.tmp 20),none⟩,⟨none,.store 29 (.tmp 6) (.tmp 21),none⟩]) (.seq (.seq (.reg [⟨some 22,.fieldAddr 29 (.tmp 6) 0,none⟩,⟨some 23,.load 3 (.tmp 22),none⟩,⟨some 24,.binOp .eql 3 (.tmp 23) (.const (.int .i64 0)) 3,none⟩]) (.cond (.tmp 24) (.seq (.reg [⟨some 26,.move (.tmp 5),none⟩,⟨some 27,.call ⟨.value (.func 19),#[.tmp 26],#[9]⟩,none⟩,⟨some 25,.move (.tmp 27),none⟩,⟨some 28,.extract (.tmp 25) 0,none⟩,⟨some 29,.extract (.tmp 25) 1,none⟩,⟨some 7,.alloc 24,none⟩,⟨some 8,.alloc 29,none⟩,⟨none,.store 24 (.tmp 7) (.tmp 28),none⟩,⟨none,.store 29 (.tmp 8) (.tmp 29),none⟩]) (.seq (.reg [⟨some 30,.fieldAddr 29 (.tmp 8) 0,none⟩,⟨some 31,.load 3 (.tmp 30),none⟩,⟨some 32,.binOp .neq 3 (.tmp 31) (.const (.int .i64 0)) 3,none⟩,⟨some 33,.move (.tmp 32),none⟩,⟨some 34,.load 24 (.tmp 2),some (some 33,false)⟩,⟨some 35,.load 24 (.tmp 7),some (some 33,false)⟩,⟨some 36,.call ⟨.value (.func 17),#[.tmp 34,.tmp 35],#[24,24]⟩,some (some 33,false)⟩,⟨some 37,.unOp .not 4 (.tmp 36),some (some 33,false)⟩,⟨some 38,.pick (.tmp 33) (.const (.bool true)) (.tmp 37),none⟩]) (.cond (.tmp 38) (.seq (.reg [⟨some 4,.assign (.const (.bool false)),none⟩]) .ret) .skip))) .skip)) (.seq (.reg [⟨some 40,.move (.tmp 1),none⟩,⟨some 41,.call ⟨.value (.func 19),#[.tmp 40],#[9]⟩,none⟩,⟨some 39,.move (.tmp 41),none⟩,⟨some 42,.extract (.tmp 39) 0,none⟩,⟨some 43,.extract (.tmp 39) 1,none⟩,⟨some 9,.alloc 24,none⟩,⟨none,.store 24 (.tmp 9) (.tmp 42),none⟩,⟨none,.store 29 (.tmp 6) (.tmp 43),none⟩]) (.seq (.seq (.reg [⟨some 44,.fieldAddr 29 (.tmp 6) 0,none⟩,⟨some 45,.load 3 (.tmp 44),none⟩,⟨some 46,.binOp .neq 3 (.tmp 45) (.const (.int .i64 0)) 3,none⟩]) (.cond (.tmp 46) (.seq (.reg [⟨some 4,.assign (.const (.bool true)),none⟩]) .ret) .skip)) (.seq (.reg [⟨some 48,.load 24 (.tmp 9),none⟩,⟨some 49,.call ⟨.value (.func 15),#[.tmp 48],#[24]⟩,none⟩,⟨some 47,.move (.tmp 49),none⟩,⟨some 50,.extract (.tmp 47) 0,none⟩,⟨some 51,.extract (.tmp 47) 1,none⟩,⟨some 10,.alloc 29,none⟩,⟨some 5,.assign (.tmp 50),none⟩,⟨none,.store 29 (.tmp 10) (.tmp 51),none⟩]) (.seq (.reg [⟨some 53,.move (.tmp 5),none⟩,⟨some 54,.call ⟨.value (.func 19),#[.tmp 53],#[9]⟩,none⟩,⟨some 52,.move (.tmp 54),none⟩,⟨some 55,.extract (.tmp 52) 0,none⟩,⟨some 56,.extract (.tmp 52) 1,none⟩,⟨some 11,.alloc 24,none⟩,⟨some 12,.alloc 29,none⟩,⟨none,.store 24 (.tmp 11) (.tmp 55),none⟩,⟨none,.store 29 (.tmp 12) (.tmp 56),none⟩]) (.seq (.reg [⟨some 57,.fieldAddr 29 (.tmp 10) 0,none⟩,⟨some 58,.load 3 (.tmp 57),none⟩,⟨some 59,.binOp .eql 3 (.tmp 58) (.const (.int .i64 0)) 3,none⟩,⟨some 60,.move (.tmp 59),none⟩,⟨some 61,.fieldAddr 29 (.tmp 12) 0,some (some 60,true)⟩,⟨some 62,.load 3 (.tmp 61),some (some 60,true)⟩,⟨some 63,.binOp .eql 3 (.tmp 62) (.const (.int .i64 0)) 3,some (some 60,true)⟩,⟨some 64,.pick (.tmp 60) (.tmp 63) (.const (.bool false)),none⟩,⟨some 65,.move (.tmp 64),none⟩,⟨some 66,.load 24 (.tmp 9),some (some 65,true)⟩,⟨some 67,.load 24 (.tmp 11),some (some 65,true)⟩,⟨some 68,.call ⟨.value (.func 17),#[.tmp 66,.tmp 67],#[24,24]⟩,some (some 65,true)⟩,⟨some 69,.pick (.tmp 65) (.tmp 68) (.const (.bool false)),none⟩,⟨some 4,.assign (.tmp 69),none⟩]) .ret)))))))))
@[simp] theorem x5_s {C e s K} : type_of% (@X_at C e s K _ _ x5.eq_1) := X_at x5.eq_1
def an5 : Ann := ⟨[], [], []⟩
theorem fi5 : FI Try.prog 5 (cxA an5) x5 [.tmp 4] Try.f5 := fiA Try.func5 mixed
theorem formulaBack_law (f : Fm) (t : ByteArray) : CallOK Try.prog 5 [.agg (frm f), .str t] [] (.bool true) [] := by
 have hb := formulaBegun_law
 have v1 := vast_ref f 0 (by decide) (by decide) []
 refine fi5.op ?_
 cases hv1 : vastB f 0 with
 | true =>
  rw [hv1] at v1
  ((refine Sg.h ?_); try repeat' ((first | (with_reducible first | refine brA ?_ | refine brE fun _ => ?_ | (refine spl ⟨?_, ?_⟩ <;> intro _)) | refine clo hb ?_ | refine clo v1 ?_) <;> ((try simp -implicitDefEqProofs); (try simp -implicitDefEqProofs (disch := first | assumption | (try simp only [lens]); omega -splitDisjunctions)))))
 | false =>
  rw [hv1] at v1
  have back : ∀ g : Fm, Td g → (pre g).length ≤ 200 → CallOK Try.prog 15 [.agg (frm g)] [] (.tuple [.str (said g 1), .agg [.int .i64 0, .int .i64 0]]) [] ∧ CallOK Try.prog 19 [.str (said g 1)] [] (.tuple [.agg (frm g), .agg [.int .i64 0, .int .i64 0]]) [] := by
   intro g hg hl
   have hc : (formulaCheck g).1 = 0 := (formulaCheck_iff g).2 ⟨hg, hl⟩
   have h1 := Print_ok g (formulaCheck_zero hc) hg.ok (by omega)
   have h2 := Parse_formula (said g 1)
   rw [parse_said g hg hl (by have := said_size g hg.ok 1; omega)] at h2
   exact ⟨h1, h2⟩
  have hp := Parse_formula t
  have hz := parse_zero (t := t)
  have hsame : ∀ g : Fm, CallOK Try.prog 17 [.agg (frm g), .agg (frm g)] [] (.bool true) [] := fun g => by
   have := Same_ref g g
   rw [sameB_iff.2 rfl] at this; exact this
  generalize parseO t = R at *
  obtain ⟨g, c, a⟩ := R
  dsimp only at hp hz
  have hsf := hsame f
  have hsg := hsame g
  by_cases hc : (formulaCheck f).1 = 0
  ·obtain ⟨p1, p2⟩ := back f (td_check hc) ((formulaCheck_iff f).1 hc).2
   generalize said f 1 = s1 at *
   by_cases hk : c = 0
   ·obtain ⟨g1, g2, g3⟩ := hz hk
    obtain ⟨q1, q2⟩ := back g g1 g2
    subst hk g3
    generalize said g 1 = s2 at *
    ((refine Sg.h ?_); try repeat' ((first | (with_reducible first | refine brA ?_ | refine brE fun _ => ?_ | (refine spl ⟨?_, ?_⟩ <;> intro _)) | refine clo hb ?_ | refine clo v1 ?_ | refine clo p1 ?_ | refine clo p2 ?_ | refine clo hsf ?_ | refine clo hp ?_ | refine clo q1 ?_ | refine clo q2 ?_ | refine clo hsg ?_) <;> ((try simp -implicitDefEqProofs); (try simp -implicitDefEqProofs (disch := first | assumption | (try simp only [lens]); omega -splitDisjunctions)))))
   ·((refine Sg.h ?_); try repeat' ((first | (with_reducible first | refine brA ?_ | refine brE fun _ => ?_ | (refine spl ⟨?_, ?_⟩ <;> intro _)) | refine clo hb ?_ | refine clo v1 ?_ | refine clo p1 ?_ | refine clo p2 ?_ | refine clo hsf ?_ | refine clo hp ?_) <;> ((try simp -implicitDefEqProofs [hk]); (try simp -implicitDefEqProofs (disch := first | assumption | (try simp only [lens]); omega -splitDisjunctions) [hk]))))
  ·have p1 := Print_bad f hc
   generalize formulaCheck f = q at *
   obtain ⟨c1, a1⟩ := q
   dsimp only at hc p1
   by_cases hk : c = 0
   ·obtain ⟨g1, g2, g3⟩ := hz hk
    obtain ⟨q1, q2⟩ := back g g1 g2
    subst hk g3
    generalize said g 1 = s2 at *
    ((refine Sg.h ?_); try repeat' ((first | (with_reducible first | refine brA ?_ | refine brE fun _ => ?_ | (refine spl ⟨?_, ?_⟩ <;> intro _)) | refine clo hb ?_ | refine clo v1 ?_ | refine clo p1 ?_ | refine clo hp ?_ | refine clo q1 ?_ | refine clo q2 ?_ | refine clo hsg ?_) <;> ((try simp -implicitDefEqProofs [hc]); (try simp -implicitDefEqProofs (disch := first | assumption | (try simp only [lens]); omega -splitDisjunctions) [hc]))))
   ·((refine Sg.h ?_); try repeat' ((first | (with_reducible first | refine brA ?_ | refine brE fun _ => ?_ | (refine spl ⟨?_, ?_⟩ <;> intro _)) | refine clo hb ?_ | refine clo v1 ?_ | refine clo p1 ?_ | refine clo hp ?_) <;> ((try simp -implicitDefEqProofs [hk, hc]); (try simp -implicitDefEqProofs (disch := first | assumption | (try simp only [lens]); omega -splitDisjunctions) [hk, hc]))))
end Go.Proofs.Ytcllmionhlmjfaa
namespace Go.Pv
open Go
inductive HasTy (P : Program) : TypeId → List PV → Prop where
 | bool {t b} (h : P.underlying t = some .bool) : HasTy P t [.bool b]
 | int {t k n} (h : P.underlying t = some (.int k)) (wf : (Lit.int k n).wf = true) : HasTy P t [.int k n]
 | str {t s} (h : P.underlying t = some .string) (hs : s.size ≤ maxLen) (hb : s.size ≤ reachBytes) : HasTy P t [.str s]
 | slice {t e rows} (h : P.underlying t = some (.slice e)) (hr : ∀ row ∈ rows, HasTy P e row) (hb : rows.length * P.bytesOf e ≤ reachBytes) : HasTy P t [.list rows]
 | struct {t} {fs : Array Field} {parts : List (List PV)} (h : P.underlying t = some (.struct fs)) (hl : parts.length = fs.size)
   (hp : ∀ (i : Nat) (f : Field) (row : List PV), fs[i]? = some f → parts[i]? = some row → HasTy P f.type row) : HasTy P t parts.flatten
 | array {t n e} {parts : List (List PV)} (h : P.underlying t = some (.array n e)) (hl : parts.length = n) (hp : ∀ row ∈ parts, HasTy P e row) : HasTy P t parts.flatten
def RowRel (pub : PHeap) (row : List PV) (cs : List Value) : Prop := row.length = cs.length ∧ ∀ (j : Nat) (v : PV) (c : Value), row[j]? = some v → cs[j]? = some c → Rel pub noSig v c
theorem RowRel.nil {pub : PHeap} : RowRel pub [] [] := ⟨rfl, fun j v c h => by simp at h⟩
theorem RowRel.one {pub : PHeap} {v : PV} {c : Value} (h : Rel pub noSig v c) : RowRel pub [v] [c] := ⟨rfl, fun j x y hx hy => by
 cases j with
 | zero => simp at hx hy; subst hx hy; exact h
 | succ j => simp at hx⟩
theorem RowRel.append {pub : PHeap} {r r' : List PV} {cs cs' : List Value} (h : RowRel pub r cs) (g : RowRel pub r' cs') : RowRel pub (r ++ r') (cs ++ cs') := by
 refine ⟨by simp [h.1, g.1], fun j v c hv hc => ?_⟩
 rw [List.getElem?_append] at hv hc
 split at hv
 ·rename_i hlt; rw [if_pos (by rw [← h.1]; exact hlt)] at hc; exact h.2 j v c hv hc
 ·rename_i hge; rw [if_neg (by rw [← h.1]; exact hge), ← h.1] at hc; exact g.2 _ v c hv hc
def contig (P : Program) (total : Nat) : List Field → Nat → Bool
 | [], o => o == total
 | f :: r, o => f.offset == o && contig P total r (o + P.cellsOf f.type)
def tyOK (P : Program) (S : List TypeId) (t : TypeId) : Bool := match P.underlying t with
 | some .bool | some (.int _) | some .string => true
 | some (.slice e) => S.contains e && decide (0 < P.cellsOf e)
 | some (.struct fs) => contig P (P.cellsOf t) fs.toList 0 && fs.toList.all fun f => S.contains f.type
 | some (.array n e) => S.contains e && n * P.cellsOf e == P.cellsOf t
 | _ => false
theorem rows_of {α : Type} (p : Nat → α → Prop) : ∀ n, (∀ i, i < n → ∃ x, p i x) → ∃ l : List α, l.length = n ∧ ∀ i x, l[i]? = some x → p i x := by
 intro n
 induction n with
 | zero => intro _; exact ⟨[], rfl, fun i x h => by simp at h⟩
 | succ n ih =>
  intro h
  obtain ⟨l, hl, hp⟩ := ih fun i hi => h i (by omega)
  obtain ⟨x, hx⟩ := h n (by omega)
  refine ⟨l ++ [x], by simp [hl], fun i y hy => ?_⟩
  rw [List.getElem?_append] at hy
  split at hy
  ·exact hp i y hy
  ·rename_i hge
   have hi := lt_of_getElem? hy
   simp only [List.length_cons, List.length_nil] at hi
   have hin : i = n := by omega
   subst hin
   rw [show i - l.length = 0 by omega] at hy
   simp at hy; subst hy; exact hx
section
variable {H : Type} {enc : TypeId × Value → H} {P : Program} {S : List TypeId} {w : World} {spare : Nat → Bool} {held : Bool}
theorem fields_rel {fuel total : Nat} {cs : List Value} {pub : PHeap} (hcs : cs.length = total)
  (ih : ∀ (t : TypeId) (cs : List Value) (x : DataW H × List MemPlace), S.contains t = true → DataW.trod enc P w 0 spare held fuel t cs = some x → (∀ n ∈ DataW.weights P t x.1, n ≤ reachBytes) → ∃ row, HasTy P t row ∧ RowRel pub row cs) :
  ∀ (fs : List Field) (o : Nat) (xs : List (DataW H × List MemPlace)), contig P total fs o = true → (fs.all fun f => S.contains f.type) = true →
   (fs.mapM fun f => DataW.trod enc P w 0 spare held fuel f.type ((cs.drop f.offset).take (P.cellsOf f.type))) = some xs → (∀ n ∈ DataW.weightsEach P (fs.map (·.type)) (xs.map (·.1)), n ≤ reachBytes) →
   o ≤ total ∧ ∃ parts : List (List PV), parts.length = fs.length ∧ (∀ (i : Nat) (f : Field) (row : List PV), fs[i]? = some f → parts[i]? = some row → HasTy P f.type row) ∧ RowRel pub parts.flatten (cs.drop o) := by
 intro fs
 induction fs with
 | nil =>
  intro o xs hc _ _ _
  simp only [contig, beq_iff_eq] at hc
  refine ⟨by omega, [], rfl, fun i f row h => by simp at h, ?_⟩
  rw [List.drop_eq_nil_of_le (by omega)]; exact .nil
 | cons f r ih2 =>
  intro o xs hc ha hm hw
  simp only [contig, Bool.and_eq_true, beq_iff_eq] at hc
  simp only [List.all_cons, Bool.and_eq_true] at ha
  obtain ⟨ho, hc⟩ := hc
  rw [List.mapM_cons] at hm
  cases hx : DataW.trod enc P w 0 spare held fuel f.type ((cs.drop f.offset).take (P.cellsOf f.type)) with
  | none => rw [hx] at hm; simp at hm
  | some x =>
   cases hxs : (r.mapM fun f => DataW.trod enc P w 0 spare held fuel f.type ((cs.drop f.offset).take (P.cellsOf f.type))) with
   | none => rw [hx, hxs] at hm; simp at hm
   | some ys =>
    rw [hx, hxs] at hm
    obtain rfl : x :: ys = xs := by simpa using hm
    simp only [List.map_cons, DataW.weightsEach, List.mem_append] at hw
    obtain ⟨h1, parts, h2, h3, h4⟩ := ih2 _ ys hc ha.2 hxs fun n hn => hw n (.inr hn)
    obtain ⟨row, g1, g2⟩ := ih _ _ _ ha.1 hx fun n hn => hw n (.inl hn)
    refine ⟨by omega, row :: parts, by simp [h2], fun i f' row' hf hr => ?_, ?_⟩
    ·cases i with
     | zero => simp at hf hr; subst hf hr; exact g1
     | succ i => exact h3 i f' row' (by simpa using hf) (by simpa using hr)
    ·rw [List.flatten_cons]
     have hsplit : cs.drop o = (cs.drop o).take (P.cellsOf f.type) ++ cs.drop (o + P.cellsOf f.type) := by
      rw [← List.drop_drop, List.take_append_drop]
     rw [hsplit, ← ho]
     rw [← ho] at h4
     exact g2.append h4
theorem elems_rel {fuel : Nat} {cs : List Value} {pub : PHeap} {e : TypeId} (hin : S.contains e = true)
  (ih : ∀ (t : TypeId) (cs : List Value) (x : DataW H × List MemPlace), S.contains t = true → DataW.trod enc P w 0 spare held fuel t cs = some x → (∀ n ∈ DataW.weights P t x.1, n ≤ reachBytes) → ∃ row, HasTy P t row ∧ RowRel pub row cs) :
  ∀ (k i : Nat) (xs : List (DataW H × List MemPlace)), cs.length = (i + k) * P.cellsOf e →
   ((List.range' i k).mapM fun i => DataW.trod enc P w 0 spare held fuel e ((cs.drop (i * P.cellsOf e)).take (P.cellsOf e))) = some xs → (∀ n ∈ DataW.weightsAll P e (xs.map (·.1)), n ≤ reachBytes) →
   ∃ parts : List (List PV), parts.length = k ∧ (∀ row ∈ parts, HasTy P e row) ∧ RowRel pub parts.flatten (cs.drop (i * P.cellsOf e)) := by
 intro k
 induction k with
 | zero =>
  intro i xs hc _ _
  refine ⟨[], rfl, by simp, ?_⟩
  rw [List.drop_eq_nil_of_le (by rw [hc]; exact Nat.le_refl _)]; exact .nil
 | succ k ih2 =>
  intro i xs hc hm hw
  rw [List.range'_succ, List.mapM_cons] at hm
  cases hx : DataW.trod enc P w 0 spare held fuel e ((cs.drop (i * P.cellsOf e)).take (P.cellsOf e)) with
  | none => rw [hx] at hm; simp at hm
  | some x =>
   cases hxs : ((List.range' (i + 1) k).mapM fun i => DataW.trod enc P w 0 spare held fuel e ((cs.drop (i * P.cellsOf e)).take (P.cellsOf e))) with
   | none => rw [hx, hxs] at hm; simp at hm
   | some ys =>
    rw [hx, hxs] at hm
    obtain rfl : x :: ys = xs := by simpa using hm
    simp only [List.map_cons, DataW.weightsAll, List.mem_append] at hw
    obtain ⟨parts, h2, h3, h4⟩ := ih2 (i + 1) ys (by rw [hc]; congr 1; omega) hxs fun n hn => hw n (.inr hn)
    obtain ⟨row, g1, g2⟩ := ih _ _ _ hin hx fun n hn => hw n (.inl hn)
    refine ⟨row :: parts, by simp [h2], fun row' hr => ?_, ?_⟩
    ·rcases List.mem_cons.1 hr with rfl | hr
     ·exact g1
     ·exact h3 _ hr
    ·rw [List.flatten_cons]
     have hsplit : cs.drop (i * P.cellsOf e) = (cs.drop (i * P.cellsOf e)).take (P.cellsOf e) ++ cs.drop ((i + 1) * P.cellsOf e) := by
      rw [Nat.add_mul, Nat.one_mul, ← List.drop_drop, List.take_append_drop]
     rw [hsplit]
     exact g2.append h4
def heapOf (w : World) : PHeap := fun b => w.heap[b]?
theorem cell_block {w : World} {a : Addr} {c : Value} (h : w.cell? a = some c) : a.spot = none ∧ ∃ cs ty fr, w.heap[a.block]? = some (.cells cs ty fr) ∧ cs[a.off]? = some c := by
 unfold World.cell? at h
 split at h
 ·rename_i cs ty fr hh
  split at h
  ·cases h
  ·rename_i hs; exact ⟨by simpa using hs, cs, ty, fr, hh, h⟩
 ·cases h
theorem weightsAll_mem {H : Type} {P : Program} {e : TypeId} : ∀ {l : List (DataW H)} {d : DataW H} {n : Nat}, d ∈ l → n ∈ DataW.weights P e d → n ∈ DataW.weightsAll P e l
 | a :: r, d, n, h, hn => by
  simp only [DataW.weightsAll, List.mem_append]
  rcases List.mem_cons.1 h with rfl | h
  ·exact .inl hn
  ·exact .inr (weightsAll_mem h hn)
theorem trod_rel (hS : ∀ t, S.contains t = true → tyOK P S t = true) : ∀ (fuel : Nat) (t : TypeId) (cs : List Value) (x : DataW H × List MemPlace), S.contains t = true →
  DataW.trod enc P w 0 spare held fuel t cs = some x → (∀ n ∈ DataW.weights P t x.1, n ≤ reachBytes) → ∃ row, HasTy P t row ∧ RowRel (heapOf w) row cs := by
 intro fuel
 induction fuel with
 | zero => intro t cs x _ h; simp [DataW.trod] at h
 | succ fuel ih =>
  intro t cs x hin h hw
  have hok := hS t hin
  unfold tyOK at hok
  unfold DataW.trod at h
  split at hok
  ·rename_i hu
   rw [hu] at h
   split at h <;> first | (cases h; done) | skip
   all_goals first | (rename_i heq; cases heq; done) | skip
   exact ⟨_, .bool hu, .one .bool⟩
  ·rename_i k hu
   rw [hu] at h
   split at h <;> first | (cases h; done) | skip
   all_goals first | (rename_i heq; cases heq; done) | skip
   rename_i heq; cases heq
   split at h
   ·rename_i hk; obtain ⟨rfl, hwf⟩ := hk; exact ⟨_, .int hu hwf, .one .int⟩
   ·cases h
  ·rename_i hu
   rw [hu] at h
   split at h <;> first | (cases h; done) | skip
   all_goals first | (rename_i heq; cases heq; done) | skip
   split at h
   ·rename_i s hs
    cases h
    exact ⟨_, .str hu hs (by simpa [DataW.weights] using hw), .one (.str hs)⟩
   ·cases h
  ·rename_i e hu
   rw [hu] at h
   simp only [Bool.and_eq_true, decide_eq_true_eq] at hok
   split at h <;> first | (cases h; done) | skip
   all_goals first | (rename_i heq; cases heq; done) | skip
   ·exact ⟨[.list []], .slice hu (fun row hr => by cases hr) (by simp), .one (.list0 (Nat.zero_le _))⟩
   ·rename_i e' a len cap heq
    cases heq
    simp only at h
    split at h
    ·rename_i hc
     obtain ⟨_, hlc, hcm⟩ := hc
     obtain ⟨elems, hm, h⟩ := Option.bind_eq_some_iff.1 h
     obtain ⟨rest, hrest, rfl⟩ := Option.map_eq_some_iff.1 h
     simp only [DataW.weights, hu, List.mem_cons, List.mem_append] at hw
     by_cases h0 : len = 0
     ·subst h0
      exact ⟨[.list []], .slice hu (fun row hr => by cases hr) (by simp), .one (.list0 hcm)⟩
     ·have hel : ∀ i, i < len → ∃ row : List PV, HasTy P e row ∧ ∃ ec : List Value, ec.length = P.cellsOf e ∧ (∀ j, j < P.cellsOf e → w.cell? ((a.add (i * P.cellsOf e)).add j) = ec[j]?) ∧ RowRel (heapOf w) row ec := by
       intro i hi
       have hx := mapM_some_get hm i i (by simp [hi])
       have hl := mapM_some_length hm
       simp only [List.length_range] at hl
       rw [List.getElem?_eq_getElem (by omega)] at hx
       obtain ⟨ec, h1, h2⟩ := Option.bind_eq_some_iff.1 hx
       obtain ⟨_, h3, h4⟩ := World.cells?_some h1
       obtain ⟨row, g1, g2⟩ := ih e ec _ hok.1 h2 fun n hn => hw n (.inr (.inl (weightsAll_mem (List.mem_map.2 ⟨_, List.getElem_mem _, rfl⟩) hn)))
       exact ⟨row, g1, ec, h3, h4, g2⟩
      obtain ⟨rows, hrl, hrp⟩ := rows_of _ len hel
      -- the block
      have h00 : w.cell? ((a.add (0 * P.cellsOf e)).add 0) = w.cell? a := by simp [Addr.add]
      obtain ⟨_, _, ec0, hec0, hcell0, _⟩ := hel 0 (by omega)
      have hc0 : w.cell? a = some (ec0[0]'(by omega)) := by
       rw [← h00, hcell0 0 hok.2]; exact List.getElem?_eq_getElem _
      obtain ⟨hsp, arr, ty, fr, hblk, _⟩ := cell_block hc0
      obtain ⟨b, o, sp⟩ := a
      simp only at hsp hblk
      subst hsp
      have hcellat : ∀ i, i < len → ∀ j, j < P.cellsOf e → w.cell? (((⟨b, o, none⟩ : Addr).add (i * P.cellsOf e)).add j) = arr[o + i * P.cellsOf e + j]? := by
       intro i _ j _
       rw [Addr.add_at, Addr.add_at, cell_at hblk]
      have hsz : o + rows.length * P.cellsOf e ≤ arr.size := by
       obtain ⟨_, _, ec, hec, hcell, _⟩ := hel (len - 1) (by omega)
       have h1 := hcell (P.cellsOf e - 1) (by omega)
       rw [hcellat (len - 1) (by omega) _ (by omega), List.getElem?_eq_getElem (by omega)] at h1
       have h2 : o + (len - 1) * P.cellsOf e + (P.cellsOf e - 1) < arr.size := by
        rcases Nat.lt_or_ge (o + (len - 1) * P.cellsOf e + (P.cellsOf e - 1)) arr.size with h | h
        ·exact h
        ·rw [Array.getElem?_eq_none h] at h1; cases h1
       rw [hrl]
       have h3 : len * P.cellsOf e = (len - 1) * P.cellsOf e + P.cellsOf e := by
        rw [← Nat.succ_mul]; congr 1; omega
       omega
      refine ⟨[.list rows], .slice hu (fun row hr => ?_) ?_, .one ?_⟩
      rotate_left
      ·have h1 := hw _ (.inl rfl)
       have hl := mapM_some_length hm
       simp only [List.length_map, List.length_range] at h1 hl
       rw [hrl, ← hl]
       exact Nat.le_trans (Nat.mul_le_mul_right _ (Nat.le_add_right _ _)) h1
      rotate_left
      ·obtain ⟨i, hi⟩ := List.mem_iff_getElem?.1 hr
       exact (hrp i row hi).1
      ·have key : Rel (heapOf w) noSig (.list rows) (.slice (some ⟨b, o, none⟩) rows.length cap) := by
        refine .list (esz := P.cellsOf e) hblk (by omega) hcm ?_ hsz ?_
        ·intro r row hr
         obtain ⟨_, ec, h1, _, h3⟩ := hrp r row hr
         rw [h3.1, h1]
        ·intro r row j v c hr hj hcc
         have hrlt := lt_of_getElem? hr
         obtain ⟨_, ec, h1, h2, h3⟩ := hrp r row hr
         have hjl := lt_of_getElem? hj
         have h4 := h3.1
         have h5 := h2 j (by omega)
         rw [hcellat r (by omega) j (by omega), hcc] at h5
         exact h3.2 j v c hj h5.symm
       rw [hrl] at key
       exact key
    ·cases h
  ·rename_i fs hu
   rw [hu] at h
   simp only [Bool.and_eq_true] at hok
   have h' : (if cs.length = P.cellsOf t then (fs.toList.mapM fun f => DataW.trod enc P w 0 spare held fuel f.type ((cs.drop f.offset).take (P.cellsOf f.type))).map fun xs => ((DataW.agg (xs.map (·.1)) : DataW H), xs.flatMap (·.2)) else none) = some x := by
    split at h
    all_goals first | (rename_i heq; cases heq; exact h) | (rename_i heq; cases heq; done) | (exfalso; simp only [Option.some.injEq, reduceCtorEq] at *; done) | (simp_all; done)
   split at h'
   ·rename_i hlen
    obtain ⟨xs, hm, rfl⟩ := Option.map_eq_some_iff.1 h'
    simp only [DataW.weights, hu] at hw
    obtain ⟨_, parts, h1, h2, h3⟩ := fields_rel hlen ih fs.toList 0 xs hok.1 hok.2 hm hw
    refine ⟨parts.flatten, .struct hu (by simpa using h1) (fun i f row hf hr => h2 i f row (by simpa using hf) hr), by simpa using h3⟩
   ·cases h'
  ·rename_i n e hu
   rw [hu] at h
   simp only [Bool.and_eq_true, beq_iff_eq] at hok
   have h' : (if cs.length = P.cellsOf t then ((List.range n).mapM fun i => DataW.trod enc P w 0 spare held fuel e ((cs.drop (i * P.cellsOf e)).take (P.cellsOf e))).map fun xs => ((DataW.agg (xs.map (·.1)) : DataW H), xs.flatMap (·.2)) else none) = some x := by
    split at h
    all_goals first | (rename_i heq; cases heq; exact h) | (rename_i heq; cases heq; done) | (exfalso; simp only [Option.some.injEq, reduceCtorEq] at *; done) | (simp_all; done)
   split at h'
   ·rename_i hlen
    obtain ⟨xs, hm, rfl⟩ := Option.map_eq_some_iff.1 h'
    rw [List.range_eq_range'] at hm
    simp only [DataW.weights, hu] at hw
    obtain ⟨parts, h1, h2, h3⟩ := elems_rel hok.1 ih n 0 xs (by rw [hlen, ← hok.2]; congr 1; omega) hm hw
    refine ⟨parts.flatten, .array hu h1 h2, by simpa using h3⟩
   ·cases h'
  ·cases hok
end
section
variable {P : Program} {t : TypeId} {row : List PV}
theorem HasTy.int' {k : IntKind} (hu : P.underlying t = some (.int k)) (h : HasTy P t row) : ∃ n, row = [.int k n] ∧ (Lit.int k n).wf = true := by
 cases h with
 | bool h1 => rw [h1] at hu; cases hu
 | int h1 wf => rw [h1] at hu; cases hu; exact ⟨_, rfl, wf⟩
 | str h1 hs hb => rw [h1] at hu; cases hu
 | slice h1 hr hb => rw [h1] at hu; cases hu
 | struct h1 hl hp => rw [h1] at hu; cases hu
 | array h1 hl hp => rw [h1] at hu; cases hu
theorem HasTy.str' (hu : P.underlying t = some .string) (h : HasTy P t row) : ∃ s, row = [.str s] ∧ s.size ≤ maxLen := by
 cases h with
 | bool h1 => rw [h1] at hu; cases hu
 | int h1 wf => rw [h1] at hu; cases hu
 | str h1 hs hb => rw [h1] at hu; cases hu; exact ⟨_, rfl, hs⟩
 | slice h1 hr hb => rw [h1] at hu; cases hu
 | struct h1 hl hp => rw [h1] at hu; cases hu
 | array h1 hl hp => rw [h1] at hu; cases hu
theorem HasTy.sliceB {e : TypeId} (hu : P.underlying t = some (.slice e)) (h : HasTy P t row) : ∃ rows, row = [.list rows] ∧ (∀ r ∈ rows, HasTy P e r) ∧ rows.length * P.bytesOf e ≤ reachBytes := by
 cases h with
 | slice h1 hr hb => rw [h1] at hu; cases hu; exact ⟨_, rfl, hr, hb⟩
 | bool h1 => rw [h1] at hu; cases hu
 | int h1 wf => rw [h1] at hu; cases hu
 | str h1 hs hb => rw [h1] at hu; cases hu
 | struct h1 hl hp => rw [h1] at hu; cases hu
 | array h1 hl hp => rw [h1] at hu; cases hu
end
end Go.Pv
