import Derived.Test.YtkadceiolddmhaaCCcF
import Derived.Test.YtkadceiolddmhaaCCcP
import Derived.Test.YtkadceiolddmhaaCQTn
set_option linter.unusedVariables false
set_option linter.unusedSimpArgs false
set_option maxRecDepth 100000
set_option maxHeartbeats 4000000
namespace Go.Proofs.Ytkadceiolddmhaa
open Go Go.Pv
noncomputable def sameF (b c : List Fm) : Bool := decide (b.length = c.length) && withinF b c
noncomputable def ruleT (u : Bool) (a : ByteArray) : Option Ent := match lookT sharedT a with
 | some e => some e
 | none => lookT (if u = true then intuT else classT) a
noncomputable def meetB : List Prem → List Pf → Bool
 | q :: qs, k :: ks => sameF q.1 k.l && sameF q.2 k.r && meetB qs ks
 | _, _ => true
noncomputable def stepF (u : Bool) (p : Pf) : Int :=
 if p.rule = ⟨#[119, 101, 97, 107]⟩ then
  if noneF p.f = false then 5 else match p.kids with
   | [k] => if (withinF k.l p.l && withinF k.r p.r) = true then 0 else 7
   | _ => 9
 else match ruleT u p.rule with
  | none => 4
  | some e => if (plainF p.f).1 ≠ 0 then 5 else if (e.R p.f p.l p.r).2 = false then 7 else
   if p.kids.length ≠ (e.R p.f p.l p.r).1.length then 9 else if meetB (e.R p.f p.l p.r).1 p.kids = true then 0 else 7
structure Sz (p : Pf) : Prop where
 l : p.l.length ≤ 40000
 r : p.r.length ≤ 40000
theorem Ar.of_plain {f : Fm} (h : (plainF f).1 = 0) : Ar f := by
 rcases ((plainF_iff f).1 h).1.seven with ⟨nm, _, rfl⟩ | rfl | rfl | ⟨a, _, rfl⟩ | ⟨a, b, _, _, rfl⟩ | ⟨a, b, _, _, rfl⟩ | ⟨a, b, _, _, rfl⟩ <;> constructor <;> simp
def x159_L0 : XC := .seq (.reg [⟨some 100,.binOp .lss 3 (.tmp 99) (.tmp 98) 3,none⟩]) (.seq (.cond (.tmp 100) .skip (.exit 0)) (.seq (.block 1 (.seq (.reg [⟨some 101,.move (.tmp 99),none⟩,⟨some 102,.indexAddr 62 (.tmp 97) (.tmp 99),none⟩,⟨some 103,.load 64 (.tmp 102),none⟩,⟨some 12,.alloc 64,none⟩,⟨some 11,.assign (.tmp 101),none⟩,⟨none,.store 64 (.tmp 12) (.tmp 103),none⟩]) (.seq (.drawn 28 [⟨some 104,.move (.tmp 10),none⟩,⟨some 105,.move (.tmp 11),none⟩,⟨some 106,.indexAddr 233 (.tmp 104) (.tmp 105),none⟩,⟨some 107,.fieldAddr 236 (.tmp 106) 0,none⟩,⟨some 108,.load 226 (.tmp 107),none⟩,⟨some 109,.fieldAddr 64 (.tmp 12) 2,none⟩,⟨some 110,.fieldAddr 61 (.tmp 109) 0,none⟩,⟨some 111,.load 57 (.tmp 110),none⟩,⟨some 112,.call ⟨.value (.func 175),#[.tmp 108,.tmp 111],#[226,226]⟩,none⟩,⟨some 113,.unOp .not 4 (.tmp 112),none⟩,⟨some 114,.move (.tmp 113),none⟩,⟨some 115,.move (.tmp 10),some (some 114,false)⟩,⟨some 116,.move (.tmp 11),some (some 114,false)⟩,⟨some 117,.indexAddr 233 (.tmp 115) (.tmp 116),some (some 114,false)⟩,⟨some 118,.fieldAddr 236 (.tmp 117) 1,some (some 114,false)⟩,⟨some 119,.load 226 (.tmp 118),some (some 114,false)⟩,⟨some 120,.fieldAddr 64 (.tmp 12) 2,some (some 114,false)⟩,⟨some 121,.fieldAddr 61 (.tmp 120) 1,some (some 114,false)⟩,⟨some 122,.load 57 (.tmp 121),some (some 114,false)⟩,⟨some 123,.call ⟨.value (.func 175),#[.tmp 119,.tmp 122],#[226,226]⟩,some (some 114,false)⟩,⟨some 124,.unOp .not 4 (.tmp 123),some (some 114,false)⟩,⟨some 125,.pick (.tmp 114) (.const (.bool true)) (.tmp 124),none⟩]) (.cond (.tmp 125) (.seq (.reg [⟨some 4,.assign (.const (.int .i64 7)),none⟩]) .ret) .skip)))) (.reg [⟨some 126,.binOp .add 3 (.tmp 99) (.const (.int .i64 1)) 3,none⟩,⟨some 99,.move (.tmp 126),none⟩])))
def x159 : XC := .seq (.reg [⟨some 2,.box 64 (.tmp 0),none⟩,⟨some 4,.assign (.const (.int .i64 0)),none⟩]) (.seq (.drawn 1 [⟨some 13,.fieldAddr 64 (.tmp 2) 2,none⟩,⟨some 14,.fieldAddr 61 (.tmp 13) 0,none⟩,⟨some 15,.load 57 (.tmp 14),none⟩,⟨some 16,.fieldAddr 64 (.tmp 2) 2,none⟩,⟨some 17,.fieldAddr 61 (.tmp 16) 1,none⟩,⟨some 18,.load 57 (.tmp 17),none⟩,⟨some 5,.assign (.tmp 15),none⟩,⟨some 6,.assign (.tmp 18),none⟩]) (.seq (.seq (.reg [⟨some 19,.fieldAddr 64 (.tmp 2) 0,none⟩,⟨some 20,.load 9 (.tmp 19),none⟩,⟨some 21,.binOp .eql 9 (.tmp 20) (.const (.string ⟨#[119,101,97,107]⟩)) 9,none⟩]) (.cond (.tmp 21) (.seq (.seq (.reg [⟨some 22,.fieldAddr 64 (.tmp 2) 1,none⟩,⟨some 23,.load 59 (.tmp 22),none⟩,⟨some 24,.call ⟨.value (.func 170),#[.tmp 23],#[59]⟩,none⟩,⟨some 25,.unOp .not 4 (.tmp 24),none⟩]) (.cond (.tmp 25) (.seq (.reg [⟨some 4,.assign (.const (.int .i64 5)),none⟩]) .ret) .skip)) (.seq (.seq (.reg [⟨some 26,.fieldAddr 64 (.tmp 2) 3,none⟩,⟨some 27,.load 62 (.tmp 26),none⟩,⟨some 28,.call ⟨.builtin .len,#[.tmp 27],#[62]⟩,none⟩,⟨some 29,.binOp .neq 3 (.tmp 28) (.const (.int .i64 1)) 3,none⟩]) (.cond (.tmp 29) (.seq (.reg [⟨some 4,.assign (.const (.int .i64 9)),none⟩]) .ret) .skip)) (.seq (.seq (.reg [⟨some 30,.fieldAddr 64 (.tmp 2) 3,none⟩,⟨some 31,.load 62 (.tmp 30),none⟩,⟨some 32,.indexAddr 62 (.tmp 31) (.const (.int .i64 0)),none⟩,⟨some 33,.fieldAddr 64 (.tmp 32) 2,none⟩,⟨some 34,.load 61 (.tmp 33),none⟩,⟨some 7,.alloc 61,none⟩,⟨none,.store 61 (.tmp 7) (.tmp 34),none⟩]) (.seq (.reg [⟨some 35,.fieldAddr 61 (.tmp 7) 0,none⟩,⟨some 36,.load 57 (.tmp 35),none⟩,⟨some 37,.move (.tmp 5),none⟩,⟨some 38,.call ⟨.value (.func 171),#[.tmp 36,.tmp 37],#[226,226]⟩,none⟩,⟨some 39,.unOp .not 4 (.tmp 38),none⟩,⟨some 40,.move (.tmp 39),none⟩,⟨some 41,.fieldAddr 61 (.tmp 7) 1,some (some 40,false)⟩,⟨some 42,.load 57 (.tmp 41),some (some 40,false)⟩,⟨some 43,.move (.tmp 6),some (some 40,false)⟩,⟨some 44,.call ⟨.value (.func 171),#[.tmp 42,.tmp 43],#[226,226]⟩,some (some 40,false)⟩,⟨some 45,.unOp .not 4 (.tmp 44),some (some 40,false)⟩,⟨some 46,.pick (.tmp 40) (.const (.bool true)) (.tmp 45),none⟩]) (.cond (.tmp 46) (.seq (.reg [⟨some 4,.assign (.const (.int .i64 7)),none⟩]) .ret) .skip))) (.seq (.reg [⟨some 4,.assign (.const (.int .i64 0)),none⟩]) .ret)))) .skip)) (.seq (.drawn 11 [⟨some 48,.call ⟨.value (.func 172),#[],#[]⟩,none⟩,⟨some 49,.fieldAddr 64 (.tmp 2) 0,none⟩,⟨some 50,.load 9 (.tmp 49),none⟩,⟨some 51,.lookup 231 (.tmp 48) (.tmp 50) true,none⟩,⟨some 47,.move (.tmp 51),none⟩,⟨some 52,.extract (.tmp 47) 0,none⟩,⟨some 53,.extract (.tmp 47) 1,none⟩,⟨some 8,.assign (.tmp 52),none⟩,⟨some 9,.assign (.tmp 53),none⟩]) (.seq (.seq (.reg [⟨some 54,.move (.tmp 9),none⟩,⟨some 55,.unOp .not 4 (.tmp 54),none⟩]) (.cond (.tmp 55) (.seq (.drawn 13 [⟨some 57,.call ⟨.value (.func 173),#[],#[]⟩,none⟩,⟨some 58,.fieldAddr 64 (.tmp 2) 0,none⟩,⟨some 59,.load 9 (.tmp 58),none⟩,⟨some 60,.lookup 231 (.tmp 57) (.tmp 59) true,none⟩,⟨some 56,.move (.tmp 60),none⟩,⟨some 61,.extract (.tmp 56) 0,none⟩,⟨some 62,.extract (.tmp 56) 1,none⟩,⟨some 8,.assign (.tmp 61),none⟩,⟨some 9,.assign (.tmp 62),none⟩]) (.seq (.reg [⟨some 63,.move (.tmp 1),none⟩]) (.cond (.tmp 63) (.drawn 15 [⟨some 65,.call ⟨.value (.func 174),#[],#[]⟩,none⟩,⟨some 66,.fieldAddr 64 (.tmp 2) 0,none⟩,⟨some 67,.load 9 (.tmp 66),none⟩,⟨some 68,.lookup 231 (.tmp 65) (.tmp 67) true,none⟩,⟨some 64,.move (.tmp 68),none⟩,⟨some 69,.extract (.tmp 64) 0,none⟩,⟨some 70,.extract (.tmp 64) 1,none⟩,⟨some 8,.assign (.tmp 69),none⟩,⟨some 9,.assign (.tmp 70),none⟩]) .skip))) .skip)) (.seq (.seq (.reg [⟨some 71,.move (.tmp 9),none⟩,⟨some 72,.unOp .not 4 (.tmp 71),none⟩]) (.cond (.tmp 72) (.seq (.reg [⟨some 4,.assign (.const (.int .i64 4)),none⟩]) .ret) .skip)) (.seq (.seq (.reg [⟨some 73,.fieldAddr 64 (.tmp 2) 1,none⟩,⟨some 74,.load 59 (.tmp 73),none⟩,⟨some 75,.buildSlice 57 1 #[(0,.tmp 74)],none⟩,⟨some 76,.call ⟨.value (.func 169),#[.tmp 75],#[57]⟩,none⟩,⟨some 77,.field 33 (.tmp 76) 0,none⟩,⟨some 78,.binOp .neq 3 (.tmp 77) (.const (.int .i64 0)) 3,none⟩]) (.cond (.tmp 78) (.seq (.reg [⟨some 4,.assign (.const (.int .i64 5)),none⟩]) .ret) .skip)) (.seq (.reg [⟨some 80,.move (.tmp 8),none⟩,⟨some 81,.fieldAddr 64 (.tmp 2) 1,none⟩,⟨some 82,.load 59 (.tmp 81),none⟩,⟨some 83,.move (.tmp 5),none⟩,⟨some 84,.move (.tmp 6),none⟩,⟨some 85,.call ⟨.value (.tmp 80),#[.tmp 82,.tmp 83,.tmp 84],#[59,226,226]⟩,none⟩,⟨some 79,.move (.tmp 85),none⟩,⟨some 86,.extract (.tmp 79) 0,none⟩,⟨some 87,.extract (.tmp 79) 1,none⟩,⟨some 10,.assign (.tmp 86),none⟩,⟨some 9,.assign (.tmp 87),none⟩]) (.seq (.seq (.reg [⟨some 88,.move (.tmp 9),none⟩,⟨some 89,.unOp .not 4 (.tmp 88),none⟩]) (.cond (.tmp 89) (.seq (.reg [⟨some 4,.assign (.const (.int .i64 7)),none⟩]) .ret) .skip)) (.seq (.seq (.reg [⟨some 90,.fieldAddr 64 (.tmp 2) 3,none⟩,⟨some 91,.load 62 (.tmp 90),none⟩,⟨some 92,.call ⟨.builtin .len,#[.tmp 91],#[62]⟩,none⟩,⟨some 93,.move (.tmp 10),none⟩,⟨some 94,.call ⟨.builtin .len,#[.tmp 93],#[233]⟩,none⟩,⟨some 95,.binOp .neq 3 (.tmp 92) (.tmp 94) 3,none⟩]) (.cond (.tmp 95) (.seq (.reg [⟨some 4,.assign (.const (.int .i64 9)),none⟩]) .ret) .skip)) (.seq (.seq (.reg [⟨some 96,.fieldAddr 64 (.tmp 2) 3,none⟩,⟨some 97,.load 62 (.tmp 96),none⟩,⟨some 98,.call ⟨.builtin .len,#[.tmp 97],#[62]⟩,none⟩,⟨some 99,.move (.const (.int .i64 0)),none⟩]) (.bloop 0 x159_L0)) (.seq (.reg [⟨some 4,.assign (.const (.int .i64 0)),none⟩]) .ret)))))))))))
@[simp] theorem x159_s {C e s K} : type_of% (@X_at C e s K _ _ x159_L0.eq_1) ∧ type_of% (@X_at C e s K _ _ x159.eq_1) := ⟨X_at x159_L0.eq_1, X_at x159.eq_1⟩
def an159 : Ann := ⟨[(11, .mix 8), (13, .mix 8), (15, .mix 8), (28, .mix 19)], [(0, [], [10, 97, 98, 99], [4])], []⟩
@[simp] theorem an159_a : an159.clsOf 1 = .draw ∧ an159.clsOf 11 = .mix 8 ∧ an159.clsOf 13 = .mix 8 ∧ an159.clsOf 15 = .mix 8 ∧ an159.clsOf 28 = .mix 19 ∧ an159.frzOf 1 = [] ∧ an159.frzOf 11 = [] ∧ an159.frzOf 13 = [] ∧ an159.frzOf 15 = [] ∧ an159.frzOf 28 = [] ∧ an159.loopOf 0 = ([], [10, 97, 98, 99], [4]) := ⟨rfl, rfl, rfl, rfl, rfl, rfl, rfl, rfl, rfl, rfl, rfl⟩
theorem fi159 : FI Try.prog 159 (cxA an159) x159 [.tmp 4] Try.f159 := fiA Try.func159 mixed
theorem step_weak (u : Bool) (p : Pf) (hp : Sz p) (hk : ∀ k ∈ p.kids, Sz k) (hw : p.rule = ⟨#[119, 101, 97, 107]⟩) : CallOK Try.prog 159 [.agg (prf p), .bool u] [] (.int .i64 (stepF u p)) [] := by
 have hn := none_calculus p.f
 have hp1 := hp.l
 have hp2 := hp.r
 refine fi159.op ?_
 unfold stepF
 rw [if_pos hw]
 cases h0 : noneF p.f with
 | false =>
  rw [h0] at hn
  rw [if_pos rfl]
  ((refine Sg.h ?_); try repeat' ((first | (with_reducible first | refine brA ?_ | refine brE fun _ => ?_ | (refine spl ⟨?_, ?_⟩ <;> intro _)) | refine clo hn ?_) <;> ((try simp -implicitDefEqProofs [hw]); (try simp -implicitDefEqProofs (disch := first | assumption | (try simp only [lens]); omega -splitDisjunctions) [hw]))))
 | true =>
  rw [h0] at hn
  rw [if_neg (by simp)]
  by_cases h1 : p.kids.length = 1
  ·obtain ⟨k, hks⟩ : ∃ k, p.kids = [k] := List.length_eq_one_iff.1 h1
   have hk := hk k (by simp [hks])
   have hk1 := hk.l
   have hk2 := hk.r
   have w1 := within_bag k.l p.l (by omega) (by omega)
   have w2 := within_bag k.r p.r (by omega) (by omega)
   rw [hks]
   dsimp only
   cases b1 : withinF k.l p.l <;> rw [b1] at w1
   ·rw [if_neg (by simp)]
    ((refine Sg.h ?_); try repeat' ((first | (with_reducible first | refine brA ?_ | refine brE fun _ => ?_ | (refine spl ⟨?_, ?_⟩ <;> intro _)) | refine clo hn ?_ | refine clo w1 ?_) <;> ((try simp -implicitDefEqProofs [hw, hks]); (try simp -implicitDefEqProofs (disch := first | assumption | (try simp only [lens]); omega -splitDisjunctions) [hw, hks]))))
   ·cases b2 : withinF k.r p.r <;> rw [b2] at w2
    ·rw [if_neg (by simp)]
     ((refine Sg.h ?_); try repeat' ((first | (with_reducible first | refine brA ?_ | refine brE fun _ => ?_ | (refine spl ⟨?_, ?_⟩ <;> intro _)) | refine clo hn ?_ | refine clo w1 ?_ | refine clo w2 ?_) <;> ((try simp -implicitDefEqProofs [hw, hks]); (try simp -implicitDefEqProofs (disch := first | assumption | (try simp only [lens]); omega -splitDisjunctions) [hw, hks]))))
    ·rw [if_pos (by simp)]
     ((refine Sg.h ?_); try repeat' ((first | (with_reducible first | refine brA ?_ | refine brE fun _ => ?_ | (refine spl ⟨?_, ?_⟩ <;> intro _)) | refine clo hn ?_ | refine clo w1 ?_ | refine clo w2 ?_) <;> ((try simp -implicitDefEqProofs [hw, hks]); (try simp -implicitDefEqProofs (disch := first | assumption | (try simp only [lens]); omega -splitDisjunctions) [hw, hks]))))
  ·have h1i : ¬ (p.kids.length : Int) = 1 := by omega
   have he : (match p.kids with | [k] => if (withinF k.l p.l && withinF k.r p.r) = true then (0 : Int) else 7 | _ => 9) = 9 := by
    split
    ·rename_i hks; rw [hks] at h1; simp at h1
    ·rfl
   rw [he]
   ((refine Sg.h ?_); try repeat' ((first | (with_reducible first | refine brA ?_ | refine brE fun _ => ?_ | (refine spl ⟨?_, ?_⟩ <;> intro _)) | refine clo hn ?_) <;> ((try simp -implicitDefEqProofs [hw, h1i]); (try simp -implicitDefEqProofs (disch := first | assumption | (try simp only [lens]); omega -splitDisjunctions) [hw, h1i]))))
instance : FlatRow premRow := ⟨fun x => rfl⟩
theorem ent_len {u : Bool} {a : ByteArray} {e : Ent} (h : ruleT u a = some e) (f : Fm) (hA : Ar f) (l r : List Fm) : ∀ q ∈ (e.R f l r).1, q.1.length ≤ l.length + 2 ∧ q.2.length ≤ r.length + 2 := by
 have e1 := List.length_erase_le (a := f) (l := l)
 have e2 := List.length_erase_le (a := f) (l := r)
 have hkk : ∀ k x, kindF f k x = true → f.kind = k := fun k x hh => (kindF_mem hh).1
 have key : ∀ T : Tab, (T = sharedT ∨ T = classT ∨ T = intuT) → ∀ p ∈ T, ∀ q ∈ (p.2.R f l r).1, q.1.length ≤ l.length + 2 ∧ q.2.length ≤ r.length + 2 := by
  intro T hT p hp q hq
  have hm : p.2.R = axR ∨ p.2.R = trueR ∨ p.2.R = falseR ∨ p.2.R = andLR ∨ p.2.R = andRR ∨ p.2.R = orLR ∨ p.2.R = thenRR ∨ p.2.R = notRR ∨ p.2.R = contrLR ∨ p.2.R = orRR ∨ p.2.R = thenLR ∨ p.2.R = notLR ∨ p.2.R = contrRR ∨ p.2.R = cutCR ∨ p.2.R = thenIR ∨ p.2.R = notIR ∨ p.2.R = cutIR ∨ p.2.R = sideR 0 ∨ p.2.R = sideR 1 := by
   rcases hT with rfl | rfl | rfl <;> simp only [sharedT, classT, intuT, List.mem_cons, List.not_mem_nil, or_false] at hp
   ·rcases hp with rfl | rfl | rfl | rfl | rfl | rfl | rfl | rfl | rfl <;> simp
   ·rcases hp with rfl | rfl | rfl | rfl | rfl <;> simp
   ·rcases hp with rfl | rfl | rfl | rfl | rfl <;> simp
  have k5 : kindF f 5 l = true → f.kids.length = 2 := fun hh => by obtain ⟨a, b, h⟩ := hA.two (.inl (hkk _ _ hh)); rw [h]; rfl
  have k6 : kindF f 6 r = true → f.kids.length = 2 := fun hh => by obtain ⟨a, b, h⟩ := hA.two (.inr (.inl (hkk _ _ hh))); rw [h]; rfl
  rcases hm with h | h | h | h | h | h | h | h | h | h | h | h | h | h | h | h | h | h | h <;> rw [h] at hq
  all_goals (first | unfold axR at hq | unfold trueR at hq | unfold falseR at hq | unfold andLR at hq | unfold andRR at hq | unfold orLR at hq | unfold thenRR at hq | unfold notRR at hq | unfold contrLR at hq | unfold orRR at hq | unfold thenLR at hq | unfold notLR at hq | unfold contrRR at hq | unfold cutCR at hq | unfold thenIR at hq | unfold notIR at hq | unfold cutIR at hq | unfold sideR at hq)
  all_goals (try split at hq)
  all_goals simp only [List.mem_cons, List.not_mem_nil, or_false] at hq
  all_goals first | (cases hq; done) | (subst hq; simp_all; omega) | (rcases hq with rfl | rfl <;> simp_all <;> omega)
 unfold ruleT at h
 split at h
 ·rename_i e' he
  cases h
  obtain ⟨p, h1, h2⟩ := lookT_mem he
  rw [← h2]; exact key _ (.inl rfl) p h1
 ·obtain ⟨p, h1, h2⟩ := lookT_mem h
  rw [← h2]
  cases u
  ·exact key _ (.inr (.inl rfl)) p h1
  ·exact key _ (.inr (.inr rfl)) p h1
theorem step_rule (u : Bool) (p : Pf) (hp : Sz p) (hk : ∀ k ∈ p.kids, Sz k) (hw : ¬ p.rule = ⟨#[119, 101, 97, 107]⟩) : CallOK Try.prog 159 [.agg (prf p), .bool u] [] (.int .i64 (stepF u p)) [] := by
 have hp1 := hp.l
 have hp2 := hp.r
 have hs := shared_calculus
 have hcs := classical_calculus
 have hin := intuitionistic_calculus
 refine fi159.op ?_
 unfold stepF
 rw [if_neg hw]
 have f1 := findP_ent sharedT p.rule 0
 have f2 := findP_ent classT p.rule 0
 have f3 := findP_ent intuT p.rule 0
 cases e1 : lookT sharedT p.rule with
 | some e =>
  obtain ⟨j, hj⟩ := f1.2 e e1
  have ok : EntOK e := (lookT_mem e1).elim fun q h => h.2 ▸ sharedT_ok q h.1
  have hR : ruleT u p.rule = some e := by unfold ruleT; rw [e1]
  haveI := ok.en
  haveI := ok.flat
  rw [hR]
  dsimp only
  have hpl := Plain_truth [p.f] (by simp)
  rw [plainL_one] at hpl
  by_cases h0 : (plainF p.f).1 = 0
  ·rw [if_neg (by simpa using h0)]
   have hA := Ar.of_plain h0
   have hc := ok.call p.f hA p.l p.r (by omega) (by omega)
   have hlen := ent_len hR p.f hA p.l p.r
   generalize e.R p.f p.l p.r = V at *
   obtain ⟨ps, b⟩ := V
   dsimp only at hc hlen ⊢
   have hcl : ∀ v ∈ PV.agg (frm p.f) :: .list (p.l.map frm) :: .list (p.r.map frm) :: e.ys, Closed v := by
    intro v hv
    rcases List.mem_cons.1 hv with rfl | hv
    ·exact closed_frm _
    ·rcases List.mem_cons.1 hv with rfl | hv
     ·exact closed_list _
     ·rcases List.mem_cons.1 hv with rfl | hv
      ·exact closed_list _
      ·exact ok.flat.closed v hv
   cases b with
   | false =>
    rw [if_pos rfl]
    ((refine Sg.h ?_); try repeat' ((first | (with_reducible first | refine brA ?_ | refine brE fun _ => ?_ | (refine spl ⟨?_, ?_⟩ <;> intro _)) | refine clo hs ?_) <;> ((try simp -implicitDefEqProofs [hw, hj]); (try simp -implicitDefEqProofs (disch := first | assumption | (try simp only [lens]); omega -splitDisjunctions) [hw, hj]))))
    refine CL.giv [1] ?_
    ((refine Sg.h ?_); try repeat' ((first | (with_reducible first | refine brA ?_ | refine brE fun _ => ?_ | (refine spl ⟨?_, ?_⟩ <;> intro _)) | refine clo hpl ?_) <;> ((try simp -implicitDefEqProofs [h0]); (try simp -implicitDefEqProofs (disch := first | assumption | (try simp only [lens]); omega -splitDisjunctions) [h0]))))
    refine CL.clo hc ?_ hcl
    ((refine Sg.h ?_); try repeat' ((first | (with_reducible first | refine brA ?_ | refine brE fun _ => ?_ | (refine spl ⟨?_, ?_⟩ <;> intro _))) <;> ((try simp -implicitDefEqProofs); (try simp -implicitDefEqProofs (disch := first | assumption | (try simp only [lens]); omega -splitDisjunctions)))))
   | true =>
    rw [if_neg (by simp)]
    have row : premRow = fun q => [.list (q.1.map frm), .list (q.2.map frm)] := rfl
    by_cases h9 : p.kids.length = ps.length
    ·rw [if_neg (by simpa using h9)]
     have h9i : (p.kids.length : Int) = (ps.length : Int) := by omega
     generalize hB : meetB ps p.kids = B
     ((refine Sg.h ?_); try repeat' ((first | (with_reducible first | refine brA ?_ | refine brE fun _ => ?_ | (refine spl ⟨?_, ?_⟩ <;> intro _)) | refine clo hs ?_) <;> ((try simp -implicitDefEqProofs [hw, hj]); (try simp -implicitDefEqProofs (disch := first | assumption | (try simp only [lens]); omega -splitDisjunctions) [hw, hj]))))
     refine CL.giv [1] ?_
     ((refine Sg.h ?_); try repeat' ((first | (with_reducible first | refine brA ?_ | refine brE fun _ => ?_ | (refine spl ⟨?_, ?_⟩ <;> intro _)) | refine clo hpl ?_) <;> ((try simp -implicitDefEqProofs [h0]); (try simp -implicitDefEqProofs (disch := first | assumption | (try simp only [lens]); omega -splitDisjunctions) [h0]))))
     refine CL.clo hc ?_ hcl
     ((refine Sg.h ?_); try repeat' ((first | (with_reducible first | refine brA ?_ | refine brE fun _ => ?_ | (refine spl ⟨?_, ?_⟩ <;> intro _))) <;> ((try simp -implicitDefEqProofs [h9i]); (try simp -implicitDefEqProofs (disch := first | assumption | (try simp only [lens]); omega -splitDisjunctions) [h9i]))))
     refine W_of fun Q hQ => ?_
     have main : ∀ n i, i + n = p.kids.length → meetB (ps.drop i) (p.kids.drop i) = B → Q [(10, .list (ps.map premRow)), (97, .list (p.kids.map prf)), (98, .int .i64 (ps.length : Int)), (99, .int .i64 (i : Int))] [] := by
      intro n
      induction n with
      | zero =>
       intro i hi he
       rw [List.drop_of_length_le (show p.kids.length ≤ i by omega), List.drop_of_length_le (show ps.length ≤ i by omega), meetB] at he
       ·apply hQ
        clear hQ
        subst he
        ((refine Sg.h ?_); try repeat' ((first | (with_reducible first | refine brA ?_ | refine brE fun _ => ?_ | (refine spl ⟨?_, ?_⟩ <;> intro _))) <;> ((try simp -implicitDefEqProofs); (try simp -implicitDefEqProofs (disch := first | assumption | (try simp only [lens]); omega -splitDisjunctions)))))
       ·simp
      | succ n ih =>
       intro i hi he
       have hil : i < p.kids.length := by omega
       have hip : i < ps.length := by omega
       have ih := ih (i + 1) (by omega)
       rw [List.drop_eq_getElem_cons hil, List.drop_eq_getElem_cons hip, meetB] at he
       have hq := hlen _ (List.getElem_mem hip)
       have hz := hk _ (List.getElem_mem hil)
       have hz1 := hz.l
       have hz2 := hz.r
       have s1 := same_bag ps[i].1 p.kids[i].l (by omega) (by omega)
       have s2 := same_bag ps[i].2 p.kids[i].r (by omega) (by omega)
       change CallOK _ _ _ _ (.bool (sameF ps[i].1 p.kids[i].l)) _ at s1
       change CallOK _ _ _ _ (.bool (sameF ps[i].2 p.kids[i].r)) _ at s2
       apply hQ
       clear hQ
       cases b1 : sameF ps[i].1 p.kids[i].l with
       | false =>
        rw [b1] at s1 he
        rw [Bool.false_and, Bool.false_and] at he
        subst he
        ((refine Sg.h ?_); try repeat' ((first | (with_reducible first | refine brA ?_ | refine brE fun _ => ?_ | (refine spl ⟨?_, ?_⟩ <;> intro _)) | refine clo s1 ?_) <;> ((try simp -implicitDefEqProofs [hil, hip, row]); (try simp -implicitDefEqProofs (disch := first | assumption | (try simp only [lens]); omega -splitDisjunctions) [hil, hip, row]))))
       | true =>
        rw [b1] at s1 he
        cases b2 : sameF ps[i].2 p.kids[i].r with
        | false =>
         rw [b2] at s2 he
         rw [Bool.true_and, Bool.false_and] at he
         subst he
         ((refine Sg.h ?_); try repeat' ((first | (with_reducible first | refine brA ?_ | refine brE fun _ => ?_ | (refine spl ⟨?_, ?_⟩ <;> intro _)) | refine clo s1 ?_ | refine clo s2 ?_) <;> ((try simp -implicitDefEqProofs [hil, hip, row]); (try simp -implicitDefEqProofs (disch := first | assumption | (try simp only [lens]); omega -splitDisjunctions) [hil, hip, row]))))
        | true =>
         rw [b2] at s2 he
         rw [Bool.true_and, Bool.true_and] at he
         have ih := ih he
         ((refine Sg.h ?_); try repeat' ((first | (with_reducible first | refine brA ?_ | refine brE fun _ => ?_ | (refine spl ⟨?_, ?_⟩ <;> intro _)) | refine clo s1 ?_ | refine clo s2 ?_) <;> ((try simp -implicitDefEqProofs [hil, hip, row]); (try simp -implicitDefEqProofs (disch := first | assumption | (try simp only [lens]); omega -splitDisjunctions) [hil, hip, row]))))
         all_goals first | exact ih | (refine at2 ih ?_ ?_ <;> simp; done) | (exfalso; first | omega | (simp_all; done) | (simp_all; omega))
     have m0 := main _ 0 (Nat.zero_add _) (by simpa using hB)
     all_goals first | exact m0 | (refine at2 m0 ?_ ?_ <;> simp; done) | (exfalso; first | omega | (simp_all; done) | (simp_all; omega))
    ·rw [if_pos h9]
     have h9i : ¬ (p.kids.length : Int) = (ps.length : Int) := by omega
     ((refine Sg.h ?_); try repeat' ((first | (with_reducible first | refine brA ?_ | refine brE fun _ => ?_ | (refine spl ⟨?_, ?_⟩ <;> intro _)) | refine clo hs ?_) <;> ((try simp -implicitDefEqProofs [hw, hj]); (try simp -implicitDefEqProofs (disch := first | assumption | (try simp only [lens]); omega -splitDisjunctions) [hw, hj]))))
     refine CL.giv [1] ?_
     ((refine Sg.h ?_); try repeat' ((first | (with_reducible first | refine brA ?_ | refine brE fun _ => ?_ | (refine spl ⟨?_, ?_⟩ <;> intro _)) | refine clo hpl ?_) <;> ((try simp -implicitDefEqProofs [h0]); (try simp -implicitDefEqProofs (disch := first | assumption | (try simp only [lens]); omega -splitDisjunctions) [h0]))))
     refine CL.clo hc ?_ hcl
     ((refine Sg.h ?_); try repeat' ((first | (with_reducible first | refine brA ?_ | refine brE fun _ => ?_ | (refine spl ⟨?_, ?_⟩ <;> intro _))) <;> ((try simp -implicitDefEqProofs [h9i]); (try simp -implicitDefEqProofs (disch := first | assumption | (try simp only [lens]); omega -splitDisjunctions) [h9i]))))
  ·rw [if_pos (by simpa using h0)]
   ((refine Sg.h ?_); try repeat' ((first | (with_reducible first | refine brA ?_ | refine brE fun _ => ?_ | (refine spl ⟨?_, ?_⟩ <;> intro _)) | refine clo hs ?_) <;> ((try simp -implicitDefEqProofs [hw, hj]); (try simp -implicitDefEqProofs (disch := first | assumption | (try simp only [lens]); omega -splitDisjunctions) [hw, hj]))))
   refine CL.giv [1] ?_
   ((refine Sg.h ?_); try repeat' ((first | (with_reducible first | refine brA ?_ | refine brE fun _ => ?_ | (refine spl ⟨?_, ?_⟩ <;> intro _)) | refine clo hpl ?_) <;> ((try simp -implicitDefEqProofs [h0]); (try simp -implicitDefEqProofs (disch := first | assumption | (try simp only [lens]); omega -splitDisjunctions) [h0]))))
 | none =>
  have g1 := f1.1 e1
  cases u with
  | false =>
   cases e2 : lookT classT p.rule with
   | some e =>
    obtain ⟨j, hj⟩ := f2.2 e e2
    have ok : EntOK e := (lookT_mem e2).elim fun q h => h.2 ▸ classT_ok q h.1
    have hR : ruleT false p.rule = some e := by unfold ruleT; rw [e1]; exact e2
    haveI := ok.en
    haveI := ok.flat
    rw [hR]
    dsimp only
    have hpl := Plain_truth [p.f] (by simp)
    rw [plainL_one] at hpl
    by_cases h0 : (plainF p.f).1 = 0
    ·rw [if_neg (by simpa using h0)]
     have hA := Ar.of_plain h0
     have hc := ok.call p.f hA p.l p.r (by omega) (by omega)
     have hlen := ent_len hR p.f hA p.l p.r
     generalize e.R p.f p.l p.r = V at *
     obtain ⟨ps, b⟩ := V
     dsimp only at hc hlen ⊢
     have hcl : ∀ v ∈ PV.agg (frm p.f) :: .list (p.l.map frm) :: .list (p.r.map frm) :: e.ys, Closed v := by
      intro v hv
      rcases List.mem_cons.1 hv with rfl | hv
      ·exact closed_frm _
      ·rcases List.mem_cons.1 hv with rfl | hv
       ·exact closed_list _
       ·rcases List.mem_cons.1 hv with rfl | hv
        ·exact closed_list _
        ·exact ok.flat.closed v hv
     cases b with
     | false =>
      rw [if_pos rfl]
      ((refine Sg.h ?_); try repeat' ((first | (with_reducible first | refine brA ?_ | refine brE fun _ => ?_ | (refine spl ⟨?_, ?_⟩ <;> intro _)) | refine clo hs ?_ | refine clo hcs ?_) <;> ((try simp -implicitDefEqProofs [hw, g1, hj]); (try simp -implicitDefEqProofs (disch := first | assumption | (try simp only [lens]); omega -splitDisjunctions) [hw, g1, hj]))))
      refine CL.giv [1] ?_
      ((refine Sg.h ?_); try repeat' ((first | (with_reducible first | refine brA ?_ | refine brE fun _ => ?_ | (refine spl ⟨?_, ?_⟩ <;> intro _)) | refine clo hpl ?_) <;> ((try simp -implicitDefEqProofs [h0]); (try simp -implicitDefEqProofs (disch := first | assumption | (try simp only [lens]); omega -splitDisjunctions) [h0]))))
      refine CL.clo hc ?_ hcl
      ((refine Sg.h ?_); try repeat' ((first | (with_reducible first | refine brA ?_ | refine brE fun _ => ?_ | (refine spl ⟨?_, ?_⟩ <;> intro _))) <;> ((try simp -implicitDefEqProofs); (try simp -implicitDefEqProofs (disch := first | assumption | (try simp only [lens]); omega -splitDisjunctions)))))
     | true =>
      rw [if_neg (by simp)]
      have row : premRow = fun q => [.list (q.1.map frm), .list (q.2.map frm)] := rfl
      by_cases h9 : p.kids.length = ps.length
      ·rw [if_neg (by simpa using h9)]
       have h9i : (p.kids.length : Int) = (ps.length : Int) := by omega
       generalize hB : meetB ps p.kids = B
       ((refine Sg.h ?_); try repeat' ((first | (with_reducible first | refine brA ?_ | refine brE fun _ => ?_ | (refine spl ⟨?_, ?_⟩ <;> intro _)) | refine clo hs ?_ | refine clo hcs ?_) <;> ((try simp -implicitDefEqProofs [hw, g1, hj]); (try simp -implicitDefEqProofs (disch := first | assumption | (try simp only [lens]); omega -splitDisjunctions) [hw, g1, hj]))))
       refine CL.giv [1] ?_
       ((refine Sg.h ?_); try repeat' ((first | (with_reducible first | refine brA ?_ | refine brE fun _ => ?_ | (refine spl ⟨?_, ?_⟩ <;> intro _)) | refine clo hpl ?_) <;> ((try simp -implicitDefEqProofs [h0]); (try simp -implicitDefEqProofs (disch := first | assumption | (try simp only [lens]); omega -splitDisjunctions) [h0]))))
       refine CL.clo hc ?_ hcl
       ((refine Sg.h ?_); try repeat' ((first | (with_reducible first | refine brA ?_ | refine brE fun _ => ?_ | (refine spl ⟨?_, ?_⟩ <;> intro _))) <;> ((try simp -implicitDefEqProofs [h9i]); (try simp -implicitDefEqProofs (disch := first | assumption | (try simp only [lens]); omega -splitDisjunctions) [h9i]))))
       refine W_of fun Q hQ => ?_
       have main : ∀ n i, i + n = p.kids.length → meetB (ps.drop i) (p.kids.drop i) = B → Q [(10, .list (ps.map premRow)), (97, .list (p.kids.map prf)), (98, .int .i64 (ps.length : Int)), (99, .int .i64 (i : Int))] [] := by
        intro n
        induction n with
        | zero =>
         intro i hi he
         rw [List.drop_of_length_le (show p.kids.length ≤ i by omega), List.drop_of_length_le (show ps.length ≤ i by omega), meetB] at he
         ·apply hQ
          clear hQ
          subst he
          ((refine Sg.h ?_); try repeat' ((first | (with_reducible first | refine brA ?_ | refine brE fun _ => ?_ | (refine spl ⟨?_, ?_⟩ <;> intro _))) <;> ((try simp -implicitDefEqProofs); (try simp -implicitDefEqProofs (disch := first | assumption | (try simp only [lens]); omega -splitDisjunctions)))))
         ·simp
        | succ n ih =>
         intro i hi he
         have hil : i < p.kids.length := by omega
         have hip : i < ps.length := by omega
         have ih := ih (i + 1) (by omega)
         rw [List.drop_eq_getElem_cons hil, List.drop_eq_getElem_cons hip, meetB] at he
         have hq := hlen _ (List.getElem_mem hip)
         have hz := hk _ (List.getElem_mem hil)
         have hz1 := hz.l
         have hz2 := hz.r
         have s1 := same_bag ps[i].1 p.kids[i].l (by omega) (by omega)
         have s2 := same_bag ps[i].2 p.kids[i].r (by omega) (by omega)
         change CallOK _ _ _ _ (.bool (sameF ps[i].1 p.kids[i].l)) _ at s1
         change CallOK _ _ _ _ (.bool (sameF ps[i].2 p.kids[i].r)) _ at s2
         apply hQ
         clear hQ
         cases b1 : sameF ps[i].1 p.kids[i].l with
         | false =>
          rw [b1] at s1 he
          rw [Bool.false_and, Bool.false_and] at he
          subst he
          ((refine Sg.h ?_); try repeat' ((first | (with_reducible first | refine brA ?_ | refine brE fun _ => ?_ | (refine spl ⟨?_, ?_⟩ <;> intro _)) | refine clo s1 ?_) <;> ((try simp -implicitDefEqProofs [hil, hip, row]); (try simp -implicitDefEqProofs (disch := first | assumption | (try simp only [lens]); omega -splitDisjunctions) [hil, hip, row]))))
         | true =>
          rw [b1] at s1 he
          cases b2 : sameF ps[i].2 p.kids[i].r with
          | false =>
           rw [b2] at s2 he
           rw [Bool.true_and, Bool.false_and] at he
           subst he
           ((refine Sg.h ?_); try repeat' ((first | (with_reducible first | refine brA ?_ | refine brE fun _ => ?_ | (refine spl ⟨?_, ?_⟩ <;> intro _)) | refine clo s1 ?_ | refine clo s2 ?_) <;> ((try simp -implicitDefEqProofs [hil, hip, row]); (try simp -implicitDefEqProofs (disch := first | assumption | (try simp only [lens]); omega -splitDisjunctions) [hil, hip, row]))))
          | true =>
           rw [b2] at s2 he
           rw [Bool.true_and, Bool.true_and] at he
           have ih := ih he
           ((refine Sg.h ?_); try repeat' ((first | (with_reducible first | refine brA ?_ | refine brE fun _ => ?_ | (refine spl ⟨?_, ?_⟩ <;> intro _)) | refine clo s1 ?_ | refine clo s2 ?_) <;> ((try simp -implicitDefEqProofs [hil, hip, row]); (try simp -implicitDefEqProofs (disch := first | assumption | (try simp only [lens]); omega -splitDisjunctions) [hil, hip, row]))))
           all_goals first | exact ih | (refine at2 ih ?_ ?_ <;> simp; done) | (exfalso; first | omega | (simp_all; done) | (simp_all; omega))
       have m0 := main _ 0 (Nat.zero_add _) (by simpa using hB)
       all_goals first | exact m0 | (refine at2 m0 ?_ ?_ <;> simp; done) | (exfalso; first | omega | (simp_all; done) | (simp_all; omega))
      ·rw [if_pos h9]
       have h9i : ¬ (p.kids.length : Int) = (ps.length : Int) := by omega
       ((refine Sg.h ?_); try repeat' ((first | (with_reducible first | refine brA ?_ | refine brE fun _ => ?_ | (refine spl ⟨?_, ?_⟩ <;> intro _)) | refine clo hs ?_ | refine clo hcs ?_) <;> ((try simp -implicitDefEqProofs [hw, g1, hj]); (try simp -implicitDefEqProofs (disch := first | assumption | (try simp only [lens]); omega -splitDisjunctions) [hw, g1, hj]))))
       refine CL.giv [1] ?_
       ((refine Sg.h ?_); try repeat' ((first | (with_reducible first | refine brA ?_ | refine brE fun _ => ?_ | (refine spl ⟨?_, ?_⟩ <;> intro _)) | refine clo hpl ?_) <;> ((try simp -implicitDefEqProofs [h0]); (try simp -implicitDefEqProofs (disch := first | assumption | (try simp only [lens]); omega -splitDisjunctions) [h0]))))
       refine CL.clo hc ?_ hcl
       ((refine Sg.h ?_); try repeat' ((first | (with_reducible first | refine brA ?_ | refine brE fun _ => ?_ | (refine spl ⟨?_, ?_⟩ <;> intro _))) <;> ((try simp -implicitDefEqProofs [h9i]); (try simp -implicitDefEqProofs (disch := first | assumption | (try simp only [lens]); omega -splitDisjunctions) [h9i]))))
    ·rw [if_pos (by simpa using h0)]
     ((refine Sg.h ?_); try repeat' ((first | (with_reducible first | refine brA ?_ | refine brE fun _ => ?_ | (refine spl ⟨?_, ?_⟩ <;> intro _)) | refine clo hs ?_ | refine clo hcs ?_) <;> ((try simp -implicitDefEqProofs [hw, g1, hj]); (try simp -implicitDefEqProofs (disch := first | assumption | (try simp only [lens]); omega -splitDisjunctions) [hw, g1, hj]))))
     refine CL.giv [1] ?_
     ((refine Sg.h ?_); try repeat' ((first | (with_reducible first | refine brA ?_ | refine brE fun _ => ?_ | (refine spl ⟨?_, ?_⟩ <;> intro _)) | refine clo hpl ?_) <;> ((try simp -implicitDefEqProofs [h0]); (try simp -implicitDefEqProofs (disch := first | assumption | (try simp only [lens]); omega -splitDisjunctions) [h0]))))
   | none =>
    have g2 := f2.1 e2
    rw [show ruleT false p.rule = none from by unfold ruleT; rw [e1]; exact e2]
    ((refine Sg.h ?_); try repeat' ((first | (with_reducible first | refine brA ?_ | refine brE fun _ => ?_ | (refine spl ⟨?_, ?_⟩ <;> intro _)) | refine clo hs ?_ | refine clo hcs ?_) <;> ((try simp -implicitDefEqProofs [hw, g1, g2]); (try simp -implicitDefEqProofs (disch := first | assumption | (try simp only [lens]); omega -splitDisjunctions) [hw, g1, g2]))))
  | true =>
   cases e3 : lookT intuT p.rule with
   | some e =>
    obtain ⟨j, hj⟩ := f3.2 e e3
    cases e2 : lookT classT p.rule with
    | some e' =>
     obtain ⟨j', g2⟩ := f2.2 e' e2
     have ok : EntOK e := (lookT_mem e3).elim fun q h => h.2 ▸ intuT_ok q h.1
     have hR : ruleT true p.rule = some e := by unfold ruleT; rw [e1]; exact e3
     haveI := ok.en
     haveI := ok.flat
     rw [hR]
     dsimp only
     have hpl := Plain_truth [p.f] (by simp)
     rw [plainL_one] at hpl
     by_cases h0 : (plainF p.f).1 = 0
     ·rw [if_neg (by simpa using h0)]
      have hA := Ar.of_plain h0
      have hc := ok.call p.f hA p.l p.r (by omega) (by omega)
      have hlen := ent_len hR p.f hA p.l p.r
      generalize e.R p.f p.l p.r = V at *
      obtain ⟨ps, b⟩ := V
      dsimp only at hc hlen ⊢
      have hcl : ∀ v ∈ PV.agg (frm p.f) :: .list (p.l.map frm) :: .list (p.r.map frm) :: e.ys, Closed v := by
       intro v hv
       rcases List.mem_cons.1 hv with rfl | hv
       ·exact closed_frm _
       ·rcases List.mem_cons.1 hv with rfl | hv
        ·exact closed_list _
        ·rcases List.mem_cons.1 hv with rfl | hv
         ·exact closed_list _
         ·exact ok.flat.closed v hv
      cases b with
      | false =>
       rw [if_pos rfl]
       ((refine Sg.h ?_); try repeat' ((first | (with_reducible first | refine brA ?_ | refine brE fun _ => ?_ | (refine spl ⟨?_, ?_⟩ <;> intro _)) | refine clo hs ?_ | refine clo hcs ?_ | refine clo hin ?_) <;> ((try simp -implicitDefEqProofs [hw, g1, g2, hj]); (try simp -implicitDefEqProofs (disch := first | assumption | (try simp only [lens]); omega -splitDisjunctions) [hw, g1, g2, hj]))))
       refine CL.giv [1] ?_
       ((refine Sg.h ?_); try repeat' ((first | (with_reducible first | refine brA ?_ | refine brE fun _ => ?_ | (refine spl ⟨?_, ?_⟩ <;> intro _)) | refine clo hpl ?_) <;> ((try simp -implicitDefEqProofs [h0]); (try simp -implicitDefEqProofs (disch := first | assumption | (try simp only [lens]); omega -splitDisjunctions) [h0]))))
       refine CL.clo hc ?_ hcl
       ((refine Sg.h ?_); try repeat' ((first | (with_reducible first | refine brA ?_ | refine brE fun _ => ?_ | (refine spl ⟨?_, ?_⟩ <;> intro _))) <;> ((try simp -implicitDefEqProofs); (try simp -implicitDefEqProofs (disch := first | assumption | (try simp only [lens]); omega -splitDisjunctions)))))
      | true =>
       rw [if_neg (by simp)]
       have row : premRow = fun q => [.list (q.1.map frm), .list (q.2.map frm)] := rfl
       by_cases h9 : p.kids.length = ps.length
       ·rw [if_neg (by simpa using h9)]
        have h9i : (p.kids.length : Int) = (ps.length : Int) := by omega
        generalize hB : meetB ps p.kids = B
        ((refine Sg.h ?_); try repeat' ((first | (with_reducible first | refine brA ?_ | refine brE fun _ => ?_ | (refine spl ⟨?_, ?_⟩ <;> intro _)) | refine clo hs ?_ | refine clo hcs ?_ | refine clo hin ?_) <;> ((try simp -implicitDefEqProofs [hw, g1, g2, hj]); (try simp -implicitDefEqProofs (disch := first | assumption | (try simp only [lens]); omega -splitDisjunctions) [hw, g1, g2, hj]))))
        refine CL.giv [1] ?_
        ((refine Sg.h ?_); try repeat' ((first | (with_reducible first | refine brA ?_ | refine brE fun _ => ?_ | (refine spl ⟨?_, ?_⟩ <;> intro _)) | refine clo hpl ?_) <;> ((try simp -implicitDefEqProofs [h0]); (try simp -implicitDefEqProofs (disch := first | assumption | (try simp only [lens]); omega -splitDisjunctions) [h0]))))
        refine CL.clo hc ?_ hcl
        ((refine Sg.h ?_); try repeat' ((first | (with_reducible first | refine brA ?_ | refine brE fun _ => ?_ | (refine spl ⟨?_, ?_⟩ <;> intro _))) <;> ((try simp -implicitDefEqProofs [h9i]); (try simp -implicitDefEqProofs (disch := first | assumption | (try simp only [lens]); omega -splitDisjunctions) [h9i]))))
        refine W_of fun Q hQ => ?_
        have main : ∀ n i, i + n = p.kids.length → meetB (ps.drop i) (p.kids.drop i) = B → Q [(10, .list (ps.map premRow)), (97, .list (p.kids.map prf)), (98, .int .i64 (ps.length : Int)), (99, .int .i64 (i : Int))] [] := by
         intro n
         induction n with
         | zero =>
          intro i hi he
          rw [List.drop_of_length_le (show p.kids.length ≤ i by omega), List.drop_of_length_le (show ps.length ≤ i by omega), meetB] at he
          ·apply hQ
           clear hQ
           subst he
           ((refine Sg.h ?_); try repeat' ((first | (with_reducible first | refine brA ?_ | refine brE fun _ => ?_ | (refine spl ⟨?_, ?_⟩ <;> intro _))) <;> ((try simp -implicitDefEqProofs); (try simp -implicitDefEqProofs (disch := first | assumption | (try simp only [lens]); omega -splitDisjunctions)))))
          ·simp
         | succ n ih =>
          intro i hi he
          have hil : i < p.kids.length := by omega
          have hip : i < ps.length := by omega
          have ih := ih (i + 1) (by omega)
          rw [List.drop_eq_getElem_cons hil, List.drop_eq_getElem_cons hip, meetB] at he
          have hq := hlen _ (List.getElem_mem hip)
          have hz := hk _ (List.getElem_mem hil)
          have hz1 := hz.l
          have hz2 := hz.r
          have s1 := same_bag ps[i].1 p.kids[i].l (by omega) (by omega)
          have s2 := same_bag ps[i].2 p.kids[i].r (by omega) (by omega)
          change CallOK _ _ _ _ (.bool (sameF ps[i].1 p.kids[i].l)) _ at s1
          change CallOK _ _ _ _ (.bool (sameF ps[i].2 p.kids[i].r)) _ at s2
          apply hQ
          clear hQ
          cases b1 : sameF ps[i].1 p.kids[i].l with
          | false =>
           rw [b1] at s1 he
           rw [Bool.false_and, Bool.false_and] at he
           subst he
           ((refine Sg.h ?_); try repeat' ((first | (with_reducible first | refine brA ?_ | refine brE fun _ => ?_ | (refine spl ⟨?_, ?_⟩ <;> intro _)) | refine clo s1 ?_) <;> ((try simp -implicitDefEqProofs [hil, hip, row]); (try simp -implicitDefEqProofs (disch := first | assumption | (try simp only [lens]); omega -splitDisjunctions) [hil, hip, row]))))
          | true =>
           rw [b1] at s1 he
           cases b2 : sameF ps[i].2 p.kids[i].r with
           | false =>
            rw [b2] at s2 he
            rw [Bool.true_and, Bool.false_and] at he
            subst he
            ((refine Sg.h ?_); try repeat' ((first | (with_reducible first | refine brA ?_ | refine brE fun _ => ?_ | (refine spl ⟨?_, ?_⟩ <;> intro _)) | refine clo s1 ?_ | refine clo s2 ?_) <;> ((try simp -implicitDefEqProofs [hil, hip, row]); (try simp -implicitDefEqProofs (disch := first | assumption | (try simp only [lens]); omega -splitDisjunctions) [hil, hip, row]))))
           | true =>
            rw [b2] at s2 he
            rw [Bool.true_and, Bool.true_and] at he
            have ih := ih he
            ((refine Sg.h ?_); try repeat' ((first | (with_reducible first | refine brA ?_ | refine brE fun _ => ?_ | (refine spl ⟨?_, ?_⟩ <;> intro _)) | refine clo s1 ?_ | refine clo s2 ?_) <;> ((try simp -implicitDefEqProofs [hil, hip, row]); (try simp -implicitDefEqProofs (disch := first | assumption | (try simp only [lens]); omega -splitDisjunctions) [hil, hip, row]))))
            all_goals first | exact ih | (refine at2 ih ?_ ?_ <;> simp; done) | (exfalso; first | omega | (simp_all; done) | (simp_all; omega))
        have m0 := main _ 0 (Nat.zero_add _) (by simpa using hB)
        all_goals first | exact m0 | (refine at2 m0 ?_ ?_ <;> simp; done) | (exfalso; first | omega | (simp_all; done) | (simp_all; omega))
       ·rw [if_pos h9]
        have h9i : ¬ (p.kids.length : Int) = (ps.length : Int) := by omega
        ((refine Sg.h ?_); try repeat' ((first | (with_reducible first | refine brA ?_ | refine brE fun _ => ?_ | (refine spl ⟨?_, ?_⟩ <;> intro _)) | refine clo hs ?_ | refine clo hcs ?_ | refine clo hin ?_) <;> ((try simp -implicitDefEqProofs [hw, g1, g2, hj]); (try simp -implicitDefEqProofs (disch := first | assumption | (try simp only [lens]); omega -splitDisjunctions) [hw, g1, g2, hj]))))
        refine CL.giv [1] ?_
        ((refine Sg.h ?_); try repeat' ((first | (with_reducible first | refine brA ?_ | refine brE fun _ => ?_ | (refine spl ⟨?_, ?_⟩ <;> intro _)) | refine clo hpl ?_) <;> ((try simp -implicitDefEqProofs [h0]); (try simp -implicitDefEqProofs (disch := first | assumption | (try simp only [lens]); omega -splitDisjunctions) [h0]))))
        refine CL.clo hc ?_ hcl
        ((refine Sg.h ?_); try repeat' ((first | (with_reducible first | refine brA ?_ | refine brE fun _ => ?_ | (refine spl ⟨?_, ?_⟩ <;> intro _))) <;> ((try simp -implicitDefEqProofs [h9i]); (try simp -implicitDefEqProofs (disch := first | assumption | (try simp only [lens]); omega -splitDisjunctions) [h9i]))))
     ·rw [if_pos (by simpa using h0)]
      ((refine Sg.h ?_); try repeat' ((first | (with_reducible first | refine brA ?_ | refine brE fun _ => ?_ | (refine spl ⟨?_, ?_⟩ <;> intro _)) | refine clo hs ?_ | refine clo hcs ?_ | refine clo hin ?_) <;> ((try simp -implicitDefEqProofs [hw, g1, g2, hj]); (try simp -implicitDefEqProofs (disch := first | assumption | (try simp only [lens]); omega -splitDisjunctions) [hw, g1, g2, hj]))))
      refine CL.giv [1] ?_
      ((refine Sg.h ?_); try repeat' ((first | (with_reducible first | refine brA ?_ | refine brE fun _ => ?_ | (refine spl ⟨?_, ?_⟩ <;> intro _)) | refine clo hpl ?_) <;> ((try simp -implicitDefEqProofs [h0]); (try simp -implicitDefEqProofs (disch := first | assumption | (try simp only [lens]); omega -splitDisjunctions) [h0]))))
    | none =>
     have g2 := f2.1 e2
     have ok : EntOK e := (lookT_mem e3).elim fun q h => h.2 ▸ intuT_ok q h.1
     have hR : ruleT true p.rule = some e := by unfold ruleT; rw [e1]; exact e3
     haveI := ok.en
     haveI := ok.flat
     rw [hR]
     dsimp only
     have hpl := Plain_truth [p.f] (by simp)
     rw [plainL_one] at hpl
     by_cases h0 : (plainF p.f).1 = 0
     ·rw [if_neg (by simpa using h0)]
      have hA := Ar.of_plain h0
      have hc := ok.call p.f hA p.l p.r (by omega) (by omega)
      have hlen := ent_len hR p.f hA p.l p.r
      generalize e.R p.f p.l p.r = V at *
      obtain ⟨ps, b⟩ := V
      dsimp only at hc hlen ⊢
      have hcl : ∀ v ∈ PV.agg (frm p.f) :: .list (p.l.map frm) :: .list (p.r.map frm) :: e.ys, Closed v := by
       intro v hv
       rcases List.mem_cons.1 hv with rfl | hv
       ·exact closed_frm _
       ·rcases List.mem_cons.1 hv with rfl | hv
        ·exact closed_list _
        ·rcases List.mem_cons.1 hv with rfl | hv
         ·exact closed_list _
         ·exact ok.flat.closed v hv
      cases b with
      | false =>
       rw [if_pos rfl]
       ((refine Sg.h ?_); try repeat' ((first | (with_reducible first | refine brA ?_ | refine brE fun _ => ?_ | (refine spl ⟨?_, ?_⟩ <;> intro _)) | refine clo hs ?_ | refine clo hcs ?_ | refine clo hin ?_) <;> ((try simp -implicitDefEqProofs [hw, g1, g2, hj]); (try simp -implicitDefEqProofs (disch := first | assumption | (try simp only [lens]); omega -splitDisjunctions) [hw, g1, g2, hj]))))
       refine CL.giv [1] ?_
       ((refine Sg.h ?_); try repeat' ((first | (with_reducible first | refine brA ?_ | refine brE fun _ => ?_ | (refine spl ⟨?_, ?_⟩ <;> intro _)) | refine clo hpl ?_) <;> ((try simp -implicitDefEqProofs [h0]); (try simp -implicitDefEqProofs (disch := first | assumption | (try simp only [lens]); omega -splitDisjunctions) [h0]))))
       refine CL.clo hc ?_ hcl
       ((refine Sg.h ?_); try repeat' ((first | (with_reducible first | refine brA ?_ | refine brE fun _ => ?_ | (refine spl ⟨?_, ?_⟩ <;> intro _))) <;> ((try simp -implicitDefEqProofs); (try simp -implicitDefEqProofs (disch := first | assumption | (try simp only [lens]); omega -splitDisjunctions)))))
      | true =>
       rw [if_neg (by simp)]
       have row : premRow = fun q => [.list (q.1.map frm), .list (q.2.map frm)] := rfl
       by_cases h9 : p.kids.length = ps.length
       ·rw [if_neg (by simpa using h9)]
        have h9i : (p.kids.length : Int) = (ps.length : Int) := by omega
        generalize hB : meetB ps p.kids = B
        ((refine Sg.h ?_); try repeat' ((first | (with_reducible first | refine brA ?_ | refine brE fun _ => ?_ | (refine spl ⟨?_, ?_⟩ <;> intro _)) | refine clo hs ?_ | refine clo hcs ?_ | refine clo hin ?_) <;> ((try simp -implicitDefEqProofs [hw, g1, g2, hj]); (try simp -implicitDefEqProofs (disch := first | assumption | (try simp only [lens]); omega -splitDisjunctions) [hw, g1, g2, hj]))))
        refine CL.giv [1] ?_
        ((refine Sg.h ?_); try repeat' ((first | (with_reducible first | refine brA ?_ | refine brE fun _ => ?_ | (refine spl ⟨?_, ?_⟩ <;> intro _)) | refine clo hpl ?_) <;> ((try simp -implicitDefEqProofs [h0]); (try simp -implicitDefEqProofs (disch := first | assumption | (try simp only [lens]); omega -splitDisjunctions) [h0]))))
        refine CL.clo hc ?_ hcl
        ((refine Sg.h ?_); try repeat' ((first | (with_reducible first | refine brA ?_ | refine brE fun _ => ?_ | (refine spl ⟨?_, ?_⟩ <;> intro _))) <;> ((try simp -implicitDefEqProofs [h9i]); (try simp -implicitDefEqProofs (disch := first | assumption | (try simp only [lens]); omega -splitDisjunctions) [h9i]))))
        refine W_of fun Q hQ => ?_
        have main : ∀ n i, i + n = p.kids.length → meetB (ps.drop i) (p.kids.drop i) = B → Q [(10, .list (ps.map premRow)), (97, .list (p.kids.map prf)), (98, .int .i64 (ps.length : Int)), (99, .int .i64 (i : Int))] [] := by
         intro n
         induction n with
         | zero =>
          intro i hi he
          rw [List.drop_of_length_le (show p.kids.length ≤ i by omega), List.drop_of_length_le (show ps.length ≤ i by omega), meetB] at he
          ·apply hQ
           clear hQ
           subst he
           ((refine Sg.h ?_); try repeat' ((first | (with_reducible first | refine brA ?_ | refine brE fun _ => ?_ | (refine spl ⟨?_, ?_⟩ <;> intro _))) <;> ((try simp -implicitDefEqProofs); (try simp -implicitDefEqProofs (disch := first | assumption | (try simp only [lens]); omega -splitDisjunctions)))))
          ·simp
         | succ n ih =>
          intro i hi he
          have hil : i < p.kids.length := by omega
          have hip : i < ps.length := by omega
          have ih := ih (i + 1) (by omega)
          rw [List.drop_eq_getElem_cons hil, List.drop_eq_getElem_cons hip, meetB] at he
          have hq := hlen _ (List.getElem_mem hip)
          have hz := hk _ (List.getElem_mem hil)
          have hz1 := hz.l
          have hz2 := hz.r
          have s1 := same_bag ps[i].1 p.kids[i].l (by omega) (by omega)
          have s2 := same_bag ps[i].2 p.kids[i].r (by omega) (by omega)
          change CallOK _ _ _ _ (.bool (sameF ps[i].1 p.kids[i].l)) _ at s1
          change CallOK _ _ _ _ (.bool (sameF ps[i].2 p.kids[i].r)) _ at s2
          apply hQ
          clear hQ
          cases b1 : sameF ps[i].1 p.kids[i].l with
          | false =>
           rw [b1] at s1 he
           rw [Bool.false_and, Bool.false_and] at he
           subst he
           ((refine Sg.h ?_); try repeat' ((first | (with_reducible first | refine brA ?_ | refine brE fun _ => ?_ | (refine spl ⟨?_, ?_⟩ <;> intro _)) | refine clo s1 ?_) <;> ((try simp -implicitDefEqProofs [hil, hip, row]); (try simp -implicitDefEqProofs (disch := first | assumption | (try simp only [lens]); omega -splitDisjunctions) [hil, hip, row]))))
          | true =>
           rw [b1] at s1 he
           cases b2 : sameF ps[i].2 p.kids[i].r with
           | false =>
            rw [b2] at s2 he
            rw [Bool.true_and, Bool.false_and] at he
            subst he
            ((refine Sg.h ?_); try repeat' ((first | (with_reducible first | refine brA ?_ | refine brE fun _ => ?_ | (refine spl ⟨?_, ?_⟩ <;> intro _)) | refine clo s1 ?_ | refine clo s2 ?_) <;> ((try simp -implicitDefEqProofs [hil, hip, row]); (try simp -implicitDefEqProofs (disch := first | assumption | (try simp only [lens]); omega -splitDisjunctions) [hil, hip, row]))))
           | true =>
            rw [b2] at s2 he
            rw [Bool.true_and, Bool.true_and] at he
            have ih := ih he
            ((refine Sg.h ?_); try repeat' ((first | (with_reducible first | refine brA ?_ | refine brE fun _ => ?_ | (refine spl ⟨?_, ?_⟩ <;> intro _)) | refine clo s1 ?_ | refine clo s2 ?_) <;> ((try simp -implicitDefEqProofs [hil, hip, row]); (try simp -implicitDefEqProofs (disch := first | assumption | (try simp only [lens]); omega -splitDisjunctions) [hil, hip, row]))))
            all_goals first | exact ih | (refine at2 ih ?_ ?_ <;> simp; done) | (exfalso; first | omega | (simp_all; done) | (simp_all; omega))
        have m0 := main _ 0 (Nat.zero_add _) (by simpa using hB)
        all_goals first | exact m0 | (refine at2 m0 ?_ ?_ <;> simp; done) | (exfalso; first | omega | (simp_all; done) | (simp_all; omega))
       ·rw [if_pos h9]
        have h9i : ¬ (p.kids.length : Int) = (ps.length : Int) := by omega
        ((refine Sg.h ?_); try repeat' ((first | (with_reducible first | refine brA ?_ | refine brE fun _ => ?_ | (refine spl ⟨?_, ?_⟩ <;> intro _)) | refine clo hs ?_ | refine clo hcs ?_ | refine clo hin ?_) <;> ((try simp -implicitDefEqProofs [hw, g1, g2, hj]); (try simp -implicitDefEqProofs (disch := first | assumption | (try simp only [lens]); omega -splitDisjunctions) [hw, g1, g2, hj]))))
        refine CL.giv [1] ?_
        ((refine Sg.h ?_); try repeat' ((first | (with_reducible first | refine brA ?_ | refine brE fun _ => ?_ | (refine spl ⟨?_, ?_⟩ <;> intro _)) | refine clo hpl ?_) <;> ((try simp -implicitDefEqProofs [h0]); (try simp -implicitDefEqProofs (disch := first | assumption | (try simp only [lens]); omega -splitDisjunctions) [h0]))))
        refine CL.clo hc ?_ hcl
        ((refine Sg.h ?_); try repeat' ((first | (with_reducible first | refine brA ?_ | refine brE fun _ => ?_ | (refine spl ⟨?_, ?_⟩ <;> intro _))) <;> ((try simp -implicitDefEqProofs [h9i]); (try simp -implicitDefEqProofs (disch := first | assumption | (try simp only [lens]); omega -splitDisjunctions) [h9i]))))
     ·rw [if_pos (by simpa using h0)]
      ((refine Sg.h ?_); try repeat' ((first | (with_reducible first | refine brA ?_ | refine brE fun _ => ?_ | (refine spl ⟨?_, ?_⟩ <;> intro _)) | refine clo hs ?_ | refine clo hcs ?_ | refine clo hin ?_) <;> ((try simp -implicitDefEqProofs [hw, g1, g2, hj]); (try simp -implicitDefEqProofs (disch := first | assumption | (try simp only [lens]); omega -splitDisjunctions) [hw, g1, g2, hj]))))
      refine CL.giv [1] ?_
      ((refine Sg.h ?_); try repeat' ((first | (with_reducible first | refine brA ?_ | refine brE fun _ => ?_ | (refine spl ⟨?_, ?_⟩ <;> intro _)) | refine clo hpl ?_) <;> ((try simp -implicitDefEqProofs [h0]); (try simp -implicitDefEqProofs (disch := first | assumption | (try simp only [lens]); omega -splitDisjunctions) [h0]))))
   | none =>
    have g3 := f3.1 e3
    rw [show ruleT true p.rule = none from by unfold ruleT; rw [e1]; exact e3]
    cases e2 : lookT classT p.rule with
    | some e' =>
     obtain ⟨j', g2⟩ := f2.2 e' e2
     ((refine Sg.h ?_); try repeat' ((first | (with_reducible first | refine brA ?_ | refine brE fun _ => ?_ | (refine spl ⟨?_, ?_⟩ <;> intro _)) | refine clo hs ?_ | refine clo hcs ?_ | refine clo hin ?_) <;> ((try simp -implicitDefEqProofs [hw, g1, g2, g3]); (try simp -implicitDefEqProofs (disch := first | assumption | (try simp only [lens]); omega -splitDisjunctions) [hw, g1, g2, g3]))))
    | none =>
     have g2 := f2.1 e2
     ((refine Sg.h ?_); try repeat' ((first | (with_reducible first | refine brA ?_ | refine brE fun _ => ?_ | (refine spl ⟨?_, ?_⟩ <;> intro _)) | refine clo hs ?_ | refine clo hcs ?_ | refine clo hin ?_) <;> ((try simp -implicitDefEqProofs [hw, g1, g2, g3]); (try simp -implicitDefEqProofs (disch := first | assumption | (try simp only [lens]); omega -splitDisjunctions) [hw, g1, g2, g3]))))
theorem step_calculus (u : Bool) (p : Pf) (hp : Sz p) (hk : ∀ k ∈ p.kids, Sz k) : CallOK Try.prog 159 [.agg (prf p), .bool u] [] (.int .i64 (stepF u p)) [] := by
 by_cases hw : p.rule = ⟨#[119, 101, 97, 107]⟩
 ·exact step_weak u p hp hk hw
 ·exact step_rule u p hp hk hw
end Go.Proofs.Ytkadceiolddmhaa
