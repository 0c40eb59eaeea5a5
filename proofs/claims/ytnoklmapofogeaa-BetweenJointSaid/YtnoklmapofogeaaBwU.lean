/-
  sequentlaw.BetweenJoint, told without memory.
-/
import Derived.Test.YtnoklmapofogeaaBwS
namespace Go.Proofs.Ytnoklmapofogeaa
open Go Go.Pv
set_option linter.unusedVariables false
set_option linter.unusedSimpArgs false
set_option maxRecDepth 100000
set_option maxHeartbeats 4000000

theorem range_any_succ {p : Nat → Bool} (m : Nat) : (List.range (m + 1)).any p = ((List.range m).any p || p m) := by
  rw [List.range_succ, List.any_append]; simp
theorem rowL_len : ∀ (ns : List ByteArray) (k : Nat), (rowL ns k).length ≤ ns.length
  | [], k => Nat.le_refl _
  | a :: r, k => by
    have := rowL_len r (k / 2)
    rw [rowL]
    split <;> simp <;> omega
theorem nodup_le : ∀ {l m : List ByteArray}, l.Nodup → (∀ x ∈ l, x ∈ m) → l.length ≤ m.length
  | [], m, _, _ => Nat.zero_le _
  | a :: r, m, hd, hs => by
    rw [List.nodup_cons] at hd
    have ha := hs a List.mem_cons_self
    have h1 : ∀ x ∈ r, x ∈ m.filter fun x => decide (x ≠ a) := fun x hx => List.mem_filter.2 ⟨hs x (List.mem_cons_of_mem _ hx), decide_eq_true (by rintro rfl; exact hd.1 hx)⟩
    have h2 := nodup_le hd.2 h1
    have h3 : (m.filter fun x => decide (x ≠ a)).length < m.length := List.length_filter_lt_length_iff_exists.2 ⟨a, ha, by simp⟩
    rw [List.length_cons]; omega
/-- something is so in a row just if it is so in some way -/
theorem rows_any {N : List ByteArray} (hd : N.Nodup) (P : (ByteArray → Bool) → Bool) (hP : ∀ u v : ByteArray → Bool, (∀ x ∈ N, u x = v x) → P u = P v) : (List.range (2 ^ N.length)).any (fun k => P fun x => memB x (rowL N k)) = true ↔ ∃ u, P u = true := by
  rw [List.any_eq_true]
  constructor
  · rintro ⟨k, _, h⟩; exact ⟨_, h⟩
  · rintro ⟨u, h⟩
    obtain ⟨k, hk, he⟩ := row_have hd u
    refine ⟨k, List.mem_range.2 hk, ?_⟩
    rw [← h]
    refine hP _ _ fun x hx => ?_
    rw [he, Bool.eq_iff_iff, memB_iff, List.mem_filter]
    exact ⟨fun g => g.2, fun g => ⟨hx, g⟩⟩
theorem names_two {f g : Fm} (h : (plainL [f, g]).1 = 0) : (∀ x ∈ namesS [f], x ∈ namesS [f, g]) ∧ (∀ x ∈ namesS [g], x ∈ namesS [f, g]) := by
  have hl := plain_le h
  constructor
  · intro x hx
    obtain ⟨a, ha, y, hy, hk, e⟩ := (mem_namesS (fun a ha => hl a (by simp at ha; simp [ha])) x).1 hx
    exact (mem_namesS hl x).2 ⟨a, by simp at ha; simp [ha], y, hy, hk, e⟩
  · intro x hx
    obtain ⟨a, ha, y, hy, hk, e⟩ := (mem_namesS (fun a ha => hl a (by simp at ha; simp [ha])) x).1 hx
    exact (mem_namesS hl x).2 ⟨a, by simp at ha; simp [ha], y, hy, hk, e⟩
theorem project_ok {f : Fm} {ns : List ByteArray} (h : (plainF f).1 = 0) (h6 : (namesS [f]).length ≤ 6) (hl : ns.length ≤ 1000) (hn : ∀ x ∈ ns, isNameB x = true) : projectV f ns = (projF f ns, (0, 0)) := by
  have e : (lookV [f]).2.1 = 0 := by unfold lookV; rw [plainL_one, if_neg (by simpa using h), if_neg (by omega)]
  unfold projectV
  rw [if_neg (by simpa using e), if_neg (by omega), nameBad_none hn]
theorem joint {f g : Fm} (h : (plainL [f, g]).1 = 0) (h6 : (namesS [f]).length ≤ 6) :
    (List.range (2 ^ (namesS [f, g]).length)).any (fun k => tv (fun x => memB x (rowL (namesS [f, g]) k)) f && tv (fun x => memB x (rowL (namesS [f, g]) k)) g) =
    (List.range (2 ^ (namesS [f, g]).length)).any (fun k => tv (fun x => memB x (rowL (namesS [f, g]) k)) (projF f (namesS [g])) && tv (fun x => memB x (rowL (namesS [f, g]) k)) g) := by
  have hd := namesS_nodup [f, g]
  have hpf := plainL_all h f (by simp)
  have hpg := plainL_all h g (by simp)
  have hf := ((plainF_iff f).1 hpf).1
  have hg := ((plainF_iff g).1 hpg).1
  obtain ⟨s1, s2⟩ := names_two h
  have nf := names_one hpf
  have ng := names_one hpg
  have hgd := proj_good (namesS [g]) hpf h6
  have cf : ∀ u v : ByteArray → Bool, (∀ x ∈ namesS [f, g], u x = v x) → tv u f = tv v f := fun u v e => tv_names hf nf fun x hx => e x (s1 x hx)
  have cg : ∀ u v : ByteArray → Bool, (∀ x ∈ namesS [f, g], u x = v x) → tv u g = tv v g := fun u v e => tv_names hg ng fun x hx => e x (s2 x hx)
  have cp : ∀ u v : ByteArray → Bool, (∀ x ∈ namesS [f, g], u x = v x) → tv u (projF f (namesS [g])) = tv v (projF f (namesS [g])) := fun u v e => tv_names hgd.1 hgd.2.1 fun x hx => e x (s1 x (inN_sub hx))
  rw [Bool.eq_iff_iff, rows_any hd (fun u => tv u f && tv u g) (fun u v e => by rw [cf u v e, cg u v e]), rows_any hd (fun u => tv u (projF f (namesS [g])) && tv u g) (fun u v e => by rw [cp u v e, cg u v e])]
  constructor
  · rintro ⟨u, hu⟩
    rw [Bool.and_eq_true] at hu
    exact ⟨u, by rw [Bool.and_eq_true]; exact ⟨(proj_iff _ hpf h6 u).2 ⟨u, fun _ _ => rfl, hu.1⟩, hu.2⟩⟩
  · rintro ⟨u, hu⟩
    rw [Bool.and_eq_true] at hu
    obtain ⟨w, hw, hwf⟩ := (proj_iff _ hpf h6 u).1 hu.1
    refine ⟨fun x => if memB x (namesS [f]) = true then w x else u x, ?_⟩
    rw [Bool.and_eq_true]
    refine ⟨(tv_names hf nf fun x hx => by rw [if_pos (memB_iff.2 hx)]).trans hwf, (tv_names hg ng fun x hx => ?_).trans hu.2⟩
    by_cases hm : memB x (namesS [f]) = true
    · rw [if_pos hm]
      exact hw x (List.mem_filter.2 ⟨memB_iff.1 hm, memB_iff.2 hx⟩)
    · rw [if_neg hm]
def x9_T1 : XC := .seq (.reg [⟨some 87,.move (.tmp 8),none⟩,⟨some 88,.move (.tmp 9),none⟩,⟨some 89,.binOp .eql 4 (.tmp 87) (.tmp 88) 4,none⟩,⟨some 4,.assign (.tmp 89),none⟩]) (.ret)
def x9_L0 : XC := .seq (.seq (.reg [⟨some 55,.move (.tmp 10),none⟩,⟨some 56,.move (.tmp 7),none⟩,⟨some 57,.call ⟨.builtin .len,#[.tmp 56],#[35]⟩,none⟩,⟨some 58,.binOp .shl 3 (.const (.int .i64 1)) (.tmp 57) 3,none⟩,⟨some 59,.binOp .lss 3 (.tmp 55) (.tmp 58) 3,none⟩]) (.cond (.tmp 59) (.skip) (.exit 0))) (.seq (.block 1 (.seq (.reg [⟨some 62,.move (.tmp 7),none⟩,⟨some 63,.move (.tmp 10),none⟩,⟨some 64,.call ⟨.value (.func 43),#[.tmp 62,.tmp 63],#[35,3]⟩,none⟩,⟨some 11,.assign (.tmp 64),none⟩]) (.seq (.reg [⟨some 65,.move (.tmp 8),none⟩,⟨some 66,.move (.tmp 65),none⟩,⟨some 67,.load 24 (.tmp 2),some (some 66,false)⟩,⟨some 68,.move (.tmp 11),some (some 66,false)⟩,⟨some 69,.call ⟨.value (.func 44),#[.tmp 67,.tmp 68],#[24,35]⟩,some (some 66,false)⟩,⟨some 70,.move (.tmp 69),some (some 66,false)⟩,⟨some 71,.load 24 (.tmp 3),some (some 70,true)⟩,⟨some 72,.move (.tmp 11),some (some 70,true)⟩,⟨some 73,.call ⟨.value (.func 44),#[.tmp 71,.tmp 72],#[24,35]⟩,some (some 70,true)⟩,⟨some 74,.pick (.tmp 70) (.tmp 73) (.const (.bool false)),some (some 66,false)⟩,⟨some 75,.pick (.tmp 66) (.const (.bool true)) (.tmp 74),none⟩,⟨some 8,.assign (.tmp 75),none⟩]) (.reg [⟨some 76,.move (.tmp 9),none⟩,⟨some 77,.move (.tmp 76),none⟩,⟨some 78,.load 24 (.tmp 5),some (some 77,false)⟩,⟨some 79,.move (.tmp 11),some (some 77,false)⟩,⟨some 80,.call ⟨.value (.func 44),#[.tmp 78,.tmp 79],#[24,35]⟩,some (some 77,false)⟩,⟨some 81,.move (.tmp 80),some (some 77,false)⟩,⟨some 82,.load 24 (.tmp 3),some (some 81,true)⟩,⟨some 83,.move (.tmp 11),some (some 81,true)⟩,⟨some 84,.call ⟨.value (.func 44),#[.tmp 82,.tmp 83],#[24,35]⟩,some (some 81,true)⟩,⟨some 85,.pick (.tmp 81) (.tmp 84) (.const (.bool false)),some (some 77,false)⟩,⟨some 86,.pick (.tmp 77) (.const (.bool true)) (.tmp 85),none⟩,⟨some 9,.assign (.tmp 86),none⟩])))) (.reg [⟨some 60,.move (.tmp 10),none⟩,⟨some 61,.binOp .add 3 (.tmp 60) (.const (.int .i64 1)) 3,none⟩,⟨some 10,.assign (.tmp 61),none⟩]))
def x9 : XC := .seq (.reg [⟨some 2,.box 24 (.tmp 0),none⟩,⟨some 3,.box 24 (.tmp 1),none⟩,⟨some 4,.assign (.const (.bool false)),none⟩]) (.seq (.seq (.reg [⟨some 12,.call ⟨.value (.func 33),#[],#[]⟩,none⟩,⟨some 13,.unOp .not 4 (.tmp 12),none⟩]) (.cond (.tmp 13) (.seq (.reg [⟨some 4,.assign (.const (.bool false)),none⟩]) (.ret)) (.skip))) (.seq (.seq (.reg [⟨some 14,.load 24 (.tmp 2),none⟩,⟨some 15,.call ⟨.value (.func 20),#[.tmp 14,.const (.int .i64 0)],#[24,3]⟩,none⟩,⟨some 16,.move (.tmp 15),none⟩,⟨some 17,.load 24 (.tmp 3),some (some 16,false)⟩,⟨some 18,.call ⟨.value (.func 20),#[.tmp 17,.const (.int .i64 0)],#[24,3]⟩,some (some 16,false)⟩,⟨some 19,.pick (.tmp 16) (.const (.bool true)) (.tmp 18),none⟩,⟨some 20,.move (.tmp 19),none⟩,⟨some 21,.load 24 (.tmp 2),some (some 20,false)⟩,⟨some 22,.load 24 (.tmp 3),some (some 20,false)⟩,⟨some 23,.buildSlice 22 2 #[(0,.tmp 21),(1,.tmp 22)],some (some 20,false)⟩,⟨some 24,.call ⟨.value (.func 36),#[.tmp 23],#[22]⟩,some (some 20,false)⟩,⟨some 25,.field 33 (.tmp 24) 0,some (some 20,false)⟩,⟨some 26,.binOp .neq 3 (.tmp 25) (.const (.int .i64 0)) 3,some (some 20,false)⟩,⟨some 27,.pick (.tmp 20) (.const (.bool true)) (.tmp 26),none⟩]) (.cond (.tmp 27) (.seq (.reg [⟨some 4,.assign (.const (.bool true)),none⟩]) (.ret)) (.skip))) (.seq (.drawn 5 [⟨some 29,.load 24 (.tmp 2),none⟩,⟨some 30,.load 24 (.tmp 3),none⟩,⟨some 31,.buildSlice 22 1 #[(0,.tmp 30)],none⟩,⟨some 32,.call ⟨.value (.func 17),#[.tmp 31],#[22]⟩,none⟩,⟨some 33,.call ⟨.value (.func 42),#[.tmp 29,.tmp 32],#[24,35]⟩,none⟩,⟨some 28,.move (.tmp 33),none⟩,⟨some 34,.extract (.tmp 28) 0,none⟩,⟨some 35,.extract (.tmp 28) 1,none⟩,⟨some 5,.alloc 24,none⟩,⟨some 6,.alloc 33,none⟩,⟨none,.store 24 (.tmp 5) (.tmp 34),none⟩,⟨none,.store 33 (.tmp 6) (.tmp 35),none⟩]) (.seq (.seq (.drawn 6 [⟨some 36,.fieldAddr 33 (.tmp 6) 0,none⟩,⟨some 37,.load 3 (.tmp 36),none⟩,⟨some 38,.binOp .neq 3 (.tmp 37) (.const (.int .i64 0)) 3,none⟩,⟨some 39,.move (.tmp 38),none⟩,⟨some 40,.load 24 (.tmp 5),some (some 39,false)⟩,⟨some 41,.load 24 (.tmp 2),some (some 39,false)⟩,⟨some 42,.buildSlice 22 1 #[(0,.tmp 41)],some (some 39,false)⟩,⟨some 43,.call ⟨.value (.func 17),#[.tmp 42],#[22]⟩,some (some 39,false)⟩,⟨some 44,.load 24 (.tmp 3),some (some 39,false)⟩,⟨some 45,.buildSlice 22 1 #[(0,.tmp 44)],some (some 39,false)⟩,⟨some 46,.call ⟨.value (.func 17),#[.tmp 45],#[22]⟩,some (some 39,false)⟩,⟨some 47,.call ⟨.value (.func 41),#[.tmp 43,.tmp 46],#[35,35]⟩,some (some 39,false)⟩,⟨some 48,.call ⟨.value (.func 40),#[.tmp 40,.tmp 47],#[24,35]⟩,some (some 39,false)⟩,⟨some 49,.unOp .not 4 (.tmp 48),some (some 39,false)⟩,⟨some 50,.pick (.tmp 39) (.const (.bool true)) (.tmp 49),none⟩]) (.cond (.tmp 50) (.seq (.reg [⟨some 4,.assign (.const (.bool false)),none⟩]) (.ret)) (.skip))) (.seq (.reg [⟨some 51,.load 24 (.tmp 2),none⟩,⟨some 52,.load 24 (.tmp 3),none⟩,⟨some 53,.buildSlice 22 2 #[(0,.tmp 51),(1,.tmp 52)],none⟩,⟨some 54,.call ⟨.value (.func 17),#[.tmp 53],#[22]⟩,none⟩,⟨some 7,.assign (.tmp 54),none⟩]) (.seq (.reg [⟨some 8,.assign (.const (.bool false)),none⟩,⟨some 9,.assign (.const (.bool false)),none⟩]) (.seq (.seq (.reg [⟨some 10,.assign (.const (.int .i64 0)),none⟩]) (.bloop 0 x9_L0)) (x9_T1))))))))
@[simp] theorem x9_s {C : WC} {e : AE} {s : Store} {K : KS} : type_of% (@X_at C e s K _ _ x9_T1.eq_1) ∧ type_of% (@X_at C e s K _ _ x9_L0.eq_1) ∧ type_of% (@X_at C e s K _ _ x9.eq_1) := ⟨X_at x9_T1.eq_1, X_at x9_L0.eq_1, X_at x9.eq_1⟩
def an9 : Ann := ⟨[(5, .treez (.op 0 (.op 1 (.br (.op 2 (.ck 0 (.br (.op 3 (.ck 0 (.br (.op 4 (.op 5 (.op 6 (.op 7 (.br (.op 8 (.op 9 (.op 10 (.op 11 .fin)))) (.op 9 (.op 8 (.op 10 (.op 11 .fin))))))))) (.br (.op 8 (.ck 0 (.br (.op 4 (.op 5 (.op 6 (.op 7 (.op 9 (.op 10 (.op 11 .fin))))))) (.op 9 (.ck 0 (.op 4 (.op 5 (.op 6 (.op 7 (.op 10 (.op 11 .fin))))))))))) (.op 9 (.ck 0 (.br (.op 4 (.op 5 (.op 6 (.op 7 (.op 8 (.op 10 (.op 11 .fin))))))) (.op 8 (.ck 0 (.op 4 (.op 5 (.op 6 (.op 7 (.op 10 (.op 11 .fin))))))))))))))) (.br (.op 8 (.ck 0 (.br (.op 3 (.ck 0 (.br (.op 4 (.op 5 (.op 6 (.op 7 (.op 9 (.op 10 (.op 11 .fin))))))) (.op 9 (.ck 0 (.op 4 (.op 5 (.op 6 (.op 7 (.op 10 (.op 11 .fin))))))))))) (.op 9 (.ck 0 (.op 3 (.ck 0 (.op 4 (.op 5 (.op 6 (.op 7 (.op 10 (.op 11 .fin))))))))))))) (.op 9 (.ck 0 (.br (.op 3 (.ck 0 (.br (.op 4 (.op 5 (.op 6 (.op 7 (.op 8 (.op 10 (.op 11 .fin))))))) (.op 8 (.ck 0 (.op 4 (.op 5 (.op 6 (.op 7 (.op 10 (.op 11 .fin))))))))))) (.op 8 (.ck 0 (.op 3 (.ck 0 (.op 4 (.op 5 (.op 6 (.op 7 (.op 10 (.op 11 .fin))))))))))))))))) (.br (.op 8 (.ck 0 (.ck 1 (.br (.op 2 (.ck 0 (.br (.op 3 (.ck 0 (.br (.op 4 (.op 5 (.op 6 (.op 7 (.op 9 (.op 10 (.op 11 .fin))))))) (.op 9 (.ck 0 (.op 4 (.op 5 (.op 6 (.op 7 (.op 10 (.op 11 .fin))))))))))) (.op 9 (.ck 0 (.op 3 (.ck 0 (.op 4 (.op 5 (.op 6 (.op 7 (.op 10 (.op 11 .fin))))))))))))) (.op 9 (.ck 0 (.ck 1 (.op 2 (.ck 0 (.op 3 (.ck 0 (.op 4 (.op 5 (.op 6 (.op 7 (.op 10 (.op 11 .fin))))))))))))))))) (.op 9 (.ck 0 (.ck 1 (.br (.op 2 (.ck 0 (.br (.op 3 (.ck 0 (.br (.op 4 (.op 5 (.op 6 (.op 7 (.op 8 (.op 10 (.op 11 .fin))))))) (.op 8 (.ck 0 (.op 4 (.op 5 (.op 6 (.op 7 (.op 10 (.op 11 .fin))))))))))) (.op 8 (.ck 0 (.op 3 (.ck 0 (.op 4 (.op 5 (.op 6 (.op 7 (.op 10 (.op 11 .fin))))))))))))) (.op 8 (.ck 0 (.ck 1 (.op 2 (.ck 0 (.op 3 (.ck 0 (.op 4 (.op 5 (.op 6 (.op 7 (.op 10 (.op 11 .fin)))))))))))))))))))))), (6, .mixz 12)], [(0, [], [2, 3, 5, 7, 8, 9, 10], [8, 9])], []⟩
def cx9 (P : Program) (m : Nat) : WC := ⟨P, m, an9⟩
@[simp] theorem cx9_a {P : Program} {m : Nat} : (cx9 P m).P = P ∧ (cx9 P m).m = m ∧ (cx9 P m).A.clsOf 5 = .treez (.op 0 (.op 1 (.br (.op 2 (.ck 0 (.br (.op 3 (.ck 0 (.br (.op 4 (.op 5 (.op 6 (.op 7 (.br (.op 8 (.op 9 (.op 10 (.op 11 .fin)))) (.op 9 (.op 8 (.op 10 (.op 11 .fin))))))))) (.br (.op 8 (.ck 0 (.br (.op 4 (.op 5 (.op 6 (.op 7 (.op 9 (.op 10 (.op 11 .fin))))))) (.op 9 (.ck 0 (.op 4 (.op 5 (.op 6 (.op 7 (.op 10 (.op 11 .fin))))))))))) (.op 9 (.ck 0 (.br (.op 4 (.op 5 (.op 6 (.op 7 (.op 8 (.op 10 (.op 11 .fin))))))) (.op 8 (.ck 0 (.op 4 (.op 5 (.op 6 (.op 7 (.op 10 (.op 11 .fin))))))))))))))) (.br (.op 8 (.ck 0 (.br (.op 3 (.ck 0 (.br (.op 4 (.op 5 (.op 6 (.op 7 (.op 9 (.op 10 (.op 11 .fin))))))) (.op 9 (.ck 0 (.op 4 (.op 5 (.op 6 (.op 7 (.op 10 (.op 11 .fin))))))))))) (.op 9 (.ck 0 (.op 3 (.ck 0 (.op 4 (.op 5 (.op 6 (.op 7 (.op 10 (.op 11 .fin))))))))))))) (.op 9 (.ck 0 (.br (.op 3 (.ck 0 (.br (.op 4 (.op 5 (.op 6 (.op 7 (.op 8 (.op 10 (.op 11 .fin))))))) (.op 8 (.ck 0 (.op 4 (.op 5 (.op 6 (.op 7 (.op 10 (.op 11 .fin))))))))))) (.op 8 (.ck 0 (.op 3 (.ck 0 (.op 4 (.op 5 (.op 6 (.op 7 (.op 10 (.op 11 .fin))))))))))))))))) (.br (.op 8 (.ck 0 (.ck 1 (.br (.op 2 (.ck 0 (.br (.op 3 (.ck 0 (.br (.op 4 (.op 5 (.op 6 (.op 7 (.op 9 (.op 10 (.op 11 .fin))))))) (.op 9 (.ck 0 (.op 4 (.op 5 (.op 6 (.op 7 (.op 10 (.op 11 .fin))))))))))) (.op 9 (.ck 0 (.op 3 (.ck 0 (.op 4 (.op 5 (.op 6 (.op 7 (.op 10 (.op 11 .fin))))))))))))) (.op 9 (.ck 0 (.ck 1 (.op 2 (.ck 0 (.op 3 (.ck 0 (.op 4 (.op 5 (.op 6 (.op 7 (.op 10 (.op 11 .fin))))))))))))))))) (.op 9 (.ck 0 (.ck 1 (.br (.op 2 (.ck 0 (.br (.op 3 (.ck 0 (.br (.op 4 (.op 5 (.op 6 (.op 7 (.op 8 (.op 10 (.op 11 .fin))))))) (.op 8 (.ck 0 (.op 4 (.op 5 (.op 6 (.op 7 (.op 10 (.op 11 .fin))))))))))) (.op 8 (.ck 0 (.op 3 (.ck 0 (.op 4 (.op 5 (.op 6 (.op 7 (.op 10 (.op 11 .fin))))))))))))) (.op 8 (.ck 0 (.ck 1 (.op 2 (.ck 0 (.op 3 (.ck 0 (.op 4 (.op 5 (.op 6 (.op 7 (.op 10 (.op 11 .fin))))))))))))))))))))) ∧ (cx9 P m).A.clsOf 6 = .mixz 12 ∧ (cx9 P m).A.frzOf 5 = [] ∧ (cx9 P m).A.frzOf 6 = [] ∧ (cx9 P m).A.loopOf 0 = ([], [2, 3, 5, 7, 8, 9, 10], [8, 9]) := ⟨rfl, rfl, rfl, rfl, rfl, rfl, rfl⟩
instance {P : Program} {m f : Nat} [h : EnT P f] : EnT (cx9 P m).P f := h
theorem chk9 : ∀ c, Try.f9.body = some c → chkC Try.f9.ntmps an9 c = true := by intro c h; obtain rfl := Option.some.inj h; decide +kernel
theorem op9 {args : List PV} {v : PV} (h : X (cx9 Try.prog 0) x9 (argsA 0 args) [] (.fin [.tmp 4] fun v1 s1 => deref s1 6 v1 = v)) (hl : args.length ≤ Try.f9.ntmps := by rw [Try.ntmps9]; simp) : CallOK Try.prog 9 args [] v [] :=
  callX (m := 0) (cx9 Try.prog 0) x9 rfl rfl (by kernel_rfl) Try.func9 rfl rfl hl mixed (chk9 _ rfl) (by rw [Try.results9]; exact h)

theorem betweenJoint_law (f g : Fm) : CallOK Try.prog 9 [.agg (frm f), .agg (frm g)] [] (.bool true) [] := by
  have hbg := betweenBegun_law
  have vf := vast_ref f 0 (by omega) (by omega) []
  have vg := vast_ref g 0 (by omega) (by omega) []
  have hfl := betweenFault_law [f, g] (by simp)
  simp only [List.map_cons, List.map_nil] at hfl
  refine op9 ?_
  generalize vastB f 0 = a at *
  generalize vastB g 0 = b at *
  cases a with
  | true => (((try simp (implicitDefEqProofs := false)); (try simp (implicitDefEqProofs := false) (disch := first | assumption | (try simp only [lens]); omega -splitDisjunctions))); all_goals try (repeat' ((first | ((with_reducible first | refine And.intro ?_ ?_ | refine Exists.intro ?_ ?_); first | omega | (simp <;> omega)) | (with_reducible refine spl (And.intro ?_ ?_) <;> intro _) | (refine CL.clo (hbg) ?_) | (refine CM.clo (hbg) ?_) | (refine CD.clo (hbg) ?_) | (refine CL.clo (vf) ?_) | (refine CM.clo (vf) ?_) | (refine CD.clo (vf) ?_)) <;> ((try simp (implicitDefEqProofs := false)); (try simp (implicitDefEqProofs := false) (disch := first | assumption | (try simp only [lens]); omega -splitDisjunctions))))))
  | false =>
    cases b with
    | true => (((try simp (implicitDefEqProofs := false)); (try simp (implicitDefEqProofs := false) (disch := first | assumption | (try simp only [lens]); omega -splitDisjunctions))); all_goals try (repeat' ((first | ((with_reducible first | refine And.intro ?_ ?_ | refine Exists.intro ?_ ?_); first | omega | (simp <;> omega)) | (with_reducible refine spl (And.intro ?_ ?_) <;> intro _) | (refine CL.clo (hbg) ?_) | (refine CM.clo (hbg) ?_) | (refine CD.clo (hbg) ?_) | (refine CL.clo (vf) ?_) | (refine CM.clo (vf) ?_) | (refine CD.clo (vf) ?_) | (refine CL.clo (vg) ?_) | (refine CM.clo (vg) ?_) | (refine CD.clo (vg) ?_)) <;> ((try simp (implicitDefEqProofs := false)); (try simp (implicitDefEqProofs := false) (disch := first | assumption | (try simp only [lens]); omega -splitDisjunctions))))))
    | false =>
      by_cases h1 : (lookV [f, g]).2.1 = 0
      · obtain ⟨hpL, h6, hz⟩ := lookV_six h1
        rw [hz] at hfl
        have hpf := plainL_all hpL f (by simp)
        have hpg := plainL_all hpL g (by simp)
        obtain ⟨s1, s2⟩ := names_two hpL
        have lf := Nat.le_trans (nodup_le (namesS_nodup [f]) s1) h6
        have lg := Nat.le_trans (nodup_le (namesS_nodup [g]) s2) h6
        have n1 := NamesIn_names [f] (by simp) (fun a ha => plain_le hpL a (by simp at ha; simp [ha]))
        have n2 := NamesIn_names [g] (by simp) (fun a ha => plain_le hpL a (by simp at ha; simp [ha]))
        have n3 := NamesIn_names [f, g] (by simp) (plain_le hpL)
        simp only [List.map_cons, List.map_nil] at n1 n2 n3
        have hp := Project_between f (namesS [g])
        rw [project_ok hpf lf (by omega) (names_names (by rw [plainL_one]; exact hpg))] at hp
        have hcm := common_law (namesS [f]) (namesS [g]) (by omega)
        rw [show (namesS [f]).filter (fun x => memB x (namesS [g])) = inN f (namesS [g]) from rfl] at hcm
        have hgd := proj_good (namesS [g]) hpf lf
        have hpa := plainAnswer_law _ _ (hgd.mono (fun x hx => hx) (by decide))
        have hj := joint hpL lf
        have tf := fun hs => True_ref hs f ((plainF_iff f).1 hpf).1
        have tg := fun hs => True_ref hs g ((plainF_iff g).1 hpg).1
        have tp := fun hs => True_ref hs _ hgd.1
        clear hz h1 hgd s1 s2
        generalize projF f (namesS [g]) = PF at *
        generalize inN f (namesS [g]) = I at *
        generalize namesS [f, g] = N at *
        generalize namesS [f] = Nf at *
        generalize namesS [g] = Ng at *
        (((try simp (implicitDefEqProofs := false)); (try simp (implicitDefEqProofs := false) (disch := first | assumption | (try simp only [lens]); omega -splitDisjunctions))); all_goals try (repeat' ((first | ((with_reducible first | refine And.intro ?_ ?_ | refine Exists.intro ?_ ?_); first | omega | (simp <;> omega)) | (with_reducible refine spl (And.intro ?_ ?_) <;> intro _) | (refine CL.clo (hbg) ?_) | (refine CM.clo (hbg) ?_) | (refine CD.clo (hbg) ?_) | (refine CL.clo (vf) ?_) | (refine CM.clo (vf) ?_) | (refine CD.clo (vf) ?_) | (refine CL.clo (vg) ?_) | (refine CM.clo (vg) ?_) | (refine CD.clo (vg) ?_)) <;> ((try simp (implicitDefEqProofs := false)); (try simp (implicitDefEqProofs := false) (disch := first | assumption | (try simp only [lens]); omega -splitDisjunctions))))))
        refine CL.giv [2] ?_
        (((try simp (implicitDefEqProofs := false)); (try simp (implicitDefEqProofs := false) (disch := first | assumption | (try simp only [lens]); omega -splitDisjunctions))); all_goals try (repeat' ((first | ((with_reducible first | refine And.intro ?_ ?_ | refine Exists.intro ?_ ?_); first | omega | (simp <;> omega)) | (with_reducible refine spl (And.intro ?_ ?_) <;> intro _) | (refine CL.clo (hfl) ?_) | (refine CM.clo (hfl) ?_) | (refine CD.clo (hfl) ?_)) <;> ((try simp (implicitDefEqProofs := false)); (try simp (implicitDefEqProofs := false) (disch := first | assumption | (try simp only [lens]); omega -splitDisjunctions))))))
        refine joinK (K := ?K) ?_ ?_
        rotate_left 1
        · intro key
          repeat' (first | (refine And.intro ?_ ?_) | (refine CT.clo n2 ?_; (((try simp (implicitDefEqProofs := false)); (try simp (implicitDefEqProofs := false) (disch := first | assumption | (try simp only [lens]); omega -splitDisjunctions))); all_goals try (repeat' ((first | ((with_reducible first | refine And.intro ?_ ?_ | refine Exists.intro ?_ ?_); first | omega | (simp <;> omega)) | (with_reducible refine spl (And.intro ?_ ?_) <;> intro _)) <;> ((try simp (implicitDefEqProofs := false)); (try simp (implicitDefEqProofs := false) (disch := first | assumption | (try simp only [lens]); omega -splitDisjunctions))))))) | (refine CT.clo hp ?_; (((try simp (implicitDefEqProofs := false)); (try simp (implicitDefEqProofs := false) (disch := first | assumption | (try simp only [lens]); omega -splitDisjunctions))); all_goals try (repeat' ((first | ((with_reducible first | refine And.intro ?_ ?_ | refine Exists.intro ?_ ?_); first | omega | (simp <;> omega)) | (with_reducible refine spl (And.intro ?_ ?_) <;> intro _)) <;> ((try simp (implicitDefEqProofs := false)); (try simp (implicitDefEqProofs := false) (disch := first | assumption | (try simp only [lens]); omega -splitDisjunctions))))))))
          all_goals ((((try simp (implicitDefEqProofs := false)); (try simp (implicitDefEqProofs := false) (disch := first | assumption | (try simp only [lens]); omega -splitDisjunctions))); all_goals try (repeat' ((first | ((with_reducible first | refine And.intro ?_ ?_ | refine Exists.intro ?_ ?_); first | omega | (simp <;> omega)) | (with_reducible refine spl (And.intro ?_ ?_) <;> intro _) | (refine CL.clo (n1) ?_) | (refine CM.clo (n1) ?_) | (refine CD.clo (n1) ?_) | (refine CL.clo (n2) ?_) | (refine CM.clo (n2) ?_) | (refine CD.clo (n2) ?_) | (refine CL.clo (hcm) ?_) | (refine CM.clo (hcm) ?_) | (refine CD.clo (hcm) ?_) | (refine CL.clo (hpa) ?_) | (refine CM.clo (hpa) ?_) | (refine CD.clo (hpa) ?_)) <;> ((try simp (implicitDefEqProofs := false)); (try simp (implicitDefEqProofs := false) (disch := first | assumption | (try simp only [lens]); omega -splitDisjunctions)))))))
          all_goals refine CL.gc [] [] [2, 3, 5, 53] ?_
          all_goals ((((try simp (implicitDefEqProofs := false)); (try simp (implicitDefEqProofs := false) (disch := first | assumption | (try simp only [lens]); omega -splitDisjunctions))); all_goals try (repeat' ((first | ((with_reducible first | refine And.intro ?_ ?_ | refine Exists.intro ?_ ?_); first | omega | (simp <;> omega)) | (with_reducible refine spl (And.intro ?_ ?_) <;> intro _)) <;> ((try simp (implicitDefEqProofs := false)); (try simp (implicitDefEqProofs := false) (disch := first | assumption | (try simp only [lens]); omega -splitDisjunctions)))))))
          all_goals exact key.h
        refine CL.giv [3] ?_
        (((try simp (implicitDefEqProofs := false)); (try simp (implicitDefEqProofs := false) (disch := first | assumption | (try simp only [lens]); omega -splitDisjunctions))); all_goals try (repeat' ((first | ((with_reducible first | refine And.intro ?_ ?_ | refine Exists.intro ?_ ?_); first | omega | (simp <;> omega)) | (with_reducible refine spl (And.intro ?_ ?_) <;> intro _) | (refine CL.clo (n3) ?_) | (refine CM.clo (n3) ?_) | (refine CD.clo (n3) ?_)) <;> ((try simp (implicitDefEqProofs := false)); (try simp (implicitDefEqProofs := false) (disch := first | assumption | (try simp only [lens]); omega -splitDisjunctions))))))
        clear hbg vf vg hfl n1 n2 n3 hcm hp hpa
        have hsh := shl_nat N.length (by omega)
        have hl0 : ¬ ((N.length : Int) < 0) := by omega
        have hZ : 1 ≤ 2 ^ N.length ∧ 2 ^ N.length ≤ 64 := ⟨Nat.one_le_two_pow, Nat.le_trans (Nat.pow_le_pow_right (by decide) h6) (by decide)⟩
        generalize 2 ^ N.length = Z at *
        refine W_of fun Q hQ => ?_
        have main : ∀ r k, k + r = Z → Q [(2, .ptr 0 0 0), (3, .ptr 1 0 0), (5, .ptr 2 0 0), (7, .list (N.map strRow)), (8, .bool ((List.range k).any fun k => tv (fun x => memB x (rowL N k)) f && tv (fun x => memB x (rowL N k)) g)), (9, .bool ((List.range k).any fun k => tv (fun x => memB x (rowL N k)) PF && tv (fun x => memB x (rowL N k)) g)), (10, .int .i64 (k : Int))] [.rows 3 [frm f], .rows 3 [frm g], .rows 3 [frm PF]] := by
          intro r
          induction r with
          | zero =>
            intro k hk
            obtain rfl : k = Z := by omega
            rw [hj]
            generalize (List.any _ _) = b at *
            apply hQ
            clear hQ
            cases b <;> (((try simp (implicitDefEqProofs := false) [hsh, hl0]); (try simp (implicitDefEqProofs := false) (disch := first | assumption | (try simp only [lens]); omega -splitDisjunctions) [hsh, hl0])); all_goals try (repeat' ((first | ((with_reducible first | refine And.intro ?_ ?_ | refine Exists.intro ?_ ?_); first | omega | (simp <;> omega)) | (with_reducible refine spl (And.intro ?_ ?_) <;> intro _)) <;> ((try simp (implicitDefEqProofs := false) [hsh, hl0]); (try simp (implicitDefEqProofs := false) (disch := first | assumption | (try simp only [lens]); omega -splitDisjunctions) [hsh, hl0])))))
          | succ r ih =>
            intro k hk
            have hkZ : k < Z := by omega
            have ih := ih (k + 1) (by omega)
            rw [range_any_succ, range_any_succ] at ih
            have hro := Row_ref N (by omega) k (by omega)
            have tf := tf (rowL N k)
            have tg := tg (rowL N k)
            have tp := tp (rowL N k)
            clear hj
            generalize (List.range k).any (fun k => tv (fun x => memB x (rowL N k)) f && tv (fun x => memB x (rowL N k)) g) = a at *
            generalize (List.range k).any (fun k => tv (fun x => memB x (rowL N k)) PF && tv (fun x => memB x (rowL N k)) g) = b at *
            generalize tv (fun x => memB x (rowL N k)) f = x at *
            generalize tv (fun x => memB x (rowL N k)) g = y at *
            generalize tv (fun x => memB x (rowL N k)) PF = z at *
            generalize rowL N k = R at *
            apply hQ
            clear hQ
            cases a <;> cases b <;> cases x <;> cases z <;> cases y
            all_goals ((((try simp (implicitDefEqProofs := false) [hsh, hl0, hkZ]); (try simp (implicitDefEqProofs := false) (disch := first | assumption | (try simp only [lens]); omega -splitDisjunctions) [hsh, hl0, hkZ])); all_goals try (repeat' ((first | ((with_reducible first | refine And.intro ?_ ?_ | refine Exists.intro ?_ ?_); first | omega | (simp <;> omega)) | (with_reducible refine spl (And.intro ?_ ?_) <;> intro _) | (refine CL.clo (hro) ?_) | (refine CM.clo (hro) ?_) | (refine CD.clo (hro) ?_) | (refine CL.clo (tf) ?_) | (refine CM.clo (tf) ?_) | (refine CD.clo (tf) ?_) | (refine CL.clo (tg) ?_) | (refine CM.clo (tg) ?_) | (refine CD.clo (tg) ?_) | (refine CL.clo (tp) ?_) | (refine CM.clo (tp) ?_) | (refine CD.clo (tp) ?_) | (refine CL.clo (tg) ?_) | (refine CM.clo (tg) ?_) | (refine CD.clo (tg) ?_)) <;> ((try simp (implicitDefEqProofs := false) [hsh, hl0, hkZ]); (try simp (implicitDefEqProofs := false) (disch := first | assumption | (try simp only [lens]); omega -splitDisjunctions) [hsh, hl0, hkZ]))))))
            all_goals first | exact ih | (refine at2 ih ?_ ?_ <;> simp; done) | (exfalso; first | omega | (simp_all; done) | (simp_all; omega))
        all_goals first | exact main _ 0 (Nat.zero_add _) | (refine at2 main _ 0 (Nat.zero_add _) ?_ ?_ <;> simp; done) | (exfalso; first | omega | (simp_all; done) | (simp_all; omega))
      · generalize lookV [f, g] = w at *
        (((try simp (implicitDefEqProofs := false)); (try simp (implicitDefEqProofs := false) (disch := first | assumption | (try simp only [lens]); omega -splitDisjunctions))); all_goals try (repeat' ((first | ((with_reducible first | refine And.intro ?_ ?_ | refine Exists.intro ?_ ?_); first | omega | (simp <;> omega)) | (with_reducible refine spl (And.intro ?_ ?_) <;> intro _) | (refine CL.clo (hbg) ?_) | (refine CM.clo (hbg) ?_) | (refine CD.clo (hbg) ?_) | (refine CL.clo (vf) ?_) | (refine CM.clo (vf) ?_) | (refine CD.clo (vf) ?_) | (refine CL.clo (vg) ?_) | (refine CM.clo (vg) ?_) | (refine CD.clo (vg) ?_)) <;> ((try simp (implicitDefEqProofs := false)); (try simp (implicitDefEqProofs := false) (disch := first | assumption | (try simp only [lens]); omega -splitDisjunctions))))))
        refine CL.giv [2] ?_
        (((try simp (implicitDefEqProofs := false) [h1]); (try simp (implicitDefEqProofs := false) (disch := first | assumption | (try simp only [lens]); omega -splitDisjunctions) [h1])); all_goals try (repeat' ((first | ((with_reducible first | refine And.intro ?_ ?_ | refine Exists.intro ?_ ?_); first | omega | (simp <;> omega)) | (with_reducible refine spl (And.intro ?_ ?_) <;> intro _) | (refine CL.clo (hfl) ?_) | (refine CM.clo (hfl) ?_) | (refine CD.clo (hfl) ?_)) <;> ((try simp (implicitDefEqProofs := false) [h1]); (try simp (implicitDefEqProofs := false) (disch := first | assumption | (try simp only [lens]); omega -splitDisjunctions) [h1])))))
end Go.Proofs.Ytnoklmapofogeaa
