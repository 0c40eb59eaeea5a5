import Derived.Test.YtnoklmapofogeaaUCeI
import Derived.Test.YtnoklmapofogeaaUCeJ
import Derived.Test.YtnoklmapofogeaaUBwP
import Derived.Test.YtnoklmapofogeaaUCcV
set_option linter.unusedVariables false
set_option linter.unusedSimpArgs false
set_option maxRecDepth 100000
set_option maxHeartbeats 4000000
namespace Go.Proofs.Ytnoklmapofogeaa
open Go Go.Pv
def qF : Fm := .mk 1 ⟨#[113]⟩ []
def orF : Fm := .mk 6 ⟨#[]⟩ [pF, qF]
theorem hasF_not {l : List Fm} {f : Fm} (h : f ∉ l) : hasF l f = false := by rw [Bool.eq_false_iff]; intro g; exact h (hasF_iff.1 g)
theorem pq_ne : orF ∉ [pF] ∧ qF ∉ [pF] := by
 constructor <;> intro h <;> have := List.mem_singleton.1 h
 ·exact absurd (show orF.kind = pF.kind by rw [this]) (by decide)
 ·exact absurd (show qF.name = pF.name by rw [this]) (by decide)
theorem begun_prov : (provF [orF] [pF]).ok = none ∧ (provF [orF] [pF]).cnt = some [⟨#[113]⟩] := by
 have hz : szL [orF] + szL [pF] = 4 := by simp [szL, pres_cons, pres_nil, orF, pF, qF, pre_eq]
 have hm : moveF [orF] [pF] = some (⟨#[111, 114, 45, 108]⟩, orF, [([pF], [pF]), ([qF], [pF])]) := by kernel_rfl
 have he : endF [orF] [pF] = none := by
  unfold endF
  rw [endL, if_neg (by decide), if_neg (by rw [hasF_not pq_ne.1]; simp), endL]
  rfl
 have he2 : endF [qF] [pF] = none := by
  unfold endF
  rw [endL, if_neg (by decide), if_neg (by rw [hasF_not pq_ne.2]; simp), endL]
  rfl
 have hm2 : moveF [qF] [pF] = none := by kernel_rfl
 have he1 : endF [pF] [pF] = some (⟨#[97, 120]⟩, pF) := by
  unfold endF
  rw [endL, if_neg (by decide), if_pos (hasF_of (by simp))]
 have hv : varsL [qF] = [⟨#[113]⟩] := by kernel_rfl
 unfold provF
 rw [hz]
 have g1 : growF 4 [pF] [pF] (1 + 1) (0 + 1) = ⟨some (.mk ⟨#[97, 120]⟩ pF [pF] [pF] []), 2, none⟩ := by rw [growF, if_neg (by simp), he1]
 have g2 : growF 4 [qF] [pF] (1 + 1) 2 = ⟨none, 3, some [⟨#[113]⟩]⟩ := by rw [growF, if_neg (by simp), he2]; dsimp only; rw [hm2, hv]
 rw [growF, if_neg (by simp), he]
 dsimp only
 rw [hm]
 simp only [growL, g1, g2, and_self]
theorem begun_pl : (∀ f ∈ [orF], Pl f) ∧ (∀ f ∈ [pF], Pl f) ∧ sequentF [orF] [pF] = (0, 0) := by
 have h1 : (plainF orF).1 = 0 := by kernel_rfl
 have h2 : (plainF pF).1 = 0 := by kernel_rfl
 refine ⟨fun f hf => ?_, fun f hf => ?_, by kernel_rfl⟩
 ·rw [List.mem_singleton.1 hf]; exact ((plainF_iff _).1 h1).1
 ·rw [List.mem_singleton.1 hf]; exact ((plainF_iff _).1 h2).1
theorem named_q : CallOK Try.prog 72 [.str ⟨#[113]⟩] [] (.agg (frm qF)) [] := by
 refine fi72.os ?_
 ((refine Sg.h ?_); try repeat' ((first | (with_reducible first | refine brA ?_ | refine brE fun _ => ?_ | (refine spl ⟨?_, ?_⟩ <;> intro _))) <;> ((try simp -implicitDefEqProofs); (try simp -implicitDefEqProofs (disch := first | assumption | (try simp only [lens]); omega -splitDisjunctions)))))
 rw [frm_eq]; rfl
theorem both_pq : CallOK Try.prog 73 [.int .i64 6, .agg (frm pF), .agg (frm qF)] [] (.agg (frm orF)) [] := by
 refine fi73.op ?_
 unfold orF
 rw [frm_eq (Fm.mk _ _ _)]
 ((refine Sg.h ?_); try repeat' ((first | (with_reducible first | refine brA ?_ | refine brE fun _ => ?_ | (refine spl ⟨?_, ?_⟩ <;> intro _))) <;> ((try simp -implicitDefEqProofs); (try simp -implicitDefEqProofs (disch := first | assumption | (try simp only [lens]); omega -splitDisjunctions)))))
def x47 : XC := .seq (.reg [⟨some 0,.assign (.const (.bool false)),none⟩]) (.seq (.reg [⟨some 7,.call ⟨.value (.func 72),#[.const (.string ⟨#[112]⟩)],#[9]⟩,none⟩,⟨some 8,.call ⟨.value (.func 72),#[.const (.string ⟨#[113]⟩)],#[9]⟩,none⟩,⟨some 1,.alloc 24,none⟩,⟨some 2,.alloc 24,none⟩,⟨none,.store 24 (.tmp 1) (.tmp 7),none⟩,⟨none,.store 24 (.tmp 2) (.tmp 8),none⟩]) (.seq (.drawn 2 [⟨some 10,.load 24 (.tmp 1),none⟩,⟨some 11,.load 24 (.tmp 2),none⟩,⟨some 12,.call ⟨.value (.func 73),#[.const (.int .i64 6),.tmp 10,.tmp 11],#[3,24,24]⟩,none⟩,⟨some 13,.buildSlice 22 1 #[(0,.tmp 12)],none⟩,⟨some 14,.load 24 (.tmp 1),none⟩,⟨some 15,.buildSlice 22 1 #[(0,.tmp 14)],none⟩,⟨some 16,.build 26 #[(0,.tmp 13),(1,.tmp 15)],none⟩,⟨some 17,.call ⟨.value (.func 50),#[.tmp 16],#[26]⟩,none⟩,⟨some 9,.move (.tmp 17),none⟩,⟨some 18,.extract (.tmp 9) 0,none⟩,⟨some 19,.extract (.tmp 9) 1,none⟩,⟨some 20,.extract (.tmp 9) 2,none⟩,⟨some 21,.extract (.tmp 9) 3,none⟩,⟨some 3,.alloc 29,none⟩,⟨some 6,.alloc 33,none⟩,⟨none,.store 29 (.tmp 3) (.tmp 18),none⟩,⟨some 4,.assign (.tmp 19),none⟩,⟨some 5,.assign (.tmp 20),none⟩,⟨none,.store 33 (.tmp 6) (.tmp 21),none⟩]) (.seq (.reg [⟨some 22,.fieldAddr 33 (.tmp 6) 0,none⟩,⟨some 23,.load 3 (.tmp 22),none⟩,⟨some 24,.binOp .eql 3 (.tmp 23) (.const (.int .i64 0)) 3,none⟩,⟨some 25,.move (.tmp 24),none⟩,⟨some 26,.move (.tmp 5),some (some 25,true)⟩,⟨some 27,.unOp .not 4 (.tmp 26),some (some 25,true)⟩,⟨some 28,.pick (.tmp 25) (.tmp 27) (.const (.bool false)),none⟩,⟨some 29,.move (.tmp 28),none⟩,⟨some 30,.move (.tmp 4),some (some 29,true)⟩,⟨some 31,.buildSlice 35 1 #[(0,.const (.string ⟨#[113]⟩))],some (some 29,true)⟩,⟨some 32,.call ⟨.value (.func 45),#[.tmp 30,.tmp 31],#[35,35]⟩,some (some 29,true)⟩,⟨some 33,.pick (.tmp 29) (.tmp 32) (.const (.bool false)),none⟩,⟨some 0,.assign (.tmp 33),none⟩]) .ret)))
@[simp] theorem x47_s {C e s K} : type_of% (@X_at C e s K _ _ x47.eq_1) := X_at x47.eq_1
@[simp] def tr47_2 : MT := .op 0 (.op 1 (.op 4 (.br (.op 2 (.ck 4 (.br (.op 3 (.ck 4 (.br (.op 5 (.op 6 (.br (.op 7 (.op 8 (.op 9 (.op 10 (.op 11 (.op 12 (.br (.op 13 (.op 14 (.op 15 (.op 16 (.op 17 (.op 18 .fin)))))) (.op 14 (.op 13 (.op 15 (.op 16 (.op 17 (.op 18 .fin))))))))))))) (.br (.op 13 (.ck 6 (.br (.op 7 (.op 8 (.op 9 (.op 10 (.op 11 (.op 12 (.op 14 (.op 15 (.op 16 (.op 17 (.op 18 .fin))))))))))) (.op 14 (.ck 6 (.op 7 (.op 8 (.op 9 (.op 10 (.op 11 (.op 12 (.op 15 (.op 16 (.op 17 (.op 18 .fin))))))))))))))) (.op 14 (.ck 6 (.br (.op 7 (.op 8 (.op 9 (.op 10 (.op 11 (.op 12 (.op 13 (.op 15 (.op 16 (.op 17 (.op 18 .fin))))))))))) (.op 13 (.ck 6 (.op 7 (.op 8 (.op 9 (.op 10 (.op 11 (.op 12 (.op 15 (.op 16 (.op 17 (.op 18 .fin))))))))))))))))))) (.br (.op 13 (.ck 4 (.br (.op 5 (.op 6 (.br (.op 7 (.op 8 (.op 9 (.op 10 (.op 11 (.op 12 (.op 14 (.op 15 (.op 16 (.op 17 (.op 18 .fin))))))))))) (.op 14 (.ck 6 (.op 7 (.op 8 (.op 9 (.op 10 (.op 11 (.op 12 (.op 15 (.op 16 (.op 17 (.op 18 .fin))))))))))))))) (.op 14 (.ck 4 (.op 5 (.op 6 (.op 7 (.op 8 (.op 9 (.op 10 (.op 11 (.op 12 (.op 15 (.op 16 (.op 17 (.op 18 .fin))))))))))))))))) (.op 14 (.ck 4 (.br (.op 5 (.op 6 (.br (.op 7 (.op 8 (.op 9 (.op 10 (.op 11 (.op 12 (.op 13 (.op 15 (.op 16 (.op 17 (.op 18 .fin))))))))))) (.op 13 (.ck 6 (.op 7 (.op 8 (.op 9 (.op 10 (.op 11 (.op 12 (.op 15 (.op 16 (.op 17 (.op 18 .fin))))))))))))))) (.op 13 (.ck 4 (.op 5 (.op 6 (.op 7 (.op 8 (.op 9 (.op 10 (.op 11 (.op 12 (.op 15 (.op 16 (.op 17 (.op 18 .fin))))))))))))))))))))) (.br (.op 5 (.br (.op 3 (.op 6 (.br (.op 7 (.op 8 (.op 9 (.op 10 (.op 11 (.op 12 (.br (.op 13 (.op 14 (.op 15 (.op 16 (.op 17 (.op 18 .fin)))))) (.op 14 (.op 13 (.op 15 (.op 16 (.op 17 (.op 18 .fin))))))))))))) (.br (.op 13 (.ck 6 (.br (.op 7 (.op 8 (.op 9 (.op 10 (.op 11 (.op 12 (.op 14 (.op 15 (.op 16 (.op 17 (.op 18 .fin))))))))))) (.op 14 (.ck 6 (.op 7 (.op 8 (.op 9 (.op 10 (.op 11 (.op 12 (.op 15 (.op 16 (.op 17 (.op 18 .fin))))))))))))))) (.op 14 (.ck 6 (.br (.op 7 (.op 8 (.op 9 (.op 10 (.op 11 (.op 12 (.op 13 (.op 15 (.op 16 (.op 17 (.op 18 .fin))))))))))) (.op 13 (.ck 6 (.op 7 (.op 8 (.op 9 (.op 10 (.op 11 (.op 12 (.op 15 (.op 16 (.op 17 (.op 18 .fin))))))))))))))))))) (.br (.op 13 (.br (.op 3 (.op 6 (.br (.op 7 (.op 8 (.op 9 (.op 10 (.op 11 (.op 12 (.op 14 (.op 15 (.op 16 (.op 17 (.op 18 .fin))))))))))) (.op 14 (.ck 6 (.op 7 (.op 8 (.op 9 (.op 10 (.op 11 (.op 12 (.op 15 (.op 16 (.op 17 (.op 18 .fin))))))))))))))) (.op 14 (.op 3 (.op 6 (.op 7 (.op 8 (.op 9 (.op 10 (.op 11 (.op 12 (.op 15 (.op 16 (.op 17 (.op 18 .fin))))))))))))))) (.op 14 (.br (.op 3 (.op 6 (.br (.op 7 (.op 8 (.op 9 (.op 10 (.op 11 (.op 12 (.op 13 (.op 15 (.op 16 (.op 17 (.op 18 .fin))))))))))) (.op 13 (.ck 6 (.op 7 (.op 8 (.op 9 (.op 10 (.op 11 (.op 12 (.op 15 (.op 16 (.op 17 (.op 18 .fin))))))))))))))) (.op 13 (.op 3 (.op 6 (.op 7 (.op 8 (.op 9 (.op 10 (.op 11 (.op 12 (.op 15 (.op 16 (.op 17 (.op 18 .fin)))))))))))))))))) (.br (.op 13 (.ck 4 (.br (.op 3 (.ck 4 (.br (.op 5 (.op 6 (.br (.op 7 (.op 8 (.op 9 (.op 10 (.op 11 (.op 12 (.op 14 (.op 15 (.op 16 (.op 17 (.op 18 .fin))))))))))) (.op 14 (.ck 6 (.op 7 (.op 8 (.op 9 (.op 10 (.op 11 (.op 12 (.op 15 (.op 16 (.op 17 (.op 18 .fin))))))))))))))) (.op 14 (.ck 4 (.op 5 (.op 6 (.op 7 (.op 8 (.op 9 (.op 10 (.op 11 (.op 12 (.op 15 (.op 16 (.op 17 (.op 18 .fin))))))))))))))))) (.br (.op 5 (.br (.op 3 (.op 6 (.br (.op 7 (.op 8 (.op 9 (.op 10 (.op 11 (.op 12 (.op 14 (.op 15 (.op 16 (.op 17 (.op 18 .fin))))))))))) (.op 14 (.ck 6 (.op 7 (.op 8 (.op 9 (.op 10 (.op 11 (.op 12 (.op 15 (.op 16 (.op 17 (.op 18 .fin))))))))))))))) (.op 14 (.op 3 (.op 6 (.op 7 (.op 8 (.op 9 (.op 10 (.op 11 (.op 12 (.op 15 (.op 16 (.op 17 (.op 18 .fin))))))))))))))) (.op 14 (.ck 4 (.br (.op 3 (.ck 4 (.op 5 (.op 6 (.op 7 (.op 8 (.op 9 (.op 10 (.op 11 (.op 12 (.op 15 (.op 16 (.op 17 (.op 18 .fin)))))))))))))) (.op 5 (.op 3 (.op 6 (.op 7 (.op 8 (.op 9 (.op 10 (.op 11 (.op 12 (.op 15 (.op 16 (.op 17 (.op 18 .fin)))))))))))))))))))) (.op 14 (.ck 4 (.br (.op 3 (.ck 4 (.br (.op 5 (.op 6 (.br (.op 7 (.op 8 (.op 9 (.op 10 (.op 11 (.op 12 (.op 13 (.op 15 (.op 16 (.op 17 (.op 18 .fin))))))))))) (.op 13 (.ck 6 (.op 7 (.op 8 (.op 9 (.op 10 (.op 11 (.op 12 (.op 15 (.op 16 (.op 17 (.op 18 .fin))))))))))))))) (.op 13 (.ck 4 (.op 5 (.op 6 (.op 7 (.op 8 (.op 9 (.op 10 (.op 11 (.op 12 (.op 15 (.op 16 (.op 17 (.op 18 .fin))))))))))))))))) (.br (.op 5 (.br (.op 3 (.op 6 (.br (.op 7 (.op 8 (.op 9 (.op 10 (.op 11 (.op 12 (.op 13 (.op 15 (.op 16 (.op 17 (.op 18 .fin))))))))))) (.op 13 (.ck 6 (.op 7 (.op 8 (.op 9 (.op 10 (.op 11 (.op 12 (.op 15 (.op 16 (.op 17 (.op 18 .fin))))))))))))))) (.op 13 (.op 3 (.op 6 (.op 7 (.op 8 (.op 9 (.op 10 (.op 11 (.op 12 (.op 15 (.op 16 (.op 17 (.op 18 .fin))))))))))))))) (.op 13 (.ck 4 (.br (.op 3 (.ck 4 (.op 5 (.op 6 (.op 7 (.op 8 (.op 9 (.op 10 (.op 11 (.op 12 (.op 15 (.op 16 (.op 17 (.op 18 .fin)))))))))))))) (.op 5 (.op 3 (.op 6 (.op 7 (.op 8 (.op 9 (.op 10 (.op 11 (.op 12 (.op 15 (.op 16 (.op 17 (.op 18 .fin))))))))))))))))))))))))) (.br (.op 5 (.ck 0 (.ck 1 (.br (.op 2 (.br (.op 3 (.op 6 (.br (.op 7 (.op 8 (.op 9 (.op 10 (.op 11 (.op 12 (.br (.op 13 (.op 14 (.op 15 (.op 16 (.op 17 (.op 18 .fin)))))) (.op 14 (.op 13 (.op 15 (.op 16 (.op 17 (.op 18 .fin))))))))))))) (.br (.op 13 (.ck 6 (.br (.op 7 (.op 8 (.op 9 (.op 10 (.op 11 (.op 12 (.op 14 (.op 15 (.op 16 (.op 17 (.op 18 .fin))))))))))) (.op 14 (.ck 6 (.op 7 (.op 8 (.op 9 (.op 10 (.op 11 (.op 12 (.op 15 (.op 16 (.op 17 (.op 18 .fin))))))))))))))) (.op 14 (.ck 6 (.br (.op 7 (.op 8 (.op 9 (.op 10 (.op 11 (.op 12 (.op 13 (.op 15 (.op 16 (.op 17 (.op 18 .fin))))))))))) (.op 13 (.ck 6 (.op 7 (.op 8 (.op 9 (.op 10 (.op 11 (.op 12 (.op 15 (.op 16 (.op 17 (.op 18 .fin))))))))))))))))))) (.br (.op 13 (.br (.op 3 (.op 6 (.br (.op 7 (.op 8 (.op 9 (.op 10 (.op 11 (.op 12 (.op 14 (.op 15 (.op 16 (.op 17 (.op 18 .fin))))))))))) (.op 14 (.ck 6 (.op 7 (.op 8 (.op 9 (.op 10 (.op 11 (.op 12 (.op 15 (.op 16 (.op 17 (.op 18 .fin))))))))))))))) (.op 14 (.op 3 (.op 6 (.op 7 (.op 8 (.op 9 (.op 10 (.op 11 (.op 12 (.op 15 (.op 16 (.op 17 (.op 18 .fin))))))))))))))) (.op 14 (.br (.op 3 (.op 6 (.br (.op 7 (.op 8 (.op 9 (.op 10 (.op 11 (.op 12 (.op 13 (.op 15 (.op 16 (.op 17 (.op 18 .fin))))))))))) (.op 13 (.ck 6 (.op 7 (.op 8 (.op 9 (.op 10 (.op 11 (.op 12 (.op 15 (.op 16 (.op 17 (.op 18 .fin))))))))))))))) (.op 13 (.op 3 (.op 6 (.op 7 (.op 8 (.op 9 (.op 10 (.op 11 (.op 12 (.op 15 (.op 16 (.op 17 (.op 18 .fin)))))))))))))))))) (.br (.op 13 (.ck 0 (.ck 1 (.br (.op 2 (.br (.op 3 (.op 6 (.br (.op 7 (.op 8 (.op 9 (.op 10 (.op 11 (.op 12 (.op 14 (.op 15 (.op 16 (.op 17 (.op 18 .fin))))))))))) (.op 14 (.ck 6 (.op 7 (.op 8 (.op 9 (.op 10 (.op 11 (.op 12 (.op 15 (.op 16 (.op 17 (.op 18 .fin))))))))))))))) (.op 14 (.op 3 (.op 6 (.op 7 (.op 8 (.op 9 (.op 10 (.op 11 (.op 12 (.op 15 (.op 16 (.op 17 (.op 18 .fin))))))))))))))) (.op 14 (.ck 0 (.ck 1 (.op 2 (.op 3 (.op 6 (.op 7 (.op 8 (.op 9 (.op 10 (.op 11 (.op 12 (.op 15 (.op 16 (.op 17 (.op 18 .fin)))))))))))))))))))) (.op 14 (.ck 0 (.ck 1 (.br (.op 2 (.br (.op 3 (.op 6 (.br (.op 7 (.op 8 (.op 9 (.op 10 (.op 11 (.op 12 (.op 13 (.op 15 (.op 16 (.op 17 (.op 18 .fin))))))))))) (.op 13 (.ck 6 (.op 7 (.op 8 (.op 9 (.op 10 (.op 11 (.op 12 (.op 15 (.op 16 (.op 17 (.op 18 .fin))))))))))))))) (.op 13 (.op 3 (.op 6 (.op 7 (.op 8 (.op 9 (.op 10 (.op 11 (.op 12 (.op 15 (.op 16 (.op 17 (.op 18 .fin))))))))))))))) (.op 13 (.ck 0 (.ck 1 (.op 2 (.op 3 (.op 6 (.op 7 (.op 8 (.op 9 (.op 10 (.op 11 (.op 12 (.op 15 (.op 16 (.op 17 (.op 18 .fin))))))))))))))))))))))))) (.br (.op 13 (.ck 0 (.ck 1 (.ck 4 (.br (.op 2 (.ck 4 (.br (.op 3 (.ck 4 (.br (.op 5 (.op 6 (.br (.op 7 (.op 8 (.op 9 (.op 10 (.op 11 (.op 12 (.op 14 (.op 15 (.op 16 (.op 17 (.op 18 .fin))))))))))) (.op 14 (.ck 6 (.op 7 (.op 8 (.op 9 (.op 10 (.op 11 (.op 12 (.op 15 (.op 16 (.op 17 (.op 18 .fin))))))))))))))) (.op 14 (.ck 4 (.op 5 (.op 6 (.op 7 (.op 8 (.op 9 (.op 10 (.op 11 (.op 12 (.op 15 (.op 16 (.op 17 (.op 18 .fin))))))))))))))))) (.br (.op 5 (.br (.op 3 (.op 6 (.br (.op 7 (.op 8 (.op 9 (.op 10 (.op 11 (.op 12 (.op 14 (.op 15 (.op 16 (.op 17 (.op 18 .fin))))))))))) (.op 14 (.ck 6 (.op 7 (.op 8 (.op 9 (.op 10 (.op 11 (.op 12 (.op 15 (.op 16 (.op 17 (.op 18 .fin))))))))))))))) (.op 14 (.op 3 (.op 6 (.op 7 (.op 8 (.op 9 (.op 10 (.op 11 (.op 12 (.op 15 (.op 16 (.op 17 (.op 18 .fin))))))))))))))) (.op 14 (.ck 4 (.br (.op 3 (.ck 4 (.op 5 (.op 6 (.op 7 (.op 8 (.op 9 (.op 10 (.op 11 (.op 12 (.op 15 (.op 16 (.op 17 (.op 18 .fin)))))))))))))) (.op 5 (.op 3 (.op 6 (.op 7 (.op 8 (.op 9 (.op 10 (.op 11 (.op 12 (.op 15 (.op 16 (.op 17 (.op 18 .fin)))))))))))))))))))) (.br (.op 5 (.ck 0 (.ck 1 (.br (.op 2 (.br (.op 3 (.op 6 (.br (.op 7 (.op 8 (.op 9 (.op 10 (.op 11 (.op 12 (.op 14 (.op 15 (.op 16 (.op 17 (.op 18 .fin))))))))))) (.op 14 (.ck 6 (.op 7 (.op 8 (.op 9 (.op 10 (.op 11 (.op 12 (.op 15 (.op 16 (.op 17 (.op 18 .fin))))))))))))))) (.op 14 (.op 3 (.op 6 (.op 7 (.op 8 (.op 9 (.op 10 (.op 11 (.op 12 (.op 15 (.op 16 (.op 17 (.op 18 .fin))))))))))))))) (.op 14 (.ck 0 (.ck 1 (.op 2 (.op 3 (.op 6 (.op 7 (.op 8 (.op 9 (.op 10 (.op 11 (.op 12 (.op 15 (.op 16 (.op 17 (.op 18 .fin)))))))))))))))))))) (.op 14 (.ck 0 (.ck 1 (.ck 4 (.br (.op 2 (.ck 4 (.br (.op 3 (.ck 4 (.op 5 (.op 6 (.op 7 (.op 8 (.op 9 (.op 10 (.op 11 (.op 12 (.op 15 (.op 16 (.op 17 (.op 18 .fin)))))))))))))) (.op 5 (.op 3 (.op 6 (.op 7 (.op 8 (.op 9 (.op 10 (.op 11 (.op 12 (.op 15 (.op 16 (.op 17 (.op 18 .fin)))))))))))))))) (.op 5 (.ck 0 (.ck 1 (.op 2 (.op 3 (.op 6 (.op 7 (.op 8 (.op 9 (.op 10 (.op 11 (.op 12 (.op 15 (.op 16 (.op 17 (.op 18 .fin))))))))))))))))))))))))))) (.op 14 (.ck 0 (.ck 1 (.ck 4 (.br (.op 2 (.ck 4 (.br (.op 3 (.ck 4 (.br (.op 5 (.op 6 (.br (.op 7 (.op 8 (.op 9 (.op 10 (.op 11 (.op 12 (.op 13 (.op 15 (.op 16 (.op 17 (.op 18 .fin))))))))))) (.op 13 (.ck 6 (.op 7 (.op 8 (.op 9 (.op 10 (.op 11 (.op 12 (.op 15 (.op 16 (.op 17 (.op 18 .fin))))))))))))))) (.op 13 (.ck 4 (.op 5 (.op 6 (.op 7 (.op 8 (.op 9 (.op 10 (.op 11 (.op 12 (.op 15 (.op 16 (.op 17 (.op 18 .fin))))))))))))))))) (.br (.op 5 (.br (.op 3 (.op 6 (.br (.op 7 (.op 8 (.op 9 (.op 10 (.op 11 (.op 12 (.op 13 (.op 15 (.op 16 (.op 17 (.op 18 .fin))))))))))) (.op 13 (.ck 6 (.op 7 (.op 8 (.op 9 (.op 10 (.op 11 (.op 12 (.op 15 (.op 16 (.op 17 (.op 18 .fin))))))))))))))) (.op 13 (.op 3 (.op 6 (.op 7 (.op 8 (.op 9 (.op 10 (.op 11 (.op 12 (.op 15 (.op 16 (.op 17 (.op 18 .fin))))))))))))))) (.op 13 (.ck 4 (.br (.op 3 (.ck 4 (.op 5 (.op 6 (.op 7 (.op 8 (.op 9 (.op 10 (.op 11 (.op 12 (.op 15 (.op 16 (.op 17 (.op 18 .fin)))))))))))))) (.op 5 (.op 3 (.op 6 (.op 7 (.op 8 (.op 9 (.op 10 (.op 11 (.op 12 (.op 15 (.op 16 (.op 17 (.op 18 .fin)))))))))))))))))))) (.br (.op 5 (.ck 0 (.ck 1 (.br (.op 2 (.br (.op 3 (.op 6 (.br (.op 7 (.op 8 (.op 9 (.op 10 (.op 11 (.op 12 (.op 13 (.op 15 (.op 16 (.op 17 (.op 18 .fin))))))))))) (.op 13 (.ck 6 (.op 7 (.op 8 (.op 9 (.op 10 (.op 11 (.op 12 (.op 15 (.op 16 (.op 17 (.op 18 .fin))))))))))))))) (.op 13 (.op 3 (.op 6 (.op 7 (.op 8 (.op 9 (.op 10 (.op 11 (.op 12 (.op 15 (.op 16 (.op 17 (.op 18 .fin))))))))))))))) (.op 13 (.ck 0 (.ck 1 (.op 2 (.op 3 (.op 6 (.op 7 (.op 8 (.op 9 (.op 10 (.op 11 (.op 12 (.op 15 (.op 16 (.op 17 (.op 18 .fin)))))))))))))))))))) (.op 13 (.ck 0 (.ck 1 (.ck 4 (.br (.op 2 (.ck 4 (.br (.op 3 (.ck 4 (.op 5 (.op 6 (.op 7 (.op 8 (.op 9 (.op 10 (.op 11 (.op 12 (.op 15 (.op 16 (.op 17 (.op 18 .fin)))))))))))))) (.op 5 (.op 3 (.op 6 (.op 7 (.op 8 (.op 9 (.op 10 (.op 11 (.op 12 (.op 15 (.op 16 (.op 17 (.op 18 .fin)))))))))))))))) (.op 5 (.ck 0 (.ck 1 (.op 2 (.op 3 (.op 6 (.op 7 (.op 8 (.op 9 (.op 10 (.op 11 (.op 12 (.op 15 (.op 16 (.op 17 (.op 18 .fin))))))))))))))))))))))))))))))))
def an47 : Ann := ⟨[(2, .treez tr47_2)], [], []⟩
@[simp] theorem an47_a : an47.clsOf 2 = .treez tr47_2 ∧ an47.frzOf 2 = [] := ⟨rfl, rfl⟩
theorem fi47 : FI Try.prog 47 (cxA an47) x47 [.tmp 0] Try.f47 := fiA Try.func47 mixed
theorem classicBegun_law : CallOK Try.prog 47 [] [] (.bool true) [] := by
 have h1 := named_p
 have h2 := named_q
 have h3 := both_pq
 have h4 := Prove_open [orF] [pF] begun_pl.2.2 begun_pl.1 begun_pl.2.1 (by decide) begun_prov.1
 rw [begun_prov.2] at h4
 have hc : cntC [⟨#[113]⟩] = [⟨#[113]⟩] := by unfold cntC; rw [comp_ins]; kernel_rfl
 unfold cntV at h4
 dsimp only at h4
 rw [hc] at h4
 have h5 := Texts_ref [⟨#[113]⟩] [⟨#[113]⟩]
 simp only [List.map_cons, List.map_nil, strRow, Option.isSome_some, if_true, decide_true] at h4 h5
 unfold noPf at h4
 refine fi47.op ?_
 ((refine Sg.h ?_); try repeat' ((first | (with_reducible first | refine brA ?_ | refine brE fun _ => ?_ | (refine spl ⟨?_, ?_⟩ <;> intro _)) | refine clo h1 ?_ | refine clo h2 ?_ | refine clo h3 ?_ | refine clo h4 ?_ | refine clo h5 ?_) <;> ((try simp -implicitDefEqProofs); (try simp -implicitDefEqProofs (disch := first | assumption | (try simp only [lens]); omega -splitDisjunctions)))))
 repeat' (first | (refine And.intro ?_ ?_) | ((first | refine clo h3 ?_ | refine clo h4 ?_ | refine clo h2 ?_ | refine clo h1 ?_ | refine clo h5 ?_); ((refine Sg.h ?_); try repeat' ((first | (with_reducible first | refine brA ?_ | refine brE fun _ => ?_ | (refine spl ⟨?_, ?_⟩ <;> intro _)) | refine clo h1 ?_ | refine clo h2 ?_ | refine clo h3 ?_ | refine clo h4 ?_ | refine clo h5 ?_) <;> ((try simp -implicitDefEqProofs); (try simp -implicitDefEqProofs (disch := first | assumption | (try simp only [lens]); omega -splitDisjunctions)))))))
 all_goals refine CL.giv [4] ?_
 all_goals (((refine Sg.h ?_); try repeat' ((first | (with_reducible first | refine brA ?_ | refine brE fun _ => ?_ | (refine spl ⟨?_, ?_⟩ <;> intro _)) | refine clo h5 ?_) <;> ((try simp -implicitDefEqProofs); (try simp -implicitDefEqProofs (disch := first | assumption | (try simp only [lens]); omega -splitDisjunctions))))))
end Go.Proofs.Ytnoklmapofogeaa
namespace Go.Proofs.Ytnoklmapofogeaa
open Go Go.Pv
def x26_T1 : XC := .seq (.reg [⟨some 55,.build 33 #[],none⟩,⟨none,.store 33 (.tmp 2) (.tmp 55),none⟩]) .ret
def x26_L0 : XC := .seq (.seq (.reg [⟨some 15,.move (.tmp 3),none⟩,⟨some 16,.fieldAddr 26 (.tmp 1) 0,none⟩,⟨some 17,.load 22 (.tmp 16),none⟩,⟨some 18,.call ⟨.builtin .len,#[.tmp 17],#[22]⟩,none⟩,⟨some 19,.fieldAddr 26 (.tmp 1) 1,none⟩,⟨some 20,.load 22 (.tmp 19),none⟩,⟨some 21,.call ⟨.builtin .len,#[.tmp 20],#[22]⟩,none⟩,⟨some 22,.binOp .add 3 (.tmp 18) (.tmp 21) 3,none⟩,⟨some 23,.binOp .lss 3 (.tmp 15) (.tmp 22) 3,none⟩]) (.cond (.tmp 23) .skip (.exit 0))) (.seq (.block 1 (.seq (.reg [⟨some 4,.alloc 24,none⟩]) (.seq (.seq (.reg [⟨some 26,.move (.tmp 3),none⟩,⟨some 27,.fieldAddr 26 (.tmp 1) 0,none⟩,⟨some 28,.load 22 (.tmp 27),none⟩,⟨some 29,.call ⟨.builtin .len,#[.tmp 28],#[22]⟩,none⟩,⟨some 30,.binOp .lss 3 (.tmp 26) (.tmp 29) 3,none⟩]) (.cond (.tmp 30) (.reg [⟨some 31,.fieldAddr 26 (.tmp 1) 0,none⟩,⟨some 32,.load 22 (.tmp 31),none⟩,⟨some 33,.move (.tmp 3),none⟩,⟨some 34,.indexAddr 22 (.tmp 32) (.tmp 33),none⟩,⟨some 35,.load 24 (.tmp 34),none⟩,⟨none,.store 24 (.tmp 4) (.tmp 35),none⟩]) (.reg [⟨some 36,.fieldAddr 26 (.tmp 1) 1,none⟩,⟨some 37,.load 22 (.tmp 36),none⟩,⟨some 38,.move (.tmp 3),none⟩,⟨some 39,.fieldAddr 26 (.tmp 1) 0,none⟩,⟨some 40,.load 22 (.tmp 39),none⟩,⟨some 41,.call ⟨.builtin .len,#[.tmp 40],#[22]⟩,none⟩,⟨some 42,.binOp .sub 3 (.tmp 38) (.tmp 41) 3,none⟩,⟨some 43,.indexAddr 22 (.tmp 37) (.tmp 42),none⟩,⟨some 44,.load 24 (.tmp 43),none⟩,⟨none,.store 24 (.tmp 4) (.tmp 44),none⟩]))) (.seq (.reg [⟨some 45,.load 24 (.tmp 4),none⟩,⟨some 46,.buildSlice 22 1 #[(0,.tmp 45)],none⟩,⟨some 47,.call ⟨.value (.func 21),#[.tmp 46],#[22]⟩,none⟩,⟨some 5,.alloc 33,none⟩,⟨none,.store 33 (.tmp 5) (.tmp 47),none⟩]) (.seq (.reg [⟨some 48,.fieldAddr 33 (.tmp 5) 0,none⟩,⟨some 49,.load 3 (.tmp 48),none⟩,⟨some 50,.binOp .neq 3 (.tmp 49) (.const (.int .i64 0)) 3,none⟩]) (.cond (.tmp 50) (.seq (.reg [⟨some 51,.fieldAddr 33 (.tmp 5) 0,none⟩,⟨some 52,.load 3 (.tmp 51),none⟩,⟨some 53,.move (.tmp 3),none⟩,⟨some 54,.call ⟨.value (.func 38),#[.tmp 52,.tmp 53],#[3,3]⟩,none⟩,⟨none,.store 33 (.tmp 2) (.tmp 54),none⟩]) .ret) .skip)))))) (.reg [⟨some 24,.move (.tmp 3),none⟩,⟨some 25,.binOp .add 3 (.tmp 24) (.const (.int .i64 1)) 3,none⟩,⟨some 3,.assign (.tmp 25),none⟩]))
def x26 : XC := .seq (.reg [⟨some 1,.box 26 (.tmp 0),none⟩,⟨some 2,.alloc 33,none⟩]) (.seq (.seq (.reg [⟨some 6,.fieldAddr 26 (.tmp 1) 0,none⟩,⟨some 7,.load 22 (.tmp 6),none⟩,⟨some 8,.call ⟨.builtin .len,#[.tmp 7],#[22]⟩,none⟩,⟨some 9,.fieldAddr 26 (.tmp 1) 1,none⟩,⟨some 10,.load 22 (.tmp 9),none⟩,⟨some 11,.call ⟨.builtin .len,#[.tmp 10],#[22]⟩,none⟩,⟨some 12,.binOp .add 3 (.tmp 8) (.tmp 11) 3,none⟩,⟨some 13,.binOp .gtr 3 (.tmp 12) (.const (.int .i64 60)) 3,none⟩]) (.cond (.tmp 13) (.seq (.reg [⟨some 14,.call ⟨.value (.func 38),#[.const (.int .i64 2),.const (.int .i64 0)],#[3,3]⟩,none⟩,⟨none,.store 33 (.tmp 2) (.tmp 14),none⟩]) .ret) .skip)) (.seq (.seq (.reg [⟨some 3,.assign (.const (.int .i64 0)),none⟩]) (.bloop 0 x26_L0)) (x26_T1)))
@[simp] theorem x26_s {C e s K} : type_of% (@X_at C e s K _ _ x26_T1.eq_1) ∧ type_of% (@X_at C e s K _ _ x26_L0.eq_1) ∧ type_of% (@X_at C e s K _ _ x26.eq_1) := ⟨X_at x26_T1.eq_1, X_at x26_L0.eq_1, X_at x26.eq_1⟩
def an26 : Ann := ⟨[], [(0, [], [1, 2, 3], [2])], []⟩
@[simp] theorem an26_a : an26.loopOf 0 = ([], [1, 2, 3], [2]) := rfl
theorem fi26 : FI Try.prog 26 (cxA an26) x26 [.cell 2 33] Try.f26 := fiA Try.func26 mixed
theorem SequentFault_ref (l r : List Fm) (hl : l.length ≤ 50000) (hr : r.length ≤ 50000) : CallOK Try.prog 26 [.agg [.list (l.map frm), .list (r.map frm)]] [] (.agg [.int .i64 (sequentF l r).1, .int .i64 (sequentF l r).2]) [] := by
 refine fi26.op ?_
 unfold sequentF
 by_cases h6 : 60 < l.length + r.length
 ·have h6i : (60 : Int) < (l.length : Int) + (r.length : Int) := by omega
  rw [if_pos h6]
  ((refine Sg.h ?_); try repeat' ((first | (with_reducible first | refine brA ?_ | refine brE fun _ => ?_ | (refine spl ⟨?_, ?_⟩ <;> intro _)) | refine clo (F_ref 2 0) ?_) <;> ((try simp -implicitDefEqProofs [h6i]); (try simp -implicitDefEqProofs (disch := first | assumption | (try simp only [lens]); omega -splitDisjunctions) [h6i]))))
 ·have h6i : ¬ (60 : Int) < (l.length : Int) + (r.length : Int) := by omega
  rw [if_neg h6]
  generalize hE : seqGo (l ++ r) 0 = E
  ((refine Sg.h ?_); try repeat' ((first | (with_reducible first | refine brA ?_ | refine brE fun _ => ?_ | (refine spl ⟨?_, ?_⟩ <;> intro _))) <;> ((try simp -implicitDefEqProofs [h6i]); (try simp -implicitDefEqProofs (disch := first | assumption | (try simp only [lens]); omega -splitDisjunctions) [h6i]))))
  refine W_of fun Q hQ => ?_
  have main : ∀ n i, i + n = l.length + r.length → seqGo ((l ++ r).drop i) i = E → Q [(1, .ptr 0 0 0), (2, .ptr 1 0 0), (3, .int .i64 (i : Int))] [.rows 2 [[.list (l.map frm), .list (r.map frm)]], .rows 2 [[.int .i64 0, .int .i64 0]]] := by
   intro n
   induction n with
   | zero =>
    intro i hi he
    rw [List.drop_of_length_le (by simp; omega), seqGo] at he
    have hii : ¬ (i : Int) < (l.length : Int) + (r.length : Int) := by omega
    apply hQ
    clear hQ
    subst he
    ((refine Sg.h ?_); try repeat' ((first | (with_reducible first | refine brA ?_ | refine brE fun _ => ?_ | (refine spl ⟨?_, ?_⟩ <;> intro _))) <;> ((try simp -implicitDefEqProofs [hii]); (try simp -implicitDefEqProofs (disch := first | assumption | (try simp only [lens]); omega -splitDisjunctions) [hii]))))
   | succ n ih =>
    intro i hi he
    have hil : i < (l ++ r).length := by simp; omega
    have hii : (i : Int) < (l.length : Int) + (r.length : Int) := by omega
    have ih := ih (i + 1) (by omega)
    rw [List.drop_eq_getElem_cons hil, seqGo] at he
    have hp := PlainFault_ref [(l ++ r)[i]] (by simp)
    rw [plainL_sgl] at hp
    have hf := F_ref (plainF (l ++ r)[i]).1 (i : Int)
    apply hQ
    clear hQ
    by_cases hlt : i < l.length
    ·rw [List.getElem_append_left hlt] at *
     by_cases h0 : (plainF l[i]).1 = 0
     ·rw [if_neg (by simpa using h0)] at he hp
      have ih := ih he
      ((refine Sg.h ?_); try repeat' ((first | (with_reducible first | refine brA ?_ | refine brE fun _ => ?_ | (refine spl ⟨?_, ?_⟩ <;> intro _))) <;> ((try simp -implicitDefEqProofs [hii, hlt]); (try simp -implicitDefEqProofs (disch := first | assumption | (try simp only [lens]); omega -splitDisjunctions) [hii, hlt]))))
      refine CL.giv [3] ?_
      ((refine Sg.h ?_); try repeat' ((first | (with_reducible first | refine brA ?_ | refine brE fun _ => ?_ | (refine spl ⟨?_, ?_⟩ <;> intro _)) | refine clo hp ?_) <;> ((try simp -implicitDefEqProofs); (try simp -implicitDefEqProofs (disch := first | assumption | (try simp only [lens]); omega -splitDisjunctions)))))
      all_goals first | exact ih | (refine at2 ih ?_ ?_ <;> simp; done) | (exfalso; first | omega | (simp_all; done) | (simp_all; omega))
     ·rw [if_pos (by simpa using h0)] at he hp
      subst he
      generalize plainF l[i] = P at *
      ((refine Sg.h ?_); try repeat' ((first | (with_reducible first | refine brA ?_ | refine brE fun _ => ?_ | (refine spl ⟨?_, ?_⟩ <;> intro _))) <;> ((try simp -implicitDefEqProofs [hii, hlt]); (try simp -implicitDefEqProofs (disch := first | assumption | (try simp only [lens]); omega -splitDisjunctions) [hii, hlt]))))
      refine CL.giv [3] ?_
      ((refine Sg.h ?_); try repeat' ((first | (with_reducible first | refine brA ?_ | refine brE fun _ => ?_ | (refine spl ⟨?_, ?_⟩ <;> intro _)) | refine clo hp ?_ | refine clo hf ?_) <;> ((try simp -implicitDefEqProofs [h0]); (try simp -implicitDefEqProofs (disch := first | assumption | (try simp only [lens]); omega -splitDisjunctions) [h0]))))
    ·have hr2 : i - l.length < r.length := by simp at hil; omega
     have hlti : ¬ (i : Int) < (l.length : Int) := by omega
     have hsub : (i : Int) - (l.length : Int) = ((i - l.length : Nat) : Int) := by omega
     rw [List.getElem_append_right (by omega)] at *
     by_cases h0 : (plainF r[i - l.length]).1 = 0
     ·rw [if_neg (by simpa using h0)] at he hp
      have ih := ih he
      ((refine Sg.h ?_); try repeat' ((first | (with_reducible first | refine brA ?_ | refine brE fun _ => ?_ | (refine spl ⟨?_, ?_⟩ <;> intro _))) <;> ((try simp -implicitDefEqProofs [hii, hlti, hsub, hr2]); (try simp -implicitDefEqProofs (disch := first | assumption | (try simp only [lens]); omega -splitDisjunctions) [hii, hlti, hsub, hr2]))))
      refine CL.giv [3] ?_
      ((refine Sg.h ?_); try repeat' ((first | (with_reducible first | refine brA ?_ | refine brE fun _ => ?_ | (refine spl ⟨?_, ?_⟩ <;> intro _)) | refine clo hp ?_) <;> ((try simp -implicitDefEqProofs); (try simp -implicitDefEqProofs (disch := first | assumption | (try simp only [lens]); omega -splitDisjunctions)))))
      all_goals first | exact ih | (refine at2 ih ?_ ?_ <;> simp; done) | (exfalso; first | omega | (simp_all; done) | (simp_all; omega))
     ·rw [if_pos (by simpa using h0)] at he hp
      subst he
      generalize plainF r[i - l.length] = P at *
      ((refine Sg.h ?_); try repeat' ((first | (with_reducible first | refine brA ?_ | refine brE fun _ => ?_ | (refine spl ⟨?_, ?_⟩ <;> intro _))) <;> ((try simp -implicitDefEqProofs [hii, hlti, hsub, hr2]); (try simp -implicitDefEqProofs (disch := first | assumption | (try simp only [lens]); omega -splitDisjunctions) [hii, hlti, hsub, hr2]))))
      refine CL.giv [3] ?_
      ((refine Sg.h ?_); try repeat' ((first | (with_reducible first | refine brA ?_ | refine brE fun _ => ?_ | (refine spl ⟨?_, ?_⟩ <;> intro _)) | refine clo hp ?_ | refine clo hf ?_) <;> ((try simp -implicitDefEqProofs [h0]); (try simp -implicitDefEqProofs (disch := first | assumption | (try simp only [lens]); omega -splitDisjunctions) [h0]))))
  all_goals first | exact main _ 0 (Nat.zero_add _) (by simpa using hE) | (refine at2 main _ 0 (Nat.zero_add _) (by simpa using hE) ?_ ?_ <;> simp; done) | (exfalso; first | omega | (simp_all; done) | (simp_all; omega))
end Go.Proofs.Ytnoklmapofogeaa
