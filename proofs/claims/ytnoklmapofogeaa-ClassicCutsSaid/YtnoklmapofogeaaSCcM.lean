import Derived.Test.YtnoklmapofogeaaSCeB
import Derived.Test.YtnoklmapofogeaaSCeJ
import Derived.Test.YtnoklmapofogeaaSBwP
import Derived.Test.YtnoklmapofogeaaSCcZ
set_option linter.unusedVariables false
set_option linter.unusedSimpArgs false
set_option maxRecDepth 100000
set_option maxHeartbeats 4000000
namespace Go.Proofs.Ytnoklmapofogeaa
open Go Go.Pv
def qF : Fm := .mk 1 ⟨#[113]⟩ []
def orF : Fm := .mk 6 ⟨#[]⟩ [pF, qF]
theorem hasF_not {l : List Fm} {f : Fm} (h : f ∉ l) : hasF l f = false := by rw [Bool.eq_false_iff]; intro g; exact h (hasF_iff.1 g)
theorem pq_ne : orF ∉ [pF] ∧ qF ∉ [pF] := by
 constructor <;> intro h <;> have := List.mem_singleton.1 h
 ·exact absurd (show orF.kind = pF.kind by rw [this]) (by decide)
 ·exact absurd (show qF.name = pF.name by rw [this]) (by decide)
theorem begun_prov : (provF [orF] [pF]).ok = none ∧ (provF [orF] [pF]).cnt = some [⟨#[113]⟩] := by
 have hz : szL [orF] + szL [pF] = 4 := by simp [szL, pres_cons, pres_nil, orF, pF, qF, pre_eq]
 have hm : moveF [orF] [pF] = some (⟨#[111, 114, 45, 108]⟩, orF, [([pF], [pF]), ([qF], [pF])]) := by kernel_rfl
 have he : endF [orF] [pF] = none := by
  unfold endF
  rw [endL, if_neg (by decide), if_neg (by rw [hasF_not pq_ne.1]; simp), endL]
  rfl
 have he2 : endF [qF] [pF] = none := by
  unfold endF
  rw [endL, if_neg (by decide), if_neg (by rw [hasF_not pq_ne.2]; simp), endL]
  rfl
 have hm2 : moveF [qF] [pF] = none := by kernel_rfl
 have he1 : endF [pF] [pF] = some (⟨#[97, 120]⟩, pF) := by
  unfold endF
  rw [endL, if_neg (by decide), if_pos (hasF_of (by simp))]
 have hv : varsL [qF] = [⟨#[113]⟩] := by kernel_rfl
 unfold provF
 rw [hz]
 have g1 : growF 4 [pF] [pF] (1 + 1) (0 + 1) = ⟨some (.mk ⟨#[97, 120]⟩ pF [pF] [pF] []), 2, none⟩ := by rw [growF, if_neg (by simp), he1]
 have g2 : growF 4 [qF] [pF] (1 + 1) 2 = ⟨none, 3, some [⟨#[113]⟩]⟩ := by rw [growF, if_neg (by simp), he2]; dsimp only; rw [hm2, hv]
 rw [growF, if_neg (by simp), he]
 dsimp only
 rw [hm]
 simp only [growL, g1, g2, and_self]
theorem begun_pl : (∀ f ∈ [orF], Pl f) ∧ (∀ f ∈ [pF], Pl f) ∧ sequentF [orF] [pF] = (0, 0) := by
 have h1 : (plainF orF).1 = 0 := by kernel_rfl
 have h2 : (plainF pF).1 = 0 := by kernel_rfl
 refine ⟨fun f hf => ?_, fun f hf => ?_, by kernel_rfl⟩
 ·rw [List.mem_singleton.1 hf]; exact ((plainF_iff _).1 h1).1
 ·rw [List.mem_singleton.1 hf]; exact ((plainF_iff _).1 h2).1
theorem named_q : CallOK Try.prog 72 [.str ⟨#[113]⟩] [] (.agg (frm qF)) [] := by
 refine fi72.os ?_
 ((refine Sg.h ?_); try repeat' ((first | (with_reducible first | refine brA ?_ | refine brE fun _ => ?_ | (refine spl ⟨?_, ?_⟩ <;> intro _))) <;> ((try simp -implicitDefEqProofs); (try simp -implicitDefEqProofs (disch := first | assumption | (try simp only [lens]); omega -splitDisjunctions)))))
 rw [frm_eq]; rfl
theorem both_pq : CallOK Try.prog 73 [.int .i64 6, .agg (frm pF), .agg (frm qF)] [] (.agg (frm orF)) [] := by
 refine fi73.op ?_
 unfold orF
 rw [frm_eq (Fm.mk _ _ _)]
 ((refine Sg.h ?_); try repeat' ((first | (with_reducible first | refine brA ?_ | refine brE fun _ => ?_ | (refine spl ⟨?_, ?_⟩ <;> intro _))) <;> ((try simp -implicitDefEqProofs); (try simp -implicitDefEqProofs (disch := first | assumption | (try simp only [lens]); omega -splitDisjunctions)))))
def x47 : XC := .seq (.reg [⟨some 0,.assign (.const (.bool false)),none⟩]) (.seq (.reg [⟨some 7,.call ⟨.value (.func 72),#[.const (.string ⟨#[112]⟩)],#[9]⟩,none⟩,⟨some 8,.call ⟨.value (.func 72),#[.const (.string ⟨#[113]⟩)],#[9]⟩,none⟩,⟨some 1,.alloc 24,none⟩,⟨some 2,.alloc 24,none⟩,⟨none,.store 24 (.tmp 1) (.tmp 7),none⟩,⟨none,.store 24 (.tmp 2) (.tmp 8),none⟩]) (.seq (.drawn 2 [⟨some 10,.load 24 (.tmp 1),none⟩,⟨some 11,.load 24 (.tmp 2),none⟩,⟨some 12,.call ⟨.value (.func 73),#[.const (.int .i64 6),.tmp 10,.tmp 11],#[3,24,24]⟩,none⟩,⟨some 13,.buildSlice 22 1 #[(0,.tmp 12)],none⟩,⟨some 14,.load 24 (.tmp 1),none⟩,⟨some 15,.buildSlice 22 1 #[(0,.tmp 14)],none⟩,⟨some 16,.build 26 #[(0,.tmp 13),(1,.tmp 15)],none⟩,⟨some 17,.call ⟨.value (.func 50),#[.tmp 16],#[26]⟩,none⟩,⟨some 9,.move (.tmp 17),none⟩,⟨some 18,.extract (.tmp 9) 0,none⟩,⟨some 19,.extract (.tmp 9) 1,none⟩,⟨some 20,.extract (.tmp 9) 2,none⟩,⟨some 21,.extract (.tmp 9) 3,none⟩,⟨some 3,.alloc 29,none⟩,⟨some 6,.alloc 33,none⟩,⟨none,.store 29 (.tmp 3) (.tmp 18),none⟩,⟨some 4,.assign (.tmp 19),none⟩,⟨some 5,.assign (.tmp 20),none⟩,⟨none,.store 33 (.tmp 6) (.tmp 21),none⟩]) (.seq (.reg [⟨some 22,.fieldAddr 33 (.tmp 6) 0,none⟩,⟨some 23,.load 3 (.tmp 22),none⟩,⟨some 24,.binOp .eql 3 (.tmp 23) (.const (.int .i64 0)) 3,none⟩,⟨some 25,.move (.tmp 24),none⟩,⟨some 26,.move (.tmp 5),some (some 25,true)⟩,⟨some 27,.unOp .not 4 (.tmp 26),some (some 25,true)⟩,⟨some 28,.pick (.tmp 25) (.tmp 27) (.const (.bool false)),none⟩,⟨some 29,.move (.tmp 28),none⟩,⟨some 30,.move (.tmp 4),some (some 29,true)⟩,⟨some 31,.buildSlice 35 1 #[(0,.const (.string ⟨#[113]⟩))],some (some 29,true)⟩,⟨some 32,.call ⟨.value (.func 45),#[.tmp 30,.tmp 31],#[35,35]⟩,some (some 29,true)⟩,⟨some 33,.pick (.tmp 29) (.tmp 32) (.const (.bool false)),none⟩,⟨some 0,.assign (.tmp 33),none⟩]) .ret)))
@[simp] theorem x47_s {C e s K} : type_of% (@X_at C e s K _ _ x47.eq_1) := X_at x47.eq_1
@[simp] def tr47_2 : MT := .op 0 (.op 1 (.op 4 (.br (.op 2 (.ck 4 (.br (.op 3 (.ck 4 (.br (.op 5 (.op 6 (.br (.op 7 (.op 8 (.op 9 (.op 10 (.op 11 (.op 12 (.br (.op 13 (.op 14 (.op 15 (.op 16 (.op 17 (.op 18 .fin)))))) (.op 14 (.op 13 (.op 15 (.op 16 (.op 17 (.op 18 .fin))))))))))))) (.br (.op 13 (.ck 6 (.br (.op 7 (.op 8 (.op 9 (.op 10 (.op 11 (.op 12 (.op 14 (.op 15 (.op 16 (.op 17 (.op 18 .fin))))))))))) (.op 14 (.ck 6 (.op 7 (.op 8 (.op 9 (.op 10 (.op 11 (.op 12 (.op 15 (.op 16 (.op 17 (.op 18 .fin))))))))))))))) (.op 14 (.ck 6 (.br (.op 7 (.op 8 (.op 9 (.op 10 (.op 11 (.op 12 (.op 13 (.op 15 (.op 16 (.op 17 (.op 18 .fin))))))))))) (.op 13 (.ck 6 (.op 7 (.op 8 (.op 9 (.op 10 (.op 11 (.op 12 (.op 15 (.op 16 (.op 17 (.op 18 .fin))))))))))))))))))) (.br (.op 13 (.ck 4 (.br (.op 5 (.op 6 (.br (.op 7 (.op 8 (.op 9 (.op 10 (.op 11 (.op 12 (.op 14 (.op 15 (.op 16 (.op 17 (.op 18 .fin))))))))))) (.op 14 (.ck 6 (.op 7 (.op 8 (.op 9 (.op 10 (.op 11 (.op 12 (.op 15 (.op 16 (.op 17 (.op 18 .fin))))))))))))))) (.op 14 (.ck 4 (.op 5 (.op 6 (.op 7 (.op 8 (.op 9 (.op 10 (.op 11 (.op 12 (.op 15 (.op 16 (.op 17 (.op 18 .fin))))))))))))))))) (.op 14 (.ck 4 (.br (.op 5 (.op 6 (.br (.op 7 (.op 8 (.op 9 (.op 10 (.op 11 (.op 12 (.op 13 (.op 15 (.op 16 (.op 17 (.op 18 .fin))))))))))) (.op 13 (.ck 6 (.op 7 (.op 8 (.op 9 (.op 10 (.op 11 (.op 12 (.op 15 (.op 16 (.op 17 (.op 18 .fin))))))))))))))) (.op 13 (.ck 4 (.op 5 (.op 6 (.op 7 (.op 8 (.op 9 (.op 10 (.op 11 (.op 12 (.op 15 (.op 16 (.op 17 (.op 18 .fin))))))))))))))))))))) (.br (.op 5 (.br (.op 3 (.op 6 (.br (.op 7 (.op 8 (.op 9 (.op 10 (.op 11 (.op 12 (.br (.op 13 (.op 14 (.op 15 (.op 16 (.op 17 (.op 18 .fin)))))) (.op 14 (.op 13 (.op 15 (.op 16 (.op 17 (.op 18 .fin))))))))))))) (.br (.op 13 (.ck 6 (.br (.op 7 (.op 8 (.op 9 (.op 10 (.op 11 (.op 12 (.op 14 (.op 15 (.op 16 (.op 17 (.op 18 .fin))))))))))) (.op 14 (.ck 6 (.op 7 (.op 8 (.op 9 (.op 10 (.op 11 (.op 12 (.op 15 (.op 16 (.op 17 (.op 18 .fin))))))))))))))) (.op 14 (.ck 6 (.br (.op 7 (.op 8 (.op 9 (.op 10 (.op 11 (.op 12 (.op 13 (.op 15 (.op 16 (.op 17 (.op 18 .fin))))))))))) (.op 13 (.ck 6 (.op 7 (.op 8 (.op 9 (.op 10 (.op 11 (.op 12 (.op 15 (.op 16 (.op 17 (.op 18 .fin))))))))))))))))))) (.br (.op 13 (.br (.op 3 (.op 6 (.br (.op 7 (.op 8 (.op 9 (.op 10 (.op 11 (.op 12 (.op 14 (.op 15 (.op 16 (.op 17 (.op 18 .fin))))))))))) (.op 14 (.ck 6 (.op 7 (.op 8 (.op 9 (.op 10 (.op 11 (.op 12 (.op 15 (.op 16 (.op 17 (.op 18 .fin))))))))))))))) (.op 14 (.op 3 (.op 6 (.op 7 (.op 8 (.op 9 (.op 10 (.op 11 (.op 12 (.op 15 (.op 16 (.op 17 (.op 18 .fin))))))))))))))) (.op 14 (.br (.op 3 (.op 6 (.br (.op 7 (.op 8 (.op 9 (.op 10 (.op 11 (.op 12 (.op 13 (.op 15 (.op 16 (.op 17 (.op 18 .fin))))))))))) (.op 13 (.ck 6 (.op 7 (.op 8 (.op 9 (.op 10 (.op 11 (.op 12 (.op 15 (.op 16 (.op 17 (.op 18 .fin))))))))))))))) (.op 13 (.op 3 (.op 6 (.op 7 (.op 8 (.op 9 (.op 10 (.op 11 (.op 12 (.op 15 (.op 16 (.op 17 (.op 18 .fin)))))))))))))))))) (.br (.op 13 (.ck 4 (.br (.op 3 (.ck 4 (.br (.op 5 (.op 6 (.br (.op 7 (.op 8 (.op 9 (.op 10 (.op 11 (.op 12 (.op 14 (.op 15 (.op 16 (.op 17 (.op 18 .fin))))))))))) (.op 14 (.ck 6 (.op 7 (.op 8 (.op 9 (.op 10 (.op 11 (.op 12 (.op 15 (.op 16 (.op 17 (.op 18 .fin))))))))))))))) (.op 14 (.ck 4 (.op 5 (.op 6 (.op 7 (.op 8 (.op 9 (.op 10 (.op 11 (.op 12 (.op 15 (.op 16 (.op 17 (.op 18 .fin))))))))))))))))) (.br (.op 5 (.br (.op 3 (.op 6 (.br (.op 7 (.op 8 (.op 9 (.op 10 (.op 11 (.op 12 (.op 14 (.op 15 (.op 16 (.op 17 (.op 18 .fin))))))))))) (.op 14 (.ck 6 (.op 7 (.op 8 (.op 9 (.op 10 (.op 11 (.op 12 (.op 15 (.op 16 (.op 17 (.op 18 .fin))))))))))))))) (.op 14 (.op 3 (.op 6 (.op 7 (.op 8 (.op 9 (.op 10 (.op 11 (.op 12 (.op 15 (.op 16 (.op 17 (.op 18 .fin))))))))))))))) (.op 14 (.ck 4 (.br (.op 3 (.ck 4 (.op 5 (.op 6 (.op 7 (.op 8 (.op 9 (.op 10 (.op 11 (.op 12 (.op 15 (.op 16 (.op 17 (.op 18 .fin)))))))))))))) (.op 5 (.op 3 (.op 6 (.op 7 (.op 8 (.op 9 (.op 10 (.op 11 (.op 12 (.op 15 (.op 16 (.op 17 (.op 18 .fin)))))))))))))))))))) (.op 14 (.ck 4 (.br (.op 3 (.ck 4 (.br (.op 5 (.op 6 (.br (.op 7 (.op 8 (.op 9 (.op 10 (.op 11 (.op 12 (.op 13 (.op 15 (.op 16 (.op 17 (.op 18 .fin))))))))))) (.op 13 (.ck 6 (.op 7 (.op 8 (.op 9 (.op 10 (.op 11 (.op 12 (.op 15 (.op 16 (.op 17 (.op 18 .fin))))))))))))))) (.op 13 (.ck 4 (.op 5 (.op 6 (.op 7 (.op 8 (.op 9 (.op 10 (.op 11 (.op 12 (.op 15 (.op 16 (.op 17 (.op 18 .fin))))))))))))))))) (.br (.op 5 (.br (.op 3 (.op 6 (.br (.op 7 (.op 8 (.op 9 (.op 10 (.op 11 (.op 12 (.op 13 (.op 15 (.op 16 (.op 17 (.op 18 .fin))))))))))) (.op 13 (.ck 6 (.op 7 (.op 8 (.op 9 (.op 10 (.op 11 (.op 12 (.op 15 (.op 16 (.op 17 (.op 18 .fin))))))))))))))) (.op 13 (.op 3 (.op 6 (.op 7 (.op 8 (.op 9 (.op 10 (.op 11 (.op 12 (.op 15 (.op 16 (.op 17 (.op 18 .fin))))))))))))))) (.op 13 (.ck 4 (.br (.op 3 (.ck 4 (.op 5 (.op 6 (.op 7 (.op 8 (.op 9 (.op 10 (.op 11 (.op 12 (.op 15 (.op 16 (.op 17 (.op 18 .fin)))))))))))))) (.op 5 (.op 3 (.op 6 (.op 7 (.op 8 (.op 9 (.op 10 (.op 11 (.op 12 (.op 15 (.op 16 (.op 17 (.op 18 .fin))))))))))))))))))))))))) (.br (.op 5 (.ck 0 (.ck 1 (.br (.op 2 (.br (.op 3 (.op 6 (.br (.op 7 (.op 8 (.op 9 (.op 10 (.op 11 (.op 12 (.br (.op 13 (.op 14 (.op 15 (.op 16 (.op 17 (.op 18 .fin)))))) (.op 14 (.op 13 (.op 15 (.op 16 (.op 17 (.op 18 .fin))))))))))))) (.br (.op 13 (.ck 6 (.br (.op 7 (.op 8 (.op 9 (.op 10 (.op 11 (.op 12 (.op 14 (.op 15 (.op 16 (.op 17 (.op 18 .fin))))))))))) (.op 14 (.ck 6 (.op 7 (.op 8 (.op 9 (.op 10 (.op 11 (.op 12 (.op 15 (.op 16 (.op 17 (.op 18 .fin))))))))))))))) (.op 14 (.ck 6 (.br (.op 7 (.op 8 (.op 9 (.op 10 (.op 11 (.op 12 (.op 13 (.op 15 (.op 16 (.op 17 (.op 18 .fin))))))))))) (.op 13 (.ck 6 (.op 7 (.op 8 (.op 9 (.op 10 (.op 11 (.op 12 (.op 15 (.op 16 (.op 17 (.op 18 .fin))))))))))))))))))) (.br (.op 13 (.br (.op 3 (.op 6 (.br (.op 7 (.op 8 (.op 9 (.op 10 (.op 11 (.op 12 (.op 14 (.op 15 (.op 16 (.op 17 (.op 18 .fin))))))))))) (.op 14 (.ck 6 (.op 7 (.op 8 (.op 9 (.op 10 (.op 11 (.op 12 (.op 15 (.op 16 (.op 17 (.op 18 .fin))))))))))))))) (.op 14 (.op 3 (.op 6 (.op 7 (.op 8 (.op 9 (.op 10 (.op 11 (.op 12 (.op 15 (.op 16 (.op 17 (.op 18 .fin))))))))))))))) (.op 14 (.br (.op 3 (.op 6 (.br (.op 7 (.op 8 (.op 9 (.op 10 (.op 11 (.op 12 (.op 13 (.op 15 (.op 16 (.op 17 (.op 18 .fin))))))))))) (.op 13 (.ck 6 (.op 7 (.op 8 (.op 9 (.op 10 (.op 11 (.op 12 (.op 15 (.op 16 (.op 17 (.op 18 .fin))))))))))))))) (.op 13 (.op 3 (.op 6 (.op 7 (.op 8 (.op 9 (.op 10 (.op 11 (.op 12 (.op 15 (.op 16 (.op 17 (.op 18 .fin)))))))))))))))))) (.br (.op 13 (.ck 0 (.ck 1 (.br (.op 2 (.br (.op 3 (.op 6 (.br (.op 7 (.op 8 (.op 9 (.op 10 (.op 11 (.op 12 (.op 14 (.op 15 (.op 16 (.op 17 (.op 18 .fin))))))))))) (.op 14 (.ck 6 (.op 7 (.op 8 (.op 9 (.op 10 (.op 11 (.op 12 (.op 15 (.op 16 (.op 17 (.op 18 .fin))))))))))))))) (.op 14 (.op 3 (.op 6 (.op 7 (.op 8 (.op 9 (.op 10 (.op 11 (.op 12 (.op 15 (.op 16 (.op 17 (.op 18 .fin))))))))))))))) (.op 14 (.ck 0 (.ck 1 (.op 2 (.op 3 (.op 6 (.op 7 (.op 8 (.op 9 (.op 10 (.op 11 (.op 12 (.op 15 (.op 16 (.op 17 (.op 18 .fin)))))))))))))))))))) (.op 14 (.ck 0 (.ck 1 (.br (.op 2 (.br (.op 3 (.op 6 (.br (.op 7 (.op 8 (.op 9 (.op 10 (.op 11 (.op 12 (.op 13 (.op 15 (.op 16 (.op 17 (.op 18 .fin))))))))))) (.op 13 (.ck 6 (.op 7 (.op 8 (.op 9 (.op 10 (.op 11 (.op 12 (.op 15 (.op 16 (.op 17 (.op 18 .fin))))))))))))))) (.op 13 (.op 3 (.op 6 (.op 7 (.op 8 (.op 9 (.op 10 (.op 11 (.op 12 (.op 15 (.op 16 (.op 17 (.op 18 .fin))))))))))))))) (.op 13 (.ck 0 (.ck 1 (.op 2 (.op 3 (.op 6 (.op 7 (.op 8 (.op 9 (.op 10 (.op 11 (.op 12 (.op 15 (.op 16 (.op 17 (.op 18 .fin))))))))))))))))))))))))) (.br (.op 13 (.ck 0 (.ck 1 (.ck 4 (.br (.op 2 (.ck 4 (.br (.op 3 (.ck 4 (.br (.op 5 (.op 6 (.br (.op 7 (.op 8 (.op 9 (.op 10 (.op 11 (.op 12 (.op 14 (.op 15 (.op 16 (.op 17 (.op 18 .fin))))))))))) (.op 14 (.ck 6 (.op 7 (.op 8 (.op 9 (.op 10 (.op 11 (.op 12 (.op 15 (.op 16 (.op 17 (.op 18 .fin))))))))))))))) (.op 14 (.ck 4 (.op 5 (.op 6 (.op 7 (.op 8 (.op 9 (.op 10 (.op 11 (.op 12 (.op 15 (.op 16 (.op 17 (.op 18 .fin))))))))))))))))) (.br (.op 5 (.br (.op 3 (.op 6 (.br (.op 7 (.op 8 (.op 9 (.op 10 (.op 11 (.op 12 (.op 14 (.op 15 (.op 16 (.op 17 (.op 18 .fin))))))))))) (.op 14 (.ck 6 (.op 7 (.op 8 (.op 9 (.op 10 (.op 11 (.op 12 (.op 15 (.op 16 (.op 17 (.op 18 .fin))))))))))))))) (.op 14 (.op 3 (.op 6 (.op 7 (.op 8 (.op 9 (.op 10 (.op 11 (.op 12 (.op 15 (.op 16 (.op 17 (.op 18 .fin))))))))))))))) (.op 14 (.ck 4 (.br (.op 3 (.ck 4 (.op 5 (.op 6 (.op 7 (.op 8 (.op 9 (.op 10 (.op 11 (.op 12 (.op 15 (.op 16 (.op 17 (.op 18 .fin)))))))))))))) (.op 5 (.op 3 (.op 6 (.op 7 (.op 8 (.op 9 (.op 10 (.op 11 (.op 12 (.op 15 (.op 16 (.op 17 (.op 18 .fin)))))))))))))))))))) (.br (.op 5 (.ck 0 (.ck 1 (.br (.op 2 (.br (.op 3 (.op 6 (.br (.op 7 (.op 8 (.op 9 (.op 10 (.op 11 (.op 12 (.op 14 (.op 15 (.op 16 (.op 17 (.op 18 .fin))))))))))) (.op 14 (.ck 6 (.op 7 (.op 8 (.op 9 (.op 10 (.op 11 (.op 12 (.op 15 (.op 16 (.op 17 (.op 18 .fin))))))))))))))) (.op 14 (.op 3 (.op 6 (.op 7 (.op 8 (.op 9 (.op 10 (.op 11 (.op 12 (.op 15 (.op 16 (.op 17 (.op 18 .fin))))))))))))))) (.op 14 (.ck 0 (.ck 1 (.op 2 (.op 3 (.op 6 (.op 7 (.op 8 (.op 9 (.op 10 (.op 11 (.op 12 (.op 15 (.op 16 (.op 17 (.op 18 .fin)))))))))))))))))))) (.op 14 (.ck 0 (.ck 1 (.ck 4 (.br (.op 2 (.ck 4 (.br (.op 3 (.ck 4 (.op 5 (.op 6 (.op 7 (.op 8 (.op 9 (.op 10 (.op 11 (.op 12 (.op 15 (.op 16 (.op 17 (.op 18 .fin)))))))))))))) (.op 5 (.op 3 (.op 6 (.op 7 (.op 8 (.op 9 (.op 10 (.op 11 (.op 12 (.op 15 (.op 16 (.op 17 (.op 18 .fin)))))))))))))))) (.op 5 (.ck 0 (.ck 1 (.op 2 (.op 3 (.op 6 (.op 7 (.op 8 (.op 9 (.op 10 (.op 11 (.op 12 (.op 15 (.op 16 (.op 17 (.op 18 .fin))))))))))))))))))))))))))) (.op 14 (.ck 0 (.ck 1 (.ck 4 (.br (.op 2 (.ck 4 (.br (.op 3 (.ck 4 (.br (.op 5 (.op 6 (.br (.op 7 (.op 8 (.op 9 (.op 10 (.op 11 (.op 12 (.op 13 (.op 15 (.op 16 (.op 17 (.op 18 .fin))))))))))) (.op 13 (.ck 6 (.op 7 (.op 8 (.op 9 (.op 10 (.op 11 (.op 12 (.op 15 (.op 16 (.op 17 (.op 18 .fin))))))))))))))) (.op 13 (.ck 4 (.op 5 (.op 6 (.op 7 (.op 8 (.op 9 (.op 10 (.op 11 (.op 12 (.op 15 (.op 16 (.op 17 (.op 18 .fin))))))))))))))))) (.br (.op 5 (.br (.op 3 (.op 6 (.br (.op 7 (.op 8 (.op 9 (.op 10 (.op 11 (.op 12 (.op 13 (.op 15 (.op 16 (.op 17 (.op 18 .fin))))))))))) (.op 13 (.ck 6 (.op 7 (.op 8 (.op 9 (.op 10 (.op 11 (.op 12 (.op 15 (.op 16 (.op 17 (.op 18 .fin))))))))))))))) (.op 13 (.op 3 (.op 6 (.op 7 (.op 8 (.op 9 (.op 10 (.op 11 (.op 12 (.op 15 (.op 16 (.op 17 (.op 18 .fin))))))))))))))) (.op 13 (.ck 4 (.br (.op 3 (.ck 4 (.op 5 (.op 6 (.op 7 (.op 8 (.op 9 (.op 10 (.op 11 (.op 12 (.op 15 (.op 16 (.op 17 (.op 18 .fin)))))))))))))) (.op 5 (.op 3 (.op 6 (.op 7 (.op 8 (.op 9 (.op 10 (.op 11 (.op 12 (.op 15 (.op 16 (.op 17 (.op 18 .fin)))))))))))))))))))) (.br (.op 5 (.ck 0 (.ck 1 (.br (.op 2 (.br (.op 3 (.op 6 (.br (.op 7 (.op 8 (.op 9 (.op 10 (.op 11 (.op 12 (.op 13 (.op 15 (.op 16 (.op 17 (.op 18 .fin))))))))))) (.op 13 (.ck 6 (.op 7 (.op 8 (.op 9 (.op 10 (.op 11 (.op 12 (.op 15 (.op 16 (.op 17 (.op 18 .fin))))))))))))))) (.op 13 (.op 3 (.op 6 (.op 7 (.op 8 (.op 9 (.op 10 (.op 11 (.op 12 (.op 15 (.op 16 (.op 17 (.op 18 .fin))))))))))))))) (.op 13 (.ck 0 (.ck 1 (.op 2 (.op 3 (.op 6 (.op 7 (.op 8 (.op 9 (.op 10 (.op 11 (.op 12 (.op 15 (.op 16 (.op 17 (.op 18 .fin)))))))))))))))))))) (.op 13 (.ck 0 (.ck 1 (.ck 4 (.br (.op 2 (.ck 4 (.br (.op 3 (.ck 4 (.op 5 (.op 6 (.op 7 (.op 8 (.op 9 (.op 10 (.op 11 (.op 12 (.op 15 (.op 16 (.op 17 (.op 18 .fin)))))))))))))) (.op 5 (.op 3 (.op 6 (.op 7 (.op 8 (.op 9 (.op 10 (.op 11 (.op 12 (.op 15 (.op 16 (.op 17 (.op 18 .fin)))))))))))))))) (.op 5 (.ck 0 (.ck 1 (.op 2 (.op 3 (.op 6 (.op 7 (.op 8 (.op 9 (.op 10 (.op 11 (.op 12 (.op 15 (.op 16 (.op 17 (.op 18 .fin))))))))))))))))))))))))))))))))
def an47 : Ann := ⟨[(2, .treez tr47_2)], [], []⟩
@[simp] theorem an47_a : an47.clsOf 2 = .treez tr47_2 ∧ an47.frzOf 2 = [] := ⟨rfl, rfl⟩
theorem fi47 : FI Try.prog 47 (cxA an47) x47 [.tmp 0] Try.f47 := fiA Try.func47 mixed
theorem classicBegun_law : CallOK Try.prog 47 [] [] (.bool true) [] := by
 have h1 := named_p
 have h2 := named_q
 have h3 := both_pq
 have h4 := Prove_open [orF] [pF] begun_pl.2.2 begun_pl.1 begun_pl.2.1 (by decide) begun_prov.1
 rw [begun_prov.2] at h4
 have hc : cntC [⟨#[113]⟩] = [⟨#[113]⟩] := by unfold cntC; rw [comp_ins]; kernel_rfl
 unfold cntV at h4
 dsimp only at h4
 rw [hc] at h4
 have h5 := Texts_ref [⟨#[113]⟩] [⟨#[113]⟩]
 simp only [List.map_cons, List.map_nil, strRow, Option.isSome_some, if_true, decide_true] at h4 h5
 unfold noPf at h4
 refine fi47.op ?_
 ((refine Sg.h ?_); try repeat' ((first | (with_reducible first | refine brA ?_ | refine brE fun _ => ?_ | (refine spl ⟨?_, ?_⟩ <;> intro _)) | refine clo h1 ?_ | refine clo h2 ?_ | refine clo h3 ?_ | refine clo h4 ?_ | refine clo h5 ?_) <;> ((try simp -implicitDefEqProofs); (try simp -implicitDefEqProofs (disch := first | assumption | (try simp only [lens]); omega -splitDisjunctions)))))
 repeat' (first | (refine And.intro ?_ ?_) | ((first | refine clo h3 ?_ | refine clo h4 ?_ | refine clo h2 ?_ | refine clo h1 ?_ | refine clo h5 ?_); ((refine Sg.h ?_); try repeat' ((first | (with_reducible first | refine brA ?_ | refine brE fun _ => ?_ | (refine spl ⟨?_, ?_⟩ <;> intro _)) | refine clo h1 ?_ | refine clo h2 ?_ | refine clo h3 ?_ | refine clo h4 ?_ | refine clo h5 ?_) <;> ((try simp -implicitDefEqProofs); (try simp -implicitDefEqProofs (disch := first | assumption | (try simp only [lens]); omega -splitDisjunctions)))))))
 all_goals refine CL.giv [4] ?_
 all_goals (((refine Sg.h ?_); try repeat' ((first | (with_reducible first | refine brA ?_ | refine brE fun _ => ?_ | (refine spl ⟨?_, ?_⟩ <;> intro _)) | refine clo h5 ?_) <;> ((try simp -implicitDefEqProofs); (try simp -implicitDefEqProofs (disch := first | assumption | (try simp only [lens]); omega -splitDisjunctions))))))
end Go.Proofs.Ytnoklmapofogeaa
namespace Go.Proofs.Ytnoklmapofogeaa
open Go Go.Pv
theorem sequent_zero {l r : List Fm} (h : (sequentF l r).1 = 0) : sequentF l r = (0, 0) := by
 obtain ⟨h1, h2, h3⟩ := sequent_all h
 have key : ∀ (L : List Fm) (i : Nat), (∀ f ∈ L, (plainF f).1 = 0) → seqGo L i = (0, 0) := by
  intro L
  induction L with
  | nil => intro i _; rfl
  | cons a t ih => intro i hL; rw [seqGo, if_neg (by simpa using hL a (.head _))]; exact ih _ fun f hf => hL f (.tail _ hf)
 unfold sequentF
 rw [if_neg (by omega)]
 exact key _ _ fun f hf => (List.mem_append.1 hf).elim (h2 f) (h3 f)
theorem prov_ok {l r : List Fm} (h : (sequentF l r).1 = 0) {p : Pf} (hp : (provF l r).ok = some p) : p.l = l ∧ p.r = r ∧ checkF false p = (0, 0) ∧ cutsP p = 0 ∧ vastP p 0 = false := by
 obtain ⟨h1, h2, h3⟩ := sequent_all h
 have g := grow_gr _ l r 1 0 p (fun f hf => ((plainF_iff f).1 (h2 f hf)).1) (fun f hf => ((plainF_iff f).1 (h3 f hf)).1) hp
 obtain ⟨⟨e1, e2⟩, e3⟩ := gr_look g h2 h3
 have hv : ∀ f, Pz f → Pz f ∧ vastB f 0 = false := fun f hf => ⟨hf, by
  obtain ⟨a1, a2⟩ := (plainF_iff f).1 hf
  exact vast_small f 0 a1.1 (by omega)⟩
 refine ⟨e1, e2, ?_, gr_cuts g, gr_vast g (fun f hf => hv f (h2 f hf)) (fun f hf => hv f (h3 f hf)) 0 (by decide)⟩
 unfold checkF
 exact congrArg Prod.snd e3
theorem prov_true {l r : List Fm} (h : (sequentF l r).1 = 0) {p : Pf} (hp : (provF l r).ok = some p) (v : ByteArray → Bool) : SqT v l r := by
 obtain ⟨e1, e2, e3, _⟩ := prov_ok h hp
 have := fine_true (Fine.of_look p 0 1 (by unfold checkF at e3; rw [e3])) v
 rwa [e1, e2] at this
theorem prov_open {l r : List Fm} (h : (sequentF l r).1 = 0) {V : List ByteArray} (hc : (provF l r).cnt = some V) : (∀ x ∈ V, isNameB x = true) ∧ V.length ≤ 60 ∧ Ct (fun x => memB x (cntC V)) l r := by
 obtain ⟨h1, h2, h3⟩ := sequent_all h
 obtain ⟨a1, a2, a3⟩ := grow_open _ l r 1 0 V (fun f hf => ((plainF_iff f).1 (h2 f hf)).1) (fun f hf => ((plainF_iff f).1 (h3 f hf)).1) hc
 have e : (fun x => memB x (cntC V)) = fun x => memB x V := by
  funext x
  rw [Bool.eq_iff_iff, memB_iff, memB_iff]
  exact (comp_ok V).2 x
 rw [e]
 exact ⟨a1, a2, a3⟩
end Go.Proofs.Ytnoklmapofogeaa
namespace Go.Proofs.Ytnoklmapofogeaa
open Go Go.Pv
def andsL (l : List Fm) : Fm := l.foldl (fun a f => .mk 5 ⟨#[]⟩ [a, f]) (.mk 2 ⟨#[]⟩ [])
def orsL (l : List Fm) : Fm := l.foldl (fun a f => .mk 6 ⟨#[]⟩ [a, f]) (.mk 3 ⟨#[]⟩ [])
def asF (l r : List Fm) : Fm := .mk 7 ⟨#[]⟩ [andsL l, orsL r]
theorem andsL_take {l : List Fm} {i : Nat} (h : i < l.length) : andsL (l.take (i + 1)) = .mk 5 ⟨#[]⟩ [andsL (l.take i), l[i]] := by
 unfold andsL; rw [List.take_succ_eq_append_getElem h, List.foldl_append]; rfl
theorem orsL_take {l : List Fm} {i : Nat} (h : i < l.length) : orsL (l.take (i + 1)) = .mk 6 ⟨#[]⟩ [orsL (l.take i), l[i]] := by
 unfold orsL; rw [List.take_succ_eq_append_getElem h, List.foldl_append]; rfl
def x18_T3 : XC := .seq (.reg [⟨some 39,.load 24 (.tmp 3),none⟩,⟨some 40,.load 24 (.tmp 5),none⟩,⟨some 41,.buildSlice 22 2 #[(0,.tmp 39),(1,.tmp 40)],none⟩,⟨some 42,.build 24 #[(0,.const (.int .i64 7)),(2,.tmp 41)],none⟩,⟨none,.store 24 (.tmp 2) (.tmp 42),none⟩]) .ret
def x18_L2 : XC := .seq (.seq (.reg [⟨some 24,.move (.tmp 6),none⟩,⟨some 25,.fieldAddr 26 (.tmp 1) 1,none⟩,⟨some 26,.load 22 (.tmp 25),none⟩,⟨some 27,.call ⟨.builtin .len,#[.tmp 26],#[22]⟩,none⟩,⟨some 28,.binOp .lss 3 (.tmp 24) (.tmp 27) 3,none⟩]) (.cond (.tmp 28) .skip (.exit 2))) (.seq (.block 3 (.drawn 10 [⟨some 31,.load 24 (.tmp 5),none⟩,⟨some 32,.fieldAddr 26 (.tmp 1) 1,none⟩,⟨some 33,.load 22 (.tmp 32),none⟩,⟨some 34,.move (.tmp 6),none⟩,⟨some 35,.indexAddr 22 (.tmp 33) (.tmp 34),none⟩,⟨some 36,.load 24 (.tmp 35),none⟩,⟨some 37,.buildSlice 22 2 #[(0,.tmp 31),(1,.tmp 36)],none⟩,⟨some 38,.build 24 #[(0,.const (.int .i64 6)),(2,.tmp 37)],none⟩,⟨none,.store 24 (.tmp 5) (.tmp 38),none⟩])) (.reg [⟨some 29,.move (.tmp 6),none⟩,⟨some 30,.binOp .add 3 (.tmp 29) (.const (.int .i64 1)) 3,none⟩,⟨some 6,.assign (.tmp 30),none⟩]))
def x18_T1 : XC := .seq (.reg [⟨some 23,.build 24 #[(0,.const (.int .i64 3))],none⟩,⟨some 5,.alloc 24,none⟩,⟨none,.store 24 (.tmp 5) (.tmp 23),none⟩]) (.seq (.seq (.reg [⟨some 6,.assign (.const (.int .i64 0)),none⟩]) (.bloop 2 x18_L2)) (x18_T3))
def x18_L0 : XC := .seq (.seq (.reg [⟨some 8,.move (.tmp 4),none⟩,⟨some 9,.fieldAddr 26 (.tmp 1) 0,none⟩,⟨some 10,.load 22 (.tmp 9),none⟩,⟨some 11,.call ⟨.builtin .len,#[.tmp 10],#[22]⟩,none⟩,⟨some 12,.binOp .lss 3 (.tmp 8) (.tmp 11) 3,none⟩]) (.cond (.tmp 12) .skip (.exit 0))) (.seq (.block 1 (.drawn 5 [⟨some 15,.load 24 (.tmp 3),none⟩,⟨some 16,.fieldAddr 26 (.tmp 1) 0,none⟩,⟨some 17,.load 22 (.tmp 16),none⟩,⟨some 18,.move (.tmp 4),none⟩,⟨some 19,.indexAddr 22 (.tmp 17) (.tmp 18),none⟩,⟨some 20,.load 24 (.tmp 19),none⟩,⟨some 21,.buildSlice 22 2 #[(0,.tmp 15),(1,.tmp 20)],none⟩,⟨some 22,.build 24 #[(0,.const (.int .i64 5)),(2,.tmp 21)],none⟩,⟨none,.store 24 (.tmp 3) (.tmp 22),none⟩])) (.reg [⟨some 13,.move (.tmp 4),none⟩,⟨some 14,.binOp .add 3 (.tmp 13) (.const (.int .i64 1)) 3,none⟩,⟨some 4,.assign (.tmp 14),none⟩]))
def x18 : XC := .seq (.reg [⟨some 1,.box 26 (.tmp 0),none⟩,⟨some 2,.alloc 24,none⟩]) (.seq (.reg [⟨some 7,.build 24 #[(0,.const (.int .i64 2))],none⟩,⟨some 3,.alloc 24,none⟩,⟨none,.store 24 (.tmp 3) (.tmp 7),none⟩]) (.seq (.seq (.reg [⟨some 4,.assign (.const (.int .i64 0)),none⟩]) (.bloop 0 x18_L0)) (x18_T1)))
@[simp] theorem x18_s {C e s K} : type_of% (@X_at C e s K _ _ x18_T3.eq_1) ∧ type_of% (@X_at C e s K _ _ x18_L2.eq_1) ∧ type_of% (@X_at C e s K _ _ x18_T1.eq_1) ∧ type_of% (@X_at C e s K _ _ x18_L0.eq_1) ∧ type_of% (@X_at C e s K _ _ x18.eq_1) := ⟨X_at x18_T3.eq_1, X_at x18_L2.eq_1, X_at x18_T1.eq_1, X_at x18_L0.eq_1, X_at x18.eq_1⟩
def an18 : Ann := ⟨[(5, .mix 6), (10, .mix 6)], [(2, [(5, some 2, 3), (5, some 5003, 0)], [1, 2, 3, 5, 6], [2, 3, 5]), (0, [(3, some 2, 3), (3, some 5003, 0)], [1, 2, 3, 4], [1, 2, 3])], []⟩
@[simp] theorem an18_a : an18.clsOf 5 = .mix 6 ∧ an18.clsOf 10 = .mix 6 ∧ an18.frzOf 5 = [] ∧ an18.frzOf 10 = [] ∧ an18.loopOf 2 = ([(5, some 2, 3), (5, some 5003, 0)], [1, 2, 3, 5, 6], [2, 3, 5]) ∧ an18.loopOf 0 = ([(3, some 2, 3), (3, some 5003, 0)], [1, 2, 3, 4], [1, 2, 3]) := ⟨rfl, rfl, rfl, rfl, rfl, rfl⟩
theorem fi18 : FI Try.prog 18 (cxA an18) x18 [.cell 2 24] Try.f18 := fiA Try.func18 mixed
theorem As_ref (l r : List Fm) : CallOK Try.prog 18 [.agg [.list (l.map frm), .list (r.map frm)]] [] (.agg (frm (asF l r))) [] := by
 refine fi18.op ?_
 rw [frm_eq (asF l r)]
 unfold asF
 ((refine Sg.h ?_); try repeat' ((first | (with_reducible first | refine brA ?_ | refine brE fun _ => ?_ | (refine spl ⟨?_, ?_⟩ <;> intro _))) <;> ((try simp -implicitDefEqProofs); (try simp -implicitDefEqProofs (disch := first | assumption | (try simp only [lens]); omega -splitDisjunctions)))))
 refine W_of fun Q hQ => ?_
 have main : ∀ n i, i + n = l.length → Q [(1, .ptr 0 0 0), (2, .ptr 1 0 0), (3, .ptr 2 0 0), (4, .int .i64 (i : Int))] [.rows 2 [[.list (l.map frm), .list (r.map frm)]], .rows 3 [[.int .i64 0, .str ⟨#[]⟩, .nilsl]], .rows 3 [frm (andsL (l.take i))]] := by
  intro n
  induction n with
  | zero =>
   intro i hi
   obtain rfl : i = l.length := by omega
   rw [List.take_length]
   generalize andsL l = A at *
   apply hQ
   clear hQ
   ((refine Sg.h ?_); try repeat' ((first | (with_reducible first | refine brA ?_ | refine brE fun _ => ?_ | (refine spl ⟨?_, ?_⟩ <;> intro _))) <;> ((try simp -implicitDefEqProofs); (try simp -implicitDefEqProofs (disch := first | assumption | (try simp only [lens]); omega -splitDisjunctions)))))
   refine W_of fun Q hQ => ?_
   have main2 : ∀ n i, i + n = r.length → Q [(1, .ptr 0 0 0), (2, .ptr 1 0 0), (3, .ptr 2 0 0), (5, .ptr 3 0 0), (6, .int .i64 (i : Int))] [.rows 2 [[.list (l.map frm), .list (r.map frm)]], .rows 3 [[.int .i64 0, .str ⟨#[]⟩, .nilsl]], .rows 3 [frm A], .rows 3 [frm (orsL (r.take i))]] := by
    intro n
    induction n with
    | zero =>
     intro i hi
     obtain rfl : i = r.length := by omega
     rw [List.take_length]
     generalize orsL r = B at *
     apply hQ
     clear hQ
     ((refine Sg.h ?_); try repeat' ((first | (with_reducible first | refine brA ?_ | refine brE fun _ => ?_ | (refine spl ⟨?_, ?_⟩ <;> intro _))) <;> ((try simp -implicitDefEqProofs); (try simp -implicitDefEqProofs (disch := first | assumption | (try simp only [lens]); omega -splitDisjunctions)))))
    | succ n ih =>
     intro i hi
     have hil : i < r.length := by omega
     have ih := ih (i + 1) (by omega)
     rw [orsL_take hil] at ih
     generalize orsL (r.take i) = B at *
     apply hQ
     clear hQ
     rw [frm_eq (Fm.mk _ _ _)] at ih
     ((refine Sg.h ?_); try repeat' ((first | (with_reducible first | refine brA ?_ | refine brE fun _ => ?_ | (refine spl ⟨?_, ?_⟩ <;> intro _))) <;> ((try simp -implicitDefEqProofs [hil]); (try simp -implicitDefEqProofs (disch := first | assumption | (try simp only [lens]); omega -splitDisjunctions) [hil]))))
     all_goals first | exact ih | (refine at2 ih ?_ ?_ <;> simp; done) | (exfalso; first | omega | (simp_all; done) | (simp_all; omega))
   all_goals first | exact main2 _ 0 (Nat.zero_add _) | (refine at2 main2 _ 0 (Nat.zero_add _) ?_ ?_ <;> simp; done) | (exfalso; first | omega | (simp_all; done) | (simp_all; omega))
  | succ n ih =>
   intro i hi
   have hil : i < l.length := by omega
   have ih := ih (i + 1) (by omega)
   rw [andsL_take hil] at ih
   generalize andsL (l.take i) = A at *
   apply hQ
   clear hQ
   rw [frm_eq (Fm.mk _ _ _)] at ih
   ((refine Sg.h ?_); try repeat' ((first | (with_reducible first | refine brA ?_ | refine brE fun _ => ?_ | (refine spl ⟨?_, ?_⟩ <;> intro _))) <;> ((try simp -implicitDefEqProofs [hil]); (try simp -implicitDefEqProofs (disch := first | assumption | (try simp only [lens]); omega -splitDisjunctions) [hil]))))
   all_goals first | exact ih | (refine at2 ih ?_ ?_ <;> simp; done) | (exfalso; first | omega | (simp_all; done) | (simp_all; omega))
 all_goals first | exact main _ 0 (Nat.zero_add _) | (refine at2 main _ 0 (Nat.zero_add _) ?_ ?_ <;> simp; done) | (exfalso; first | omega | (simp_all; done) | (simp_all; omega))
theorem shl_two (i : Nat) (hi : i ≤ 20) : shlI .i64 1 (i : Int) = ((2 ^ i : Nat) : Int) := by
 have h0 : shlI .i64 1 (i : Int) = IntKind.i64.wrap (1 * 2 ^ (min i 64)) := rfl
 have h : 2 ^ i ≤ 2 ^ 20 := Nat.pow_le_pow_right (by decide) hi
 rw [h0, Nat.min_eq_left (by omega), Int.one_mul, show ((2 : Int) ^ i) = ((2 ^ i : Nat) : Int) by simp]
 generalize 2 ^ i = x at h ⊢
 rw [wrap64 (by omega) (by omega)]
def tautB (f : Fm) (ns : List ByteArray) : Bool := (List.range (2 ^ ns.length)).all fun k => tv (fun x => memB x (rowL ns k)) f
theorem range_drop_cons {n i : Nat} (h : i < n) : (List.range n).drop i = i :: (List.range n).drop (i + 1) := by
 rw [List.drop_eq_getElem_cons (by simpa using h), List.getElem_range]
def x63_L0 : XC := .seq (.seq (.reg [⟨some 8,.move (.tmp 4),none⟩,⟨some 9,.move (.tmp 3),none⟩,⟨some 10,.call ⟨.builtin .len,#[.tmp 9],#[35]⟩,none⟩,⟨some 11,.binOp .shl 3 (.const (.int .i64 1)) (.tmp 10) 3,none⟩,⟨some 12,.binOp .lss 3 (.tmp 8) (.tmp 11) 3,none⟩]) (.cond (.tmp 12) .skip (.exit 0))) (.seq (.block 1 (.seq (.drawn 5 [⟨some 15,.load 24 (.tmp 1),none⟩,⟨some 16,.move (.tmp 3),none⟩,⟨some 17,.move (.tmp 4),none⟩,⟨some 18,.call ⟨.value (.func 43),#[.tmp 16,.tmp 17],#[35,3]⟩,none⟩,⟨some 19,.call ⟨.value (.func 44),#[.tmp 15,.tmp 18],#[24,35]⟩,none⟩,⟨some 20,.unOp .not 4 (.tmp 19),none⟩]) (.cond (.tmp 20) (.seq (.reg [⟨some 2,.assign (.const (.bool false)),none⟩]) .ret) .skip))) (.reg [⟨some 13,.move (.tmp 4),none⟩,⟨some 14,.binOp .add 3 (.tmp 13) (.const (.int .i64 1)) 3,none⟩,⟨some 4,.assign (.tmp 14),none⟩]))
def x63 : XC := .seq (.reg [⟨some 1,.box 24 (.tmp 0),none⟩,⟨some 2,.assign (.const (.bool false)),none⟩]) (.seq (.reg [⟨some 5,.load 24 (.tmp 1),none⟩,⟨some 6,.buildSlice 22 1 #[(0,.tmp 5)],none⟩,⟨some 7,.call ⟨.value (.func 17),#[.tmp 6],#[22]⟩,none⟩,⟨some 3,.assign (.tmp 7),none⟩]) (.seq (.seq (.reg [⟨some 4,.assign (.const (.int .i64 0)),none⟩]) (.bloop 0 x63_L0)) (.seq (.reg [⟨some 2,.assign (.const (.bool true)),none⟩]) .ret)))
@[simp] theorem x63_s {C e s K} : type_of% (@X_at C e s K _ _ x63_L0.eq_1) ∧ type_of% (@X_at C e s K _ _ x63.eq_1) := ⟨X_at x63_L0.eq_1, X_at x63.eq_1⟩
def an63 : Ann := ⟨[(5, .mix 4)], [(0, [], [1, 3, 4], [2])], []⟩
@[simp] theorem an63_a : an63.clsOf 5 = .mix 4 ∧ an63.frzOf 5 = [] ∧ an63.loopOf 0 = ([], [1, 3, 4], [2]) := ⟨rfl, rfl, rfl⟩
theorem fi63 : FI Try.prog 63 (cxA an63) x63 [.tmp 2] Try.f63 := fiA Try.func63 mixed
theorem Tautology_ref (f : Fm) (hf : Pl f) (ns : List ByteArray) (hns : ns.length ≤ 20) (hn : (varsW [f]).foldl insR [] = ns) : CallOK Try.prog 63 [.agg (frm f)] [] (.bool (tautB f ns)) [] := by
 have h1 := NamesIn_ref [f] (by simp)
 rw [hn] at h1
 generalize hV : tautB f ns = V
 have hsh := shl_two ns.length hns
 unfold tautB at hV
 have hp : 2 ^ ns.length ≤ 1048576 := by
  have := Nat.pow_le_pow_right (n := 2) (by decide) hns
  simpa using this
 generalize 2 ^ ns.length = N at *
 refine fi63.op ?_
 ((refine Sg.h ?_); try repeat' ((first | (with_reducible first | refine brA ?_ | refine brE fun _ => ?_ | (refine spl ⟨?_, ?_⟩ <;> intro _))) <;> ((try simp -implicitDefEqProofs); (try simp -implicitDefEqProofs (disch := first | assumption | (try simp only [lens]); omega -splitDisjunctions)))))
 refine CL.giv [1] ?_
 ((refine Sg.h ?_); try repeat' ((first | (with_reducible first | refine brA ?_ | refine brE fun _ => ?_ | (refine spl ⟨?_, ?_⟩ <;> intro _)) | refine clo h1 ?_) <;> ((try simp -implicitDefEqProofs); (try simp -implicitDefEqProofs (disch := first | assumption | (try simp only [lens]); omega -splitDisjunctions)))))
 refine W_of fun Q hQ => ?_
 have main : ∀ n i, i + n = N → (((List.range N).drop i).all fun k => tv (fun x => memB x (rowL ns k)) f) = V → Q [(1, .ptr 0 0 0), (3, .list (ns.map strRow)), (4, .int .i64 (i : Int))] [.rows 3 [frm f]] := by
  intro n
  induction n with
  | zero =>
   intro i hi he
   rw [List.drop_of_length_le (by simp; omega), List.all_nil] at he
   apply hQ
   clear hQ
   subst he
   ((refine Sg.h ?_); try repeat' ((first | (with_reducible first | refine brA ?_ | refine brE fun _ => ?_ | (refine spl ⟨?_, ?_⟩ <;> intro _))) <;> ((try simp -implicitDefEqProofs [hsh]); (try simp -implicitDefEqProofs (disch := first | assumption | (try simp only [lens]); omega -splitDisjunctions) [hsh]))))
  | succ n ih =>
   intro i hi he
   have ih := ih (i + 1) (by omega)
   rw [range_drop_cons (by omega), List.all_cons] at he
   have h2 := Row_ref ns (by omega) i (by omega)
   have h3 := True_ref (rowL ns i) f hf
   generalize hR : rowL ns i = R at *
   apply hQ
   clear hQ
   cases ht : tv (fun x => memB x R) f with
   | false =>
    rw [ht] at h3 he
    rw [Bool.false_and] at he
    subst he
    ((refine Sg.h ?_); try repeat' ((first | (with_reducible first | refine brA ?_ | refine brE fun _ => ?_ | (refine spl ⟨?_, ?_⟩ <;> intro _)) | refine clo h2 ?_ | refine clo h3 ?_) <;> ((try simp -implicitDefEqProofs [hsh]); (try simp -implicitDefEqProofs (disch := first | assumption | (try simp only [lens]); omega -splitDisjunctions) [hsh]))))
   | true =>
    rw [ht] at h3 he
    rw [Bool.true_and] at he
    have ih := ih he
    ((refine Sg.h ?_); try repeat' ((first | (with_reducible first | refine brA ?_ | refine brE fun _ => ?_ | (refine spl ⟨?_, ?_⟩ <;> intro _)) | refine clo h2 ?_ | refine clo h3 ?_) <;> ((try simp -implicitDefEqProofs [hsh]); (try simp -implicitDefEqProofs (disch := first | assumption | (try simp only [lens]); omega -splitDisjunctions) [hsh]))))
    all_goals first | exact ih | (refine at2 ih ?_ ?_ <;> simp; done) | (exfalso; first | omega | (simp_all; done) | (simp_all; omega))
 all_goals first | exact main _ 0 (Nat.zero_add _) (by simpa using hV) | (refine at2 main _ 0 (Nat.zero_add _) (by simpa using hV) ?_ ?_ <;> simp; done) | (exfalso; first | omega | (simp_all; done) | (simp_all; omega))
def x19 : XC := .seq (.reg [⟨some 1,.box 26 (.tmp 0),none⟩,⟨some 2,.assign (.const (.bool false)),none⟩]) (.seq (.reg [⟨some 3,.load 26 (.tmp 1),none⟩,⟨some 4,.call ⟨.value (.func 18),#[.tmp 3],#[26]⟩,none⟩,⟨some 5,.call ⟨.value (.func 63),#[.tmp 4],#[24]⟩,none⟩,⟨some 2,.assign (.tmp 5),none⟩]) .ret)
@[simp] theorem x19_s {C e s K} : type_of% (@X_at C e s K _ _ x19.eq_1) := X_at x19.eq_1
def an19 : Ann := ⟨[], [], []⟩
theorem fi19 : FI Try.prog 19 (cxA an19) x19 [.tmp 2] Try.f19 := fiA Try.func19 mixed
theorem InAll_ref (l r : List Fm) (hf : Pl (asF l r)) (ns : List ByteArray) (hns : ns.length ≤ 20) (hn : (varsW [asF l r]).foldl insR [] = ns) : CallOK Try.prog 19 [.agg [.list (l.map frm), .list (r.map frm)]] [] (.bool (tautB (asF l r) ns)) [] := by
 have h1 := As_ref l r
 have h2 := Tautology_ref _ hf ns hns hn
 refine fi19.op ?_
 generalize asF l r = A at *
 ((refine Sg.h ?_); try repeat' ((first | (with_reducible first | refine brA ?_ | refine brE fun _ => ?_ | (refine spl ⟨?_, ?_⟩ <;> intro _)) | refine clo h1 ?_ | refine clo h2 ?_) <;> ((try simp -implicitDefEqProofs); (try simp -implicitDefEqProofs (disch := first | assumption | (try simp only [lens]); omega -splitDisjunctions)))))
end Go.Proofs.Ytnoklmapofogeaa
namespace Go.Proofs.Ytnoklmapofogeaa
open Go Go.Pv
theorem plOf {k : Int} {nm : ByteArray} {l : List Fm} (h : okN (.mk k nm l)) (hk : k ≤ 7) (hl : ∀ g ∈ l, Pl g) : Pl (.mk k nm l) := by
 have key : ∀ x ∈ pre (.mk k nm l), okN x ∧ x.kind ≤ 7 := by
  intro x hx
  rw [pre_eq] at hx
  rcases List.mem_cons.1 hx with rfl | hx
  ·exact ⟨h, hk⟩
  ·have : ∀ l : List Fm, (∀ g ∈ l, Pl g) → x ∈ pres l → okN x ∧ x.kind ≤ 7 := by
    intro l
    induction l with
    | nil => intro _ hx; rw [pres_nil] at hx; cases hx
    | cons a r ih =>
     intro hl hx
     rw [pres_cons] at hx
     rcases List.mem_append.1 hx with hx | hx
     ·exact ⟨(hl a (.head _)).1 x hx, (hl a (.head _)).2 x hx⟩
     ·exact ih (fun g hg => hl g (.tail _ hg)) hx
   exact this l hl hx
 exact ⟨fun x hx => (key x hx).1, fun x hx => (key x hx).2⟩
theorem andsL_ok (l : List Fm) (h : ∀ f ∈ l, Pl f) : Pl (andsL l) ∧ ∀ v, tv v (andsL l) = l.all (tv v) := by
 have key : ∀ (l : List Fm) (a : Fm), (∀ f ∈ l, Pl f) → Pl a → Pl (l.foldl (fun a f => .mk 5 ⟨#[]⟩ [a, f]) a) ∧ ∀ v, tv v (l.foldl (fun a f => .mk 5 ⟨#[]⟩ [a, f]) a) = (tv v a && l.all (tv v)) := by
  intro l
  induction l with
  | nil => intro a _ ha; exact ⟨ha, fun v => by simp⟩
  | cons f r ih =>
   intro a hl ha
   obtain ⟨h1, h2⟩ := ih (.mk 5 ⟨#[]⟩ [a, f]) (fun f hf => hl f (.tail _ hf)) (plOf (by simp [okN, kidsN]) (by decide) (by
    intro g hg
    rcases List.mem_cons.1 hg with rfl | hg
    ·exact ha
    ·rw [List.mem_singleton.1 hg]; exact hl f (.head _)))
   refine ⟨h1, fun v => ?_⟩
   rw [List.foldl_cons, h2, tv_5, List.all_cons, Bool.and_assoc]
 obtain ⟨h1, h2⟩ := key l (.mk 2 ⟨#[]⟩ []) h (plOf (by simp [okN, kidsN]) (by decide) (by simp))
 exact ⟨h1, fun v => by unfold andsL; rw [h2, tv_2, Bool.true_and]⟩
theorem orsL_ok (l : List Fm) (h : ∀ f ∈ l, Pl f) : Pl (orsL l) ∧ ∀ v, tv v (orsL l) = l.any (tv v) := by
 have key : ∀ (l : List Fm) (a : Fm), (∀ f ∈ l, Pl f) → Pl a → Pl (l.foldl (fun a f => .mk 6 ⟨#[]⟩ [a, f]) a) ∧ ∀ v, tv v (l.foldl (fun a f => .mk 6 ⟨#[]⟩ [a, f]) a) = (tv v a || l.any (tv v)) := by
  intro l
  induction l with
  | nil => intro a _ ha; exact ⟨ha, fun v => by simp⟩
  | cons f r ih =>
   intro a hl ha
   obtain ⟨h1, h2⟩ := ih (.mk 6 ⟨#[]⟩ [a, f]) (fun f hf => hl f (.tail _ hf)) (plOf (by simp [okN, kidsN]) (by decide) (by
    intro g hg
    rcases List.mem_cons.1 hg with rfl | hg
    ·exact ha
    ·rw [List.mem_singleton.1 hg]; exact hl f (.head _)))
   refine ⟨h1, fun v => ?_⟩
   rw [List.foldl_cons, h2, tv_6, List.any_cons, Bool.or_assoc]
 obtain ⟨h1, h2⟩ := key l (.mk 3 ⟨#[]⟩ []) h (plOf (by simp [okN, kidsN]) (by decide) (by simp))
 exact ⟨h1, fun v => by unfold orsL; rw [h2, tv_3, Bool.false_or]⟩
theorem asF_ok (l r : List Fm) (hl : ∀ f ∈ l, Pl f) (hr : ∀ f ∈ r, Pl f) : Pl (asF l r) ∧ ∀ v, tv v (asF l r) = true ↔ SqT v l r := by
 obtain ⟨a1, a2⟩ := andsL_ok l hl
 obtain ⟨b1, b2⟩ := orsL_ok r hr
 refine ⟨plOf (by simp [okN, kidsN]) (by decide) (by simp [a1, b1]), fun v => ?_⟩
 unfold asF
 rw [tv_7, a2, b2, Bool.or_eq_true, Bool.not_eq_true']
 unfold SqT AllT AnyT
 rw [List.any_eq_true, ← List.all_eq_true]
 cases h : l.all (tv v) <;> simp
end Go.Proofs.Ytnoklmapofogeaa
