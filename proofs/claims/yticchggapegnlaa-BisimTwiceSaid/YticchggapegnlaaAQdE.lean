import Derived.Test.YticchggapegnlaaAQdB
set_option linter.unusedVariables false
set_option linter.unusedSimpArgs false
set_option maxRecDepth 100000
set_option maxHeartbeats 4000000
namespace Go.Proofs.Yticchggapegnlaa
open Go Go.Pv
def x42 : XC := .seq (.reg [⟨some 5,.assign (.const (.bool false)),none⟩]) (.seq (.drawn 1 [⟨some 6,.load 25 (.tmp 2),none⟩,⟨some 7,.move (.tmp 0),none⟩,⟨some 8,.call ⟨.value (.func 28),#[.tmp 6,.tmp 7],#[25,3]⟩,none⟩,⟨some 9,.load 25 (.tmp 2),none⟩,⟨some 10,.move (.tmp 1),none⟩,⟨some 11,.call ⟨.value (.func 28),#[.tmp 9,.tmp 10],#[25,3]⟩,none⟩,⟨some 12,.call ⟨.value (.func 43),#[.tmp 8,.tmp 11],#[62,62]⟩,none⟩,⟨some 5,.assign (.tmp 12),none⟩]) .ret)
@[simp] theorem x42_s {C e s K} : type_of% (@X_at C e s K _ _ x42.eq_1) := X_at x42.eq_1
def an42 : Ann := ⟨[(1,.mix 5)],[],[]⟩
@[simp] theorem an42_a : an42.clsOf 1 = .mix 5 ∧ an42.frzOf 1 = [] := ⟨rfl,rfl⟩
theorem fi42 : FI Try.prog 42 (cxA an42) x42 [.tmp 5] Try.f42 := fiA Try.func42 mixed
theorem stages1_bisim (m : Mdl) (u v : Nat) (hu : u < m.tr.length) (hv : v < m.tr.length) (hl : ∀ l ∈ m.tr,l.length ≤ 1000000) : CallOK Try.prog 42 [.int .i64 (u : Int),.int .i64 (v : Int),.iptr (mdl m)] [] (.bool (decide (namesW m.tr[u] = namesW m.tr[v]))) [] := by
 have h1 := names_bisim m u hu (hl _ (List.getElem_mem hu))
 have h2 := names_bisim m v hv (hl _ (List.getElem_mem hv))
 have h3 := Equal_str (namesW m.tr[u]) (namesW m.tr[v])
 generalize namesW m.tr[u] = a at *
 generalize namesW m.tr[v] = b at *
 obtain ⟨n,rel,tr⟩ := m
 refine fi42.op ?_
 (refine Sg.h ?_;try repeat' ((first | (with_reducible first|refine brA ?_|refine brE fun _=>?_|refine spl ⟨?_,?_⟩<;>intro _) | refine clo h1 ?_ | refine clo h2 ?_ | refine clo h3 ?_) <;> ((try simp -implicitDefEqProofs); (try simp -implicitDefEqProofs(disch:=first|assumption|(try simp only[lens]);omega -splitDisjunctions)))))
def x44 : XC := .seq (.reg [⟨some 6,.assign (.const (.bool false)),none⟩]) (.seq (.drawn 1 [⟨some 7,.load 61 (.tmp 2),none⟩,⟨some 8,.move (.tmp 0),none⟩,⟨some 9,.indexAddr 61 (.tmp 7) (.tmp 8),none⟩,⟨some 10,.load 3 (.tmp 9),none⟩,⟨some 11,.load 61 (.tmp 2),none⟩,⟨some 12,.move (.tmp 1),none⟩,⟨some 13,.indexAddr 61 (.tmp 11) (.tmp 12),none⟩,⟨some 14,.load 3 (.tmp 13),none⟩,⟨some 15,.binOp .eql 3 (.tmp 10) (.tmp 14) 3,none⟩,⟨some 16,.move (.tmp 15),none⟩,⟨some 17,.load 52 (.tmp 3),some (some 16,true)⟩,⟨some 18,.load 61 (.tmp 2),some (some 16,true)⟩,⟨some 19,.move (.tmp 0),some (some 16,true)⟩,⟨some 20,.call ⟨.value (.func 29),#[.tmp 17,.tmp 18,.tmp 19],#[52,61,3]⟩,some (some 16,true)⟩,⟨some 21,.load 52 (.tmp 3),some (some 16,true)⟩,⟨some 22,.load 61 (.tmp 2),some (some 16,true)⟩,⟨some 23,.move (.tmp 1),some (some 16,true)⟩,⟨some 24,.call ⟨.value (.func 29),#[.tmp 21,.tmp 22,.tmp 23],#[52,61,3]⟩,some (some 16,true)⟩,⟨some 25,.call ⟨.value (.func 45),#[.tmp 20,.tmp 24],#[27,27]⟩,some (some 16,true)⟩,⟨some 26,.pick (.tmp 16) (.tmp 25) (.const (.bool false)),none⟩,⟨some 6,.assign (.tmp 26),none⟩]) .ret)
@[simp] theorem x44_s {C e s K} : type_of% (@X_at C e s K _ _ x44.eq_1) := X_at x44.eq_1
def an44 : Ann := ⟨[(1,.mix 17)],[],[]⟩
@[simp] theorem an44_a : an44.clsOf 1 = .mix 17 ∧ an44.frzOf 1 = [] := ⟨rfl,rfl⟩
theorem fi44 : FI Try.prog 44 (cxA an44) x44 [.tmp 6] Try.f44 := fiA Try.func44 mixed
theorem stages2_bisim (T : List (List Bool)) (S : List Nat) (u v : Nat) (hT : T.length = S.length) (hr : ∀ r ∈ T,r.length = S.length) (hs : S.length ≤ 1000000) (hu : u < S.length) (hv : v < S.length) : CallOK Try.prog 44 [.int .i64 (u : Int),.int .i64 (v : Int),.iptr [.list (S.map numRow)],.iptr [.list (T.map bitRow)]] [] (.bool (decide (keyN T S u = keyN T S v))) [] := by
 have hu' : u < T.length := by omega
 have hv' : v < T.length := by omega
 have h1 := sees_bisim T S u hu' (hr _ (List.getElem_mem hu')).symm hs
 have h2 := sees_bisim T S v hv' (hr _ (List.getElem_mem hv')).symm hs
 have h3 := Equal_int (seesS T S u) (seesS T S v)
 have hk : decide (keyN T S u = keyN T S v) = (decide (S[u] = S[v]) && decide (seesS T S u = seesS T S v)) := by
  simp [keyN,List.getD_eq_getElem?_getD,List.getElem?_eq_getElem hu,List.getElem?_eq_getElem hv]
 rw [hk]
 clear hk
 have hgu : (S.map numRow)[u]'(by simpa using hu) = numRow S[u] := by simp
 have hgv : (S.map numRow)[v]'(by simpa using hv) = numRow S[v] := by simp
 generalize seesS T S u = a at *
 generalize seesS T S v = b at *
 refine fi44.op ?_
 by_cases hS : S[u] = S[v]
 ·(refine Sg.h ?_;try repeat' ((first | (with_reducible first|refine brA ?_|refine brE fun _=>?_|refine spl ⟨?_,?_⟩<;>intro _) | refine clo h1 ?_ | refine clo h2 ?_ | refine clo h3 ?_) <;> ((try simp -implicitDefEqProofs [hu,hv,hS]); (try simp -implicitDefEqProofs(disch:=first|assumption|(try simp only[lens]);omega -splitDisjunctions) [hu,hv,hS]))))
 ·have hS' : ¬ ((S[u] : Int) = (S[v] : Int)) := by omega
  (refine Sg.h ?_;try repeat' ((first | (with_reducible first|refine brA ?_|refine brE fun _=>?_|refine spl ⟨?_,?_⟩<;>intro _) | refine clo h1 ?_ | refine clo h2 ?_ | refine clo h3 ?_) <;> ((try simp -implicitDefEqProofs [hu,hv,hS,hS']); (try simp -implicitDefEqProofs(disch:=first|assumption|(try simp only[lens]);omega -splitDisjunctions) [hu,hv,hS,hS']))))
def x26_L0 : XC := .block 1 (.seq (.reg [⟨some 14,.move (.tmp 4),none⟩,⟨some 15,.move (.tmp 4),none⟩,⟨some 16,.call ⟨.builtin .len,#[.tmp 15],#[59]⟩,none⟩,⟨some 17,.binOp .sub 3 (.tmp 16) (.const (.int .i64 1)) 3,none⟩,⟨some 18,.indexAddr 59 (.tmp 14) (.tmp 17),none⟩,⟨some 19,.load 61 (.tmp 18),none⟩,⟨some 5,.alloc 61,none⟩,⟨none,.store 61 (.tmp 5) (.tmp 19),none⟩]) (.seq (.reg [⟨some 20,.fieldAddr 25 (.tmp 1) 0,none⟩,⟨some 21,.load 3 (.tmp 20),none⟩,⟨some 22,.makeFunc (.func 44) #[] #[.tmp 5,.tmp 3],none⟩,⟨some 23,.call ⟨.value (.func 41),#[.tmp 21,.tmp 22],#[3,74]⟩,none⟩,⟨some 6,.assign (.tmp 23),none⟩]) (.seq (.seq (.reg [⟨some 24,.load 61 (.tmp 5),none⟩,⟨some 25,.move (.tmp 6),none⟩,⟨some 26,.call ⟨.value (.func 46),#[.tmp 24,.tmp 25],#[61,61]⟩,none⟩]) (.cond (.tmp 26) (.seq (.reg [⟨some 27,.move (.tmp 4),none⟩,⟨some 2,.assign (.tmp 27),none⟩]) .ret) .skip)) (.reg [⟨some 28,.move (.tmp 4),none⟩,⟨some 29,.move (.tmp 6),none⟩,⟨some 30,.buildSlice 59 1 #[(0,.tmp 29)],none⟩,⟨some 31,.call ⟨.builtin .append,#[.tmp 28,.tmp 30],#[59,59]⟩,none⟩,⟨some 4,.assign (.tmp 31),none⟩]))))
def x26 : XC := .seq (.reg [⟨some 1,.box 25 (.tmp 0),none⟩,⟨some 2,.assign (.const (.slice none 0 0)),none⟩]) (.seq (.reg [⟨some 7,.load 25 (.tmp 1),none⟩,⟨some 8,.call ⟨.value (.func 27),#[.tmp 7],#[25]⟩,none⟩,⟨some 3,.alloc 52,none⟩,⟨none,.store 52 (.tmp 3) (.tmp 8),none⟩]) (.seq (.reg [⟨some 9,.fieldAddr 25 (.tmp 1) 0,none⟩,⟨some 10,.load 3 (.tmp 9),none⟩,⟨some 11,.makeFunc (.func 42) #[] #[.tmp 1],none⟩,⟨some 12,.call ⟨.value (.func 41),#[.tmp 10,.tmp 11],#[3,74]⟩,none⟩,⟨some 13,.buildSlice 59 1 #[(0,.tmp 12)],none⟩,⟨some 4,.assign (.tmp 13),none⟩]) (.bloop 0 x26_L0)))
@[simp] theorem x26_s {C e s K} : type_of% (@X_at C e s K _ _ x26_L0.eq_1) ∧ type_of% (@X_at C e s K _ _ x26.eq_1) := ⟨X_at x26_L0.eq_1,X_at x26.eq_1⟩
def an26 : Ann := ⟨[],[(0,[(4,none,1)],[1,3,4],[2])],[]⟩
@[simp] theorem an26_a : an26.loopOf 0 = ([(4,none,1)],[1,3,4],[2]) := rfl
theorem fi26 : FI Try.prog 26 (cxA an26) x26 [.tmp 2] Try.f26 := fiA Try.func26 mixed
structure MdW (m : Mdl) (n : Nat) : Prop where
 n_eq : m.n = n
 small : n ≤ 1024
 pos : 1 ≤ n
 tr : m.tr.length = n
 rows : ∀ l ∈ m.tr,l.length ≤ 1000000
 rel : ∀ p ∈ m.rel,0 ≤ p.1 ∧ p.1 < n ∧ 0 ≤ p.2 ∧ p.2 < n
def keyW (m : Mdl) : List (List ByteArray) := m.tr.map namesW
def stgW (m : Mdl) (i : Nat) : List Nat := stg (tabB m.tr.length m.rel) (grp (keyW m)) i
theorem stgW_length (m : Mdl) (i : Nat) : (stgW m i).length = m.tr.length := by rw [stgW,stg_length,grp_length,keyW,List.length_map]
theorem group1_bisim (m : Mdl) (n : Nat) (h : MdW m n) : CallOK Try.prog 41 [.int .i64 (n : Int),.fn (.func 42) [] [.iptr (mdl m)]] [] (.list ((stgW m 0).map numRow)) [] := by
 have := group_bisim (keyW m) (by have := h.small; have := h.tr; simp [keyW]; omega) 42 [.iptr (mdl m)] (fun u v hu hv => by
  have hu' : u < m.tr.length := by simpa [keyW] using hu
  have hv' : v < m.tr.length := by simpa [keyW] using hv
  have := stages1_bisim m u v hu' hv' h.rows
  simpa [keyW] using this)
 have hl : (keyW m).length = n := by simp [keyW,h.tr]
 rw [hl] at this
 exact this
theorem group2_bisim (m : Mdl) (n : Nat) (h : MdW m n) (i : Nat) : CallOK Try.prog 41 [.int .i64 (n : Int),.fn (.func 44) [] [.iptr [.list ((stgW m i).map numRow)],.iptr [.list ((tabB n m.rel).map bitRow)]]] [] (.list ((stgW m (i + 1)).map numRow)) [] := by
 have hSl := stgW_length m i
 have htr := h.tr
 have hsm := h.small
 have := group_bisim ((List.range (stgW m i).length).map (keyN (tabB n m.rel) (stgW m i))) (by simp; omega) 44 [.iptr [.list ((stgW m i).map numRow)],.iptr [.list ((tabB n m.rel).map bitRow)]] (fun u v hu hv => by
  have hu' : u < (stgW m i).length := by simpa using hu
  have hv' : v < (stgW m i).length := by simpa using hv
  have := stages2_bisim (tabB n m.rel) (stgW m i) u v (by simp; omega) (fun r hr => by
   obtain ⟨k,hk,rfl⟩ := List.mem_iff_getElem.1 hr
   rw [tabB_len]; omega) (by omega) hu' hv'
  simpa using this)
 rw [List.length_map,List.length_range,hSl,htr] at this
 rw [show stgW m (i + 1) = grp ((List.range (stgW m i).length).map (keyN (tabB n m.rel) (stgW m i))) from by
  show nextS (tabB m.tr.length m.rel) (stgW m i) = _
  rw [htr,nextS],hSl,htr]
 exact this
def stgsL (m : Mdl) (k : Nat) : List (List Nat) := (List.range k).map (stgW m)
@[simp] theorem stgsL_length (m : Mdl) (k : Nat) : (stgsL m k).length = k := by simp [stgsL]
theorem stgsL_get (m : Mdl) (k i : Nat) (h : i < (stgsL m k).length) : (stgsL m k)[i] = stgW m i := by simp [stgsL]
theorem stgsL_succ (m : Mdl) (k : Nat) : stgsL m (k + 1) = stgsL m k ++ [stgW m k] := by simp [stgsL,List.range_succ]
theorem stgW_stop (m : Mdl) : ∃ K,K ≤ m.tr.length ∧ stgW m (K + 1) = stgW m K ∧ ∀ i < K,stgW m (i + 1) ≠ stgW m i := by
 obtain ⟨K,h1,h2,h3⟩ := stg_stop (tabB m.tr.length m.rel) (grp_grp (keyW m))
 exact ⟨K,by simpa [keyW] using h1,h2,h3⟩
theorem stages_bisim (m : Mdl) (n : Nat) (h : MdW m n) (K : Nat) (hK : K ≤ n) (hstop : stgW m (K + 1) = stgW m K) (hgo : ∀ i < K,stgW m (i + 1) ≠ stgW m i) : CallOK Try.prog 26 [.agg (mdl m)] [] (.list ((stgsL m (K + 1)).map numsRow)) [] := by
 have h1 := table_bisim m n h.n_eq h.small h.rel
 have h2 := group1_bisim m n h
 have h3 := group2_bisim m n h
 have hn := h.n_eq
 have hsm := h.small
 obtain ⟨mn,rel,tr⟩ := m
 dsimp only at hn
 subst hn
 refine fi26.op ?_
 (refine Sg.h ?_;try repeat' ((first | (with_reducible first|refine brA ?_|refine brE fun _=>?_|refine spl ⟨?_,?_⟩<;>intro _) | refine clo h1 ?_) <;> ((try simp -implicitDefEqProofs); (try simp -implicitDefEqProofs(disch:=first|assumption|(try simp only[lens]);omega -splitDisjunctions)))))
 refine CL.giv [0,1] ?_
 (refine Sg.h ?_;try repeat' ((first | (with_reducible first|refine brA ?_|refine brE fun _=>?_|refine spl ⟨?_,?_⟩<;>intro _) | refine clo h2 ?_) <;> ((try simp -implicitDefEqProofs); (try simp -implicitDefEqProofs(disch:=first|assumption|(try simp only[lens]);omega -splitDisjunctions)))))
 refine W_of fun Q hQ => ?_
 generalize hm : ({ n := (n : Int),rel := rel,tr := tr } : Mdl) = m at *
 have erel : m.rel = rel := by rw [← hm]
 rw [erel] at h3
 have h0 := stgsL_succ m 0
 have main : ∀ r i,i + r = K → Q [(1,.iptr [.int .i64 (n : Int),.list (rel.map relRow),.list (tr.map strsRow)]),(3,.iptr [.list ((tabB n rel).map bitRow)]),(4,.sl 0 0 (i + 1))] [.rows 1 ((stgsL m (i + 1)).map numsRow)] := by
  intro r
  induction r with
  | zero =>
   intro i hi
   have h3 := h3 i
   have h4 := Equal_stage (stgW m i) (stgW m (i + 1))
   obtain rfl : i = K := by omega
   rw [decide_eq_true hstop.symm] at h4
   have hget := stgsL_get m (i + 1) i (by simp)
   have hlen := stgsL_length m (i + 1)
   apply hQ
   clear hQ
   (refine Sg.h ?_;try repeat' ((with_reducible first|refine brA ?_|refine brE fun _=>?_|refine spl ⟨?_,?_⟩<;>intro _)<;> ((try simp -implicitDefEqProofs [hget,hlen]); (try simp -implicitDefEqProofs(disch:=first|assumption|(try simp only[lens]);omega -splitDisjunctions) [hget,hlen]))))
   refine CL.giv [1] ?_
   (refine Sg.h ?_;try repeat' ((first | (with_reducible first|refine brA ?_|refine brE fun _=>?_|refine spl ⟨?_,?_⟩<;>intro _) | refine clo h3 ?_ | refine clo h4 ?_) <;> ((try simp -implicitDefEqProofs [hget,hlen]); (try simp -implicitDefEqProofs(disch:=first|assumption|(try simp only[lens]);omega -splitDisjunctions) [hget,hlen]))))
   exact List.take_of_length_le (by simp)
  | succ r ih =>
   intro i hi
   have ih := ih (i + 1) (by omega)
   have h3 := h3 i
   have h4 := Equal_stage (stgW m i) (stgW m (i + 1))
   rw [decide_eq_false (fun e => hgo i (by omega) e.symm)] at h4
   have hget := stgsL_get m (i + 1) i (by simp)
   have hlen := stgsL_length m (i + 1)
   apply hQ
   clear hQ
   (refine Sg.h ?_;try repeat' ((with_reducible first|refine brA ?_|refine brE fun _=>?_|refine spl ⟨?_,?_⟩<;>intro _)<;> ((try simp -implicitDefEqProofs [hget,hlen]); (try simp -implicitDefEqProofs(disch:=first|assumption|(try simp only[lens]);omega -splitDisjunctions) [hget,hlen]))))
   refine CL.giv [1] ?_
   (refine Sg.h ?_;try repeat' ((first | (with_reducible first|refine brA ?_|refine brE fun _=>?_|refine spl ⟨?_,?_⟩<;>intro _) | refine clo h3 ?_ | refine clo h4 ?_) <;> ((try simp -implicitDefEqProofs [hget,hlen]); (try simp -implicitDefEqProofs(disch:=first|assumption|(try simp only[lens]);omega -splitDisjunctions) [hget,hlen]))))
   refine at2 ih (by simp) ?_
   simp [stgsL_succ m (i + 1)]
   exact (List.take_of_length_le (by simp)).symm
 all_goals first | exact (main _ 0 (Nat.zero_add _)) | (refine at2 (main _ 0 (Nat.zero_add _)) ?_ ?_ <;> simp; done) | (exfalso; first | omega | (simp_all; done) | (simp_all; omega))
def x7 : XC := .seq (.reg [⟨some 1,.box 25 (.tmp 0),none⟩,⟨some 2,.assign (.const (.slice none 0 0)),none⟩,⟨some 3,.alloc 29,none⟩]) (.seq (.seq (.reg [⟨some 6,.load 25 (.tmp 1),none⟩,⟨some 7,.call ⟨.value (.func 25),#[.tmp 6],#[25]⟩,none⟩,⟨some 4,.alloc 29,none⟩,⟨none,.store 29 (.tmp 4) (.tmp 7),none⟩]) (.seq (.reg [⟨some 8,.fieldAddr 29 (.tmp 4) 0,none⟩,⟨some 9,.load 3 (.tmp 8),none⟩,⟨some 10,.binOp .neq 3 (.tmp 9) (.const (.int .i64 0)) 3,none⟩]) (.cond (.tmp 10) (.seq (.drawn 3 [⟨some 11,.load 29 (.tmp 4),none⟩,⟨some 2,.assign (.const (.slice none 0 0)),none⟩,⟨none,.store 29 (.tmp 3) (.tmp 11),none⟩]) .ret) .skip))) (.seq (.reg [⟨some 12,.load 25 (.tmp 1),none⟩,⟨some 13,.call ⟨.value (.func 26),#[.tmp 12],#[25]⟩,none⟩,⟨some 5,.assign (.tmp 13),none⟩]) (.seq (.reg [⟨some 14,.move (.tmp 5),none⟩,⟨some 15,.move (.tmp 5),none⟩,⟨some 16,.call ⟨.builtin .len,#[.tmp 15],#[59]⟩,none⟩,⟨some 17,.binOp .sub 3 (.tmp 16) (.const (.int .i64 1)) 3,none⟩,⟨some 18,.indexAddr 59 (.tmp 14) (.tmp 17),none⟩,⟨some 19,.load 61 (.tmp 18),none⟩,⟨some 20,.build 29 #[],none⟩,⟨some 2,.assign (.tmp 19),none⟩,⟨none,.store 29 (.tmp 3) (.tmp 20),none⟩]) .ret)))
@[simp] theorem x7_s {C e s K} : type_of% (@X_at C e s K _ _ x7.eq_1) := X_at x7.eq_1
def an7 : Ann := ⟨[],[],[]⟩
@[simp] theorem an7_a : an7.clsOf 3 = .draw ∧ an7.frzOf 3 = [] := ⟨rfl,rfl⟩
theorem fi7 : FI Try.prog 7 (cxA an7) x7 [.tmp 2,.cell 3 29] Try.f7 := fiA Try.func7 mixed
theorem stages_mdW (m : Mdl) (n : Nat) (h : MdW m n) : ∃ K,stgW m (K + 1) = stgW m K ∧ (∀ i < K,stgW m (i + 1) ≠ stgW m i) ∧ CallOK Try.prog 26 [.agg (mdl m)] [] (.list ((stgsL m (K + 1)).map numsRow)) [] := by
 obtain ⟨K,h1,h2,h3⟩ := stgW_stop m
 exact ⟨K,h2,h3,stages_bisim m n h K (by have := h.tr; omega) h2 h3⟩
theorem Classes_fault (m : Mdl) (hc : (kripkeCheck m).1 ≠ 0) : CallOK Try.prog 7 [.agg (mdl m)] [] (.tuple [.nilsl,flt (kripkeCheck m).1 (kripkeCheck m).2]) [] := by
 have h1 := check_kripke m []
 rw [flt_eq] at h1 ⊢
 generalize (kripkeCheck m).1 = c at *
 generalize (kripkeCheck m).2 = a at *
 obtain ⟨n,rel,tr⟩ := m
 refine fi7.op ?_
 (refine Sg.h ?_;try repeat' ((first | (with_reducible first|refine brA ?_|refine brE fun _=>?_|refine spl ⟨?_,?_⟩<;>intro _) | refine clo h1 ?_) <;> ((try simp -implicitDefEqProofs [hc]); (try simp -implicitDefEqProofs(disch:=first|assumption|(try simp only[lens]);omega -splitDisjunctions) [hc]))))
theorem Classes_ok (m : Mdl) (n : Nat) (h : MdW m n) (hc : kripkeCheck m = (0,0)) (K : Nat) (hK : CallOK Try.prog 26 [.agg (mdl m)] [] (.list ((stgsL m (K + 1)).map numsRow)) []) : CallOK Try.prog 7 [.agg (mdl m)] [] (.tuple [.list ((stgW m K).map numRow),.agg [.int .i64 0,.int .i64 0]]) [] := by
 have h1 := check_kripke m []
 rw [hc,flt_eq] at h1
 have hget := stgsL_get m (K + 1) K (by simp)
 have hlen := stgsL_length m (K + 1)
 obtain ⟨mn,rel,tr⟩ := m
 refine fi7.op ?_
 (refine Sg.h ?_;try repeat' ((first | (with_reducible first|refine brA ?_|refine brE fun _=>?_|refine spl ⟨?_,?_⟩<;>intro _) | refine clo h1 ?_ | refine clo hK ?_) <;> ((try simp -implicitDefEqProofs [hget,hlen]); (try simp -implicitDefEqProofs(disch:=first|assumption|(try simp only[lens]);omega -splitDisjunctions) [hget,hlen]))))
 all_goals omega
def x8_L0 : XC := .seq (.seq (.reg [⟨some 11,.move (.tmp 5),none⟩,⟨some 12,.move (.tmp 0),none⟩,⟨some 13,.call ⟨.builtin .len,#[.tmp 12],#[27]⟩,none⟩,⟨some 14,.binOp .lss 3 (.tmp 11) (.tmp 13) 3,none⟩]) (.cond (.tmp 14) .skip (.exit 0))) (.seq (.block 1 (.seq (.drawn 6 [⟨some 17,.move (.tmp 0),none⟩,⟨some 18,.move (.tmp 5),none⟩,⟨some 19,.indexAddr 27 (.tmp 17) (.tmp 18),none⟩,⟨some 20,.load 3 (.tmp 19),none⟩,⟨some 21,.move (.tmp 1),none⟩,⟨some 22,.move (.tmp 5),none⟩,⟨some 23,.indexAddr 27 (.tmp 21) (.tmp 22),none⟩,⟨some 24,.load 3 (.tmp 23),none⟩,⟨some 25,.binOp .neq 3 (.tmp 20) (.tmp 24) 3,none⟩]) (.cond (.tmp 25) (.seq (.reg [⟨some 4,.assign (.const (.bool false)),none⟩]) .ret) .skip))) (.reg [⟨some 15,.move (.tmp 5),none⟩,⟨some 16,.binOp .add 3 (.tmp 15) (.const (.int .i64 1)) 3,none⟩,⟨some 5,.assign (.tmp 16),none⟩]))
def x8 : XC := .seq (.reg [⟨some 4,.assign (.const (.bool false)),none⟩]) (.seq (.seq (.reg [⟨some 6,.move (.tmp 0),none⟩,⟨some 7,.call ⟨.builtin .len,#[.tmp 6],#[27]⟩,none⟩,⟨some 8,.move (.tmp 1),none⟩,⟨some 9,.call ⟨.builtin .len,#[.tmp 8],#[27]⟩,none⟩,⟨some 10,.binOp .neq 3 (.tmp 7) (.tmp 9) 3,none⟩]) (.cond (.tmp 10) (.seq (.reg [⟨some 4,.assign (.const (.bool false)),none⟩]) .ret) .skip)) (.seq (.seq (.reg [⟨some 5,.assign (.const (.int .i64 0)),none⟩]) (.bloop 0 x8_L0)) (.seq (.reg [⟨some 4,.assign (.const (.bool true)),none⟩]) .ret)))
@[simp] theorem x8_s {C e s K} : type_of% (@X_at C e s K _ _ x8_L0.eq_1) ∧ type_of% (@X_at C e s K _ _ x8.eq_1) := ⟨X_at x8_L0.eq_1,X_at x8.eq_1⟩
def an8 : Ann := ⟨[],[(0,[],[0,1,5],[4])],[]⟩
@[simp] theorem an8_a : an8.clsOf 6 = .draw ∧ an8.frzOf 6 = [] ∧ an8.loopOf 0 = ([],[0,1,5],[4]) := ⟨rfl,rfl,rfl⟩
theorem fi8 : FI Try.prog 8 (cxA an8) x8 [.tmp 4] Try.f8 := fiA Try.func8 mixed
theorem sameNumbers_law (a b : List Nat) : CallOK Try.prog 8 [.list (a.map numRow),.list (b.map numRow)] [] (.bool (decide (a = b))) [] := by
 refine fi8.op ?_
 by_cases hl : a.length = b.length
 ·have hli : (a.length : Int) = (b.length : Int) := by omega
  (refine Sg.h ?_;try repeat' ((with_reducible first|refine brA ?_|refine brE fun _=>?_|refine spl ⟨?_,?_⟩<;>intro _)<;> ((try simp -implicitDefEqProofs [hl,hli]); (try simp -implicitDefEqProofs(disch:=first|assumption|(try simp only[lens]);omega -splitDisjunctions) [hl,hli]))))
  refine W_of fun Q hQ => ?_
  have main : ∀ r i,i + r = b.length → a.take i = b.take i → Q [(0,.list (a.map numRow)),(1,.list (b.map numRow)),(5,.int .i64 (i : Int))] [] := by
   intro r
   induction r with
   | zero =>
    intro i hi he
    rw [List.take_of_length_le (by omega),List.take_of_length_le (by omega)] at he
    obtain rfl : i = b.length := by omega
    apply hQ
    clear hQ
    (refine Sg.h ?_;try repeat' ((with_reducible first|refine brA ?_|refine brE fun _=>?_|refine spl ⟨?_,?_⟩<;>intro _)<;> ((try simp -implicitDefEqProofs [he,hl,hli]); (try simp -implicitDefEqProofs(disch:=first|assumption|(try simp only[lens]);omega -splitDisjunctions) [he,hl,hli]))))
   | succ r ih =>
    intro i hi he
    have hib : i < b.length := by omega
    have hia : i < a.length := by omega
    apply hQ
    clear hQ
    by_cases hx : a[i] = b[i]
    ·have ih := ih (i + 1) (by omega) (by rw [take_snoc hia,take_snoc hib,he,hx])
     (refine Sg.h ?_;try repeat' ((with_reducible first|refine brA ?_|refine brE fun _=>?_|refine spl ⟨?_,?_⟩<;>intro _)<;> ((try simp -implicitDefEqProofs [hia,hib,hx]); (try simp -implicitDefEqProofs(disch:=first|assumption|(try simp only[lens]);omega -splitDisjunctions) [hia,hib,hx]))))
     all_goals first | exact ih | (refine at2 ih ?_ ?_ <;> simp; done) | (exfalso; first | omega | (simp_all; done) | (simp_all; omega))
    ·have hne : a ≠ b := fun h => hx (by subst h; rfl)
     (refine Sg.h ?_;try repeat' ((with_reducible first|refine brA ?_|refine brE fun _=>?_|refine spl ⟨?_,?_⟩<;>intro _)<;> ((try simp -implicitDefEqProofs [hia,hib,hx,hne]); (try simp -implicitDefEqProofs(disch:=first|assumption|(try simp only[lens]);omega -splitDisjunctions) [hia,hib,hx,hne]))))
     all_goals (exfalso; omega)
  all_goals first | exact main _ 0 (Nat.zero_add _) rfl | (refine at2 main _ 0 (Nat.zero_add _) rfl ?_ ?_ <;> simp; done) | (exfalso; first | omega | (simp_all; done) | (simp_all; omega))
 ·have hne : a ≠ b := fun h => hl (by rw [h])
  have hli : ¬ (a.length : Int) = (b.length : Int) := by omega
  (refine Sg.h ?_;try repeat' ((with_reducible first|refine brA ?_|refine brE fun _=>?_|refine spl ⟨?_,?_⟩<;>intro _)<;> ((try simp -implicitDefEqProofs [hli,hne]); (try simp -implicitDefEqProofs(disch:=first|assumption|(try simp only[lens]);omega -splitDisjunctions) [hli,hne]))))
end Go.Proofs.Yticchggapegnlaa
namespace Go.Proofs.Yticchggapegnlaa
open Go Go.Pv
def shR (n : Nat) (p : Int × Int) : Int × Int := (p.1 + n,p.2 + n)
def twoM (m : Mdl) (n : Nat) : Mdl := { n := ((n + n : Nat) : Int),rel := m.rel ++ m.rel.map (shR n),tr := m.tr ++ m.tr }
section
variable {κ ι : Type} [DecidableEq κ]
theorem dd_two (l : List κ) : dd (l ++ l) = dd l := by
 unfold dd; rw [List.foldl_append]
 have : ∀ (r acc : List κ),(∀ x ∈ r,x ∈ acc) → r.foldl addD acc = acc := by
  intro r
  induction r with
  | nil => intro acc _; rfl
  | cons x r ih =>
   intro acc h
   rw [List.foldl_cons,show addD acc x = acc from by unfold addD; rw [if_pos (h x (by simp))]]
   exact ih acc fun y hy => h y (by simp [hy])
 exact this l _ fun x hx => mem_dd.2 hx
theorem grp_two (l : List κ) : grp (l ++ l) = grp l ++ grp l := by unfold grp; rw [dd_two,List.map_append]
theorem fm_congr {κ ι : Type} {l : List κ} {f g : κ → List ι} (h : ∀ a ∈ l,f a = g a) : l.flatMap f = l.flatMap g := by rw [List.flatMap_def,List.flatMap_def,List.map_congr_left h]
end
theorem pickS_eq (bs : List Bool) (S : List Nat) : ∀ n,pickS bs S n = (List.range n).flatMap fun i => if bs.getD i false = true then [S.getD i 0] else []
 | 0 => rfl
 | n + 1 => by rw [pickS,pickS_eq bs S n,List.range_succ,List.flatMap_append]; simp
theorem sees_tab {N u : Nat} {rel : List (Int × Int)} {S : List Nat} (hu : u < N) : seesS (tabB N rel) S u = compN (sortN ((List.range N).flatMap fun v => if seeB rel u v = true then [S.getD v 0] else [])) := by
 have h1 : (tabB N rel).getD u [] = (List.range N).map (seeB rel u) := by simp [List.getD_eq_getElem?_getD,tabB,hu]
 unfold seesS
 rw [h1,pickS_eq,List.length_map,List.length_range]
 congr 2
 refine fm_congr fun v hv => ?_
 rw [List.mem_range] at hv
 have h2 : ((List.range N).map (seeB rel u)).getD v false = seeB rel u v := by simp [List.getD_eq_getElem?_getD,hv]
 rw [h2]
theorem see_two {n : Nat} {rel : List (Int × Int)} (hrel : ∀ p ∈ rel,0 ≤ p.1 ∧ p.1 < n ∧ 0 ≤ p.2 ∧ p.2 < n) {u v : Nat} (hu : u < n) (hv : v < n) :
  seeB (rel ++ rel.map (shR n)) u v = seeB rel u v ∧ seeB (rel ++ rel.map (shR n)) u (n + v) = false ∧ seeB (rel ++ rel.map (shR n)) (n + u) v = false ∧ seeB (rel ++ rel.map (shR n)) (n + u) (n + v) = seeB rel u v := by
 have h1 : ∀ a b : Int,(a,b) ∈ rel.map (shR n) ↔ (a - n,b - n) ∈ rel := by
  intro a b
  simp only [List.mem_map,shR]
  constructor
  ·rintro ⟨⟨p,q⟩,h,e⟩
   simp only [Prod.mk.injEq] at e
   rw [show a - n = p by omega,show b - n = q by omega]; exact h
  ·intro h
   exact ⟨_,h,by simp only [Prod.mk.injEq]; omega⟩
 have h2 : ∀ a b : Int,(a,b) ∈ rel → 0 ≤ a ∧ a < n ∧ 0 ≤ b ∧ b < n := fun a b h => hrel _ h
 unfold seeB
 simp only [List.mem_append,h1]
 refine ⟨?_,?_,?_,?_⟩
 ·rw [decide_eq_decide]
  exact ⟨fun h => h.elim id fun h => by have := h2 _ _ h; omega,.inl⟩
 ·rw [decide_eq_false_iff_not]
  rintro (h | h)
  ·have := h2 _ _ h; omega
  ·have := h2 _ _ h; omega
 ·rw [decide_eq_false_iff_not]
  rintro (h | h)
  ·have := h2 _ _ h; omega
  ·have := h2 _ _ h; omega
 ·rw [decide_eq_decide,show (((n + u : Nat) : Int) - n) = u by omega,show (((n + v : Nat) : Int) - n) = v by omega]
  exact ⟨fun h => h.elim (fun h => by have := h2 _ _ h; omega) id,.inr⟩
theorem sees_two {n : Nat} {rel : List (Int × Int)} (hrel : ∀ p ∈ rel,0 ≤ p.1 ∧ p.1 < n ∧ 0 ≤ p.2 ∧ p.2 < n) {u : Nat} (hu : u < n) {S : List Nat} (hS : S.length = n) :
  seesS (tabB (n + n) (rel ++ rel.map (shR n))) (S ++ S) u = seesS (tabB n rel) S u ∧ seesS (tabB (n + n) (rel ++ rel.map (shR n))) (S ++ S) (n + u) = seesS (tabB n rel) S u := by
 have hS1 : ∀ v,v < n → (S ++ S).getD v 0 = S.getD v 0 := fun v hv => by
  rw [List.getD_eq_getElem?_getD,List.getD_eq_getElem?_getD,List.getElem?_append_left (by omega)]
 have hS2 : ∀ v,v < n → (S ++ S).getD (n + v) 0 = S.getD v 0 := fun v hv => by
  rw [List.getD_eq_getElem?_getD,List.getD_eq_getElem?_getD,List.getElem?_append_right (by omega),show n + v - S.length = v by omega]
 rw [sees_tab (u := u) (N := n + n) (by omega),sees_tab (u := n + u) (N := n + n) (by omega),sees_tab hu,List.range_add,List.flatMap_append,List.flatMap_append,List.flatMap_map,List.flatMap_map]
 constructor
 ·rw [show (List.flatMap (fun a => if seeB (rel ++ rel.map (shR n)) u (n + a) = true then [(S ++ S).getD (n + a) 0] else []) (List.range n)) = [] from
   List.flatMap_eq_nil_iff.2 fun v hv => by rw [(see_two hrel hu (List.mem_range.1 hv)).2.1]; rfl,List.append_nil]
  congr 2
  refine fm_congr fun v hv => ?_
  rw [(see_two hrel hu (List.mem_range.1 hv)).1,hS1 v (List.mem_range.1 hv)]
 ·rw [show (List.flatMap (fun v => if seeB (rel ++ rel.map (shR n)) (n + u) v = true then [(S ++ S).getD v 0] else []) (List.range n)) = [] from
   List.flatMap_eq_nil_iff.2 fun v hv => by rw [(see_two hrel hu (List.mem_range.1 hv)).2.2.1]; rfl,List.nil_append]
  congr 2
  refine fm_congr fun v hv => ?_
  rw [(see_two hrel hu (List.mem_range.1 hv)).2.2.2,hS2 v (List.mem_range.1 hv)]
theorem next_two {n : Nat} {rel : List (Int × Int)} (hrel : ∀ p ∈ rel,0 ≤ p.1 ∧ p.1 < n ∧ 0 ≤ p.2 ∧ p.2 < n) {S : List Nat} (hS : S.length = n) :
  nextS (tabB (n + n) (rel ++ rel.map (shR n))) (S ++ S) = nextS (tabB n rel) S ++ nextS (tabB n rel) S := by
 unfold nextS
 rw [← grp_two,List.length_append,hS,List.range_add,List.map_append,List.map_map]
 congr 2
 ·refine List.map_congr_left fun u hu => ?_
  rw [List.mem_range] at hu
  unfold keyN
  rw [(sees_two hrel hu hS).1,List.getD_eq_getElem?_getD,List.getD_eq_getElem?_getD,List.getElem?_append_left (by omega)]
 ·refine List.map_congr_left fun u hu => ?_
  rw [List.mem_range] at hu
  show keyN _ _ (n + u) = _
  unfold keyN
  rw [(sees_two hrel hu hS).2,List.getD_eq_getElem?_getD,List.getD_eq_getElem?_getD,List.getElem?_append_right (by omega),show n + u - S.length = u by omega]
theorem stgW_two (m : Mdl) (n : Nat) (h : MdW m n) : ∀ i,stgW (twoM m n) i = stgW m i ++ stgW m i
 | 0 => by
  show grp ((m.tr ++ m.tr).map namesW) = grp (m.tr.map namesW) ++ grp (m.tr.map namesW)
  rw [List.map_append,grp_two]
 | i + 1 => by
  have ih := stgW_two m n h i
  show nextS (tabB (m.tr ++ m.tr).length (m.rel ++ m.rel.map (shR n))) (stgW (twoM m n) i) = nextS (tabB m.tr.length m.rel) (stgW m i) ++ nextS (tabB m.tr.length m.rel) (stgW m i)
  rw [ih,List.length_append,h.tr]
  exact next_two h.rel (by rw [stgW_length,h.tr])
theorem relFault_none {n : Int} : ∀ {l : List (Int × Int)} {i : Int},relFault n l i = none ↔ ∀ p ∈ l,0 ≤ p.1 ∧ p.1 < n ∧ 0 ≤ p.2 ∧ p.2 < n
 | [],i => by simp [relFault]
 | p :: r,i => by
  unfold relFault
  split
  ·rename_i h
   refine ⟨fun g => (by cases g),fun g => ?_⟩
   have := g p (by simp); omega
  ·rename_i h
   rw [relFault_none]
   refine ⟨fun g q hq => ?_,fun g q hq => g q (by simp [hq])⟩
   rcases List.mem_cons.1 hq with rfl | hq
   ·omega
   ·exact g q hq
theorem relFault_some {n : Int} : ∀ {l : List (Int × Int)} {i : Int} {x : Int × Int},relFault n l i = some x → x.1 ≠ 0
 | [],i,x,h => by simp [relFault] at h
 | p :: r,i,x,h => by
  unfold relFault at h
  split at h
  ·cases h; simp
  ·exact relFault_some h
theorem trFault_none : ∀ {l : List (List ByteArray)} {i : Int},trFault l i = none ↔ ∀ p ∈ l,p.length ≤ 30 ∧ p.all isNameB = true
 | [],i => by simp [trFault]
 | p :: r,i => by
  unfold trFault
  split
  ·rename_i h
   refine ⟨fun g => (by cases g),fun g => ?_⟩
   have := (g p (by simp)).1; omega
  ·rename_i h
   split
   ·rename_i h2
    rw [trFault_none]
    refine ⟨fun g q hq => ?_,fun g q hq => g q (by simp [hq])⟩
    rcases List.mem_cons.1 hq with rfl | hq
    ·exact ⟨by omega,h2⟩
    ·exact g q hq
   ·rename_i h2
    refine ⟨fun g => (by cases g),fun g => absurd (g p (by simp)).2 h2⟩
theorem trFault_some : ∀ {l : List (List ByteArray)} {i : Int} {x : Int × Int},trFault l i = some x → x.1 ≠ 0
 | [],i,x,h => by simp [trFault] at h
 | p :: r,i,x,h => by
  unfold trFault at h
  split at h
  ·cases h; simp
  ·split at h
   ·exact trFault_some h
   ·cases h; simp
structure KrOK (m : Mdl) : Prop where
 pos : 1 ≤ m.n
 most : m.n ≤ 40
 rels : m.rel.length ≤ 2000
 trs : (m.tr.length : Int) = m.n
 rel : ∀ p ∈ m.rel,0 ≤ p.1 ∧ p.1 < m.n ∧ 0 ≤ p.2 ∧ p.2 < m.n
 tr : ∀ p ∈ m.tr,p.length ≤ 30 ∧ p.all isNameB = true
theorem kr_zero {m : Mdl} (h : (kripkeCheck m).1 = 0) : KrOK m := by
 unfold kripkeCheck at h
 split at h
 ·simp at h
 ·split at h
  ·simp at h
  ·rename_i h1 h2
   cases hr : relFault m.n m.rel 0 with
   | some x => rw [hr] at h; exact absurd h (relFault_some hr)
   | none =>
    rw [hr] at h
    cases ht : trFault m.tr 0 with
    | some x => rw [ht] at h; exact absurd h (trFault_some ht)
    | none => exact ⟨by omega,by omega,by omega,by omega,relFault_none.1 hr,trFault_none.1 ht⟩
theorem kr_ok {m : Mdl} (h : KrOK m) : kripkeCheck m = (0,0) := by
 have := h.pos; have := h.most; have := h.rels; have := h.trs
 unfold kripkeCheck
 rw [if_neg (by omega),if_neg (by omega),relFault_none.2 h.rel,trFault_none.2 h.tr]
 rfl
theorem KrOK.mdW {m : Mdl} (h : KrOK m) : MdW m m.tr.length := by
 have h1 := h.pos; have h2 := h.most; have h4 := h.trs
 refine ⟨h4.symm,by omega,by omega,rfl,fun l hl => ?_,?_⟩
 ·have := (h.tr l hl).1; omega
 ·rw [h4]; exact h.rel
theorem kr_two {m : Mdl} {n : Nat} (h : KrOK m) (hn : m.n = n) (h20 : n ≤ 20) (hr : m.rel.length ≤ 1000) : KrOK (twoM m n) := by
 have h1 := h.pos; have h4 := h.trs
 refine ⟨?_,?_,?_,?_,?_,?_⟩
 ·show (1 : Int) ≤ ((n + n : Nat) : Int); omega
 ·show ((n + n : Nat) : Int) ≤ 40; omega
 ·show (m.rel ++ m.rel.map (shR n)).length ≤ 2000
  rw [List.length_append,List.length_map]; omega
 ·show ((m.tr ++ m.tr).length : Int) = ((n + n : Nat) : Int)
  rw [List.length_append]; omega
 ·intro p hp
  show 0 ≤ p.1 ∧ p.1 < ((n + n : Nat) : Int) ∧ 0 ≤ p.2 ∧ p.2 < ((n + n : Nat) : Int)
  rcases List.mem_append.1 hp with hp | hp
  ·have := h.rel p hp; omega
  ·obtain ⟨q,hq,rfl⟩ := List.mem_map.1 hp
   have := h.rel q hq
   simp only [shR]; omega
 ·exact fun l hl => h.tr l ((List.mem_append.1 hl).elim id id)
theorem Classes_kr (m : Mdl) (h : KrOK m) : ∃ K,stgW m (K + 1) = stgW m K ∧ (∀ i < K,stgW m (i + 1) ≠ stgW m i) ∧ CallOK Try.prog 7 [.agg (mdl m)] [] (.tuple [.list ((stgW m K).map numRow),.agg [.int .i64 0,.int .i64 0]]) [] := by
 obtain ⟨K,h1,h2,h3⟩ := stages_mdW m _ h.mdW
 exact ⟨K,h1,h2,Classes_ok m _ h.mdW (kr_ok h) K h3⟩
end Go.Proofs.Yticchggapegnlaa
namespace Go.Proofs.Yticchggapegnlaa
open Go Go.Pv
theorem callOK_nils {P : Program} {f : FuncId} {args args' : List PV} {v : PV} {s s' : Store} (h : CallOK P f args' s v s') (hs : SoftL args' args) : CallOK P f args s v s' := by
 intro pub σ w cargs hb ha
 have hg := hs.get (pub := pub)
 refine h pub σ w cargs hb ⟨by rw [ha.1,hg.1],fun j x y hx hy => ?_⟩
 have hjl := lt_of_getElem? hx
 have hyj : args[j]? = some (args[j]'(by have := hg.1; omega)) := List.getElem?_eq_getElem _
 exact hg.2 j x _ hx hyj σ y (ha.2 j _ y hyj hy)
def m0 : Mdl := { n := 2,rel := [(0,1)],tr := [[],[]] }
theorem grp_same {κ : Type} [DecidableEq κ] (x : κ) : grp [x,x] = [0,0] := by simp [grp,dd,addD]
theorem grp_diff {κ : Type} [DecidableEq κ] {x y : κ} (h : x ≠ y) : grp [x,y] = [0,1] := by
 have h' : ¬ y = x := fun e => h e.symm
 have hd : dd [x,y] = [x,y] := by simp [dd,addD,h']
 unfold grp
 rw [hd]
 have hb : (x == y) = false := by simpa using h
 simp [List.idxOf_cons,h,h',hb]
theorem stg0 : stgW m0 0 = [0,0] := grp_same _
theorem key0 (a b : Nat) : keyN (tabB 2 [(0,1)]) [a,b] 0 = (a,[b]) := by
 have h : pickS ((tabB 2 [(0,1)]).getD 0 []) [a,b] ((tabB 2 [(0,1)]).getD 0 []).length = [b] := rfl
 unfold keyN seesS
 rw [h]
 simp [sortN,compN,Lib.compact]
 exact ⟨(b : Int),rfl,by simp⟩
theorem key1 (a b : Nat) : keyN (tabB 2 [(0,1)]) [a,b] 1 = (b,[]) := by
 have h : pickS ((tabB 2 [(0,1)]).getD 1 []) [a,b] ((tabB 2 [(0,1)]).getD 1 []).length = [] := rfl
 unfold keyN seesS
 rw [h]
 simp [sortN,compN,Lib.compact]
 rfl
theorem next0 (a b : Nat) : nextS (tabB 2 [(0,1)]) [a,b] = [0,1] := by
 unfold nextS
 have : (List.range [a,b].length).map (keyN (tabB 2 [(0,1)]) [a,b]) = [(a,[b]),(b,[])] := by
  rw [show List.range [a,b].length = [0,1] from rfl,List.map_cons,List.map_cons,List.map_nil,key0,key1]
 rw [this]
 exact grp_diff (by simp)
theorem stg1 : stgW m0 1 = [0,1] := by
 show nextS (tabB 2 [(0,1)]) (stgW m0 0) = _
 rw [stg0]; exact next0 _ _
theorem stg2 : stgW m0 2 = [0,1] := by
 show nextS (tabB 2 [(0,1)]) (stgW m0 1) = _
 rw [stg1]; exact next0 _ _
theorem m0_kr : KrOK m0 where
 pos := by decide
 most := by decide
 rels := by decide
 trs := by decide
 rel := by decide
 tr := by decide
def x6 : XC := .seq (.reg [⟨some 0,.assign (.const (.bool false)),none⟩]) (.seq (.reg [⟨some 4,.build 32 #[(0,.const (.int .i64 0)),(1,.const (.int .i64 1))],none⟩,⟨some 5,.buildSlice 22 1 #[(0,.tmp 4)],none⟩,⟨some 6,.buildSlice 23 2 #[(0,.const (.slice none 0 0)),(1,.const (.slice none 0 0))],none⟩,⟨some 7,.build 25 #[(0,.const (.int .i64 2)),(1,.tmp 5),(2,.tmp 6)],none⟩,⟨some 8,.call ⟨.value (.func 7),#[.tmp 7],#[25]⟩,none⟩,⟨some 3,.move (.tmp 8),none⟩,⟨some 9,.extract (.tmp 3) 0,none⟩,⟨some 10,.extract (.tmp 3) 1,none⟩,⟨some 2,.alloc 29,none⟩,⟨some 1,.assign (.tmp 9),none⟩,⟨none,.store 29 (.tmp 2) (.tmp 10),none⟩]) (.seq (.reg [⟨some 11,.fieldAddr 29 (.tmp 2) 0,none⟩,⟨some 12,.load 3 (.tmp 11),none⟩,⟨some 13,.binOp .eql 3 (.tmp 12) (.const (.int .i64 0)) 3,none⟩,⟨some 14,.move (.tmp 13),none⟩,⟨some 15,.move (.tmp 1),some (some 14,true)⟩,⟨some 16,.call ⟨.builtin .len,#[.tmp 15],#[27]⟩,some (some 14,true)⟩,⟨some 17,.binOp .eql 3 (.tmp 16) (.const (.int .i64 2)) 3,some (some 14,true)⟩,⟨some 18,.pick (.tmp 14) (.tmp 17) (.const (.bool false)),none⟩,⟨some 19,.move (.tmp 18),none⟩,⟨some 20,.move (.tmp 1),some (some 19,true)⟩,⟨some 21,.indexAddr 27 (.tmp 20) (.const (.int .i64 0)),some (some 19,true)⟩,⟨some 22,.load 3 (.tmp 21),some (some 19,true)⟩,⟨some 23,.binOp .eql 3 (.tmp 22) (.const (.int .i64 0)) 3,some (some 19,true)⟩,⟨some 24,.pick (.tmp 19) (.tmp 23) (.const (.bool false)),none⟩,⟨some 25,.move (.tmp 24),none⟩,⟨some 26,.move (.tmp 1),some (some 25,true)⟩,⟨some 27,.indexAddr 27 (.tmp 26) (.const (.int .i64 1)),some (some 25,true)⟩,⟨some 28,.load 3 (.tmp 27),some (some 25,true)⟩,⟨some 29,.binOp .eql 3 (.tmp 28) (.const (.int .i64 1)) 3,some (some 25,true)⟩,⟨some 30,.pick (.tmp 25) (.tmp 29) (.const (.bool false)),none⟩,⟨some 0,.assign (.tmp 30),none⟩]) .ret))
@[simp] theorem x6_s {C e s K} : type_of% (@X_at C e s K _ _ x6.eq_1) := X_at x6.eq_1
def an6 : Ann := ⟨[],[],[]⟩
theorem fi6 : FI Try.prog 6 (cxA an6) x6 [.tmp 0] Try.f6 := fiA Try.func6 mixed
theorem bisimBegun_law : CallOK Try.prog 6 [] [] (.bool true) [] := by
 obtain ⟨K,h1,h2,hc⟩ := Classes_kr m0 m0_kr
 have hK : K = 1 := by
  match K,h1,h2 with
  | 0,h1,_ => rw [stg1,stg0] at h1; cases h1
  | 1,_,_ => rfl
  | k + 2,_,h2 => exact absurd (stg2.trans stg1.symm) (h2 1 (by omega))
 subst hK
 rw [stg1] at hc
 have hc := callOK_nils (args := [.agg [.int .i64 2,.list [[.int .i64 0,.int .i64 1]],.list [[.nilsl],[.nilsl]]]]) hc (.cons (.agg (.cons .refl (.cons .refl (.cons (.list (.cons (.cons .nil .nil) (.cons (.cons .nil .nil) .nil))) .nil)))) .nil)
 refine fi6.op ?_
 (refine Sg.h ?_;try repeat' ((with_reducible first|refine brA ?_|refine brE fun _=>?_|refine spl ⟨?_,?_⟩<;>intro _)<;> ((try simp -implicitDefEqProofs); (try simp -implicitDefEqProofs(disch:=first|assumption|(try simp only[lens]);omega -splitDisjunctions)))))
 refine CL.giv [0,1] ?_
 (refine Sg.h ?_;try repeat' ((first | (with_reducible first|refine brA ?_|refine brE fun _=>?_|refine spl ⟨?_,?_⟩<;>intro _) | refine clo hc ?_) <;> ((try simp -implicitDefEqProofs); (try simp -implicitDefEqProofs(disch:=first|assumption|(try simp only[lens]);omega -splitDisjunctions)))))
 all_goals trace_state
end Go.Proofs.Yticchggapegnlaa
