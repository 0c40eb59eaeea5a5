import Derived.Test.YtnoklmapofogeaaSCcZ
import Derived.Test.YtnoklmapofogeaaSPvOz
import Derived.Test.YtnoklmapofogeaaSCcM
import Derived.Test.YtnoklmapofogeaaSBwP
set_option linter.unusedVariables false
set_option linter.unusedSimpArgs false
set_option maxRecDepth 100000
set_option maxHeartbeats 4000000
namespace Go.Proofs.Ytnoklmapofogeaa
open Go Go.Pv
structure Hold (p : Prop) : Prop where
 h : p
theorem joinK {K g : Prop} (h : Hold K → g) (k : K) : g := h ⟨k⟩
end Go.Proofs.Ytnoklmapofogeaa
namespace Go.Proofs.Ytnoklmapofogeaa
open Go Go.Pv
noncomputable def ansF (l r : List Fm) : Int × Bool := if (sequentF l r).1 ≠ 0 then ((sequentF l r).1, false) else match (provF l r).ok with
 | some _ => (0, true)
 | none => (if (provF l r).cnt.isSome = true then 0 else 10, false)
theorem Prove_ans (l r : List Fm) (hl : l.length ≤ 50000) (hr : r.length ≤ 50000) : ∃ (o : Option Pf) (C : List ByteArray) (z : Int), CallOK Try.prog 50 [.agg [.list (l.map frm), .list (r.map frm)]] [] (.tuple [.agg (rowO o), .list (C.map strRow), .bool (ansF l r).2, .agg [.int .i64 (ansF l r).1, .int .i64 z]]) [] := by
 have soft : ∀ {a : List PV} {b : Bool} {c : List PV}, CallOK Try.prog 50 [.agg [.list (l.map frm), .list (r.map frm)]] [] (.tuple [.agg a, .nilsl, .bool b, .agg c]) [] → CallOK Try.prog 50 [.agg [.list (l.map frm), .list (r.map frm)]] [] (.tuple [.agg a, .list (([] : List ByteArray).map strRow), .bool b, .agg c]) [] :=
  fun h => callOK_softR h (.tuple (.cons .refl (.cons .nil (.cons .refl (.cons .refl .nil)))))
 unfold ansF
 by_cases hs : (sequentF l r).1 = 0
 ·rw [if_neg (by simpa using hs)]
  obtain ⟨g1, g2, g3⟩ := sequent_all hs
  have hz := sequent_zero hs
  have p2 : ∀ f ∈ l, Pl f := fun f hf => ((plainF_iff f).1 (g2 f hf)).1
  have p3 : ∀ f ∈ r, Pl f := fun f hf => ((plainF_iff f).1 (g3 f hf)).1
  cases hok : (provF l r).ok with
  | some p =>
   obtain ⟨e1, e2, e3, e4, e5⟩ := prov_ok hs hok
   exact ⟨some p, [], _, soft (Prove_ok l r hz p2 p3 g1 p hok e5)⟩
  | none =>
   have h := Prove_open l r hz p2 p3 g1 hok
   cases hc : (provF l r).cnt with
   | none => rw [hc] at h; exact ⟨none, [], _, soft h⟩
   | some V => rw [hc] at h; exact ⟨none, cntC V, _, h⟩
 ·rw [if_pos (by simpa using hs)]
  exact ⟨none, [], _, soft (Prove_fault l r hl hr hs)⟩
theorem ans_true {l r : List Fm} (h : (ansF l r).1 = 0) : (sequentF l r).1 = 0 ∧ ((ansF l r).2 = true ↔ ∀ v, SqT v l r) := by
 unfold ansF at h ⊢
 by_cases hs : (sequentF l r).1 = 0
 ·rw [if_neg (by simpa using hs)] at h ⊢
  refine ⟨hs, ?_⟩
  cases hok : (provF l r).ok with
  | some p => exact ⟨fun _ v => prov_true hs hok v, fun _ => rfl⟩
  | none =>
   rw [hok] at h
   dsimp only at h ⊢
   cases hc : (provF l r).cnt with
   | none => rw [hc] at h; simp at h
   | some V =>
    have := ct_not (prov_open hs hc).2.2
    exact ⟨fun g => (by cases g), fun g => absurd (g _) this⟩
 ·rw [if_pos (by simpa using hs)] at h
  exact absurd h hs
theorem cuts_ok {l r : List Fm} {f : Fm} (ha : (ansF l (r ++ [f])).1 = 0) (hb : (ansF (l ++ [f]) r).1 = 0) (hc : (ansF l r).1 = 0) : (ansF l r).2 = ((ansF l (r ++ [f])).2 && (ansF (l ++ [f]) r).2) := by
 rw [Bool.eq_iff_iff, Bool.and_eq_true, (ans_true ha).2, (ans_true hb).2, (ans_true hc).2]
 constructor
 ·intro h
  refine ⟨fun v g => ?_, fun v g => ?_⟩
  ·obtain ⟨x, hx, ht⟩ := h v g
   exact ⟨x, List.mem_append_left _ hx, ht⟩
  ·exact h v fun x hx => g x (List.mem_append_left _ hx)
 ·rintro ⟨h1, h2⟩ v g
  obtain ⟨x, hx, ht⟩ := h1 v g
  rcases List.mem_append.1 hx with hx | hx
  ·exact ⟨x, hx, ht⟩
  ·rw [List.mem_singleton.1 hx] at ht
   exact h2 v fun y hy => (List.mem_append.1 hy).elim (g y) fun hy => by rw [List.mem_singleton.1 hy]; exact ht
theorem pre_fold (k : Int) : ∀ (l : List Fm) (a : Fm), (pre (l.foldl (fun a f => .mk k ⟨#[]⟩ [a, f]) a)).length = (pre a).length + l.length + szL l
 | [], a => by simp [szL, pres_nil]
 | f :: t, a => by
  have h4 := szL_app [f] t
  have h5 : szL [f] = (pre f).length := by unfold szL; rw [pres_cons, pres_nil, List.append_nil]
  rw [List.singleton_append] at h4
  rw [List.foldl_cons, pre_fold k t, pre_eq (Fm.mk _ _ _), List.length_cons, List.length_cons]
  show (pres [a, f]).length + 1 + t.length + szL t = _
  rw [pres_cons, pres_cons, pres_nil, List.append_nil, List.length_append]
  omega
theorem szL_le : ∀ {l : List Fm}, (∀ f ∈ l, Pz f) → szL l ≤ 200 * l.length
 | [], _ => by simp [szL, pres_nil]
 | f :: t, h => by
  have h1 := ((plainF_iff f).1 (h f (.head _))).2
  have h3 := szL_le fun f hf => h f (List.Mem.tail _ hf)
  have h4 := szL_app [f] t
  have h5 : szL [f] = (pre f).length := by unfold szL; rw [pres_cons, pres_nil, List.append_nil]
  rw [List.singleton_append] at h4
  rw [List.length_cons]
  omega
theorem pre_asF {l r : List Fm} (h : (sequentF l r).1 = 0) : (pre (asF l r)).length ≤ 100000 := by
 obtain ⟨h1, h2, h3⟩ := sequent_all h
 have a1 := szL_le h2
 have a2 := szL_le h3
 have b1 := pre_fold 5 l (.mk 2 ⟨#[]⟩ [])
 have b2 := pre_fold 6 r (.mk 3 ⟨#[]⟩ [])
 have c1 : (pre (.mk 2 ⟨#[]⟩ [])).length = 1 := by rw [pre_eq]; rfl
 have c2 : (pre (.mk 3 ⟨#[]⟩ [])).length = 1 := by rw [pre_eq]; rfl
 unfold asF
 rw [pre_eq, List.length_cons]
 show (pres [andsL l, orsL r]).length + 1 ≤ _
 rw [pres_cons, pres_cons, pres_nil, List.append_nil, List.length_append]
 unfold andsL orsL
 omega
theorem taut_iff {l r : List Fm} (h : (sequentF l r).1 = 0) {ns : List ByteArray} (hns : (varsW [asF l r]).foldl insR [] = ns) : tautB (asF l r) ns = true ↔ ∀ v, SqT v l r := by
 obtain ⟨h1, h2, h3⟩ := sequent_all h
 obtain ⟨hpl, htv⟩ := asF_ok l r (fun f hf => ((plainF_iff f).1 (h2 f hf)).1) (fun f hf => ((plainF_iff f).1 (h3 f hf)).1)
 unfold tautB
 rw [List.all_eq_true]
 constructor
 ·intro g v
  rw [← htv]
  have hi := ins_all (varsW [asF l r]) [] List.Pairwise.nil
  rw [hns] at hi
  obtain ⟨k, hk, e⟩ := row_have (ris_nodup hi.1) v
  have := g k (List.mem_range.2 hk)
  rw [← this]
  refine tv_congr _ hpl fun y hy hy1 => ?_
  have hy2 : y.name ∈ ns := by
   rw [hi.2]
   refine .inr ?_
   unfold varsW varsL
   have hw := walk_take (asF l r) 100000
   have hp := pre_asF h
   rw [List.take_of_length_le (by omega)] at hw
   rw [List.flatMap_cons, List.flatMap_nil, List.append_nil, show walkL (asF l r) 100000 = pre (asF l r) from hw]
   exact List.mem_map.2 ⟨y, List.mem_filter.2 ⟨hy, by simpa using hy1⟩, rfl⟩
  rw [e, Bool.eq_iff_iff, memB_iff, List.mem_filter]
  simp [hy2]
 ·intro g k _
  exact (htv _).2 (g _)
def x12 : XC := .seq (.reg [⟨some 2,.box 26 (.tmp 0),none⟩,⟨some 3,.box 24 (.tmp 1),none⟩,⟨some 4,.assign (.const (.bool false)),none⟩]) (.seq (.seq (.reg [⟨some 19,.call ⟨.value (.func 47),#[],#[]⟩,none⟩,⟨some 20,.unOp .not 4 (.tmp 19),none⟩]) (.cond (.tmp 20) (.seq (.reg [⟨some 4,.assign (.const (.bool false)),none⟩]) .ret) .skip)) (.seq (.seq (.reg [⟨some 21,.load 26 (.tmp 2),none⟩,⟨some 22,.call ⟨.value (.func 48),#[.tmp 21],#[26]⟩,none⟩,⟨some 23,.move (.tmp 22),none⟩,⟨some 24,.load 24 (.tmp 3),some (some 23,false)⟩,⟨some 25,.call ⟨.value (.func 20),#[.tmp 24,.const (.int .i64 0)],#[24,3]⟩,some (some 23,false)⟩,⟨some 26,.pick (.tmp 23) (.const (.bool true)) (.tmp 25),none⟩]) (.cond (.tmp 26) (.seq (.reg [⟨some 4,.assign (.const (.bool true)),none⟩]) .ret) .skip)) (.seq (.drawn 5 [⟨some 27,.fieldAddr 26 (.tmp 2) 0,none⟩,⟨some 28,.load 22 (.tmp 27),none⟩,⟨some 29,.fieldAddr 26 (.tmp 2) 1,none⟩,⟨some 30,.load 22 (.tmp 29),none⟩,⟨some 31,.call ⟨.value (.func 57),#[.tmp 30],#[22]⟩,none⟩,⟨some 32,.load 24 (.tmp 3),none⟩,⟨some 33,.buildSlice 22 1 #[(0,.tmp 32)],none⟩,⟨some 34,.call ⟨.builtin .append,#[.tmp 31,.tmp 33],#[22,22]⟩,none⟩,⟨some 35,.build 26 #[(0,.tmp 28),(1,.tmp 34)],none⟩,⟨some 5,.alloc 26,none⟩,⟨none,.store 26 (.tmp 5) (.tmp 35),none⟩]) (.seq (.drawn 6 [⟨some 36,.fieldAddr 26 (.tmp 2) 0,none⟩,⟨some 37,.load 22 (.tmp 36),none⟩,⟨some 38,.call ⟨.value (.func 57),#[.tmp 37],#[22]⟩,none⟩,⟨some 39,.load 24 (.tmp 3),none⟩,⟨some 40,.buildSlice 22 1 #[(0,.tmp 39)],none⟩,⟨some 41,.call ⟨.builtin .append,#[.tmp 38,.tmp 40],#[22,22]⟩,none⟩,⟨some 42,.fieldAddr 26 (.tmp 2) 1,none⟩,⟨some 43,.load 22 (.tmp 42),none⟩,⟨some 44,.build 26 #[(0,.tmp 41),(1,.tmp 43)],none⟩,⟨some 6,.alloc 26,none⟩,⟨none,.store 26 (.tmp 6) (.tmp 44),none⟩]) (.seq (.reg [⟨some 46,.load 26 (.tmp 5),none⟩,⟨some 47,.call ⟨.value (.func 50),#[.tmp 46],#[26]⟩,none⟩,⟨some 45,.move (.tmp 47),none⟩,⟨some 48,.extract (.tmp 45) 0,none⟩,⟨some 49,.extract (.tmp 45) 1,none⟩,⟨some 50,.extract (.tmp 45) 2,none⟩,⟨some 51,.extract (.tmp 45) 3,none⟩,⟨some 7,.alloc 29,none⟩,⟨some 10,.alloc 33,none⟩,⟨none,.store 29 (.tmp 7) (.tmp 48),none⟩,⟨some 8,.assign (.tmp 49),none⟩,⟨some 9,.assign (.tmp 50),none⟩,⟨none,.store 33 (.tmp 10) (.tmp 51),none⟩]) (.seq (.reg [⟨some 53,.load 26 (.tmp 6),none⟩,⟨some 54,.call ⟨.value (.func 50),#[.tmp 53],#[26]⟩,none⟩,⟨some 52,.move (.tmp 54),none⟩,⟨some 55,.extract (.tmp 52) 0,none⟩,⟨some 56,.extract (.tmp 52) 1,none⟩,⟨some 57,.extract (.tmp 52) 2,none⟩,⟨some 58,.extract (.tmp 52) 3,none⟩,⟨some 11,.alloc 29,none⟩,⟨some 14,.alloc 33,none⟩,⟨none,.store 29 (.tmp 11) (.tmp 55),none⟩,⟨some 12,.assign (.tmp 56),none⟩,⟨some 13,.assign (.tmp 57),none⟩,⟨none,.store 33 (.tmp 14) (.tmp 58),none⟩]) (.seq (.reg [⟨some 60,.load 26 (.tmp 2),none⟩,⟨some 61,.call ⟨.value (.func 50),#[.tmp 60],#[26]⟩,none⟩,⟨some 59,.move (.tmp 61),none⟩,⟨some 62,.extract (.tmp 59) 0,none⟩,⟨some 63,.extract (.tmp 59) 1,none⟩,⟨some 64,.extract (.tmp 59) 2,none⟩,⟨some 65,.extract (.tmp 59) 3,none⟩,⟨some 15,.alloc 29,none⟩,⟨some 18,.alloc 33,none⟩,⟨none,.store 29 (.tmp 15) (.tmp 62),none⟩,⟨some 16,.assign (.tmp 63),none⟩,⟨some 17,.assign (.tmp 64),none⟩,⟨none,.store 33 (.tmp 18) (.tmp 65),none⟩]) (.seq (.seq (.reg [⟨some 66,.fieldAddr 33 (.tmp 10) 0,none⟩,⟨some 67,.load 3 (.tmp 66),none⟩,⟨some 68,.binOp .neq 3 (.tmp 67) (.const (.int .i64 0)) 3,none⟩,⟨some 69,.move (.tmp 68),none⟩,⟨some 70,.fieldAddr 33 (.tmp 14) 0,some (some 69,false)⟩,⟨some 71,.load 3 (.tmp 70),some (some 69,false)⟩,⟨some 72,.binOp .neq 3 (.tmp 71) (.const (.int .i64 0)) 3,some (some 69,false)⟩,⟨some 73,.pick (.tmp 69) (.const (.bool true)) (.tmp 72),none⟩,⟨some 74,.move (.tmp 73),none⟩,⟨some 75,.fieldAddr 33 (.tmp 18) 0,some (some 74,false)⟩,⟨some 76,.load 3 (.tmp 75),some (some 74,false)⟩,⟨some 77,.binOp .neq 3 (.tmp 76) (.const (.int .i64 0)) 3,some (some 74,false)⟩,⟨some 78,.pick (.tmp 74) (.const (.bool true)) (.tmp 77),none⟩]) (.cond (.tmp 78) (.seq (.reg [⟨some 4,.assign (.const (.bool true)),none⟩]) .ret) .skip)) (.seq (.seq (.reg [⟨some 79,.move (.tmp 17),none⟩,⟨some 80,.move (.tmp 79),none⟩,⟨some 81,.move (.tmp 9),some (some 80,true)⟩,⟨some 82,.unOp .not 4 (.tmp 81),some (some 80,true)⟩,⟨some 83,.move (.tmp 82),some (some 80,true)⟩,⟨some 84,.move (.tmp 13),some (some 83,false)⟩,⟨some 85,.unOp .not 4 (.tmp 84),some (some 83,false)⟩,⟨some 86,.pick (.tmp 83) (.const (.bool true)) (.tmp 85),some (some 80,true)⟩,⟨some 87,.pick (.tmp 80) (.tmp 86) (.const (.bool false)),none⟩,⟨some 88,.move (.tmp 87),none⟩,⟨some 89,.move (.tmp 9),some (some 88,false)⟩,⟨some 90,.move (.tmp 89),some (some 88,false)⟩,⟨some 91,.move (.tmp 13),some (some 90,true)⟩,⟨some 92,.pick (.tmp 90) (.tmp 91) (.const (.bool false)),some (some 88,false)⟩,⟨some 93,.move (.tmp 92),some (some 88,false)⟩,⟨some 94,.move (.tmp 17),some (some 93,true)⟩,⟨some 95,.unOp .not 4 (.tmp 94),some (some 93,true)⟩,⟨some 96,.pick (.tmp 93) (.tmp 95) (.const (.bool false)),some (some 88,false)⟩,⟨some 97,.pick (.tmp 88) (.const (.bool true)) (.tmp 96),none⟩]) (.cond (.tmp 97) (.seq (.reg [⟨some 4,.assign (.const (.bool false)),none⟩]) .ret) .skip)) (.seq (.reg [⟨some 98,.load 26 (.tmp 2),none⟩,⟨some 99,.call ⟨.value (.func 18),#[.tmp 98],#[26]⟩,none⟩,⟨some 100,.buildSlice 22 1 #[(0,.tmp 99)],none⟩,⟨some 101,.call ⟨.value (.func 17),#[.tmp 100],#[22]⟩,none⟩,⟨some 102,.call ⟨.builtin .len,#[.tmp 101],#[35]⟩,none⟩,⟨some 103,.binOp .gtr 3 (.tmp 102) (.const (.int .i64 8)) 3,none⟩,⟨some 104,.move (.tmp 103),none⟩,⟨some 105,.move (.tmp 17),some (some 104,false)⟩,⟨some 106,.load 26 (.tmp 2),some (some 104,false)⟩,⟨some 107,.call ⟨.value (.func 19),#[.tmp 106],#[26]⟩,some (some 104,false)⟩,⟨some 108,.binOp .eql 4 (.tmp 105) (.tmp 107) 4,some (some 104,false)⟩,⟨some 109,.pick (.tmp 104) (.const (.bool true)) (.tmp 108),none⟩,⟨some 4,.assign (.tmp 109),none⟩]) .ret))))))))))
@[simp] theorem x12_s {C e s K} : type_of% (@X_at C e s K _ _ x12.eq_1) := X_at x12.eq_1
@[simp] def tr12_5 : MT := .op 0 (.op 1 (.op 2 (.op 3 (.op 5 (.br (.op 4 (.ck 1 (.ck 5 (.br (.op 6 (.ck 1 (.br (.op 7 (.ck 1 (.op 8 (.op 9 (.ck 1 (.ck 8 (.op 10 .fin))))))) (.op 9 (.ck 1 (.op 7 (.ck 1 (.op 8 (.op 10 .fin))))))))) (.op 9 (.ck 1 (.ck 5 (.op 6 (.ck 1 (.op 7 (.ck 1 (.op 8 (.op 10 .fin))))))))))))) (.br (.op 6 (.ck 1 (.ck 3 (.br (.op 4 (.ck 1 (.br (.op 7 (.ck 1 (.op 8 (.op 9 (.ck 1 (.ck 8 (.op 10 .fin))))))) (.op 9 (.ck 1 (.op 7 (.ck 1 (.op 8 (.op 10 .fin))))))))) (.op 9 (.ck 1 (.ck 3 (.op 4 (.ck 1 (.op 7 (.ck 1 (.op 8 (.op 10 .fin))))))))))))) (.op 9 (.ck 1 (.ck 3 (.ck 5 (.br (.op 4 (.ck 1 (.ck 5 (.op 6 (.ck 1 (.op 7 (.ck 1 (.op 8 (.op 10 .fin))))))))) (.op 6 (.ck 1 (.ck 3 (.op 4 (.ck 1 (.op 7 (.ck 1 (.op 8 (.op 10 .fin))))))))))))))))))))
@[simp] def tr12_6 : MT := .op 0 (.op 1 (.op 3 (.op 6 (.op 7 (.br (.op 2 (.ck 3 (.ck 7 (.br (.op 4 (.ck 7 (.br (.op 5 (.ck 7 (.op 8 (.op 9 (.ck 7 (.ck 8 (.op 10 .fin))))))) (.op 9 (.ck 7 (.op 5 (.ck 7 (.op 8 (.op 10 .fin))))))))) (.op 9 (.ck 3 (.ck 7 (.op 4 (.ck 7 (.op 5 (.ck 7 (.op 8 (.op 10 .fin))))))))))))) (.br (.op 4 (.ck 1 (.ck 7 (.br (.op 2 (.ck 7 (.br (.op 5 (.ck 7 (.op 8 (.op 9 (.ck 7 (.ck 8 (.op 10 .fin))))))) (.op 9 (.ck 7 (.op 5 (.ck 7 (.op 8 (.op 10 .fin))))))))) (.op 9 (.ck 1 (.ck 7 (.op 2 (.ck 7 (.op 5 (.ck 7 (.op 8 (.op 10 .fin))))))))))))) (.op 9 (.ck 1 (.ck 3 (.ck 7 (.br (.op 2 (.ck 3 (.ck 7 (.op 4 (.ck 7 (.op 5 (.ck 7 (.op 8 (.op 10 .fin))))))))) (.op 4 (.ck 1 (.ck 7 (.op 2 (.ck 7 (.op 5 (.ck 7 (.op 8 (.op 10 .fin))))))))))))))))))))
def an12 : Ann := ⟨[(5, .tree tr12_5), (6, .tree tr12_6)], [], []⟩
@[simp] theorem an12_a : an12.clsOf 5 = .tree tr12_5 ∧ an12.clsOf 6 = .tree tr12_6 ∧ an12.frzOf 5 = [] ∧ an12.frzOf 6 = [] := ⟨rfl, rfl, rfl, rfl⟩
theorem fi12 : FI Try.prog 12 (cxA an12) x12 [.tmp 4] Try.f12 := fiA Try.func12 mixed
theorem classicCuts_law (l r : List Fm) (f : Fm) : CallOK Try.prog 12 [.agg [.list (l.map frm), .list (r.map frm)], .agg (frm f)] [] (.bool true) [] := by
 have h0 := classicBegun_law
 have h1 := vastSequent_law l r
 have hvf := vast_ref f 0 (by decide) (by decide) []
 cases hv : vastP (.mk ⟨#[]⟩ (.mk 0 ⟨#[]⟩ []) l r []) 0 with
 | true =>
  rw [hv] at h1
  refine fi12.op ?_
  ((refine Sg.h ?_); try repeat' ((first | (with_reducible first | refine brA ?_ | refine brE fun _ => ?_ | (refine spl ⟨?_, ?_⟩ <;> intro _)) | refine clo h0 ?_ | refine clo h1 ?_) <;> ((try simp -implicitDefEqProofs); (try simp -implicitDefEqProofs (disch := first | assumption | (try simp only [lens]); omega -splitDisjunctions)))))
 | false =>
  rw [hv] at h1
  cases hvf2 : vastB f 0 with
  | true =>
   rw [hvf2] at hvf
   refine fi12.op ?_
   ((refine Sg.h ?_); try repeat' ((first | (with_reducible first | refine brA ?_ | refine brE fun _ => ?_ | (refine spl ⟨?_, ?_⟩ <;> intro _)) | refine clo h0 ?_ | refine clo h1 ?_ | refine clo hvf ?_) <;> ((try simp -implicitDefEqProofs); (try simp -implicitDefEqProofs (disch := first | assumption | (try simp only [lens]); omega -splitDisjunctions)))))
  | false =>
   rw [hvf2] at hvf
   obtain ⟨_, v2, v3, _, v5, v6, _⟩ := vastP_all hv
   simp only [pf_mk1] at v2 v3 v5 v6
   have h2 := ownList_law l (by omega) v5
   have h3 := ownList_law r (by omega) v6
   obtain ⟨pa, Ca, za, ha⟩ := Prove_ans l (r ++ [f]) (by omega) (by simp; omega)
   obtain ⟨pb, Cb, zb, hb⟩ := Prove_ans (l ++ [f]) r (by simp; omega) (by omega)
   obtain ⟨pc, Cc, zc, hc⟩ := Prove_ans l r (by omega) (by omega)
   refine fi12.op ?_
   have hcut := @cuts_ok l r f
   have hans := @ans_true l r
   simp only [List.map_append, List.map_cons, List.map_nil] at ha hb hc
   generalize ansF l (r ++ [f]) = A at *
   generalize ansF (l ++ [f]) r = B at *
   generalize hC : ansF l r = C at *
   obtain ⟨Ac, Az⟩ := A
   obtain ⟨Bc, Bz⟩ := B
   obtain ⟨Cc1, Cz⟩ := C
   dsimp only at ha hb hc hcut hans
   have o2 := ownList_own l (by omega) v5
   have o3 := ownList_own r (by omega) v6
   ((refine Sg.h ?_); try repeat' ((first | (with_reducible first | refine brA ?_ | refine brE fun _ => ?_ | (refine spl ⟨?_, ?_⟩ <;> intro _)) | refine clo h0 ?_ | refine clo h1 ?_ | refine clo hvf ?_) <;> ((try simp -implicitDefEqProofs); (try simp -implicitDefEqProofs (disch := first | assumption | (try simp only [lens]); omega -splitDisjunctions)))))
   refine joinK (K := ?K) ?_ ?_
   rotate_left 1
   ·intro key
    repeat' (first | (refine And.intro ?_ ?_) | ((first | refine CT.sub [] (hc := by simpa using o2) ?_ | refine CT.sub [] (hc := by simpa using o3) ?_); ((refine Sg.h ?_); try repeat' ((first | (with_reducible first | refine brA ?_ | refine brE fun _ => ?_ | (refine spl ⟨?_, ?_⟩ <;> intro _))) <;> ((try simp -implicitDefEqProofs); (try simp -implicitDefEqProofs (disch := first | assumption | (try simp only [lens]); omega -splitDisjunctions)))))))
    all_goals first | omega | skip
    all_goals refine CL.gc [] [] [46, 2, 5, 6] ?_
    all_goals (((refine Sg.h ?_); try repeat' ((first | (with_reducible first | refine brA ?_ | refine brE fun _ => ?_ | (refine spl ⟨?_, ?_⟩ <;> intro _))) <;> ((try simp -implicitDefEqProofs); (try simp -implicitDefEqProofs (disch := first | assumption | (try simp only [lens]); omega -splitDisjunctions))))))
    all_goals exact key.h
   ·have hL : (l.map frm ++ [frm f]).take (l.length + 1) = l.map frm ++ [frm f] := List.take_of_length_le (by simp)
    have hR : (r.map frm ++ [frm f]).take (r.length + 1) = r.map frm ++ [frm f] := List.take_of_length_le (by simp)
    refine CL.giv [0, 4] ?_
    by_cases k1 : Ac = 0
    ·by_cases k2 : Bc = 0
     ·by_cases k3 : Cc1 = 0
      ·obtain ⟨hs, hall⟩ := hans k3
       have hcut := hcut k1 k2 k3
       have h4 := As_ref l r
       have h5 := NamesIn_ref [asF l r] (by simp)
       obtain ⟨g1, g2, g3⟩ := sequent_all hs
       obtain ⟨hpl, _⟩ := asF_ok l r (fun f hf => ((plainF_iff f).1 (g2 f hf)).1) (fun f hf => ((plainF_iff f).1 (g3 f hf)).1)
       generalize hns : (varsW [asF l r]).foldl insR [] = ns at *
       by_cases h8 : ns.length ≤ 8
       ·have h6 := InAll_ref l r hpl ns (by omega) hns
        rw [show tautB (asF l r) ns = Cz by rw [Bool.eq_iff_iff, hall]; exact taut_iff hs hns] at h6
        have h8i : ¬ (8 : Int) < (ns.length : Int) := by omega
        generalize asF l r = A at *
        subst hcut
        clear hall
        cases Az <;> cases Bz
        all_goals (((refine Sg.h ?_); try repeat' ((first | (with_reducible first | refine brA ?_ | refine brE fun _ => ?_ | (refine spl ⟨?_, ?_⟩ <;> intro _)) | refine clo ha ?_ | refine clo hb ?_ | refine clo hc ?_ | refine clo h4 ?_) <;> ((try simp -implicitDefEqProofs [hL, hR, k1, k2, k3]); (try simp -implicitDefEqProofs (disch := first | assumption | (try simp only [lens]); omega -splitDisjunctions) [hL, hR, k1, k2, k3])))))
        all_goals simp only [Bool.and_self, Bool.and_false, Bool.and_true] at h6
        all_goals refine CL.giv [11] ?_
        all_goals (((refine Sg.h ?_); try repeat' ((first | (with_reducible first | refine brA ?_ | refine brE fun _ => ?_ | (refine spl ⟨?_, ?_⟩ <;> intro _)) | refine clo h5 ?_ | refine clo h6 ?_) <;> ((try simp -implicitDefEqProofs [h8i]); (try simp -implicitDefEqProofs (disch := first | assumption | (try simp only [lens]); omega -splitDisjunctions) [h8i])))))
       ·have h8i : (8 : Int) < (ns.length : Int) := by omega
        generalize asF l r = A at *
        subst hcut
        clear hall
        cases Az <;> cases Bz
        all_goals (((refine Sg.h ?_); try repeat' ((first | (with_reducible first | refine brA ?_ | refine brE fun _ => ?_ | (refine spl ⟨?_, ?_⟩ <;> intro _)) | refine clo ha ?_ | refine clo hb ?_ | refine clo hc ?_ | refine clo h4 ?_) <;> ((try simp -implicitDefEqProofs [hL, hR, k1, k2, k3]); (try simp -implicitDefEqProofs (disch := first | assumption | (try simp only [lens]); omega -splitDisjunctions) [hL, hR, k1, k2, k3])))))
        all_goals refine CL.giv [11] ?_
        all_goals (((refine Sg.h ?_); try repeat' ((first | (with_reducible first | refine brA ?_ | refine brE fun _ => ?_ | (refine spl ⟨?_, ?_⟩ <;> intro _)) | refine clo h5 ?_) <;> ((try simp -implicitDefEqProofs [h8i]); (try simp -implicitDefEqProofs (disch := first | assumption | (try simp only [lens]); omega -splitDisjunctions) [h8i])))))
      ·((refine Sg.h ?_); try repeat' ((first | (with_reducible first | refine brA ?_ | refine brE fun _ => ?_ | (refine spl ⟨?_, ?_⟩ <;> intro _)) | refine clo ha ?_ | refine clo hb ?_ | refine clo hc ?_) <;> ((try simp -implicitDefEqProofs [hL, hR, k1, k2, k3]); (try simp -implicitDefEqProofs (disch := first | assumption | (try simp only [lens]); omega -splitDisjunctions) [hL, hR, k1, k2, k3]))))
     ·((refine Sg.h ?_); try repeat' ((first | (with_reducible first | refine brA ?_ | refine brE fun _ => ?_ | (refine spl ⟨?_, ?_⟩ <;> intro _)) | refine clo ha ?_ | refine clo hb ?_ | refine clo hc ?_) <;> ((try simp -implicitDefEqProofs [hL, hR, k1, k2]); (try simp -implicitDefEqProofs (disch := first | assumption | (try simp only [lens]); omega -splitDisjunctions) [hL, hR, k1, k2]))))
    ·((refine Sg.h ?_); try repeat' ((first | (with_reducible first | refine brA ?_ | refine brE fun _ => ?_ | (refine spl ⟨?_, ?_⟩ <;> intro _)) | refine clo ha ?_ | refine clo hb ?_ | refine clo hc ?_) <;> ((try simp -implicitDefEqProofs [hL, hR, k1]); (try simp -implicitDefEqProofs (disch := first | assumption | (try simp only [lens]); omega -splitDisjunctions) [hL, hR, k1]))))
end Go.Proofs.Ytnoklmapofogeaa
