import Derived.Test.YtnoklmapofogeaaSCeC
import Derived.Test.YtnoklmapofogeaaSCcZ
set_option linter.unusedVariables false
set_option linter.unusedSimpArgs false
set_option maxRecDepth 100000
set_option maxHeartbeats 40000000
namespace Go.Proofs.Ytnoklmapofogeaa
open Go Go.Pv
theorem Concat_two (a b : List Fm) (ha : a.length ≤ 1000) (hb : b.length ≤ 1000) : CallOK Try.prog 69 [.list [[.list (a.map frm)], [.list (b.map frm)]]] [] (.list ((a ++ b).map frm)) [] := by
 have h := Concat_fms [a, b] (by simp) (by simp; omega)
 rw [show [a, b].flatten = a ++ b from by simp] at h
 exact h
theorem res_of {g : List Fm → List Fm → Nat → GR} {l r : List Fm} {n : Nat} {res : GR} {m : ByteArray × Fm × List Prem} (hm : moveF l r = some m) (hres : (match moveF l r with
   | some m => match (growL g m.2.2 (n + 1) []).ok with
    | some ks => (⟨some (.mk m.1 m.2.1 l r ks), (growL g m.2.2 (n + 1) []).n, none⟩ : GR)
    | none => ⟨none, (growL g m.2.2 (n + 1) []).n, (growL g m.2.2 (n + 1) []).cnt⟩
   | none => ⟨none, n + 1, some (varsL l)⟩) = res) :
  PV.tuple [.agg (rowO res.ok), .bool res.ok.isSome] = .tuple [.agg (rowO ((growL g m.2.2 (n + 1) []).ok.map fun ks => .mk m.1 m.2.1 l r ks)), .bool (growL g m.2.2 (n + 1) []).ok.isSome] ∧ fndO 1 res.n res.cnt :: fndT res.cnt = fndO 1 (growL g m.2.2 (n + 1) []).n (growL g m.2.2 (n + 1) []).cnt :: fndT (growL g m.2.2 (n + 1) []).cnt := by
 rw [hm] at hres
 dsimp only at hres
 cases h : (growL g m.2.2 (n + 1) []).ok with
 | none => rw [h] at hres; subst hres; exact ⟨rfl, rfl⟩
 | some ks => rw [h] at hres; subst hres; rw [growL_cnt h]; exact ⟨rfl, rfl⟩
theorem grow_step (k : Nat) (l r : List Fm) (d : Int) (n : Nat) (hd : 0 ≤ d) (hn : n ≤ 20000) (h1 : ¬ 20000 < n + 1) (h2 : ¬ 400 < d) (h3 : ¬ 60 < l.length + r.length) (he : endF l r = none) (hl : ∀ f ∈ l, Ar f) (hr : ∀ f ∈ r, Ar f)
  (g : List Fm → List Fm → Nat → GR) (hrec : ∀ m, moveF l r = some m → ∀ q ∈ m.2.2, GrowOK g (d + 1) q) (res : GR) (hres : (match moveF l r with
   | some m => match (growL g m.2.2 (n + 1) []).ok with
    | some ks => (⟨some (.mk m.1 m.2.1 l r ks), (growL g m.2.2 (n + 1) []).n, none⟩ : GR)
    | none => ⟨none, (growL g m.2.2 (n + 1) []).n, (growL g m.2.2 (n + 1) []).cnt⟩
   | none => ⟨none, n + 1, some (varsL l)⟩) = res) :
  CallOK Try.prog 87 [.ptr 0 0 0, .list (l.map frm), .list (r.map frm), .int .i64 d] [fndO 0 n none] (.tuple [.agg (rowO res.ok), .bool res.ok.isSome]) (fndO 1 res.n res.cnt :: fndT res.cnt) := by
 have e0 : ((n + 1 : Nat) : Int) = (n : Int) + 1 := by omega
 have h1i : ¬ (20000 : Int) < (n : Int) + 1 := by omega
 have h3i : ¬ (60 : Int) < (l.length : Int) + (r.length : Int) := by omega
 rw [show fndO 0 n none = .rows 3 [[.int .i64 (n : Int), .nilsl, .bool false]] from rfl]
 refine fi87.oz ?_
 obtain ⟨hn1, hn2⟩ := endF_none he
 generalize hV : PV.tuple [.agg (rowO res.ok), .bool res.ok.isSome] = V
 generalize hS : fndO 1 res.n res.cnt :: fndT res.cnt = S
 refine joinC (K := ?K) ?_ ?_
 rotate_left 1
 ·intro key
  ((refine Sg.h ?_); try repeat' ((first | (with_reducible first | refine brA ?_ | refine brE fun _ => ?_ | (refine spl ⟨?_, ?_⟩ <;> intro _))) <;> ((try simp -implicitDefEqProofs [h1i, h2, h3i]); (try simp -implicitDefEqProofs (disch := first | assumption | (try simp only [lens]); omega -splitDisjunctions) [h1i, h2, h3i]))))
  refine W_of fun Q hQ => ?_
  have main : ∀ j i, i + j = l.length → Q [(1, .list (l.map frm)), (2, .list (r.map frm)), (4, .ptr 1 0 0), (8, .ptr 2 0 0), (11, .fn (.func 107) [] [.ptr 3 0 0]), (12, .fn (.func 108) [] [.ptr 3 0 0, .ptr 1 0 0, .ptr 4 0 0]), (13, .fn (.func 109) [] []), (63, .list (l.map frm)), (64, .int .i64 (l.length : Int)), (65, .int .i64 (i : Int))] [.rows 3 [[.int .i64 ((n : Int) + 1), .nilsl, .bool false]], .rows 1 [[.ptr 0 0 0]], .rows 7 [[.str ⟨#[]⟩, .int .i64 0, .str ⟨#[]⟩, .nilsl, .nilsl, .nilsl, .nilsl]], .rows 7 [[.str ⟨#[]⟩, .int .i64 0, .str ⟨#[]⟩, .nilsl, .list (l.map frm), .list (r.map frm), .nilsl]], .rows 1 [[.int .i64 d]]] := by
   intro j
   induction j with
   | zero =>
    intro i hi
    obtain rfl : i = l.length := by omega
    apply hQ
    clear hQ
    ((refine Sg.h ?_); try repeat' ((first | (with_reducible first | refine brA ?_ | refine brE fun _ => ?_ | (refine spl ⟨?_, ?_⟩ <;> intro _))) <;> ((try simp -implicitDefEqProofs); (try simp -implicitDefEqProofs (disch := first | assumption | (try simp only [lens]); omega -splitDisjunctions)))))
    refine W_of fun Q hQ => ?_
    have main2 : ∀ j i, i + j = r.length → Q [(1, .list (l.map frm)), (2, .list (r.map frm)), (4, .ptr 1 0 0), (8, .ptr 2 0 0), (11, .fn (.func 107) [] [.ptr 3 0 0]), (12, .fn (.func 108) [] [.ptr 3 0 0, .ptr 1 0 0, .ptr 4 0 0]), (13, .fn (.func 109) [] []), (86, .list (r.map frm)), (87, .int .i64 (r.length : Int)), (88, .int .i64 (i : Int))] [.rows 3 [[.int .i64 ((n : Int) + 1), .nilsl, .bool false]], .rows 1 [[.ptr 0 0 0]], .rows 7 [[.str ⟨#[]⟩, .int .i64 0, .str ⟨#[]⟩, .nilsl, .nilsl, .nilsl, .nilsl]], .rows 7 [[.str ⟨#[]⟩, .int .i64 0, .str ⟨#[]⟩, .nilsl, .list (l.map frm), .list (r.map frm), .nilsl]], .rows 1 [[.int .i64 d]]] := by
     intro j
     induction j with
     | zero =>
      intro i hi
      obtain rfl : i = r.length := by omega
      apply hQ
      clear hQ
      ((refine Sg.h ?_); try repeat' ((first | (with_reducible first | refine brA ?_ | refine brE fun _ => ?_ | (refine spl ⟨?_, ?_⟩ <;> intro _))) <;> ((try simp -implicitDefEqProofs); (try simp -implicitDefEqProofs (disch := first | assumption | (try simp only [lens]); omega -splitDisjunctions)))))
      exact key.h
     | succ j ih =>
      intro i hi
      have hil : i < r.length := by omega
      have ih := ih (i + 1) (by omega)
      have hk := hn2 _ (List.getElem_mem hil)
      apply hQ
      clear hQ
      ((refine Sg.h ?_); try repeat' ((first | (with_reducible first | refine brA ?_ | refine brE fun _ => ?_ | (refine spl ⟨?_, ?_⟩ <;> intro _))) <;> ((try simp -implicitDefEqProofs [hil, hk]); (try simp -implicitDefEqProofs (disch := first | assumption | (try simp only [lens]); omega -splitDisjunctions) [hil, hk]))))
      all_goals first | exact ih | (refine at2 ih ?_ ?_ <;> simp; done) | (exfalso; first | omega | (simp_all; done) | (simp_all; omega))
    all_goals first | exact main2 _ 0 (Nat.zero_add _) | (refine at2 main2 _ 0 (Nat.zero_add _) ?_ ?_ <;> simp; done) | (exfalso; first | omega | (simp_all; done) | (simp_all; omega))
   | succ j ih =>
    intro i hi
    have hil : i < l.length := by omega
    have ih := ih (i + 1) (by omega)
    obtain ⟨hk, hh⟩ := hn1 _ (List.getElem_mem hil)
    have hc := ContainsFunc_fms r (by omega) 111 [.iptr (frm l[i])] (sameB l[i]) (fun g _ => grow4_classic l[i] g)
    change CallOK _ _ _ _ (.bool (hasF r l[i])) _ at hc
    rw [hh] at hc
    apply hQ
    clear hQ
    ((refine Sg.h ?_); try repeat' ((first | (with_reducible first | refine brA ?_ | refine brE fun _ => ?_ | (refine spl ⟨?_, ?_⟩ <;> intro _))) <;> ((try simp -implicitDefEqProofs [hil, hk]); (try simp -implicitDefEqProofs (disch := first | assumption | (try simp only [lens]); omega -splitDisjunctions) [hil, hk]))))
    refine CL.giv [5] ?_
    ((refine Sg.h ?_); try repeat' ((first | (with_reducible first | refine brA ?_ | refine brE fun _ => ?_ | (refine spl ⟨?_, ?_⟩ <;> intro _)) | refine clo hc ?_) <;> ((try simp -implicitDefEqProofs); (try simp -implicitDefEqProofs (disch := first | assumption | (try simp only [lens]); omega -splitDisjunctions)))))
    all_goals first | exact ih | (refine at2 ih ?_ ?_ <;> simp; done) | (exfalso; first | omega | (simp_all; done) | (simp_all; omega))
  all_goals first | exact main _ 0 (Nat.zero_add _) | (refine at2 main _ 0 (Nat.zero_add _) ?_ ?_ <;> simp; done) | (exfalso; first | omega | (simp_all; done) | (simp_all; omega))
 ·have i5 := at5 l (by omega)
  have i6 := at6 l (by omega)
  have i7 := at7 r (by omega)
  have i8 := at8 r (by omega)
  have i9 := at9 r (by omega)
  have i10 := at10 r (by omega)
  have i11 := at11 l (by omega)
  have i12 := at12 l (by omega)
  rw [placeK_eq] at i5 i6 i7 i8 i9 i10 i11 i12
  cases a5 : fstK 5 l with
  | some i =>
   rw [a5] at i5
   dsimp only at i5
   obtain ⟨hi, hkd⟩ := fstK_some a5
   obtain ⟨a, b, hks⟩ := (hl _ (List.getElem_mem hi)).two (by omega)
   have hm : moveF l r = some (⟨#[97, 110, 100, 45, 108]⟩, l[i], [(withL l i [a, b], r)]) := by simp [moveF, a5, gt_eq hi, hks, kid]
   have hM := more_all g ⟨#[97, 110, 100, 45, 108]⟩ l[i] [(withL l i [a, b], r)] l r d hd (by omega) (by simp) (hrec _ hm) (n + 1) (by omega)
   obtain ⟨rv, rs⟩ := res_of hm hres
   rw [rv] at hV
   rw [rs] at hS
   dsimp only at hV hS
   generalize growL g [(withL l i [a, b], r)] (n + 1) [] = G at hM hV hS
   have w0 := with_classic l i hi [a, b] (by omega) (by simp)
   have w1 := grow3_classic (withL l i [a, b]) (r)
   simp only [List.map_cons, List.map_nil, premRow] at hM w0 w1
   generalize withL l i [a, b] = T0 at *
   clear hrec hres hm rv rs
   generalize (G.ok.map fun ks => Pf.mk ⟨#[97, 110, 100, 45, 108]⟩ l[i] l r ks) = O at *
   generalize G.ok.isSome = B at *
   cases hc : G.cnt with
   | none =>
    rw [hc] at hM hS
    unfold fndT fndO at hM hS
    subst hV hS
    rw [e0] at hM
    ((refine Sg.h ?_); try repeat' ((first | (with_reducible first | refine brA ?_ | refine brE fun _ => ?_ | (refine spl ⟨?_, ?_⟩ <;> intro _)) | refine clo i5 ?_ | refine clo w0 ?_ | refine clo w1 ?_) <;> ((try simp -implicitDefEqProofs [hi, hks]); (try simp -implicitDefEqProofs (disch := first | assumption | (try simp only [lens]); omega -splitDisjunctions) [hi, hks]))))
    repeat' (first | (refine And.intro ?_ ?_) | ((first | refine clo w0 ?_ | refine clo w1 ?_ | refine CT.sub [3, 1, 4, 0] (hc := by simpa using hM) ?_); ((refine Sg.h ?_); try repeat' ((first | (with_reducible first | refine brA ?_ | refine brE fun _ => ?_ | (refine spl ⟨?_, ?_⟩ <;> intro _)) | refine clo w0 ?_ | refine clo w1 ?_) <;> ((try simp -implicitDefEqProofs [hi, hks]); (try simp -implicitDefEqProofs (disch := first | assumption | (try simp only [lens]); omega -splitDisjunctions) [hi, hks]))))))
    all_goals trace_state
   | some C =>
    rw [hc] at hM hS
    unfold fndT fndO at hM hS
    generalize cntC C = C1 at *
    generalize cntR C = C2 at *
    subst hV hS
    rw [e0] at hM
    ((refine Sg.h ?_); try repeat' ((first | (with_reducible first | refine brA ?_ | refine brE fun _ => ?_ | (refine spl ⟨?_, ?_⟩ <;> intro _)) | refine clo i5 ?_ | refine clo w0 ?_ | refine clo w1 ?_) <;> ((try simp -implicitDefEqProofs [hi, hks]); (try simp -implicitDefEqProofs (disch := first | assumption | (try simp only [lens]); omega -splitDisjunctions) [hi, hks]))))
    repeat' (first | (refine And.intro ?_ ?_) | ((first | refine clo w0 ?_ | refine clo w1 ?_ | refine CT.sub [3, 1, 4, 0] (hc := by simpa using hM) ?_); ((refine Sg.h ?_); try repeat' ((first | (with_reducible first | refine brA ?_ | refine brE fun _ => ?_ | (refine spl ⟨?_, ?_⟩ <;> intro _)) | refine clo w0 ?_ | refine clo w1 ?_) <;> ((try simp -implicitDefEqProofs [hi, hks]); (try simp -implicitDefEqProofs (disch := first | assumption | (try simp only [lens]); omega -splitDisjunctions) [hi, hks]))))))
    all_goals trace_state
  | none =>
   rw [a5] at i5
   dsimp only at i5
   cases a4 : fstK 4 l with
   | some i =>
    rw [a4] at i6
    dsimp only at i6
    obtain ⟨hi, hkd⟩ := fstK_some a4
    obtain ⟨a, hks⟩ := (hl _ (List.getElem_mem hi)).one hkd
    have hm : moveF l r = some (⟨#[110, 111, 116, 45, 108]⟩, l[i], [(withL l i [], r ++ [a])]) := by simp [moveF, a5, a4, gt_eq hi, hks, kid]
    have hM := more_all g ⟨#[110, 111, 116, 45, 108]⟩ l[i] [(withL l i [], r ++ [a])] l r d hd (by omega) (by simp) (hrec _ hm) (n + 1) (by omega)
    obtain ⟨rv, rs⟩ := res_of hm hres
    rw [rv] at hV
    rw [rs] at hS
    dsimp only at hV hS
    generalize growL g [(withL l i [], r ++ [a])] (n + 1) [] = G at hM hV hS
    have w0 := callOK_softA (args := [.list (l.map frm), .int .i64 (i : Int), .nilsl]) (with_classic l i hi [] (by omega) (by simp)) (.cons .refl (.cons .refl (.cons .nil .nil)))
    have w1 := Concat_two r [a] (by omega) (by simp)
    have w2 := grow3_classic (withL l i []) (r ++ [a])
    simp only [List.map_cons, List.map_nil, premRow] at hM w0 w1 w2
    generalize withL l i [] = T0 at *
    generalize r ++ [a] = T1 at *
    clear hrec hres hm rv rs
    generalize (G.ok.map fun ks => Pf.mk ⟨#[110, 111, 116, 45, 108]⟩ l[i] l r ks) = O at *
    generalize G.ok.isSome = B at *
    cases hc : G.cnt with
    | none =>
     rw [hc] at hM hS
     unfold fndT fndO at hM hS
     subst hV hS
     rw [e0] at hM
     ((refine Sg.h ?_); try repeat' ((first | (with_reducible first | refine brA ?_ | refine brE fun _ => ?_ | (refine spl ⟨?_, ?_⟩ <;> intro _)) | refine clo i5 ?_ | refine clo i6 ?_ | refine clo w0 ?_ | refine clo w1 ?_ | refine clo w2 ?_) <;> ((try simp -implicitDefEqProofs [hi, hks]); (try simp -implicitDefEqProofs (disch := first | assumption | (try simp only [lens]); omega -splitDisjunctions) [hi, hks]))))
     repeat' (first | (refine And.intro ?_ ?_) | ((first | refine clo w0 ?_ | refine clo w1 ?_ | refine clo w2 ?_ | refine CT.sub [3, 1, 4, 0] (hc := by simpa using hM) ?_); ((refine Sg.h ?_); try repeat' ((first | (with_reducible first | refine brA ?_ | refine brE fun _ => ?_ | (refine spl ⟨?_, ?_⟩ <;> intro _)) | refine clo w0 ?_ | refine clo w1 ?_ | refine clo w2 ?_) <;> ((try simp -implicitDefEqProofs [hi, hks]); (try simp -implicitDefEqProofs (disch := first | assumption | (try simp only [lens]); omega -splitDisjunctions) [hi, hks]))))))
     all_goals trace_state
    | some C =>
     rw [hc] at hM hS
     unfold fndT fndO at hM hS
     generalize cntC C = C1 at *
     generalize cntR C = C2 at *
     subst hV hS
     rw [e0] at hM
     ((refine Sg.h ?_); try repeat' ((first | (with_reducible first | refine brA ?_ | refine brE fun _ => ?_ | (refine spl ⟨?_, ?_⟩ <;> intro _)) | refine clo i5 ?_ | refine clo i6 ?_ | refine clo w0 ?_ | refine clo w1 ?_ | refine clo w2 ?_) <;> ((try simp -implicitDefEqProofs [hi, hks]); (try simp -implicitDefEqProofs (disch := first | assumption | (try simp only [lens]); omega -splitDisjunctions) [hi, hks]))))
     repeat' (first | (refine And.intro ?_ ?_) | ((first | refine clo w0 ?_ | refine clo w1 ?_ | refine clo w2 ?_ | refine CT.sub [3, 1, 4, 0] (hc := by simpa using hM) ?_); ((refine Sg.h ?_); try repeat' ((first | (with_reducible first | refine brA ?_ | refine brE fun _ => ?_ | (refine spl ⟨?_, ?_⟩ <;> intro _)) | refine clo w0 ?_ | refine clo w1 ?_ | refine clo w2 ?_) <;> ((try simp -implicitDefEqProofs [hi, hks]); (try simp -implicitDefEqProofs (disch := first | assumption | (try simp only [lens]); omega -splitDisjunctions) [hi, hks]))))))
     all_goals trace_state
   | none =>
    rw [a4] at i6
    dsimp only at i6
    cases b6 : fstK 6 r with
    | some i =>
     rw [b6] at i7
     dsimp only at i7
     obtain ⟨hi, hkd⟩ := fstK_some b6
     obtain ⟨a, b, hks⟩ := (hr _ (List.getElem_mem hi)).two (by omega)
     have hm : moveF l r = some (⟨#[111, 114, 45, 114]⟩, r[i], [(l, withL r i [a, b])]) := by simp [moveF, a5, a4, b6, gt_eq hi, hks, kid]
     have hM := more_all g ⟨#[111, 114, 45, 114]⟩ r[i] [(l, withL r i [a, b])] l r d hd (by omega) (by simp) (hrec _ hm) (n + 1) (by omega)
     obtain ⟨rv, rs⟩ := res_of hm hres
     rw [rv] at hV
     rw [rs] at hS
     dsimp only at hV hS
     generalize growL g [(l, withL r i [a, b])] (n + 1) [] = G at hM hV hS
     have w0 := with_classic r i hi [a, b] (by omega) (by simp)
     have w1 := grow3_classic (l) (withL r i [a, b])
     simp only [List.map_cons, List.map_nil, premRow] at hM w0 w1
     generalize withL r i [a, b] = T0 at *
     clear hrec hres hm rv rs
     generalize (G.ok.map fun ks => Pf.mk ⟨#[111, 114, 45, 114]⟩ r[i] l r ks) = O at *
     generalize G.ok.isSome = B at *
     cases hc : G.cnt with
     | none =>
      rw [hc] at hM hS
      unfold fndT fndO at hM hS
      subst hV hS
      rw [e0] at hM
      ((refine Sg.h ?_); try repeat' ((first | (with_reducible first | refine brA ?_ | refine brE fun _ => ?_ | (refine spl ⟨?_, ?_⟩ <;> intro _)) | refine clo i5 ?_ | refine clo i6 ?_ | refine clo i7 ?_ | refine clo w0 ?_ | refine clo w1 ?_) <;> ((try simp -implicitDefEqProofs [hi, hks]); (try simp -implicitDefEqProofs (disch := first | assumption | (try simp only [lens]); omega -splitDisjunctions) [hi, hks]))))
      repeat' (first | (refine And.intro ?_ ?_) | ((first | refine clo w0 ?_ | refine clo w1 ?_ | refine CT.sub [3, 1, 4, 0] (hc := by simpa using hM) ?_); ((refine Sg.h ?_); try repeat' ((first | (with_reducible first | refine brA ?_ | refine brE fun _ => ?_ | (refine spl ⟨?_, ?_⟩ <;> intro _)) | refine clo w0 ?_ | refine clo w1 ?_) <;> ((try simp -implicitDefEqProofs [hi, hks]); (try simp -implicitDefEqProofs (disch := first | assumption | (try simp only [lens]); omega -splitDisjunctions) [hi, hks]))))))
      all_goals trace_state
     | some C =>
      rw [hc] at hM hS
      unfold fndT fndO at hM hS
      generalize cntC C = C1 at *
      generalize cntR C = C2 at *
      subst hV hS
      rw [e0] at hM
      ((refine Sg.h ?_); try repeat' ((first | (with_reducible first | refine brA ?_ | refine brE fun _ => ?_ | (refine spl ⟨?_, ?_⟩ <;> intro _)) | refine clo i5 ?_ | refine clo i6 ?_ | refine clo i7 ?_ | refine clo w0 ?_ | refine clo w1 ?_) <;> ((try simp -implicitDefEqProofs [hi, hks]); (try simp -implicitDefEqProofs (disch := first | assumption | (try simp only [lens]); omega -splitDisjunctions) [hi, hks]))))
      repeat' (first | (refine And.intro ?_ ?_) | ((first | refine clo w0 ?_ | refine clo w1 ?_ | refine CT.sub [3, 1, 4, 0] (hc := by simpa using hM) ?_); ((refine Sg.h ?_); try repeat' ((first | (with_reducible first | refine brA ?_ | refine brE fun _ => ?_ | (refine spl ⟨?_, ?_⟩ <;> intro _)) | refine clo w0 ?_ | refine clo w1 ?_) <;> ((try simp -implicitDefEqProofs [hi, hks]); (try simp -implicitDefEqProofs (disch := first | assumption | (try simp only [lens]); omega -splitDisjunctions) [hi, hks]))))))
      all_goals trace_state
    | none =>
     rw [b6] at i7
     dsimp only at i7
     cases b4 : fstK 4 r with
     | some i =>
      rw [b4] at i8
      dsimp only at i8
      obtain ⟨hi, hkd⟩ := fstK_some b4
      obtain ⟨a, hks⟩ := (hr _ (List.getElem_mem hi)).one hkd
      have hm : moveF l r = some (⟨#[110, 111, 116, 45, 114]⟩, r[i], [(l ++ [a], withL r i [])]) := by simp [moveF, a5, a4, b6, b4, gt_eq hi, hks, kid]
      have hM := more_all g ⟨#[110, 111, 116, 45, 114]⟩ r[i] [(l ++ [a], withL r i [])] l r d hd (by omega) (by simp) (hrec _ hm) (n + 1) (by omega)
      obtain ⟨rv, rs⟩ := res_of hm hres
      rw [rv] at hV
      rw [rs] at hS
      dsimp only at hV hS
      generalize growL g [(l ++ [a], withL r i [])] (n + 1) [] = G at hM hV hS
      have w0 := callOK_softA (args := [.list (r.map frm), .int .i64 (i : Int), .nilsl]) (with_classic r i hi [] (by omega) (by simp)) (.cons .refl (.cons .refl (.cons .nil .nil)))
      have w1 := Concat_two l [a] (by omega) (by simp)
      have w2 := grow3_classic (l ++ [a]) (withL r i [])
      simp only [List.map_cons, List.map_nil, premRow] at hM w0 w1 w2
      generalize withL r i [] = T0 at *
      generalize l ++ [a] = T1 at *
      clear hrec hres hm rv rs
      generalize (G.ok.map fun ks => Pf.mk ⟨#[110, 111, 116, 45, 114]⟩ r[i] l r ks) = O at *
      generalize G.ok.isSome = B at *
      cases hc : G.cnt with
      | none =>
       rw [hc] at hM hS
       unfold fndT fndO at hM hS
       subst hV hS
       rw [e0] at hM
       ((refine Sg.h ?_); try repeat' ((first | (with_reducible first | refine brA ?_ | refine brE fun _ => ?_ | (refine spl ⟨?_, ?_⟩ <;> intro _)) | refine clo i5 ?_ | refine clo i6 ?_ | refine clo i7 ?_ | refine clo i8 ?_ | refine clo w0 ?_ | refine clo w1 ?_ | refine clo w2 ?_) <;> ((try simp -implicitDefEqProofs [hi, hks]); (try simp -implicitDefEqProofs (disch := first | assumption | (try simp only [lens]); omega -splitDisjunctions) [hi, hks]))))
       repeat' (first | (refine And.intro ?_ ?_) | ((first | refine clo w0 ?_ | refine clo w1 ?_ | refine clo w2 ?_ | refine CT.sub [3, 1, 4, 0] (hc := by simpa using hM) ?_); ((refine Sg.h ?_); try repeat' ((first | (with_reducible first | refine brA ?_ | refine brE fun _ => ?_ | (refine spl ⟨?_, ?_⟩ <;> intro _)) | refine clo w0 ?_ | refine clo w1 ?_ | refine clo w2 ?_) <;> ((try simp -implicitDefEqProofs [hi, hks]); (try simp -implicitDefEqProofs (disch := first | assumption | (try simp only [lens]); omega -splitDisjunctions) [hi, hks]))))))
       all_goals trace_state
      | some C =>
       rw [hc] at hM hS
       unfold fndT fndO at hM hS
       generalize cntC C = C1 at *
       generalize cntR C = C2 at *
       subst hV hS
       rw [e0] at hM
       ((refine Sg.h ?_); try repeat' ((first | (with_reducible first | refine brA ?_ | refine brE fun _ => ?_ | (refine spl ⟨?_, ?_⟩ <;> intro _)) | refine clo i5 ?_ | refine clo i6 ?_ | refine clo i7 ?_ | refine clo i8 ?_ | refine clo w0 ?_ | refine clo w1 ?_ | refine clo w2 ?_) <;> ((try simp -implicitDefEqProofs [hi, hks]); (try simp -implicitDefEqProofs (disch := first | assumption | (try simp only [lens]); omega -splitDisjunctions) [hi, hks]))))
       repeat' (first | (refine And.intro ?_ ?_) | ((first | refine clo w0 ?_ | refine clo w1 ?_ | refine clo w2 ?_ | refine CT.sub [3, 1, 4, 0] (hc := by simpa using hM) ?_); ((refine Sg.h ?_); try repeat' ((first | (with_reducible first | refine brA ?_ | refine brE fun _ => ?_ | (refine spl ⟨?_, ?_⟩ <;> intro _)) | refine clo w0 ?_ | refine clo w1 ?_ | refine clo w2 ?_) <;> ((try simp -implicitDefEqProofs [hi, hks]); (try simp -implicitDefEqProofs (disch := first | assumption | (try simp only [lens]); omega -splitDisjunctions) [hi, hks]))))))
       all_goals trace_state
     | none =>
      rw [b4] at i8
      dsimp only at i8
      cases b7 : fstK 7 r with
      | some i =>
       rw [b7] at i9
       dsimp only at i9
       obtain ⟨hi, hkd⟩ := fstK_some b7
       obtain ⟨a, b, hks⟩ := (hr _ (List.getElem_mem hi)).two (by omega)
       have hm : moveF l r = some (⟨#[116, 104, 101, 110, 45, 114]⟩, r[i], [(l ++ [a], withL r i [b])]) := by simp [moveF, a5, a4, b6, b4, b7, gt_eq hi, hks, kid]
       have hM := more_all g ⟨#[116, 104, 101, 110, 45, 114]⟩ r[i] [(l ++ [a], withL r i [b])] l r d hd (by omega) (by simp) (hrec _ hm) (n + 1) (by omega)
       obtain ⟨rv, rs⟩ := res_of hm hres
       rw [rv] at hV
       rw [rs] at hS
       dsimp only at hV hS
       generalize growL g [(l ++ [a], withL r i [b])] (n + 1) [] = G at hM hV hS
       have w0 := with_classic r i hi [b] (by omega) (by simp)
       have w1 := Concat_two l [a] (by omega) (by simp)
       have w2 := grow3_classic (l ++ [a]) (withL r i [b])
       simp only [List.map_cons, List.map_nil, premRow] at hM w0 w1 w2
       generalize withL r i [b] = T0 at *
       generalize l ++ [a] = T1 at *
       clear hrec hres hm rv rs
       generalize (G.ok.map fun ks => Pf.mk ⟨#[116, 104, 101, 110, 45, 114]⟩ r[i] l r ks) = O at *
       generalize G.ok.isSome = B at *
       cases hc : G.cnt with
       | none =>
        rw [hc] at hM hS
        unfold fndT fndO at hM hS
        subst hV hS
        rw [e0] at hM
        ((refine Sg.h ?_); try repeat' ((first | (with_reducible first | refine brA ?_ | refine brE fun _ => ?_ | (refine spl ⟨?_, ?_⟩ <;> intro _)) | refine clo i5 ?_ | refine clo i6 ?_ | refine clo i7 ?_ | refine clo i8 ?_ | refine clo i9 ?_ | refine clo w0 ?_ | refine clo w1 ?_ | refine clo w2 ?_) <;> ((try simp -implicitDefEqProofs [hi, hks]); (try simp -implicitDefEqProofs (disch := first | assumption | (try simp only [lens]); omega -splitDisjunctions) [hi, hks]))))
        repeat' (first | (refine And.intro ?_ ?_) | ((first | refine clo w0 ?_ | refine clo w1 ?_ | refine clo w2 ?_ | refine CT.sub [3, 1, 4, 0] (hc := by simpa using hM) ?_); ((refine Sg.h ?_); try repeat' ((first | (with_reducible first | refine brA ?_ | refine brE fun _ => ?_ | (refine spl ⟨?_, ?_⟩ <;> intro _)) | refine clo w0 ?_ | refine clo w1 ?_ | refine clo w2 ?_) <;> ((try simp -implicitDefEqProofs [hi, hks]); (try simp -implicitDefEqProofs (disch := first | assumption | (try simp only [lens]); omega -splitDisjunctions) [hi, hks]))))))
        all_goals trace_state
       | some C =>
        rw [hc] at hM hS
        unfold fndT fndO at hM hS
        generalize cntC C = C1 at *
        generalize cntR C = C2 at *
        subst hV hS
        rw [e0] at hM
        ((refine Sg.h ?_); try repeat' ((first | (with_reducible first | refine brA ?_ | refine brE fun _ => ?_ | (refine spl ⟨?_, ?_⟩ <;> intro _)) | refine clo i5 ?_ | refine clo i6 ?_ | refine clo i7 ?_ | refine clo i8 ?_ | refine clo i9 ?_ | refine clo w0 ?_ | refine clo w1 ?_ | refine clo w2 ?_) <;> ((try simp -implicitDefEqProofs [hi, hks]); (try simp -implicitDefEqProofs (disch := first | assumption | (try simp only [lens]); omega -splitDisjunctions) [hi, hks]))))
        repeat' (first | (refine And.intro ?_ ?_) | ((first | refine clo w0 ?_ | refine clo w1 ?_ | refine clo w2 ?_ | refine CT.sub [3, 1, 4, 0] (hc := by simpa using hM) ?_); ((refine Sg.h ?_); try repeat' ((first | (with_reducible first | refine brA ?_ | refine brE fun _ => ?_ | (refine spl ⟨?_, ?_⟩ <;> intro _)) | refine clo w0 ?_ | refine clo w1 ?_ | refine clo w2 ?_) <;> ((try simp -implicitDefEqProofs [hi, hks]); (try simp -implicitDefEqProofs (disch := first | assumption | (try simp only [lens]); omega -splitDisjunctions) [hi, hks]))))))
        all_goals trace_state
      | none =>
       rw [b7] at i9
       dsimp only at i9
       cases b5 : fstK 5 r with
       | some i =>
        rw [b5] at i10
        dsimp only at i10
        obtain ⟨hi, hkd⟩ := fstK_some b5
        obtain ⟨a, b, hks⟩ := (hr _ (List.getElem_mem hi)).two (by omega)
        have hm : moveF l r = some (⟨#[97, 110, 100, 45, 114]⟩, r[i], [(l, withL r i [a]), (l, withL r i [b])]) := by simp [moveF, a5, a4, b6, b4, b7, b5, gt_eq hi, hks, kid]
        have hM := more_all g ⟨#[97, 110, 100, 45, 114]⟩ r[i] [(l, withL r i [a]), (l, withL r i [b])] l r d hd (by omega) (by simp) (hrec _ hm) (n + 1) (by omega)
        obtain ⟨rv, rs⟩ := res_of hm hres
        rw [rv] at hV
        rw [rs] at hS
        dsimp only at hV hS
        generalize growL g [(l, withL r i [a]), (l, withL r i [b])] (n + 1) [] = G at hM hV hS
        have w0 := with_classic r i hi [a] (by omega) (by simp)
        have w1 := with_classic r i hi [b] (by omega) (by simp)
        have w2 := grow3_classic (l) (withL r i [a])
        have w3 := grow3_classic (l) (withL r i [b])
        simp only [List.map_cons, List.map_nil, premRow] at hM w0 w1 w2 w3
        generalize withL r i [a] = T0 at *
        generalize withL r i [b] = T1 at *
        clear hrec hres hm rv rs
        generalize (G.ok.map fun ks => Pf.mk ⟨#[97, 110, 100, 45, 114]⟩ r[i] l r ks) = O at *
        generalize G.ok.isSome = B at *
        cases hc : G.cnt with
        | none =>
         rw [hc] at hM hS
         unfold fndT fndO at hM hS
         subst hV hS
         rw [e0] at hM
         ((refine Sg.h ?_); try repeat' ((first | (with_reducible first | refine brA ?_ | refine brE fun _ => ?_ | (refine spl ⟨?_, ?_⟩ <;> intro _)) | refine clo i5 ?_ | refine clo i6 ?_ | refine clo i7 ?_ | refine clo i8 ?_ | refine clo i9 ?_ | refine clo i10 ?_ | refine clo w0 ?_ | refine clo w1 ?_ | refine clo w2 ?_ | refine clo w3 ?_) <;> ((try simp -implicitDefEqProofs [hi, hks]); (try simp -implicitDefEqProofs (disch := first | assumption | (try simp only [lens]); omega -splitDisjunctions) [hi, hks]))))
         repeat' (first | (refine And.intro ?_ ?_) | ((first | refine clo w0 ?_ | refine clo w1 ?_ | refine clo w2 ?_ | refine clo w3 ?_ | refine CT.sub [3, 1, 4, 0] (hc := by simpa using hM) ?_); ((refine Sg.h ?_); try repeat' ((first | (with_reducible first | refine brA ?_ | refine brE fun _ => ?_ | (refine spl ⟨?_, ?_⟩ <;> intro _)) | refine clo w0 ?_ | refine clo w1 ?_ | refine clo w2 ?_ | refine clo w3 ?_) <;> ((try simp -implicitDefEqProofs [hi, hks]); (try simp -implicitDefEqProofs (disch := first | assumption | (try simp only [lens]); omega -splitDisjunctions) [hi, hks]))))))
         all_goals trace_state
        | some C =>
         rw [hc] at hM hS
         unfold fndT fndO at hM hS
         generalize cntC C = C1 at *
         generalize cntR C = C2 at *
         subst hV hS
         rw [e0] at hM
         ((refine Sg.h ?_); try repeat' ((first | (with_reducible first | refine brA ?_ | refine brE fun _ => ?_ | (refine spl ⟨?_, ?_⟩ <;> intro _)) | refine clo i5 ?_ | refine clo i6 ?_ | refine clo i7 ?_ | refine clo i8 ?_ | refine clo i9 ?_ | refine clo i10 ?_ | refine clo w0 ?_ | refine clo w1 ?_ | refine clo w2 ?_ | refine clo w3 ?_) <;> ((try simp -implicitDefEqProofs [hi, hks]); (try simp -implicitDefEqProofs (disch := first | assumption | (try simp only [lens]); omega -splitDisjunctions) [hi, hks]))))
         repeat' (first | (refine And.intro ?_ ?_) | ((first | refine clo w0 ?_ | refine clo w1 ?_ | refine clo w2 ?_ | refine clo w3 ?_ | refine CT.sub [3, 1, 4, 0] (hc := by simpa using hM) ?_); ((refine Sg.h ?_); try repeat' ((first | (with_reducible first | refine brA ?_ | refine brE fun _ => ?_ | (refine spl ⟨?_, ?_⟩ <;> intro _)) | refine clo w0 ?_ | refine clo w1 ?_ | refine clo w2 ?_ | refine clo w3 ?_) <;> ((try simp -implicitDefEqProofs [hi, hks]); (try simp -implicitDefEqProofs (disch := first | assumption | (try simp only [lens]); omega -splitDisjunctions) [hi, hks]))))))
         all_goals trace_state
       | none =>
        rw [b5] at i10
        dsimp only at i10
        cases a6 : fstK 6 l with
        | some i =>
         rw [a6] at i11
         dsimp only at i11
         obtain ⟨hi, hkd⟩ := fstK_some a6
         obtain ⟨a, b, hks⟩ := (hl _ (List.getElem_mem hi)).two (by omega)
         have hm : moveF l r = some (⟨#[111, 114, 45, 108]⟩, l[i], [(withL l i [a], r), (withL l i [b], r)]) := by simp [moveF, a5, a4, b6, b4, b7, b5, a6, gt_eq hi, hks, kid]
         have hM := more_all g ⟨#[111, 114, 45, 108]⟩ l[i] [(withL l i [a], r), (withL l i [b], r)] l r d hd (by omega) (by simp) (hrec _ hm) (n + 1) (by omega)
         obtain ⟨rv, rs⟩ := res_of hm hres
         rw [rv] at hV
         rw [rs] at hS
         dsimp only at hV hS
         generalize growL g [(withL l i [a], r), (withL l i [b], r)] (n + 1) [] = G at hM hV hS
         have w0 := with_classic l i hi [a] (by omega) (by simp)
         have w1 := with_classic l i hi [b] (by omega) (by simp)
         have w2 := grow3_classic (withL l i [a]) (r)
         have w3 := grow3_classic (withL l i [b]) (r)
         simp only [List.map_cons, List.map_nil, premRow] at hM w0 w1 w2 w3
         generalize withL l i [a] = T0 at *
         generalize withL l i [b] = T1 at *
         clear hrec hres hm rv rs
         generalize (G.ok.map fun ks => Pf.mk ⟨#[111, 114, 45, 108]⟩ l[i] l r ks) = O at *
         generalize G.ok.isSome = B at *
         cases hc : G.cnt with
         | none =>
          rw [hc] at hM hS
          unfold fndT fndO at hM hS
          subst hV hS
          rw [e0] at hM
          ((refine Sg.h ?_); try repeat' ((first | (with_reducible first | refine brA ?_ | refine brE fun _ => ?_ | (refine spl ⟨?_, ?_⟩ <;> intro _)) | refine clo i5 ?_ | refine clo i6 ?_ | refine clo i7 ?_ | refine clo i8 ?_ | refine clo i9 ?_ | refine clo i10 ?_ | refine clo i11 ?_ | refine clo w0 ?_ | refine clo w1 ?_ | refine clo w2 ?_ | refine clo w3 ?_) <;> ((try simp -implicitDefEqProofs [hi, hks]); (try simp -implicitDefEqProofs (disch := first | assumption | (try simp only [lens]); omega -splitDisjunctions) [hi, hks]))))
          repeat' (first | (refine And.intro ?_ ?_) | ((first | refine clo w0 ?_ | refine clo w1 ?_ | refine clo w2 ?_ | refine clo w3 ?_ | refine CT.sub [3, 1, 4, 0] (hc := by simpa using hM) ?_); ((refine Sg.h ?_); try repeat' ((first | (with_reducible first | refine brA ?_ | refine brE fun _ => ?_ | (refine spl ⟨?_, ?_⟩ <;> intro _)) | refine clo w0 ?_ | refine clo w1 ?_ | refine clo w2 ?_ | refine clo w3 ?_) <;> ((try simp -implicitDefEqProofs [hi, hks]); (try simp -implicitDefEqProofs (disch := first | assumption | (try simp only [lens]); omega -splitDisjunctions) [hi, hks]))))))
          all_goals trace_state
         | some C =>
          rw [hc] at hM hS
          unfold fndT fndO at hM hS
          generalize cntC C = C1 at *
          generalize cntR C = C2 at *
          subst hV hS
          rw [e0] at hM
          ((refine Sg.h ?_); try repeat' ((first | (with_reducible first | refine brA ?_ | refine brE fun _ => ?_ | (refine spl ⟨?_, ?_⟩ <;> intro _)) | refine clo i5 ?_ | refine clo i6 ?_ | refine clo i7 ?_ | refine clo i8 ?_ | refine clo i9 ?_ | refine clo i10 ?_ | refine clo i11 ?_ | refine clo w0 ?_ | refine clo w1 ?_ | refine clo w2 ?_ | refine clo w3 ?_) <;> ((try simp -implicitDefEqProofs [hi, hks]); (try simp -implicitDefEqProofs (disch := first | assumption | (try simp only [lens]); omega -splitDisjunctions) [hi, hks]))))
          repeat' (first | (refine And.intro ?_ ?_) | ((first | refine clo w0 ?_ | refine clo w1 ?_ | refine clo w2 ?_ | refine clo w3 ?_ | refine CT.sub [3, 1, 4, 0] (hc := by simpa using hM) ?_); ((refine Sg.h ?_); try repeat' ((first | (with_reducible first | refine brA ?_ | refine brE fun _ => ?_ | (refine spl ⟨?_, ?_⟩ <;> intro _)) | refine clo w0 ?_ | refine clo w1 ?_ | refine clo w2 ?_ | refine clo w3 ?_) <;> ((try simp -implicitDefEqProofs [hi, hks]); (try simp -implicitDefEqProofs (disch := first | assumption | (try simp only [lens]); omega -splitDisjunctions) [hi, hks]))))))
          all_goals trace_state
        | none =>
         rw [a6] at i11
         dsimp only at i11
         cases a7 : fstK 7 l with
         | some i =>
          rw [a7] at i12
          dsimp only at i12
          obtain ⟨hi, hkd⟩ := fstK_some a7
          obtain ⟨a, b, hks⟩ := (hl _ (List.getElem_mem hi)).two (by omega)
          have hm : moveF l r = some (⟨#[116, 104, 101, 110, 45, 108]⟩, l[i], [(withL l i [], r ++ [a]), (withL l i [b], r)]) := by simp [moveF, a5, a4, b6, b4, b7, b5, a6, a7, gt_eq hi, hks, kid]
          have hM := more_all g ⟨#[116, 104, 101, 110, 45, 108]⟩ l[i] [(withL l i [], r ++ [a]), (withL l i [b], r)] l r d hd (by omega) (by simp) (hrec _ hm) (n + 1) (by omega)
          obtain ⟨rv, rs⟩ := res_of hm hres
          rw [rv] at hV
          rw [rs] at hS
          dsimp only at hV hS
          generalize growL g [(withL l i [], r ++ [a]), (withL l i [b], r)] (n + 1) [] = G at hM hV hS
          have w0 := callOK_softA (args := [.list (l.map frm), .int .i64 (i : Int), .nilsl]) (with_classic l i hi [] (by omega) (by simp)) (.cons .refl (.cons .refl (.cons .nil .nil)))
          have w1 := with_classic l i hi [b] (by omega) (by simp)
          have w2 := Concat_two r [a] (by omega) (by simp)
          have w3 := grow3_classic (withL l i []) (r ++ [a])
          have w4 := grow3_classic (withL l i [b]) (r)
          simp only [List.map_cons, List.map_nil, premRow] at hM w0 w1 w2 w3 w4
          generalize withL l i [] = T0 at *
          generalize withL l i [b] = T1 at *
          generalize r ++ [a] = T2 at *
          clear hrec hres hm rv rs
          generalize (G.ok.map fun ks => Pf.mk ⟨#[116, 104, 101, 110, 45, 108]⟩ l[i] l r ks) = O at *
          generalize G.ok.isSome = B at *
          cases hc : G.cnt with
          | none =>
           rw [hc] at hM hS
           unfold fndT fndO at hM hS
           subst hV hS
           rw [e0] at hM
           ((refine Sg.h ?_); try repeat' ((first | (with_reducible first | refine brA ?_ | refine brE fun _ => ?_ | (refine spl ⟨?_, ?_⟩ <;> intro _)) | refine clo i5 ?_ | refine clo i6 ?_ | refine clo i7 ?_ | refine clo i8 ?_ | refine clo i9 ?_ | refine clo i10 ?_ | refine clo i11 ?_ | refine clo i12 ?_ | refine clo w0 ?_ | refine clo w1 ?_ | refine clo w2 ?_ | refine clo w3 ?_ | refine clo w4 ?_) <;> ((try simp -implicitDefEqProofs [hi, hks]); (try simp -implicitDefEqProofs (disch := first | assumption | (try simp only [lens]); omega -splitDisjunctions) [hi, hks]))))
           repeat' (first | (refine And.intro ?_ ?_) | ((first | refine clo w0 ?_ | refine clo w1 ?_ | refine clo w2 ?_ | refine clo w3 ?_ | refine clo w4 ?_ | refine CT.sub [3, 1, 4, 0] (hc := by simpa using hM) ?_); ((refine Sg.h ?_); try repeat' ((first | (with_reducible first | refine brA ?_ | refine brE fun _ => ?_ | (refine spl ⟨?_, ?_⟩ <;> intro _)) | refine clo w0 ?_ | refine clo w1 ?_ | refine clo w2 ?_ | refine clo w3 ?_ | refine clo w4 ?_) <;> ((try simp -implicitDefEqProofs [hi, hks]); (try simp -implicitDefEqProofs (disch := first | assumption | (try simp only [lens]); omega -splitDisjunctions) [hi, hks]))))))
           all_goals trace_state
          | some C =>
           rw [hc] at hM hS
           unfold fndT fndO at hM hS
           generalize cntC C = C1 at *
           generalize cntR C = C2 at *
           subst hV hS
           rw [e0] at hM
           ((refine Sg.h ?_); try repeat' ((first | (with_reducible first | refine brA ?_ | refine brE fun _ => ?_ | (refine spl ⟨?_, ?_⟩ <;> intro _)) | refine clo i5 ?_ | refine clo i6 ?_ | refine clo i7 ?_ | refine clo i8 ?_ | refine clo i9 ?_ | refine clo i10 ?_ | refine clo i11 ?_ | refine clo i12 ?_ | refine clo w0 ?_ | refine clo w1 ?_ | refine clo w2 ?_ | refine clo w3 ?_ | refine clo w4 ?_) <;> ((try simp -implicitDefEqProofs [hi, hks]); (try simp -implicitDefEqProofs (disch := first | assumption | (try simp only [lens]); omega -splitDisjunctions) [hi, hks]))))
           repeat' (first | (refine And.intro ?_ ?_) | ((first | refine clo w0 ?_ | refine clo w1 ?_ | refine clo w2 ?_ | refine clo w3 ?_ | refine clo w4 ?_ | refine CT.sub [3, 1, 4, 0] (hc := by simpa using hM) ?_); ((refine Sg.h ?_); try repeat' ((first | (with_reducible first | refine brA ?_ | refine brE fun _ => ?_ | (refine spl ⟨?_, ?_⟩ <;> intro _)) | refine clo w0 ?_ | refine clo w1 ?_ | refine clo w2 ?_ | refine clo w3 ?_ | refine clo w4 ?_) <;> ((try simp -implicitDefEqProofs [hi, hks]); (try simp -implicitDefEqProofs (disch := first | assumption | (try simp only [lens]); omega -splitDisjunctions) [hi, hks]))))))
           all_goals trace_state
         | none =>
          rw [a7] at i12
          dsimp only at i12
          have hm : moveF l r = none := by simp [moveF, a5, a4, b6, b4, b7, b5, a6, a7]
          rw [hm] at hres
          dsimp only at hres
          subst hres
          dsimp only at hV hS
          rw [rowO_n] at hV
          unfold fndO fndT at hS
          have hvl := varsL_le l
          unfold noPf at hV
          dsimp only [Option.isSome_none] at hV
          clear hrec
          ((refine Sg.h ?_); try repeat' ((first | (with_reducible first | refine brA ?_ | refine brE fun _ => ?_ | (refine spl ⟨?_, ?_⟩ <;> intro _)) | refine clo i5 ?_ | refine clo i6 ?_ | refine clo i7 ?_ | refine clo i8 ?_ | refine clo i9 ?_ | refine clo i10 ?_ | refine clo i11 ?_ | refine clo i12 ?_) <;> ((try simp -implicitDefEqProofs); (try simp -implicitDefEqProofs (disch := first | assumption | (try simp only [lens]); omega -splitDisjunctions)))))
          refine W_of fun Q hQ => ?_
          have main : ∀ j i, i + j = l.length → Q [(4, .ptr 2 0 0), (8, .ptr 3 0 0), (342, .list (l.map frm)), (343, .int .i64 (l.length : Int)), (344, .int .i64 (i : Int))] [.rows 3 [[.int .i64 ((n : Int) + 1), .sl 1 0 (varsL (l.take i)).length, .bool true]], .rows 1 ((varsL (l.take i)).map strRow), .rows 1 [[.ptr 0 0 0]], .rows 7 [[.str ⟨#[]⟩, .int .i64 0, .str ⟨#[]⟩, .nilsl, .nilsl, .nilsl, .nilsl]]] := by
           intro j
           induction j with
           | zero =>
            intro i hi
            obtain rfl : i = l.length := by omega
            rw [List.take_length]
            unfold cntR cntC at hS
            have hcl := compL_length (sortL (varsL l))
            rw [sortL_length] at hcl
            generalize varsL l = VV at *
            apply hQ
            clear hQ
            ((refine Sg.h ?_); try repeat' ((first | (with_reducible first | refine brA ?_ | refine brE fun _ => ?_ | (refine spl ⟨?_, ?_⟩ <;> intro _))) <;> ((try simp -implicitDefEqProofs); (try simp -implicitDefEqProofs (disch := first | assumption | (try simp only [lens]); omega -splitDisjunctions)))))
            refine CL.of (sort_strs' VV rfl rfl (by omega)) ?_
            ((refine Sg.h ?_); try repeat' ((first | (with_reducible first | refine brA ?_ | refine brE fun _ => ?_ | (refine spl ⟨?_, ?_⟩ <;> intro _))) <;> ((try simp -implicitDefEqProofs); (try simp -implicitDefEqProofs (disch := first | assumption | (try simp only [lens]); omega -splitDisjunctions)))))
            refine CT.of (compact_strs' (sortL VV) rfl (sortL_length VV) (by omega)) ?_
            subst hV hS
            ((refine Sg.h ?_); try repeat' ((first | (with_reducible first | refine brA ?_ | refine brE fun _ => ?_ | (refine spl ⟨?_, ?_⟩ <;> intro _))) <;> ((try simp -implicitDefEqProofs); (try simp -implicitDefEqProofs (disch := first | assumption | (try simp only [lens]); omega -splitDisjunctions)))))
           | succ j ih =>
            intro i hi
            have hil : i < l.length := by omega
            have ih := ih (i + 1) (by omega)
            have hv0 : (varsL (l.take i)).length ≤ i := Nat.le_trans (varsL_le _) (by rw [List.length_take]; omega)
            have hv1 : varsL [l[i]] = if l[i].kind = 1 then [l[i].name] else [] := by unfold varsL; rw [List.filter_cons, List.filter_nil]; split <;> simp_all
            rw [take_snoc hil, varsL_append, hv1] at ih
            generalize varsL (l.take i) = V1 at *
            apply hQ
            clear hQ
            by_cases hk : l[i].kind = 1
            ·simp only [hk, if_true] at ih
             ((refine Sg.h ?_); try repeat' ((first | (with_reducible first | refine brA ?_ | refine brE fun _ => ?_ | (refine spl ⟨?_, ?_⟩ <;> intro _))) <;> ((try simp -implicitDefEqProofs [hil, hk]); (try simp -implicitDefEqProofs (disch := first | assumption | (try simp only [lens]); omega -splitDisjunctions) [hil, hk]))))
             all_goals first | exact ih | (refine at2 ih ?_ ?_ <;> simp [strRow]; done) | (exfalso; first | omega | (simp_all; done) | (simp_all; omega))
            ·simp only [hk, if_false, List.append_nil] at ih
             ((refine Sg.h ?_); try repeat' ((first | (with_reducible first | refine brA ?_ | refine brE fun _ => ?_ | (refine spl ⟨?_, ?_⟩ <;> intro _))) <;> ((try simp -implicitDefEqProofs [hil, hk]); (try simp -implicitDefEqProofs (disch := first | assumption | (try simp only [lens]); omega -splitDisjunctions) [hil, hk]))))
             all_goals first | exact ih | (refine at2 ih ?_ ?_ <;> simp [strRow]; done) | (exfalso; first | omega | (simp_all; done) | (simp_all; omega))
          refine at2 (main _ 0 (Nat.zero_add _)) ?_ ?_ <;> simp [varsL]
end Go.Proofs.Ytnoklmapofogeaa
