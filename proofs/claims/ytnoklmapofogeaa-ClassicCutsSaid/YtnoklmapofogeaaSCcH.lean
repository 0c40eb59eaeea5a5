import Derived.Test.YtnoklmapofogeaaSPvOz
import Derived.Test.YtnoklmapofogeaaSPvQg
import Derived.Test.YtnoklmapofogeaaSCcA
set_option linter.unusedVariables false
set_option linter.unusedSimpArgs false
set_option maxRecDepth 100000
set_option maxHeartbeats 4000000
namespace Go.Proofs.Ytnoklmapofogeaa
open Go Go.Pv
def x89 : XC := .seq (.reg [⟨some 4,.alloc 33,none⟩]) (.seq (.reg [⟨some 5,.move (.tmp 0),none⟩,⟨some 6,.move (.tmp 1),none⟩,⟨some 7,.build 33 #[(0,.tmp 5),(1,.tmp 6)],none⟩,⟨none,.store 33 (.tmp 4) (.tmp 7),none⟩]) .ret)
@[simp] theorem x89_s {C e s K} : type_of% (@X_at C e s K _ _ x89.eq_1) := X_at x89.eq_1
def an89 : Ann := ⟨[], [], []⟩
theorem fi89 : FI Try.prog 89 (cxA an89) x89 [.cell 4 33] Try.f89 := fiA Try.func89 mixed
theorem fault_classic (a b : Int) : CallOK Try.prog 89 [.int .i64 a, .int .i64 b] [] (.agg [.int .i64 a, .int .i64 b]) [] := by
 refine fi89.op ?_
 ((refine Sg.h ?_); try repeat' ((first | (with_reducible first | refine brA ?_ | refine brE fun _ => ?_ | (refine spl ⟨?_, ?_⟩ <;> intro _))) <;> ((try simp -implicitDefEqProofs); (try simp -implicitDefEqProofs (disch := first | assumption | (try simp only [lens]); omega -splitDisjunctions)))))
def withL (l : List Fm) (i : Nat) (more : List Fm) : List Fm := l.take i ++ (l.drop (i + 1) ++ more)
def x114 : XC := .seq (.reg [⟨some 6,.assign (.const (.slice none 0 0)),none⟩]) (.seq (.drawn 1 [⟨some 7,.move (.tmp 0),none⟩,⟨some 8,.move (.tmp 1),none⟩,⟨some 9,.slice 22 (.tmp 7) none (some (.tmp 8)) none,none⟩,⟨some 10,.move (.tmp 0),none⟩,⟨some 11,.move (.tmp 1),none⟩,⟨some 12,.binOp .add 3 (.tmp 11) (.const (.int .i64 1)) 3,none⟩,⟨some 13,.slice 22 (.tmp 10) (some (.tmp 12)) none none,none⟩,⟨some 14,.move (.tmp 2),none⟩,⟨some 15,.buildSlice 114 3 #[(0,.tmp 9),(1,.tmp 13),(2,.tmp 14)],none⟩,⟨some 16,.call ⟨.value (.func 69),#[.tmp 15],#[114]⟩,none⟩,⟨some 6,.assign (.tmp 16),none⟩]) .ret)
@[simp] theorem x114_s {C e s K} : type_of% (@X_at C e s K _ _ x114.eq_1) := X_at x114.eq_1
def an114 : Ann := ⟨[(1, .mixz 9)], [], [(1, [2])]⟩
@[simp] theorem an114_a : an114.clsOf 1 = .mixz 9 ∧ an114.frzOf 1 = [2] := ⟨rfl, rfl⟩
theorem fi114 : FI Try.prog 114 (cxA an114) x114 [.tmp 6] Try.f114 := fiA Try.func114 mixed
theorem with_classic (l : List Fm) (i : Nat) (hi : i < l.length) (more : List Fm) (hl : l.length ≤ 100000) (hm : more.length ≤ 100000) : CallOK Try.prog 114 [.list (l.map frm), .int .i64 (i : Int), .list (more.map frm)] [] (.list ((withL l i more).map frm)) [] := by
 have hc := Concat_fms [l.take i, l.drop (i + 1), more] (by simp) (by simp; omega)
 rw [show [l.take i, l.drop (i + 1), more].flatten = withL l i more from by simp [withL]] at hc
 simp only [List.map_cons, List.map_nil, List.map_take, List.map_drop] at hc
 generalize withL l i more = W0 at *
 refine fi114.op ?_
 ((refine Sg.h ?_); try repeat' ((first | (with_reducible first | refine brA ?_ | refine brE fun _ => ?_ | (refine spl ⟨?_, ?_⟩ <;> intro _)) | refine clo hc ?_) <;> ((try simp -implicitDefEqProofs [hi]); (try simp -implicitDefEqProofs (disch := first | assumption | (try simp only [lens]); omega -splitDisjunctions) [hi]))))
def x140_L0 : XC := .seq (.reg [⟨some 9,.binOp .lss 3 (.tmp 8) (.tmp 7) 3,none⟩]) (.seq (.cond (.tmp 9) .skip (.exit 0)) (.seq (.block 1 (.seq (.reg [⟨some 10,.move (.tmp 8),none⟩,⟨some 5,.assign (.tmp 10),none⟩]) (.seq (.reg [⟨some 11,.move (.tmp 1),none⟩,⟨some 12,.move (.tmp 0),none⟩,⟨some 13,.move (.tmp 5),none⟩,⟨some 14,.indexAddr 22 (.tmp 12) (.tmp 13),none⟩,⟨some 15,.load 24 (.tmp 14),none⟩,⟨some 16,.call ⟨.value (.tmp 11),#[.tmp 15],#[24]⟩,none⟩]) (.cond (.tmp 16) (.seq (.reg [⟨some 17,.move (.tmp 5),none⟩,⟨some 4,.assign (.tmp 17),none⟩]) .ret) .skip)))) (.reg [⟨some 18,.binOp .add 3 (.tmp 8) (.const (.int .i64 1)) 3,none⟩,⟨some 8,.move (.tmp 18),none⟩])))
def x140 : XC := .seq (.reg [⟨some 4,.assign (.const (.int .i64 0)),none⟩]) (.seq (.seq (.reg [⟨some 6,.move (.tmp 0),none⟩,⟨some 7,.call ⟨.builtin .len,#[.tmp 6],#[22]⟩,none⟩,⟨some 8,.move (.const (.int .i64 0)),none⟩]) (.bloop 0 x140_L0)) (.seq (.reg [⟨some 4,.assign (.const (.int .i64 (-1))),none⟩]) .ret))
@[simp] theorem x140_s {C e s K} : type_of% (@X_at C e s K _ _ x140_L0.eq_1) ∧ type_of% (@X_at C e s K _ _ x140.eq_1) := ⟨X_at x140_L0.eq_1, X_at x140.eq_1⟩
def an140 : Ann := ⟨[], [(0, [], [0, 1, 7, 8], [4])], []⟩
@[simp] theorem an140_a : an140.loopOf 0 = ([], [0, 1, 7, 8], [4]) := rfl
theorem fi140 : FI Try.prog 140 (cxA an140) x140 [.tmp 4] Try.f140 := fiA Try.func140 mixed
theorem IndexFunc_fms (l : List Fm) (hl : l.length ≤ 1000000) (fid : Nat) [EnT Try.prog fid] (ys : List PV) [hy : FlatL ys] (p : Fm → Bool) (h : ∀ a ∈ l, CallOK Try.prog fid (.agg (frm a) :: ys) [] (.bool (p a)) []) :
  CallOK Try.prog 140 [.list (l.map frm), .fn (.func fid) [] ys] [] (.int .i64 (placeP p l)) [] := by
 have hcl : ∀ a : Fm, ∀ v ∈ .agg (frm a) :: ys, Closed v := by
  intro a v hv
  rcases List.mem_cons.1 hv with rfl | hv
  ·exact closed_frm a
  ·exact hy.closed v hv
 refine fi140.op ?_
 ((refine Sg.h ?_); try repeat' ((first | (with_reducible first | refine brA ?_ | refine brE fun _ => ?_ | (refine spl ⟨?_, ?_⟩ <;> intro _))) <;> ((try simp -implicitDefEqProofs); (try simp -implicitDefEqProofs (disch := first | assumption | (try simp only [lens]); omega -splitDisjunctions)))))
 refine W_of fun Q hQ => ?_
 have main : ∀ n i, i + n = l.length → (∀ j (hj : j < i) (hl : j < l.length), p l[j] = false) → Q [(0, .list (l.map frm)), (1, .fn (.func fid) [] ys), (7, .int .i64 (l.length : Int)), (8, .int .i64 (i : Int))] [] := by
  intro n
  induction n with
  | zero =>
   intro i hi hb
   have hv := placeP_none fun j hj => hb j (by omega) hj
   generalize placeP p l = v at *
   apply hQ
   subst hv
   ((refine Sg.h ?_); try repeat' ((first | (with_reducible first | refine brA ?_ | refine brE fun _ => ?_ | (refine spl ⟨?_, ?_⟩ <;> intro _))) <;> ((try simp -implicitDefEqProofs); (try simp -implicitDefEqProofs (disch := first | assumption | (try simp only [lens]); omega -splitDisjunctions)))))
  | succ n ih =>
   intro i hi hb
   have hil : i < l.length := by omega
   have hc := h _ (List.getElem_mem hil)
   have ih := ih (i + 1) (by omega)
   have hat := fun hp => placeP_at hil hp fun j hj => hb j hj (by omega)
   generalize placeP p l = v at *
   cases hp : p l[i] with
   | true =>
    have hv := hat hp
    rw [hp] at hc
    apply hQ
    clear hQ
    subst hv
    ((refine Sg.h ?_); try repeat' ((first | (with_reducible first | refine brA ?_ | refine brE fun _ => ?_ | (refine spl ⟨?_, ?_⟩ <;> intro _))) <;> ((try simp -implicitDefEqProofs [hil]); (try simp -implicitDefEqProofs (disch := first | assumption | (try simp only [lens]); omega -splitDisjunctions) [hil]))))
    refine CL.clo hc ?_ (hcl _)
    ((refine Sg.h ?_); try repeat' ((first | (with_reducible first | refine brA ?_ | refine brE fun _ => ?_ | (refine spl ⟨?_, ?_⟩ <;> intro _))) <;> ((try simp -implicitDefEqProofs); (try simp -implicitDefEqProofs (disch := first | assumption | (try simp only [lens]); omega -splitDisjunctions)))))
   | false =>
    have ih := ih fun j hj hl => by
     rcases Nat.lt_or_ge j i with hji | hji
     ·exact hb j hji hl
     ·have : j = i := by omega
      subst this; exact hp
    rw [hp] at hc
    apply hQ
    clear hQ
    ((refine Sg.h ?_); try repeat' ((first | (with_reducible first | refine brA ?_ | refine brE fun _ => ?_ | (refine spl ⟨?_, ?_⟩ <;> intro _))) <;> ((try simp -implicitDefEqProofs [hil]); (try simp -implicitDefEqProofs (disch := first | assumption | (try simp only [lens]); omega -splitDisjunctions) [hil]))))
    refine CL.clo hc ?_ (hcl _)
    ((refine Sg.h ?_); try repeat' ((first | (with_reducible first | refine brA ?_ | refine brE fun _ => ?_ | (refine spl ⟨?_, ?_⟩ <;> intro _))) <;> ((try simp -implicitDefEqProofs); (try simp -implicitDefEqProofs (disch := first | assumption | (try simp only [lens]); omega -splitDisjunctions)))))
    all_goals first | exact ih | (refine at2 ih ?_ ?_ <;> simp; done) | (exfalso; first | omega | (simp_all; done) | (simp_all; omega))
 all_goals first | exact main _ 0 (Nat.zero_add _) (fun j hj => by omega) | (refine at2 main _ 0 (Nat.zero_add _) (fun j hj => by omega) ?_ ?_ <;> simp; done) | (exfalso; first | omega | (simp_all; done) | (simp_all; omega))
def x110 : XC := .seq (.reg [⟨some 4,.assign (.const (.bool false)),none⟩]) (.seq (.reg [⟨some 5,.move (.tmp 0),none⟩,⟨some 6,.move (.tmp 1),none⟩,⟨some 7,.call ⟨.value (.func 140),#[.tmp 5,.tmp 6],#[22,61]⟩,none⟩,⟨some 8,.binOp .geq 3 (.tmp 7) (.const (.int .i64 0)) 3,none⟩,⟨some 4,.assign (.tmp 8),none⟩]) .ret)
@[simp] theorem x110_s {C e s K} : type_of% (@X_at C e s K _ _ x110.eq_1) := X_at x110.eq_1
def an110 : Ann := ⟨[], [], []⟩
theorem fi110 : FI Try.prog 110 (cxA an110) x110 [.tmp 4] Try.f110 := fiA Try.func110 mixed
theorem ContainsFunc_fms (l : List Fm) (hl : l.length ≤ 1000000) (fid : Nat) [EnT Try.prog fid] (ys : List PV) [hy : FlatL ys] (p : Fm → Bool) (h : ∀ a ∈ l, CallOK Try.prog fid (.agg (frm a) :: ys) [] (.bool (p a)) []) :
  CallOK Try.prog 110 [.list (l.map frm), .fn (.func fid) [] ys] [] (.bool (decide (0 ≤ placeP p l))) [] := by
 have hc := IndexFunc_fms l hl fid ys p h
 refine fi110.op ?_
 ((refine Sg.h ?_); try repeat' ((first | (with_reducible first | refine brA ?_ | refine brE fun _ => ?_ | (refine spl ⟨?_, ?_⟩ <;> intro _))) <;> ((try simp -implicitDefEqProofs); (try simp -implicitDefEqProofs (disch := first | assumption | (try simp only [lens]); omega -splitDisjunctions)))))
 refine CL.clo hc ?_ (by
  intro v hv
  rcases List.mem_cons.1 hv with rfl | hv
  ·exact closed_list _
  ·rw [List.mem_singleton.1 hv]; exact closed_fn (by simp) hy.closed)
 ((refine Sg.h ?_); try repeat' ((first | (with_reducible first | refine brA ?_ | refine brE fun _ => ?_ | (refine spl ⟨?_, ?_⟩ <;> intro _))) <;> ((try simp -implicitDefEqProofs); (try simp -implicitDefEqProofs (disch := first | assumption | (try simp only [lens]); omega -splitDisjunctions)))))
def x111 : XC := .seq (.reg [⟨some 2,.box 24 (.tmp 0),none⟩,⟨some 3,.assign (.const (.bool false)),none⟩]) (.seq (.reg [⟨some 4,.load 24 (.tmp 1),none⟩,⟨some 5,.load 24 (.tmp 2),none⟩,⟨some 6,.call ⟨.value (.func 106),#[.tmp 4,.tmp 5],#[24,24]⟩,none⟩,⟨some 3,.assign (.tmp 6),none⟩]) .ret)
@[simp] theorem x111_s {C e s K} : type_of% (@X_at C e s K _ _ x111.eq_1) := X_at x111.eq_1
def an111 : Ann := ⟨[], [], []⟩
theorem fi111 : FI Try.prog 111 (cxA an111) x111 [.tmp 3] Try.f111 := fiA Try.func111 mixed
theorem grow4_classic (f g : Fm) : CallOK Try.prog 111 [.agg (frm g), .iptr (frm f)] [] (.bool (sameB f g)) [] := by
 refine fi111.op ?_
 ((refine Sg.h ?_); try repeat' ((first | (with_reducible first | refine brA ?_ | refine brE fun _ => ?_ | (refine spl ⟨?_, ?_⟩ <;> intro _)) | refine clo (Same_formula f g) ?_) <;> ((try simp -implicitDefEqProofs); (try simp -implicitDefEqProofs (disch := first | assumption | (try simp only [lens]); omega -splitDisjunctions)))))
def x112 : XC := .seq (.reg [⟨some 4,.assign (.const (.int .i64 0)),none⟩]) (.seq (.reg [⟨some 5,.move (.tmp 0),none⟩,⟨some 6,.move (.tmp 1),none⟩,⟨some 7,.call ⟨.value (.func 140),#[.tmp 5,.tmp 6],#[22,61]⟩,none⟩,⟨some 4,.assign (.tmp 7),none⟩]) .ret)
@[simp] theorem x112_s {C e s K} : type_of% (@X_at C e s K _ _ x112.eq_1) := X_at x112.eq_1
def an112 : Ann := ⟨[], [], []⟩
theorem fi112 : FI Try.prog 112 (cxA an112) x112 [.tmp 4] Try.f112 := fiA Try.func112 mixed
theorem index_classic (l : List Fm) (hl : l.length ≤ 1000000) (fid : Nat) [EnT Try.prog fid] (p : Fm → Bool) (h : ∀ a ∈ l, CallOK Try.prog fid [.agg (frm a)] [] (.bool (p a)) []) :
  CallOK Try.prog 112 [.list (l.map frm), .fn (.func fid) [] []] [] (.int .i64 (placeP p l)) [] := by
 have hc := IndexFunc_fms l hl fid [] p h
 refine fi112.op ?_
 ((refine Sg.h ?_); try repeat' ((first | (with_reducible first | refine brA ?_ | refine brE fun _ => ?_ | (refine spl ⟨?_, ?_⟩ <;> intro _)) | refine clo hc ?_) <;> ((try simp -implicitDefEqProofs); (try simp -implicitDefEqProofs (disch := first | assumption | (try simp only [lens]); omega -splitDisjunctions)))))
def placeK (k : Int) (l : List Fm) : Int := placeP (fun f => decide (f.kind = k)) l
def x113 : XC := .seq (.reg [⟨some 1,.box 24 (.tmp 0),none⟩,⟨some 2,.assign (.const (.bool false)),none⟩]) (.seq (.reg [⟨some 3,.fieldAddr 24 (.tmp 1) 0,none⟩,⟨some 4,.load 3 (.tmp 3),none⟩,⟨some 5,.binOp .eql 3 (.tmp 4) (.const (.int .i64 5)) 3,none⟩,⟨some 2,.assign (.tmp 5),none⟩]) .ret)
@[simp] theorem x113_s {C e s K} : type_of% (@X_at C e s K _ _ x113.eq_1) := X_at x113.eq_1
def an113 : Ann := ⟨[], [], []⟩
theorem fi113 : FI Try.prog 113 (cxA an113) x113 [.tmp 2] Try.f113 := fiA Try.func113 mixed
theorem at5 (l : List Fm) (hl : l.length ≤ 1000000) : CallOK Try.prog 112 [.list (l.map frm), .fn (.func 113) [] []] [] (.int .i64 (placeK 5 l)) [] := index_classic l hl 113 _ fun f _ => by
 refine fi113.op ?_
 ((refine Sg.h ?_); try repeat' ((first | (with_reducible first | refine brA ?_ | refine brE fun _ => ?_ | (refine spl ⟨?_, ?_⟩ <;> intro _))) <;> ((try simp -implicitDefEqProofs); (try simp -implicitDefEqProofs (disch := first | assumption | (try simp only [lens]); omega -splitDisjunctions)))))
def x115 : XC := .seq (.reg [⟨some 1,.box 24 (.tmp 0),none⟩,⟨some 2,.assign (.const (.bool false)),none⟩]) (.seq (.reg [⟨some 3,.fieldAddr 24 (.tmp 1) 0,none⟩,⟨some 4,.load 3 (.tmp 3),none⟩,⟨some 5,.binOp .eql 3 (.tmp 4) (.const (.int .i64 4)) 3,none⟩,⟨some 2,.assign (.tmp 5),none⟩]) .ret)
@[simp] theorem x115_s {C e s K} : type_of% (@X_at C e s K _ _ x115.eq_1) := X_at x115.eq_1
def an115 : Ann := ⟨[], [], []⟩
theorem fi115 : FI Try.prog 115 (cxA an115) x115 [.tmp 2] Try.f115 := fiA Try.func115 mixed
theorem at6 (l : List Fm) (hl : l.length ≤ 1000000) : CallOK Try.prog 112 [.list (l.map frm), .fn (.func 115) [] []] [] (.int .i64 (placeK 4 l)) [] := index_classic l hl 115 _ fun f _ => by
 refine fi115.op ?_
 ((refine Sg.h ?_); try repeat' ((first | (with_reducible first | refine brA ?_ | refine brE fun _ => ?_ | (refine spl ⟨?_, ?_⟩ <;> intro _))) <;> ((try simp -implicitDefEqProofs); (try simp -implicitDefEqProofs (disch := first | assumption | (try simp only [lens]); omega -splitDisjunctions)))))
def x116 : XC := .seq (.reg [⟨some 1,.box 24 (.tmp 0),none⟩,⟨some 2,.assign (.const (.bool false)),none⟩]) (.seq (.reg [⟨some 3,.fieldAddr 24 (.tmp 1) 0,none⟩,⟨some 4,.load 3 (.tmp 3),none⟩,⟨some 5,.binOp .eql 3 (.tmp 4) (.const (.int .i64 6)) 3,none⟩,⟨some 2,.assign (.tmp 5),none⟩]) .ret)
@[simp] theorem x116_s {C e s K} : type_of% (@X_at C e s K _ _ x116.eq_1) := X_at x116.eq_1
def an116 : Ann := ⟨[], [], []⟩
theorem fi116 : FI Try.prog 116 (cxA an116) x116 [.tmp 2] Try.f116 := fiA Try.func116 mixed
theorem at7 (l : List Fm) (hl : l.length ≤ 1000000) : CallOK Try.prog 112 [.list (l.map frm), .fn (.func 116) [] []] [] (.int .i64 (placeK 6 l)) [] := index_classic l hl 116 _ fun f _ => by
 refine fi116.op ?_
 ((refine Sg.h ?_); try repeat' ((first | (with_reducible first | refine brA ?_ | refine brE fun _ => ?_ | (refine spl ⟨?_, ?_⟩ <;> intro _))) <;> ((try simp -implicitDefEqProofs); (try simp -implicitDefEqProofs (disch := first | assumption | (try simp only [lens]); omega -splitDisjunctions)))))
def x117 : XC := .seq (.reg [⟨some 1,.box 24 (.tmp 0),none⟩,⟨some 2,.assign (.const (.bool false)),none⟩]) (.seq (.reg [⟨some 3,.fieldAddr 24 (.tmp 1) 0,none⟩,⟨some 4,.load 3 (.tmp 3),none⟩,⟨some 5,.binOp .eql 3 (.tmp 4) (.const (.int .i64 4)) 3,none⟩,⟨some 2,.assign (.tmp 5),none⟩]) .ret)
@[simp] theorem x117_s {C e s K} : type_of% (@X_at C e s K _ _ x117.eq_1) := X_at x117.eq_1
def an117 : Ann := ⟨[], [], []⟩
theorem fi117 : FI Try.prog 117 (cxA an117) x117 [.tmp 2] Try.f117 := fiA Try.func117 mixed
theorem at8 (l : List Fm) (hl : l.length ≤ 1000000) : CallOK Try.prog 112 [.list (l.map frm), .fn (.func 117) [] []] [] (.int .i64 (placeK 4 l)) [] := index_classic l hl 117 _ fun f _ => by
 refine fi117.op ?_
 ((refine Sg.h ?_); try repeat' ((first | (with_reducible first | refine brA ?_ | refine brE fun _ => ?_ | (refine spl ⟨?_, ?_⟩ <;> intro _))) <;> ((try simp -implicitDefEqProofs); (try simp -implicitDefEqProofs (disch := first | assumption | (try simp only [lens]); omega -splitDisjunctions)))))
def x118 : XC := .seq (.reg [⟨some 1,.box 24 (.tmp 0),none⟩,⟨some 2,.assign (.const (.bool false)),none⟩]) (.seq (.reg [⟨some 3,.fieldAddr 24 (.tmp 1) 0,none⟩,⟨some 4,.load 3 (.tmp 3),none⟩,⟨some 5,.binOp .eql 3 (.tmp 4) (.const (.int .i64 7)) 3,none⟩,⟨some 2,.assign (.tmp 5),none⟩]) .ret)
@[simp] theorem x118_s {C e s K} : type_of% (@X_at C e s K _ _ x118.eq_1) := X_at x118.eq_1
def an118 : Ann := ⟨[], [], []⟩
theorem fi118 : FI Try.prog 118 (cxA an118) x118 [.tmp 2] Try.f118 := fiA Try.func118 mixed
theorem at9 (l : List Fm) (hl : l.length ≤ 1000000) : CallOK Try.prog 112 [.list (l.map frm), .fn (.func 118) [] []] [] (.int .i64 (placeK 7 l)) [] := index_classic l hl 118 _ fun f _ => by
 refine fi118.op ?_
 ((refine Sg.h ?_); try repeat' ((first | (with_reducible first | refine brA ?_ | refine brE fun _ => ?_ | (refine spl ⟨?_, ?_⟩ <;> intro _))) <;> ((try simp -implicitDefEqProofs); (try simp -implicitDefEqProofs (disch := first | assumption | (try simp only [lens]); omega -splitDisjunctions)))))
def x119 : XC := .seq (.reg [⟨some 1,.box 24 (.tmp 0),none⟩,⟨some 2,.assign (.const (.bool false)),none⟩]) (.seq (.reg [⟨some 3,.fieldAddr 24 (.tmp 1) 0,none⟩,⟨some 4,.load 3 (.tmp 3),none⟩,⟨some 5,.binOp .eql 3 (.tmp 4) (.const (.int .i64 5)) 3,none⟩,⟨some 2,.assign (.tmp 5),none⟩]) .ret)
@[simp] theorem x119_s {C e s K} : type_of% (@X_at C e s K _ _ x119.eq_1) := X_at x119.eq_1
def an119 : Ann := ⟨[], [], []⟩
theorem fi119 : FI Try.prog 119 (cxA an119) x119 [.tmp 2] Try.f119 := fiA Try.func119 mixed
theorem at10 (l : List Fm) (hl : l.length ≤ 1000000) : CallOK Try.prog 112 [.list (l.map frm), .fn (.func 119) [] []] [] (.int .i64 (placeK 5 l)) [] := index_classic l hl 119 _ fun f _ => by
 refine fi119.op ?_
 ((refine Sg.h ?_); try repeat' ((first | (with_reducible first | refine brA ?_ | refine brE fun _ => ?_ | (refine spl ⟨?_, ?_⟩ <;> intro _))) <;> ((try simp -implicitDefEqProofs); (try simp -implicitDefEqProofs (disch := first | assumption | (try simp only [lens]); omega -splitDisjunctions)))))
def x120 : XC := .seq (.reg [⟨some 1,.box 24 (.tmp 0),none⟩,⟨some 2,.assign (.const (.bool false)),none⟩]) (.seq (.reg [⟨some 3,.fieldAddr 24 (.tmp 1) 0,none⟩,⟨some 4,.load 3 (.tmp 3),none⟩,⟨some 5,.binOp .eql 3 (.tmp 4) (.const (.int .i64 6)) 3,none⟩,⟨some 2,.assign (.tmp 5),none⟩]) .ret)
@[simp] theorem x120_s {C e s K} : type_of% (@X_at C e s K _ _ x120.eq_1) := X_at x120.eq_1
def an120 : Ann := ⟨[], [], []⟩
theorem fi120 : FI Try.prog 120 (cxA an120) x120 [.tmp 2] Try.f120 := fiA Try.func120 mixed
theorem at11 (l : List Fm) (hl : l.length ≤ 1000000) : CallOK Try.prog 112 [.list (l.map frm), .fn (.func 120) [] []] [] (.int .i64 (placeK 6 l)) [] := index_classic l hl 120 _ fun f _ => by
 refine fi120.op ?_
 ((refine Sg.h ?_); try repeat' ((first | (with_reducible first | refine brA ?_ | refine brE fun _ => ?_ | (refine spl ⟨?_, ?_⟩ <;> intro _))) <;> ((try simp -implicitDefEqProofs); (try simp -implicitDefEqProofs (disch := first | assumption | (try simp only [lens]); omega -splitDisjunctions)))))
def x121 : XC := .seq (.reg [⟨some 1,.box 24 (.tmp 0),none⟩,⟨some 2,.assign (.const (.bool false)),none⟩]) (.seq (.reg [⟨some 3,.fieldAddr 24 (.tmp 1) 0,none⟩,⟨some 4,.load 3 (.tmp 3),none⟩,⟨some 5,.binOp .eql 3 (.tmp 4) (.const (.int .i64 7)) 3,none⟩,⟨some 2,.assign (.tmp 5),none⟩]) .ret)
@[simp] theorem x121_s {C e s K} : type_of% (@X_at C e s K _ _ x121.eq_1) := X_at x121.eq_1
def an121 : Ann := ⟨[], [], []⟩
theorem fi121 : FI Try.prog 121 (cxA an121) x121 [.tmp 2] Try.f121 := fiA Try.func121 mixed
theorem at12 (l : List Fm) (hl : l.length ≤ 1000000) : CallOK Try.prog 112 [.list (l.map frm), .fn (.func 121) [] []] [] (.int .i64 (placeK 7 l)) [] := index_classic l hl 121 _ fun f _ => by
 refine fi121.op ?_
 ((refine Sg.h ?_); try repeat' ((first | (with_reducible first | refine brA ?_ | refine brE fun _ => ?_ | (refine spl ⟨?_, ?_⟩ <;> intro _))) <;> ((try simp -implicitDefEqProofs); (try simp -implicitDefEqProofs (disch := first | assumption | (try simp only [lens]); omega -splitDisjunctions)))))
def x109 : XC := .seq (.reg [⟨some 4,.alloc 26,none⟩]) (.seq (.reg [⟨some 5,.move (.tmp 0),none⟩,⟨some 6,.move (.tmp 1),none⟩,⟨some 7,.build 26 #[(0,.tmp 5),(1,.tmp 6)],none⟩,⟨none,.store 26 (.tmp 4) (.tmp 7),none⟩]) .ret)
@[simp] theorem x109_s {C e s K} : type_of% (@X_at C e s K _ _ x109.eq_1) := X_at x109.eq_1
def an109 : Ann := ⟨[], [], []⟩
theorem fi109 : FI Try.prog 109 (cxA an109) x109 [.cell 4 26] Try.f109 := fiA Try.func109 mixed
theorem grow3_classic (l r : List Fm) : CallOK Try.prog 109 [.list (l.map frm), .list (r.map frm)] [] (.agg [.list (l.map frm), .list (r.map frm)]) [] := by
 refine fi109.op ?_
 ((refine Sg.h ?_); try repeat' ((first | (with_reducible first | refine brA ?_ | refine brE fun _ => ?_ | (refine spl ⟨?_, ?_⟩ <;> intro _))) <;> ((try simp -implicitDefEqProofs); (try simp -implicitDefEqProofs (disch := first | assumption | (try simp only [lens]); omega -splitDisjunctions)))))
end Go.Proofs.Ytnoklmapofogeaa
namespace Go.Proofs.Ytnoklmapofogeaa
open Go Go.Pv
structure Ent where
 fid : Nat
 ys : List PV
 R : Fm → List Fm → List Fm → List Prem × Bool
abbrev Tab := List (ByteArray × Ent)
def lookT (T : Tab) (a : ByteArray) : Option Ent := (T.find? fun p => decide (a = p.1)).map (·.2)
theorem putP_none {a v : PV} {es : List (PV × PV)} : putP a v es none = es ++ [(a, v)] := rfl
theorem lookT_mem {T : Tab} {a : ByteArray} {e : Ent} (h : lookT T a = some e) : ∃ p ∈ T, p.2 = e := by
 unfold lookT at h
 obtain ⟨p, h1, h2⟩ := Option.map_eq_some_iff.1 h
 exact ⟨p, List.mem_of_find?_eq_some h1, h2⟩
noncomputable def sharedT : Tab := [(⟨#[97, 120]⟩, ⟨145, [], axR⟩), (⟨#[116, 114, 117, 101]⟩, ⟨146, [], trueR⟩), (⟨#[102, 97, 108, 115, 101]⟩, ⟨148, [], falseR⟩), (⟨#[97, 110, 100, 45, 108]⟩, ⟨149, [], andLR⟩), (⟨#[97, 110, 100, 45, 114]⟩, ⟨151, [], andRR⟩), (⟨#[111, 114, 45, 108]⟩, ⟨152, [], orLR⟩), (⟨#[116, 104, 101, 110, 45, 114]⟩, ⟨153, [], thenRR⟩), (⟨#[110, 111, 116, 45, 114]⟩, ⟨154, [], notRR⟩), (⟨#[99, 111, 110, 116, 114, 45, 108]⟩, ⟨155, [], contrLR⟩)]
noncomputable def classT : Tab := [(⟨#[111, 114, 45, 114]⟩, ⟨156, [], orRR⟩), (⟨#[116, 104, 101, 110, 45, 108]⟩, ⟨157, [], thenLR⟩), (⟨#[110, 111, 116, 45, 108]⟩, ⟨158, [], notLR⟩), (⟨#[99, 111, 110, 116, 114, 45, 114]⟩, ⟨159, [], contrRR⟩), (⟨#[99, 117, 116]⟩, ⟨160, [], cutCR⟩)]
noncomputable def intuT : Tab := [(⟨#[111, 114, 45, 114, 49]⟩, ⟨178, [.iptr [.int .i64 (0 : Int)]], (sideR 0)⟩), (⟨#[111, 114, 45, 114, 50]⟩, ⟨178, [.iptr [.int .i64 (1 : Int)]], (sideR 1)⟩), (⟨#[116, 104, 101, 110, 45, 108]⟩, ⟨162, [], thenIR⟩), (⟨#[110, 111, 116, 45, 108]⟩, ⟨163, [], notIR⟩), (⟨#[99, 117, 116]⟩, ⟨164, [], cutIR⟩)]
attribute [local irreducible] X
end Go.Proofs.Ytnoklmapofogeaa
namespace Go.Pv
open Go
inductive Pf where
 | mk (rule : ByteArray) (f : Fm) (l r : List Fm) (kids : List Pf)
 deriving Inhabited
def Pf.rule : Pf → ByteArray | .mk a _ _ _ _ => a
def Pf.f : Pf → Fm | .mk _ a _ _ _ => a
def Pf.l : Pf → List Fm | .mk _ _ a _ _ => a
def Pf.r : Pf → List Fm | .mk _ _ _ a _ => a
def Pf.kids : Pf → List Pf | .mk _ _ _ _ a => a
theorem Pf.ind {P : Pf → Prop} (h : ∀ p, (∀ q ∈ p.kids, P q) → P p) (p : Pf) : P p := by
 refine Pf.rec (motive_1 := P) (motive_2 := fun l => ∀ q ∈ l, P q) (fun a b c d l hl => h _ hl) (fun q hq => by cases hq) (fun a r ha hr q hq => ?_) p
 cases hq with
 | head => exact ha
 | tail _ hq => exact hr q hq
mutual
def prf : Pf → List PV
 | .mk a f l r ks => [.str a, .int .i64 f.kind, .str f.name, .list (f.kids.map frm), .list (l.map frm), .list (r.map frm), .list (prfs ks)]
def prfs : List Pf → List (List PV)
 | [] => []
 | p :: r => prf p :: prfs r
end
theorem prfs_eq (l : List Pf) : prfs l = l.map prf := by
 induction l with
 | nil => rfl
 | cons f r ih => rw [prfs, ih]; rfl
theorem prf_eq (p : Pf) : prf p = [.str p.rule, .int .i64 p.f.kind, .str p.f.name, .list (p.f.kids.map frm), .list (p.l.map frm), .list (p.r.map frm), .list (p.kids.map prf)] := by
 cases p with | mk a f l r ks => rw [prf, prfs_eq]; rfl
section
variable {p : Pf}
theorem prf_flat (p : Pf) : (prf p).all flatV = true := by rw [prf_eq]; rfl
@[simp] theorem prf_length : (prf p).length = 7 := by rw [prf_eq]; rfl
@[simp] theorem prf_cell : (prf p).all isCell = true := by rw [prf_eq]; rfl
@[simp] theorem prf_isCell : (∀ x ∈ prf p, isCell x = true) = True := by rw [prf_eq]; simp
@[simp] theorem prf_take7 : (prf p).take 7 = prf p := List.take_of_length_le (by simp)
@[simp] theorem prf_drop7 : (prf p).drop 7 = [] := List.drop_of_length_le (by simp)
@[simp] theorem prf_get0 : (prf p)[0]? = some (.str p.rule) := by rw [prf_eq]; rfl
@[simp] theorem prf_get1 : (prf p)[1]? = some (.int .i64 p.f.kind) := by rw [prf_eq]; rfl
@[simp] theorem prf_get2 : (prf p)[2]? = some (.str p.f.name) := by rw [prf_eq]; rfl
@[simp] theorem prf_get3 : (prf p)[3]? = some (.list (p.f.kids.map frm)) := by rw [prf_eq]; rfl
@[simp] theorem prf_get4 : (prf p)[4]? = some (.list (p.l.map frm)) := by rw [prf_eq]; rfl
@[simp] theorem prf_get5 : (prf p)[5]? = some (.list (p.r.map frm)) := by rw [prf_eq]; rfl
@[simp] theorem prf_get6 : (prf p)[6]? = some (.list (p.kids.map prf)) := by rw [prf_eq]; rfl
@[simp] theorem prf_ge0 (h : 0 < (prf p).length) : (prf p)[0] = .str p.rule := Option.some.inj ((List.getElem?_eq_getElem h).symm.trans prf_get0)
@[simp] theorem prf_ge6 (h : 6 < (prf p).length) : (prf p)[6] = .list (p.kids.map prf) := Option.some.inj ((List.getElem?_eq_getElem h).symm.trans prf_get6)
@[simp] theorem prf_ge4 (h : 4 < (prf p).length) : (prf p)[4] = .list (p.l.map frm) := Option.some.inj ((List.getElem?_eq_getElem h).symm.trans prf_get4)
@[simp] theorem prf_ge5 (h : 5 < (prf p).length) : (prf p)[5] = .list (p.r.map frm) := Option.some.inj ((List.getElem?_eq_getElem h).symm.trans prf_get5)
@[simp] theorem prf_ge1 (h : 1 < (prf p).length) : (prf p)[1] = .int .i64 p.f.kind := Option.some.inj ((List.getElem?_eq_getElem h).symm.trans prf_get1)
@[simp] theorem prf_ge2 (h : 2 < (prf p).length) : (prf p)[2] = .str p.f.name := Option.some.inj ((List.getElem?_eq_getElem h).symm.trans prf_get2)
@[simp] theorem prf_ge3 (h : 3 < (prf p).length) : (prf p)[3] = .list (p.f.kids.map frm) := Option.some.inj ((List.getElem?_eq_getElem h).symm.trans prf_get3)
@[simp] theorem prf_f : ((prf p).drop 1).take 3 = frm p.f := by rw [prf_eq, frm_eq]; rfl
@[simp] theorem prf_tl : List.take 3 (prf p).tail = frm p.f := by rw [prf_eq, frm_eq]; rfl
@[simp] theorem prf_end : ((prf p).drop 4).take 2 = [.list (p.l.map frm), .list (p.r.map frm)] := by rw [prf_eq]; rfl
@[simp] theorem prf_drop6 : (prf p).drop 6 = [.list (p.kids.map prf)] := by rw [prf_eq]; rfl
@[simp] theorem prf_drop5 : (prf p).drop 5 = [.list (p.r.map frm), .list (p.kids.map prf)] := by rw [prf_eq]; rfl
@[simp] theorem prf_renm {ρ : List Nat} {n : Nat} : (prf p).map (renN ρ n) = prf p := map_id_of (fun v => flat_ren) (prf_flat p)
@[simp] theorem prf_derefm {s : Store} {n : Nat} : (prf p).map (deref s n) = prf p := map_id_of (fun v => flat_deref) (prf_flat p)
@[simp] theorem prf_refs {n : Nat} : (prf p).flatMap (refsN n) = [] := by rw [prf_eq]; simp
@[simp] theorem prf_soft : (prf p).map soft1 = prf p := by rw [prf_eq]; rfl
@[simp] theorem prf_frz {F : List Nat} {s : Store} : (prf p).map (frzV F s) = prf p := map_id_of (fun v => frzV_flat) (prf_flat p)
@[simp] theorem prf_up {ρ : List Nat} {n : Nat} : (prf p).map (upN ρ n) = prf p := map_id_of (fun v => flat_up) (prf_flat p)
instance : FlatRow prf := ⟨prf_flat⟩
@[simp] theorem cl_prf : Closed (.agg (prf p)) := closed_agg (by rw [prf_eq]; simp)
end
end Go.Pv
namespace Go.Proofs.Ytnoklmapofogeaa
open Go Go.Pv
mutual
def cutsP : Pf → Nat
 | .mk a _ _ _ ks => (if a = ⟨#[99, 117, 116]⟩ then 1 else 0) + cutsL ks
def cutsL : List Pf → Nat
 | [] => 0
 | p :: r => cutsP p + cutsL r
end
end Go.Proofs.Ytnoklmapofogeaa
namespace Go.Proofs.Ytnoklmapofogeaa
open Go Go.Pv
noncomputable def sameF (b c : List Fm) : Bool := decide (b.length = c.length) && withinF b c
noncomputable def ruleT (u : Bool) (a : ByteArray) : Option Ent := match lookT sharedT a with
 | some e => some e
 | none => lookT (if u = true then intuT else classT) a
noncomputable def meetB : List Prem → List Pf → Bool
 | q :: qs, k :: ks => sameF q.1 k.l && sameF q.2 k.r && meetB qs ks
 | _, _ => true
noncomputable def stepF (u : Bool) (p : Pf) : Int :=
 if p.rule = ⟨#[119, 101, 97, 107]⟩ then
  if noneF p.f = false then 5 else match p.kids with
   | [k] => if (withinF k.l p.l && withinF k.r p.r) = true then 0 else 7
   | _ => 9
 else match ruleT u p.rule with
  | none => 4
  | some e => if (plainF p.f).1 ≠ 0 then 5 else if (e.R p.f p.l p.r).2 = false then 7 else
   if p.kids.length ≠ (e.R p.f p.l p.r).1.length then 9 else if meetB (e.R p.f p.l p.r).1 p.kids = true then 0 else 7
structure Sz (p : Pf) : Prop where
 l : p.l.length ≤ 40000
 r : p.r.length ≤ 40000
instance : FlatRow premRow := ⟨fun x => rfl⟩
end Go.Proofs.Ytnoklmapofogeaa
namespace Go.Proofs.Ytnoklmapofogeaa
open Go Go.Pv
inductive Szs : Pf → Prop where
 | mk {p : Pf} (h : Sz p) (hk : ∀ k ∈ p.kids, Szs k) (hl : p.kids.length ≤ 1000000) : Szs p
theorem Szs.sz {p : Pf} (h : Szs p) : Sz p := by cases h; assumption
theorem Szs.kid {p k : Pf} (h : Szs p) (hk : k ∈ p.kids) : Szs k := by cases h with | mk a b c => exact b k hk
theorem Szs.len {p : Pf} (h : Szs p) : p.kids.length ≤ 1000000 := by cases h; assumption
mutual
noncomputable def lookF (u : Bool) : Pf → Nat → Int → Nat × (Int × Int)
 | .mk a f l r ks, n, d =>
  if 20000 ≤ n ∨ 400 < d then (n + 1, (2, 0)) else
  if (sequentF l r).1 ≠ 0 ∨ (u = true ∧ 1 < r.length) then (n + 1, (5, (n : Int))) else
  if stepF u (.mk a f l r ks) ≠ 0 then (n + 1, (stepF u (.mk a f l r ks), (n : Int))) else looksF u ks (n + 1) (d + 1)
noncomputable def looksF (u : Bool) : List Pf → Nat → Int → Nat × (Int × Int)
 | [], n, _ => (n, (0, 0))
 | k :: ks, n, d => if (lookF u k n d).2.1 ≠ 0 then lookF u k n d else looksF u ks (lookF u k n d).1 d
end
theorem lookF_eq (u : Bool) (p : Pf) (n : Nat) (d : Int) : lookF u p n d =
  if 20000 ≤ n ∨ 400 < d then (n + 1, (2, 0)) else
  if (sequentF p.l p.r).1 ≠ 0 ∨ (u = true ∧ 1 < p.r.length) then (n + 1, (5, (n : Int))) else
  if stepF u p ≠ 0 then (n + 1, (stepF u p, (n : Int))) else looksF u p.kids (n + 1) (d + 1) := by
 cases p with | mk a f l r ks => rw [lookF]; rfl
noncomputable def checkF (u : Bool) (p : Pf) : Int × Int := (lookF u p 0 1).2
end Go.Proofs.Ytnoklmapofogeaa
