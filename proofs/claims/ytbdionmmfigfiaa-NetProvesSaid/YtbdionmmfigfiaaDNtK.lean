import Derived.Test.YtbdionmmfigfiaaDNtJ
set_option linter.unusedVariables false
set_option linter.unusedSimpArgs false
set_option maxRecDepth 100000
set_option maxHeartbeats 4000000
namespace Go.Proofs.Ytbdionmmfigfiaa
open Go Go.Pv
section
variable {C : WC} {d : Option Tmp} {fid : FuncId} {vs : List PV} {e : AE} {s s2 : Store} {K : KS} {v : PV} {ops : List LOp}
theorem cd_sub [EnT C.P fid] (ρ : List Nat) (hc : CallOK C.P fid (vs.map (renN ρ 4)) (liveS ρ s ρ) v s2) (hk : O C .dr ops (updA e d (upN (ρ ++ List.range' s.length (s2.length - ρ.length)) 4 v)) (backS ρ s s2) K)
  (hnd : ρ.Nodup := by simp) (hin : ∀ i ∈ ρ,i < s.length := by simp) (hlen : ρ.length ≤ s2.length := by simp) : CD C d (some (fid,vs)) ops e s K := by
 refine .of (CallOK.sub ρ hnd hin hlen ?_) hk
 have : ∀ L : List Nat,liveS ρ s L = L.map fun i => renObj ρ ((s[i]?).getD .dead) := by
  intro L; induction L with
  | nil => rfl
  | cons t r ih => rw [List.map_cons,← ih]; rfl
 rw [← this]; exact hc
end
noncomputable def rtU (u : List Nat) (x : Nat) : Nat := open Classical in if h : ∃ r,Root u x r then h.choose else x
def Good (u : List Nat) : Prop := ∀ x,x < u.length → ∃ r,Root u x r
theorem Good.root {u : List Nat} (h : Good u) {x : Nat} (hx : x < u.length) : Root u x (rtU u x) := by
 unfold rtU
 rw [dif_pos (h x hx)]
 exact (h x hx).choose_spec
theorem Root.uniq {u : List Nat} {x r r' : Nat} (h : Root u x r) : Root u x r' → r = r' := by
 induction h with
 | base h =>
  intro h'
  cases h' with
  | base _ => rfl
  | step h1 hn _ => rw [h] at h1; exact absurd (Option.some.inj h1).symm hn
 | step h hn _ ih =>
  intro h'
  cases h' with
  | base h1 => rw [h] at h1; exact absurd (Option.some.inj h1) hn
  | step h1 _ hr => rw [h] at h1; cases h1; exact ih hr
theorem rtU_eq {u : List Nat} {x r : Nat} (h : Root u x r) : rtU u x = r := by
 have h2 : ∃ r,Root u x r := ⟨r,h⟩
 unfold rtU
 rw [dif_pos h2]
 exact h2.choose_spec.uniq h
noncomputable def joinU (u : List Nat) (a b : Nat) : List Nat := u.set (rtU u a) (rtU u b)
@[simp] theorem joinU_len (u : List Nat) (a b : Nat) : (joinU u a b).length = u.length := by unfold joinU; simp
theorem joinU_root {u : List Nat} (hu : Good u) {a b x : Nat} (ha : a < u.length) (hb : b < u.length) (hx : x < u.length) : Root (joinU u a b) x (if rtU u x = rtU u a then rtU u b else rtU u x) := by
 have h1 := hu.root ha
 have h2 := hu.root hb
 have h3 := hu.root hx
 unfold joinU
 by_cases h : rtU u a = rtU u b
 ·have e : u.set (rtU u a) (rtU u b) = u := by
   rw [← h]
   obtain ⟨h4,h5⟩ := List.getElem?_eq_some_iff.1 h1.end
   apply List.ext_getElem
   ·simp
   ·intro i g1 g2
    rw [List.getElem_set]
    split
    ·rename_i e; subst e; exact h5.symm
    ·rfl
  rw [e]
  split
  ·rename_i h6; rw [← h,← h6]; exact h3
  ·exact h3
 ·exact h3.join h1.end h2.end h
theorem joinU_good {u : List Nat} (hu : Good u) {a b : Nat} (ha : a < u.length) (hb : b < u.length) : Good (joinU u a b) := fun x hx => ⟨_,joinU_root hu ha hb (by simpa using hx)⟩
theorem joinU_rt {u : List Nat} (hu : Good u) {a b x : Nat} (ha : a < u.length) (hb : b < u.length) (hx : x < u.length) : rtU (joinU u a b) x = if rtU u x = rtU u a then rtU u b else rtU u x := rtU_eq (joinU_root hu ha hb hx)
theorem range_good (n : Nat) : Good (List.range n) := fun x hx => ⟨x,.base (by rw [List.length_range] at hx; rw [List.getElem?_range hx])⟩
theorem range_rt {n x : Nat} (h : x < n) : rtU (List.range n) x = x := rtU_eq (.base (List.getElem?_range h))
noncomputable def edgU : List (Nat × Nat) → List Nat → Option (List Nat)
 | [],u => some u
 | e :: r,u => if rtU u e.1 = rtU u e.2 then none else edgU r (joinU u e.1 e.2)
noncomputable def rdyU (u : List Nat) (p : Nat × Nat × Nat) : Bool := decide (rtU u p.2.1 = rtU u p.2.2 ∧ rtU u p.2.1 ≠ rtU u p.1)
noncomputable def parU : Nat → List (Nat × Nat × Nat) → List Nat → Option (List Nat)
 | 0,_,_ => none
 | n + 1,ps,u => if ps = [] then some u else match ps.findIdx? (rdyU u) with
  | none => none
  | some i => parU n (ps.eraseIdx i) (joinU u ps[i]!.1 ps[i]!.2.1)
def x37_L9 : XC := .seq (.reg [⟨some 137,.binOp .lss 3 (.tmp 136) (.tmp 135) 3,none⟩]) (.seq (.cond (.tmp 137) .skip (.exit 9)) (.seq (.block 10 (.seq (.reg [⟨some 138,.move (.tmp 136),none⟩,⟨some 14,.assign (.tmp 138),none⟩]) (.seq (.drawn 34 [⟨some 139,.load 85 (.tmp 5),none⟩,⟨some 140,.move (.tmp 14),none⟩,⟨some 141,.call ⟨.value (.func 59),#[.tmp 139,.tmp 140],#[85,3]⟩,none⟩,⟨some 142,.load 85 (.tmp 5),none⟩,⟨some 143,.call ⟨.value (.func 59),#[.tmp 142,.const (.int .i64 0)],#[85,3]⟩,none⟩,⟨some 144,.binOp .neq 3 (.tmp 141) (.tmp 143) 3,none⟩]) (.cond (.tmp 144) (.seq (.reg [⟨some 4,.assign (.const (.bool false)),none⟩]) .ret) .skip)))) (.reg [⟨some 145,.binOp .add 3 (.tmp 136) (.const (.int .i64 1)) 3,none⟩,⟨some 136,.move (.tmp 145),none⟩])))
def x37_T7 : XC := .seq (.seq (.reg [⟨some 134,.load 85 (.tmp 5),none⟩,⟨some 135,.call ⟨.builtin .len,#[.tmp 134],#[85]⟩,none⟩,⟨some 136,.move (.const (.int .i64 0)),none⟩]) (.bloop 9 x37_L9)) (.seq (.reg [⟨some 4,.assign (.const (.bool true)),none⟩]) .ret)
def x37_L7 : XC := .seq (.seq (.reg [⟨some 104,.move (.tmp 10),none⟩,⟨some 105,.call ⟨.builtin .len,#[.tmp 104],#[67]⟩,none⟩,⟨some 106,.binOp .gtr 3 (.tmp 105) (.const (.int .i64 0)) 3,none⟩]) (.cond (.tmp 106) .skip (.exit 7))) (.block 8 (.seq (.reg [⟨some 107,.move (.tmp 10),none⟩,⟨some 108,.makeFunc (.func 61) #[] #[.tmp 5,.tmp 2],none⟩,⟨some 109,.call ⟨.value (.func 60),#[.tmp 107,.tmp 108],#[67,88]⟩,none⟩,⟨some 13,.assign (.tmp 109),none⟩]) (.seq (.seq (.reg [⟨some 110,.move (.tmp 13),none⟩,⟨some 111,.binOp .lss 3 (.tmp 110) (.const (.int .i64 0)) 3,none⟩]) (.cond (.tmp 111) (.seq (.reg [⟨some 4,.assign (.const (.bool false)),none⟩]) .ret) .skip)) (.seq (.drawn 29 [⟨some 112,.move (.tmp 7),none⟩,⟨some 113,.move (.tmp 10),none⟩,⟨some 114,.move (.tmp 13),none⟩,⟨some 115,.indexAddr 67 (.tmp 113) (.tmp 114),none⟩,⟨some 116,.load 3 (.tmp 115),none⟩,⟨some 117,.load 61 (.tmp 2),none⟩,⟨some 118,.nilCheck (.tmp 117),none⟩,⟨some 119,.fieldAddr 84 (.tmp 118) 1,none⟩,⟨some 120,.load 25 (.tmp 119),none⟩,⟨some 121,.move (.tmp 10),none⟩,⟨some 122,.move (.tmp 13),none⟩,⟨some 123,.indexAddr 67 (.tmp 121) (.tmp 122),none⟩,⟨some 124,.load 3 (.tmp 123),none⟩,⟨some 125,.indexAddr 25 (.tmp 120) (.tmp 124),none⟩,⟨some 126,.indexAddr 33 (.tmp 125) (.const (.int .i64 0)),none⟩,⟨some 127,.load 3 (.tmp 126),none⟩,⟨some 128,.call ⟨.value (.tmp 112),#[.tmp 116,.tmp 127],#[3,3]⟩,none⟩]) (.reg [⟨some 129,.move (.tmp 10),none⟩,⟨some 130,.move (.tmp 13),none⟩,⟨some 131,.move (.tmp 13),none⟩,⟨some 132,.binOp .add 3 (.tmp 131) (.const (.int .i64 1)) 3,none⟩,⟨some 133,.call ⟨.value (.func 62),#[.tmp 129,.tmp 130,.tmp 132],#[67,3,3]⟩,none⟩,⟨some 10,.assign (.tmp 133),none⟩])))))
def x37_T5 : XC := .seq (.bloop 7 x37_L7) (x37_T7)
def x37_L4 : XC := .seq (.reg [⟨some 64,.binOp .lss 3 (.tmp 63) (.tmp 62) 3,none⟩]) (.seq (.cond (.tmp 64) .skip (.exit 4)) (.seq (.block 5 (.seq (.reg [⟨some 65,.move (.tmp 63),none⟩,⟨some 66,.indexAddr 67 (.tmp 61) (.tmp 63),none⟩,⟨some 67,.load 3 (.tmp 66),none⟩,⟨some 11,.assign (.tmp 65),none⟩,⟨some 12,.assign (.tmp 67),none⟩]) (.seq (.reg [⟨some 68,.move (.tmp 12),none⟩]) (.block 6 (.seq (.reg [⟨some 70,.binOp .eql 3 (.tmp 68) (.const (.int .i64 2)) 3,none⟩,⟨some 69,.assign (.tmp 70),none⟩]) (.cond (.tmp 69) (.seq (.reg [⟨some 71,.move (.tmp 7),none⟩,⟨some 72,.move (.tmp 11),none⟩,⟨some 73,.load 61 (.tmp 2),none⟩,⟨some 74,.nilCheck (.tmp 73),none⟩,⟨some 75,.fieldAddr 84 (.tmp 74) 1,none⟩,⟨some 76,.load 25 (.tmp 75),none⟩,⟨some 77,.move (.tmp 11),none⟩,⟨some 78,.indexAddr 25 (.tmp 76) (.tmp 77),none⟩,⟨some 79,.indexAddr 33 (.tmp 78) (.const (.int .i64 0)),none⟩,⟨some 80,.load 3 (.tmp 79),none⟩,⟨some 81,.call ⟨.value (.tmp 71),#[.tmp 72,.tmp 80],#[3,3]⟩,none⟩,⟨some 82,.unOp .not 4 (.tmp 81),none⟩,⟨some 83,.move (.tmp 82),none⟩,⟨some 84,.move (.tmp 7),some (some 83,false)⟩,⟨some 85,.move (.tmp 11),some (some 83,false)⟩,⟨some 86,.load 61 (.tmp 2),some (some 83,false)⟩,⟨some 87,.nilCheck (.tmp 86),some (some 83,false)⟩,⟨some 88,.fieldAddr 84 (.tmp 87) 1,some (some 83,false)⟩,⟨some 89,.load 25 (.tmp 88),some (some 83,false)⟩,⟨some 90,.move (.tmp 11),some (some 83,false)⟩,⟨some 91,.indexAddr 25 (.tmp 89) (.tmp 90),some (some 83,false)⟩,⟨some 92,.indexAddr 33 (.tmp 91) (.const (.int .i64 1)),some (some 83,false)⟩,⟨some 93,.load 3 (.tmp 92),some (some 83,false)⟩,⟨some 94,.call ⟨.value (.tmp 84),#[.tmp 85,.tmp 93],#[3,3]⟩,some (some 83,false)⟩,⟨some 95,.unOp .not 4 (.tmp 94),some (some 83,false)⟩,⟨some 96,.pick (.tmp 83) (.const (.bool true)) (.tmp 95),none⟩]) (.cond (.tmp 96) (.seq (.reg [⟨some 4,.assign (.const (.bool false)),none⟩]) .ret) .skip)) (.seq (.reg [⟨some 98,.binOp .eql 3 (.tmp 68) (.const (.int .i64 3)) 3,none⟩,⟨some 97,.assign (.tmp 98),none⟩]) (.cond (.tmp 97) (.reg [⟨some 99,.move (.tmp 10),none⟩,⟨some 100,.move (.tmp 11),none⟩,⟨some 101,.buildSlice 67 1 #[(0,.tmp 100)],none⟩,⟨some 102,.call ⟨.builtin .append,#[.tmp 99,.tmp 101],#[67,67]⟩,none⟩,⟨some 10,.assign (.tmp 102),none⟩]) .skip)))))))) (.reg [⟨some 103,.binOp .add 3 (.tmp 63) (.const (.int .i64 1)) 3,none⟩,⟨some 63,.move (.tmp 103),none⟩])))
def x37_T3 : XC := .seq (.reg [⟨some 10,.assign (.const (.slice none 0 0)),none⟩]) (.seq (.seq (.reg [⟨some 58,.load 61 (.tmp 2),none⟩,⟨some 59,.nilCheck (.tmp 58),none⟩,⟨some 60,.fieldAddr 84 (.tmp 59) 0,none⟩,⟨some 61,.load 67 (.tmp 60),none⟩,⟨some 62,.call ⟨.builtin .len,#[.tmp 61],#[67]⟩,none⟩,⟨some 63,.move (.const (.int .i64 0)),none⟩]) (.bloop 4 x37_L4)) (x37_T5))
def x37_L2 : XC := .seq (.reg [⟨some 35,.binOp .lss 3 (.tmp 34) (.tmp 33) 3,none⟩]) (.seq (.cond (.tmp 35) .skip (.exit 2)) (.seq (.block 3 (.seq (.reg [⟨some 36,.indexAddr 25 (.tmp 32) (.tmp 34),none⟩,⟨some 37,.load 33 (.tmp 36),none⟩,⟨some 9,.alloc 33,none⟩,⟨none,.store 33 (.tmp 9) (.tmp 37),none⟩]) (.seq (.drawn 11 [⟨some 38,.move (.tmp 7),none⟩,⟨some 39,.load 61 (.tmp 2),none⟩,⟨some 40,.nilCheck (.tmp 39),none⟩,⟨some 41,.fieldAddr 84 (.tmp 40) 2,none⟩,⟨some 42,.load 67 (.tmp 41),none⟩,⟨some 43,.indexAddr 33 (.tmp 9) (.const (.int .i64 0)),none⟩,⟨some 44,.load 3 (.tmp 43),none⟩,⟨some 45,.indexAddr 67 (.tmp 42) (.tmp 44),none⟩,⟨some 46,.load 3 (.tmp 45),none⟩,⟨some 47,.load 61 (.tmp 2),none⟩,⟨some 48,.nilCheck (.tmp 47),none⟩,⟨some 49,.fieldAddr 84 (.tmp 48) 2,none⟩,⟨some 50,.load 67 (.tmp 49),none⟩,⟨some 51,.indexAddr 33 (.tmp 9) (.const (.int .i64 1)),none⟩,⟨some 52,.load 3 (.tmp 51),none⟩,⟨some 53,.indexAddr 67 (.tmp 50) (.tmp 52),none⟩,⟨some 54,.load 3 (.tmp 53),none⟩,⟨some 55,.call ⟨.value (.tmp 38),#[.tmp 46,.tmp 54],#[3,3]⟩,none⟩,⟨some 56,.unOp .not 4 (.tmp 55),none⟩]) (.cond (.tmp 56) (.seq (.reg [⟨some 4,.assign (.const (.bool false)),none⟩]) .ret) .skip)))) (.reg [⟨some 57,.binOp .add 3 (.tmp 34) (.const (.int .i64 1)) 3,none⟩,⟨some 34,.move (.tmp 57),none⟩])))
def x37_T1 : XC := .seq (.reg [⟨some 31,.makeFunc (.func 58) #[] #[.tmp 5],none⟩,⟨some 7,.assign (.tmp 31),none⟩]) (.seq (.seq (.reg [⟨some 32,.move (.tmp 1),none⟩,⟨some 33,.call ⟨.builtin .len,#[.tmp 32],#[25]⟩,none⟩,⟨some 34,.move (.const (.int .i64 0)),none⟩]) (.bloop 2 x37_L2)) (x37_T3))
def x37_L0 : XC := .seq (.reg [⟨some 24,.binOp .lss 3 (.tmp 23) (.tmp 22) 3,none⟩]) (.seq (.cond (.tmp 24) .skip (.exit 0)) (.seq (.block 1 (.seq (.reg [⟨some 25,.move (.tmp 23),none⟩,⟨some 6,.assign (.tmp 25),none⟩]) (.reg [⟨some 26,.load 85 (.tmp 5),none⟩,⟨some 27,.move (.tmp 6),none⟩,⟨some 28,.move (.tmp 6),none⟩,⟨some 29,.indexAddr 85 (.tmp 26) (.tmp 27),none⟩,⟨none,.store 3 (.tmp 29) (.tmp 28),none⟩]))) (.reg [⟨some 30,.binOp .add 3 (.tmp 23) (.const (.int .i64 1)) 3,none⟩,⟨some 23,.move (.tmp 30),none⟩])))
def x37 : XC := .seq (.reg [⟨some 2,.box 61 (.tmp 0),none⟩,⟨some 4,.assign (.const (.bool false)),none⟩]) (.seq (.reg [⟨some 15,.load 61 (.tmp 2),none⟩,⟨some 16,.nilCheck (.tmp 15),none⟩,⟨some 17,.fieldAddr 84 (.tmp 16) 0,none⟩,⟨some 18,.load 67 (.tmp 17),none⟩,⟨some 19,.call ⟨.builtin .len,#[.tmp 18],#[67]⟩,none⟩,⟨some 20,.makeSlice 85 (.tmp 19) (.tmp 19),none⟩,⟨some 5,.alloc 85,none⟩,⟨none,.store 85 (.tmp 5) (.tmp 20),none⟩]) (.seq (.seq (.reg [⟨some 21,.load 85 (.tmp 5),none⟩,⟨some 22,.call ⟨.builtin .len,#[.tmp 21],#[85]⟩,none⟩,⟨some 23,.move (.const (.int .i64 0)),none⟩]) (.bloop 0 x37_L0)) (x37_T1)))
@[simp] theorem x37_s {C e s K} : type_of% (@X_at C e s K _ _ x37_L9.eq_1) ∧ type_of% (@X_at C e s K _ _ x37_T7.eq_1) ∧ type_of% (@X_at C e s K _ _ x37_L7.eq_1) ∧ type_of% (@X_at C e s K _ _ x37_T5.eq_1) ∧ type_of% (@X_at C e s K _ _ x37_L4.eq_1) ∧ type_of% (@X_at C e s K _ _ x37_T3.eq_1) ∧ type_of% (@X_at C e s K _ _ x37_L2.eq_1) ∧ type_of% (@X_at C e s K _ _ x37_T1.eq_1) ∧ type_of% (@X_at C e s K _ _ x37_L0.eq_1) ∧ type_of% (@X_at C e s K _ _ x37.eq_1) := ⟨X_at x37_L9.eq_1,X_at x37_T7.eq_1,X_at x37_L7.eq_1,X_at x37_T5.eq_1,X_at x37_L4.eq_1,X_at x37_T3.eq_1,X_at x37_L2.eq_1,X_at x37_T1.eq_1,X_at x37_L0.eq_1,X_at x37.eq_1⟩
def an37 : Ann := ⟨[(11,.mix 17),(34,.mix 4)],[(9,[],[5,135,136],[4]),(7,[],[2,5,7,10],[4,5]),(4,[(10,none,1)],[2,5,7,10,61,62,63],[2,4,5,7,10]),(2,[],[2,5,7,32,33,34],[2,4,5,7]),(0,[],[1,2,5,22,23],[1,2,5])],[]⟩
@[simp] theorem an37_a : an37.clsOf 11 = .mix 17 ∧ an37.clsOf 29 = .draw ∧ an37.clsOf 34 = .mix 4 ∧ an37.frzOf 11 = [] ∧ an37.frzOf 29 = [] ∧ an37.frzOf 34 = [] ∧ an37.loopOf 9 = ([],[5,135,136],[4]) ∧ an37.loopOf 7 = ([],[2,5,7,10],[4,5]) ∧ an37.loopOf 4 = ([(10,none,1)],[2,5,7,10,61,62,63],[2,4,5,7,10]) ∧ an37.loopOf 2 = ([],[2,5,7,32,33,34],[2,4,5,7]) ∧ an37.loopOf 0 = ([],[1,2,5,22,23],[1,2,5]) := ⟨rfl,rfl,rfl,rfl,rfl,rfl,rfl,rfl,rfl,rfl,rfl⟩
theorem fi37 : FI Try.prog 37 (cxA an37) x37 [.tmp 4] Try.f37 := fiA Try.func37 mixed
def stU (kd rt : List Int) (lf : List Nat) (ks : List (Int × Int)) (u : List Nat) : Store := [.rows 1 [[.iptr [.list (kd.map intRow),.list (ks.map relRow),.list (lf.map numRow),.list (rt.map intRow)]]],.rows 1 [[.sl 2 0 u.length]],.rows 1 (u.map numRow)]
def tenK : List Int → List (Nat × Nat) → Nat → List (Nat × Nat)
 | k :: r,c :: cs,n => if k = 2 then (n,c.1) :: (n,c.2) :: tenK r cs (n + 1) else tenK r cs (n + 1)
 | _,_,_ => []
def parK : List Int → List (Nat × Nat) → Nat → List (Nat × Nat × Nat)
 | k :: r,c :: cs,n => if k = 3 then (n,c.1,c.2) :: parK r cs (n + 1) else parK r cs (n + 1)
 | _,_,_ => []
noncomputable def endU (u : List Nat) : Bool := decide (∀ x,x < u.length → rtU u x = rtU u 0)
noncomputable def runU (P : List (Nat × Nat × Nat)) : Option (List Nat) → Bool
 | none => false
 | some u => match parU (P.length + 1) P u with
  | none => false
  | some u => endU u
@[simp] theorem runU_none (P : List (Nat × Nat × Nat)) : runU P none = false := rfl
noncomputable def rdyN (ks : List (Int × Int)) (u : List Nat) (n : Nat) : Bool := match ks[n]? with
 | some (x,y) => decide (rtU u x.toNat = rtU u y.toNat ∧ rtU u x.toNat ≠ rtU u n)
 | none => false
theorem findIdx_fst {ks : List (Int × Int)} {u : List Nat} : ∀ P : List (Nat × Nat × Nat),(∀ p ∈ P,ks[p.1]? = some ((p.2.1 : Int),(p.2.2 : Int))) → (P.map (·.1)).findIdx? (rdyN ks u) = P.findIdx? (rdyU u)
 | [],_ => rfl
 | p :: r,h => by
  have e : rdyN ks u p.1 = rdyU u p := by
   unfold rdyN rdyU
   rw [h p (by simp)]
   simp
  rw [List.map_cons,List.findIdx?_cons,List.findIdx?_cons,e,findIdx_fst r fun q hq => h q (by simp [hq])]
theorem correct_net (kd rt : List Int) (lf : List Nat) (ks ax : List (Int × Int)) (E kn : List (Nat × Nat)) (hN : kd.length ≤ 100000) (hE : E.length = ax.length) (hEN : ∀ e ∈ E,e.1 < kd.length ∧ e.2 < kd.length)
  (hax : ∀ i (h : i < ax.length), ∃ p q : Nat, ax[i] = ((p : Int), (q : Int)) ∧ lf[p]? = some (E[i]'(by omega)).1 ∧ lf[q]? = some (E[i]'(by omega)).2) (hkn : kn.length = kd.length)
  (hks : ∀ n (h : n < kd.length), kd[n] = 2 ∨ kd[n] = 3 → ks[n]? = some (((kn[n]'(by omega)).1 : Int), ((kn[n]'(by omega)).2 : Int)) ∧ (kn[n]'(by omega)).1 < kd.length ∧ (kn[n]'(by omega)).2 < kd.length) :
  CallOK Try.prog 37 [.iptr [.list (kd.map intRow),.list (ks.map relRow),.list (lf.map numRow),.list (rt.map intRow)],.list (ax.map relRow)] [] (.bool (runU (parK kd kn 0) (edgU (E ++ tenK kd kn 0) (List.range kd.length)))) [] := by
 obtain ⟨R,hR⟩ : ∃ R,runU (parK kd kn 0) (edgU (E ++ tenK kd kn 0) (List.range kd.length)) = R := ⟨_,rfl⟩
 rw [hR]
 refine fi37.op ?_
 (refine Sg.h ?_;try repeat' ((with_reducible first|refine brA ?_|refine brE fun _=>?_|refine spl ⟨?_,?_⟩<;>intro _)<;> ((try simp -implicitDefEqProofs); (try simp -implicitDefEqProofs(disch:=first|assumption|(try simp only[lens]);omega -splitDisjunctions)))))
 refine W_of fun Q hQ => ?_
 have main : ∀ n i,i + n = kd.length → Q [(1,.list (ax.map relRow)),(2,.ptr 0 0 0),(5,.ptr 1 0 0),(22,.int .i64 (kd.length : Int)),(23,.int .i64 (i : Int))] (stU kd rt lf ks (List.range i ++ List.replicate (kd.length - i) 0)) := by
  intro n
  induction n with
  | zero =>
   intro i hi
   obtain rfl : i = kd.length := by omega
   rw [Nat.sub_self,List.replicate_zero,List.append_nil]
   have hul : (List.range kd.length).length = kd.length := List.length_range
   have hug := range_good kd.length
   unfold stU
   generalize List.range kd.length = u0 at *
   rw [hul]
   apply hQ
   clear hQ
   (refine Sg.h ?_;try repeat' ((with_reducible first|refine brA ?_|refine brE fun _=>?_|refine spl ⟨?_,?_⟩<;>intro _)<;> ((try simp -implicitDefEqProofs); (try simp -implicitDefEqProofs(disch:=first|assumption|(try simp only[lens]);omega -splitDisjunctions)))))
   refine W_of fun Q2 hQ2 => ?_
   have main2 : ∀ n i u,i + n = ax.length → Good u → u.length = kd.length → runU (parK kd kn 0) (edgU (E.drop i ++ tenK kd kn 0) u) = R → Q2 [(2,.ptr 0 0 0),(5,.ptr 1 0 0),(7,.fn (.func 58) [] [.ptr 1 0 0]),(32,.list (ax.map relRow)),(33,.int .i64 (ax.length : Int)),(34,.int .i64 (i : Int))] (stU kd rt lf ks u) := by
    intro n
    induction n with
    | zero =>
     intro i u hi hu hul hR
     rw [List.drop_of_length_le (by omega),List.nil_append] at hR
     unfold stU
     rw [hul]
     apply hQ2
     clear hQ2
     (refine Sg.h ?_;try repeat' ((with_reducible first|refine brA ?_|refine brE fun _=>?_|refine spl ⟨?_,?_⟩<;>intro _)<;> ((try simp -implicitDefEqProofs); (try simp -implicitDefEqProofs(disch:=first|assumption|(try simp only[lens]);omega -splitDisjunctions)))))
     refine W_of fun Q4 hQ4 => ?_
     have main4 : ∀ n i u (P : List (Nat × Nat × Nat)),i + n = kd.length → Good u → u.length = kd.length → P.length ≤ i → (∀ p ∈ P,p.1 < kd.length ∧ p.2.1 < kd.length ∧ p.2.2 < kd.length ∧ ks[p.1]? = some ((p.2.1 : Int),(p.2.2 : Int))) →
       runU (P ++ parK (kd.drop i) (kn.drop i) i) (edgU (tenK (kd.drop i) (kn.drop i) i) u) = R →
       Q4 [(2,.ptr 0 0 0),(5,.ptr 1 0 0),(7,.fn (.func 58) [] [.ptr 1 0 0]),(10,.sl 2 0 P.length),(61,.list (kd.map intRow)),(62,.int .i64 (kd.length : Int)),(63,.int .i64 (i : Int))] [.rows 1 [[.iptr [.list (kd.map intRow),.list (ks.map relRow),.list (lf.map numRow),.list (rt.map intRow)]]],.rows 1 [[.sl 3 0 kd.length]],.rows 1 ((P.map (·.1)).map numRow),.rows 1 (u.map numRow)] := by
      intro n
      induction n with
      | zero =>
       intro i u P hi hu hul hPi hP hR
       rw [List.drop_of_length_le (by omega),List.drop_of_length_le (by omega),show parK [] [] i = [] from rfl,show tenK [] [] i = [] from rfl,List.append_nil,edgU] at hR
       apply hQ4
       clear hQ4
       (refine Sg.h ?_;try repeat' ((with_reducible first|refine brA ?_|refine brE fun _=>?_|refine spl ⟨?_,?_⟩<;>intro _)<;> ((try simp -implicitDefEqProofs); (try simp -implicitDefEqProofs(disch:=first|assumption|(try simp only[lens]);omega -splitDisjunctions)))))
       refine W_of fun Q7 hQ7 => ?_
       have main7 : ∀ n u (P : List (Nat × Nat × Nat)) (junk : List Nat),P.length = n → P.length + junk.length ≤ kd.length → Good u → u.length = kd.length → (∀ p ∈ P,p.1 < kd.length ∧ p.2.1 < kd.length ∧ p.2.2 < kd.length ∧ ks[p.1]? = some ((p.2.1 : Int),(p.2.2 : Int))) →
         (match parU (P.length + 1) P u with | none => false | some u => endU u) = R →
         Q7 [(2,.ptr 0 0 0),(5,.ptr 1 0 0),(7,.fn (.func 58) [] [.ptr 1 0 0]),(10,.sl 2 0 P.length)] [.rows 1 [[.iptr [.list (kd.map intRow),.list (ks.map relRow),.list (lf.map numRow),.list (rt.map intRow)]]],.rows 1 [[.sl 3 0 kd.length]],.rows 1 ((P.map (·.1) ++ junk).map numRow),.rows 1 (u.map numRow)] := by
        intro n
        induction n with
        | zero =>
         intro u P junk hPn hPj hu hul hP hR
         obtain rfl : P = [] := List.eq_nil_of_length_eq_zero hPn
         rw [parU,if_pos rfl] at hR
         dsimp only at hR
         apply hQ7
         clear hQ7
         (refine Sg.h ?_;try repeat' ((with_reducible first|refine brA ?_|refine brE fun _=>?_|refine spl ⟨?_,?_⟩<;>intro _)<;> ((try simp -implicitDefEqProofs); (try simp -implicitDefEqProofs(disch:=first|assumption|(try simp only[lens]);omega -splitDisjunctions)))))
         refine W_of fun Q9 hQ9 => ?_
         have h0 : 0 < kd.length → rtU u 0 < u.length := fun h => (List.getElem?_eq_some_iff.1 (hu.root (x := 0) (by omega)).end).1
         have main9 : ∀ n i,i + n = kd.length → (∀ x,x < i → rtU u x = rtU u 0) → Q9 [(5,.ptr 0 0 0),(135,.int .i64 (kd.length : Int)),(136,.int .i64 (i : Int))] [.rows 1 [[.sl 1 0 kd.length]],.rows 1 (u.map numRow)] := by
          intro n
          induction n with
          | zero =>
           intro i hi hb
           have : R = true := by
            rw [← hR]; unfold endU
            rw [decide_eq_true_eq]
            exact fun x hx => hb x (by omega)
           subst this
           apply hQ9
           clear hQ9
           obtain rfl : i = kd.length := by omega
           (refine Sg.h ?_;try repeat' ((with_reducible first|refine brA ?_|refine brE fun _=>?_|refine spl ⟨?_,?_⟩<;>intro _)<;> ((try simp -implicitDefEqProofs); (try simp -implicitDefEqProofs(disch:=first|assumption|(try simp only[lens]);omega -splitDisjunctions)))))
          | succ n ih9 =>
           intro i hi hb
           have c1 := of_net u i _ (hu.root (x := i) (by omega))
           have c2 := of_net u 0 _ (hu.root (x := 0) (by omega))
           have hik : i < kd.length := by omega
           by_cases he : rtU u i = rtU u 0
           ·have jh := ih9 (i + 1) (by omega) (fun x hx => by
             rcases Nat.lt_or_ge x i with h | h
             ·exact hb x h
             ·obtain rfl : x = i := by omega
              exact he)
            rw [he] at c1
            clear ih9
            generalize rtU u 0 = r0 at *
            apply hQ9
            clear hQ9
            (refine Sg.h ?_;try repeat' ((with_reducible first|refine brA ?_|refine brE fun _=>?_|refine spl ⟨?_,?_⟩<;>intro _)<;> ((try simp -implicitDefEqProofs [hik]); (try simp -implicitDefEqProofs(disch:=first|assumption|(try simp only[lens]);omega -splitDisjunctions) [hik]))))
            refine CM.see c1 (fun t => by simp [← hul]) (flat_int _ _) ?_
            (refine Sg.h ?_;try repeat' ((with_reducible first|refine brA ?_|refine brE fun _=>?_|refine spl ⟨?_,?_⟩<;>intro _)<;> ((try simp -implicitDefEqProofs); (try simp -implicitDefEqProofs(disch:=first|assumption|(try simp only[lens]);omega -splitDisjunctions)))))
            refine CD.see c2 (by simp [← hul]) (flat_int _ _) ?_
            (refine Sg.h ?_;try repeat' ((with_reducible first|refine brA ?_|refine brE fun _=>?_|refine spl ⟨?_,?_⟩<;>intro _)<;> ((try simp -implicitDefEqProofs); (try simp -implicitDefEqProofs(disch:=first|assumption|(try simp only[lens]);omega -splitDisjunctions)))))
            all_goals first | exact jh | (refine at2 jh ?_ ?_ <;> simp; done) | (exfalso; first | omega | (simp_all; done) | (simp_all; omega))
           ·have : R = false := by
             rw [← hR]; unfold endU
             rw [decide_eq_false_iff_not]
             exact fun h => he (h i (by omega))
            subst this
            have he' : ¬ (rtU u i : Int) = (rtU u 0 : Int) := by omega
            generalize rtU u 0 = r0 at *
            generalize rtU u i = r1 at *
            clear ih9
            apply hQ9
            clear hQ9
            (refine Sg.h ?_;try repeat' ((with_reducible first|refine brA ?_|refine brE fun _=>?_|refine spl ⟨?_,?_⟩<;>intro _)<;> ((try simp -implicitDefEqProofs [hik]); (try simp -implicitDefEqProofs(disch:=first|assumption|(try simp only[lens]);omega -splitDisjunctions) [hik]))))
            refine CM.see c1 (fun t => by simp [← hul]) (flat_int _ _) ?_
            (refine Sg.h ?_;try repeat' ((with_reducible first|refine brA ?_|refine brE fun _=>?_|refine spl ⟨?_,?_⟩<;>intro _)<;> ((try simp -implicitDefEqProofs); (try simp -implicitDefEqProofs(disch:=first|assumption|(try simp only[lens]);omega -splitDisjunctions)))))
            refine CD.see c2 (by simp [← hul]) (flat_int _ _) ?_
            (refine Sg.h ?_;try repeat' ((with_reducible first|refine brA ?_|refine brE fun _=>?_|refine spl ⟨?_,?_⟩<;>intro _)<;> ((try simp -implicitDefEqProofs [he']); (try simp -implicitDefEqProofs(disch:=first|assumption|(try simp only[lens]);omega -splitDisjunctions) [he']))))
         all_goals first | exact main9 kd.length 0 (Nat.zero_add _) (fun x hx => by omega) | (refine at2 main9 kd.length 0 (Nat.zero_add _) (fun x hx => by omega) ?_ ?_ <;> simp; done) | (exfalso; first | omega | (simp_all; done) | (simp_all; omega))
        | succ n ih =>
         intro u P junk hPn hPj hu hul hP hR
         rw [parU,if_neg (by intro e; subst e; cases hPn)] at hR
         have hx := IndexFunc_int (P.map (·.1)) (by simp; omega) 61 [.iptr [.list (u.map numRow)],.iptr [.iptr [.list (kd.map intRow),.list (ks.map relRow),.list (lf.map numRow),.list (rt.map intRow)]]] (rdyN ks u) (fun m hm => by
          obtain ⟨p,hp,rfl⟩ := List.mem_map.1 hm
          obtain ⟨b1,b2,b3,b4⟩ := hP p hp
          have := ready_net u (kd.map intRow) (lf.map numRow) (rt.map intRow) ks p.1 p.2.1 p.2.2 _ _ _ b4 (hu.root (by omega)) (hu.root (by omega)) (hu.root (by omega))
          unfold rdyN
          rw [b4]
          simpa using this)
         have hfi := findIdx_fst (ks := ks) (u := u) P fun p hp => (hP p hp).2.2.2
         unfold indexP at hx
         rw [hfi] at hx
         clear hfi
         cases hf : P.findIdx? (rdyU u) with
         | none =>
          rw [hf] at hx hR
          dsimp only at hx hR
          subst hR
          have hL : (P.map (·.1)).length = P.length := by simp
          rw [← hL] at hPn hPj ⊢
          generalize P.map (·.1) = L at *
          have hL0 : 0 < L.length := by omega
          apply hQ7
          clear hQ7 ih
          (refine Sg.h ?_;try repeat' ((with_reducible first|refine brA ?_|refine brE fun _=>?_|refine spl ⟨?_,?_⟩<;>intro _)<;> ((try simp -implicitDefEqProofs [hL0]); (try simp -implicitDefEqProofs(disch:=first|assumption|(try simp only[lens]);omega -splitDisjunctions) [hL0]))))
          refine CL.look (v := .int .i64 (-1)) 6 (by simpa [← hul] using hx) (flat_int _ _) ?_
          (refine Sg.h ?_;try repeat' ((with_reducible first|refine brA ?_|refine brE fun _=>?_|refine spl ⟨?_,?_⟩<;>intro _)<;> ((try simp -implicitDefEqProofs); (try simp -implicitDefEqProofs(disch:=first|assumption|(try simp only[lens]);omega -splitDisjunctions)))))
         | some i =>
          rw [hf] at hx hR
          dsimp only at hx hR
          rw [List.findIdx?_eq_some_iff_getElem] at hf
          obtain ⟨hiP,hrdy,_⟩ := hf
          obtain ⟨b1,b2,b3,b4⟩ := hP _ (List.getElem_mem hiP)
          rw [getElem!_pos P i hiP] at hR
          have hPe : ∀ p ∈ P.eraseIdx i,p.1 < kd.length ∧ p.2.1 < kd.length ∧ p.2.2 < kd.length ∧ ks[p.1]? = some ((p.2.1 : Int),(p.2.2 : Int)) := fun p hp => hP p (List.mem_of_mem_eraseIdx hp)
          have hLe : (P.eraseIdx i).map (·.1) = (P.map (·.1)).eraseIdx i := by rw [List.eraseIdx_eq_take_drop_succ,List.eraseIdx_eq_take_drop_succ]; simp
          have hel : (P.eraseIdx i).length = P.length - 1 := List.length_eraseIdx_of_lt hiP
          have hLi : (P.map (·.1))[i]? = some P[i].1 := by rw [List.getElem?_map,List.getElem?_eq_getElem hiP]; rfl
          obtain ⟨hki,hkv⟩ := List.getElem?_eq_some_iff.1 b4
          generalize P[i] = p0 at *
          obtain ⟨m,a,b⟩ := p0
          dsimp only at *
          have hj := join_net u m a _ _ (hu.root (x := m) (by omega)) (hu.root (x := a) (by omega)) (by omega)
          have hg := joinU_good hu (a := m) (b := a) (by omega) (by omega)
          have hl := joinU_len u m a
          change CallOK _ _ _ _ _ [_,.rows 1 ((joinU u m a).map numRow)] at hj
          rw [hul] at hj hl
          have ih := ih (joinU u m a) (P.eraseIdx i) (0 :: junk) (by omega) (by simp; omega) hg hl hPe (by rw [hel,show P.length - 1 + 1 = P.length by omega]; exact hR)
          rw [hLe,hel] at ih
          have hL : (P.map (·.1)).length = P.length := by simp
          rw [← hL] at hPn hPj hiP ih ⊢
          generalize P.map (·.1) = L at *
          generalize decide (rtU u m ≠ rtU u a) = dc at *
          generalize joinU u m a = u2 at *
          obtain ⟨hLi1,hLi2⟩ := List.getElem?_eq_some_iff.1 hLi
          have hL0 : 0 < L.length := by omega
          have hd := Delete_nums
          apply hQ7
          clear hQ7
          (refine Sg.h ?_;try repeat' ((with_reducible first|refine brA ?_|refine brE fun _=>?_|refine spl ⟨?_,?_⟩<;>intro _)<;> ((try simp -implicitDefEqProofs [hL0]); (try simp -implicitDefEqProofs(disch:=first|assumption|(try simp only[lens]);omega -splitDisjunctions) [hL0]))))
          refine CL.look (v := .int .i64 (i : Int)) 6 (by simpa [← hul] using hx) (flat_int _ _) ?_
          (refine Sg.h ?_;try repeat' ((with_reducible first|refine brA ?_|refine brE fun _=>?_|refine spl ⟨?_,?_⟩<;>intro _)<;> ((try simp -implicitDefEqProofs [hiP,hLi2,hki,hkv]); (try simp -implicitDefEqProofs(disch:=first|assumption|(try simp only[lens]);omega -splitDisjunctions) [hiP,hLi2,hki,hkv]))))
          refine cd_sub [1,3] (hc := by simpa using hj) ?_
          (refine Sg.h ?_;try repeat' ((with_reducible first|refine brA ?_|refine brE fun _=>?_|refine spl ⟨?_,?_⟩<;>intro _)<;> ((try simp -implicitDefEqProofs); (try simp -implicitDefEqProofs(disch:=first|assumption|(try simp only[lens]);omega -splitDisjunctions)))))
          refine CL.of (hd _ 2 L junk i (by simp) hiP) ?_
          (refine Sg.h ?_;try repeat' ((with_reducible first|refine brA ?_|refine brE fun _=>?_|refine spl ⟨?_,?_⟩<;>intro _)<;> ((try simp -implicitDefEqProofs); (try simp -implicitDefEqProofs(disch:=first|assumption|(try simp only[lens]);omega -splitDisjunctions)))))
          refine at2 ih ?_ ?_
          ·simp
          ·simp [numRow]
       refine at2 (main7 P.length u P [] rfl (by simp; omega) hu hul hP hR) ?_ ?_
       ·rfl
       ·simp
      | succ n ih =>
       intro i u P hi hu hul hPi hP hR
       have hil : i < kd.length := by omega
       have hkl : i < kn.length := by omega
       have hk := hks i hil
       rw [List.drop_eq_getElem_cons hil,List.drop_eq_getElem_cons hkl,parK,tenK] at hR
       have ih := ih (i + 1)
       generalize hkk : kd[i] = k at *
       generalize kn[i] = c at *
       obtain ⟨a,b⟩ := c
       dsimp only at *
       by_cases h2 : k = 2
       ·obtain ⟨hk1,ha,hb⟩ := hk (.inl h2)
        obtain ⟨hki,hkv⟩ := List.getElem?_eq_some_iff.1 hk1
        have h3 : ¬ k = 3 := by omega
        rw [if_pos h2,if_neg h3,edgU,edgU] at hR
        dsimp only at hR
        have hj := join_net u i a _ _ (hu.root (x := i) (by omega)) (hu.root (x := a) (by omega)) (by omega)
        have hg := joinU_good hu (a := i) (b := a) (by omega) (by omega)
        have hl := joinU_len u i a
        change CallOK _ _ _ _ _ [_,.rows 1 ((joinU u i a).map numRow)] at hj
        rw [hul] at hj hl
        by_cases hc : rtU u i = rtU u a
        ·rw [if_pos hc,runU_none] at hR
         subst hR
         rw [decide_eq_false (by simpa using hc)] at hj
         generalize joinU u i a = u1 at *
         clear ih
         apply hQ4
         clear hQ4
         (refine Sg.h ?_;try repeat' ((with_reducible first|refine brA ?_|refine brE fun _=>?_|refine spl ⟨?_,?_⟩<;>intro _)<;> ((try simp -implicitDefEqProofs [hil,hkk,h2,h3,hki,hkv]); (try simp -implicitDefEqProofs(disch:=first|assumption|(try simp only[lens]);omega -splitDisjunctions) [hil,hkk,h2,h3,hki,hkv]))))
         refine CL.sub [1,3] (hc := by simpa using hj) ?_
         (refine Sg.h ?_;try repeat' ((with_reducible first|refine brA ?_|refine brE fun _=>?_|refine spl ⟨?_,?_⟩<;>intro _)<;> ((try simp -implicitDefEqProofs); (try simp -implicitDefEqProofs(disch:=first|assumption|(try simp only[lens]);omega -splitDisjunctions)))))
        ·rw [if_neg hc] at hR
         rw [decide_eq_true hc] at hj
         generalize joinU u i a = u1 at *
         have hj2 := join_net u1 i b _ _ (hg.root (x := i) (by omega)) (hg.root (x := b) (by omega)) (by omega)
         have hg2 := joinU_good hg (a := i) (b := b) (by omega) (by omega)
         have hl2 := joinU_len u1 i b
         change CallOK _ _ _ _ _ [_,.rows 1 ((joinU u1 i b).map numRow)] at hj2
         rw [hl] at hj2 hl2
         by_cases hc2 : rtU u1 i = rtU u1 b
         ·rw [if_pos hc2,runU_none] at hR
          subst hR
          rw [decide_eq_false (by simpa using hc2)] at hj2
          generalize joinU u1 i b = u2 at *
          clear ih
          apply hQ4
          clear hQ4
          (refine Sg.h ?_;try repeat' ((with_reducible first|refine brA ?_|refine brE fun _=>?_|refine spl ⟨?_,?_⟩<;>intro _)<;> ((try simp -implicitDefEqProofs [hil,hkk,h2,h3,hki,hkv]); (try simp -implicitDefEqProofs(disch:=first|assumption|(try simp only[lens]);omega -splitDisjunctions) [hil,hkk,h2,h3,hki,hkv]))))
          refine CL.sub [1,3] (hc := by simpa using hj) ?_
          (refine Sg.h ?_;try repeat' ((with_reducible first|refine brA ?_|refine brE fun _=>?_|refine spl ⟨?_,?_⟩<;>intro _)<;> ((try simp -implicitDefEqProofs [hil,hkk,h2,h3,hki,hkv]); (try simp -implicitDefEqProofs(disch:=first|assumption|(try simp only[lens]);omega -splitDisjunctions) [hil,hkk,h2,h3,hki,hkv]))))
          refine CL.sub [1,3] (hc := by simpa using hj2) ?_
          (refine Sg.h ?_;try repeat' ((with_reducible first|refine brA ?_|refine brE fun _=>?_|refine spl ⟨?_,?_⟩<;>intro _)<;> ((try simp -implicitDefEqProofs); (try simp -implicitDefEqProofs(disch:=first|assumption|(try simp only[lens]);omega -splitDisjunctions)))))
         ·rw [if_neg hc2] at hR
          rw [decide_eq_true hc2] at hj2
          generalize joinU u1 i b = u2 at *
          have ih := ih u2 P (by omega) hg2 (by omega) (by omega) hP hR
          apply hQ4
          clear hQ4
          (refine Sg.h ?_;try repeat' ((with_reducible first|refine brA ?_|refine brE fun _=>?_|refine spl ⟨?_,?_⟩<;>intro _)<;> ((try simp -implicitDefEqProofs [hil,hkk,h2,h3,hki,hkv]); (try simp -implicitDefEqProofs(disch:=first|assumption|(try simp only[lens]);omega -splitDisjunctions) [hil,hkk,h2,h3,hki,hkv]))))
          refine CL.sub [1,3] (hc := by simpa using hj) ?_
          (refine Sg.h ?_;try repeat' ((with_reducible first|refine brA ?_|refine brE fun _=>?_|refine spl ⟨?_,?_⟩<;>intro _)<;> ((try simp -implicitDefEqProofs [hil,hkk,h2,h3,hki,hkv]); (try simp -implicitDefEqProofs(disch:=first|assumption|(try simp only[lens]);omega -splitDisjunctions) [hil,hkk,h2,h3,hki,hkv]))))
          refine CL.sub [1,3] (hc := by simpa using hj2) ?_
          (refine Sg.h ?_;try repeat' ((with_reducible first|refine brA ?_|refine brE fun _=>?_|refine spl ⟨?_,?_⟩<;>intro _)<;> ((try simp -implicitDefEqProofs [hil,hkk,h2,h3]); (try simp -implicitDefEqProofs(disch:=first|assumption|(try simp only[lens]);omega -splitDisjunctions) [hil,hkk,h2,h3]))))
          all_goals first | exact ih | (refine at2 ih ?_ ?_ <;> simp; done) | (exfalso; first | omega | (simp_all; done) | (simp_all; omega))
       ·by_cases h3 : k = 3
        ·obtain ⟨hk1,ha,hb⟩ := hk (.inr h3)
         rw [if_neg h2,if_pos h3,← List.singleton_append,← List.append_assoc] at hR
         have ih := ih u (P ++ [(i,a,b)]) (by omega) hu hul (by simp; omega) (fun p hp => by
          rcases List.mem_append.1 hp with hp | hp
          ·exact hP p hp
          ·rw [List.mem_singleton] at hp
           subst hp
           exact ⟨hil,ha,hb,hk1⟩) hR
         have hb8 : (P.length + 1) * 8 ≤ 140737488355328 := by omega
         apply hQ4
         clear hQ4
         (refine Sg.h ?_;try repeat' ((with_reducible first|refine brA ?_|refine brE fun _=>?_|refine spl ⟨?_,?_⟩<;>intro _)<;> ((try simp -implicitDefEqProofs [hil,hkk,h2,h3,hb8]); (try simp -implicitDefEqProofs(disch:=first|assumption|(try simp only[lens]);omega -splitDisjunctions) [hil,hkk,h2,h3,hb8]))))
         refine at2 ih ?_ ?_
         ·simp
         ·simp [numRow]
        ·rw [if_neg h2,if_neg h3] at hR
         have ih := ih u P (by omega) hu hul (by omega) hP hR
         apply hQ4
         clear hQ4
         (refine Sg.h ?_;try repeat' ((with_reducible first|refine brA ?_|refine brE fun _=>?_|refine spl ⟨?_,?_⟩<;>intro _)<;> ((try simp -implicitDefEqProofs [hil,hkk,h2,h3]); (try simp -implicitDefEqProofs(disch:=first|assumption|(try simp only[lens]);omega -splitDisjunctions) [hil,hkk,h2,h3]))))
         all_goals first | exact ih | (refine at2 ih ?_ ?_ <;> simp; done) | (exfalso; first | omega | (simp_all; done) | (simp_all; omega))
     refine at2 (main4 kd.length 0 u [] (Nat.zero_add _) hu hul (Nat.le_refl _) (fun p h => by cases h) hR) ?_ ?_
     ·rfl
     ·rfl
    | succ n ih =>
     intro i u hi hu hul hR
     have hil : i < ax.length := by omega
     have hie : i < E.length := by omega
     obtain ⟨p,q,h1,h2,h3⟩ := hax i hil
     rw [List.drop_eq_getElem_cons hie,List.cons_append,edgU] at hR
     obtain ⟨hb1,hb2⟩ := hEN _ (List.getElem_mem hie)
     have ih := ih (i + 1)
     generalize E[i] = e at *
     obtain ⟨a,b⟩ := e
     dsimp only at *
     obtain ⟨hp,hpe⟩ := List.getElem?_eq_some_iff.1 h2
     obtain ⟨hq,hqe⟩ := List.getElem?_eq_some_iff.1 h3
     have hj := join_net u a b _ _ (hu.root (x := a) (by omega)) (hu.root (x := b) (by omega)) (by omega)
     have hg := joinU_good hu (a := a) (b := b) (by omega) (by omega)
     have hl := joinU_len u a b
     have ih := ih (joinU u a b) (by omega) hg (by omega)
     change CallOK _ _ _ _ _ [_,.rows 1 ((joinU u a b).map numRow)] at hj
     rw [hul] at hj
     unfold stU at ih ⊢
     rw [hl,hul] at ih
     rw [hul]
     by_cases hc : rtU u a = rtU u b
     ·rw [if_pos hc] at hR
      subst hR
      rw [decide_eq_false (by simpa using hc)] at hj
      generalize joinU u a b = u2 at *
      clear ih
      apply hQ2
      clear hQ2
      (refine Sg.h ?_;try repeat' ((with_reducible first|refine brA ?_|refine brE fun _=>?_|refine spl ⟨?_,?_⟩<;>intro _)<;> ((try simp -implicitDefEqProofs [hil,h1,hp,hpe,hq,hqe]); (try simp -implicitDefEqProofs(disch:=first|assumption|(try simp only[lens]);omega -splitDisjunctions) [hil,h1,hp,hpe,hq,hqe]))))
      refine cd_sub [1,2] (hc := by simpa using hj) ?_
      (refine Sg.h ?_;try repeat' ((with_reducible first|refine brA ?_|refine brE fun _=>?_|refine spl ⟨?_,?_⟩<;>intro _)<;> ((try simp -implicitDefEqProofs); (try simp -implicitDefEqProofs(disch:=first|assumption|(try simp only[lens]);omega -splitDisjunctions)))))
     ·rw [if_neg hc] at hR
      have ih := ih hR
      rw [decide_eq_true hc] at hj
      generalize joinU u a b = u2 at *
      apply hQ2
      clear hQ2
      (refine Sg.h ?_;try repeat' ((with_reducible first|refine brA ?_|refine brE fun _=>?_|refine spl ⟨?_,?_⟩<;>intro _)<;> ((try simp -implicitDefEqProofs [hil,h1,hp,hpe,hq,hqe]); (try simp -implicitDefEqProofs(disch:=first|assumption|(try simp only[lens]);omega -splitDisjunctions) [hil,h1,hp,hpe,hq,hqe]))))
      refine cd_sub [1,2] (hc := by simpa using hj) ?_
      (refine Sg.h ?_;try repeat' ((with_reducible first|refine brA ?_|refine brE fun _=>?_|refine spl ⟨?_,?_⟩<;>intro _)<;> ((try simp -implicitDefEqProofs); (try simp -implicitDefEqProofs(disch:=first|assumption|(try simp only[lens]);omega -splitDisjunctions)))))
      all_goals first | exact ih | (refine at2 ih ?_ ?_ <;> simp; done) | (exfalso; first | omega | (simp_all; done) | (simp_all; omega))
   refine at2 (main2 ax.length 0 u0 (Nat.zero_add _) hug hul hR) ?_ ?_
   ·rfl
   ·unfold stU; rw [hul]
  | succ n ih =>
   intro i hi
   have ih := ih (i + 1) (by omega)
   have e : ((List.range i ++ List.replicate (kd.length - i) 0).map numRow).set i [.int .i64 (i : Int)] = (List.range (i + 1) ++ List.replicate (kd.length - (i + 1)) 0).map numRow := by
    rw [show kd.length - i = (kd.length - (i + 1)) + 1 by omega,List.replicate_succ,List.range_succ]
    simp [numRow]
   have hl : (List.range i ++ List.replicate (kd.length - i) 0).length = kd.length := by simp; omega
   have hl2 : (List.range (i + 1) ++ List.replicate (kd.length - (i + 1)) 0).length = kd.length := by simp; omega
   have hik : i < kd.length := by omega
   unfold stU at ih ⊢
   rw [hl2] at ih
   generalize List.range (i + 1) ++ List.replicate (kd.length - (i + 1)) 0 = u2 at *
   generalize List.range i ++ List.replicate (kd.length - i) 0 = u1 at *
   rw [← hl] at hik
   rw [hl]
   apply hQ
   clear hQ
   (refine Sg.h ?_;try repeat' ((with_reducible first|refine brA ?_|refine brE fun _=>?_|refine spl ⟨?_,?_⟩<;>intro _)<;> ((try simp -implicitDefEqProofs [hik,e,hl]); (try simp -implicitDefEqProofs(disch:=first|assumption|(try simp only[lens]);omega -splitDisjunctions) [hik,e,hl]))))
   all_goals first | exact ih | (refine at2 ih ?_ ?_ <;> simp; done) | (exfalso; first | omega | (simp_all; done) | (simp_all; omega))
 refine at2 (main kd.length 0 (Nat.zero_add _)) ?_ ?_
 ·rfl
 ·simp [stU,numRow]
end Go.Proofs.Ytbdionmmfigfiaa
