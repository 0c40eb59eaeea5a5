import Derived.Test.YtbdionmmfigfiaaDNtB
set_option linter.unusedVariables false
set_option linter.unusedSimpArgs false
set_option maxRecDepth 100000
set_option maxHeartbeats 4000000
namespace Go.Proofs.Ytbdionmmfigfiaa
open Go Go.Pv
def goL (most : Nat) : Nat → List Ln → List Ln
 | 0,_ => []
 | _ + 1,[] => []
 | n + 1,x :: r => x :: goL most n (x.kids.take most ++ r)
theorem goL_nil (M n : Nat) : goL M n [] = [] := by cases n <;> rfl
theorem goL_take (M : Nat) : ∀ (n : Nat) (st : List Ln),n ≤ M + 1 → goL M n st = (ndLs st).take n := by
 intro n
 induction n with
 | zero => intro st _; simp [goL]
 | succ n ih =>
  intro st h
  cases st with
  | nil => rw [goL_nil,ndLs_nil]; rfl
  | cons x r =>
   rw [goL,ih _ (by omega),ndLs_cons,List.take_succ_cons,ndLs_app]
   congr 1
   rcases Nat.lt_or_ge M x.kids.length with h2 | h2
   ·have h3 := ndLs_le (x.kids.take M)
    rw [List.length_take,Nat.min_eq_left (by omega)] at h3
    rw [List.take_append_of_le_length (by omega)]
    conv => rhs; rw [← List.take_append_drop M x.kids,ndLs_app,List.append_assoc,List.take_append_of_le_length (by omega)]
   ·rw [List.take_of_length_le h2]
def x52_T2 : XC := .seq (.reg [⟨some 55,.move (.tmp 5),none⟩,⟨some 4,.assign (.tmp 55),none⟩]) .ret
def x52_L2 : XC := .seq (.seq (.reg [⟨some 43,.move (.tmp 8),none⟩,⟨some 44,.binOp .geq 3 (.tmp 43) (.const (.int .i64 0)) 3,none⟩]) (.cond (.tmp 44) .skip (.exit 2))) (.seq (.block 3 (.reg [⟨some 47,.move (.tmp 6),none⟩,⟨some 48,.fieldAddr 24 (.tmp 7) 3,none⟩,⟨some 49,.load 22 (.tmp 48),none⟩,⟨some 50,.move (.tmp 8),none⟩,⟨some 51,.indexAddr 22 (.tmp 49) (.tmp 50),none⟩,⟨some 52,.load 24 (.tmp 51),none⟩,⟨some 53,.buildSlice 22 1 #[(0,.tmp 52)],none⟩,⟨some 54,.call ⟨.builtin .append,#[.tmp 47,.tmp 53],#[22,22]⟩,none⟩,⟨some 6,.assign (.tmp 54),none⟩])) (.reg [⟨some 45,.move (.tmp 8),none⟩,⟨some 46,.binOp .sub 3 (.tmp 45) (.const (.int .i64 1)) 3,none⟩,⟨some 8,.assign (.tmp 46),none⟩]))
def x52_L0 : XC := .seq (.seq (.reg [⟨some 13,.move (.tmp 6),none⟩,⟨some 14,.call ⟨.builtin .len,#[.tmp 13],#[22]⟩,none⟩,⟨some 15,.binOp .gtr 3 (.tmp 14) (.const (.int .i64 0)) 3,none⟩,⟨some 16,.move (.tmp 15),none⟩,⟨some 17,.move (.tmp 5),some (some 16,true)⟩,⟨some 18,.call ⟨.builtin .len,#[.tmp 17],#[22]⟩,some (some 16,true)⟩,⟨some 19,.move (.tmp 1),some (some 16,true)⟩,⟨some 20,.binOp .lss 3 (.tmp 18) (.tmp 19) 3,some (some 16,true)⟩,⟨some 21,.pick (.tmp 16) (.tmp 20) (.const (.bool false)),none⟩]) (.cond (.tmp 21) .skip (.exit 0))) (.block 1 (.seq (.reg [⟨some 22,.move (.tmp 6),none⟩,⟨some 23,.move (.tmp 6),none⟩,⟨some 24,.call ⟨.builtin .len,#[.tmp 23],#[22]⟩,none⟩,⟨some 25,.binOp .sub 3 (.tmp 24) (.const (.int .i64 1)) 3,none⟩,⟨some 26,.indexAddr 22 (.tmp 22) (.tmp 25),none⟩,⟨some 27,.load 24 (.tmp 26),none⟩,⟨some 7,.alloc 24,none⟩,⟨none,.store 24 (.tmp 7) (.tmp 27),none⟩]) (.seq (.reg [⟨some 28,.move (.tmp 6),none⟩,⟨some 29,.move (.tmp 6),none⟩,⟨some 30,.call ⟨.builtin .len,#[.tmp 29],#[22]⟩,none⟩,⟨some 31,.binOp .sub 3 (.tmp 30) (.const (.int .i64 1)) 3,none⟩,⟨some 32,.slice 22 (.tmp 28) none (some (.tmp 31)) none,none⟩,⟨some 6,.assign (.tmp 32),none⟩]) (.seq (.reg [⟨some 33,.move (.tmp 5),none⟩,⟨some 34,.load 24 (.tmp 7),none⟩,⟨some 35,.buildSlice 22 1 #[(0,.tmp 34)],none⟩,⟨some 36,.call ⟨.builtin .append,#[.tmp 33,.tmp 35],#[22,22]⟩,none⟩,⟨some 5,.assign (.tmp 36),none⟩]) (.seq (.reg [⟨some 37,.fieldAddr 24 (.tmp 7) 3,none⟩,⟨some 38,.load 22 (.tmp 37),none⟩,⟨some 39,.call ⟨.builtin .len,#[.tmp 38],#[22]⟩,none⟩,⟨some 40,.move (.tmp 1),none⟩,⟨some 41,.call ⟨.builtin .min,#[.tmp 39,.tmp 40],#[3,3]⟩,none⟩,⟨some 42,.binOp .sub 3 (.tmp 41) (.const (.int .i64 1)) 3,none⟩,⟨some 8,.assign (.tmp 42),none⟩]) (.bloop 2 x52_L2))))))
def x52 : XC := .seq (.reg [⟨some 4,.assign (.const (.slice none 0 0)),none⟩]) (.seq (.reg [⟨some 5,.assign (.const (.slice none 0 0)),none⟩]) (.seq (.reg [⟨some 9,.move (.tmp 0),none⟩,⟨some 10,.call ⟨.value (.func 67),#[.tmp 9],#[22]⟩,none⟩,⟨some 6,.assign (.tmp 10),none⟩]) (.seq (.reg [⟨some 11,.move (.tmp 6),none⟩,⟨some 12,.call ⟨.value (.func 68),#[.tmp 11],#[22]⟩,none⟩]) (.seq (.bloop 0 x52_L0) (x52_T2)))))
@[simp] theorem x52_s {C e s K} : type_of% (@X_at C e s K _ _ x52_T2.eq_1) ∧ type_of% (@X_at C e s K _ _ x52_L2.eq_1) ∧ type_of% (@X_at C e s K _ _ x52_L0.eq_1) ∧ type_of% (@X_at C e s K _ _ x52.eq_1) := ⟨X_at x52_T2.eq_1,X_at x52_L2.eq_1,X_at x52_L0.eq_1,X_at x52.eq_1⟩
def an52 : Ann := ⟨[],[(2,[(6,none,4)],[1,5,6,7,8],[1,5,6]),(0,[(5,none,4),(6,none,4)],[1,5,6],[5])],[]⟩
@[simp] theorem an52_a : an52.loopOf 2 = ([(6,none,4)],[1,5,6,7,8],[1,5,6]) ∧ an52.loopOf 0 = ([(5,none,4),(6,none,4)],[1,5,6],[5]) := ⟨rfl,rfl⟩
theorem fi52 : FI Try.prog 52 (cxA an52) x52 [.tmp 4] Try.f52 := fiA Try.func52 mixed
theorem walk_own (l : List Ln) (hl : 0 < l.length) (hl2 : l.length ≤ 100000) (most : Nat) (hm0 : 0 < most) (hmost : most ≤ 1000) : CallOK Try.prog 52 [.list (l.map lnr),.int .i64 (most : Int)] [] (.sl 0 0 (goL most most l).length) [.rows 4 ((goL most most l).map lnr)] := by
 have h1 := Clone_lin l hl (by omega)
 have h2 := Reverse_lin l (by omega)
 refine fi52.og ?_
 obtain ⟨R,hR⟩ : ∃ R,goL most most l = R := ⟨_,rfl⟩
 rw [hR]
 have hrl : l.reverse.length = l.length := List.length_reverse
 generalize hlr : l.reverse = lr at *
 (refine Sg.h ?_;try repeat' ((with_reducible first|refine brA ?_|refine brE fun _=>?_|refine spl ⟨?_,?_⟩<;>intro _)<;> ((try simp -implicitDefEqProofs); (try simp -implicitDefEqProofs(disch:=first|assumption|(try simp only[lens]);omega -splitDisjunctions)))))
 refine CL.of h1 ?_
 (refine Sg.h ?_;try repeat' ((with_reducible first|refine brA ?_|refine brE fun _=>?_|refine spl ⟨?_,?_⟩<;>intro _)<;> ((try simp -implicitDefEqProofs); (try simp -implicitDefEqProofs(disch:=first|assumption|(try simp only[lens]);omega -splitDisjunctions)))))
 refine CL.of h2 ?_
 (refine Sg.h ?_;try repeat' ((with_reducible first|refine brA ?_|refine brE fun _=>?_|refine spl ⟨?_,?_⟩<;>intro _)<;> ((try simp -implicitDefEqProofs); (try simp -implicitDefEqProofs(disch:=first|assumption|(try simp only[lens]);omega -splitDisjunctions)))))
 have hlen0 : l.length = lr.length := hrl.symm
 rw [hlen0]
 refine W_of fun Q hQ => ?_
 have main : ∀ n out st (L : List Ln),out.length + n = most → st.length ≤ 100000 + out.length * most → L.take st.length = st.reverse → out ++ goL most n st = R →
   Q [(1,.int .i64 (most : Int)),(5,.sl 0 0 out.length),(6,.sl 1 0 st.length)] [.rows 4 (out.map lnr),.rows 4 (L.map lnr)] := by
  intro n
  induction n with
  | zero =>
   intro out st L h1 h2 h3 h4
   rw [goL,List.append_nil] at h4
   subst h4
   have h5 : ¬ (out.length : Int) < (most : Int) := by omega
   clear h3 hR
   generalize st.length = k at *
   apply hQ
   clear hQ
   (refine Sg.h ?_;try repeat' ((with_reducible first|refine brA ?_|refine brE fun _=>?_|refine spl ⟨?_,?_⟩<;>intro _)<;> ((try simp -implicitDefEqProofs [h5]); (try simp -implicitDefEqProofs(disch:=first|assumption|(try simp only[lens]);omega -splitDisjunctions) [h5]))))
  | succ n ih =>
   intro out st L h1 h2 h3 h4
   have h6 : out.length * most ≤ 1000 * 1000 := Nat.mul_le_mul (by omega) (by omega)
   have h5 : (out.length : Int) < (most : Int) := by omega
   cases st with
   | nil =>
    rw [goL_nil,List.append_nil] at h4
    subst h4
    clear hR ih h3
    apply hQ
    clear hQ
    (refine Sg.h ?_;try repeat' ((with_reducible first|refine brA ?_|refine brE fun _=>?_|refine spl ⟨?_,?_⟩<;>intro _)<;> ((try simp -implicitDefEqProofs [h5]); (try simp -implicitDefEqProofs(disch:=first|assumption|(try simp only[lens]);omega -splitDisjunctions) [h5]))))
   | cons x r =>
    rw [List.length_cons,List.reverse_cons] at h3
    rw [List.length_cons] at h2
    have hlL : r.length < L.length := by
     have := congrArg List.length h3
     rw [List.length_take] at this; simp at this; omega
    have h7 : L[r.length] = x := by
     have e : (L.take (r.length + 1))[r.length]? = (r.reverse ++ [x])[r.length]? := by rw [h3]
     rw [List.getElem?_take_of_lt (by omega),List.getElem?_eq_getElem hlL,List.getElem?_append_right (by simp)] at e
     simpa using e
    have h8 : L.take r.length = r.reverse := by
     have e : (L.take (r.length + 1)).take r.length = (r.reverse ++ [x]).take r.length := by rw [h3]
     rw [List.take_take,Nat.min_eq_left (by omega),List.take_left' (by simp)] at e
     exact e
    rw [goL] at h4
    obtain ⟨ks,hks⟩ : ∃ ks,x.kids.take most = ks := ⟨_,rfl⟩
    rw [hks] at h4
    have hkl : ks.length = min x.kids.length most := by subst hks; simp [Nat.min_comm]
    have hkx : ∀ j (hj : j < ks.length),x.kids[j]? = some ks[j] := by
     intro j hj
     subst hks
     rw [List.getElem_take,List.getElem?_eq_getElem]
    have ih := ih (out ++ [x]) (ks ++ r)
    rw [List.append_assoc,List.singleton_append] at ih
    have ih := fun L h => ih L (by simp; omega) (by simp [Nat.add_mul]; omega) h h4
    clear h3 hR h4
    apply hQ
    clear hQ
    have hw : IntKind.i64.wrap (min (x.kids.length : Int) (most : Int) - 1) = (ks.length : Int) - 1 := by
     rw [wrap64 (by omega) (by omega)]; omega
    (refine Sg.h ?_;try repeat' ((with_reducible first|refine brA ?_|refine brE fun _=>?_|refine spl ⟨?_,?_⟩<;>intro _)<;> ((try simp -implicitDefEqProofs [h5,hlL,h7]); (try simp -implicitDefEqProofs(disch:=first|assumption|(try simp only[lens]);omega -splitDisjunctions) [h5,hlL,h7]))))
    rw [hw]
    refine W_of fun Q2 hQ2 => ?_
    have inner : ∀ k (L : List Ln),k ≤ ks.length → r.length + (ks.length - k) ≤ L.length → L.take (r.length + (ks.length - k)) = (ks.drop k ++ r).reverse → Q2 [(1,.int .i64 (most : Int)),(5,.sl 0 0 (out.length + 1)),(6,.sl 1 0 (r.length + (ks.length - k))),(7,.ptr 2 0 0),(8,.int .i64 ((k : Int) - 1))]
      [.rows 4 (out.map lnr ++ [lnr x]),.rows 4 (L.map lnr),.rows 4 [lnr x]] := by
     intro k
     induction k with
     | zero =>
      intro L hk hK hL
      rw [Nat.sub_zero] at hL
      have ih := ih L (by simpa [Nat.add_comm] using hL)
      apply hQ2
      clear hQ2 hkx
      (refine Sg.h ?_;try repeat' ((with_reducible first|refine brA ?_|refine brE fun _=>?_|refine spl ⟨?_,?_⟩<;>intro _)<;> ((try simp -implicitDefEqProofs [hks]); (try simp -implicitDefEqProofs(disch:=first|assumption|(try simp only[lens]);omega -splitDisjunctions) [hks]))))
      refine at2 ih ?_ ?_
      ·simp [Nat.add_comm]
      ·simp
     | succ k ih2 =>
      intro L hk hK hL
      have hk1 : k < x.kids.length := by omega
      have e1 : x.kids[k] = ks[k] := by
       have := hkx k (by omega)
       rw [List.getElem?_eq_getElem hk1] at this
       exact Option.some.inj this
      have hk0 : r.length + (ks.length - k) = r.length + (ks.length - (k + 1)) + 1 := by omega
      have ih2 := ih2 (L.take (r.length + (ks.length - (k + 1))) ++ [ks[k]]) (by omega) (by rw [List.length_append,List.length_take]; simp; omega) (by
       rw [List.take_of_length_le (by rw [List.length_append,List.length_take]; simp; omega),hL]
       have e3 : ks.drop k = ks[k] :: ks.drop (k + 1) := List.drop_eq_getElem_cons (by omega)
       rw [e3,List.cons_append,List.reverse_cons])
      rw [hk0] at ih2
      generalize hKK : r.length + (ks.length - (k + 1)) = K at *
      have hKb : (K + 1) * 64 ≤ 140737488355328 := by omega
      clear hL ih hkx
      apply hQ2
      clear hQ2
      (refine Sg.h ?_;try repeat' ((with_reducible first|refine brA ?_|refine brE fun _=>?_|refine spl ⟨?_,?_⟩<;>intro _)<;> ((try simp -implicitDefEqProofs [hk1,e1]); (try simp -implicitDefEqProofs(disch:=first|assumption|(try simp only[lens]);omega -splitDisjunctions) [hk1,e1]))))
      refine at2 ih2 ?_ ?_ <;> simp [List.map_take]
    refine at2 (inner ks.length L (Nat.le_refl _) (by omega) (by rw [Nat.sub_self,Nat.add_zero,List.drop_length,List.nil_append]; exact h8)) ?_ ?_
    ·simp
    ·rfl
 refine at2 (main most [] l lr (by simp) (by simp; omega) (by rw [List.take_of_length_le (by omega),hlr]) (by rw [List.nil_append]; exact hR)) ?_ ?_
 ·simp [hlen0]
 ·rfl
end Go.Proofs.Ytbdionmmfigfiaa
namespace Go.Proofs.Ytbdionmmfigfiaa
open Go Go.Pv
theorem Fm.ind {p : Fm → Prop} (h : ∀ f : Fm,(∀ g ∈ f.kids,p g) → p f) : ∀ f,p f
 | .mk k nm kids => h _ fun g hg => Fm.ind h g
termination_by f => SizeOf.sizeOf f
decreasing_by
 have := List.sizeOf_lt_of_mem hg
 simp only [Fm.kids,Fm.mk.sizeOf_spec] at *
 omega
end Go.Proofs.Ytbdionmmfigfiaa
namespace Go.Proofs.Ytbdionmmfigfiaa
open Go Go.Pv
inductive OkF (N : ByteArray → Prop) : Fm → Prop where
 | mk {k : Int} {nm : ByteArray} {kids : List Fm} (h : (kids.length : Int) = kidsN k) (hN : k = 1 → N nm) (g : ∀ f ∈ kids,OkF N f) : OkF N (.mk k nm kids)
mutual
def pre : Fm → List Fm
 | .mk k nm l => .mk k nm l :: pres l
def pres : List Fm → List Fm
 | [] => []
 | f :: r => pre f ++ pres r
end
theorem pre_eq (f : Fm) : pre f = f :: pres f.kids := by cases f with | mk k nm l => rw [pre]; rfl
theorem pres_nil : pres [] = [] := by rw [pres]
theorem pres_cons (f : Fm) (r : List Fm) : pres (f :: r) = pre f ++ pres r := by rw [pres]
def okN (x : Fm) : Prop := 0 ≤ kidsN x.kind ∧ (x.kids.length : Int) = kidsN x.kind ∧ ¬ ((x.kind = 1 ∧ isNameB x.name = false) ∨ (x.kind ≠ 1 ∧ x.name ≠ ⟨#[]⟩))
theorem okF_of_pre : ∀ f : Fm,(∀ x ∈ pre f,okN x) → OkF (fun n => isNameB n = true) f := by
 intro f
 induction f using Fm.ind with
 | h f ih =>
  intro h
  have h0 := h f (by rw [pre_eq]; simp)
  cases f with
  | mk k nm l =>
   refine .mk h0.2.1 (fun hk => ?_) fun g hg => ih g hg fun x hx => h x ?_
   ·have := h0.2.2
    simp only [Fm.kind,Fm.name,hk,true_and,not_or] at this
    simpa using this.1
   ·rw [pre_eq]
    refine List.mem_cons_of_mem _ ?_
    have : ∀ l : List Fm,g ∈ l → x ∈ pres l := by
     intro l
     induction l with
     | nil => intro h; cases h
     | cons a r ihr =>
      intro h
      rw [pres_cons,List.mem_append]
      cases h with
      | head => exact .inl hx
      | tail _ h => exact .inr (ihr h)
    exact this l hg
end Go.Proofs.Ytbdionmmfigfiaa
namespace Go.Proofs.Ytbdionmmfigfiaa
open Go Go.Pv
instance {n : Nat} {k : IntKind} {i : Int} {b : ByteArray} {c : Bool} : FlatRs (List.replicate n [PV.int k i,.str b,.bool c,.nilsl]) := ⟨fun row hr => by rw [(List.mem_replicate.1 hr).2]; rfl⟩
instance {x : Ln} {q : List (List PV)} [g : FlatRs q] : FlatRs (lnr x :: q) := .cons (lnr_flat x) g
theorem callOK_done {P : Program} {f : FuncId} {args : List PV} {v v' : PV} {s1 : Store} (h : CallOK P f args [] v s1) (e : deref s1 6 v = v') : CallOK P f args [] v' [] := by
 intro pub σ w cargs hb ha
 refine Calls.mono (h pub σ w cargs hb ha) ?_
 rintro en w' ⟨cv,pub',σ',rfl,hs,hr⟩
 have hσ : σ = noSig := funext fun i => hb.sig i (Nat.zero_le _)
 obtain ⟨p,t,h1,h2⟩ := RetView.done 6 e ⟨w,pub,σ,dom [] σ⟩ pub' σ' w' cv (fun i _ => by rw [hσ]; rfl) hs hr
 exact ⟨cv,p,t,rfl,h1,h2⟩
theorem take_snocD {α : Type} {l : List α} {i : Nat} (h : i < l.length) : l.take (i + 1) = l.take i ++ [l[i]] := by
 rw [List.take_add_one,List.getElem?_eq_getElem h]; rfl
theorem walk_net (l : List Ln) (hl : 0 < l.length) (hl2 : l.length ≤ 100000) (most : Nat) (hm0 : 0 < most) (hmost : most ≤ 1000) : CallOK Try.prog 52 [.list (l.map lnr),.int .i64 (most : Int)] [] (.list ((goL most most l).map lnr)) [] :=
 callOK_done (walk_own l hl hl2 most hm0 hmost) (by simp)
def x71_L0 : XC := .seq (.reg [⟨some 9,.binOp .lss 3 (.tmp 8) (.tmp 7) 3,none⟩]) (.seq (.cond (.tmp 9) .skip (.exit 0)) (.seq (.block 1 (.seq (.reg [⟨some 10,.move (.tmp 8),none⟩,⟨some 5,.assign (.tmp 10),none⟩]) (.seq (.reg [⟨some 11,.move (.tmp 1),none⟩,⟨some 12,.move (.tmp 0),none⟩,⟨some 13,.move (.tmp 5),none⟩,⟨some 14,.indexAddr 22 (.tmp 12) (.tmp 13),none⟩,⟨some 15,.load 24 (.tmp 14),none⟩,⟨some 16,.call ⟨.value (.tmp 11),#[.tmp 15],#[24]⟩,none⟩]) (.cond (.tmp 16) (.seq (.reg [⟨some 17,.move (.tmp 5),none⟩,⟨some 4,.assign (.tmp 17),none⟩]) .ret) .skip)))) (.reg [⟨some 18,.binOp .add 3 (.tmp 8) (.const (.int .i64 1)) 3,none⟩,⟨some 8,.move (.tmp 18),none⟩])))
def x71 : XC := .seq (.reg [⟨some 4,.assign (.const (.int .i64 0)),none⟩]) (.seq (.seq (.reg [⟨some 6,.move (.tmp 0),none⟩,⟨some 7,.call ⟨.builtin .len,#[.tmp 6],#[22]⟩,none⟩,⟨some 8,.move (.const (.int .i64 0)),none⟩]) (.bloop 0 x71_L0)) (.seq (.reg [⟨some 4,.assign (.const (.int .i64 (-1))),none⟩]) .ret))
@[simp] theorem x71_s {C e s K} : type_of% (@X_at C e s K _ _ x71_L0.eq_1) ∧ type_of% (@X_at C e s K _ _ x71.eq_1) := ⟨X_at x71_L0.eq_1,X_at x71.eq_1⟩
def an71 : Ann := ⟨[],[(0,[],[0,1,7,8],[4])],[]⟩
@[simp] theorem an71_a : an71.loopOf 0 = ([],[0,1,7,8],[4]) := rfl
theorem fi71 : FI Try.prog 71 (cxA an71) x71 [.tmp 4] Try.f71 := fiA Try.func71 mixed
def indexP {α : Type} (p : α → Bool) (l : List α) : Int := match l.findIdx? p with
 | some i => i
 | none => -1
theorem indexP_at {α : Type} {p : α → Bool} {l : List α} {i : Nat} (h : i < l.length) (hp : p l[i] = true) (hb : ∀ j (hj : j < i), p (l[j]'(by omega)) = false) : indexP p l = i := by
 unfold indexP
 have : l.findIdx? p = some i := by
  rw [List.findIdx?_eq_some_iff_getElem]
  exact ⟨h,hp,fun j hj => by simp [hb j hj]⟩
 rw [this]
theorem indexP_none {α : Type} {p : α → Bool} {l : List α} (hb : ∀ j (hj : j < l.length),p l[j] = false) : indexP p l = -1 := by
 unfold indexP
 have : l.findIdx? p = none := by
  rw [List.findIdx?_eq_none_iff]
  intro x hx
  obtain ⟨j,hj,rfl⟩ := List.mem_iff_getElem.1 hx
  exact hb j hj
 rw [this]
theorem IndexFunc_lin (l : List Ln) (hl : l.length ≤ 1000000) (fid : Nat) [EnT Try.prog fid] (ys : List PV) [hy : FlatL ys] (p : Ln → Bool) (h : ∀ a ∈ l,CallOK Try.prog fid (.agg (lnr a) :: ys) [] (.bool (p a)) []) :
  CallOK Try.prog 71 [.list (l.map lnr),.fn (.func fid) [] ys] [] (.int .i64 (indexP p l)) [] := by
 have hcl : ∀ a : Ln,∀ v ∈ .agg (lnr a) :: ys,Closed v := by
  intro a v hv
  rcases List.mem_cons.1 hv with rfl | hv
  ·exact cl_lnr
  ·exact hy.closed v hv
 refine fi71.op ?_
 (refine Sg.h ?_;try repeat' ((with_reducible first|refine brA ?_|refine brE fun _=>?_|refine spl ⟨?_,?_⟩<;>intro _)<;> ((try simp -implicitDefEqProofs); (try simp -implicitDefEqProofs(disch:=first|assumption|(try simp only[lens]);omega -splitDisjunctions)))))
 refine W_of fun Q hQ => ?_
 have main : ∀ n i,i + n = l.length → (∀ j (hj : j < i) (hl : j < l.length),p l[j] = false) → Q [(0,.list (l.map lnr)),(1,.fn (.func fid) [] ys),(7,.int .i64 (l.length : Int)),(8,.int .i64 (i : Int))] [] := by
  intro n
  induction n with
  | zero =>
   intro i hi hb
   have hv := indexP_none fun j hj => hb j (by omega) hj
   generalize indexP p l = v at *
   apply hQ
   subst hv
   (refine Sg.h ?_;try repeat' ((with_reducible first|refine brA ?_|refine brE fun _=>?_|refine spl ⟨?_,?_⟩<;>intro _)<;> ((try simp -implicitDefEqProofs); (try simp -implicitDefEqProofs(disch:=first|assumption|(try simp only[lens]);omega -splitDisjunctions)))))
  | succ n ih =>
   intro i hi hb
   have hil : i < l.length := by omega
   have hc := h _ (List.getElem_mem hil)
   have ih := ih (i + 1) (by omega)
   have hat := fun hp => indexP_at hil hp fun j hj => hb j hj (by omega)
   generalize indexP p l = v at *
   cases hp : p l[i] with
   | true =>
    have hv := hat hp
    rw [hp] at hc
    apply hQ
    clear hQ
    subst hv
    (refine Sg.h ?_;try repeat' ((with_reducible first|refine brA ?_|refine brE fun _=>?_|refine spl ⟨?_,?_⟩<;>intro _)<;> ((try simp -implicitDefEqProofs [hil]); (try simp -implicitDefEqProofs(disch:=first|assumption|(try simp only[lens]);omega -splitDisjunctions) [hil]))))
    refine CL.clo hc ?_ (hcl _)
    (refine Sg.h ?_;try repeat' ((with_reducible first|refine brA ?_|refine brE fun _=>?_|refine spl ⟨?_,?_⟩<;>intro _)<;> ((try simp -implicitDefEqProofs); (try simp -implicitDefEqProofs(disch:=first|assumption|(try simp only[lens]);omega -splitDisjunctions)))))
   | false =>
    have ih := ih fun j hj hl => by
     rcases Nat.lt_or_ge j i with hji | hji
     ·exact hb j hji hl
     ·have : j = i := by omega
      subst this; exact hp
    rw [hp] at hc
    apply hQ
    clear hQ
    (refine Sg.h ?_;try repeat' ((with_reducible first|refine brA ?_|refine brE fun _=>?_|refine spl ⟨?_,?_⟩<;>intro _)<;> ((try simp -implicitDefEqProofs [hil]); (try simp -implicitDefEqProofs(disch:=first|assumption|(try simp only[lens]);omega -splitDisjunctions) [hil]))))
    refine CL.clo hc ?_ (hcl _)
    (refine Sg.h ?_;try repeat' ((with_reducible first|refine brA ?_|refine brE fun _=>?_|refine spl ⟨?_,?_⟩<;>intro _)<;> ((try simp -implicitDefEqProofs); (try simp -implicitDefEqProofs(disch:=first|assumption|(try simp only[lens]);omega -splitDisjunctions)))))
    all_goals first | exact ih | (refine at2 ih ?_ ?_ <;> simp; done) | (exfalso; first | omega | (simp_all; done) | (simp_all; omega))
 all_goals first | exact main _ 0 (Nat.zero_add _) (fun j hj => by omega) | (refine at2 main _ 0 (Nat.zero_add _) (fun j hj => by omega) ?_ ?_ <;> simp; done) | (exfalso; first | omega | (simp_all; done) | (simp_all; omega))
def x63_T1 : XC := .seq (.reg [⟨some 36,.move (.tmp 0),none⟩,⟨some 37,.move (.tmp 5),none⟩,⟨some 38,.slice 22 (.tmp 36) (some (.tmp 37)) none none,none⟩,⟨none,.call ⟨.builtin .clear,#[.tmp 38],#[22]⟩,none⟩]) (.seq (.reg [⟨some 39,.move (.tmp 0),none⟩,⟨some 40,.move (.tmp 5),none⟩,⟨some 41,.slice 22 (.tmp 39) none (some (.tmp 40)) none,none⟩,⟨some 4,.assign (.tmp 41),none⟩]) .ret)
def x63_L0 : XC := .seq (.seq (.reg [⟨some 16,.move (.tmp 6),none⟩,⟨some 17,.move (.tmp 0),none⟩,⟨some 18,.call ⟨.builtin .len,#[.tmp 17],#[22]⟩,none⟩,⟨some 19,.binOp .lss 3 (.tmp 16) (.tmp 18) 3,none⟩]) (.cond (.tmp 19) .skip (.exit 0))) (.seq (.block 1 (.seq (.reg [⟨some 22,.move (.tmp 0),none⟩,⟨some 23,.move (.tmp 6),none⟩,⟨some 24,.indexAddr 22 (.tmp 22) (.tmp 23),none⟩,⟨some 25,.load 24 (.tmp 24),none⟩,⟨some 7,.alloc 24,none⟩,⟨none,.store 24 (.tmp 7) (.tmp 25),none⟩]) (.seq (.reg [⟨some 26,.move (.tmp 1),none⟩,⟨some 27,.load 24 (.tmp 7),none⟩,⟨some 28,.call ⟨.value (.tmp 26),#[.tmp 27],#[24]⟩,none⟩,⟨some 29,.unOp .not 4 (.tmp 28),none⟩]) (.cond (.tmp 29) (.seq (.reg [⟨some 30,.move (.tmp 0),none⟩,⟨some 31,.move (.tmp 5),none⟩,⟨some 32,.load 24 (.tmp 7),none⟩,⟨some 33,.indexAddr 22 (.tmp 30) (.tmp 31),none⟩,⟨none,.store 24 (.tmp 33) (.tmp 32),none⟩]) (.reg [⟨some 34,.move (.tmp 5),none⟩,⟨some 35,.binOp .add 3 (.tmp 34) (.const (.int .i64 1)) 3,none⟩,⟨some 5,.assign (.tmp 35),none⟩])) .skip)))) (.reg [⟨some 20,.move (.tmp 6),none⟩,⟨some 21,.binOp .add 3 (.tmp 20) (.const (.int .i64 1)) 3,none⟩,⟨some 6,.assign (.tmp 21),none⟩]))
def x63 : XC := .seq (.reg [⟨some 4,.assign (.const (.slice none 0 0)),none⟩]) (.seq (.reg [⟨some 8,.move (.tmp 0),none⟩,⟨some 9,.move (.tmp 1),none⟩,⟨some 10,.call ⟨.value (.func 71),#[.tmp 8,.tmp 9],#[22,91]⟩,none⟩,⟨some 5,.assign (.tmp 10),none⟩]) (.seq (.seq (.reg [⟨some 11,.move (.tmp 5),none⟩,⟨some 12,.binOp .eql 3 (.tmp 11) (.const (.int .i64 (-1))) 3,none⟩]) (.cond (.tmp 12) (.seq (.reg [⟨some 13,.move (.tmp 0),none⟩,⟨some 4,.assign (.tmp 13),none⟩]) .ret) .skip)) (.seq (.seq (.reg [⟨some 14,.move (.tmp 5),none⟩,⟨some 15,.binOp .add 3 (.tmp 14) (.const (.int .i64 1)) 3,none⟩,⟨some 6,.assign (.tmp 15),none⟩]) (.bloop 0 x63_L0)) (x63_T1))))
@[simp] theorem x63_s {C e s K} : type_of% (@X_at C e s K _ _ x63_T1.eq_1) ∧ type_of% (@X_at C e s K _ _ x63_L0.eq_1) ∧ type_of% (@X_at C e s K _ _ x63.eq_1) := ⟨X_at x63_T1.eq_1,X_at x63_L0.eq_1,X_at x63.eq_1⟩
def an63 : Ann := ⟨[],[(0,[],[0,1,5,6],[0,5])],[]⟩
@[simp] theorem an63_a : an63.loopOf 0 = ([],[0,1,5,6],[0,5]) := rfl
theorem fi63 : FI Try.prog 63 (cxA an63) x63 [.tmp 4] Try.f63 := fiA Try.func63 mixed
theorem DeleteFunc_lin (l : List Ln) (h2 : l.length ≤ 1000000) (fid : Nat) [EnT Try.prog fid] (ys : List PV) [hy : FlatL ys] (p : Ln → Bool) (h : ∀ a ∈ l,CallOK Try.prog fid (.agg (lnr a) :: ys) [] (.bool (p a)) []) :
  CallOK Try.prog 63 [.sl 0 0 l.length,.fn (.func fid) [] ys] [.rows 4 (l.map lnr)] (.sl 0 0 (l.filter fun a => !p a).length) [.rows 4 ((l.filter fun a => !p a).map lnr ++ List.replicate (l.length - (l.filter fun a => !p a).length) [.int .i64 0,.str ⟨#[]⟩,.bool false,.nilsl])] := by
 have hi := IndexFunc_lin l h2 fid ys p h
 have hcl : ∀ a : Ln,∀ v ∈ .agg (lnr a) :: ys,Closed v := by
  intro a v hv
  rcases List.mem_cons.1 hv with rfl | hv
  ·exact cl_lnr
  ·exact hy.closed v hv
 refine fi63.og ?_
 (refine Sg.h ?_;try repeat' ((with_reducible first|refine brA ?_|refine brE fun _=>?_|refine spl ⟨?_,?_⟩<;>intro _)<;> ((try simp -implicitDefEqProofs); (try simp -implicitDefEqProofs(disch:=first|assumption|(try simp only[lens]);omega -splitDisjunctions)))))
 refine CL.look (v := .int .i64 (indexP p l)) 6 (by simpa using hi) (flat_int _ _) ?_
 cases hf : l.findIdx? p with
 | none =>
  have hv : indexP p l = -1 := by unfold indexP; rw [hf]
  have hfil : l.filter (fun a => !p a) = l := by
   rw [List.filter_eq_self]
   intro a ha
   rw [List.findIdx?_eq_none_iff] at hf
   simp [hf a ha]
  rw [hv,hfil]
  (refine Sg.h ?_;try repeat' ((with_reducible first|refine brA ?_|refine brE fun _=>?_|refine spl ⟨?_,?_⟩<;>intro _)<;> ((try simp -implicitDefEqProofs); (try simp -implicitDefEqProofs(disch:=first|assumption|(try simp only[lens]);omega -splitDisjunctions)))))
 | some i0 =>
  have hv : indexP p l = i0 := by unfold indexP; rw [hf]
  rw [List.findIdx?_eq_some_iff_getElem] at hf
  obtain ⟨h3,h4,h5⟩ := hf
  rw [hv]
  (refine Sg.h ?_;try repeat' ((with_reducible first|refine brA ?_|refine brE fun _=>?_|refine spl ⟨?_,?_⟩<;>intro _)<;> ((try simp -implicitDefEqProofs); (try simp -implicitDefEqProofs(disch:=first|assumption|(try simp only[lens]);omega -splitDisjunctions)))))
  refine W_of fun Q hQ => ?_
  have main : ∀ n j (mid : List Ln),j + n = l.length → mid.length + ((l.take j).filter fun a => !p a).length = j → 0 < mid.length →
    Q [(0,.sl 0 0 l.length),(1,.fn (.func fid) [] ys),(5,.int .i64 (((l.take j).filter fun a => !p a).length : Int)),(6,.int .i64 (j : Int))] [.rows 4 (((l.take j).filter fun a => !p a).map lnr ++ (mid.map lnr ++ (l.drop j).map lnr))] := by
   intro n
   induction n with
   | zero =>
    intro j mid hj hm h0
    rw [List.take_of_length_le (show l.length ≤ j by omega)] at hm ⊢
    rw [List.drop_of_length_le (show l.length ≤ j by omega)]
    generalize (l.filter fun a => !p a) = F at *
    apply hQ
    clear hQ hi h hcl
    (refine Sg.h ?_;try repeat' ((with_reducible first|refine brA ?_|refine brE fun _=>?_|refine spl ⟨?_,?_⟩<;>intro _)<;> ((try simp -implicitDefEqProofs); (try simp -implicitDefEqProofs(disch:=first|assumption|(try simp only[lens]);omega -splitDisjunctions)))))
    have e1 : F.length + mid.length = l.length := by omega
    have e2 : ∀ X : List (List PV),List.take F.length (F.map lnr ++ X) = F.map lnr := fun X => List.take_left' (by simp)
    have e3 : List.drop l.length (F.map lnr ++ mid.map lnr) = [] := List.drop_of_length_le (by simp; omega)
    rw [e2,e3,List.append_nil]
   | succ n ih =>
    intro j mid hj hm h0
    have hc := h _ (List.getElem_mem (show j < l.length by omega))
    have hjl : j < l.length := by omega
    have hdr : l.drop j = l[j] :: l.drop (j + 1) := List.drop_eq_getElem_cons hjl
    have htk := take_snocD hjl
    have ih := ih (j + 1)
    rw [htk] at ih
    simp only [List.filter_append,List.filter_cons,List.filter_nil] at ih
    generalize hF : (l.take j).filter (fun a => !p a) = F at *
    rw [hdr]
    have hjm : j - F.length = mid.length := by omega
    obtain ⟨m,mid',rfl⟩ : ∃ m mid',mid = m :: mid' := by
     cases mid with
     | nil => cases h0
     | cons m r => exact ⟨m,r,rfl⟩
    have hlm : mid'.length + 1 + F.length = j := by simpa using hm
    cases hp : p l[j] with
    | true =>
     rw [hp] at ih hc
     simp only [Bool.not_true,Bool.false_eq_true,if_false,List.append_nil] at ih
     have ih := ih (m :: (mid' ++ [l[j]])) (by omega) (by simp; omega) (by simp)
     generalize l[j] = x at *
     generalize l.drop (j + 1) = R at *
     apply hQ
     clear hQ hi h htk hdr hF hm h5 h4 hp
     (refine Sg.h ?_;try repeat' ((with_reducible first|refine brA ?_|refine brE fun _=>?_|refine spl ⟨?_,?_⟩<;>intro _)<;> ((try simp -implicitDefEqProofs [hjm,hjl]); (try simp -implicitDefEqProofs(disch:=first|assumption|(try simp only[lens]);omega -splitDisjunctions) [hjm,hjl]))))
     refine CL.clo hc ?_ (hcl _)
     (refine Sg.h ?_;try repeat' ((with_reducible first|refine brA ?_|refine brE fun _=>?_|refine spl ⟨?_,?_⟩<;>intro _)<;> ((try simp -implicitDefEqProofs [hjm]); (try simp -implicitDefEqProofs(disch:=first|assumption|(try simp only[lens]);omega -splitDisjunctions) [hjm]))))
     all_goals first | exact ih | (refine at2 ih ?_ ?_ <;> simp; done) | (exfalso; first | omega | (simp_all; done) | (simp_all; omega))
    | false =>
     rw [hp] at ih hc
     simp only [Bool.not_false,if_true] at ih
     have ih := ih (mid' ++ [l[j]]) (by omega) (by simp; omega) (by simp)
     generalize l[j] = x at *
     generalize l.drop (j + 1) = R at *
     apply hQ
     clear hQ hi h htk hdr hF hm h5 h4 hp
     (refine Sg.h ?_;try repeat' ((with_reducible first|refine brA ?_|refine brE fun _=>?_|refine spl ⟨?_,?_⟩<;>intro _)<;> ((try simp -implicitDefEqProofs [hjm,hjl]); (try simp -implicitDefEqProofs(disch:=first|assumption|(try simp only[lens]);omega -splitDisjunctions) [hjm,hjl]))))
     refine CL.clo hc ?_ (hcl _)
     (refine Sg.h ?_;try repeat' ((with_reducible first|refine brA ?_|refine brE fun _=>?_|refine spl ⟨?_,?_⟩<;>intro _)<;> ((try simp -implicitDefEqProofs [hjm]); (try simp -implicitDefEqProofs(disch:=first|assumption|(try simp only[lens]);omega -splitDisjunctions) [hjm]))))
     all_goals first | exact ih | (refine at2 ih ?_ ?_ <;> simp; done) | (exfalso; first | omega | (simp_all; done) | (simp_all; omega))
  have hfi : (l.take i0).filter (fun a => !p a) = l.take i0 := by
   rw [List.filter_eq_self]
   intro a ha
   obtain ⟨k,hk,rfl⟩ := List.mem_iff_getElem.1 ha
   have := h5 k (by simp at hk; omega)
   simp at this ⊢; exact this
  have hfj : (l.take (i0 + 1)).filter (fun a => !p a) = l.take i0 := by
   rw [take_snocD h3,List.filter_append,hfi]; simp [h4]
  have m0 := main (l.length - (i0 + 1)) (i0 + 1) [l[i0]] (by omega) (by rw [hfj]; simp; omega) (by simp)
  rw [hfj] at m0
  refine at2 m0 ?_ ?_
  ·simp; omega
  ·have : l = l.take i0 ++ ([l[i0]] ++ l.drop (i0 + 1)) := by
    rw [List.singleton_append,← List.drop_eq_getElem_cons h3,List.take_append_drop]
   have e2 := congrArg (List.map lnr) this
   simp only [List.map_append,List.map_cons,List.map_nil,List.map_take,List.map_drop,List.append_assoc] at e2 ⊢
   conv => rhs; rw [e2]
   try simp only [List.append_assoc]
def lvs (l : List Ln) : List Ln := ((ndLs l).take 200).filter fun x => decide (x.k = 1)
def x38 : XC := .seq (.reg [⟨some 2,.assign (.const (.slice none 0 0)),none⟩]) (.seq (.reg [⟨some 3,.move (.tmp 0),none⟩,⟨some 4,.call ⟨.value (.func 52),#[.tmp 3,.const (.int .i64 200)],#[22,3]⟩,none⟩,⟨some 5,.call ⟨.value (.func 63),#[.tmp 4,.func 64],#[22,91]⟩,none⟩,⟨some 2,.assign (.tmp 5),none⟩]) .ret)
@[simp] theorem x38_s {C e s K} : type_of% (@X_at C e s K _ _ x38.eq_1) := X_at x38.eq_1
def an38 : Ann := ⟨[],[],[]⟩
theorem fi38 : FI Try.prog 38 (cxA an38) x38 [.tmp 2] Try.f38 := fiA Try.func38 mixed
theorem leaves_net (l : List Ln) (hl : 0 < l.length) (hl2 : l.length ≤ 100000) : CallOK Try.prog 38 [.list (l.map lnr)] [] (.list ((lvs l).map lnr)) [] := by
 have h1 := walk_own l hl hl2 200 (by decide) (by decide)
 have e : lvs l = (goL 200 200 l).filter fun a => !decide (a.k ≠ 1) := by
  rw [goL_take _ _ _ (by decide)]
  unfold lvs
  congr 1
  funext x
  simp
 have hle : (goL 200 200 l).length ≤ 200 := by rw [goL_take _ _ _ (by decide),List.length_take]; omega
 rw [e]
 have h2 := DeleteFunc_lin (goL 200 200 l) (by omega) 64 [] (fun a => decide (a.k ≠ 1)) (fun a _ => leaves1_net a)
 generalize goL 200 200 l = L at *
 generalize hF : (L.filter fun a => !decide (a.k ≠ 1)) = F at *
 refine fi38.op ?_
 (refine Sg.h ?_;try repeat' ((with_reducible first|refine brA ?_|refine brE fun _=>?_|refine spl ⟨?_,?_⟩<;>intro _)<;> ((try simp -implicitDefEqProofs); (try simp -implicitDefEqProofs(disch:=first|assumption|(try simp only[lens]);omega -splitDisjunctions)))))
 refine CL.of h1 ?_
 (refine Sg.h ?_;try repeat' ((with_reducible first|refine brA ?_|refine brE fun _=>?_|refine spl ⟨?_,?_⟩<;>intro _)<;> ((try simp -implicitDefEqProofs); (try simp -implicitDefEqProofs(disch:=first|assumption|(try simp only[lens]);omega -splitDisjunctions)))))
 refine CL.of h2 ?_
 (refine Sg.h ?_;try repeat' ((with_reducible first|refine brA ?_|refine brE fun _=>?_|refine spl ⟨?_,?_⟩<;>intro _)<;> ((try simp -implicitDefEqProofs); (try simp -implicitDefEqProofs(disch:=first|assumption|(try simp only[lens]);omega -splitDisjunctions)))))
end Go.Proofs.Ytbdionmmfigfiaa
