import Derived.Test.YtcllmionhlmjfaaGFaS
set_option linter.unusedVariables false
set_option linter.unusedSimpArgs false
set_option maxRecDepth 100000
set_option maxHeartbeats 4000000
namespace Go.Proofs.Ytcllmionhlmjfaa
open Go Go.Pv
theorem manyW_ok {p : Nat} {key : ByteArray} {c : Nat} {s s' : WS} (h : manyW p key c s = .ok s') : s'.1 = s.1 := by
 unfold manyW at h
 split at h
 ·split at h
  ·cases h; rfl
  ·cases h
 ·cases h; rfl
theorem fold_ok : ∀ (l : List Nd) (s s' : WS),foldW l s = .ok s' → s.1 ≤ 200 → s.1 + l.length ≤ 200 ∧ ∀ x ∈ l,∃ o,chkN x = .ok o
 | [],s,s',_,h => ⟨h,fun x hx => by cases hx⟩
 | x :: r,s,s',h,hs => by
  rw [foldW] at h
  by_cases h2 : s.1 = 200
  ·rw [stepW_200 x s h2] at h; cases h
  rw [stepW_eq x s h2] at h
  have next : ∀ (s1 : WS) (o),chkN x = .ok o → s1.1 = s.1 + 1 → foldW r s1 = .ok s' → s.1 + (x :: r).length ≤ 200 ∧ ∀ y ∈ x :: r,∃ o,chkN y = .ok o := by
   intro s1 o hc h1 h
   obtain ⟨g1,g2⟩ := fold_ok r s1 s' h (by omega)
   refine ⟨by rw [List.length_cons]; omega,fun y hy => ?_⟩
   rcases List.mem_cons.1 hy with rfl | hy
   ·exact ⟨o,hc⟩
   ·exact g2 y hy
  cases hc : chkN x with
  | error c => rw [hc] at h; cases h
  | ok o =>
   rw [hc] at h
   cases o with
   | none => exact next _ _ hc rfl h
   | some q =>
    obtain ⟨b,nm,c⟩ := q
    dsimp only at h
    cases hm : manyW s.1 (encW b nm) c (s.1 + 1,s.2) with
    | error e => rw [hm] at h; cases h
    | ok s1 =>
     rw [hm] at h
     exact next s1 _ hc (manyW_ok hm) h
theorem wdOk_of (w : Wd) : (∀ x ∈ ndW w,∃ o,chkN x = .ok o) → WdOk w := by
 induction w using Wd.ind with
 | h w ih =>
  intro h
  obtain ⟨o,ho⟩ := h (.w w) (by rw [ndW_eq]; simp)
  have hk : ∀ v ∈ w.args,WdOk v := fun v hv => ih v hv fun x hx => h x (ndW_kid hv x hx)
  cases w with
  | mk nm l =>
   refine .mk nm l ?_ hk
   rw [chkN,chkW] at ho
   split at ho
   ·rename_i hb; exact .inl hb
   split at ho
   ·rename_i hn
    split at ho
    ·cases ho
    ·rename_i hl
     exact .inr ⟨hn,List.eq_nil_of_length_eq_zero (by have : ¬ 0 < l.length := hl; omega)⟩
   ·cases ho
theorem ndWs_in {w : Wd} {x : Nd} : ∀ {l : List Wd},w ∈ l → x ∈ ndW w → x ∈ ndWs l
 | [],h,_ => by cases h
 | v :: r,h,hx => by
  rw [ndWs,List.mem_append]
  rcases List.mem_cons.1 h with rfl | h
  ·exact .inl hx
  ·exact .inr (ndWs_in h hx)
theorem ndEs_in {w : Ex} {x : Nd} : ∀ {l : List Ex},w ∈ l → x ∈ ndE w → x ∈ ndEs l
 | [],h,_ => by cases h
 | v :: r,h,hx => by
  rw [ndEs,List.mem_append]
  rcases List.mem_cons.1 h with rfl | h
  ·exact .inl hx
  ·exact .inr (ndEs_in h hx)
theorem two_of {α : Type} : ∀ {l : List α},l.length = 2 → ∃ a b,l = [a,b]
 | [a,b],_ => ⟨a,b,rfl⟩
theorem exOk_of (e : Ex) : (∀ x ∈ ndE e,∃ o,chkN x = .ok o) → ExOk e := by
 induction e using Ex.ind with
 | h e ih =>
  intro h
  obtain ⟨o,ho⟩ := h (.e e) (by rw [ndE_eq]; simp)
  have hk : ∀ v ∈ e.kids,ExOk v := fun v hv => ih v hv fun x hx => h x (by rw [ndE_eq]; simp [ndEs_in hv hx])
  have hw : ∀ v ∈ e.words,WdOk v := fun v hv => wdOk_of v fun x hx => h x (by rw [ndE_eq]; simp [ndWs_in hv hx])
  cases e with
  | mk k nm ws l =>
   rw [chkN,chkX] at ho
   simp only [ex_mk] at ho hk hw
   split at ho
   ·cases ho
   rename_i h1
   split at ho
   ·cases ho
   rename_i h2
   have hk10 : k = 1 ∨ k = 2 ∨ k = 3 ∨ k = 4 ∨ k = 5 ∨ k = 6 ∨ k = 7 ∨ k = 8 ∨ k = 9 ∨ k = 10 := by omega
   have n1 : ∀ {l : List Ex},l.length = 1 → ∃ a,l = [a] := fun h => List.length_eq_one_iff.1 h
   have n2 : ∀ {l : List Ex},l.length = 2 → ∃ a b,l = [a,b] := two_of
   clear h1
   rcases hk10 with rfl | rfl | rfl | rfl | rfl | rfl | rfl | rfl | rfl | rfl
   ·have hl : l = [] := List.eq_nil_of_length_eq_zero (by simp [wordsN,kidsX] at h2; simp [h2])
    subst hl
    simp at ho
    split at ho
    ·rename_i hb; exact .pred nm ws hb hw
    ·cases ho
   all_goals simp at ho
   all_goals (split at ho; rotate_left; · cases ho)
   ·have hl : l = [] := List.eq_nil_of_length_eq_zero (by simp [wordsN,kidsX] at h2; simp [h2])
    obtain ⟨a,b,rfl⟩ := two_of (show ws.length = 2 by simp [wordsN,kidsX] at h2; omega)
    rename_i hnm
    subst hl; subst hnm
    exact .same a b (hw a (by simp)) (hw b (by simp))
   ·obtain rfl : l = [] := List.eq_nil_of_length_eq_zero (by simp [wordsN,kidsX] at h2; simp [h2])
    obtain rfl : ws = [] := List.eq_nil_of_length_eq_zero (by simp [wordsN,kidsX] at h2; simp [h2])
    rename_i hnm
    subst hnm
    exact .tru
   ·obtain rfl : l = [] := List.eq_nil_of_length_eq_zero (by simp [wordsN,kidsX] at h2; simp [h2])
    obtain rfl : ws = [] := List.eq_nil_of_length_eq_zero (by simp [wordsN,kidsX] at h2; simp [h2])
    rename_i hnm
    subst hnm
    exact .fal
   ·obtain ⟨a,rfl⟩ := n1 (show l.length = 1 by simp [wordsN,kidsX] at h2; omega)
    obtain rfl : ws = [] := List.eq_nil_of_length_eq_zero (by simp [wordsN,kidsX] at h2; simp [h2])
    rename_i hnm
    subst hnm
    exact .not a (hk a (by simp))
   ·obtain ⟨a,b,rfl⟩ := n2 (show l.length = 2 by simp [wordsN,kidsX] at h2; omega)
    obtain rfl : ws = [] := List.eq_nil_of_length_eq_zero (by simp [wordsN,kidsX] at h2; simp [h2])
    rename_i hnm
    subst hnm
    exact .and a b (hk a (by simp)) (hk b (by simp))
   ·obtain ⟨a,b,rfl⟩ := n2 (show l.length = 2 by simp [wordsN,kidsX] at h2; omega)
    obtain rfl : ws = [] := List.eq_nil_of_length_eq_zero (by simp [wordsN,kidsX] at h2; simp [h2])
    rename_i hnm
    subst hnm
    exact .or a b (hk a (by simp)) (hk b (by simp))
   ·obtain ⟨a,b,rfl⟩ := n2 (show l.length = 2 by simp [wordsN,kidsX] at h2; omega)
    obtain rfl : ws = [] := List.eq_nil_of_length_eq_zero (by simp [wordsN,kidsX] at h2; simp [h2])
    rename_i hnm
    subst hnm
    exact .then a b (hk a (by simp)) (hk b (by simp))
   ·obtain ⟨a,rfl⟩ := n1 (show l.length = 1 by simp [wordsN,kidsX] at h2; omega)
    obtain rfl : ws = [] := List.eq_nil_of_length_eq_zero (by simp [wordsN,kidsX] at h2; simp [h2])
    rename_i hnm
    exact .all nm a hnm (hk a (by simp))
   ·obtain ⟨a,rfl⟩ := n1 (show l.length = 1 by simp [wordsN,kidsX] at h2; omega)
    obtain rfl : ws = [] := List.eq_nil_of_length_eq_zero (by simp [wordsN,kidsX] at h2; simp [h2])
    rename_i hnm
    exact .some nm a hnm (hk a (by simp))
theorem check_ok {e : Ex} (h : checkX e = (0,0)) : ExOk e ∧ (ndE e).length ≤ 200 := by
 have h1 : ∃ s,foldW (ndE e) (0,[]) = .ok s := by
  rw [← exprW_fold]
  unfold checkX at h
  cases hw : exprW e (0,[]) with
  | ok s => exact ⟨s,rfl⟩
  | error er =>
   obtain ⟨er,s⟩ := er
   rw [hw] at h
   exact absurd (congrArg Prod.fst h) (exprW_bad e _ _ _ hw)
 obtain ⟨s,h1⟩ := h1
 obtain ⟨h2,h3⟩ := fold_ok _ _ _ h1 (by decide)
 exact ⟨exOk_of e h3,by simpa using h2⟩
noncomputable def eqP {α : Type} (a b : α) : Bool := @decide (a = b) (Classical.propDecidable _)
theorem eqP_true {α : Type} {a b : α} : eqP a b = true ↔ a = b := @decide_eq_true_iff _ (Classical.propDecidable _)
theorem eqP_self {α : Type} (a : α) : eqP a a = true := eqP_true.2 rfl
theorem eqP_no {α : Type} {a b : α} (h : ¬ a = b) : eqP a b = false := by
 cases h2 : eqP a b with
 | false => rfl
 | true => exact absurd (eqP_true.1 h2) h
def x73_L0 : XC := .seq (.seq (.reg [⟨some 20,.move (.tmp 5),none⟩,⟨some 21,.fieldAddr 103 (.tmp 2) 1,none⟩,⟨some 22,.load 54 (.tmp 21),none⟩,⟨some 23,.call ⟨.builtin .len,#[.tmp 22],#[54]⟩,none⟩,⟨some 24,.binOp .lss 3 (.tmp 20) (.tmp 23) 3,none⟩]) (.cond (.tmp 24) .skip (.exit 0))) (.seq (.block 1 (.seq (.drawn 6 [⟨some 27,.fieldAddr 103 (.tmp 2) 1,none⟩,⟨some 28,.load 54 (.tmp 27),none⟩,⟨some 29,.move (.tmp 5),none⟩,⟨some 30,.indexAddr 54 (.tmp 28) (.tmp 29),none⟩,⟨some 31,.load 103 (.tmp 30),none⟩,⟨some 32,.fieldAddr 103 (.tmp 3) 1,none⟩,⟨some 33,.load 54 (.tmp 32),none⟩,⟨some 34,.move (.tmp 5),none⟩,⟨some 35,.indexAddr 54 (.tmp 33) (.tmp 34),none⟩,⟨some 36,.load 103 (.tmp 35),none⟩,⟨some 37,.call ⟨.value (.func 73),#[.tmp 31,.tmp 36],#[103,103]⟩,none⟩,⟨some 38,.unOp .not 4 (.tmp 37),none⟩]) (.cond (.tmp 38) (.seq (.reg [⟨some 4,.assign (.const (.bool false)),none⟩]) .ret) .skip))) (.reg [⟨some 25,.move (.tmp 5),none⟩,⟨some 26,.binOp .add 3 (.tmp 25) (.const (.int .i64 1)) 3,none⟩,⟨some 5,.assign (.tmp 26),none⟩]))
def x73 : XC := .seq (.reg [⟨some 2,.box 103 (.tmp 0),none⟩,⟨some 3,.box 103 (.tmp 1),none⟩,⟨some 4,.assign (.const (.bool false)),none⟩]) (.seq (.seq (.reg [⟨some 6,.fieldAddr 103 (.tmp 2) 0,none⟩,⟨some 7,.load 9 (.tmp 6),none⟩,⟨some 8,.fieldAddr 103 (.tmp 3) 0,none⟩,⟨some 9,.load 9 (.tmp 8),none⟩,⟨some 10,.binOp .neq 9 (.tmp 7) (.tmp 9) 9,none⟩,⟨some 11,.move (.tmp 10),none⟩,⟨some 12,.fieldAddr 103 (.tmp 2) 1,some (some 11,false)⟩,⟨some 13,.load 54 (.tmp 12),some (some 11,false)⟩,⟨some 14,.call ⟨.builtin .len,#[.tmp 13],#[54]⟩,some (some 11,false)⟩,⟨some 15,.fieldAddr 103 (.tmp 3) 1,some (some 11,false)⟩,⟨some 16,.load 54 (.tmp 15),some (some 11,false)⟩,⟨some 17,.call ⟨.builtin .len,#[.tmp 16],#[54]⟩,some (some 11,false)⟩,⟨some 18,.binOp .neq 3 (.tmp 14) (.tmp 17) 3,some (some 11,false)⟩,⟨some 19,.pick (.tmp 11) (.const (.bool true)) (.tmp 18),none⟩]) (.cond (.tmp 19) (.seq (.reg [⟨some 4,.assign (.const (.bool false)),none⟩]) .ret) .skip)) (.seq (.seq (.reg [⟨some 5,.assign (.const (.int .i64 0)),none⟩]) (.bloop 0 x73_L0)) (.seq (.reg [⟨some 4,.assign (.const (.bool true)),none⟩]) .ret)))
@[simp] theorem x73_s {C e s K} : type_of% (@X_at C e s K _ _ x73_L0.eq_1) ∧ type_of% (@X_at C e s K _ _ x73.eq_1) := ⟨X_at x73_L0.eq_1,X_at x73.eq_1⟩
def an73 : Ann := ⟨[(6,.mix 10)],[(0,[],[2,3,5],[4])],[]⟩
@[simp] theorem an73_a : an73.clsOf 6 = .mix 10 ∧ an73.frzOf 6 = [] ∧ an73.loopOf 0 = ([],[2,3,5],[4]) := ⟨rfl,rfl,rfl⟩
theorem fi73 : FI Try.prog 73 (cxA an73) x73 [.tmp 4] Try.f73 := fiA Try.func73 mixed
theorem SameWord_ref (a : Wd) : ∀ b : Wd,CallOK Try.prog 73 [.agg (wrd a),.agg (wrd b)] [] (.bool (eqP a b)) [] := by
 induction a using Wd.ind with
 | h a ih =>
  intro b
  refine fi73.op ?_
  by_cases hn : a.nm = b.nm
  ·by_cases hl : a.args.length = b.args.length
   ·obtain ⟨R,hR⟩ : ∃ R,eqP a b = R := ⟨_,rfl⟩
    rw [hR]
    (refine Sg.h ?_;try repeat' ((with_reducible first|refine brA ?_|refine brE fun _=>?_|refine spl ⟨?_,?_⟩<;>intro _)<;> ((try simp -implicitDefEqProofs [hn,hl]); (try simp -implicitDefEqProofs(disch:=first|assumption|(try simp only[lens]);omega -splitDisjunctions) [hn,hl]))))
    refine W_of fun Q hQ => ?_
    have main : ∀ n i,i + n = a.args.length → a.args.take i = b.args.take i → Q [(2,.ptr 0 0 0),(3,.ptr 1 0 0),(5,.int .i64 (i : Int))] [.rows 2 [wrd a],.rows 2 [wrd b]] := by
     intro n
     induction n with
     | zero =>
      intro i hi ht
      obtain rfl : i = a.args.length := by omega
      have : eqP a b = true := eqP_true.2 (by
       rw [List.take_of_length_le (Nat.le_refl _),hl,List.take_of_length_le (Nat.le_refl _)] at ht
       cases a; cases b; simp at hn ht; rw [hn,ht])
      rw [this] at hR
      subst hR
      apply hQ
      clear hQ
      (refine Sg.h ?_;try repeat' ((with_reducible first|refine brA ?_|refine brE fun _=>?_|refine spl ⟨?_,?_⟩<;>intro _)<;> ((try simp -implicitDefEqProofs [hl]); (try simp -implicitDefEqProofs(disch:=first|assumption|(try simp only[lens]);omega -splitDisjunctions) [hl]))))
     | succ n ihn =>
      intro i hi ht
      have hia : i < a.args.length := by omega
      have hib : i < b.args.length := by omega
      have hc := ih a.args[i] (List.getElem_mem hia) b.args[i]
      by_cases he : a.args[i] = b.args[i]
      ·have ihn := ihn (i + 1) (by omega) (by rw [take_snocE hia,take_snocE hib,ht,he])
       rw [eqP_true.2 he] at hc
       apply hQ
       clear hQ
       (refine Sg.h ?_;try repeat' ((first | (with_reducible first|refine brA ?_|refine brE fun _=>?_|refine spl ⟨?_,?_⟩<;>intro _) | refine clo hc ?_) <;> ((try simp -implicitDefEqProofs [hia,hib]); (try simp -implicitDefEqProofs(disch:=first|assumption|(try simp only[lens]);omega -splitDisjunctions) [hia,hib]))))
       all_goals first | exact ihn | (refine at2 ihn ?_ ?_ <;> simp; done) | (exfalso; first | omega | (simp_all; done) | (simp_all; omega))
      ·have : eqP a b = false := eqP_no (fun h => he (by cases h; rfl))
       rw [this] at hR
       subst hR
       rw [eqP_no he] at hc
       apply hQ
       clear hQ ihn
       (refine Sg.h ?_;try repeat' ((first | (with_reducible first|refine brA ?_|refine brE fun _=>?_|refine spl ⟨?_,?_⟩<;>intro _) | refine clo hc ?_) <;> ((try simp -implicitDefEqProofs [hia,hib]); (try simp -implicitDefEqProofs(disch:=first|assumption|(try simp only[lens]);omega -splitDisjunctions) [hia,hib]))))
    all_goals first | exact main a.args.length 0 (Nat.zero_add _) rfl | (refine at2 main a.args.length 0 (Nat.zero_add _) rfl ?_ ?_ <;> simp; done) | (exfalso; first | omega | (simp_all; done) | (simp_all; omega))
   ·have : eqP a b = false := eqP_no (fun h => hl (by rw [h]))
    rw [this]
    have hl' : ¬ (a.args.length : Int) = (b.args.length : Int) := by omega
    (refine Sg.h ?_;try repeat' ((with_reducible first|refine brA ?_|refine brE fun _=>?_|refine spl ⟨?_,?_⟩<;>intro _)<;> ((try simp -implicitDefEqProofs [hn,hl']); (try simp -implicitDefEqProofs(disch:=first|assumption|(try simp only[lens]);omega -splitDisjunctions) [hn,hl']))))
  ·have : eqP a b = false := eqP_no (fun h => hn (by rw [h]))
   rw [this]
   (refine Sg.h ?_;try repeat' ((with_reducible first|refine brA ?_|refine brE fun _=>?_|refine spl ⟨?_,?_⟩<;>intro _)<;> ((try simp -implicitDefEqProofs [hn]); (try simp -implicitDefEqProofs(disch:=first|assumption|(try simp only[lens]);omega -splitDisjunctions) [hn]))))
end Go.Proofs.Ytcllmionhlmjfaa
namespace Go.Proofs.Ytcllmionhlmjfaa
open Go Go.Pv
theorem ex_ext {a b : Ex} (h1 : a.k = b.k) (h2 : a.nm = b.nm) (h3 : a.words = b.words) (h4 : a.kids = b.kids) : a = b := by
 cases a; cases b; simp at h1 h2 h3 h4; rw [h1,h2,h3,h4]
def x33_L2 : XC := .seq (.seq (.reg [⟨some 56,.move (.tmp 6),none⟩,⟨some 57,.fieldAddr 57 (.tmp 2) 3,none⟩,⟨some 58,.load 55 (.tmp 57),none⟩,⟨some 59,.call ⟨.builtin .len,#[.tmp 58],#[55]⟩,none⟩,⟨some 60,.binOp .lss 3 (.tmp 56) (.tmp 59) 3,none⟩]) (.cond (.tmp 60) .skip (.exit 2))) (.seq (.block 3 (.seq (.drawn 11 [⟨some 63,.fieldAddr 57 (.tmp 2) 3,none⟩,⟨some 64,.load 55 (.tmp 63),none⟩,⟨some 65,.move (.tmp 6),none⟩,⟨some 66,.indexAddr 55 (.tmp 64) (.tmp 65),none⟩,⟨some 67,.load 57 (.tmp 66),none⟩,⟨some 68,.fieldAddr 57 (.tmp 3) 3,none⟩,⟨some 69,.load 55 (.tmp 68),none⟩,⟨some 70,.move (.tmp 6),none⟩,⟨some 71,.indexAddr 55 (.tmp 69) (.tmp 70),none⟩,⟨some 72,.load 57 (.tmp 71),none⟩,⟨some 73,.call ⟨.value (.func 33),#[.tmp 67,.tmp 72],#[57,57]⟩,none⟩,⟨some 74,.unOp .not 4 (.tmp 73),none⟩]) (.cond (.tmp 74) (.seq (.reg [⟨some 4,.assign (.const (.bool false)),none⟩]) .ret) .skip))) (.reg [⟨some 61,.move (.tmp 6),none⟩,⟨some 62,.binOp .add 3 (.tmp 61) (.const (.int .i64 1)) 3,none⟩,⟨some 6,.assign (.tmp 62),none⟩]))
def x33_T1 : XC := .seq (.seq (.reg [⟨some 6,.assign (.const (.int .i64 0)),none⟩]) (.bloop 2 x33_L2)) (.seq (.reg [⟨some 4,.assign (.const (.bool true)),none⟩]) .ret)
def x33_L0 : XC := .seq (.seq (.reg [⟨some 37,.move (.tmp 5),none⟩,⟨some 38,.fieldAddr 57 (.tmp 2) 2,none⟩,⟨some 39,.load 54 (.tmp 38),none⟩,⟨some 40,.call ⟨.builtin .len,#[.tmp 39],#[54]⟩,none⟩,⟨some 41,.binOp .lss 3 (.tmp 37) (.tmp 40) 3,none⟩]) (.cond (.tmp 41) .skip (.exit 0))) (.seq (.block 1 (.seq (.drawn 6 [⟨some 44,.fieldAddr 57 (.tmp 2) 2,none⟩,⟨some 45,.load 54 (.tmp 44),none⟩,⟨some 46,.move (.tmp 5),none⟩,⟨some 47,.indexAddr 54 (.tmp 45) (.tmp 46),none⟩,⟨some 48,.load 103 (.tmp 47),none⟩,⟨some 49,.fieldAddr 57 (.tmp 3) 2,none⟩,⟨some 50,.load 54 (.tmp 49),none⟩,⟨some 51,.move (.tmp 5),none⟩,⟨some 52,.indexAddr 54 (.tmp 50) (.tmp 51),none⟩,⟨some 53,.load 103 (.tmp 52),none⟩,⟨some 54,.call ⟨.value (.func 73),#[.tmp 48,.tmp 53],#[103,103]⟩,none⟩,⟨some 55,.unOp .not 4 (.tmp 54),none⟩]) (.cond (.tmp 55) (.seq (.reg [⟨some 4,.assign (.const (.bool false)),none⟩]) .ret) .skip))) (.reg [⟨some 42,.move (.tmp 5),none⟩,⟨some 43,.binOp .add 3 (.tmp 42) (.const (.int .i64 1)) 3,none⟩,⟨some 5,.assign (.tmp 43),none⟩]))
def x33 : XC := .seq (.reg [⟨some 2,.box 57 (.tmp 0),none⟩,⟨some 3,.box 57 (.tmp 1),none⟩,⟨some 4,.assign (.const (.bool false)),none⟩]) (.seq (.seq (.reg [⟨some 7,.fieldAddr 57 (.tmp 2) 0,none⟩,⟨some 8,.load 3 (.tmp 7),none⟩,⟨some 9,.fieldAddr 57 (.tmp 3) 0,none⟩,⟨some 10,.load 3 (.tmp 9),none⟩,⟨some 11,.binOp .neq 3 (.tmp 8) (.tmp 10) 3,none⟩,⟨some 12,.move (.tmp 11),none⟩,⟨some 13,.fieldAddr 57 (.tmp 2) 1,some (some 12,false)⟩,⟨some 14,.load 9 (.tmp 13),some (some 12,false)⟩,⟨some 15,.fieldAddr 57 (.tmp 3) 1,some (some 12,false)⟩,⟨some 16,.load 9 (.tmp 15),some (some 12,false)⟩,⟨some 17,.binOp .neq 9 (.tmp 14) (.tmp 16) 9,some (some 12,false)⟩,⟨some 18,.pick (.tmp 12) (.const (.bool true)) (.tmp 17),none⟩,⟨some 19,.move (.tmp 18),none⟩,⟨some 20,.fieldAddr 57 (.tmp 2) 2,some (some 19,false)⟩,⟨some 21,.load 54 (.tmp 20),some (some 19,false)⟩,⟨some 22,.call ⟨.builtin .len,#[.tmp 21],#[54]⟩,some (some 19,false)⟩,⟨some 23,.fieldAddr 57 (.tmp 3) 2,some (some 19,false)⟩,⟨some 24,.load 54 (.tmp 23),some (some 19,false)⟩,⟨some 25,.call ⟨.builtin .len,#[.tmp 24],#[54]⟩,some (some 19,false)⟩,⟨some 26,.binOp .neq 3 (.tmp 22) (.tmp 25) 3,some (some 19,false)⟩,⟨some 27,.pick (.tmp 19) (.const (.bool true)) (.tmp 26),none⟩,⟨some 28,.move (.tmp 27),none⟩,⟨some 29,.fieldAddr 57 (.tmp 2) 3,some (some 28,false)⟩,⟨some 30,.load 55 (.tmp 29),some (some 28,false)⟩,⟨some 31,.call ⟨.builtin .len,#[.tmp 30],#[55]⟩,some (some 28,false)⟩,⟨some 32,.fieldAddr 57 (.tmp 3) 3,some (some 28,false)⟩,⟨some 33,.load 55 (.tmp 32),some (some 28,false)⟩,⟨some 34,.call ⟨.builtin .len,#[.tmp 33],#[55]⟩,some (some 28,false)⟩,⟨some 35,.binOp .neq 3 (.tmp 31) (.tmp 34) 3,some (some 28,false)⟩,⟨some 36,.pick (.tmp 28) (.const (.bool true)) (.tmp 35),none⟩]) (.cond (.tmp 36) (.seq (.reg [⟨some 4,.assign (.const (.bool false)),none⟩]) .ret) .skip)) (.seq (.seq (.reg [⟨some 5,.assign (.const (.int .i64 0)),none⟩]) (.bloop 0 x33_L0)) (x33_T1)))
@[simp] theorem x33_s {C e s K} : type_of% (@X_at C e s K _ _ x33_L2.eq_1) ∧ type_of% (@X_at C e s K _ _ x33_T1.eq_1) ∧ type_of% (@X_at C e s K _ _ x33_L0.eq_1) ∧ type_of% (@X_at C e s K _ _ x33.eq_1) := ⟨X_at x33_L2.eq_1,X_at x33_T1.eq_1,X_at x33_L0.eq_1,X_at x33.eq_1⟩
def an33 : Ann := ⟨[(6,.mix 10),(11,.mix 10)],[(2,[],[2,3,6],[4]),(0,[],[2,3,5],[2,3,4])],[]⟩
@[simp] theorem an33_a : an33.clsOf 6 = .mix 10 ∧ an33.clsOf 11 = .mix 10 ∧ an33.frzOf 6 = [] ∧ an33.frzOf 11 = [] ∧ an33.loopOf 2 = ([],[2,3,6],[4]) ∧ an33.loopOf 0 = ([],[2,3,5],[2,3,4]) := ⟨rfl,rfl,rfl,rfl,rfl,rfl⟩
theorem fi33 : FI Try.prog 33 (cxA an33) x33 [.tmp 4] Try.f33 := fiA Try.func33 mixed
theorem SameExpr_ref (a : Ex) : ∀ b : Ex,CallOK Try.prog 33 [.agg (exr a),.agg (exr b)] [] (.bool (eqP a b)) [] := by
 induction a using Ex.ind with
 | h a ih =>
  intro b
  refine fi33.op ?_
  obtain ⟨R,hR⟩ : ∃ R,eqP a b = R := ⟨_,rfl⟩
  rw [hR]
  by_cases hk : a.k = b.k
  ·by_cases hn : a.nm = b.nm
   ·by_cases hw : a.words.length = b.words.length
    ·by_cases hl : a.kids.length = b.kids.length
     ·(refine Sg.h ?_;try repeat' ((with_reducible first|refine brA ?_|refine brE fun _=>?_|refine spl ⟨?_,?_⟩<;>intro _)<;> ((try simp -implicitDefEqProofs [hk,hn,hw,hl]); (try simp -implicitDefEqProofs(disch:=first|assumption|(try simp only[lens]);omega -splitDisjunctions) [hk,hn,hw,hl]))))
      refine W_of fun Q hQ => ?_
      have main : ∀ n i,i + n = a.words.length → a.words.take i = b.words.take i → Q [(2,.ptr 0 0 0),(3,.ptr 1 0 0),(5,.int .i64 (i : Int))] [.rows 4 [exr a],.rows 4 [exr b]] := by
       intro n
       induction n with
       | zero =>
        intro i hi ht
        obtain rfl : i = a.words.length := by omega
        have hws : a.words = b.words := by
         rw [List.take_of_length_le (Nat.le_refl _),hw,List.take_of_length_le (Nat.le_refl _)] at ht
         exact ht
        apply hQ
        clear hQ
        (refine Sg.h ?_;try repeat' ((with_reducible first|refine brA ?_|refine brE fun _=>?_|refine spl ⟨?_,?_⟩<;>intro _)<;> ((try simp -implicitDefEqProofs [hw]); (try simp -implicitDefEqProofs(disch:=first|assumption|(try simp only[lens]);omega -splitDisjunctions) [hw]))))
        refine W_of fun Q2 hQ2 => ?_
        have main2 : ∀ n i,i + n = a.kids.length → a.kids.take i = b.kids.take i → Q2 [(2,.ptr 0 0 0),(3,.ptr 1 0 0),(6,.int .i64 (i : Int))] [.rows 4 [exr a],.rows 4 [exr b]] := by
         intro n
         induction n with
         | zero =>
          intro i hi ht
          obtain rfl : i = a.kids.length := by omega
          rw [List.take_of_length_le (Nat.le_refl _),hl,List.take_of_length_le (Nat.le_refl _)] at ht
          rw [eqP_true.2 (ex_ext hk hn hws ht)] at hR
          subst hR
          apply hQ2
          clear hQ2
          (refine Sg.h ?_;try repeat' ((with_reducible first|refine brA ?_|refine brE fun _=>?_|refine spl ⟨?_,?_⟩<;>intro _)<;> ((try simp -implicitDefEqProofs [hl]); (try simp -implicitDefEqProofs(disch:=first|assumption|(try simp only[lens]);omega -splitDisjunctions) [hl]))))
         | succ n ihn =>
          intro i hi ht
          have hia : i < a.kids.length := by omega
          have hib : i < b.kids.length := by omega
          have hc := ih a.kids[i] (List.getElem_mem hia) b.kids[i]
          by_cases he : a.kids[i] = b.kids[i]
          ·have ihn := ihn (i + 1) (by omega) (by rw [take_snocE hia,take_snocE hib,ht,he])
           rw [eqP_true.2 he] at hc
           apply hQ2
           clear hQ2
           (refine Sg.h ?_;try repeat' ((first | (with_reducible first|refine brA ?_|refine brE fun _=>?_|refine spl ⟨?_,?_⟩<;>intro _) | refine clo hc ?_) <;> ((try simp -implicitDefEqProofs [hia,hib]); (try simp -implicitDefEqProofs(disch:=first|assumption|(try simp only[lens]);omega -splitDisjunctions) [hia,hib]))))
           all_goals first | exact ihn | (refine at2 ihn ?_ ?_ <;> simp; done) | (exfalso; first | omega | (simp_all; done) | (simp_all; omega))
          ·have : eqP a b = false := eqP_no (fun h => he (by cases h; rfl))
           rw [this] at hR
           subst hR
           rw [eqP_no he] at hc
           apply hQ2
           clear hQ2 ihn
           (refine Sg.h ?_;try repeat' ((first | (with_reducible first|refine brA ?_|refine brE fun _=>?_|refine spl ⟨?_,?_⟩<;>intro _) | refine clo hc ?_) <;> ((try simp -implicitDefEqProofs [hia,hib]); (try simp -implicitDefEqProofs(disch:=first|assumption|(try simp only[lens]);omega -splitDisjunctions) [hia,hib]))))
        all_goals first | exact main2 a.kids.length 0 (Nat.zero_add _) rfl | (refine at2 main2 a.kids.length 0 (Nat.zero_add _) rfl ?_ ?_ <;> simp; done) | (exfalso; first | omega | (simp_all; done) | (simp_all; omega))
       | succ n ihn =>
        intro i hi ht
        have hia : i < a.words.length := by omega
        have hib : i < b.words.length := by omega
        have hc := SameWord_ref a.words[i] b.words[i]
        by_cases he : a.words[i] = b.words[i]
        ·have ihn := ihn (i + 1) (by omega) (by rw [take_snocE hia,take_snocE hib,ht,he])
         rw [eqP_true.2 he] at hc
         apply hQ
         clear hQ
         (refine Sg.h ?_;try repeat' ((first | (with_reducible first|refine brA ?_|refine brE fun _=>?_|refine spl ⟨?_,?_⟩<;>intro _) | refine clo hc ?_) <;> ((try simp -implicitDefEqProofs [hia,hib]); (try simp -implicitDefEqProofs(disch:=first|assumption|(try simp only[lens]);omega -splitDisjunctions) [hia,hib]))))
         all_goals first | exact ihn | (refine at2 ihn ?_ ?_ <;> simp; done) | (exfalso; first | omega | (simp_all; done) | (simp_all; omega))
        ·have : eqP a b = false := eqP_no (fun h => he (by cases h; rfl))
         rw [this] at hR
         subst hR
         rw [eqP_no he] at hc
         apply hQ
         clear hQ ihn
         (refine Sg.h ?_;try repeat' ((first | (with_reducible first|refine brA ?_|refine brE fun _=>?_|refine spl ⟨?_,?_⟩<;>intro _) | refine clo hc ?_) <;> ((try simp -implicitDefEqProofs [hia,hib]); (try simp -implicitDefEqProofs(disch:=first|assumption|(try simp only[lens]);omega -splitDisjunctions) [hia,hib]))))
      all_goals first | exact main a.words.length 0 (Nat.zero_add _) rfl | (refine at2 main a.words.length 0 (Nat.zero_add _) rfl ?_ ?_ <;> simp; done) | (exfalso; first | omega | (simp_all; done) | (simp_all; omega))
     ·rw [eqP_no (fun h => hl (by rw [h]))] at hR
      subst hR
      have hl' : ¬ (a.kids.length : Int) = (b.kids.length : Int) := by omega
      (refine Sg.h ?_;try repeat' ((with_reducible first|refine brA ?_|refine brE fun _=>?_|refine spl ⟨?_,?_⟩<;>intro _)<;> ((try simp -implicitDefEqProofs [hk,hn,hw,hl']); (try simp -implicitDefEqProofs(disch:=first|assumption|(try simp only[lens]);omega -splitDisjunctions) [hk,hn,hw,hl']))))
    ·rw [eqP_no (fun h => hw (by rw [h]))] at hR
     subst hR
     have hw' : ¬ (a.words.length : Int) = (b.words.length : Int) := by omega
     (refine Sg.h ?_;try repeat' ((with_reducible first|refine brA ?_|refine brE fun _=>?_|refine spl ⟨?_,?_⟩<;>intro _)<;> ((try simp -implicitDefEqProofs [hk,hn,hw']); (try simp -implicitDefEqProofs(disch:=first|assumption|(try simp only[lens]);omega -splitDisjunctions) [hk,hn,hw']))))
   ·rw [eqP_no (fun h => hn (by rw [h]))] at hR
    subst hR
    (refine Sg.h ?_;try repeat' ((with_reducible first|refine brA ?_|refine brE fun _=>?_|refine spl ⟨?_,?_⟩<;>intro _)<;> ((try simp -implicitDefEqProofs [hk,hn]); (try simp -implicitDefEqProofs(disch:=first|assumption|(try simp only[lens]);omega -splitDisjunctions) [hk,hn]))))
  ·rw [eqP_no (fun h => hk (by rw [h]))] at hR
   subst hR
   (refine Sg.h ?_;try repeat' ((with_reducible first|refine brA ?_|refine brE fun _=>?_|refine spl ⟨?_,?_⟩<;>intro _)<;> ((try simp -implicitDefEqProofs [hk]); (try simp -implicitDefEqProofs(disch:=first|assumption|(try simp only[lens]);omega -splitDisjunctions) [hk]))))
def x32 : XC := .seq (.reg [⟨some 1,.box 57 (.tmp 0),none⟩,⟨some 2,.assign (.const (.bool false)),none⟩]) (.seq (.reg [⟨some 3,.fieldAddr 57 (.tmp 1) 0,none⟩,⟨some 4,.load 3 (.tmp 3),none⟩,⟨some 5,.binOp .eql 3 (.tmp 4) (.const (.int .i64 0)) 3,none⟩,⟨some 6,.move (.tmp 5),none⟩,⟨some 7,.fieldAddr 57 (.tmp 1) 1,some (some 6,true)⟩,⟨some 8,.load 9 (.tmp 7),some (some 6,true)⟩,⟨some 9,.binOp .eql 9 (.tmp 8) (.const (.string ⟨#[]⟩)) 9,some (some 6,true)⟩,⟨some 10,.pick (.tmp 6) (.tmp 9) (.const (.bool false)),none⟩,⟨some 11,.move (.tmp 10),none⟩,⟨some 12,.fieldAddr 57 (.tmp 1) 2,some (some 11,true)⟩,⟨some 13,.load 54 (.tmp 12),some (some 11,true)⟩,⟨some 14,.call ⟨.builtin .len,#[.tmp 13],#[54]⟩,some (some 11,true)⟩,⟨some 15,.binOp .eql 3 (.tmp 14) (.const (.int .i64 0)) 3,some (some 11,true)⟩,⟨some 16,.pick (.tmp 11) (.tmp 15) (.const (.bool false)),none⟩,⟨some 17,.move (.tmp 16),none⟩,⟨some 18,.fieldAddr 57 (.tmp 1) 3,some (some 17,true)⟩,⟨some 19,.load 55 (.tmp 18),some (some 17,true)⟩,⟨some 20,.call ⟨.builtin .len,#[.tmp 19],#[55]⟩,some (some 17,true)⟩,⟨some 21,.binOp .eql 3 (.tmp 20) (.const (.int .i64 0)) 3,some (some 17,true)⟩,⟨some 22,.pick (.tmp 17) (.tmp 21) (.const (.bool false)),none⟩,⟨some 2,.assign (.tmp 22),none⟩]) .ret)
@[simp] theorem x32_s {C e s K} : type_of% (@X_at C e s K _ _ x32.eq_1) := X_at x32.eq_1
def an32 : Ann := ⟨[],[],[]⟩
theorem fi32 : FI Try.prog 32 (cxA an32) x32 [.tmp 2] Try.f32 := fiA Try.func32 mixed
theorem noExpr_law : CallOK Try.prog 32 [.agg (exr zEx)] [] (.bool true) [] := by
 refine fi32.op ?_
 (refine Sg.h ?_;try repeat' ((with_reducible first|refine brA ?_|refine brE fun _=>?_|refine spl ⟨?_,?_⟩<;>intro _)<;> ((try simp -implicitDefEqProofs [exr_zEx]); (try simp -implicitDefEqProofs(disch:=first|assumption|(try simp only[lens]);omega -splitDisjunctions) [exr_zEx]))))
def tX : ByteArray := ⟨#[33,120,32,80,40,120,41,32,38,32,81,32,45,62,32,63,121,32,70,40,121,44,32,67,41,32,61,32,120]⟩
def vX (c : UInt8) : Wd := .mk ⟨#[c]⟩ []
def fX : Ex := .mk 8 ⟨#[]⟩ [] [.mk 6 ⟨#[]⟩ [] [.mk 9 ⟨#[120]⟩ [] [.mk 1 ⟨#[80]⟩ [vX 120] []],.mk 1 ⟨#[81]⟩ [] []],.mk 10 ⟨#[121]⟩ [] [.mk 2 ⟨#[]⟩ [.mk ⟨#[70]⟩ [vX 121,vX 67],vX 120] []]]
theorem parse_tX : parseX tX = (fX,0,0) := by kernel_rfl
theorem check_fX : checkX fX = (0,0) := by kernel_rfl
theorem said_fX : sdX fX 1 = tX := by kernel_rfl
def x30 : XC := .seq (.reg [⟨some 0,.assign (.const (.bool false)),none⟩]) (.seq (.reg [⟨some 6,.call ⟨.value (.func 29),#[.const (.string ⟨#[33,120,32,80,40,120,41,32,38,32,81,32,45,62,32,63,121,32,70,40,121,44,32,67,41,32,61,32,120]⟩)],#[9]⟩,none⟩,⟨some 5,.move (.tmp 6),none⟩,⟨some 7,.extract (.tmp 5) 0,none⟩,⟨some 8,.extract (.tmp 5) 1,none⟩,⟨some 1,.alloc 57,none⟩,⟨some 2,.alloc 29,none⟩,⟨none,.store 57 (.tmp 1) (.tmp 7),none⟩,⟨none,.store 29 (.tmp 2) (.tmp 8),none⟩]) (.seq (.reg [⟨some 10,.load 57 (.tmp 1),none⟩,⟨some 11,.call ⟨.value (.func 34),#[.tmp 10],#[57]⟩,none⟩,⟨some 9,.move (.tmp 11),none⟩,⟨some 12,.extract (.tmp 9) 0,none⟩,⟨some 13,.extract (.tmp 9) 1,none⟩,⟨some 4,.alloc 29,none⟩,⟨some 3,.assign (.tmp 12),none⟩,⟨none,.store 29 (.tmp 4) (.tmp 13),none⟩]) (.seq (.reg [⟨some 14,.fieldAddr 29 (.tmp 2) 0,none⟩,⟨some 15,.load 3 (.tmp 14),none⟩,⟨some 16,.binOp .eql 3 (.tmp 15) (.const (.int .i64 0)) 3,none⟩,⟨some 17,.move (.tmp 16),none⟩,⟨some 18,.fieldAddr 29 (.tmp 4) 0,some (some 17,true)⟩,⟨some 19,.load 3 (.tmp 18),some (some 17,true)⟩,⟨some 20,.binOp .eql 3 (.tmp 19) (.const (.int .i64 0)) 3,some (some 17,true)⟩,⟨some 21,.pick (.tmp 17) (.tmp 20) (.const (.bool false)),none⟩,⟨some 22,.move (.tmp 21),none⟩,⟨some 23,.move (.tmp 3),some (some 22,true)⟩,⟨some 24,.binOp .eql 9 (.tmp 23) (.const (.string ⟨#[33,120,32,80,40,120,41,32,38,32,81,32,45,62,32,63,121,32,70,40,121,44,32,67,41,32,61,32,120]⟩)) 9,some (some 22,true)⟩,⟨some 25,.pick (.tmp 22) (.tmp 24) (.const (.bool false)),none⟩,⟨some 0,.assign (.tmp 25),none⟩]) .ret)))
@[simp] theorem x30_s {C e s K} : type_of% (@X_at C e s K _ _ x30.eq_1) := X_at x30.eq_1
def an30 : Ann := ⟨[],[],[]⟩
theorem fi30 : FI Try.prog 30 (cxA an30) x30 [.tmp 0] Try.f30 := fiA Try.func30 mixed
theorem firstBegun_law : CallOK Try.prog 30 [] [] (.bool true) [] := by
 have h1 := Parse_first tX
 rw [parse_tX] at h1
 have hc := check_fX
 obtain ⟨ho,hn⟩ := check_ok hc
 have h2 := Print_first fX hc ho (by omega)
 rw [said_fX] at h2
 unfold tX at h1 h2
 generalize fX = f at *
 refine fi30.op ?_
 (refine Sg.h ?_;try repeat' ((first | (with_reducible first|refine brA ?_|refine brE fun _=>?_|refine spl ⟨?_,?_⟩<;>intro _) | refine clo h1 ?_ | refine clo h2 ?_) <;> ((try simp -implicitDefEqProofs); (try simp -implicitDefEqProofs(disch:=first|assumption|(try simp only[lens]);omega -splitDisjunctions)))))
def x8 : XC := .seq (.reg [⟨some 2,.assign (.const (.bool false)),none⟩]) (.seq (.reg [⟨some 12,.move (.tmp 0),none⟩,⟨some 13,.call ⟨.value (.func 29),#[.tmp 12],#[9]⟩,none⟩,⟨some 11,.move (.tmp 13),none⟩,⟨some 14,.extract (.tmp 11) 0,none⟩,⟨some 15,.extract (.tmp 11) 1,none⟩,⟨some 3,.alloc 57,none⟩,⟨some 4,.alloc 29,none⟩,⟨none,.store 57 (.tmp 3) (.tmp 14),none⟩,⟨none,.store 29 (.tmp 4) (.tmp 15),none⟩]) (.seq (.seq (.reg [⟨some 16,.call ⟨.value (.func 30),#[],#[]⟩,none⟩,⟨some 17,.unOp .not 4 (.tmp 16),none⟩]) (.cond (.tmp 17) (.seq (.reg [⟨some 2,.assign (.const (.bool false)),none⟩]) .ret) .skip)) (.seq (.reg [⟨some 19,.move (.tmp 0),none⟩,⟨some 20,.call ⟨.value (.func 31),#[.tmp 19],#[9]⟩,none⟩,⟨some 18,.move (.tmp 20),none⟩,⟨some 21,.extract (.tmp 18) 0,none⟩,⟨some 22,.extract (.tmp 18) 1,none⟩,⟨some 5,.alloc 57,none⟩,⟨some 6,.alloc 29,none⟩,⟨none,.store 57 (.tmp 5) (.tmp 21),none⟩,⟨none,.store 29 (.tmp 6) (.tmp 22),none⟩]) (.seq (.seq (.reg [⟨some 23,.load 29 (.tmp 4),none⟩,⟨some 24,.load 29 (.tmp 6),none⟩,⟨some 25,.binOp .neq 29 (.tmp 23) (.tmp 24) 29,none⟩]) (.cond (.tmp 25) (.seq (.reg [⟨some 2,.assign (.const (.bool false)),none⟩]) .ret) .skip)) (.seq (.seq (.reg [⟨some 26,.fieldAddr 29 (.tmp 6) 0,none⟩,⟨some 27,.load 3 (.tmp 26),none⟩,⟨some 28,.binOp .neq 3 (.tmp 27) (.const (.int .i64 0)) 3,none⟩]) (.cond (.tmp 28) (.seq (.reg [⟨some 29,.load 57 (.tmp 3),none⟩,⟨some 30,.call ⟨.value (.func 32),#[.tmp 29],#[57]⟩,none⟩,⟨some 2,.assign (.tmp 30),none⟩]) .ret) .skip)) (.seq (.seq (.reg [⟨some 31,.load 57 (.tmp 3),none⟩,⟨some 32,.load 57 (.tmp 5),none⟩,⟨some 33,.call ⟨.value (.func 33),#[.tmp 31,.tmp 32],#[57,57]⟩,none⟩,⟨some 34,.unOp .not 4 (.tmp 33),none⟩]) (.cond (.tmp 34) (.seq (.reg [⟨some 2,.assign (.const (.bool false)),none⟩]) .ret) .skip)) (.seq (.reg [⟨some 36,.load 57 (.tmp 3),none⟩,⟨some 37,.call ⟨.value (.func 34),#[.tmp 36],#[57]⟩,none⟩,⟨some 35,.move (.tmp 37),none⟩,⟨some 38,.extract (.tmp 35) 0,none⟩,⟨some 39,.extract (.tmp 35) 1,none⟩,⟨some 8,.alloc 29,none⟩,⟨some 7,.assign (.tmp 38),none⟩,⟨none,.store 29 (.tmp 8) (.tmp 39),none⟩]) (.seq (.reg [⟨some 41,.move (.tmp 7),none⟩,⟨some 42,.call ⟨.value (.func 29),#[.tmp 41],#[9]⟩,none⟩,⟨some 40,.move (.tmp 42),none⟩,⟨some 43,.extract (.tmp 40) 0,none⟩,⟨some 44,.extract (.tmp 40) 1,none⟩,⟨some 9,.alloc 57,none⟩,⟨some 10,.alloc 29,none⟩,⟨none,.store 57 (.tmp 9) (.tmp 43),none⟩,⟨none,.store 29 (.tmp 10) (.tmp 44),none⟩]) (.seq (.reg [⟨some 45,.fieldAddr 29 (.tmp 8) 0,none⟩,⟨some 46,.load 3 (.tmp 45),none⟩,⟨some 47,.binOp .eql 3 (.tmp 46) (.const (.int .i64 0)) 3,none⟩,⟨some 48,.move (.tmp 47),none⟩,⟨some 49,.fieldAddr 29 (.tmp 10) 0,some (some 48,true)⟩,⟨some 50,.load 3 (.tmp 49),some (some 48,true)⟩,⟨some 51,.binOp .eql 3 (.tmp 50) (.const (.int .i64 0)) 3,some (some 48,true)⟩,⟨some 52,.pick (.tmp 48) (.tmp 51) (.const (.bool false)),none⟩,⟨some 53,.move (.tmp 52),none⟩,⟨some 54,.load 57 (.tmp 3),some (some 53,true)⟩,⟨some 55,.load 57 (.tmp 9),some (some 53,true)⟩,⟨some 56,.call ⟨.value (.func 33),#[.tmp 54,.tmp 55],#[57,57]⟩,some (some 53,true)⟩,⟨some 57,.pick (.tmp 53) (.tmp 56) (.const (.bool false)),none⟩,⟨some 2,.assign (.tmp 57),none⟩]) .ret)))))))))
@[simp] theorem x8_s {C e s K} : type_of% (@X_at C e s K _ _ x8.eq_1) := X_at x8.eq_1
def an8 : Ann := ⟨[],[],[]⟩
theorem fi8 : FI Try.prog 8 (cxA an8) x8 [.tmp 2] Try.f8 := fiA Try.func8 mixed
theorem firstReads_law (t : ByteArray) : CallOK Try.prog 8 [.str t] [] (.bool true) [] := by
 have hb := firstBegun_law
 have h1 := Parse_first t
 have h2 := ReadExpr_ref t
 have hz : (parseX t).2.1 ≠ 0 → (parseX t).1 = zEx := by
  unfold parseX
  split
  ·exact fun _ => rfl
  split
  ·exact fun _ => rfl
  split
  ·exact fun _ => rfl
  ·exact fun h => absurd rfl h
 have hk : (parseX t).2.1 = 0 → checkX (parseX t).1 = (0,0) ∧ (parseX t).2 = (0,0) := by
  unfold parseX
  split
  ·exact fun h => absurd h (by decide)
  split
  ·rename_i h1 h2
   exact fun h => absurd h h2
  split
  ·rename_i h1 h2 h3
   exact fun h => absurd h h3
  ·rename_i h1 h2 h3
   exact fun _ => ⟨checkX_zero (by simpa using h3),rfl⟩
 by_cases hc : (parseX t).2.1 = 0
 ·obtain ⟨hk,h0⟩ := hk hc
  rw [h0] at h1 h2
  clear hz hc h0
  generalize (parseX t).1 = e at *
  obtain ⟨ho,hn⟩ := check_ok hk
  have hs := sdX_size e ho 1
  have h3 := Print_first e hk ho (by omega)
  have h4 := Parse_first (sdX e 1)
  rw [parse_sdX e ho hk (by omega)] at h4
  have h5 := SameExpr_ref e e
  rw [eqP_self] at h5
  generalize sdX e 1 = s at *
  refine fi8.op ?_
  (refine Sg.h ?_;try repeat' ((first | (with_reducible first|refine brA ?_|refine brE fun _=>?_|refine spl ⟨?_,?_⟩<;>intro _) | refine clo h1 ?_ | refine clo hb ?_ | refine clo h2 ?_ | refine clo h3 ?_ | refine clo h4 ?_ | refine clo h5 ?_) <;> ((try simp -implicitDefEqProofs); (try simp -implicitDefEqProofs(disch:=first|assumption|(try simp only[lens]);omega -splitDisjunctions)))))
 ·rw [hz hc] at h1 h2
  clear hz hk
  have hn := noExpr_law
  generalize (parseX t).2 = q at *
  obtain ⟨c,a⟩ := q
  dsimp only at hc
  generalize zEx = z at *
  refine fi8.op ?_
  (refine Sg.h ?_;try repeat' ((first | (with_reducible first|refine brA ?_|refine brE fun _=>?_|refine spl ⟨?_,?_⟩<;>intro _) | refine clo h1 ?_ | refine clo hb ?_ | refine clo h2 ?_ | refine clo hn ?_) <;> ((try simp -implicitDefEqProofs [hc]); (try simp -implicitDefEqProofs(disch:=first|assumption|(try simp only[lens]);omega -splitDisjunctions) [hc]))))
end Go.Proofs.Ytcllmionhlmjfaa
