import Derived.Test.YtcllmionhlmjfaaGFaK
set_option linter.unusedVariables false
set_option linter.unusedSimpArgs false
set_option maxRecDepth 100000
set_option maxHeartbeats 4000000
namespace Go.Proofs.Ytcllmionhlmjfaa
open Go Go.Pv
def valR {α : Type} (enc : α → PV) (R : RC α) (z : α) : PV := match R with
 | .ok (f,j) => .tuple [enc f,.int .i64 (j : Int),.int .i64 (-1)]
 | .error p => .tuple [enc z,.int .i64 0,.int .i64 (p : Int)]
def x98 : XC := .seq (.reg [⟨some 4,.alloc 103,none⟩,⟨some 5,.assign (.const (.int .i64 0)),none⟩,⟨some 6,.assign (.const (.int .i64 0)),none⟩]) (.seq (.reg [⟨some 15,.move (.tmp 0),none⟩,⟨some 16,.move (.tmp 1),none⟩,⟨some 17,.call ⟨.value (.func 71),#[.tmp 15,.tmp 16],#[9,3]⟩,none⟩,⟨some 14,.move (.tmp 17),none⟩,⟨some 18,.extract (.tmp 14) 0,none⟩,⟨some 19,.extract (.tmp 14) 1,none⟩,⟨some 20,.extract (.tmp 14) 2,none⟩,⟨some 7,.assign (.tmp 18),none⟩,⟨some 8,.assign (.tmp 19),none⟩,⟨some 9,.assign (.tmp 20),none⟩]) (.seq (.seq (.reg [⟨some 21,.move (.tmp 7),none⟩,⟨some 22,.call ⟨.value (.func 44),#[.tmp 21],#[9]⟩,none⟩,⟨some 23,.unOp .not 4 (.tmp 22),none⟩,⟨some 24,.move (.tmp 23),none⟩,⟨some 25,.move (.tmp 7),some (some 24,true)⟩,⟨some 26,.call ⟨.value (.func 120),#[.tmp 25],#[9]⟩,some (some 24,true)⟩,⟨some 27,.unOp .not 4 (.tmp 26),some (some 24,true)⟩,⟨some 28,.pick (.tmp 24) (.tmp 27) (.const (.bool false)),none⟩]) (.cond (.tmp 28) (.seq (.reg [⟨some 29,.build 103 #[],none⟩,⟨some 30,.move (.tmp 8),none⟩,⟨none,.store 103 (.tmp 4) (.tmp 29),none⟩,⟨some 5,.assign (.const (.int .i64 0)),none⟩,⟨some 6,.assign (.tmp 30),none⟩]) .ret) .skip)) (.seq (.reg [⟨some 31,.move (.tmp 7),none⟩,⟨some 32,.build 103 #[(0,.tmp 31)],none⟩,⟨some 10,.alloc 103,none⟩,⟨none,.store 103 (.tmp 10) (.tmp 32),none⟩]) (.seq (.seq (.reg [⟨some 33,.move (.tmp 7),none⟩,⟨some 34,.call ⟨.value (.func 44),#[.tmp 33],#[9]⟩,none⟩]) (.cond (.tmp 34) (.seq (.reg [⟨some 35,.load 103 (.tmp 10),none⟩,⟨some 36,.move (.tmp 9),none⟩,⟨none,.store 103 (.tmp 4) (.tmp 35),none⟩,⟨some 5,.assign (.tmp 36),none⟩,⟨some 6,.assign (.const (.int .i64 (-1))),none⟩]) .ret) .skip)) (.seq (.reg [⟨some 38,.move (.tmp 0),none⟩,⟨some 39,.move (.tmp 9),none⟩,⟨some 40,.call ⟨.value (.func 121),#[.tmp 38,.tmp 39],#[9,3]⟩,none⟩,⟨some 37,.move (.tmp 40),none⟩,⟨some 41,.extract (.tmp 37) 0,none⟩,⟨some 42,.extract (.tmp 37) 1,none⟩,⟨some 43,.extract (.tmp 37) 2,none⟩,⟨some 11,.assign (.tmp 41),none⟩,⟨some 12,.assign (.tmp 42),none⟩,⟨some 13,.assign (.tmp 43),none⟩]) (.seq (.reg [⟨some 44,.move (.tmp 11),none⟩,⟨some 45,.fieldAddr 103 (.tmp 10) 1,none⟩,⟨none,.store 54 (.tmp 45) (.tmp 44),none⟩]) (.seq (.reg [⟨some 46,.load 103 (.tmp 10),none⟩,⟨some 47,.move (.tmp 12),none⟩,⟨some 48,.move (.tmp 13),none⟩,⟨none,.store 103 (.tmp 4) (.tmp 46),none⟩,⟨some 5,.assign (.tmp 47),none⟩,⟨some 6,.assign (.tmp 48),none⟩]) .ret)))))))
@[simp] theorem x98_s {C e s K} : type_of% (@X_at C e s K _ _ x98.eq_1) := X_at x98.eq_1
def an98 : Ann := ⟨[],[],[]⟩
theorem fi98 : FI Try.prog 98 (cxA an98) x98 [.cell 4 103,.tmp 5,.tmp 6] Try.f98 := fiA Try.func98 mixed
theorem wordAt_of (t : ByteArray) (i : Nat) (hs : t.size ≤ 1000000) (hi : i ≤ t.size) (pa : Nat → RC (List Wd)) (ha : ∀ k,i ≤ k → k ≤ t.size → CallOK Try.prog 121 [.str t,.int .i64 (k : Int)] [] (valR eL (pa k) []) []) : ∃ z,CallOK Try.prog 98 [.str t,.int .i64 (i : Int)] [] (valR eW (wordC t pa i) z) [] := by
 have ht := sign_ref t i hs hi
 have hb := bl_ge t i
 have hte := xtok_le hi
 have h1 := IsName_ref (xtokF t i).1
 have h2 := IsBig_ref (xtokF t i).1
 unfold wordC
 generalize xtokF t i = T at *
 obtain ⟨w,a,b⟩ := T
 dsimp only at *
 cases hn : isNameB w with
 | true =>
  rw [hn] at h1
  refine ⟨.mk ⟨#[]⟩ [],?_⟩
  rw [if_pos rfl]
  refine fi98.os ?_
  (refine Sg.h ?_;try repeat' ((first | (with_reducible first|refine brA ?_|refine brE fun _=>?_|refine spl ⟨?_,?_⟩<;>intro _) | refine clo ht ?_ | refine clo h1 ?_) <;> ((try simp -implicitDefEqProofs); (try simp -implicitDefEqProofs(disch:=first|assumption|(try simp only[lens]);omega -splitDisjunctions)))))
  all_goals rfl
 | false =>
  rw [hn] at h1
  rw [if_neg (by decide)]
  cases hbg : isBigB w with
  | false =>
   rw [hbg] at h2
   refine ⟨.mk ⟨#[]⟩ [],?_⟩
   rw [if_neg (by decide)]
   refine fi98.os ?_
   (refine Sg.h ?_;try repeat' ((first | (with_reducible first|refine brA ?_|refine brE fun _=>?_|refine spl ⟨?_,?_⟩<;>intro _) | refine clo ht ?_ | refine clo h1 ?_ | refine clo h2 ?_) <;> ((try simp -implicitDefEqProofs); (try simp -implicitDefEqProofs(disch:=first|assumption|(try simp only[lens]);omega -splitDisjunctions)))))
   all_goals rfl
  | true =>
   rw [hbg] at h2
   rw [if_pos rfl]
   have h3 := ha b (by omega) hte.2
   cases hpa : pa b with
   | error q =>
    rw [hpa] at h3
    unfold valR at h3
    dsimp only [eL] at h3
    refine ⟨.mk w [],?_⟩
    refine fi98.os ?_
    (refine Sg.h ?_;try repeat' ((first | (with_reducible first|refine brA ?_|refine brE fun _=>?_|refine spl ⟨?_,?_⟩<;>intro _) | refine clo ht ?_ | refine clo h1 ?_ | refine clo h2 ?_ | refine clo h3 ?_) <;> ((try simp -implicitDefEqProofs); (try simp -implicitDefEqProofs(disch:=first|assumption|(try simp only[lens]);omega -splitDisjunctions)))))
    all_goals rfl
   | ok r =>
    obtain ⟨l,j⟩ := r
    rw [hpa] at h3
    unfold valR at h3
    dsimp only [eL] at h3
    refine ⟨.mk ⟨#[]⟩ [],?_⟩
    refine fi98.os ?_
    (refine Sg.h ?_;try repeat' ((first | (with_reducible first|refine brA ?_|refine brE fun _=>?_|refine spl ⟨?_,?_⟩<;>intro _) | refine clo ht ?_ | refine clo h1 ?_ | refine clo h2 ?_ | refine clo h3 ?_) <;> ((try simp -implicitDefEqProofs); (try simp -implicitDefEqProofs(disch:=first|assumption|(try simp only[lens]);omega -splitDisjunctions)))))
    all_goals (unfold valR; dsimp only [eW]; rw [wrd_eq]; rfl)
def x121_L0 : XC := .block 1 (.seq (.reg [⟨some 28,.move (.tmp 0),none⟩,⟨some 29,.move (.tmp 9),none⟩,⟨some 30,.call ⟨.value (.func 98),#[.tmp 28,.tmp 29],#[9,3]⟩,none⟩,⟨some 27,.move (.tmp 30),none⟩,⟨some 31,.extract (.tmp 27) 0,none⟩,⟨some 32,.extract (.tmp 27) 1,none⟩,⟨some 33,.extract (.tmp 27) 2,none⟩,⟨some 11,.alloc 103,none⟩,⟨none,.store 103 (.tmp 11) (.tmp 31),none⟩,⟨some 12,.assign (.tmp 32),none⟩,⟨some 13,.assign (.tmp 33),none⟩]) (.seq (.seq (.reg [⟨some 34,.move (.tmp 13),none⟩,⟨some 35,.binOp .geq 3 (.tmp 34) (.const (.int .i64 0)) 3,none⟩]) (.cond (.tmp 35) (.seq (.reg [⟨some 36,.move (.tmp 13),none⟩,⟨some 4,.assign (.const (.slice none 0 0)),none⟩,⟨some 5,.assign (.const (.int .i64 0)),none⟩,⟨some 6,.assign (.tmp 36),none⟩]) .ret) .skip)) (.seq (.reg [⟨some 37,.move (.tmp 10),none⟩,⟨some 38,.load 103 (.tmp 11),none⟩,⟨some 39,.buildSlice 54 1 #[(0,.tmp 38)],none⟩,⟨some 40,.call ⟨.builtin .append,#[.tmp 37,.tmp 39],#[54,54]⟩,none⟩,⟨some 10,.assign (.tmp 40),none⟩]) (.seq (.reg [⟨some 42,.move (.tmp 0),none⟩,⟨some 43,.move (.tmp 12),none⟩,⟨some 44,.call ⟨.value (.func 71),#[.tmp 42,.tmp 43],#[9,3]⟩,none⟩,⟨some 41,.move (.tmp 44),none⟩,⟨some 45,.extract (.tmp 41) 0,none⟩,⟨some 46,.extract (.tmp 41) 1,none⟩,⟨some 47,.extract (.tmp 41) 2,none⟩,⟨some 14,.assign (.tmp 45),none⟩,⟨some 15,.assign (.tmp 46),none⟩,⟨some 16,.assign (.tmp 47),none⟩]) (.seq (.seq (.reg [⟨some 48,.move (.tmp 14),none⟩,⟨some 49,.binOp .eql 9 (.tmp 48) (.const (.string ⟨#[41]⟩)) 9,none⟩]) (.cond (.tmp 49) (.seq (.reg [⟨some 50,.move (.tmp 10),none⟩,⟨some 51,.move (.tmp 16),none⟩,⟨some 4,.assign (.tmp 50),none⟩,⟨some 5,.assign (.tmp 51),none⟩,⟨some 6,.assign (.const (.int .i64 (-1))),none⟩]) .ret) .skip)) (.seq (.seq (.reg [⟨some 52,.move (.tmp 14),none⟩,⟨some 53,.binOp .neq 9 (.tmp 52) (.const (.string ⟨#[44]⟩)) 9,none⟩]) (.cond (.tmp 53) (.seq (.reg [⟨some 54,.move (.tmp 15),none⟩,⟨some 4,.assign (.const (.slice none 0 0)),none⟩,⟨some 5,.assign (.const (.int .i64 0)),none⟩,⟨some 6,.assign (.tmp 54),none⟩]) .ret) .skip)) (.reg [⟨some 55,.move (.tmp 16),none⟩,⟨some 9,.assign (.tmp 55),none⟩])))))))
def x121 : XC := .seq (.reg [⟨some 4,.assign (.const (.slice none 0 0)),none⟩,⟨some 5,.assign (.const (.int .i64 0)),none⟩,⟨some 6,.assign (.const (.int .i64 0)),none⟩]) (.seq (.reg [⟨some 18,.move (.tmp 0),none⟩,⟨some 19,.move (.tmp 1),none⟩,⟨some 20,.call ⟨.value (.func 71),#[.tmp 18,.tmp 19],#[9,3]⟩,none⟩,⟨some 17,.move (.tmp 20),none⟩,⟨some 21,.extract (.tmp 17) 0,none⟩,⟨some 22,.extract (.tmp 17) 1,none⟩,⟨some 23,.extract (.tmp 17) 2,none⟩,⟨some 7,.assign (.tmp 21),none⟩,⟨some 8,.assign (.tmp 22),none⟩,⟨some 9,.assign (.tmp 23),none⟩]) (.seq (.seq (.reg [⟨some 24,.move (.tmp 7),none⟩,⟨some 25,.binOp .neq 9 (.tmp 24) (.const (.string ⟨#[40]⟩)) 9,none⟩]) (.cond (.tmp 25) (.seq (.reg [⟨some 26,.move (.tmp 1),none⟩,⟨some 4,.assign (.const (.slice none 0 0)),none⟩,⟨some 5,.assign (.tmp 26),none⟩,⟨some 6,.assign (.const (.int .i64 (-1))),none⟩]) .ret) .skip)) (.seq (.reg [⟨some 10,.assign (.const (.slice none 0 0)),none⟩]) (.bloop 0 x121_L0))))
@[simp] theorem x121_s {C e s K} : type_of% (@X_at C e s K _ _ x121_L0.eq_1) ∧ type_of% (@X_at C e s K _ _ x121.eq_1) := ⟨X_at x121_L0.eq_1,X_at x121.eq_1⟩
def an121 : Ann := ⟨[],[(0,[(10,none,2)],[0,9,10],[4,5,6])],[]⟩
@[simp] theorem an121_a : an121.loopOf 0 = ([(10,none,2)],[0,9,10],[4,5,6]) := rfl
theorem fi121 : FI Try.prog 121 (cxA an121) x121 [.tmp 4,.tmp 5,.tmp 6] Try.f121 := fiA Try.func121 mixed
theorem argsAt_of (t : ByteArray) (i : Nat) (hs : t.size ≤ 1000000) (hi : i ≤ t.size) (pw : Nat → RC Wd) (hw : ∀ k,i < k → k ≤ t.size → ∃ z,CallOK Try.prog 98 [.str t,.int .i64 (k : Int)] [] (valR eW (pw k) z) []) (hL : ∀ k w e,i < k → k ≤ t.size → pw k = .ok (w,e) → k ≤ e ∧ e ≤ t.size) : CallOK Try.prog 121 [.str t,.int .i64 (i : Int)] [] (valR eL (argsC t pw i) []) [] := by
 have ht := sign_ref t i hs hi
 have hb := bl_ge t i
 have hte := xtok_le hi
 have hta := xtok_adv (t := t) (i := i)
 obtain ⟨V,hV⟩ : ∃ V,valR eL (argsC t pw i) [] = V := ⟨_,rfl⟩
 rw [hV]
 unfold argsC at hV
 refine fi121.os ?_
 generalize xtokF t i = T at *
 obtain ⟨w,a,b⟩ := T
 dsimp only at *
 by_cases h1 : w = ⟨#[40]⟩
 ·rw [if_pos h1] at hV
  subst h1
  have hta := hta (by decide)
  (refine Sg.h ?_;try repeat' ((first | (with_reducible first|refine brA ?_|refine brE fun _=>?_|refine spl ⟨?_,?_⟩<;>intro _) | refine clo ht ?_) <;> ((try simp -implicitDefEqProofs); (try simp -implicitDefEqProofs(disch:=first|assumption|(try simp only[lens]);omega -splitDisjunctions)))))
  refine W_of fun Q hQ => ?_
  have main : ∀ n l k,i < k → l.length ≤ k → k ≤ t.size → t.size - k < n → valR eL (argLC t pw n l k) [] = V → Q [(0,.str t),(9,.int .i64 (k : Int)),(10,.sl 0 0 l.length)] [.rows 2 (l.map wrd)] := by
   intro n
   induction n with
   | zero => intro l k _ _ _ h; omega
   | succ n ih =>
    intro l k hik hlk hk hn hV
    obtain ⟨z,hc⟩ := hw k hik hk
    rw [argLC] at hV
    cases hp : pw k with
    | error q =>
     rw [hp] at hc hV
     unfold valR at hc
     dsimp only [eW] at hc
     subst hV
     apply hQ
     clear hQ ih
     (refine Sg.h ?_;try repeat' ((first | (with_reducible first|refine brA ?_|refine brE fun _=>?_|refine spl ⟨?_,?_⟩<;>intro _) | refine clo hc ?_) <;> ((try simp -implicitDefEqProofs); (try simp -implicitDefEqProofs(disch:=first|assumption|(try simp only[lens]);omega -splitDisjunctions)))))
     all_goals first | omega | rfl
    | ok r =>
     obtain ⟨x,e⟩ := r
     have hl := hL k x e hik hk hp
     rw [hp] at hc hV
     have ht2 := sign_ref t e hs hl.2
     have hte2 := xtok_le hl.2
     have hbe := bl_ge t e
     have hta2 := xtok_adv (t := t) (i := e)
     unfold valR at hc
     dsimp only [eW] at hc hV
     generalize xtokF t e = T at *
     obtain ⟨u,c,d⟩ := T
     dsimp only at *
     by_cases h1 : u = ⟨#[41]⟩
     ·rw [if_pos h1] at hV
      subst h1 hV
      apply hQ
      clear hQ ih
      (refine Sg.h ?_;try repeat' ((first | (with_reducible first|refine brA ?_|refine brE fun _=>?_|refine spl ⟨?_,?_⟩<;>intro _) | refine clo hc ?_ | refine clo ht2 ?_) <;> ((try simp -implicitDefEqProofs); (try simp -implicitDefEqProofs(disch:=first|assumption|(try simp only[lens]);omega -splitDisjunctions)))))
      all_goals first | omega | (unfold valR; dsimp only [eL]; rw [List.take_of_length_le (by simp),List.map_append]; rfl)
     ·rw [if_neg h1] at hV
      by_cases h2 : u = ⟨#[44]⟩
      ·rw [if_pos h2] at hV
       subst h2
       have hta2 := hta2 (by decide)
       have ih := ih _ d (by omega) (by simp; omega) hte2.2 (by omega) hV
       apply hQ
       clear hQ
       (refine Sg.h ?_;try repeat' ((first | (with_reducible first|refine brA ?_|refine brE fun _=>?_|refine spl ⟨?_,?_⟩<;>intro _) | refine clo hc ?_ | refine clo ht2 ?_) <;> ((try simp -implicitDefEqProofs); (try simp -implicitDefEqProofs(disch:=first|assumption|(try simp only[lens]);omega -splitDisjunctions)))))
       all_goals first | exact ih | (refine at2 ih ?_ ?_ <;> simp; done) | (exfalso; first | omega | (simp_all; done) | (simp_all; omega))
      ·rw [if_neg h2] at hV
       subst hV
       apply hQ
       clear hQ ih
       (refine Sg.h ?_;try repeat' ((first | (with_reducible first|refine brA ?_|refine brE fun _=>?_|refine spl ⟨?_,?_⟩<;>intro _) | refine clo hc ?_ | refine clo ht2 ?_) <;> ((try simp -implicitDefEqProofs [h1,h2]); (try simp -implicitDefEqProofs(disch:=first|assumption|(try simp only[lens]);omega -splitDisjunctions) [h1,h2]))))
       all_goals first | omega | rfl
  all_goals first | exact main _ [] b (by omega) (by simp) hte.2 (by omega) hV | (refine at2 main _ [] b (by omega) (by simp) hte.2 (by omega) hV ?_ ?_ <;> simp; done) | (exfalso; first | omega | (simp_all; done) | (simp_all; omega))
 ·rw [if_neg h1] at hV
  subst hV
  (refine Sg.h ?_;try repeat' ((first | (with_reducible first|refine brA ?_|refine brE fun _=>?_|refine spl ⟨?_,?_⟩<;>intro _) | refine clo ht ?_) <;> ((try simp -implicitDefEqProofs [h1]); (try simp -implicitDefEqProofs(disch:=first|assumption|(try simp only[lens]);omega -splitDisjunctions) [h1]))))
  all_goals rfl
theorem WC2_told (t : ByteArray) (hs : t.size ≤ 1000000) : ∀ n i,i ≤ t.size → (2 * (t.size - i) + 2 ≤ n → ∃ z,CallOK Try.prog 98 [.str t,.int .i64 (i : Int)] [] (valR eW ((WC2 t n).1 i) z) []) ∧ (2 * (t.size - i) + 1 ≤ n → CallOK Try.prog 121 [.str t,.int .i64 (i : Int)] [] (valR eL ((WC2 t n).2 i) []) [])
 | 0,i,hi => ⟨fun h => by omega,fun h => by omega⟩
 | n + 1,i,hi => ⟨fun h => wordAt_of t i hs hi _ fun k h1 h2 => (WC2_told t hs n k h2).2 (by omega),fun h => argsAt_of t i hs hi _ (fun k h1 h2 => (WC2_told t hs n k h2).1 (by omega)) fun k w e h1 h2 => (WC2_le t n k h2).1 w e⟩
theorem wordAt_ref (t : ByteArray) (hs : t.size ≤ 1000000) (i : Nat) (hi : i ≤ t.size) : ∃ z,CallOK Try.prog 98 [.str t,.int .i64 (i : Int)] [] (valR eW (wdC t i) z) [] := (WC2_told t hs _ i hi).1 (by omega)
def loopZX (t : ByteArray) (c : Nat → Int → RK) (least : Int) : Nat → Ex → Nat → Ex
 | 0,f,i => f
 | m + 1,f,i => if rankF (xtokF t i).1 = 0 ∨ rankF (xtokF t i).1 < least then f else match c (xtokF t i).2.2 (xupR (rankF (xtokF t i).1)) with
  | .ok (g,e) => loopZX t c least m (.mk (xkindR (rankF (xtokF t i).1)) ⟨#[]⟩ [] [f,g]) e
  | .error q => f
def climbZX (t : ByteArray) (n : Nat) (i : Nat) (least : Int) : Ex := match headX t (xclimbF t n) i with
 | .ok (f,j) => loopZX t (xclimbF t n) least (t.size + 1) f j
 | .error q => zEx
def x70_L1 : XC := .block 2 (.seq (.reg [⟨some 195,.move (.tmp 0),none⟩,⟨some 196,.move (.tmp 1),none⟩,⟨some 197,.call ⟨.value (.func 71),#[.tmp 195,.tmp 196],#[9,3]⟩,none⟩,⟨some 194,.move (.tmp 197),none⟩,⟨some 198,.extract (.tmp 194) 0,none⟩,⟨some 199,.extract (.tmp 194) 1,none⟩,⟨some 200,.extract (.tmp 194) 2,none⟩,⟨some 38,.assign (.tmp 198),none⟩,⟨some 39,.assign (.tmp 199),none⟩,⟨some 40,.assign (.tmp 200),none⟩]) (.seq (.reg [⟨some 201,.move (.tmp 38),none⟩,⟨some 202,.call ⟨.value (.func 83),#[.tmp 201],#[9]⟩,none⟩,⟨some 41,.assign (.tmp 202),none⟩]) (.seq (.seq (.reg [⟨some 203,.move (.tmp 41),none⟩,⟨some 204,.binOp .eql 3 (.tmp 203) (.const (.int .i64 0)) 3,none⟩,⟨some 205,.move (.tmp 204),none⟩,⟨some 206,.move (.tmp 41),some (some 205,false)⟩,⟨some 207,.move (.tmp 2),some (some 205,false)⟩,⟨some 208,.binOp .lss 3 (.tmp 206) (.tmp 207) 3,some (some 205,false)⟩,⟨some 209,.pick (.tmp 205) (.const (.bool true)) (.tmp 208),none⟩]) (.cond (.tmp 209) (.seq (.reg [⟨some 210,.load 57 (.tmp 12),none⟩,⟨some 211,.move (.tmp 1),none⟩,⟨none,.store 57 (.tmp 6) (.tmp 210),none⟩,⟨some 7,.assign (.tmp 211),none⟩,⟨some 8,.assign (.const (.int .i64 (-1))),none⟩]) .ret) .skip)) (.seq (.reg [⟨some 212,.move (.tmp 41),none⟩,⟨some 213,.binOp .add 3 (.tmp 212) (.const (.int .i64 1)) 3,none⟩,⟨some 42,.assign (.tmp 213),none⟩]) (.seq (.reg [⟨some 43,.assign (.const (.int .i64 6)),none⟩]) (.seq (.seq (.reg [⟨some 214,.move (.tmp 41),none⟩,⟨some 215,.binOp .eql 3 (.tmp 214) (.const (.int .i64 1)) 3,none⟩]) (.cond (.tmp 215) (.seq (.reg [⟨some 42,.assign (.const (.int .i64 1)),none⟩]) (.reg [⟨some 43,.assign (.const (.int .i64 8)),none⟩])) (.seq (.reg [⟨some 216,.move (.tmp 41),none⟩,⟨some 217,.binOp .eql 3 (.tmp 216) (.const (.int .i64 2)) 3,none⟩]) (.cond (.tmp 217) (.reg [⟨some 43,.assign (.const (.int .i64 7)),none⟩]) .skip)))) (.seq (.reg [⟨some 219,.move (.tmp 0),none⟩,⟨some 220,.move (.tmp 40),none⟩,⟨some 221,.move (.tmp 42),none⟩,⟨some 222,.call ⟨.value (.func 70),#[.tmp 219,.tmp 220,.tmp 221],#[9,3,3]⟩,none⟩,⟨some 218,.move (.tmp 222),none⟩,⟨some 223,.extract (.tmp 218) 0,none⟩,⟨some 224,.extract (.tmp 218) 1,none⟩,⟨some 225,.extract (.tmp 218) 2,none⟩,⟨some 44,.alloc 57,none⟩,⟨none,.store 57 (.tmp 44) (.tmp 223),none⟩,⟨some 45,.assign (.tmp 224),none⟩,⟨some 46,.assign (.tmp 225),none⟩]) (.seq (.seq (.reg [⟨some 226,.move (.tmp 46),none⟩,⟨some 227,.binOp .geq 3 (.tmp 226) (.const (.int .i64 0)) 3,none⟩]) (.cond (.tmp 227) (.seq (.reg [⟨some 228,.load 57 (.tmp 12),none⟩,⟨some 229,.move (.tmp 46),none⟩,⟨none,.store 57 (.tmp 6) (.tmp 228),none⟩,⟨some 7,.assign (.const (.int .i64 0)),none⟩,⟨some 8,.assign (.tmp 229),none⟩]) .ret) .skip)) (.reg [⟨some 230,.move (.tmp 43),none⟩,⟨some 231,.load 57 (.tmp 12),none⟩,⟨some 232,.load 57 (.tmp 44),none⟩,⟨some 233,.buildSlice 55 2 #[(0,.tmp 231),(1,.tmp 232)],none⟩,⟨some 234,.build 57 #[(0,.tmp 230),(3,.tmp 233)],none⟩,⟨some 235,.move (.tmp 45),none⟩,⟨none,.store 57 (.tmp 12) (.tmp 234),none⟩,⟨some 1,.assign (.tmp 235),none⟩])))))))))
def x70 : XC := .seq (.reg [⟨some 6,.alloc 57,none⟩,⟨some 7,.assign (.const (.int .i64 0)),none⟩,⟨some 8,.assign (.const (.int .i64 0)),none⟩]) (.seq (.reg [⟨some 48,.move (.tmp 0),none⟩,⟨some 49,.move (.tmp 1),none⟩,⟨some 50,.call ⟨.value (.func 71),#[.tmp 48,.tmp 49],#[9,3]⟩,none⟩,⟨some 47,.move (.tmp 50),none⟩,⟨some 51,.extract (.tmp 47) 0,none⟩,⟨some 52,.extract (.tmp 47) 1,none⟩,⟨some 53,.extract (.tmp 47) 2,none⟩,⟨some 9,.assign (.tmp 51),none⟩,⟨some 10,.assign (.tmp 52),none⟩,⟨some 11,.assign (.tmp 53),none⟩]) (.seq (.reg [⟨some 12,.alloc 57,none⟩]) (.seq (.block 0 (.seq (.reg [⟨some 102,.move (.tmp 9),none⟩,⟨some 103,.binOp .eql 9 (.tmp 102) (.const (.string ⟨#[126]⟩)) 9,none⟩,⟨some 101,.assign (.tmp 103),none⟩]) (.cond (.tmp 101) (.seq (.reg [⟨some 105,.move (.tmp 0),none⟩,⟨some 106,.move (.tmp 11),none⟩,⟨some 107,.call ⟨.value (.func 70),#[.tmp 105,.tmp 106,.const (.int .i64 4)],#[9,3,3]⟩,none⟩,⟨some 104,.move (.tmp 107),none⟩,⟨some 108,.extract (.tmp 104) 0,none⟩,⟨some 109,.extract (.tmp 104) 1,none⟩,⟨some 110,.extract (.tmp 104) 2,none⟩,⟨some 13,.alloc 57,none⟩,⟨none,.store 57 (.tmp 13) (.tmp 108),none⟩,⟨some 14,.assign (.tmp 109),none⟩,⟨some 15,.assign (.tmp 110),none⟩]) (.seq (.seq (.reg [⟨some 111,.move (.tmp 15),none⟩,⟨some 112,.binOp .geq 3 (.tmp 111) (.const (.int .i64 0)) 3,none⟩]) (.cond (.tmp 112) (.seq (.reg [⟨some 113,.load 57 (.tmp 12),none⟩,⟨some 114,.move (.tmp 15),none⟩,⟨none,.store 57 (.tmp 6) (.tmp 113),none⟩,⟨some 7,.assign (.const (.int .i64 0)),none⟩,⟨some 8,.assign (.tmp 114),none⟩]) .ret) .skip)) (.reg [⟨some 115,.load 57 (.tmp 13),none⟩,⟨some 116,.buildSlice 55 1 #[(0,.tmp 115)],none⟩,⟨some 117,.build 57 #[(0,.const (.int .i64 5)),(3,.tmp 116)],none⟩,⟨some 118,.move (.tmp 14),none⟩,⟨none,.store 57 (.tmp 12) (.tmp 117),none⟩,⟨some 1,.assign (.tmp 118),none⟩]))) (.seq (.reg [⟨some 120,.move (.tmp 9),none⟩,⟨some 121,.binOp .eql 9 (.tmp 120) (.const (.string ⟨#[33]⟩)) 9,none⟩,⟨some 122,.move (.tmp 121),none⟩,⟨some 123,.move (.tmp 9),some (some 122,false)⟩,⟨some 124,.binOp .eql 9 (.tmp 123) (.const (.string ⟨#[63]⟩)) 9,some (some 122,false)⟩,⟨some 125,.pick (.tmp 122) (.const (.bool true)) (.tmp 124),none⟩,⟨some 119,.assign (.tmp 125),none⟩]) (.cond (.tmp 119) (.seq (.reg [⟨some 127,.move (.tmp 0),none⟩,⟨some 128,.move (.tmp 11),none⟩,⟨some 129,.call ⟨.value (.func 71),#[.tmp 127,.tmp 128],#[9,3]⟩,none⟩,⟨some 126,.move (.tmp 129),none⟩,⟨some 130,.extract (.tmp 126) 0,none⟩,⟨some 131,.extract (.tmp 126) 1,none⟩,⟨some 132,.extract (.tmp 126) 2,none⟩,⟨some 16,.assign (.tmp 130),none⟩,⟨some 17,.assign (.tmp 131),none⟩,⟨some 18,.assign (.tmp 132),none⟩]) (.seq (.seq (.reg [⟨some 133,.move (.tmp 16),none⟩,⟨some 134,.call ⟨.value (.func 44),#[.tmp 133],#[9]⟩,none⟩,⟨some 135,.unOp .not 4 (.tmp 134),none⟩]) (.cond (.tmp 135) (.seq (.reg [⟨some 136,.load 57 (.tmp 12),none⟩,⟨some 137,.move (.tmp 17),none⟩,⟨none,.store 57 (.tmp 6) (.tmp 136),none⟩,⟨some 7,.assign (.const (.int .i64 0)),none⟩,⟨some 8,.assign (.tmp 137),none⟩]) .ret) .skip)) (.seq (.reg [⟨some 139,.move (.tmp 0),none⟩,⟨some 140,.move (.tmp 18),none⟩,⟨some 141,.call ⟨.value (.func 70),#[.tmp 139,.tmp 140,.const (.int .i64 4)],#[9,3,3]⟩,none⟩,⟨some 138,.move (.tmp 141),none⟩,⟨some 142,.extract (.tmp 138) 0,none⟩,⟨some 143,.extract (.tmp 138) 1,none⟩,⟨some 144,.extract (.tmp 138) 2,none⟩,⟨some 19,.alloc 57,none⟩,⟨none,.store 57 (.tmp 19) (.tmp 142),none⟩,⟨some 20,.assign (.tmp 143),none⟩,⟨some 21,.assign (.tmp 144),none⟩]) (.seq (.seq (.reg [⟨some 145,.move (.tmp 21),none⟩,⟨some 146,.binOp .geq 3 (.tmp 145) (.const (.int .i64 0)) 3,none⟩]) (.cond (.tmp 146) (.seq (.reg [⟨some 147,.load 57 (.tmp 12),none⟩,⟨some 148,.move (.tmp 21),none⟩,⟨none,.store 57 (.tmp 6) (.tmp 147),none⟩,⟨some 7,.assign (.const (.int .i64 0)),none⟩,⟨some 8,.assign (.tmp 148),none⟩]) .ret) .skip)) (.seq (.reg [⟨some 22,.assign (.const (.int .i64 9)),none⟩]) (.seq (.seq (.reg [⟨some 149,.move (.tmp 9),none⟩,⟨some 150,.binOp .eql 9 (.tmp 149) (.const (.string ⟨#[63]⟩)) 9,none⟩]) (.cond (.tmp 150) (.reg [⟨some 22,.assign (.const (.int .i64 10)),none⟩]) .skip)) (.reg [⟨some 151,.move (.tmp 22),none⟩,⟨some 152,.move (.tmp 16),none⟩,⟨some 153,.load 57 (.tmp 19),none⟩,⟨some 154,.buildSlice 55 1 #[(0,.tmp 153)],none⟩,⟨some 155,.build 57 #[(0,.tmp 151),(1,.tmp 152),(3,.tmp 154)],none⟩,⟨some 156,.move (.tmp 20),none⟩,⟨none,.store 57 (.tmp 12) (.tmp 155),none⟩,⟨some 1,.assign (.tmp 156),none⟩]))))))) (.seq (.reg [⟨some 158,.move (.tmp 9),none⟩,⟨some 159,.binOp .eql 9 (.tmp 158) (.const (.string ⟨#[40]⟩)) 9,none⟩,⟨some 157,.assign (.tmp 159),none⟩]) (.cond (.tmp 157) (.seq (.reg [⟨some 161,.move (.tmp 0),none⟩,⟨some 162,.move (.tmp 11),none⟩,⟨some 163,.call ⟨.value (.func 70),#[.tmp 161,.tmp 162,.const (.int .i64 1)],#[9,3,3]⟩,none⟩,⟨some 160,.move (.tmp 163),none⟩,⟨some 164,.extract (.tmp 160) 0,none⟩,⟨some 165,.extract (.tmp 160) 1,none⟩,⟨some 166,.extract (.tmp 160) 2,none⟩,⟨some 23,.alloc 57,none⟩,⟨none,.store 57 (.tmp 23) (.tmp 164),none⟩,⟨some 24,.assign (.tmp 165),none⟩,⟨some 25,.assign (.tmp 166),none⟩]) (.seq (.seq (.reg [⟨some 167,.move (.tmp 25),none⟩,⟨some 168,.binOp .geq 3 (.tmp 167) (.const (.int .i64 0)) 3,none⟩]) (.cond (.tmp 168) (.seq (.reg [⟨some 169,.load 57 (.tmp 12),none⟩,⟨some 170,.move (.tmp 25),none⟩,⟨none,.store 57 (.tmp 6) (.tmp 169),none⟩,⟨some 7,.assign (.const (.int .i64 0)),none⟩,⟨some 8,.assign (.tmp 170),none⟩]) .ret) .skip)) (.seq (.reg [⟨some 172,.move (.tmp 0),none⟩,⟨some 173,.move (.tmp 24),none⟩,⟨some 174,.call ⟨.value (.func 71),#[.tmp 172,.tmp 173],#[9,3]⟩,none⟩,⟨some 171,.move (.tmp 174),none⟩,⟨some 175,.extract (.tmp 171) 0,none⟩,⟨some 176,.extract (.tmp 171) 1,none⟩,⟨some 177,.extract (.tmp 171) 2,none⟩,⟨some 26,.assign (.tmp 175),none⟩,⟨some 27,.assign (.tmp 176),none⟩,⟨some 28,.assign (.tmp 177),none⟩]) (.seq (.seq (.reg [⟨some 178,.move (.tmp 26),none⟩,⟨some 179,.binOp .neq 9 (.tmp 178) (.const (.string ⟨#[41]⟩)) 9,none⟩]) (.cond (.tmp 179) (.seq (.reg [⟨some 180,.load 57 (.tmp 12),none⟩,⟨some 181,.move (.tmp 27),none⟩,⟨none,.store 57 (.tmp 6) (.tmp 180),none⟩,⟨some 7,.assign (.const (.int .i64 0)),none⟩,⟨some 8,.assign (.tmp 181),none⟩]) .ret) .skip)) (.reg [⟨some 182,.load 57 (.tmp 23),none⟩,⟨some 183,.move (.tmp 28),none⟩,⟨none,.store 57 (.tmp 12) (.tmp 182),none⟩,⟨some 1,.assign (.tmp 183),none⟩]))))) (.seq (.reg [⟨some 185,.move (.tmp 9),none⟩,⟨some 186,.binOp .eql 9 (.tmp 185) (.const (.string ⟨#[49]⟩)) 9,none⟩,⟨some 184,.assign (.tmp 186),none⟩]) (.cond (.tmp 184) (.reg [⟨some 187,.build 57 #[(0,.const (.int .i64 3))],none⟩,⟨some 188,.move (.tmp 11),none⟩,⟨none,.store 57 (.tmp 12) (.tmp 187),none⟩,⟨some 1,.assign (.tmp 188),none⟩]) (.seq (.reg [⟨some 190,.move (.tmp 9),none⟩,⟨some 191,.binOp .eql 9 (.tmp 190) (.const (.string ⟨#[48]⟩)) 9,none⟩,⟨some 189,.assign (.tmp 191),none⟩]) (.cond (.tmp 189) (.reg [⟨some 192,.build 57 #[(0,.const (.int .i64 4))],none⟩,⟨some 193,.move (.tmp 11),none⟩,⟨none,.store 57 (.tmp 12) (.tmp 192),none⟩,⟨some 1,.assign (.tmp 193),none⟩]) (.seq (.reg [⟨some 55,.move (.tmp 0),none⟩,⟨some 56,.move (.tmp 10),none⟩,⟨some 57,.call ⟨.value (.func 98),#[.tmp 55,.tmp 56],#[9,3]⟩,none⟩,⟨some 54,.move (.tmp 57),none⟩,⟨some 58,.extract (.tmp 54) 0,none⟩,⟨some 59,.extract (.tmp 54) 1,none⟩,⟨some 60,.extract (.tmp 54) 2,none⟩,⟨some 29,.alloc 103,none⟩,⟨none,.store 103 (.tmp 29) (.tmp 58),none⟩,⟨some 30,.assign (.tmp 59),none⟩,⟨some 31,.assign (.tmp 60),none⟩]) (.seq (.seq (.reg [⟨some 61,.move (.tmp 31),none⟩,⟨some 62,.binOp .geq 3 (.tmp 61) (.const (.int .i64 0)) 3,none⟩]) (.cond (.tmp 62) (.seq (.reg [⟨some 63,.load 57 (.tmp 12),none⟩,⟨some 64,.move (.tmp 31),none⟩,⟨none,.store 57 (.tmp 6) (.tmp 63),none⟩,⟨some 7,.assign (.const (.int .i64 0)),none⟩,⟨some 8,.assign (.tmp 64),none⟩]) .ret) .skip)) (.seq (.reg [⟨some 66,.move (.tmp 0),none⟩,⟨some 67,.move (.tmp 30),none⟩,⟨some 68,.call ⟨.value (.func 71),#[.tmp 66,.tmp 67],#[9,3]⟩,none⟩,⟨some 65,.move (.tmp 68),none⟩,⟨some 69,.extract (.tmp 65) 0,none⟩,⟨some 70,.extract (.tmp 65) 1,none⟩,⟨some 71,.extract (.tmp 65) 2,none⟩,⟨some 32,.assign (.tmp 69),none⟩,⟨some 33,.assign (.tmp 70),none⟩,⟨some 34,.assign (.tmp 71),none⟩]) (.seq (.reg [⟨some 72,.move (.tmp 32),none⟩,⟨some 73,.binOp .eql 9 (.tmp 72) (.const (.string ⟨#[61]⟩)) 9,none⟩]) (.cond (.tmp 73) (.seq (.reg [⟨some 75,.move (.tmp 0),none⟩,⟨some 76,.move (.tmp 34),none⟩,⟨some 77,.call ⟨.value (.func 98),#[.tmp 75,.tmp 76],#[9,3]⟩,none⟩,⟨some 74,.move (.tmp 77),none⟩,⟨some 78,.extract (.tmp 74) 0,none⟩,⟨some 79,.extract (.tmp 74) 1,none⟩,⟨some 80,.extract (.tmp 74) 2,none⟩,⟨some 35,.alloc 103,none⟩,⟨none,.store 103 (.tmp 35) (.tmp 78),none⟩,⟨some 36,.assign (.tmp 79),none⟩,⟨some 37,.assign (.tmp 80),none⟩]) (.seq (.seq (.reg [⟨some 81,.move (.tmp 37),none⟩,⟨some 82,.binOp .geq 3 (.tmp 81) (.const (.int .i64 0)) 3,none⟩]) (.cond (.tmp 82) (.seq (.reg [⟨some 83,.load 57 (.tmp 12),none⟩,⟨some 84,.move (.tmp 37),none⟩,⟨none,.store 57 (.tmp 6) (.tmp 83),none⟩,⟨some 7,.assign (.const (.int .i64 0)),none⟩,⟨some 8,.assign (.tmp 84),none⟩]) .ret) .skip)) (.reg [⟨some 85,.load 103 (.tmp 29),none⟩,⟨some 86,.load 103 (.tmp 35),none⟩,⟨some 87,.buildSlice 54 2 #[(0,.tmp 85),(1,.tmp 86)],none⟩,⟨some 88,.build 57 #[(0,.const (.int .i64 2)),(2,.tmp 87)],none⟩,⟨some 89,.move (.tmp 36),none⟩,⟨none,.store 57 (.tmp 12) (.tmp 88),none⟩,⟨some 1,.assign (.tmp 89),none⟩]))) (.seq (.reg [⟨some 90,.fieldAddr 103 (.tmp 29) 0,none⟩,⟨some 91,.load 9 (.tmp 90),none⟩,⟨some 92,.call ⟨.value (.func 44),#[.tmp 91],#[9]⟩,none⟩]) (.cond (.tmp 92) (.seq (.reg [⟨some 93,.load 57 (.tmp 12),none⟩,⟨some 94,.move (.tmp 33),none⟩,⟨none,.store 57 (.tmp 6) (.tmp 93),none⟩,⟨some 7,.assign (.const (.int .i64 0)),none⟩,⟨some 8,.assign (.tmp 94),none⟩]) .ret) (.reg [⟨some 95,.fieldAddr 103 (.tmp 29) 0,none⟩,⟨some 96,.load 9 (.tmp 95),none⟩,⟨some 97,.fieldAddr 103 (.tmp 29) 1,none⟩,⟨some 98,.load 54 (.tmp 97),none⟩,⟨some 99,.build 57 #[(0,.const (.int .i64 1)),(1,.tmp 96),(2,.tmp 98)],none⟩,⟨some 100,.move (.tmp 30),none⟩,⟨none,.store 57 (.tmp 12) (.tmp 99),none⟩,⟨some 1,.assign (.tmp 100),none⟩]))))))))))))))))))) (.bloop 1 x70_L1))))
@[simp] theorem x70_s {C e s K} : type_of% (@X_at C e s K _ _ x70_L1.eq_1) ∧ type_of% (@X_at C e s K _ _ x70.eq_1) := ⟨X_at x70_L1.eq_1,X_at x70.eq_1⟩
def an70 : Ann := ⟨[],[(1,[(12,some 2,2),(12,some 3,4),(12,some 5003,0),(12,some 5004,0)],[0,1,2,6,12],[6,7,8])],[]⟩
@[simp] theorem an70_a : an70.loopOf 1 = ([(12,some 2,2),(12,some 3,4),(12,some 5003,0),(12,some 5004,0)],[0,1,2,6,12],[6,7,8]) := rfl
theorem fi70 : FI Try.prog 70 (cxA an70) x70 [.cell 6 57,.tmp 7,.tmp 8] Try.f70 := fiA Try.func70 mixed
theorem exprAt_ref (t : ByteArray) (hs : t.size ≤ 1000000) : ∀ n i (least : Int),i ≤ t.size → t.size - i < n → 0 ≤ least → least ≤ 4 → ∃ z,CallOK Try.prog 70 [.str t,.int .i64 (i : Int),.int .i64 least] [] (valR eX (xclimbF t n i least) z) [] := by
 intro n
 induction n with
 | zero => intro i least _ h; omega
 | succ n ih =>
  intro i least hi hn hl0 hl4
  refine ⟨climbZX t n i least,?_⟩
  obtain ⟨V,hV⟩ : ∃ V,valR eX (xclimbF t (n + 1) i least) (climbZX t n i least) = V := ⟨_,rfl⟩
  rw [hV]
  have ht := sign_ref t i hs hi
  have hb := bl_ge t i
  have hte := xtok_le hi
  have hta := xtok_adv (t := t) (i := i)
  refine fi70.os ?_
  have key : ∀ f j,i ≤ j → j ≤ t.size → valR eX (loopX t (xclimbF t n) least (t.size + 1) f j) (loopZX t (xclimbF t n) least (t.size + 1) f j) = V → W (cxA an70 Try.prog 0) 1 x70_L1 (KS.fin [ResultVar.cell 6 57,ResultVar.tmp 7,ResultVar.tmp 8] fun v1 s1 => softV (deref s1 6 v1) = V) [(0,PV.str t),(1,PV.int IntKind.i64 (j : Int)),(2,PV.int IntKind.i64 least),(6,PV.ptr 0 0 0),(12,PV.ptr 1 0 0)] [PObj.rows 4 [[PV.int IntKind.i64 0,PV.str ⟨#[]⟩,PV.nilsl,PV.nilsl]],PObj.rows 4 [exr f]] := by
   intro f j hij hj hV
   refine W_of fun Q hQ => ?_
   have main : ∀ m f j,i ≤ j → j ≤ t.size → t.size - j < m → valR eX (loopX t (xclimbF t n) least m f j) (loopZX t (xclimbF t n) least m f j) = V → Q [(0,PV.str t),(1,PV.int IntKind.i64 (j : Int)),(2,PV.int IntKind.i64 least),(6,PV.ptr 0 0 0),(12,PV.ptr 1 0 0)] [PObj.rows 4 [[PV.int IntKind.i64 0,PV.str ⟨#[]⟩,PV.nilsl,PV.nilsl]],PObj.rows 4 [exr f]] := by
    intro m
    induction m with
    | zero => intro f j _ _ h; omega
    | succ m ihm =>
     intro f j hij hj hm hV
     have ht := sign_ref t j hs hj
     have hb := bl_ge t j
     have hrk := rank_ref (xtokF t j).1
     have hf := exr_eq f
     unfold loopX loopZX at hV
     by_cases hst : rankF (xtokF t j).1 = 0 ∨ rankF (xtokF t j).1 < least
     ·rw [if_pos hst,if_pos hst] at hV
      generalize xtokF t j = T at *
      obtain ⟨w,a,b⟩ := T
      dsimp only at hst hrk ht
      generalize rankF w = k at *
      subst hV
      apply hQ
      clear hQ ihm
      rcases hst with hst | hst
      ·subst hst
       (refine Sg.h ?_;try repeat' ((first | (with_reducible first|refine brA ?_|refine brE fun _=>?_|refine spl ⟨?_,?_⟩<;>intro _) | refine clo ht ?_ | refine clo hrk ?_) <;> ((try simp -implicitDefEqProofs [hf]); (try simp -implicitDefEqProofs(disch:=first|assumption|(try simp only[lens]);omega -splitDisjunctions) [hf]))))
       (unfold valR; dsimp only [eX]; rw [hf])
      ·(refine Sg.h ?_;try repeat' ((first | (with_reducible first|refine brA ?_|refine brE fun _=>?_|refine spl ⟨?_,?_⟩<;>intro _) | refine clo ht ?_ | refine clo hrk ?_) <;> ((try simp -implicitDefEqProofs [hf,hst]); (try simp -implicitDefEqProofs(disch:=first|assumption|(try simp only[lens]);omega -splitDisjunctions) [hf,hst]))))
       all_goals (unfold valR; dsimp only [eX]; rw [hf])
     ·rcases xrank_cases t j with ⟨r1,r2,r3⟩ | ⟨r1,r2,r3,r4⟩ | ⟨r1,r2,r3,r4,r5⟩ | ⟨r1,r2,r3,r4⟩
      ·have hbl : (xtokF t j).2.2 ≤ t.size := (xtok_le hj).2
       rw [if_neg hst,if_neg hst,r2,show xupR 3 = 4 from rfl,show xkindR 3 = 6 from rfl] at hV
       rw [r2] at hrk hst
       have hst1 : ¬ (3 : Int) < least := fun h => hst (.inr h)
       obtain ⟨z,hc⟩ := ih (xtokF t j).2.2 4 hbl (by omega) (by decide) (by decide)
       have hcl := xclimb_le t n (xtokF t j).2.2 4
       generalize xtokF t j = T at *
       obtain ⟨w,a,b⟩ := T
       dsimp only at *
       cases hcc : xclimbF t n b 4 with
       | error q =>
        rw [hcc] at hV hc
        subst hV
        apply hQ
        clear hQ ihm
        unfold valR at hc
        dsimp only [eX] at hc
        (refine Sg.h ?_;try repeat' ((first | (with_reducible first|refine brA ?_|refine brE fun _=>?_|refine spl ⟨?_,?_⟩<;>intro _) | refine clo ht ?_ | refine clo hrk ?_ | refine clo hc ?_) <;> ((try simp -implicitDefEqProofs [hf,hst1]); (try simp -implicitDefEqProofs(disch:=first|assumption|(try simp only[lens]);omega -splitDisjunctions) [hf,hst1]))))
        all_goals first | omega | (unfold valR; dsimp only [eX]; rw [hf])
       | ok y =>
        obtain ⟨g,e⟩ := y
        rw [hcc] at hV hc
        have hcl := hcl g e hbl hcc
        have ihm := ihm (.mk 6 ⟨#[]⟩ [] [f,g]) e (by omega) hcl.2 (by omega) hV
        have hg := exr_eq g
        clear hV
        rw [exr_eq (.mk 6 ⟨#[]⟩ [] [f,g])] at ihm
        simp only [ex_mk,List.map_cons,List.map_nil] at ihm
        unfold valR at hc
        dsimp only [eX] at hc
        apply hQ
        clear hQ
        (refine Sg.h ?_;try repeat' ((first | (with_reducible first|refine brA ?_|refine brE fun _=>?_|refine spl ⟨?_,?_⟩<;>intro _) | refine clo ht ?_ | refine clo hrk ?_ | refine clo hc ?_) <;> ((try simp -implicitDefEqProofs [hst1]); (try simp -implicitDefEqProofs(disch:=first|assumption|(try simp only[lens]);omega -splitDisjunctions) [hst1]))))
        all_goals first | exact ihm | (refine at2 ihm ?_ ?_ <;> simp; done) | (exfalso; first | omega | (simp_all; done) | (simp_all; omega))
      ·have hbl : (xtokF t j).2.2 ≤ t.size := (xtok_le hj).2
       rw [if_neg hst,if_neg hst,r3,show xupR 2 = 3 from rfl,show xkindR 2 = 7 from rfl] at hV
       rw [r3] at hrk hst
       have hst1 : ¬ (2 : Int) < least := fun h => hst (.inr h)
       obtain ⟨z,hc⟩ := ih (xtokF t j).2.2 3 hbl (by omega) (by decide) (by decide)
       have hcl := xclimb_le t n (xtokF t j).2.2 3
       generalize xtokF t j = T at *
       obtain ⟨w,a,b⟩ := T
       dsimp only at *
       cases hcc : xclimbF t n b 3 with
       | error q =>
        rw [hcc] at hV hc
        subst hV
        apply hQ
        clear hQ ihm
        unfold valR at hc
        dsimp only [eX] at hc
        (refine Sg.h ?_;try repeat' ((first | (with_reducible first|refine brA ?_|refine brE fun _=>?_|refine spl ⟨?_,?_⟩<;>intro _) | refine clo ht ?_ | refine clo hrk ?_ | refine clo hc ?_) <;> ((try simp -implicitDefEqProofs [hf,hst1]); (try simp -implicitDefEqProofs(disch:=first|assumption|(try simp only[lens]);omega -splitDisjunctions) [hf,hst1]))))
        all_goals first | omega | (unfold valR; dsimp only [eX]; rw [hf])
       | ok y =>
        obtain ⟨g,e⟩ := y
        rw [hcc] at hV hc
        have hcl := hcl g e hbl hcc
        have ihm := ihm (.mk 7 ⟨#[]⟩ [] [f,g]) e (by omega) hcl.2 (by omega) hV
        have hg := exr_eq g
        clear hV
        rw [exr_eq (.mk 7 ⟨#[]⟩ [] [f,g])] at ihm
        simp only [ex_mk,List.map_cons,List.map_nil] at ihm
        unfold valR at hc
        dsimp only [eX] at hc
        apply hQ
        clear hQ
        (refine Sg.h ?_;try repeat' ((first | (with_reducible first|refine brA ?_|refine brE fun _=>?_|refine spl ⟨?_,?_⟩<;>intro _) | refine clo ht ?_ | refine clo hrk ?_ | refine clo hc ?_) <;> ((try simp -implicitDefEqProofs [hst1]); (try simp -implicitDefEqProofs(disch:=first|assumption|(try simp only[lens]);omega -splitDisjunctions) [hst1]))))
        all_goals first | exact ihm | (refine at2 ihm ?_ ?_ <;> simp; done) | (exfalso; first | omega | (simp_all; done) | (simp_all; omega))
      ·have hbl : (xtokF t j).2.2 ≤ t.size := (xtok_le hj).2
       rw [if_neg hst,if_neg hst,r4,show xupR 1 = 1 from rfl,show xkindR 1 = 8 from rfl] at hV
       rw [r4] at hrk hst
       have hst1 : ¬ (1 : Int) < least := fun h => hst (.inr h)
       obtain ⟨z,hc⟩ := ih (xtokF t j).2.2 1 hbl (by omega) (by decide) (by decide)
       have hcl := xclimb_le t n (xtokF t j).2.2 1
       generalize xtokF t j = T at *
       obtain ⟨w,a,b⟩ := T
       dsimp only at *
       cases hcc : xclimbF t n b 1 with
       | error q =>
        rw [hcc] at hV hc
        subst hV
        apply hQ
        clear hQ ihm
        unfold valR at hc
        dsimp only [eX] at hc
        (refine Sg.h ?_;try repeat' ((first | (with_reducible first|refine brA ?_|refine brE fun _=>?_|refine spl ⟨?_,?_⟩<;>intro _) | refine clo ht ?_ | refine clo hrk ?_ | refine clo hc ?_) <;> ((try simp -implicitDefEqProofs [hf,hst1]); (try simp -implicitDefEqProofs(disch:=first|assumption|(try simp only[lens]);omega -splitDisjunctions) [hf,hst1]))))
        all_goals first | omega | (unfold valR; dsimp only [eX]; rw [hf])
       | ok y =>
        obtain ⟨g,e⟩ := y
        rw [hcc] at hV hc
        have hcl := hcl g e hbl hcc
        have ihm := ihm (.mk 8 ⟨#[]⟩ [] [f,g]) e (by omega) hcl.2 (by omega) hV
        have hg := exr_eq g
        clear hV
        rw [exr_eq (.mk 8 ⟨#[]⟩ [] [f,g])] at ihm
        simp only [ex_mk,List.map_cons,List.map_nil] at ihm
        unfold valR at hc
        dsimp only [eX] at hc
        apply hQ
        clear hQ
        (refine Sg.h ?_;try repeat' ((first | (with_reducible first|refine brA ?_|refine brE fun _=>?_|refine spl ⟨?_,?_⟩<;>intro _) | refine clo ht ?_ | refine clo hrk ?_ | refine clo hc ?_) <;> ((try simp -implicitDefEqProofs [hst1]); (try simp -implicitDefEqProofs(disch:=first|assumption|(try simp only[lens]);omega -splitDisjunctions) [hst1]))))
        all_goals first | exact ihm | (refine at2 ihm ?_ ?_ <;> simp; done) | (exfalso; first | omega | (simp_all; done) | (simp_all; omega))
      ·exact absurd (.inl r4) hst
   exact main _ f j hij hj (by omega) hV
  unfold xclimbF climbZX headX at hV
  obtain ⟨R,hR⟩ : ∃ R,xtokF t i = R := ⟨_,rfl⟩
  obtain ⟨w,a,b⟩ := R
  have hat := xtok_at t i
  rw [hR] at hV ht hte hta hat
  dsimp only at hV ht hte hta hat
  by_cases h1 : w = ⟨#[126]⟩
  ·subst h1
   have hV : valR eX (match xunaC (xclimbF t n b 4) with
    | .ok (f,j) => loopX t (xclimbF t n) least (t.size + 1) f j
    | .error q => .error q) (match xunaC (xclimbF t n b 4) with
    | .ok (f,j) => loopZX t (xclimbF t n) least (t.size + 1) f j
    | .error q => zEx) = V := hV
   have hta := hta (by decide)
   obtain ⟨z,hc⟩ := ih b 4 hte.2 (by omega) (by decide) (by decide)
   cases hcc : xclimbF t n b 4 with
   | error q =>
    rw [hcc] at hV hc
    subst hV
    clear key
    unfold valR at hc
    dsimp only [eX] at hc
    (refine Sg.h ?_;try repeat' ((first | (with_reducible first|refine brA ?_|refine brE fun _=>?_|refine spl ⟨?_,?_⟩<;>intro _) | refine clo ht ?_ | refine clo hc ?_) <;> ((try simp -implicitDefEqProofs); (try simp -implicitDefEqProofs(disch:=first|assumption|(try simp only[lens]);omega -splitDisjunctions)))))
    all_goals first | omega | rfl
   | ok y =>
    obtain ⟨g,e⟩ := y
    rw [hcc] at hV hc
    have hcl := xclimb_le t n b 4 g e hte.2 hcc
    have key := key (.mk 5 ⟨#[]⟩ [] [g]) e (by omega) hcl.2 hV
    rw [exr_eq (.mk 5 ⟨#[]⟩ [] [g])] at key
    simp only [ex_mk,List.map_cons,List.map_nil] at key
    clear hV
    unfold valR at hc
    dsimp only [eX] at hc
    (refine Sg.h ?_;try repeat' ((first | (with_reducible first|refine brA ?_|refine brE fun _=>?_|refine spl ⟨?_,?_⟩<;>intro _) | refine clo ht ?_ | refine clo hc ?_) <;> ((try simp -implicitDefEqProofs); (try simp -implicitDefEqProofs(disch:=first|assumption|(try simp only[lens]);omega -splitDisjunctions)))))
    all_goals first | exact key | omega
  by_cases h2 : w = ⟨#[33]⟩ ∨ w = ⟨#[63]⟩
  ·have hta := hta (by rcases h2 with h | h <;> rw [h] <;> decide)
   have ht2 := sign_ref t b hs hte.2
   have hte2 := xtok_le hte.2
   have hta2 := xtok_adv (t := t) (i := b)
   have hbb := bl_ge t b
   have hin := IsName_ref (xtokF t b).1
   rw [if_neg h1,if_pos h2] at hV
   obtain ⟨R2,hR2⟩ : ∃ R2,xtokF t b = R2 := ⟨_,rfl⟩
   obtain ⟨v,c,d⟩ := R2
   rw [hR2] at hV ht2 hte2 hta2 hin
   dsimp only at hV ht2 hte2 hta2 hin
   cases hN : isNameB v with
   | false =>
    rw [hN] at hin hV
    rw [if_neg (by decide)] at hV
    subst hV
    clear key
    rcases h2 with rfl | rfl
    ·(refine Sg.h ?_;try repeat' ((first | (with_reducible first|refine brA ?_|refine brE fun _=>?_|refine spl ⟨?_,?_⟩<;>intro _) | refine clo ht ?_ | refine clo ht2 ?_ | refine clo hin ?_) <;> ((try simp -implicitDefEqProofs); (try simp -implicitDefEqProofs(disch:=first|assumption|(try simp only[lens]);omega -splitDisjunctions)))))
     all_goals rfl
    ·(refine Sg.h ?_;try repeat' ((first | (with_reducible first|refine brA ?_|refine brE fun _=>?_|refine spl ⟨?_,?_⟩<;>intro _) | refine clo ht ?_ | refine clo ht2 ?_ | refine clo hin ?_) <;> ((try simp -implicitDefEqProofs); (try simp -implicitDefEqProofs(disch:=first|assumption|(try simp only[lens]);omega -splitDisjunctions)))))
     all_goals rfl
   | true =>
    rw [hN] at hin hV
    rw [if_pos rfl] at hV
    obtain ⟨z,hc⟩ := ih d 4 hte2.2 (by omega) (by decide) (by decide)
    cases hcc : xclimbF t n d 4 with
    | error q =>
     rw [hcc] at hV hc
     subst hV
     clear key
     unfold valR at hc
     dsimp only [eX] at hc
     rcases h2 with rfl | rfl
     ·(refine Sg.h ?_;try repeat' ((first | (with_reducible first|refine brA ?_|refine brE fun _=>?_|refine spl ⟨?_,?_⟩<;>intro _) | refine clo ht ?_ | refine clo ht2 ?_ | refine clo hin ?_ | refine clo hc ?_) <;> ((try simp -implicitDefEqProofs); (try simp -implicitDefEqProofs(disch:=first|assumption|(try simp only[lens]);omega -splitDisjunctions)))))
      all_goals first | omega | rfl
     ·(refine Sg.h ?_;try repeat' ((first | (with_reducible first|refine brA ?_|refine brE fun _=>?_|refine spl ⟨?_,?_⟩<;>intro _) | refine clo ht ?_ | refine clo ht2 ?_ | refine clo hin ?_ | refine clo hc ?_) <;> ((try simp -implicitDefEqProofs); (try simp -implicitDefEqProofs(disch:=first|assumption|(try simp only[lens]);omega -splitDisjunctions)))))
      all_goals first | omega | rfl
    | ok y =>
     obtain ⟨g,e⟩ := y
     rw [hcc] at hV hc
     have hcl := xclimb_le t n d 4 g e hte2.2 hcc
     unfold valR at hc
     dsimp only [eX] at hc
     rcases h2 with rfl | rfl
     ·have key := key (.mk 9 v [] [g]) e (by omega) hcl.2 hV
      rw [exr_eq (.mk 9 v [] [g])] at key
      simp only [ex_mk,List.map_cons,List.map_nil] at key
      clear hV
      (refine Sg.h ?_;try repeat' ((first | (with_reducible first|refine brA ?_|refine brE fun _=>?_|refine spl ⟨?_,?_⟩<;>intro _) | refine clo ht ?_ | refine clo ht2 ?_ | refine clo hin ?_ | refine clo hc ?_) <;> ((try simp -implicitDefEqProofs); (try simp -implicitDefEqProofs(disch:=first|assumption|(try simp only[lens]);omega -splitDisjunctions)))))
      all_goals first | exact key | omega
     ·have key := key (.mk 10 v [] [g]) e (by omega) hcl.2 hV
      rw [exr_eq (.mk 10 v [] [g])] at key
      simp only [ex_mk,List.map_cons,List.map_nil] at key
      clear hV
      (refine Sg.h ?_;try repeat' ((first | (with_reducible first|refine brA ?_|refine brE fun _=>?_|refine spl ⟨?_,?_⟩<;>intro _) | refine clo ht ?_ | refine clo ht2 ?_ | refine clo hin ?_ | refine clo hc ?_) <;> ((try simp -implicitDefEqProofs); (try simp -implicitDefEqProofs(disch:=first|assumption|(try simp only[lens]);omega -splitDisjunctions)))))
      all_goals first | exact key | omega
  have h33 : ¬ w = ⟨#[33]⟩ := fun h => h2 (.inl h)
  have h63 : ¬ w = ⟨#[63]⟩ := fun h => h2 (.inr h)
  rw [if_neg h1,if_neg h2] at hV
  by_cases h4 : w = ⟨#[40]⟩
  ·subst h4
   rw [if_pos rfl] at hV
   have hta := hta (by decide)
   obtain ⟨z,hc⟩ := ih b 1 hte.2 (by omega) (by decide) (by decide)
   cases hcc : xclimbF t n b 1 with
   | error q =>
    rw [hcc] at hV hc
    subst hV
    clear key
    unfold valR at hc
    dsimp only [eX] at hc
    (refine Sg.h ?_;try repeat' ((first | (with_reducible first|refine brA ?_|refine brE fun _=>?_|refine spl ⟨?_,?_⟩<;>intro _) | refine clo ht ?_ | refine clo hc ?_) <;> ((try simp -implicitDefEqProofs); (try simp -implicitDefEqProofs(disch:=first|assumption|(try simp only[lens]);omega -splitDisjunctions)))))
    all_goals first | omega | rfl
   | ok y =>
    obtain ⟨g,e⟩ := y
    rw [hcc] at hV hc
    have hcl := xclimb_le t n b 1 g e hte.2 hcc
    have h2 := sign_ref t e hs hcl.2
    have hte2 := xtok_le hcl.2
    have hbe := bl_ge t e
    have hg := exr_eq g
    unfold valR at hc
    dsimp only [eX] at hc
    unfold xparC at hV
    dsimp only at hV
    generalize xtokF t e = T at *
    obtain ⟨u,c,d⟩ := T
    dsimp only at hV h2 hte2
    by_cases hu : u = ⟨#[41]⟩
    ·rw [if_pos hu] at hV
     have key := key g d (by omega) hte2.2 hV
     clear hV
     subst hu
     (refine Sg.h ?_;try repeat' ((first | (with_reducible first|refine brA ?_|refine brE fun _=>?_|refine spl ⟨?_,?_⟩<;>intro _) | refine clo ht ?_ | refine clo hc ?_ | refine clo h2 ?_) <;> ((try simp -implicitDefEqProofs); (try simp -implicitDefEqProofs(disch:=first|assumption|(try simp only[lens]);omega -splitDisjunctions)))))
     all_goals first | exact key | omega
    ·rw [if_neg hu] at hV
     subst hV
     clear key
     (refine Sg.h ?_;try repeat' ((first | (with_reducible first|refine brA ?_|refine brE fun _=>?_|refine spl ⟨?_,?_⟩<;>intro _) | refine clo ht ?_ | refine clo hc ?_ | refine clo h2 ?_) <;> ((try simp -implicitDefEqProofs [hu]); (try simp -implicitDefEqProofs(disch:=first|assumption|(try simp only[lens]);omega -splitDisjunctions) [hu]))))
     all_goals first | omega | rfl
  rw [if_neg h4] at hV
  by_cases h5 : w = ⟨#[49]⟩
  ·subst h5
   rw [if_pos rfl] at hV
   have key := key (.mk 3 ⟨#[]⟩ [] []) b (by omega) hte.2 hV
   clear hV
   (refine Sg.h ?_;try repeat' ((first | (with_reducible first|refine brA ?_|refine brE fun _=>?_|refine spl ⟨?_,?_⟩<;>intro _) | refine clo ht ?_) <;> ((try simp -implicitDefEqProofs); (try simp -implicitDefEqProofs(disch:=first|assumption|(try simp only[lens]);omega -splitDisjunctions)))))
   all_goals exact key
  rw [if_neg h5] at hV
  by_cases h6 : w = ⟨#[48]⟩
  ·subst h6
   rw [if_pos rfl] at hV
   have key := key (.mk 4 ⟨#[]⟩ [] []) b (by omega) hte.2 hV
   clear hV
   (refine Sg.h ?_;try repeat' ((first | (with_reducible first|refine brA ?_|refine brE fun _=>?_|refine spl ⟨?_,?_⟩<;>intro _) | refine clo ht ?_) <;> ((try simp -implicitDefEqProofs); (try simp -implicitDefEqProofs(disch:=first|assumption|(try simp only[lens]);omega -splitDisjunctions)))))
   all_goals exact key
  rw [if_neg h6] at hV
  have hb2 := bl_le hi
  rw [← hat] at hb2
  obtain ⟨zw,hw⟩ := wordAt_ref t hs a hb2
  have hwl := wdC_le (t := t) a hb2
  cases hwc : wdC t a with
  | error q =>
   rw [hwc] at hw hV
   unfold valR at hw
   dsimp only [eW] at hw
   subst hV
   clear key
   (refine Sg.h ?_;try repeat' ((first | (with_reducible first|refine brA ?_|refine brE fun _=>?_|refine spl ⟨?_,?_⟩<;>intro _) | refine clo ht ?_ | refine clo hw ?_) <;> ((try simp -implicitDefEqProofs [h1,h33,h63,h4,h5,h6]); (try simp -implicitDefEqProofs(disch:=first|assumption|(try simp only[lens]);omega -splitDisjunctions) [h1,h33,h63,h4,h5,h6]))))
   all_goals first | omega | rfl
  | ok y =>
   obtain ⟨x,e⟩ := y
   have hwl := hwl x e hwc
   rw [hwc] at hw hV
   unfold valR at hw
   dsimp only [eW] at hw
   unfold atomC at hV
   dsimp only at hV
   have ht2 := sign_ref t e hs hwl.2
   have hte2 := xtok_le hwl.2
   have hbe := bl_ge t e
   have hx := wrd_eq x
   generalize xtokF t e = T at *
   obtain ⟨u,c,d⟩ := T
   dsimp only at hV ht2 hte2
   by_cases hu : u = ⟨#[61]⟩
   ·subst hu
    rw [if_pos rfl] at hV
    obtain ⟨zv,hv⟩ := wordAt_ref t hs d hte2.2
    have hvl := wdC_le (t := t) d hte2.2
    cases hvc : wdC t d with
    | error q =>
     rw [hvc] at hv hV
     unfold valR at hv
     dsimp only [eW] at hv
     subst hV
     clear key
     (refine Sg.h ?_;try repeat' ((first | (with_reducible first|refine brA ?_|refine brE fun _=>?_|refine spl ⟨?_,?_⟩<;>intro _) | refine clo ht ?_ | refine clo hw ?_ | refine clo ht2 ?_ | refine clo hv ?_) <;> ((try simp -implicitDefEqProofs [h1,h33,h63,h4,h5,h6]); (try simp -implicitDefEqProofs(disch:=first|assumption|(try simp only[lens]);omega -splitDisjunctions) [h1,h33,h63,h4,h5,h6]))))
     all_goals first | omega | rfl
    | ok y =>
     obtain ⟨y,k⟩ := y
     have hvl := hvl y k hvc
     rw [hvc] at hv hV
     unfold valR at hv
     dsimp only [eW] at hv
     have key := key (.mk 2 ⟨#[]⟩ [x,y] []) k (by omega) hvl.2 hV
     rw [exr_eq (.mk 2 ⟨#[]⟩ [x,y] [])] at key
     simp only [ex_mk,List.map_cons,List.map_nil] at key
     clear hV
     (refine Sg.h ?_;try repeat' ((first | (with_reducible first|refine brA ?_|refine brE fun _=>?_|refine spl ⟨?_,?_⟩<;>intro _) | refine clo ht ?_ | refine clo hw ?_ | refine clo ht2 ?_ | refine clo hv ?_) <;> ((try simp -implicitDefEqProofs [h1,h33,h63,h4,h5,h6]); (try simp -implicitDefEqProofs(disch:=first|assumption|(try simp only[lens]);omega -splitDisjunctions) [h1,h33,h63,h4,h5,h6]))))
     all_goals first | exact key | omega
   ·rw [if_neg hu] at hV
    have hin := IsName_ref x.nm
    cases hN : isNameB x.nm with
    | true =>
     rw [hN] at hin hV
     rw [if_pos rfl] at hV
     subst hV
     clear key
     (refine Sg.h ?_;try repeat' ((first | (with_reducible first|refine brA ?_|refine brE fun _=>?_|refine spl ⟨?_,?_⟩<;>intro _) | refine clo ht ?_ | refine clo hw ?_ | refine clo ht2 ?_ | refine clo hin ?_) <;> ((try simp -implicitDefEqProofs [h1,h33,h63,h4,h5,h6,hu,hx]); (try simp -implicitDefEqProofs(disch:=first|assumption|(try simp only[lens]);omega -splitDisjunctions) [h1,h33,h63,h4,h5,h6,hu,hx]))))
     all_goals first | omega | rfl
    | false =>
     rw [hN] at hin hV
     rw [if_neg (by decide)] at hV
     have key := key (.mk 1 x.nm x.args []) e (by omega) hwl.2 hV
     rw [exr_eq (.mk 1 x.nm x.args [])] at key
     simp only [ex_mk,List.map_nil] at key
     clear hV
     (refine Sg.h ?_;try repeat' ((first | (with_reducible first|refine brA ?_|refine brE fun _=>?_|refine spl ⟨?_,?_⟩<;>intro _) | refine clo ht ?_ | refine clo hw ?_ | refine clo ht2 ?_ | refine clo hin ?_) <;> ((try simp -implicitDefEqProofs [h1,h33,h63,h4,h5,h6,hu,hx]); (try simp -implicitDefEqProofs(disch:=first|assumption|(try simp only[lens]);omega -splitDisjunctions) [h1,h33,h63,h4,h5,h6,hu,hx]))))
     all_goals first | exact key | omega
end Go.Proofs.Ytcllmionhlmjfaa
