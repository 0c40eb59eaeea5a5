import Derived.Test.YtcllmionhlmjfaaGFaP
set_option linter.unusedVariables false
set_option linter.unusedSimpArgs false
set_option maxRecDepth 100000
set_option maxHeartbeats 4000000
namespace Go.Proofs.Ytcllmionhlmjfaa
open Go Go.Pv
inductive WdOk : Wd → Prop where
 | mk (nm : ByteArray) (l : List Wd) (h : isBigB nm = true ∨ isNameB nm = true ∧ l = []) (hl : ∀ w ∈ l,WdOk w) : WdOk (.mk nm l)
inductive ExOk : Ex → Prop where
 | pred (nm : ByteArray) (l : List Wd) (h : isBigB nm = true) (hl : ∀ w ∈ l,WdOk w) : ExOk (.mk 1 nm l [])
 | same (a b : Wd) (ha : WdOk a) (hb : WdOk b) : ExOk (.mk 2 ⟨#[]⟩ [a,b] [])
 | tru : ExOk (.mk 3 ⟨#[]⟩ [] [])
 | fal : ExOk (.mk 4 ⟨#[]⟩ [] [])
 | not (a : Ex) (ha : ExOk a) : ExOk (.mk 5 ⟨#[]⟩ [] [a])
 | and (a b : Ex) (ha : ExOk a) (hb : ExOk b) : ExOk (.mk 6 ⟨#[]⟩ [] [a,b])
 | or (a b : Ex) (ha : ExOk a) (hb : ExOk b) : ExOk (.mk 7 ⟨#[]⟩ [] [a,b])
 | then (a b : Ex) (ha : ExOk a) (hb : ExOk b) : ExOk (.mk 8 ⟨#[]⟩ [] [a,b])
 | all (nm : ByteArray) (a : Ex) (hn : isNameB nm = true) (ha : ExOk a) : ExOk (.mk 9 nm [] [a])
 | some (nm : ByteArray) (a : Ex) (hn : isNameB nm = true) (ha : ExOk a) : ExOk (.mk 10 nm [] [a])
theorem bigX_size {nm : ByteArray} (h : isBigB nm = true) : 1 ≤ nm.size ∧ nm.size ≤ 8 := by
 unfold isBigB at h
 simp only [Bool.and_eq_true,decide_eq_true_eq] at h
 exact h.1.1
theorem nameX_size {nm : ByteArray} (h : isNameB nm = true) : 1 ≤ nm.size ∧ nm.size ≤ 8 := by
 unfold isNameB at h
 rw [Bool.and_eq_true,decide_eq_true_eq] at h
 exact h.1
theorem WdOk.head {w : Wd} (h : WdOk w) : w.nm.size ≤ 8 := by
 cases h with
 | mk nm l h hl =>
  rcases h with h | ⟨h,_⟩
  ·exact (bigX_size h).2
  ·exact (nameX_size h).2
theorem WdOk.kid {w v : Wd} (h : WdOk w) (hv : v ∈ w.args) : WdOk v := by
 cases h with
 | mk nm l h hl => exact hl v hv
theorem ndWs_mem {x : Nd} : ∀ {l : List Wd},x ∈ ndWs l → ∃ w ∈ l,x ∈ ndW w
 | [],h => by rw [ndWs_nil] at h; cases h
 | w :: r,h => by
  rw [ndWs,List.mem_append] at h
  rcases h with h | h
  ·exact ⟨w,by simp,h⟩
  ·obtain ⟨v,h1,h2⟩ := ndWs_mem h
   exact ⟨v,by simp [h1],h2⟩
theorem WdOk.short {w : Wd} : WdOk w → shW w := by
 induction w using Wd.ind with
 | h w ih =>
  intro h x hx y he
  rw [ndW_eq,List.mem_cons] at hx
  rcases hx with rfl | hx
  ·cases he; exact h.head
  ·obtain ⟨v,h1,h2⟩ := ndWs_mem hx
   exact ih v h1 (h.kid h1) x h2 y he
theorem ndW_pos (w : Wd) : 1 ≤ (ndW w).length := by rw [ndW_eq]; simp
theorem ndWs_le : ∀ l : List Wd,l.length ≤ (ndWs l).length
 | [] => by simp
 | w :: r => by
  have := ndWs_le r
  have := ndW_pos w
  rw [ndWs,List.length_append,List.length_cons]; omega
theorem ndWs_kid {w : Wd} : ∀ {l : List Wd},w ∈ l → (ndW w).length ≤ (ndWs l).length
 | [],h => by cases h
 | v :: r,h => by
  rw [ndWs,List.length_append]
  rcases List.mem_cons.1 h with rfl | h
  ·omega
  ·have := ndWs_kid h; omega
def x124 : XC := .seq (.reg [⟨some 1,.box 103 (.tmp 0),none⟩,⟨some 2,.assign (.const (.string ⟨#[]⟩)),none⟩]) (.seq (.seq (.reg [⟨some 3,.fieldAddr 103 (.tmp 1) 1,none⟩,⟨some 4,.load 54 (.tmp 3),none⟩,⟨some 5,.call ⟨.builtin .len,#[.tmp 4],#[54]⟩,none⟩,⟨some 6,.binOp .eql 3 (.tmp 5) (.const (.int .i64 0)) 3,none⟩]) (.cond (.tmp 6) (.seq (.reg [⟨some 7,.fieldAddr 103 (.tmp 1) 0,none⟩,⟨some 8,.load 9 (.tmp 7),none⟩,⟨some 2,.assign (.tmp 8),none⟩]) .ret) .skip)) (.seq (.drawn 3 [⟨some 9,.fieldAddr 103 (.tmp 1) 0,none⟩,⟨some 10,.load 9 (.tmp 9),none⟩,⟨some 11,.binOp .add 9 (.tmp 10) (.const (.string ⟨#[40]⟩)) 9,none⟩,⟨some 12,.fieldAddr 103 (.tmp 1) 1,none⟩,⟨some 13,.load 54 (.tmp 12),none⟩,⟨some 14,.call ⟨.value (.func 123),#[.tmp 13],#[54]⟩,none⟩,⟨some 15,.binOp .add 9 (.tmp 11) (.tmp 14) 9,none⟩,⟨some 16,.binOp .add 9 (.tmp 15) (.const (.string ⟨#[41]⟩)) 9,none⟩,⟨some 2,.assign (.tmp 16),none⟩]) .ret))
@[simp] theorem x124_s {C e s K} : type_of% (@X_at C e s K _ _ x124.eq_1) := X_at x124.eq_1
def an124 : Ann := ⟨[(3,.mix 6)],[],[]⟩
@[simp] theorem an124_a : an124.clsOf 3 = .mix 6 ∧ an124.frzOf 3 = [] := ⟨rfl,rfl⟩
theorem fi124 : FI Try.prog 124 (cxA an124) x124 [.tmp 2] Try.f124 := fiA Try.func124 mixed
theorem words_first (l : List Wd) (hw : ∀ w ∈ l,WdOk w) (hn : (ndWs l).length ≤ 1000) (ih : ∀ w ∈ l,CallOK Try.prog 124 [.agg (wrd w)] [] (.str (wtB w)) []) : CallOK Try.prog 123 [.list (l.map wrd)] [] (.str (lsB l)) [] := by
 have h1 := ndWs_le l
 have h2 := lsB_len l fun v hv => wtB_len v (hw v hv).short
 exact list_first l ih (by omega) (by omega)
theorem WordText_first (w : Wd) : WdOk w → (ndW w).length ≤ 1000 → CallOK Try.prog 124 [.agg (wrd w)] [] (.str (wtB w)) [] := by
 induction w using Wd.ind with
 | h w ih =>
  intro hw hn
  rw [ndW_eq,List.length_cons] at hn
  have hl := words_first w.args (fun v hv => hw.kid hv) (by omega) (fun v hv => ih v hv (hw.kid hv) (by have := ndWs_kid hv; omega))
  have h1 := ndWs_le w.args
  have h2 := lsB_len w.args fun v hv => wtB_len v (hw.kid hv).short
  have h3 := hw.head
  rw [wtB_eq]
  generalize lsB w.args = S at *
  refine fi124.op ?_
  by_cases ha : w.args = []
  ·rw [if_pos ha]
   (refine Sg.h ?_;try repeat' ((with_reducible first|refine brA ?_|refine brE fun _=>?_|refine spl ⟨?_,?_⟩<;>intro _)<;> ((try simp -implicitDefEqProofs [ha]); (try simp -implicitDefEqProofs(disch:=first|assumption|(try simp only[lens]);omega -splitDisjunctions) [ha]))))
  ·rw [if_neg ha]
   (refine Sg.h ?_;try repeat' ((first | (with_reducible first|refine brA ?_|refine brE fun _=>?_|refine spl ⟨?_,?_⟩<;>intro _) | refine clo hl ?_) <;> ((try simp -implicitDefEqProofs [ha]); (try simp -implicitDefEqProofs(disch:=first|assumption|(try simp only[lens]);omega -splitDisjunctions) [ha]))))
   repeat' (first | refine And.intro ?_ ?_)
   all_goals (try omega)
theorem list_firstOk (l : List Wd) (hw : ∀ w ∈ l,WdOk w) (hn : (ndWs l).length ≤ 1000) : CallOK Try.prog 123 [.list (l.map wrd)] [] (.str (lsB l)) [] :=
 words_first l hw hn fun w h => WordText_first w (hw w h) (by have := ndWs_kid h; omega)
def x125 : XC := .seq (.reg [⟨some 2,.assign (.const (.int .i64 0)),none⟩]) (.seq (.seq (.reg [⟨some 3,.move (.tmp 0),none⟩]) (.block 0 (.seq (.reg [⟨some 5,.binOp .eql 3 (.tmp 3) (.const (.int .i64 8)) 3,none⟩,⟨some 4,.assign (.tmp 5),none⟩]) (.cond (.tmp 4) (.seq (.reg [⟨some 2,.assign (.const (.int .i64 1)),none⟩]) .ret) (.seq (.reg [⟨some 7,.binOp .eql 3 (.tmp 3) (.const (.int .i64 7)) 3,none⟩,⟨some 6,.assign (.tmp 7),none⟩]) (.cond (.tmp 6) (.seq (.reg [⟨some 2,.assign (.const (.int .i64 2)),none⟩]) .ret) (.seq (.reg [⟨some 9,.binOp .eql 3 (.tmp 3) (.const (.int .i64 6)) 3,none⟩,⟨some 8,.assign (.tmp 9),none⟩]) (.cond (.tmp 8) (.seq (.reg [⟨some 2,.assign (.const (.int .i64 3)),none⟩]) .ret) .skip)))))))) (.seq (.reg [⟨some 2,.assign (.const (.int .i64 4)),none⟩]) .ret))
@[simp] theorem x125_s {C e s K} : type_of% (@X_at C e s K _ _ x125.eq_1) := X_at x125.eq_1
def an125 : Ann := ⟨[],[],[]⟩
theorem fi125 : FI Try.prog 125 (cxA an125) x125 [.tmp 2] Try.f125 := fiA Try.func125 mixed
def levelX (k : Int) : Int := if k = 8 then 1 else if k = 7 then 2 else if k = 6 then 3 else 4
theorem level_first (k : Int) : CallOK Try.prog 125 [.int .i64 k] [] (.int .i64 (levelX k)) [] := by
 refine fi125.op ?_
 (refine Sg.h ?_;try repeat' ((with_reducible first|refine brA ?_|refine brE fun _=>?_|refine spl ⟨?_,?_⟩<;>intro _)<;> ((try simp -implicitDefEqProofs); (try simp -implicitDefEqProofs(disch:=first|assumption|(try simp only[lens]);omega -splitDisjunctions)))))
 all_goals simp_all [levelX]
def parX (s : ByteArray) (k least : Int) : ByteArray := if levelX k < least then (⟨#[40]⟩ : ByteArray) ++ s ++ (⟨#[41]⟩ : ByteArray) else s
def predB (nm : ByteArray) (l : List Wd) : ByteArray := if l = [] then nm else nm ++ ((⟨#[40]⟩ : ByteArray) ++ lsB l ++ (⟨#[41]⟩ : ByteArray))
mutual
def sdX : Ex → Int → ByteArray
 | .mk k nm ws l => fun least =>
  let a := ((sdXs l)[0]?).getD fun _ => ⟨#[]⟩
  let b := ((sdXs l)[1]?).getD fun _ => ⟨#[]⟩
  parX (if k = 1 then predB nm ws else if k = 2 then (ws[0]?.map wtB).getD ⟨#[]⟩ ++ (⟨#[32,61,32]⟩ : ByteArray) ++ (ws[1]?.map wtB).getD ⟨#[]⟩ else if k = 3 then ⟨#[49]⟩ else if k = 4 then ⟨#[48]⟩ else if k = 5 then (⟨#[126]⟩ : ByteArray) ++ a 4
   else if k = 9 then (⟨#[33]⟩ : ByteArray) ++ nm ++ (⟨#[32]⟩ : ByteArray) ++ a 4 else if k = 10 then (⟨#[63]⟩ : ByteArray) ++ nm ++ (⟨#[32]⟩ : ByteArray) ++ a 4
   else if k = 6 then a 3 ++ (⟨#[32,38,32]⟩ : ByteArray) ++ b 4 else if k = 7 then a 2 ++ (⟨#[32,124,32]⟩ : ByteArray) ++ b 3 else if k = 8 then a 2 ++ (⟨#[32,45,62,32]⟩ : ByteArray) ++ b 1 else ⟨#[]⟩) k least
def sdXs : List Ex → List (Int → ByteArray)
 | [] => []
 | f :: r => sdX f :: sdXs r
end
theorem parX_size (s : ByteArray) (k least : Int) : (parX s k least).size ≤ s.size + 2 := by
 unfold parX; split
 ·simp only [ByteArray.size_append]; show 1 + s.size + 1 ≤ _; omega
 ·omega
theorem ndE_len0 (k : Int) (nm : ByteArray) (ws : List Wd) : (ndE (.mk k nm ws [])).length = 1 + (ndWs ws).length := by rw [ndE_eq]; simp; omega
theorem ndE_len1 (k : Int) (nm : ByteArray) (a : Ex) : (ndE (.mk k nm [] [a])).length = 1 + (ndE a).length := by rw [ndE_eq]; simp [ndEs]; omega
theorem ndE_len2 (k : Int) (nm : ByteArray) (a b : Ex) : (ndE (.mk k nm [] [a,b])).length = 1 + (ndE a).length + (ndE b).length := by rw [ndE_eq]; simp [ndEs]; omega
theorem ndWs_two (a b : Wd) : (ndWs [a,b]).length = (ndW a).length + (ndW b).length := by simp [ndWs]
theorem predB_size {nm : ByteArray} {l : List Wd} (h : isBigB nm = true) (hl : ∀ w ∈ l,WdOk w) : (predB nm l).size ≤ 10 + 12 * (ndWs l).length := by
 have h1 := bigX_size h
 have h2 := lsB_len l fun v hv => wtB_len v (hl v hv).short
 unfold predB
 split
 ·omega
 ·simp only [ByteArray.size_append]
  show nm.size + (1 + (lsB l).size + 1) ≤ _
  omega
theorem sdX_size (e : Ex) (h : ExOk e) : ∀ least,(sdX e least).size ≤ 20 * (ndE e).length := by
 induction h with
 | pred nm l h hl =>
  intro least
  refine Nat.le_trans (parX_size _ _ _) ?_
  have := predB_size h hl
  simp [ndE_len0]; omega
 | same a b ha hb =>
  intro least
  refine Nat.le_trans (parX_size _ _ _) ?_
  have h1 := wtB_len a ha.short
  have h2 := wtB_len b hb.short
  simp [ndE_len0,ndWs_two]; omega
 | tru => intro least; refine Nat.le_trans (parX_size _ _ _) ?_; simp [ndE_len0]
 | fal => intro least; refine Nat.le_trans (parX_size _ _ _) ?_; simp [ndE_len0]
 | not a ha ih => intro least; refine Nat.le_trans (parX_size _ _ _) ?_; have := ih 4; simp [sdXs,ndE_len1]; omega
 | and a b ha hb iha ihb => intro least; refine Nat.le_trans (parX_size _ _ _) ?_; have := iha 3; have := ihb 4; simp [sdXs,ndE_len2]; omega
 | or a b ha hb iha ihb => intro least; refine Nat.le_trans (parX_size _ _ _) ?_; have := iha 2; have := ihb 3; simp [sdXs,ndE_len2]; omega
 | «then» a b ha hb iha ihb => intro least; refine Nat.le_trans (parX_size _ _ _) ?_; have := iha 2; have := ihb 1; simp [sdXs,ndE_len2]; omega
 | all nm a hn ha ih => intro least; refine Nat.le_trans (parX_size _ _ _) ?_; have := ih 4; have := nameX_size hn; simp [sdXs,ndE_len1]; omega
 | some nm a hn ha ih => intro least; refine Nat.le_trans (parX_size _ _ _) ?_; have := ih 4; have := nameX_size hn; simp [sdXs,ndE_len1]; omega
end Go.Proofs.Ytcllmionhlmjfaa
namespace Go.Proofs.Ytcllmionhlmjfaa
open Go Go.Pv
def x101 : XC := .seq (.reg [⟨some 2,.box 57 (.tmp 0),none⟩,⟨some 4,.assign (.const (.string ⟨#[]⟩)),none⟩]) (.seq (.reg [⟨some 5,.assign (.const (.string ⟨#[]⟩)),none⟩]) (.seq (.seq (.reg [⟨some 6,.fieldAddr 57 (.tmp 2) 0,none⟩,⟨some 7,.load 3 (.tmp 6),none⟩]) (.block 0 (.seq (.reg [⟨some 9,.binOp .eql 3 (.tmp 7) (.const (.int .i64 1)) 3,none⟩,⟨some 8,.assign (.tmp 9),none⟩]) (.cond (.tmp 8) (.seq (.reg [⟨some 10,.fieldAddr 57 (.tmp 2) 1,none⟩,⟨some 11,.load 9 (.tmp 10),none⟩,⟨some 5,.assign (.tmp 11),none⟩]) (.seq (.reg [⟨some 12,.fieldAddr 57 (.tmp 2) 2,none⟩,⟨some 13,.load 54 (.tmp 12),none⟩,⟨some 14,.call ⟨.builtin .len,#[.tmp 13],#[54]⟩,none⟩,⟨some 15,.binOp .gtr 3 (.tmp 14) (.const (.int .i64 0)) 3,none⟩]) (.cond (.tmp 15) (.reg [⟨some 16,.move (.tmp 5),none⟩,⟨some 17,.fieldAddr 57 (.tmp 2) 2,none⟩,⟨some 18,.load 54 (.tmp 17),none⟩,⟨some 19,.call ⟨.value (.func 123),#[.tmp 18],#[54]⟩,none⟩,⟨some 20,.binOp .add 9 (.const (.string ⟨#[40]⟩)) (.tmp 19) 9,none⟩,⟨some 21,.binOp .add 9 (.tmp 20) (.const (.string ⟨#[41]⟩)) 9,none⟩,⟨some 22,.binOp .add 9 (.tmp 16) (.tmp 21) 9,none⟩,⟨some 5,.assign (.tmp 22),none⟩]) .skip))) (.seq (.reg [⟨some 24,.binOp .eql 3 (.tmp 7) (.const (.int .i64 2)) 3,none⟩,⟨some 23,.assign (.tmp 24),none⟩]) (.cond (.tmp 23) (.drawn 8 [⟨some 25,.fieldAddr 57 (.tmp 2) 2,none⟩,⟨some 26,.load 54 (.tmp 25),none⟩,⟨some 27,.indexAddr 54 (.tmp 26) (.const (.int .i64 0)),none⟩,⟨some 28,.load 103 (.tmp 27),none⟩,⟨some 29,.call ⟨.value (.func 124),#[.tmp 28],#[103]⟩,none⟩,⟨some 30,.binOp .add 9 (.tmp 29) (.const (.string ⟨#[32,61,32]⟩)) 9,none⟩,⟨some 31,.fieldAddr 57 (.tmp 2) 2,none⟩,⟨some 32,.load 54 (.tmp 31),none⟩,⟨some 33,.indexAddr 54 (.tmp 32) (.const (.int .i64 1)),none⟩,⟨some 34,.load 103 (.tmp 33),none⟩,⟨some 35,.call ⟨.value (.func 124),#[.tmp 34],#[103]⟩,none⟩,⟨some 36,.binOp .add 9 (.tmp 30) (.tmp 35) 9,none⟩,⟨some 5,.assign (.tmp 36),none⟩]) (.seq (.reg [⟨some 38,.binOp .eql 3 (.tmp 7) (.const (.int .i64 3)) 3,none⟩,⟨some 37,.assign (.tmp 38),none⟩]) (.cond (.tmp 37) (.reg [⟨some 5,.assign (.const (.string ⟨#[49]⟩)),none⟩]) (.seq (.reg [⟨some 40,.binOp .eql 3 (.tmp 7) (.const (.int .i64 4)) 3,none⟩,⟨some 39,.assign (.tmp 40),none⟩]) (.cond (.tmp 39) (.reg [⟨some 5,.assign (.const (.string ⟨#[48]⟩)),none⟩]) (.seq (.reg [⟨some 42,.binOp .eql 3 (.tmp 7) (.const (.int .i64 5)) 3,none⟩,⟨some 41,.assign (.tmp 42),none⟩]) (.cond (.tmp 41) (.reg [⟨some 43,.fieldAddr 57 (.tmp 2) 3,none⟩,⟨some 44,.load 55 (.tmp 43),none⟩,⟨some 45,.indexAddr 55 (.tmp 44) (.const (.int .i64 0)),none⟩,⟨some 46,.load 57 (.tmp 45),none⟩,⟨some 47,.call ⟨.value (.func 101),#[.tmp 46,.const (.int .i64 4)],#[57,3]⟩,none⟩,⟨some 48,.binOp .add 9 (.const (.string ⟨#[126]⟩)) (.tmp 47) 9,none⟩,⟨some 5,.assign (.tmp 48),none⟩]) (.seq (.reg [⟨some 50,.binOp .eql 3 (.tmp 7) (.const (.int .i64 9)) 3,none⟩,⟨some 49,.assign (.tmp 50),none⟩]) (.cond (.tmp 49) (.drawn 16 [⟨some 51,.fieldAddr 57 (.tmp 2) 1,none⟩,⟨some 52,.load 9 (.tmp 51),none⟩,⟨some 53,.binOp .add 9 (.const (.string ⟨#[33]⟩)) (.tmp 52) 9,none⟩,⟨some 54,.binOp .add 9 (.tmp 53) (.const (.string ⟨#[32]⟩)) 9,none⟩,⟨some 55,.fieldAddr 57 (.tmp 2) 3,none⟩,⟨some 56,.load 55 (.tmp 55),none⟩,⟨some 57,.indexAddr 55 (.tmp 56) (.const (.int .i64 0)),none⟩,⟨some 58,.load 57 (.tmp 57),none⟩,⟨some 59,.call ⟨.value (.func 101),#[.tmp 58,.const (.int .i64 4)],#[57,3]⟩,none⟩,⟨some 60,.binOp .add 9 (.tmp 54) (.tmp 59) 9,none⟩,⟨some 5,.assign (.tmp 60),none⟩]) (.seq (.reg [⟨some 62,.binOp .eql 3 (.tmp 7) (.const (.int .i64 10)) 3,none⟩,⟨some 61,.assign (.tmp 62),none⟩]) (.cond (.tmp 61) (.drawn 18 [⟨some 63,.fieldAddr 57 (.tmp 2) 1,none⟩,⟨some 64,.load 9 (.tmp 63),none⟩,⟨some 65,.binOp .add 9 (.const (.string ⟨#[63]⟩)) (.tmp 64) 9,none⟩,⟨some 66,.binOp .add 9 (.tmp 65) (.const (.string ⟨#[32]⟩)) 9,none⟩,⟨some 67,.fieldAddr 57 (.tmp 2) 3,none⟩,⟨some 68,.load 55 (.tmp 67),none⟩,⟨some 69,.indexAddr 55 (.tmp 68) (.const (.int .i64 0)),none⟩,⟨some 70,.load 57 (.tmp 69),none⟩,⟨some 71,.call ⟨.value (.func 101),#[.tmp 70,.const (.int .i64 4)],#[57,3]⟩,none⟩,⟨some 72,.binOp .add 9 (.tmp 66) (.tmp 71) 9,none⟩,⟨some 5,.assign (.tmp 72),none⟩]) (.seq (.reg [⟨some 74,.binOp .eql 3 (.tmp 7) (.const (.int .i64 6)) 3,none⟩,⟨some 73,.assign (.tmp 74),none⟩]) (.cond (.tmp 73) (.drawn 20 [⟨some 75,.fieldAddr 57 (.tmp 2) 3,none⟩,⟨some 76,.load 55 (.tmp 75),none⟩,⟨some 77,.indexAddr 55 (.tmp 76) (.const (.int .i64 0)),none⟩,⟨some 78,.load 57 (.tmp 77),none⟩,⟨some 79,.call ⟨.value (.func 101),#[.tmp 78,.const (.int .i64 3)],#[57,3]⟩,none⟩,⟨some 80,.binOp .add 9 (.tmp 79) (.const (.string ⟨#[32,38,32]⟩)) 9,none⟩,⟨some 81,.fieldAddr 57 (.tmp 2) 3,none⟩,⟨some 82,.load 55 (.tmp 81),none⟩,⟨some 83,.indexAddr 55 (.tmp 82) (.const (.int .i64 1)),none⟩,⟨some 84,.load 57 (.tmp 83),none⟩,⟨some 85,.call ⟨.value (.func 101),#[.tmp 84,.const (.int .i64 4)],#[57,3]⟩,none⟩,⟨some 86,.binOp .add 9 (.tmp 80) (.tmp 85) 9,none⟩,⟨some 5,.assign (.tmp 86),none⟩]) (.seq (.reg [⟨some 88,.binOp .eql 3 (.tmp 7) (.const (.int .i64 7)) 3,none⟩,⟨some 87,.assign (.tmp 88),none⟩]) (.cond (.tmp 87) (.drawn 22 [⟨some 89,.fieldAddr 57 (.tmp 2) 3,none⟩,⟨some 90,.load 55 (.tmp 89),none⟩,⟨some 91,.indexAddr 55 (.tmp 90) (.const (.int .i64 0)),none⟩,⟨some 92,.load 57 (.tmp 91),none⟩,⟨some 93,.call ⟨.value (.func 101),#[.tmp 92,.const (.int .i64 2)],#[57,3]⟩,none⟩,⟨some 94,.binOp .add 9 (.tmp 93) (.const (.string ⟨#[32,124,32]⟩)) 9,none⟩,⟨some 95,.fieldAddr 57 (.tmp 2) 3,none⟩,⟨some 96,.load 55 (.tmp 95),none⟩,⟨some 97,.indexAddr 55 (.tmp 96) (.const (.int .i64 1)),none⟩,⟨some 98,.load 57 (.tmp 97),none⟩,⟨some 99,.call ⟨.value (.func 101),#[.tmp 98,.const (.int .i64 3)],#[57,3]⟩,none⟩,⟨some 100,.binOp .add 9 (.tmp 94) (.tmp 99) 9,none⟩,⟨some 5,.assign (.tmp 100),none⟩]) (.seq (.reg [⟨some 102,.binOp .eql 3 (.tmp 7) (.const (.int .i64 8)) 3,none⟩,⟨some 101,.assign (.tmp 102),none⟩]) (.cond (.tmp 101) (.drawn 24 [⟨some 103,.fieldAddr 57 (.tmp 2) 3,none⟩,⟨some 104,.load 55 (.tmp 103),none⟩,⟨some 105,.indexAddr 55 (.tmp 104) (.const (.int .i64 0)),none⟩,⟨some 106,.load 57 (.tmp 105),none⟩,⟨some 107,.call ⟨.value (.func 101),#[.tmp 106,.const (.int .i64 2)],#[57,3]⟩,none⟩,⟨some 108,.binOp .add 9 (.tmp 107) (.const (.string ⟨#[32,45,62,32]⟩)) 9,none⟩,⟨some 109,.fieldAddr 57 (.tmp 2) 3,none⟩,⟨some 110,.load 55 (.tmp 109),none⟩,⟨some 111,.indexAddr 55 (.tmp 110) (.const (.int .i64 1)),none⟩,⟨some 112,.load 57 (.tmp 111),none⟩,⟨some 113,.call ⟨.value (.func 101),#[.tmp 112,.const (.int .i64 1)],#[57,3]⟩,none⟩,⟨some 114,.binOp .add 9 (.tmp 108) (.tmp 113) 9,none⟩,⟨some 5,.assign (.tmp 114),none⟩]) .skip)))))))))))))))))))))) (.seq (.seq (.reg [⟨some 115,.fieldAddr 57 (.tmp 2) 0,none⟩,⟨some 116,.load 3 (.tmp 115),none⟩,⟨some 117,.call ⟨.value (.func 125),#[.tmp 116],#[3]⟩,none⟩,⟨some 118,.move (.tmp 1),none⟩,⟨some 119,.binOp .lss 3 (.tmp 117) (.tmp 118) 3,none⟩]) (.cond (.tmp 119) (.seq (.reg [⟨some 120,.move (.tmp 5),none⟩,⟨some 121,.binOp .add 9 (.const (.string ⟨#[40]⟩)) (.tmp 120) 9,none⟩,⟨some 122,.binOp .add 9 (.tmp 121) (.const (.string ⟨#[41]⟩)) 9,none⟩,⟨some 4,.assign (.tmp 122),none⟩]) .ret) .skip)) (.seq (.reg [⟨some 123,.move (.tmp 5),none⟩,⟨some 4,.assign (.tmp 123),none⟩]) .ret))))
@[simp] theorem x101_s {C e s K} : type_of% (@X_at C e s K _ _ x101.eq_1) := X_at x101.eq_1
def an101 : Ann := ⟨[(8,.mix 11),(16,.mix 9),(18,.mix 9),(20,.mix 11),(22,.mix 11),(24,.mix 11)],[],[]⟩
@[simp] theorem an101_a : an101.clsOf 8 = .mix 11 ∧ an101.clsOf 16 = .mix 9 ∧ an101.clsOf 18 = .mix 9 ∧ an101.clsOf 20 = .mix 11 ∧ an101.clsOf 22 = .mix 11 ∧ an101.clsOf 24 = .mix 11 ∧ an101.frzOf 8 = [] ∧ an101.frzOf 16 = [] ∧ an101.frzOf 18 = [] ∧ an101.frzOf 20 = [] ∧ an101.frzOf 22 = [] ∧ an101.frzOf 24 = [] := ⟨rfl,rfl,rfl,rfl,rfl,rfl,rfl,rfl,rfl,rfl,rfl,rfl⟩
theorem fi101 : FI Try.prog 101 (cxA an101) x101 [.tmp 4] Try.f101 := fiA Try.func101 mixed
theorem said_first (e : Ex) (he : ExOk e) : (ndE e).length ≤ 1000 → ∀ least : Int,CallOK Try.prog 101 [.agg (exr e),.int .i64 least] [] (.str (sdX e least)) [] := by
 induction he with
 | pred nm l h hl =>
  intro hn least
  rw [ndE_len0] at hn
  have hli := list_firstOk l hl (by omega)
  have h1 := ndWs_le l
  have h2 := lsB_len l fun v hv => wtB_len v (hl v hv).short
  have h3 := bigX_size h
  rw [show sdX (.mk 1 nm l []) least = parX (predB nm l) 1 least by rw [sdX]; rfl]
  unfold predB
  generalize lsB l = S at *
  refine fi101.op ?_
  by_cases ha : l = []
  ·rw [if_pos ha]
   (refine Sg.h ?_;try repeat' ((first | (with_reducible first|refine brA ?_|refine brE fun _=>?_|refine spl ⟨?_,?_⟩<;>intro _) | refine clo (level_first _) ?_) <;> ((try simp -implicitDefEqProofs [ha]); (try simp -implicitDefEqProofs(disch:=first|assumption|(try simp only[lens]);omega -splitDisjunctions) [ha]))))
   all_goals simp_all [parX]
   all_goals (intros; omega)
  ·rw [if_neg ha]
   (refine Sg.h ?_;try repeat' ((first | (with_reducible first|refine brA ?_|refine brE fun _=>?_|refine spl ⟨?_,?_⟩<;>intro _) | refine clo hli ?_ | refine clo (level_first _) ?_) <;> ((try simp -implicitDefEqProofs [ha]); (try simp -implicitDefEqProofs(disch:=first|assumption|(try simp only[lens]);omega -splitDisjunctions) [ha]))))
   all_goals simp_all [parX]
   all_goals (intros; omega)
 | same a b ha hb =>
  intro hn least
  rw [ndE_len0,ndWs_two] at hn
  have h1 := WordText_first a ha (by omega)
  have h2 := WordText_first b hb (by omega)
  have s1 := wtB_len a ha.short
  have s2 := wtB_len b hb.short
  rw [show sdX (.mk 2 ⟨#[]⟩ [a,b] []) least = parX (wtB a ++ (⟨#[32,61,32]⟩ : ByteArray) ++ wtB b) 2 least by rw [sdX]; rfl]
  generalize wtB a = A at *
  generalize wtB b = B at *
  refine fi101.op ?_
  (refine Sg.h ?_;try repeat' ((first | (with_reducible first|refine brA ?_|refine brE fun _=>?_|refine spl ⟨?_,?_⟩<;>intro _) | refine clo h1 ?_ | refine clo h2 ?_ | refine clo (level_first _) ?_) <;> ((try simp -implicitDefEqProofs); (try simp -implicitDefEqProofs(disch:=first|assumption|(try simp only[lens]);omega -splitDisjunctions)))))
  all_goals simp_all [parX]
  all_goals (intros; omega)
 | tru =>
  intro hn least
  refine fi101.op ?_
  (refine Sg.h ?_;try repeat' ((first | (with_reducible first|refine brA ?_|refine brE fun _=>?_|refine spl ⟨?_,?_⟩<;>intro _) | refine clo (level_first _) ?_) <;> ((try simp -implicitDefEqProofs); (try simp -implicitDefEqProofs(disch:=first|assumption|(try simp only[lens]);omega -splitDisjunctions)))))
  all_goals simp_all [sdX,parX]
  all_goals (intros; omega)
 | fal =>
  intro hn least
  refine fi101.op ?_
  (refine Sg.h ?_;try repeat' ((first | (with_reducible first|refine brA ?_|refine brE fun _=>?_|refine spl ⟨?_,?_⟩<;>intro _) | refine clo (level_first _) ?_) <;> ((try simp -implicitDefEqProofs); (try simp -implicitDefEqProofs(disch:=first|assumption|(try simp only[lens]);omega -splitDisjunctions)))))
  all_goals simp_all [sdX,parX]
  all_goals (intros; omega)
 | not a ha ih =>
  intro hn least
  rw [ndE_len1] at hn
  have s1 := sdX_size a ha 4
  have h1 := ih (by omega) 4
  refine fi101.op ?_
  (refine Sg.h ?_;try repeat' ((first | (with_reducible first|refine brA ?_|refine brE fun _=>?_|refine spl ⟨?_,?_⟩<;>intro _) | refine clo h1 ?_ | refine clo (level_first _) ?_) <;> ((try simp -implicitDefEqProofs); (try simp -implicitDefEqProofs(disch:=first|assumption|(try simp only[lens]);omega -splitDisjunctions)))))
  all_goals simp_all [sdX,sdXs,parX]
  all_goals (intros; omega)
 | and a b ha hb iha ihb =>
  intro hn least
  rw [ndE_len2] at hn
  have s1 := sdX_size a ha 3
  have s2 := sdX_size b hb 4
  have h1 := iha (by omega) 3
  have h2 := ihb (by omega) 4
  refine fi101.op ?_
  (refine Sg.h ?_;try repeat' ((first | (with_reducible first|refine brA ?_|refine brE fun _=>?_|refine spl ⟨?_,?_⟩<;>intro _) | refine clo h1 ?_ | refine clo h2 ?_ | refine clo (level_first _) ?_) <;> ((try simp -implicitDefEqProofs); (try simp -implicitDefEqProofs(disch:=first|assumption|(try simp only[lens]);omega -splitDisjunctions)))))
  all_goals simp_all [sdX,sdXs,parX]
  all_goals (intros; omega)
 | or a b ha hb iha ihb =>
  intro hn least
  rw [ndE_len2] at hn
  have s1 := sdX_size a ha 2
  have s2 := sdX_size b hb 3
  have h1 := iha (by omega) 2
  have h2 := ihb (by omega) 3
  refine fi101.op ?_
  (refine Sg.h ?_;try repeat' ((first | (with_reducible first|refine brA ?_|refine brE fun _=>?_|refine spl ⟨?_,?_⟩<;>intro _) | refine clo h1 ?_ | refine clo h2 ?_ | refine clo (level_first _) ?_) <;> ((try simp -implicitDefEqProofs); (try simp -implicitDefEqProofs(disch:=first|assumption|(try simp only[lens]);omega -splitDisjunctions)))))
  all_goals simp_all [sdX,sdXs,parX]
  all_goals (intros; omega)
 | «then» a b ha hb iha ihb =>
  intro hn least
  rw [ndE_len2] at hn
  have s1 := sdX_size a ha 2
  have s2 := sdX_size b hb 1
  have h1 := iha (by omega) 2
  have h2 := ihb (by omega) 1
  refine fi101.op ?_
  (refine Sg.h ?_;try repeat' ((first | (with_reducible first|refine brA ?_|refine brE fun _=>?_|refine spl ⟨?_,?_⟩<;>intro _) | refine clo h1 ?_ | refine clo h2 ?_ | refine clo (level_first _) ?_) <;> ((try simp -implicitDefEqProofs); (try simp -implicitDefEqProofs(disch:=first|assumption|(try simp only[lens]);omega -splitDisjunctions)))))
  all_goals simp_all [sdX,sdXs,parX]
  all_goals (intros; omega)
 | all nm a hnm ha ih =>
  intro hn least
  rw [ndE_len1] at hn
  have s0 := nameX_size hnm
  have s1 := sdX_size a ha 4
  have h1 := ih (by omega) 4
  refine fi101.op ?_
  (refine Sg.h ?_;try repeat' ((first | (with_reducible first|refine brA ?_|refine brE fun _=>?_|refine spl ⟨?_,?_⟩<;>intro _) | refine clo h1 ?_ | refine clo (level_first _) ?_) <;> ((try simp -implicitDefEqProofs); (try simp -implicitDefEqProofs(disch:=first|assumption|(try simp only[lens]);omega -splitDisjunctions)))))
  all_goals simp_all [sdX,sdXs,parX]
  all_goals (intros; omega)
 | some nm a hnm ha ih =>
  intro hn least
  rw [ndE_len1] at hn
  have s0 := nameX_size hnm
  have s1 := sdX_size a ha 4
  have h1 := ih (by omega) 4
  refine fi101.op ?_
  (refine Sg.h ?_;try repeat' ((first | (with_reducible first|refine brA ?_|refine brE fun _=>?_|refine spl ⟨?_,?_⟩<;>intro _) | refine clo h1 ?_ | refine clo (level_first _) ?_) <;> ((try simp -implicitDefEqProofs); (try simp -implicitDefEqProofs(disch:=first|assumption|(try simp only[lens]);omega -splitDisjunctions)))))
  all_goals simp_all [sdX,sdXs,parX]
  all_goals (intros; omega)
def x74 : XC := .seq (.reg [⟨some 1,.box 57 (.tmp 0),none⟩,⟨some 2,.assign (.const (.string ⟨#[]⟩)),none⟩]) (.seq (.reg [⟨some 3,.load 57 (.tmp 1),none⟩,⟨some 4,.call ⟨.value (.func 101),#[.tmp 3,.const (.int .i64 1)],#[57,3]⟩,none⟩,⟨some 2,.assign (.tmp 4),none⟩]) .ret)
@[simp] theorem x74_s {C e s K} : type_of% (@X_at C e s K _ _ x74.eq_1) := X_at x74.eq_1
def an74 : Ann := ⟨[],[],[]⟩
theorem fi74 : FI Try.prog 74 (cxA an74) x74 [.tmp 2] Try.f74 := fiA Try.func74 mixed
theorem Said_first (e : Ex) (he : ExOk e) (hn : (ndE e).length ≤ 1000) : CallOK Try.prog 74 [.agg (exr e)] [] (.str (sdX e 1)) [] := by
 have h1 := said_first e he hn 1
 refine fi74.op ?_
 (refine Sg.h ?_;try repeat' ((first | (with_reducible first|refine brA ?_|refine brE fun _=>?_|refine spl ⟨?_,?_⟩<;>intro _) | refine clo h1 ?_) <;> ((try simp -implicitDefEqProofs); (try simp -implicitDefEqProofs(disch:=first|assumption|(try simp only[lens]);omega -splitDisjunctions)))))
def x34 : XC := .seq (.reg [⟨some 1,.box 57 (.tmp 0),none⟩,⟨some 2,.assign (.const (.string ⟨#[]⟩)),none⟩,⟨some 3,.alloc 29,none⟩]) (.seq (.seq (.reg [⟨some 5,.load 57 (.tmp 1),none⟩,⟨some 6,.call ⟨.value (.func 69),#[.tmp 5],#[57]⟩,none⟩,⟨some 4,.alloc 29,none⟩,⟨none,.store 29 (.tmp 4) (.tmp 6),none⟩]) (.seq (.reg [⟨some 7,.fieldAddr 29 (.tmp 4) 0,none⟩,⟨some 8,.load 3 (.tmp 7),none⟩,⟨some 9,.binOp .neq 3 (.tmp 8) (.const (.int .i64 0)) 3,none⟩]) (.cond (.tmp 9) (.seq (.drawn 3 [⟨some 10,.load 29 (.tmp 4),none⟩,⟨some 2,.assign (.const (.string ⟨#[]⟩)),none⟩,⟨none,.store 29 (.tmp 3) (.tmp 10),none⟩]) .ret) .skip))) (.seq (.reg [⟨some 11,.load 57 (.tmp 1),none⟩,⟨some 12,.call ⟨.value (.func 74),#[.tmp 11],#[57]⟩,none⟩,⟨some 13,.build 29 #[],none⟩,⟨some 2,.assign (.tmp 12),none⟩,⟨none,.store 29 (.tmp 3) (.tmp 13),none⟩]) .ret))
@[simp] theorem x34_s {C e s K} : type_of% (@X_at C e s K _ _ x34.eq_1) := X_at x34.eq_1
def an34 : Ann := ⟨[],[],[]⟩
@[simp] theorem an34_a : an34.clsOf 3 = .draw ∧ an34.frzOf 3 = [] := ⟨rfl,rfl⟩
theorem fi34 : FI Try.prog 34 (cxA an34) x34 [.tmp 2,.cell 3 29] Try.f34 := fiA Try.func34 mixed
theorem Print_first (e : Ex) (h : checkX e = (0,0)) (he : ExOk e) (hn : (ndE e).length ≤ 1000) : CallOK Try.prog 34 [.agg (exr e)] [] (.tuple [.str (sdX e 1),.agg [.int .i64 0,.int .i64 0]]) [] := by
 have h1 := Check_first e
 rw [h] at h1
 have h2 := Said_first e he hn
 generalize sdX e 1 = s at *
 refine fi34.op ?_
 (refine Sg.h ?_;try repeat' ((first | (with_reducible first|refine brA ?_|refine brE fun _=>?_|refine spl ⟨?_,?_⟩<;>intro _) | refine clo h1 ?_ | refine clo h2 ?_) <;> ((try simp -implicitDefEqProofs); (try simp -implicitDefEqProofs(disch:=first|assumption|(try simp only[lens]);omega -splitDisjunctions)))))
end Go.Proofs.Ytcllmionhlmjfaa
