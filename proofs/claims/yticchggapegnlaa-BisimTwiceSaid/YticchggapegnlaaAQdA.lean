import Derived.Test.YticchggapegnlaaAQFm
import Derived.Test.YticchggapegnlaaATy
set_option linter.unusedVariables false
set_option linter.unusedSimpArgs false
set_option linter.unusedSectionVars false
set_option maxRecDepth 100000
set_option maxHeartbeats 4000000
namespace Go.Proofs.Yticchggapegnlaa
open Go Go.Pv
theorem take_snoc {α : Type} {l : List α} {i : Nat} (h : i < l.length) : l.take (i + 1) = l.take i ++ [l[i]] := by
 rw [List.take_add_one,List.getElem?_eq_getElem h]; rfl
theorem OkF.kid {N : ByteArray → Prop} {f g : Fm} (h : OkF N f) (hg : g ∈ f.kids) : OkF N g := by
 cases h with | mk a b c => exact c g hg
theorem pres_mem {x g : Fm} (hx : x ∈ pre g) : ∀ l : List Fm,g ∈ l → x ∈ pres l
 | a :: r,h => by
  rw [pres_cons,List.mem_append]
  cases h with
  | head => exact .inl hx
  | tail _ h => exact .inr (pres_mem hx r h)
theorem mem_pres {x : Fm} : ∀ l : List Fm,x ∈ pres l → ∃ g ∈ l,x ∈ pre g
 | [],h => by rw [pres_nil] at h; cases h
 | a :: r,h => by
  rw [pres_cons,List.mem_append] at h
  rcases h with h | h
  ·exact ⟨a,by simp,h⟩
  ·obtain ⟨g,h1,h2⟩ := mem_pres r h; exact ⟨g,by simp [h1],h2⟩
theorem pres_len {g : Fm} : ∀ l : List Fm,g ∈ l → (pre g).length ≤ (pres l).length
 | a :: r,h => by
  rw [pres_cons,List.length_append]
  cases h with
  | head => omega
  | tail _ h => have := pres_len r h; omega
theorem pre_sub {N : ByteArray → Prop} (f : Fm) (hf : OkF N f) : ∀ x ∈ pre f,OkF N x ∧ (pre x).length ≤ (pre f).length ∧ ∀ y ∈ pre x,y ∈ pre f := by
 induction f using Fm.ind with
 | h f ih =>
  intro x hx
  rw [pre_eq] at hx
  cases hx with
  | head => exact ⟨hf,Nat.le_refl _,fun y h => h⟩
  | tail _ hx =>
   obtain ⟨g,h1,h2⟩ := mem_pres _ hx
   obtain ⟨h3,h4,h5⟩ := ih g h1 (hf.kid h1) x h2
   refine ⟨h3,?_,fun y hy => ?_⟩
   ·have := pres_len _ h1
    rw [pre_eq f]; simp; omega
   ·rw [pre_eq f]; exact List.mem_cons_of_mem _ (pres_mem (h5 y hy) _ h1)
def Td (f : Fm) : Prop := ∀ x ∈ pre f,okN x
theorem Td.kid {f g : Fm} (h : Td f) (hg : g ∈ f.kids) : Td g := fun x hx => h x (by rw [pre_eq]; exact List.mem_cons_of_mem _ (pres_mem hx _ hg))
theorem Td.ok {f : Fm} (h : Td f) : OkF (fun n => isNameB n = true) f := okF_of_pre f h
theorem Td.pre {f x : Fm} (h : Td f) (hx : x ∈ pre f) : Td x := fun y hy => h y ((pre_sub f h.ok x hx).2.2 y hy)
section
variable {n : Nat} {t : Nat → Nat → Bool} {hold : Nat → ByteArray → Bool} {w : Nat} {nm : ByteArray} {l : List Fm} {a b : Fm}
end
end Go.Proofs.Yticchggapegnlaa
namespace Go.Proofs.Yticchggapegnlaa
open Go Go.Pv Go.Sort
theorem map_int (l : List Nat) : l.map numRow = (l.map fun n : Nat => (n : Int)).map intRow := by rw [List.map_map]; rfl
def sortN (l : List Nat) : List Nat := l.mergeSort fun x y => decide (x ≤ y)
def compN (l : List Nat) : List Nat := (Lib.compact (l.map fun n : Nat => (n : Int))).map Int.toNat
theorem sortN_int (l : List Nat) : ((l.map fun n : Nat => (n : Int)).mergeSort fun x y => decide (x ≤ y)) = (sortN l).map fun n : Nat => (n : Int) := by
 unfold sortN
 rw [List.map_mergeSort]
 intro a _ b _
 simp
theorem sortN_length (l : List Nat) : (sortN l).length = l.length := List.length_mergeSort _
theorem compN_int (l : List Nat) : Lib.compact (l.map fun n : Nat => (n : Int)) = (compN l).map fun n : Nat => (n : Int) := by
 unfold compN
 rw [List.map_map]
 symm
 refine (List.map_congr_left fun x hx => ?_).trans (List.map_id _)
 obtain ⟨n,_,rfl⟩ := List.mem_map.1 (mem_of_compactI hx)
 simp
theorem compN_length (l : List Nat) : (compN l).length ≤ l.length := by
 have := Lib.compact_length_le (l.map fun n : Nat => (n : Int))
 simpa [compN] using this
theorem sort_nums {s : Store} {i n : Nat} (l : List Nat) (hi : s[i]? = some (.rows 1 (l.map numRow))) (hn : l.length = n) (hl : n ≤ 1000000) :
  CallOK Try.prog 50 [.sl i 0 n] s (.tuple []) (s.set i (.rows 1 ((sortN l).map numRow))) := by
 subst hn
 have h := sort_ints s i (l.map fun n : Nat => (n : Int)) (by rw [hi,map_int]) (by simp; omega)
 rw [List.length_map,sortN_int,← map_int] at h
 exact h
theorem compact_nums {s : Store} {i n : Nat} (l : List Nat) (hi : s[i]? = some (.rows 1 (l.map numRow))) (hn : l.length = n) (hl : n ≤ 1000000) :
  CallOK Try.prog 51 [.sl i 0 n] s (.sl i 0 (compN l).length) (s.set i (.rows 1 ((compN l ++ List.replicate (n - (compN l).length) 0).map numRow))) := by
 subst hn
 have h := compact_ints s i (l.map fun n : Nat => (n : Int)) (by rw [hi,map_int]) (by simp; omega)
 rw [List.length_map,compN_int,List.length_map] at h
 rw [map_int]
 simpa using h
theorem sort_strsE (s : Store) : CallOK Try.prog 48 [.list []] s (.tuple []) s := by
 intro pub σ w cargs hb ha
 obtain ⟨c,rfl⟩ : ∃ c,cargs = #[c] := by
  have := ha.1
  match cargs,this with
  | ⟨[c]⟩,_ => exact ⟨c,rfl⟩
 have hr := ha.2 0 _ _ rfl rfl
 obtain ⟨ad,cap,rfl⟩ : ∃ ad cap,c = .slice ad 0 cap := by cases hr <;> exact ⟨_,_,rfl⟩
 refine Calls.mono (calls_of_every_depth fun D => Go.Proofs.AnyS.slices_Sort_string_none_alone Go.Proofs.Try.laysSort D ad cap w) ?_
 rintro e w' ⟨rfl,rfl⟩
 exact ⟨_,pub,σ,rfl,SR.start hb,.tuple rfl fun j v c h => by simp at h⟩
theorem compact_strsE (s : Store) : CallOK Try.prog 49 [.list []] s (.list []) s := by
 intro pub σ w cargs hb ha
 obtain ⟨c,rfl⟩ : ∃ c,cargs = #[c] := by
  have := ha.1
  match cargs,this with
  | ⟨[c]⟩,_ => exact ⟨c,rfl⟩
 have hr := ha.2 0 _ _ rfl rfl
 have hr2 := hr
 obtain ⟨ad,cap,rfl⟩ : ∃ ad cap,c = .slice ad 0 cap := by cases hr <;> exact ⟨_,_,rfl⟩
 refine Calls.mono (calls_of_every_depth fun D => Go.Proofs.AnyS.slices_Compact_string_empty_in Go.Proofs.Try.laysCompact D ad cap w) ?_
 rintro e w' ⟨rfl,rfl⟩
 exact ⟨_,pub,σ,rfl,SR.start hb,hr2⟩
def x47 : XC := .seq (.reg [⟨some 2,.assign (.const (.slice none 0 0)),none⟩]) (.seq (.seq (.reg [⟨some 3,.move (.tmp 0),none⟩,⟨some 4,.binOp .eql 62 (.tmp 3) (.const (.slice none 0 0)) 62,none⟩]) (.cond (.tmp 4) (.seq (.reg [⟨some 2,.assign (.const (.slice none 0 0)),none⟩]) .ret) .skip)) (.seq (.reg [⟨some 5,.buildSlice 62 0 #[],none⟩,⟨some 6,.move (.tmp 0),none⟩,⟨some 7,.call ⟨.builtin .append,#[.tmp 5,.tmp 6],#[62,62]⟩,none⟩,⟨some 2,.assign (.tmp 7),none⟩]) .ret))
@[simp] theorem x47_s {C e s K} : type_of% (@X_at C e s K _ _ x47.eq_1) := X_at x47.eq_1
def an47 : Ann := ⟨[],[],[]⟩
theorem fi47 : FI Try.prog 47 (cxA an47) x47 [.tmp 2] Try.f47 := fiA Try.func47 mixed
theorem Clone_str (l : List ByteArray) (hl : 0 < l.length) (h2 : l.length ≤ 1000000) : CallOK Try.prog 47 [.list (l.map strRow)] [] (.sl 0 0 l.length) [.rows 1 (l.map strRow)] := by
 refine fi47.og ?_
 (refine Sg.h ?_;try repeat' ((with_reducible first|refine brA ?_|refine brE fun _=>?_|refine spl ⟨?_,?_⟩<;>intro _)<;> ((try simp -implicitDefEqProofs); (try simp -implicitDefEqProofs(disch:=first|assumption|(try simp only[lens]);omega -splitDisjunctions)))))
theorem Clone_strE : CallOK Try.prog 47 [.list []] [] (.list []) [] := by
 refine fi47.os ?_
 (refine Sg.h ?_;try repeat' ((with_reducible first|refine brA ?_|refine brE fun _=>?_|refine spl ⟨?_,?_⟩<;>intro _)<;> ((try simp -implicitDefEqProofs); (try simp -implicitDefEqProofs(disch:=first|assumption|(try simp only[lens]);omega -splitDisjunctions)))))
def namesW (l : List ByteArray) : List ByteArray := compL (sortL l)
def x28 : XC := .seq (.reg [⟨some 2,.box 25 (.tmp 0),none⟩,⟨some 4,.assign (.const (.slice none 0 0)),none⟩]) (.seq (.reg [⟨some 6,.fieldAddr 25 (.tmp 2) 2,none⟩,⟨some 7,.load 23 (.tmp 6),none⟩,⟨some 8,.move (.tmp 1),none⟩,⟨some 9,.indexAddr 23 (.tmp 7) (.tmp 8),none⟩,⟨some 10,.load 62 (.tmp 9),none⟩,⟨some 11,.call ⟨.value (.func 47),#[.tmp 10],#[62]⟩,none⟩,⟨some 5,.assign (.tmp 11),none⟩]) (.seq (.reg [⟨some 12,.move (.tmp 5),none⟩,⟨some 13,.call ⟨.value (.func 48),#[.tmp 12],#[62]⟩,none⟩]) (.seq (.reg [⟨some 14,.move (.tmp 5),none⟩,⟨some 15,.call ⟨.value (.func 49),#[.tmp 14],#[62]⟩,none⟩,⟨some 4,.assign (.tmp 15),none⟩]) .ret)))
@[simp] theorem x28_s {C e s K} : type_of% (@X_at C e s K _ _ x28.eq_1) := X_at x28.eq_1
def an28 : Ann := ⟨[],[],[]⟩
theorem fi28 : FI Try.prog 28 (cxA an28) x28 [.tmp 4] Try.f28 := fiA Try.func28 mixed
theorem names_bisim (m : Mdl) (w : Nat) (hw : w < m.tr.length) (hl : m.tr[w].length ≤ 1000000) : CallOK Try.prog 28 [.agg (mdl m),.int .i64 (w : Int)] [] (.list ((namesW m.tr[w]).map strRow)) [] := by
 obtain ⟨n,rel,tr⟩ := m
 dsimp only at hw hl ⊢
 have hrow : (tr.map strsRow)[w]'(by simpa using hw) = strsRow tr[w] := by simp
 generalize tr[w] = l at *
 by_cases h0 : 0 < l.length
 ·have hc := Clone_str l h0 hl
  refine fi28.op ?_
  (refine Sg.h ?_;try repeat' ((with_reducible first|refine brA ?_|refine brE fun _=>?_|refine spl ⟨?_,?_⟩<;>intro _)<;> ((try simp -implicitDefEqProofs [hw,hrow]); (try simp -implicitDefEqProofs(disch:=first|assumption|(try simp only[lens]);omega -splitDisjunctions) [hw,hrow]))))
  refine CL.sub [] (hc := by simpa using hc) ?_
  (refine Sg.h ?_;try repeat' ((with_reducible first|refine brA ?_|refine brE fun _=>?_|refine spl ⟨?_,?_⟩<;>intro _)<;> ((try simp -implicitDefEqProofs); (try simp -implicitDefEqProofs(disch:=first|assumption|(try simp only[lens]);omega -splitDisjunctions)))))
  refine CL.of (sort_strs' l rfl rfl (by omega)) ?_
  (refine Sg.h ?_;try repeat' ((with_reducible first|refine brA ?_|refine brE fun _=>?_|refine spl ⟨?_,?_⟩<;>intro _)<;> ((try simp -implicitDefEqProofs); (try simp -implicitDefEqProofs(disch:=first|assumption|(try simp only[lens]);omega -splitDisjunctions)))))
  refine CL.of (compact_strs' (sortL l) rfl (sortL_length l) (by omega)) ?_
  have hcl := compL_length (sortL l)
  rw [sortL_length] at hcl
  unfold namesW
  generalize compL (sortL l) = c at *
  (refine Sg.h ?_;try repeat' ((with_reducible first|refine brA ?_|refine brE fun _=>?_|refine spl ⟨?_,?_⟩<;>intro _)<;> ((try simp -implicitDefEqProofs); (try simp -implicitDefEqProofs(disch:=first|assumption|(try simp only[lens]);omega -splitDisjunctions)))))
 ·obtain rfl : l = [] := List.length_eq_zero_iff.1 (by omega)
  have hc := Clone_strE
  refine fi28.op ?_
  (refine Sg.h ?_;try repeat' ((first | (with_reducible first|refine brA ?_|refine brE fun _=>?_|refine spl ⟨?_,?_⟩<;>intro _) | refine clo hc ?_) <;> ((try simp -implicitDefEqProofs [hw,hrow]); (try simp -implicitDefEqProofs(disch:=first|assumption|(try simp only[lens]);omega -splitDisjunctions) [hw,hrow]))))
  refine CL.of (sort_strsE _) ?_
  (refine Sg.h ?_;try repeat' ((with_reducible first|refine brA ?_|refine brE fun _=>?_|refine spl ⟨?_,?_⟩<;>intro _)<;> ((try simp -implicitDefEqProofs); (try simp -implicitDefEqProofs(disch:=first|assumption|(try simp only[lens]);omega -splitDisjunctions)))))
  refine CL.of (compact_strsE _) ?_
  have he : namesW [] = [] := List.length_eq_zero_iff.1 (Nat.le_zero.1 (Nat.le_trans (compL_length (sortL [])) (Nat.le_of_eq (sortL_length []))))
  rw [he]
  (refine Sg.h ?_;try repeat' ((with_reducible first|refine brA ?_|refine brE fun _=>?_|refine spl ⟨?_,?_⟩<;>intro _)<;> ((try simp -implicitDefEqProofs); (try simp -implicitDefEqProofs(disch:=first|assumption|(try simp only[lens]);omega -splitDisjunctions)))))
def pickS (bs : List Bool) (S : List Nat) : Nat → List Nat
 | 0 => []
 | i + 1 => pickS bs S i ++ if bs.getD i false = true then [S.getD i 0] else []
theorem pickS_len (bs : List Bool) (S : List Nat) : ∀ i,(pickS bs S i).length ≤ i
 | 0 => Nat.le_refl _
 | i + 1 => by
  have := pickS_len bs S i
  rw [pickS,List.length_append]
  split <;> simp <;> omega
def seesS (T : List (List Bool)) (S : List Nat) (u : Nat) : List Nat := compN (sortN (pickS (T.getD u []) S (T.getD u []).length))
def bitRow (l : List Bool) : List PV := [.list (l.map boolRow)]
instance : FlatRow bitRow := ⟨fun x => rfl⟩
@[simp] theorem bitRow_eq (l : List Bool) : bitRow l = [.list (l.map boolRow)] := rfl
def x29_T1 : XC := .seq (.reg [⟨some 29,.move (.tmp 7),none⟩,⟨some 30,.call ⟨.value (.func 50),#[.tmp 29],#[27]⟩,none⟩]) (.seq (.reg [⟨some 31,.move (.tmp 7),none⟩,⟨some 32,.call ⟨.value (.func 51),#[.tmp 31],#[27]⟩,none⟩,⟨some 6,.assign (.tmp 32),none⟩]) .ret)
def x29_L0 : XC := .seq (.reg [⟨some 16,.binOp .lss 3 (.tmp 15) (.tmp 14) 3,none⟩]) (.seq (.cond (.tmp 16) .skip (.exit 0)) (.seq (.block 1 (.seq (.reg [⟨some 17,.move (.tmp 15),none⟩,⟨some 18,.indexAddr 46 (.tmp 13) (.tmp 15),none⟩,⟨some 19,.load 4 (.tmp 18),none⟩,⟨some 8,.assign (.tmp 17),none⟩,⟨some 9,.assign (.tmp 19),none⟩]) (.seq (.reg [⟨some 20,.move (.tmp 9),none⟩]) (.cond (.tmp 20) (.reg [⟨some 21,.move (.tmp 7),none⟩,⟨some 22,.move (.tmp 1),none⟩,⟨some 23,.move (.tmp 8),none⟩,⟨some 24,.indexAddr 61 (.tmp 22) (.tmp 23),none⟩,⟨some 25,.load 3 (.tmp 24),none⟩,⟨some 26,.buildSlice 27 1 #[(0,.tmp 25)],none⟩,⟨some 27,.call ⟨.builtin .append,#[.tmp 21,.tmp 26],#[27,27]⟩,none⟩,⟨some 7,.assign (.tmp 27),none⟩]) .skip)))) (.reg [⟨some 28,.binOp .add 3 (.tmp 15) (.const (.int .i64 1)) 3,none⟩,⟨some 15,.move (.tmp 28),none⟩])))
def x29 : XC := .seq (.reg [⟨some 6,.assign (.const (.slice none 0 0)),none⟩]) (.seq (.reg [⟨some 7,.assign (.const (.slice none 0 0)),none⟩]) (.seq (.seq (.reg [⟨some 10,.move (.tmp 0),none⟩,⟨some 11,.move (.tmp 2),none⟩,⟨some 12,.indexAddr 52 (.tmp 10) (.tmp 11),none⟩,⟨some 13,.load 46 (.tmp 12),none⟩,⟨some 14,.call ⟨.builtin .len,#[.tmp 13],#[46]⟩,none⟩,⟨some 15,.move (.const (.int .i64 0)),none⟩]) (.bloop 0 x29_L0)) (x29_T1)))
@[simp] theorem x29_s {C e s K} : type_of% (@X_at C e s K _ _ x29_T1.eq_1) ∧ type_of% (@X_at C e s K _ _ x29_L0.eq_1) ∧ type_of% (@X_at C e s K _ _ x29.eq_1) := ⟨X_at x29_T1.eq_1,X_at x29_L0.eq_1,X_at x29.eq_1⟩
def an29 : Ann := ⟨[],[(0,[(7,none,1)],[1,7,13,14,15],[7])],[]⟩
@[simp] theorem an29_a : an29.loopOf 0 = ([(7,none,1)],[1,7,13,14,15],[7]) := rfl
theorem fi29 : FI Try.prog 29 (cxA an29) x29 [.tmp 6] Try.f29 := fiA Try.func29 mixed
theorem sees_bisim (T : List (List Bool)) (S : List Nat) (u : Nat) (hu : u < T.length) (hS : S.length = T[u].length) (hl : S.length ≤ 1000000) : CallOK Try.prog 29 [.list (T.map bitRow),.list (S.map numRow),.int .i64 (u : Int)] [] (.list ((seesS T S u).map numRow)) [] := by
 refine fi29.op ?_
 unfold seesS
 have hT : T.getD u [] = T[u] := by rw [List.getD_eq_getElem?_getD,List.getElem?_eq_getElem hu]; rfl
 have hrow : (T.map bitRow)[u]'(by simpa using hu) = bitRow T[u] := by simp
 rw [hT]
 generalize T[u] = B at *
 (refine Sg.h ?_;try repeat' ((with_reducible first|refine brA ?_|refine brE fun _=>?_|refine spl ⟨?_,?_⟩<;>intro _)<;> ((try simp -implicitDefEqProofs [hu,hrow]); (try simp -implicitDefEqProofs(disch:=first|assumption|(try simp only[lens]);omega -splitDisjunctions) [hu,hrow]))))
 refine W_of fun Q hQ => ?_
 have main : ∀ r i,i + r = B.length → Q [(1,.list (S.map numRow)),(7,.sl 0 0 (pickS B S i).length),(13,.list (B.map boolRow)),(14,.int .i64 (B.length : Int)),(15,.int .i64 (i : Int))] [.rows 1 ((pickS B S i).map numRow)] := by
  intro r
  induction r with
  | zero =>
   intro i hi
   obtain rfl : i = B.length := by omega
   have hpl := pickS_len B S B.length
   generalize pickS B S B.length = C at *
   apply hQ
   clear hQ
   (refine Sg.h ?_;try repeat' ((with_reducible first|refine brA ?_|refine brE fun _=>?_|refine spl ⟨?_,?_⟩<;>intro _)<;> ((try simp -implicitDefEqProofs); (try simp -implicitDefEqProofs(disch:=first|assumption|(try simp only[lens]);omega -splitDisjunctions)))))
   refine CL.of (sort_nums C rfl rfl (by omega)) ?_
   (refine Sg.h ?_;try repeat' ((with_reducible first|refine brA ?_|refine brE fun _=>?_|refine spl ⟨?_,?_⟩<;>intro _)<;> ((try simp -implicitDefEqProofs); (try simp -implicitDefEqProofs(disch:=first|assumption|(try simp only[lens]);omega -splitDisjunctions)))))
   refine CL.of (compact_nums (sortN C) rfl (sortN_length C) (by omega)) ?_
   have hcl := compN_length (sortN C)
   rw [sortN_length] at hcl
   generalize compN (sortN C) = c at *
   (refine Sg.h ?_;try repeat' ((with_reducible first|refine brA ?_|refine brE fun _=>?_|refine spl ⟨?_,?_⟩<;>intro _)<;> ((try simp -implicitDefEqProofs); (try simp -implicitDefEqProofs(disch:=first|assumption|(try simp only[lens]);omega -splitDisjunctions)))))
  | succ r ih =>
   intro i hi
   have hil : i < B.length := by omega
   have hiS : i < S.length := by omega
   have ih := ih (i + 1) (by omega)
   have hpl := pickS_len B S i
   have hB : B.getD i false = B[i] := by rw [List.getD_eq_getElem?_getD,List.getElem?_eq_getElem hil]; rfl
   have hSi : S.getD i 0 = S[i] := by rw [List.getD_eq_getElem?_getD,List.getElem?_eq_getElem hiS]; rfl
   rw [pickS,hB,hSi] at ih
   generalize pickS B S i = C at *
   apply hQ
   clear hQ
   cases hb : B[i] with
   | true =>
    rw [hb,if_pos rfl] at ih
    (refine Sg.h ?_;try repeat' ((with_reducible first|refine brA ?_|refine brE fun _=>?_|refine spl ⟨?_,?_⟩<;>intro _)<;> ((try simp -implicitDefEqProofs [hil,hiS,hb]); (try simp -implicitDefEqProofs(disch:=first|assumption|(try simp only[lens]);omega -splitDisjunctions) [hil,hiS,hb]))))
    all_goals first | exact ih | (refine at2 ih ?_ ?_ <;> simp; done) | (exfalso; first | omega | (simp_all; done) | (simp_all; omega))
   | false =>
    rw [hb,if_neg (by simp),List.append_nil] at ih
    (refine Sg.h ?_;try repeat' ((with_reducible first|refine brA ?_|refine brE fun _=>?_|refine spl ⟨?_,?_⟩<;>intro _)<;> ((try simp -implicitDefEqProofs [hil,hiS,hb]); (try simp -implicitDefEqProofs(disch:=first|assumption|(try simp only[lens]);omega -splitDisjunctions) [hil,hiS,hb]))))
    all_goals first | exact ih | (refine at2 ih ?_ ?_ <;> simp; done) | (exfalso; first | omega | (simp_all; done) | (simp_all; omega))
 all_goals first | exact main _ 0 (Nat.zero_add _) | (refine at2 main _ 0 (Nat.zero_add _) ?_ ?_ <;> simp; done) | (exfalso; first | omega | (simp_all; done) | (simp_all; omega))
def x43_L0 : XC := .seq (.reg [⟨some 14,.binOp .lss 3 (.tmp 13) (.tmp 12) 3,none⟩]) (.seq (.cond (.tmp 14) .skip (.exit 0)) (.seq (.block 1 (.seq (.reg [⟨some 15,.move (.tmp 13),none⟩,⟨some 5,.assign (.tmp 15),none⟩]) (.seq (.drawn 6 [⟨some 16,.move (.tmp 0),none⟩,⟨some 17,.move (.tmp 5),none⟩,⟨some 18,.indexAddr 62 (.tmp 16) (.tmp 17),none⟩,⟨some 19,.load 9 (.tmp 18),none⟩,⟨some 20,.move (.tmp 1),none⟩,⟨some 21,.move (.tmp 5),none⟩,⟨some 22,.indexAddr 62 (.tmp 20) (.tmp 21),none⟩,⟨some 23,.load 9 (.tmp 22),none⟩,⟨some 24,.binOp .neq 9 (.tmp 19) (.tmp 23) 9,none⟩]) (.cond (.tmp 24) (.seq (.reg [⟨some 4,.assign (.const (.bool false)),none⟩]) .ret) .skip)))) (.reg [⟨some 25,.binOp .add 3 (.tmp 13) (.const (.int .i64 1)) 3,none⟩,⟨some 13,.move (.tmp 25),none⟩])))
def x43 : XC := .seq (.reg [⟨some 4,.assign (.const (.bool false)),none⟩]) (.seq (.seq (.reg [⟨some 6,.move (.tmp 0),none⟩,⟨some 7,.call ⟨.builtin .len,#[.tmp 6],#[62]⟩,none⟩,⟨some 8,.move (.tmp 1),none⟩,⟨some 9,.call ⟨.builtin .len,#[.tmp 8],#[62]⟩,none⟩,⟨some 10,.binOp .neq 3 (.tmp 7) (.tmp 9) 3,none⟩]) (.cond (.tmp 10) (.seq (.reg [⟨some 4,.assign (.const (.bool false)),none⟩]) .ret) .skip)) (.seq (.seq (.reg [⟨some 11,.move (.tmp 0),none⟩,⟨some 12,.call ⟨.builtin .len,#[.tmp 11],#[62]⟩,none⟩,⟨some 13,.move (.const (.int .i64 0)),none⟩]) (.bloop 0 x43_L0)) (.seq (.reg [⟨some 4,.assign (.const (.bool true)),none⟩]) .ret)))
@[simp] theorem x43_s {C e s K} : type_of% (@X_at C e s K _ _ x43_L0.eq_1) ∧ type_of% (@X_at C e s K _ _ x43.eq_1) := ⟨X_at x43_L0.eq_1,X_at x43.eq_1⟩
def an43 : Ann := ⟨[],[(0,[],[0,1,12,13],[4])],[]⟩
@[simp] theorem an43_a : an43.clsOf 6 = .draw ∧ an43.frzOf 6 = [] ∧ an43.loopOf 0 = ([],[0,1,12,13],[4]) := ⟨rfl,rfl,rfl⟩
theorem fi43 : FI Try.prog 43 (cxA an43) x43 [.tmp 4] Try.f43 := fiA Try.func43 mixed
theorem Equal_str (a b : List ByteArray) : CallOK Try.prog 43 [.list (a.map strRow),.list (b.map strRow)] [] (.bool (decide (a = b))) [] := by
 refine fi43.op ?_
 by_cases hl : a.length = b.length
 ·have hli : (a.length : Int) = (b.length : Int) := by omega
  (refine Sg.h ?_;try repeat' ((with_reducible first|refine brA ?_|refine brE fun _=>?_|refine spl ⟨?_,?_⟩<;>intro _)<;> ((try simp -implicitDefEqProofs [hl,hli]); (try simp -implicitDefEqProofs(disch:=first|assumption|(try simp only[lens]);omega -splitDisjunctions) [hl,hli]))))
  refine W_of fun Q hQ => ?_
  have main : ∀ r i,i + r = b.length → a.take i = b.take i → Q [(0,.list (a.map strRow)),(1,.list (b.map strRow)),(12,.int .i64 (b.length : Int)),(13,.int .i64 (i : Int))] [] := by
   intro r
   induction r with
   | zero =>
    intro i hi he
    rw [List.take_of_length_le (by omega),List.take_of_length_le (by omega)] at he
    apply hQ
    clear hQ
    (refine Sg.h ?_;try repeat' ((with_reducible first|refine brA ?_|refine brE fun _=>?_|refine spl ⟨?_,?_⟩<;>intro _)<;> ((try simp -implicitDefEqProofs [he]); (try simp -implicitDefEqProofs(disch:=first|assumption|(try simp only[lens]);omega -splitDisjunctions) [he]))))
   | succ r ih =>
    intro i hi he
    have hib : i < b.length := by omega
    have hia : i < a.length := by omega
    apply hQ
    clear hQ
    by_cases hx : a[i] = b[i]
    ·have ih := ih (i + 1) (by omega) (by rw [take_snoc hia,take_snoc hib,he,hx])
     (refine Sg.h ?_;try repeat' ((with_reducible first|refine brA ?_|refine brE fun _=>?_|refine spl ⟨?_,?_⟩<;>intro _)<;> ((try simp -implicitDefEqProofs [hia,hib,hx]); (try simp -implicitDefEqProofs(disch:=first|assumption|(try simp only[lens]);omega -splitDisjunctions) [hia,hib,hx]))))
     all_goals first | exact ih | (refine at2 ih ?_ ?_ <;> simp; done) | (exfalso; first | omega | (simp_all; done) | (simp_all; omega))
    ·have hne : a ≠ b := fun h => hx (by subst h; rfl)
     (refine Sg.h ?_;try repeat' ((with_reducible first|refine brA ?_|refine brE fun _=>?_|refine spl ⟨?_,?_⟩<;>intro _)<;> ((try simp -implicitDefEqProofs [hia,hib,hx,hne]); (try simp -implicitDefEqProofs(disch:=first|assumption|(try simp only[lens]);omega -splitDisjunctions) [hia,hib,hx,hne]))))
     all_goals (exfalso; omega)
  all_goals first | exact main _ 0 (Nat.zero_add _) rfl | (refine at2 main _ 0 (Nat.zero_add _) rfl ?_ ?_ <;> simp; done) | (exfalso; first | omega | (simp_all; done) | (simp_all; omega))
 ·have hne : a ≠ b := fun h => hl (by rw [h])
  have hli : ¬ (a.length : Int) = (b.length : Int) := by omega
  (refine Sg.h ?_;try repeat' ((with_reducible first|refine brA ?_|refine brE fun _=>?_|refine spl ⟨?_,?_⟩<;>intro _)<;> ((try simp -implicitDefEqProofs [hli,hne]); (try simp -implicitDefEqProofs(disch:=first|assumption|(try simp only[lens]);omega -splitDisjunctions) [hli,hne]))))
def x45_L0 : XC := .seq (.reg [⟨some 14,.binOp .lss 3 (.tmp 13) (.tmp 12) 3,none⟩]) (.seq (.cond (.tmp 14) .skip (.exit 0)) (.seq (.block 1 (.seq (.reg [⟨some 15,.move (.tmp 13),none⟩,⟨some 5,.assign (.tmp 15),none⟩]) (.seq (.drawn 6 [⟨some 16,.move (.tmp 0),none⟩,⟨some 17,.move (.tmp 5),none⟩,⟨some 18,.indexAddr 27 (.tmp 16) (.tmp 17),none⟩,⟨some 19,.load 3 (.tmp 18),none⟩,⟨some 20,.move (.tmp 1),none⟩,⟨some 21,.move (.tmp 5),none⟩,⟨some 22,.indexAddr 27 (.tmp 20) (.tmp 21),none⟩,⟨some 23,.load 3 (.tmp 22),none⟩,⟨some 24,.binOp .neq 3 (.tmp 19) (.tmp 23) 3,none⟩]) (.cond (.tmp 24) (.seq (.reg [⟨some 4,.assign (.const (.bool false)),none⟩]) .ret) .skip)))) (.reg [⟨some 25,.binOp .add 3 (.tmp 13) (.const (.int .i64 1)) 3,none⟩,⟨some 13,.move (.tmp 25),none⟩])))
def x45 : XC := .seq (.reg [⟨some 4,.assign (.const (.bool false)),none⟩]) (.seq (.seq (.reg [⟨some 6,.move (.tmp 0),none⟩,⟨some 7,.call ⟨.builtin .len,#[.tmp 6],#[27]⟩,none⟩,⟨some 8,.move (.tmp 1),none⟩,⟨some 9,.call ⟨.builtin .len,#[.tmp 8],#[27]⟩,none⟩,⟨some 10,.binOp .neq 3 (.tmp 7) (.tmp 9) 3,none⟩]) (.cond (.tmp 10) (.seq (.reg [⟨some 4,.assign (.const (.bool false)),none⟩]) .ret) .skip)) (.seq (.seq (.reg [⟨some 11,.move (.tmp 0),none⟩,⟨some 12,.call ⟨.builtin .len,#[.tmp 11],#[27]⟩,none⟩,⟨some 13,.move (.const (.int .i64 0)),none⟩]) (.bloop 0 x45_L0)) (.seq (.reg [⟨some 4,.assign (.const (.bool true)),none⟩]) .ret)))
@[simp] theorem x45_s {C e s K} : type_of% (@X_at C e s K _ _ x45_L0.eq_1) ∧ type_of% (@X_at C e s K _ _ x45.eq_1) := ⟨X_at x45_L0.eq_1,X_at x45.eq_1⟩
def an45 : Ann := ⟨[],[(0,[],[0,1,12,13],[4])],[]⟩
@[simp] theorem an45_a : an45.clsOf 6 = .draw ∧ an45.frzOf 6 = [] ∧ an45.loopOf 0 = ([],[0,1,12,13],[4]) := ⟨rfl,rfl,rfl⟩
theorem fi45 : FI Try.prog 45 (cxA an45) x45 [.tmp 4] Try.f45 := fiA Try.func45 mixed
theorem Equal_int (a b : List Nat) : CallOK Try.prog 45 [.list (a.map numRow),.list (b.map numRow)] [] (.bool (decide (a = b))) [] := by
 refine fi45.op ?_
 by_cases hl : a.length = b.length
 ·have hli : (a.length : Int) = (b.length : Int) := by omega
  (refine Sg.h ?_;try repeat' ((with_reducible first|refine brA ?_|refine brE fun _=>?_|refine spl ⟨?_,?_⟩<;>intro _)<;> ((try simp -implicitDefEqProofs [hl,hli]); (try simp -implicitDefEqProofs(disch:=first|assumption|(try simp only[lens]);omega -splitDisjunctions) [hl,hli]))))
  refine W_of fun Q hQ => ?_
  have main : ∀ r i,i + r = b.length → a.take i = b.take i → Q [(0,.list (a.map numRow)),(1,.list (b.map numRow)),(12,.int .i64 (b.length : Int)),(13,.int .i64 (i : Int))] [] := by
   intro r
   induction r with
   | zero =>
    intro i hi he
    rw [List.take_of_length_le (by omega),List.take_of_length_le (by omega)] at he
    apply hQ
    clear hQ
    (refine Sg.h ?_;try repeat' ((with_reducible first|refine brA ?_|refine brE fun _=>?_|refine spl ⟨?_,?_⟩<;>intro _)<;> ((try simp -implicitDefEqProofs [he]); (try simp -implicitDefEqProofs(disch:=first|assumption|(try simp only[lens]);omega -splitDisjunctions) [he]))))
   | succ r ih =>
    intro i hi he
    have hib : i < b.length := by omega
    have hia : i < a.length := by omega
    apply hQ
    clear hQ
    by_cases hx : a[i] = b[i]
    ·have ih := ih (i + 1) (by omega) (by rw [take_snoc hia,take_snoc hib,he,hx])
     (refine Sg.h ?_;try repeat' ((with_reducible first|refine brA ?_|refine brE fun _=>?_|refine spl ⟨?_,?_⟩<;>intro _)<;> ((try simp -implicitDefEqProofs [hia,hib,hx]); (try simp -implicitDefEqProofs(disch:=first|assumption|(try simp only[lens]);omega -splitDisjunctions) [hia,hib,hx]))))
     all_goals first | exact ih | (refine at2 ih ?_ ?_ <;> simp; done) | (exfalso; first | omega | (simp_all; done) | (simp_all; omega))
    ·have hne : a ≠ b := fun h => hx (by subst h; rfl)
     (refine Sg.h ?_;try repeat' ((with_reducible first|refine brA ?_|refine brE fun _=>?_|refine spl ⟨?_,?_⟩<;>intro _)<;> ((try simp -implicitDefEqProofs [hia,hib,hx,hne]); (try simp -implicitDefEqProofs(disch:=first|assumption|(try simp only[lens]);omega -splitDisjunctions) [hia,hib,hx,hne]))))
     all_goals (exfalso; omega)
  all_goals first | exact main _ 0 (Nat.zero_add _) rfl | (refine at2 main _ 0 (Nat.zero_add _) rfl ?_ ?_ <;> simp; done) | (exfalso; first | omega | (simp_all; done) | (simp_all; omega))
 ·have hne : a ≠ b := fun h => hl (by rw [h])
  have hli : ¬ (a.length : Int) = (b.length : Int) := by omega
  (refine Sg.h ?_;try repeat' ((with_reducible first|refine brA ?_|refine brE fun _=>?_|refine spl ⟨?_,?_⟩<;>intro _)<;> ((try simp -implicitDefEqProofs [hli,hne]); (try simp -implicitDefEqProofs(disch:=first|assumption|(try simp only[lens]);omega -splitDisjunctions) [hli,hne]))))
def x46_L0 : XC := .seq (.reg [⟨some 14,.binOp .lss 3 (.tmp 13) (.tmp 12) 3,none⟩]) (.seq (.cond (.tmp 14) .skip (.exit 0)) (.seq (.block 1 (.seq (.reg [⟨some 15,.move (.tmp 13),none⟩,⟨some 5,.assign (.tmp 15),none⟩]) (.seq (.drawn 6 [⟨some 16,.move (.tmp 0),none⟩,⟨some 17,.move (.tmp 5),none⟩,⟨some 18,.indexAddr 61 (.tmp 16) (.tmp 17),none⟩,⟨some 19,.load 3 (.tmp 18),none⟩,⟨some 20,.move (.tmp 1),none⟩,⟨some 21,.move (.tmp 5),none⟩,⟨some 22,.indexAddr 61 (.tmp 20) (.tmp 21),none⟩,⟨some 23,.load 3 (.tmp 22),none⟩,⟨some 24,.binOp .neq 3 (.tmp 19) (.tmp 23) 3,none⟩]) (.cond (.tmp 24) (.seq (.reg [⟨some 4,.assign (.const (.bool false)),none⟩]) .ret) .skip)))) (.reg [⟨some 25,.binOp .add 3 (.tmp 13) (.const (.int .i64 1)) 3,none⟩,⟨some 13,.move (.tmp 25),none⟩])))
def x46 : XC := .seq (.reg [⟨some 4,.assign (.const (.bool false)),none⟩]) (.seq (.seq (.reg [⟨some 6,.move (.tmp 0),none⟩,⟨some 7,.call ⟨.builtin .len,#[.tmp 6],#[61]⟩,none⟩,⟨some 8,.move (.tmp 1),none⟩,⟨some 9,.call ⟨.builtin .len,#[.tmp 8],#[61]⟩,none⟩,⟨some 10,.binOp .neq 3 (.tmp 7) (.tmp 9) 3,none⟩]) (.cond (.tmp 10) (.seq (.reg [⟨some 4,.assign (.const (.bool false)),none⟩]) .ret) .skip)) (.seq (.seq (.reg [⟨some 11,.move (.tmp 0),none⟩,⟨some 12,.call ⟨.builtin .len,#[.tmp 11],#[61]⟩,none⟩,⟨some 13,.move (.const (.int .i64 0)),none⟩]) (.bloop 0 x46_L0)) (.seq (.reg [⟨some 4,.assign (.const (.bool true)),none⟩]) .ret)))
@[simp] theorem x46_s {C e s K} : type_of% (@X_at C e s K _ _ x46_L0.eq_1) ∧ type_of% (@X_at C e s K _ _ x46.eq_1) := ⟨X_at x46_L0.eq_1,X_at x46.eq_1⟩
def an46 : Ann := ⟨[],[(0,[],[0,1,12,13],[4])],[]⟩
@[simp] theorem an46_a : an46.clsOf 6 = .draw ∧ an46.frzOf 6 = [] ∧ an46.loopOf 0 = ([],[0,1,12,13],[4]) := ⟨rfl,rfl,rfl⟩
theorem fi46 : FI Try.prog 46 (cxA an46) x46 [.tmp 4] Try.f46 := fiA Try.func46 mixed
theorem Equal_stage (a b : List Nat) : CallOK Try.prog 46 [.list (a.map numRow),.list (b.map numRow)] [] (.bool (decide (a = b))) [] := by
 refine fi46.op ?_
 by_cases hl : a.length = b.length
 ·have hli : (a.length : Int) = (b.length : Int) := by omega
  (refine Sg.h ?_;try repeat' ((with_reducible first|refine brA ?_|refine brE fun _=>?_|refine spl ⟨?_,?_⟩<;>intro _)<;> ((try simp -implicitDefEqProofs [hl,hli]); (try simp -implicitDefEqProofs(disch:=first|assumption|(try simp only[lens]);omega -splitDisjunctions) [hl,hli]))))
  refine W_of fun Q hQ => ?_
  have main : ∀ r i,i + r = b.length → a.take i = b.take i → Q [(0,.list (a.map numRow)),(1,.list (b.map numRow)),(12,.int .i64 (b.length : Int)),(13,.int .i64 (i : Int))] [] := by
   intro r
   induction r with
   | zero =>
    intro i hi he
    rw [List.take_of_length_le (by omega),List.take_of_length_le (by omega)] at he
    apply hQ
    clear hQ
    (refine Sg.h ?_;try repeat' ((with_reducible first|refine brA ?_|refine brE fun _=>?_|refine spl ⟨?_,?_⟩<;>intro _)<;> ((try simp -implicitDefEqProofs [he]); (try simp -implicitDefEqProofs(disch:=first|assumption|(try simp only[lens]);omega -splitDisjunctions) [he]))))
   | succ r ih =>
    intro i hi he
    have hib : i < b.length := by omega
    have hia : i < a.length := by omega
    apply hQ
    clear hQ
    by_cases hx : a[i] = b[i]
    ·have ih := ih (i + 1) (by omega) (by rw [take_snoc hia,take_snoc hib,he,hx])
     (refine Sg.h ?_;try repeat' ((with_reducible first|refine brA ?_|refine brE fun _=>?_|refine spl ⟨?_,?_⟩<;>intro _)<;> ((try simp -implicitDefEqProofs [hia,hib,hx]); (try simp -implicitDefEqProofs(disch:=first|assumption|(try simp only[lens]);omega -splitDisjunctions) [hia,hib,hx]))))
     all_goals first | exact ih | (refine at2 ih ?_ ?_ <;> simp; done) | (exfalso; first | omega | (simp_all; done) | (simp_all; omega))
    ·have hne : a ≠ b := fun h => hx (by subst h; rfl)
     (refine Sg.h ?_;try repeat' ((with_reducible first|refine brA ?_|refine brE fun _=>?_|refine spl ⟨?_,?_⟩<;>intro _)<;> ((try simp -implicitDefEqProofs [hia,hib,hx,hne]); (try simp -implicitDefEqProofs(disch:=first|assumption|(try simp only[lens]);omega -splitDisjunctions) [hia,hib,hx,hne]))))
     all_goals (exfalso; omega)
  all_goals first | exact main _ 0 (Nat.zero_add _) rfl | (refine at2 main _ 0 (Nat.zero_add _) rfl ?_ ?_ <;> simp; done) | (exfalso; first | omega | (simp_all; done) | (simp_all; omega))
 ·have hne : a ≠ b := fun h => hl (by rw [h])
  have hli : ¬ (a.length : Int) = (b.length : Int) := by omega
  (refine Sg.h ?_;try repeat' ((with_reducible first|refine brA ?_|refine brE fun _=>?_|refine spl ⟨?_,?_⟩<;>intro _)<;> ((try simp -implicitDefEqProofs [hli,hne]); (try simp -implicitDefEqProofs(disch:=first|assumption|(try simp only[lens]);omega -splitDisjunctions) [hli,hne]))))
end Go.Proofs.Yticchggapegnlaa
