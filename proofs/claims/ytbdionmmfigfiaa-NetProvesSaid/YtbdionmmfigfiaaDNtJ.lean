import Derived.Test.YtbdionmmfigfiaaDNtG
import Derived.Test.YtbdionmmfigfiaaDPvRec
import Derived.Test.YtbdionmmfigfiaaDNtB
import Derived.Sort.EveryDepth
import Derived.Sort.Grow
import Derived.Shelf.Slices.Delete
import Derived.Ground.Names2Prog
set_option linter.unusedVariables false
set_option linter.unusedSimpArgs false
set_option maxRecDepth 100000
set_option maxHeartbeats 4000000
namespace Go.Proofs.Ytbdionmmfigfiaa
open Go Go.Pv
theorem take_snocN {α : Type} {l : List α} {i : Nat} (h : i < l.length) : l.take (i + 1) = l.take i ++ [l[i]] := by
 rw [List.take_add_one,List.getElem?_eq_getElem h]; rfl
def szTs : List Lt → Nat
 | [] => 0
 | t :: r => szT t + szTs r
def kdTs : List Lt → List Int
 | [] => []
 | t :: r => kdT t ++ kdTs r
def ksTs : Nat → List Lt → List (Int × Int)
 | _,[] => []
 | n,t :: r => ksT n t ++ ksTs (n + szT t) r
def lfTs : Nat → List Lt → List Int
 | _,[] => []
 | n,t :: r => lfT n t ++ lfTs (n + szT t) r
def rtTs : Nat → List Lt → List Int
 | _,[] => []
 | n,t :: r => (n : Int) :: rtTs (n + szT t) r
theorem szTs_app (a b : List Lt) : szTs (a ++ b) = szTs a + szTs b := by
 induction a with
 | nil => simp [szTs]
 | cons x r ih => rw [List.cons_append,szTs,szTs,ih]; omega
theorem kdTs_app (a b : List Lt) : kdTs (a ++ b) = kdTs a ++ kdTs b := by
 induction a with
 | nil => simp [kdTs]
 | cons x r ih => rw [List.cons_append,kdTs,kdTs,ih,List.append_assoc]
theorem ksTs_app (a b : List Lt) : ∀ n,ksTs n (a ++ b) = ksTs n a ++ ksTs (n + szTs a) b := by
 induction a with
 | nil => intro n; simp [ksTs,szTs]
 | cons x r ih => intro n; rw [List.cons_append,ksTs,ksTs,ih,List.append_assoc,szTs,Nat.add_assoc]
theorem lfTs_app (a b : List Lt) : ∀ n,lfTs n (a ++ b) = lfTs n a ++ lfTs (n + szTs a) b := by
 induction a with
 | nil => intro n; simp [lfTs,szTs]
 | cons x r ih => intro n; rw [List.cons_append,lfTs,lfTs,ih,List.append_assoc,szTs,Nat.add_assoc]
theorem rtTs_app (a b : List Lt) : ∀ n,rtTs n (a ++ b) = rtTs n a ++ rtTs (n + szTs a) b := by
 induction a with
 | nil => intro n; simp [rtTs,szTs]
 | cons x r ih => intro n; rw [List.cons_append,rtTs,rtTs,ih,List.cons_append,szTs,Nat.add_assoc]
theorem kdTs_len (l : List Lt) : (kdTs l).length = szTs l := by
 induction l with
 | nil => rfl
 | cons x r ih => rw [kdTs,szTs,List.length_append,kdT_len,ih]
theorem ksTs_len (l : List Lt) : ∀ n,(ksTs n l).length = szTs l := by
 induction l with
 | nil => intro n; rfl
 | cons x r ih => intro n; rw [ksTs,szTs,List.length_append,ksT_len,ih]
theorem lfTs_len (l : List Lt) : ∀ n,(lfTs n l).length ≤ szTs l := by
 induction l with
 | nil => intro n; exact Nat.le_refl _
 | cons x r ih => intro n; have := lfT_len x n; have := ih (n + szT x); rw [lfTs,szTs,List.length_append]; omega
theorem rtTs_len (l : List Lt) : ∀ n,(rtTs n l).length = l.length := by
 induction l with
 | nil => intro n; rfl
 | cons x r ih => intro n; rw [rtTs,List.length_cons,List.length_cons,ih]
def grV (l : List Lt) : List PV := [.list ((kdTs l).map intRow),.list ((ksTs 0 l).map relRow),.list ((lfTs 0 l).map intRow),.list ((rtTs 0 l).map intRow)]
def x36_T1 : XC := .seq (.reg [⟨some 29,.load 61 (.tmp 3),none⟩,⟨some 2,.assign (.tmp 29),none⟩]) .ret
def x36_L0 : XC := .seq (.reg [⟨some 13,.binOp .lss 3 (.tmp 12) (.tmp 11) 3,none⟩]) (.seq (.cond (.tmp 13) .skip (.exit 0)) (.seq (.block 1 (.seq (.reg [⟨some 14,.indexAddr 22 (.tmp 10) (.tmp 12),none⟩,⟨some 15,.load 24 (.tmp 14),none⟩,⟨some 6,.alloc 24,none⟩,⟨none,.store 24 (.tmp 6) (.tmp 15),none⟩]) (.drawn 7 [⟨some 16,.load 61 (.tmp 3),none⟩,⟨some 17,.load 61 (.tmp 3),none⟩,⟨some 18,.nilCheck (.tmp 17),none⟩,⟨some 19,.fieldAddr 84 (.tmp 18) 3,none⟩,⟨some 20,.load 67 (.tmp 19),none⟩,⟨some 21,.load 75 (.tmp 4),none⟩,⟨some 22,.load 24 (.tmp 6),none⟩,⟨some 23,.call ⟨.value (.tmp 21),#[.tmp 22],#[24]⟩,none⟩,⟨some 24,.buildSlice 67 1 #[(0,.tmp 23)],none⟩,⟨some 25,.call ⟨.builtin .append,#[.tmp 20,.tmp 24],#[67,67]⟩,none⟩,⟨some 26,.nilCheck (.tmp 16),none⟩,⟨some 27,.fieldAddr 84 (.tmp 26) 3,none⟩,⟨none,.store 67 (.tmp 27) (.tmp 25),none⟩]))) (.reg [⟨some 28,.binOp .add 3 (.tmp 12) (.const (.int .i64 1)) 3,none⟩,⟨some 12,.move (.tmp 28),none⟩])))
def x36 : XC := .seq (.reg [⟨some 2,.assign (.const (.pointer none)),none⟩]) (.seq (.reg [⟨some 7,.build 84 #[],none⟩,⟨some 8,.box 84 (.tmp 7),none⟩,⟨some 3,.alloc 61,none⟩,⟨none,.store 61 (.tmp 3) (.tmp 8),none⟩]) (.seq (.reg [⟨some 4,.alloc 75,none⟩]) (.seq (.reg [⟨some 9,.makeFunc (.func 57) #[] #[.tmp 3,.tmp 4],none⟩,⟨none,.store 75 (.tmp 4) (.tmp 9),none⟩]) (.seq (.seq (.reg [⟨some 10,.move (.tmp 0),none⟩,⟨some 11,.call ⟨.builtin .len,#[.tmp 10],#[22]⟩,none⟩,⟨some 12,.move (.const (.int .i64 0)),none⟩]) (.bloop 0 x36_L0)) (x36_T1)))))
@[simp] theorem x36_s {C e s K} : type_of% (@X_at C e s K _ _ x36_T1.eq_1) ∧ type_of% (@X_at C e s K _ _ x36_L0.eq_1) ∧ type_of% (@X_at C e s K _ _ x36.eq_1) := ⟨X_at x36_T1.eq_1,X_at x36_L0.eq_1,X_at x36.eq_1⟩
@[simp] def tr36_7 : MT := .op 0 (.op 1 (.op 2 (.op 3 (.op 4 (.op 5 (.op 6 (.op 7 (.ck 0 (.ck 1 (.ck 4 (.op 8 (.ck 0 (.ck 1 (.ck 4 (.op 9 (.ck 0 (.op 10 (.op 11 (.op 12 .fin)))))))))))))))))))
def an36 : Ann := ⟨[(7,.tree tr36_7)],[(0,[(3,some 1000,1),(3,some 1001,2),(3,some 1002,1),(3,some 1003,1)],[3,4,10,11,12],[3])],[]⟩
@[simp] theorem an36_a : an36.clsOf 7 = .tree tr36_7 ∧ an36.frzOf 7 = [] ∧ an36.loopOf 0 = ([(3,some 1000,1),(3,some 1001,2),(3,some 1002,1),(3,some 1003,1)],[3,4,10,11,12],[3]) := ⟨rfl,rfl,rfl⟩
theorem fi36 : FI Try.prog 36 (cxA an36) x36 [.tmp 2] Try.f36 := fiA Try.func36 mixed
theorem newGraph_net (l : List Lt) (hl : szTs l ≤ 1000) (hn : l.length ≤ 1000) : CallOK Try.prog 36 [.list ((l.map lnOf).map lnr)] [] (.iptr (grV l)) [] := by
 refine fi36.op ?_
 unfold grV
 obtain ⟨R,hR⟩ : ∃ R,PV.iptr [.list ((kdTs l).map intRow),.list ((ksTs 0 l).map relRow),.list ((lfTs 0 l).map intRow),.list ((rtTs 0 l).map intRow)] = R := ⟨_,rfl⟩
 rw [hR]
 obtain ⟨L,hL⟩ : ∃ L,l.map lnOf = L := ⟨_,rfl⟩
 rw [hL]
 have hLl : L.length = l.length := by rw [← hL,List.length_map]
 have hLi : ∀ i (h : i < L.length), L[i] = lnOf (l[i]'(by omega)) := by
  intro i h
  subst hL
  rw [List.getElem_map]
 (refine Sg.h ?_;try repeat' ((with_reducible first|refine brA ?_|refine brE fun _=>?_|refine spl ⟨?_,?_⟩<;>intro _)<;> ((try simp -implicitDefEqProofs); (try simp -implicitDefEqProofs(disch:=first|assumption|(try simp only[lens]);omega -splitDisjunctions)))))
 refine W_of fun Q hQ => ?_
 have main : ∀ n i,i + n = l.length → Q [(3,.ptr 0 0 0),(4,.ptr 1 0 0),(10,.list (L.map lnr)),(11,.int .i64 (L.length : Int)),(12,.int .i64 (i : Int))] (grS (kdTs (l.take i)) (ksTs 0 (l.take i)) (lfTs 0 (l.take i)) (rtTs 0 (l.take i))) := by
  intro n
  induction n with
  | zero =>
   intro i hi
   obtain rfl : i = l.length := by omega
   rw [List.take_of_length_le (Nat.le_refl _)]
   subst hR
   unfold grS
   apply hQ
   clear hQ
   (refine Sg.h ?_;try repeat' ((with_reducible first|refine brA ?_|refine brE fun _=>?_|refine spl ⟨?_,?_⟩<;>intro _)<;> ((try simp -implicitDefEqProofs [hLl]); (try simp -implicitDefEqProofs(disch:=first|assumption|(try simp only[lens]);omega -splitDisjunctions) [hLl]))))
  | succ n ih =>
   intro i hi
   have hil : i < L.length := by omega
   have hx := hLi i hil
   have ih := ih (i + 1) (by omega)
   rw [take_snocN (show i < l.length by omega),kdTs_app,ksTs_app,lfTs_app,rtTs_app] at ih
   have hrt : (rtTs 0 (l.take i)).length ≤ 1000 := by rw [rtTs_len,List.length_take]; omega
   have hsz : szTs (l.take i) + szT (l[i]'(by omega)) ≤ szTs l := by
    conv => rhs; rw [← List.take_append_drop i l,szTs_app,List.drop_eq_getElem_cons (show i < l.length by omega),szTs]
    omega
   have hc := put_net (l[i]'(by omega)) (kdTs (l.take i)) (ksTs 0 (l.take i)) (lfTs 0 (l.take i)) (rtTs 0 (l.take i)) (by rw [kdTs_len, ksTs_len]) (by rw [kdTs_len]; omega) (by rw [kdTs_len]; exact lfTs_len _ _)
   generalize (l[i]'(by omega)) = x at *
   have hkl := kdTs_len (l.take i)
   have hsl := ksTs_len (l.take i) 0
   rw [← hkl] at ih hsl
   simp only [Nat.zero_add,kdTs,ksTs,lfTs,rtTs,List.append_nil] at ih
   clear hkl
   generalize kdTs (l.take i) = kd at *
   generalize ksTs 0 (l.take i) = ks at *
   generalize lfTs 0 (l.take i) = lf at *
   generalize rtTs 0 (l.take i) = rt at *
   clear hR hLi
   unfold grS at *
   unfold grD at hc
   apply hQ
   clear hQ
   have h3 : (rt.length + 1) * 8 ≤ 140737488355328 := by omega
   (refine Sg.h ?_;try repeat' ((with_reducible first|refine brA ?_|refine brE fun _=>?_|refine spl ⟨?_,?_⟩<;>intro _)<;> ((try simp -implicitDefEqProofs [hil,hx]); (try simp -implicitDefEqProofs(disch:=first|assumption|(try simp only[lens]);omega -splitDisjunctions) [hil,hx]))))
   refine CT.sub [0,1,2,3,4,5,6] (hc := by simpa using hc) ?_
   (refine Sg.h ?_;try repeat' ((with_reducible first|refine brA ?_|refine brE fun _=>?_|refine spl ⟨?_,?_⟩<;>intro _)<;> ((try simp -implicitDefEqProofs [h3]); (try simp -implicitDefEqProofs(disch:=first|assumption|(try simp only[lens]);omega -splitDisjunctions) [h3]))))
   refine at2 ih ?_ ?_
   ·simp
   ·simp [hsl,intRow_eq]
 refine at2 (main l.length 0 (Nat.zero_add _)) ?_ ?_
 ·rfl
 ·rfl
end Go.Proofs.Ytbdionmmfigfiaa
namespace Go.Proofs.Ytbdionmmfigfiaa
open Go Go.Pv
inductive Root (u : List Nat) : Nat → Nat → Prop where
 | base {x : Nat} (h : u[x]? = some x) : Root u x x
 | step {x y r : Nat} (h : u[x]? = some y) (hn : y ≠ x) (hr : Root u y r) : Root u x r
theorem Root.lt {u : List Nat} {x r : Nat} (h : Root u x r) : x < u.length := by
 cases h with
 | base h => exact (List.getElem?_eq_some_iff.1 h).1
 | step h _ _ => exact (List.getElem?_eq_some_iff.1 h).1
theorem Root.end {u : List Nat} {x r : Nat} (h : Root u x r) : u[r]? = some r := by
 induction h with
 | base h => exact h
 | step _ _ _ ih => exact ih
theorem Root.join {u : List Nat} {x r a b : Nat} (h : Root u x r) (ha : u[a]? = some a) (hb : u[b]? = some b) (hab : a ≠ b) : Root (u.set a b) x (if r = a then b else r) := by
 have hal : a < u.length := (List.getElem?_eq_some_iff.1 ha).1
 have hb' : (u.set a b)[b]? = some b := by rw [List.getElem?_set_ne hab]; exact hb
 induction h with
 | base h =>
  rename_i x
  by_cases hx : x = a
  ·subst hx
   rw [if_pos rfl]
   exact .step (List.getElem?_set_self hal) (fun e => hab e.symm) (.base hb')
  ·rw [if_neg hx]
   exact .base (by rw [List.getElem?_set_ne (fun e => hx e.symm)]; exact h)
 | step h hn hr ih =>
  rename_i x y r
  have hx : x ≠ a := by
   intro e; subst e
   rw [ha] at h
   exact hn (Option.some.inj h).symm
  exact .step (by rw [List.getElem?_set_ne (fun e => hx e.symm)]; exact h) hn ih
def x59_T1 : XC := .seq (.reg [⟨some 15,.move (.tmp 1),none⟩,⟨some 4,.assign (.tmp 15),none⟩]) .ret
def x59_L0 : XC := .seq (.seq (.reg [⟨some 5,.move (.tmp 0),none⟩,⟨some 6,.move (.tmp 1),none⟩,⟨some 7,.indexAddr 85 (.tmp 5) (.tmp 6),none⟩,⟨some 8,.load 3 (.tmp 7),none⟩,⟨some 9,.move (.tmp 1),none⟩,⟨some 10,.binOp .neq 3 (.tmp 8) (.tmp 9) 3,none⟩]) (.cond (.tmp 10) .skip (.exit 0))) (.block 1 (.reg [⟨some 11,.move (.tmp 0),none⟩,⟨some 12,.move (.tmp 1),none⟩,⟨some 13,.indexAddr 85 (.tmp 11) (.tmp 12),none⟩,⟨some 14,.load 3 (.tmp 13),none⟩,⟨some 1,.assign (.tmp 14),none⟩]))
def x59 : XC := .seq (.reg [⟨some 4,.assign (.const (.int .i64 0)),none⟩]) (.seq (.bloop 0 x59_L0) (x59_T1))
@[simp] theorem x59_s {C e s K} : type_of% (@X_at C e s K _ _ x59_T1.eq_1) ∧ type_of% (@X_at C e s K _ _ x59_L0.eq_1) ∧ type_of% (@X_at C e s K _ _ x59.eq_1) := ⟨X_at x59_T1.eq_1,X_at x59_L0.eq_1,X_at x59.eq_1⟩
def an59 : Ann := ⟨[],[(0,[],[0,1],[1])],[]⟩
@[simp] theorem an59_a : an59.loopOf 0 = ([],[0,1],[1]) := rfl
theorem fi59 : FI Try.prog 59 (cxA an59) x59 [.tmp 4] Try.f59 := fiA Try.func59 mixed
theorem of_net (u : List Nat) (x r : Nat) (h : Root u x r) : CallOK Try.prog 59 [.list (u.map numRow),.int .i64 (x : Int)] [] (.int .i64 (r : Int)) [] := by
 refine fi59.op ?_
 (refine Sg.h ?_;try repeat' ((with_reducible first|refine brA ?_|refine brE fun _=>?_|refine spl ⟨?_,?_⟩<;>intro _)<;> ((try simp -implicitDefEqProofs); (try simp -implicitDefEqProofs(disch:=first|assumption|(try simp only[lens]);omega -splitDisjunctions)))))
 refine W_of fun Q hQ => ?_
 have main : Q [(0,.list (u.map numRow)),(1,.int .i64 (x : Int))] [] := by
  induction h with
  | base h =>
   obtain ⟨h1,h2⟩ := List.getElem?_eq_some_iff.1 h
   apply hQ
   clear hQ
   (refine Sg.h ?_;try repeat' ((with_reducible first|refine brA ?_|refine brE fun _=>?_|refine spl ⟨?_,?_⟩<;>intro _)<;> ((try simp -implicitDefEqProofs [h1,h2]); (try simp -implicitDefEqProofs(disch:=first|assumption|(try simp only[lens]);omega -splitDisjunctions) [h1,h2]))))
  | step h hn hr ih =>
   rename_i x y r
   obtain ⟨h1,h2⟩ := List.getElem?_eq_some_iff.1 h
   have ih := ih hQ
   have hn' : ¬ (y : Int) = (x : Int) := by omega
   apply hQ
   clear hQ
   (refine Sg.h ?_;try repeat' ((with_reducible first|refine brA ?_|refine brE fun _=>?_|refine spl ⟨?_,?_⟩<;>intro _)<;> ((try simp -implicitDefEqProofs [h1,h2,hn']); (try simp -implicitDefEqProofs(disch:=first|assumption|(try simp only[lens]);omega -splitDisjunctions) [h1,h2,hn']))))
   all_goals (first | exact ih | (refine at2 ih ?_ ?_ <;> simp))
 exact main
def x58 : XC := .seq (.reg [⟨some 5,.assign (.const (.bool false)),none⟩]) (.seq (.drawn 1 [⟨some 6,.load 85 (.tmp 2),none⟩,⟨some 7,.move (.tmp 0),none⟩,⟨some 8,.call ⟨.value (.func 59),#[.tmp 6,.tmp 7],#[85,3]⟩,none⟩,⟨some 9,.load 85 (.tmp 2),none⟩,⟨some 10,.move (.tmp 1),none⟩,⟨some 11,.call ⟨.value (.func 59),#[.tmp 9,.tmp 10],#[85,3]⟩,none⟩,⟨some 0,.assign (.tmp 8),none⟩,⟨some 1,.assign (.tmp 11),none⟩]) (.seq (.reg [⟨some 12,.load 85 (.tmp 2),none⟩,⟨some 13,.move (.tmp 0),none⟩,⟨some 14,.move (.tmp 1),none⟩,⟨some 15,.indexAddr 85 (.tmp 12) (.tmp 13),none⟩,⟨none,.store 3 (.tmp 15) (.tmp 14),none⟩]) (.seq (.reg [⟨some 16,.move (.tmp 0),none⟩,⟨some 17,.move (.tmp 1),none⟩,⟨some 18,.binOp .neq 3 (.tmp 16) (.tmp 17) 3,none⟩,⟨some 5,.assign (.tmp 18),none⟩]) .ret)))
@[simp] theorem x58_s {C e s K} : type_of% (@X_at C e s K _ _ x58.eq_1) := X_at x58.eq_1
def an58 : Ann := ⟨[(1,.mix 5)],[],[]⟩
@[simp] theorem an58_a : an58.clsOf 1 = .mix 5 ∧ an58.frzOf 1 = [] := ⟨rfl,rfl⟩
theorem fi58 : FI Try.prog 58 (cxA an58) x58 [.tmp 5] Try.f58 := fiA Try.func58 mixed
theorem join_net (u : List Nat) (a b ra rb : Nat) (ha : Root u a ra) (hb : Root u b rb) (hl : u.length ≤ 100000) : CallOK Try.prog 58 [.int .i64 (a : Int),.int .i64 (b : Int),.ptr 0 0 0] [.rows 1 [[.sl 1 0 u.length]],.rows 1 (u.map numRow)] (.bool (decide (ra ≠ rb))) [.rows 1 [[.sl 1 0 u.length]],.rows 1 ((u.set ra rb).map numRow)] := by
 have h1 := of_net u a ra ha
 have h2 := of_net u b rb hb
 have hr : ra < u.length := (List.getElem?_eq_some_iff.1 ha.end).1
 have hset : (u.map numRow).set ra [.int .i64 (rb : Int)] = (u.set ra rb).map numRow := by simp [numRow]
 refine fi58.og ?_
 obtain ⟨v,hv⟩ : ∃ v,u.set ra rb = v := ⟨_,rfl⟩
 rw [hv] at hset ⊢
 (refine Sg.h ?_;try repeat' ((with_reducible first|refine brA ?_|refine brE fun _=>?_|refine spl ⟨?_,?_⟩<;>intro _)<;> ((try simp -implicitDefEqProofs [hr,hset]); (try simp -implicitDefEqProofs(disch:=first|assumption|(try simp only[lens]);omega -splitDisjunctions) [hr,hset]))))
 refine CM.see h1 (by simp) (flat_int _ _) ?_
 (refine Sg.h ?_;try repeat' ((with_reducible first|refine brA ?_|refine brE fun _=>?_|refine spl ⟨?_,?_⟩<;>intro _)<;> ((try simp -implicitDefEqProofs [hr,hset]); (try simp -implicitDefEqProofs(disch:=first|assumption|(try simp only[lens]);omega -splitDisjunctions) [hr,hset]))))
 refine CD.see h2 (by simp) (flat_int _ _) ?_
 have hr2 : List.range 2 = [0,1] := rfl
 have hq : ((ra : Int) = (rb : Int)) = (ra = rb) := propext ⟨fun h => by omega,fun h => by omega⟩
 (refine Sg.h ?_;try repeat' ((with_reducible first|refine brA ?_|refine brE fun _=>?_|refine spl ⟨?_,?_⟩<;>intro _)<;> ((try simp -implicitDefEqProofs [hr,hset,hr2,hq]); (try simp -implicitDefEqProofs(disch:=first|assumption|(try simp only[lens]);omega -splitDisjunctions) [hr,hset,hr2,hq]))))
end Go.Proofs.Ytbdionmmfigfiaa
namespace Go.Proofs
open Go.Shelf
def Try.laysDelete_ren : Go.Shelf.Ren := ⟨fun | 23 => 62 | n => n,fun | 22 => 67 | 3 => 3 | 4 => 4 | 0 => 0 | n => n,fun | n => n⟩
theorem Try.laysDelete : Go.Proofs.Lays2.n23 Try.prog Try.laysDelete_ren := {
 mixed := by kernel_rfl,
 f23 := Try.func62.trans (congrArg some (by kernel_rfl)),
 t0 := Try.underlying0,
 a0 := Try.isAgg0,
 z0 := Try.sizeOf0,
 v0 := Try.zeroValue0,
 t3 := Try.underlying3,
 a3 := Try.isAgg3,
 z3 := Try.sizeOf3,
 v3 := Try.zeroValue3,
 t4 := Try.underlying4,
 a4 := Try.isAgg4,
 z4 := Try.sizeOf4,
 v4 := Try.zeroValue4,
 t22 := Try.underlying67,
 a22 := Try.isAgg67,
 z22 := Try.sizeOf67,
 v22 := Try.zeroValue67,
 i3 := by kernel_rfl }
end Go.Proofs
namespace Go.Pv
open Go Go.Sort Go.Proofs
set_option linter.unusedVariables false
set_option linter.unusedSimpArgs false
section
variable {C : Ctx} {p : PHeap} {σ : Sig} {s : Store} {w : World}
theorem putRow_eqI {b o : Nat} {ca : Array Value} {ty : TypeId} (hb : w.heap[b]? = some (.cells ca ty (0,0))) (zs : List Int) (hsz : o + zs.length ≤ ca.size) :
  putRow (Value.int .i64) w b o zs.toArray = { w with heap := w.heap.setIfInBounds b (.cells (spliceA ca o (zs.map (Value.int .i64))) ty (0,0)) } := by
 unfold putRow mapBlock
 congr 1
 apply Array.ext_getElem?
 intro i
 rw [Array.getElem?_modify,Array.getElem?_setIfInBounds]
 by_cases hi : b = i
 ·subst hi
  rw [if_pos rfl,if_pos rfl,hb]
  have hlt : b < w.heap.size := by
   rcases Nat.lt_or_ge b w.heap.size with h1 | h1
   ·exact h1
   ·rw [Array.getElem?_eq_none h1] at hb; cases hb
  rw [if_pos hlt]
  simp only [Option.map_some,onCells]
  congr 2
  apply Array.ext_getElem?
  intro j
  rw [spliceA_get _ _ _ _ (by simpa using hsz)]
  simp only [putCells,Array.getElem?_mapIdx,List.size_toArray,List.length_map]
  by_cases hj : o ≤ j ∧ j < o + zs.length
  ·rw [if_pos hj]
   have hjc : j < ca.size := by omega
   rw [Array.getElem?_eq_getElem hjc]
   simp only [Option.map_some,if_pos hj]
   have hjz : j - o < zs.length := by omega
   rw [List.getElem?_map,List.getElem?_eq_getElem hjz]
   simp only [Option.map_some,Option.some.injEq]
   rw [getElem!_pos _ _ (by simpa using hjz)]
   simp only [List.getElem_toArray]
  ·rw [if_neg hj]
   cases hc : ca[j]? with
   | none => rfl
   | some v => simp only [Option.map_some,if_neg hj]
 ·rw [if_neg hi,if_neg hi]
theorem SR.putNums (h : SR C p σ s w) {i : Nat} {loc : Loc} {l l2 junk : List Nat} (hi : s[i]? = some (.rows 1 ((l ++ junk).map numRow))) (hσ : σ i = some loc) (hn : 0 < l.length) (hl : l2.length = l.length) :
  SR C p σ (s.set i (.rows 1 ((l2 ++ junk).map numRow))) (putRow (Value.int .i64) w loc.b loc.o (l2.map Int.ofNat).toArray) := by
 obtain ⟨hn',hle,ca,ty,hb,hsz,hR⟩ := h.rows hi hσ (by intro e; simp at e; have := e.1; subst this; simp at hn)
 obtain ⟨l',hl1,hl2,_⟩ := h.obj i _ hi
 rw [hσ] at hl1; cases hl1
 rw [List.length_map,List.length_append] at hle
 rw [hl2] at hsz hR
 rw [putRow_eqI hb (l2.map Int.ofNat) (by simp; omega)]
 have := h.putRows (off := 0) (ys := l2.map numRow) (vs := (l2.map Int.ofNat).map (Value.int .i64)) hi hσ hn' hb (by rw [hl2]; exact hsz) (by simp [hl]) (by rw [hl2]; exact hR) (by simp [hl2]) (by
  rw [hl2]
  refine ⟨fun r row hr => ?_,fun r row j v c hr hj hc => ?_⟩
  ·rw [List.getElem?_map,Option.map_eq_some_iff] at hr
   obtain ⟨b,_,rfl⟩ := hr; rfl
  ·rw [List.getElem?_map,Option.map_eq_some_iff] at hr
   obtain ⟨b,hb2,rfl⟩ := hr
   obtain rfl : j = 0 := by have := lt_of_getElem? hj; simp [numRow] at this; omega
   simp only [numRow,List.getElem?_cons_zero,Option.some.injEq] at hj
   subst hj
   rw [Nat.zero_add,Nat.mul_one,Nat.add_zero,List.getElem?_toArray,List.getElem?_map,List.getElem?_map,hb2] at hc
   simp only [Option.map_some,Option.some.injEq] at hc
   subst hc
   exact .int)
 rw [Nat.zero_mul,Nat.add_zero] at this
 have e : Pv.putRows ((l ++ junk).map numRow) (l2.map numRow) 0 = (l2 ++ junk).map numRow := by
  simp [Pv.putRows,hl]
 rw [e] at this
 exact this
theorem holds_nums (h : Base p σ s w) {i : Nat} {loc : Loc} {l junk : List Nat} (hi : s[i]? = some (.rows 1 ((l ++ junk).map numRow))) (hσ : σ i = some loc) (hn : 0 < l.length) :
  Holds (Value.int .i64) w loc.b loc.o (l.map Int.ofNat).toArray := by
 have h := SR.start h
 obtain ⟨hn',hle,ca,ty,hb,hsz,hR⟩ := h.rows hi hσ (by intro e; simp at e; have := e.1; subst this; simp at hn)
 obtain ⟨l',hl1,hl2,_⟩ := h.obj i _ hi
 rw [hσ] at hl1; cases hl1
 rw [List.length_map,List.length_append] at hle
 rw [hl2] at hsz hR
 have hcell : ∀ (j : Nat) (hj : j < l.length),ca[loc.o + j]? = some (.int .i64 (l[j] : Int)) := by
  intro j hj
  have hjc : loc.o + j < ca.size := by omega
  have := hR.rel j (numRow l[j]) 0 (.int .i64 (l[j] : Int)) ca[loc.o + j] (by rw [List.getElem?_map,List.getElem?_append_left hj,List.getElem?_eq_getElem hj]; rfl) rfl (by rw [Nat.mul_one,Nat.add_zero]; exact Array.getElem?_eq_getElem hjc)
  rw [Array.getElem?_eq_getElem hjc]
  generalize ca[loc.o + j] = c at this
  cases this with
  | int => rfl
 intro j hj
 simp only [List.size_toArray,List.length_map] at hj
 have h1 := hcell j hj
 refine ⟨?_,?_⟩
 ·unfold World.cell?
  rw [hb]
  simp only [Option.isSome_none,Bool.false_eq_true,if_false]
  rw [h1,getElem!_pos _ _ (by simpa using hj)]
  simp only [List.getElem_toArray,List.getElem_map]
  rfl
 ·unfold World.frozen?
  rw [hb]
  simp
end
theorem Delete_nums (s : Store) (k : Nat) (l junk : List Nat) (i : Nat) (hi : s[k]? = some (.rows 1 ((l ++ junk).map numRow))) (hil : i < l.length) :
  CallOK Go.Proofs.Try.prog 62 [.sl k 0 l.length,.int .i64 (i : Int),.int .i64 ((i : Int) + 1)] s (.sl k 0 (l.length - 1)) (s.set k (.rows 1 ((l.eraseIdx i ++ 0 :: junk).map numRow))) := by
 intro pub σ w cargs hb ha
 obtain ⟨c,c1,c2,rfl⟩ : ∃ c c1 c2,cargs = #[c,c1,c2] := by
  have := ha.1
  match cargs,this with
  | ⟨[c,c1,c2]⟩,_ => exact ⟨c,c1,c2,rfl⟩
 have hr := ha.2 0 _ _ rfl rfl
 have hr1 := ha.2 1 _ _ rfl rfl
 have hr2 := ha.2 2 _ _ rfl rfl
 cases hr1
 cases hr2
 cases hr with
 | sl hσ hlen hcap ha2 =>
  rename_i loc ad cap
  obtain ⟨rfl,hn⟩ := ha2 (by omega)
  have hH := holds_nums hb hi hσ (by omega)
  rw [Nat.zero_mul,Nat.add_zero]
  have hc := Any.slices_Delete_int Go.Proofs.Try.laysDelete loc.b loc.o cap i (i + 1) (l.map Int.ofNat) w hH (by simpa using hlen) (by have : maxLen = 9223372036854775807 := rfl; omega) (by omega) (by simp; omega)
  rw [List.length_map] at hc
  refine Calls.mono hc ?_
  rintro e w' ⟨rfl,n,rfl⟩
  rw [show l.length - (i + 1 - i) = l.length - 1 by omega]
  refine ⟨_,pub,σ,rfl,?_,?_⟩
  ·have he : (l.map Int.ofNat).take i ++ (l.map Int.ofNat).drop (i + 1) ++ List.replicate (i + 1 - i) 0 = (l.eraseIdx i ++ [0]).map Int.ofNat := by
    rw [List.eraseIdx_eq_take_drop_succ]
    simp
   rw [he,show l.eraseIdx i ++ 0 :: junk = (l.eraseIdx i ++ [0]) ++ junk by simp]
   exact SR.putNums (l := l) ((SR.start hb).drawn (w' := Go.Sort.ahead w n) rfl rfl rfl rfl) hi hσ (by omega) (by rw [List.length_append,List.length_eraseIdx_of_lt hil]; simp; omega)
  ·exact .sl hσ (by omega) hcap fun h => ⟨by rw [Nat.zero_mul,Nat.add_zero],hn⟩
end Go.Pv
namespace Go.Proofs.Ytbdionmmfigfiaa
open Go Go.Pv
def x60_L0 : XC := .seq (.reg [⟨some 9,.binOp .lss 3 (.tmp 8) (.tmp 7) 3,none⟩]) (.seq (.cond (.tmp 9) .skip (.exit 0)) (.seq (.block 1 (.seq (.reg [⟨some 10,.move (.tmp 8),none⟩,⟨some 5,.assign (.tmp 10),none⟩]) (.seq (.reg [⟨some 11,.move (.tmp 1),none⟩,⟨some 12,.move (.tmp 0),none⟩,⟨some 13,.move (.tmp 5),none⟩,⟨some 14,.indexAddr 67 (.tmp 12) (.tmp 13),none⟩,⟨some 15,.load 3 (.tmp 14),none⟩,⟨some 16,.call ⟨.value (.tmp 11),#[.tmp 15],#[3]⟩,none⟩]) (.cond (.tmp 16) (.seq (.reg [⟨some 17,.move (.tmp 5),none⟩,⟨some 4,.assign (.tmp 17),none⟩]) .ret) .skip)))) (.reg [⟨some 18,.binOp .add 3 (.tmp 8) (.const (.int .i64 1)) 3,none⟩,⟨some 8,.move (.tmp 18),none⟩])))
def x60 : XC := .seq (.reg [⟨some 4,.assign (.const (.int .i64 0)),none⟩]) (.seq (.seq (.reg [⟨some 6,.move (.tmp 0),none⟩,⟨some 7,.call ⟨.builtin .len,#[.tmp 6],#[67]⟩,none⟩,⟨some 8,.move (.const (.int .i64 0)),none⟩]) (.bloop 0 x60_L0)) (.seq (.reg [⟨some 4,.assign (.const (.int .i64 (-1))),none⟩]) .ret))
@[simp] theorem x60_s {C e s K} : type_of% (@X_at C e s K _ _ x60_L0.eq_1) ∧ type_of% (@X_at C e s K _ _ x60.eq_1) := ⟨X_at x60_L0.eq_1,X_at x60.eq_1⟩
def an60 : Ann := ⟨[],[(0,[],[0,1,7,8],[4])],[]⟩
@[simp] theorem an60_a : an60.loopOf 0 = ([],[0,1,7,8],[4]) := rfl
theorem fi60 : FI Try.prog 60 (cxA an60) x60 [.tmp 4] Try.f60 := fiA Try.func60 mixed
theorem IndexFunc_int (l : List Nat) (hl : l.length ≤ 1000000) (fid : Nat) [EnT Try.prog fid] (ys : List PV) [hy : FlatL ys] (p : Nat → Bool) (h : ∀ a ∈ l,CallOK Try.prog fid (.int .i64 (a : Int) :: ys) [] (.bool (p a)) []) :
  CallOK Try.prog 60 [.list (l.map numRow),.fn (.func fid) [] ys] [] (.int .i64 (indexP p l)) [] := by
 have hcl : ∀ a : Nat,∀ v ∈ .int .i64 (a : Int) :: ys,Closed v := by
  intro a v hv
  rcases List.mem_cons.1 hv with rfl | hv
  ·exact cl_int
  ·exact hy.closed v hv
 refine fi60.op ?_
 (refine Sg.h ?_;try repeat' ((with_reducible first|refine brA ?_|refine brE fun _=>?_|refine spl ⟨?_,?_⟩<;>intro _)<;> ((try simp -implicitDefEqProofs); (try simp -implicitDefEqProofs(disch:=first|assumption|(try simp only[lens]);omega -splitDisjunctions)))))
 refine W_of fun Q hQ => ?_
 have main : ∀ n i,i + n = l.length → (∀ j (hj : j < i) (hl : j < l.length),p l[j] = false) → Q [(0,.list (l.map numRow)),(1,.fn (.func fid) [] ys),(7,.int .i64 (l.length : Int)),(8,.int .i64 (i : Int))] [] := by
  intro n
  induction n with
  | zero =>
   intro i hi hb
   have hv := indexP_none fun j hj => hb j (by omega) hj
   generalize indexP p l = v at *
   apply hQ
   subst hv
   (refine Sg.h ?_;try repeat' ((with_reducible first|refine brA ?_|refine brE fun _=>?_|refine spl ⟨?_,?_⟩<;>intro _)<;> ((try simp -implicitDefEqProofs); (try simp -implicitDefEqProofs(disch:=first|assumption|(try simp only[lens]);omega -splitDisjunctions)))))
  | succ n ih =>
   intro i hi hb
   have hil : i < l.length := by omega
   have hc := h _ (List.getElem_mem hil)
   have ih := ih (i + 1) (by omega)
   have hat := fun hp => indexP_at hil hp fun j hj => hb j hj (by omega)
   generalize indexP p l = v at *
   cases hp : p l[i] with
   | true =>
    have hv := hat hp
    rw [hp] at hc
    apply hQ
    clear hQ
    subst hv
    (refine Sg.h ?_;try repeat' ((with_reducible first|refine brA ?_|refine brE fun _=>?_|refine spl ⟨?_,?_⟩<;>intro _)<;> ((try simp -implicitDefEqProofs [hil]); (try simp -implicitDefEqProofs(disch:=first|assumption|(try simp only[lens]);omega -splitDisjunctions) [hil]))))
    refine CL.clo hc ?_ (hcl _)
    (refine Sg.h ?_;try repeat' ((with_reducible first|refine brA ?_|refine brE fun _=>?_|refine spl ⟨?_,?_⟩<;>intro _)<;> ((try simp -implicitDefEqProofs); (try simp -implicitDefEqProofs(disch:=first|assumption|(try simp only[lens]);omega -splitDisjunctions)))))
   | false =>
    have ih := ih fun j hj hl => by
     rcases Nat.lt_or_ge j i with hji | hji
     ·exact hb j hji hl
     ·have : j = i := by omega
      subst this; exact hp
    rw [hp] at hc
    apply hQ
    clear hQ
    (refine Sg.h ?_;try repeat' ((with_reducible first|refine brA ?_|refine brE fun _=>?_|refine spl ⟨?_,?_⟩<;>intro _)<;> ((try simp -implicitDefEqProofs [hil]); (try simp -implicitDefEqProofs(disch:=first|assumption|(try simp only[lens]);omega -splitDisjunctions) [hil]))))
    refine CL.clo hc ?_ (hcl _)
    (refine Sg.h ?_;try repeat' ((with_reducible first|refine brA ?_|refine brE fun _=>?_|refine spl ⟨?_,?_⟩<;>intro _)<;> ((try simp -implicitDefEqProofs); (try simp -implicitDefEqProofs(disch:=first|assumption|(try simp only[lens]);omega -splitDisjunctions)))))
    all_goals first | exact ih | (refine at2 ih ?_ ?_ <;> simp; done) | (exfalso; first | omega | (simp_all; done) | (simp_all; omega))
 all_goals first | exact main _ 0 (Nat.zero_add _) (fun j hj => by omega) | (refine at2 main _ 0 (Nat.zero_add _) (fun j hj => by omega) ?_ ?_ <;> simp; done) | (exfalso; first | omega | (simp_all; done) | (simp_all; omega))
def x61 : XC := .seq (.reg [⟨some 4,.assign (.const (.bool false)),none⟩]) (.seq (.drawn 1 [⟨some 6,.load 85 (.tmp 1),none⟩,⟨some 7,.load 61 (.tmp 2),none⟩,⟨some 8,.nilCheck (.tmp 7),none⟩,⟨some 9,.fieldAddr 84 (.tmp 8) 1,none⟩,⟨some 10,.load 25 (.tmp 9),none⟩,⟨some 11,.move (.tmp 0),none⟩,⟨some 12,.indexAddr 25 (.tmp 10) (.tmp 11),none⟩,⟨some 13,.indexAddr 33 (.tmp 12) (.const (.int .i64 0)),none⟩,⟨some 14,.load 3 (.tmp 13),none⟩,⟨some 15,.call ⟨.value (.func 59),#[.tmp 6,.tmp 14],#[85,3]⟩,none⟩,⟨some 5,.assign (.tmp 15),none⟩]) (.seq (.drawn 2 [⟨some 16,.move (.tmp 5),none⟩,⟨some 17,.load 85 (.tmp 1),none⟩,⟨some 18,.load 61 (.tmp 2),none⟩,⟨some 19,.nilCheck (.tmp 18),none⟩,⟨some 20,.fieldAddr 84 (.tmp 19) 1,none⟩,⟨some 21,.load 25 (.tmp 20),none⟩,⟨some 22,.move (.tmp 0),none⟩,⟨some 23,.indexAddr 25 (.tmp 21) (.tmp 22),none⟩,⟨some 24,.indexAddr 33 (.tmp 23) (.const (.int .i64 1)),none⟩,⟨some 25,.load 3 (.tmp 24),none⟩,⟨some 26,.call ⟨.value (.func 59),#[.tmp 17,.tmp 25],#[85,3]⟩,none⟩,⟨some 27,.binOp .eql 3 (.tmp 16) (.tmp 26) 3,none⟩,⟨some 28,.move (.tmp 27),none⟩,⟨some 29,.move (.tmp 5),some (some 28,true)⟩,⟨some 30,.load 85 (.tmp 1),some (some 28,true)⟩,⟨some 31,.move (.tmp 0),some (some 28,true)⟩,⟨some 32,.call ⟨.value (.func 59),#[.tmp 30,.tmp 31],#[85,3]⟩,some (some 28,true)⟩,⟨some 33,.binOp .neq 3 (.tmp 29) (.tmp 32) 3,some (some 28,true)⟩,⟨some 34,.pick (.tmp 28) (.tmp 33) (.const (.bool false)),none⟩,⟨some 4,.assign (.tmp 34),none⟩]) .ret))
@[simp] theorem x61_s {C e s K} : type_of% (@X_at C e s K _ _ x61.eq_1) := X_at x61.eq_1
def an61 : Ann := ⟨[(1,.mix 9),(2,.mix 17)],[],[]⟩
@[simp] theorem an61_a : an61.clsOf 1 = .mix 9 ∧ an61.clsOf 2 = .mix 17 ∧ an61.frzOf 1 = [] ∧ an61.frzOf 2 = [] := ⟨rfl,rfl,rfl,rfl⟩
theorem fi61 : FI Try.prog 61 (cxA an61) x61 [.tmp 4] Try.f61 := fiA Try.func61 mixed
theorem ready_net (u : List Nat) (X Y Z : List (List PV)) (ks : List (Int × Int)) (n a b ra rb rn : Nat) (hn : ks[n]? = some ((a : Int),(b : Int))) (ha : Root u a ra) (hb : Root u b rb) (hr : Root u n rn) :
  CallOK Try.prog 61 [.int .i64 (n : Int),.iptr [.list (u.map numRow)],.iptr [.iptr [.list X,.list (ks.map relRow),.list Y,.list Z]]] [] (.bool (decide (ra = rb ∧ ra ≠ rn))) [] := by
 have h1 := of_net u a ra ha
 have h2 := of_net u b rb hb
 have h3 := of_net u n rn hr
 obtain ⟨hk,hg⟩ := List.getElem?_eq_some_iff.1 hn
 refine fi61.op ?_
 have q1 : ((ra : Int) = (rb : Int)) = (ra = rb) := propext ⟨fun h => by omega,fun h => by omega⟩
 have q2 : ((ra : Int) = (rn : Int)) = (ra = rn) := propext ⟨fun h => by omega,fun h => by omega⟩
 (refine Sg.h ?_;try repeat' ((first | (with_reducible first|refine brA ?_|refine brE fun _=>?_|refine spl ⟨?_,?_⟩<;>intro _) | refine clo h1 ?_ | refine clo h2 ?_ | refine clo h3 ?_) <;> ((try simp -implicitDefEqProofs [hk,hg,q1,q2]); (try simp -implicitDefEqProofs(disch:=first|assumption|(try simp only[lens]);omega -splitDisjunctions) [hk,hg,q1,q2]))))
 all_goals simp_all
end Go.Proofs.Ytbdionmmfigfiaa
