import Derived.Test.YtbimioonhfhflaaDFbA
import Derived.Test.YtbimioonhfhflaaDPvMov
import Derived.Test.YtbimioonhfhflaaDPvQg
import Derived.Test.YtbimioonhfhflaaDTy
import Derived.Ground.NamesProg
import Derived.Shelf.Slices.In.CompactS
import Derived.Shelf.Slices.In.SortAlone
import Derived.Shelf.Slices.In.SortNone
import Derived.Sort.EveryDepth
import Derived.Sort.Grow
import Derived.Lib.RowBridge
set_option linter.unusedVariables false
set_option linter.unusedSimpArgs false
set_option maxRecDepth 100000
set_option maxHeartbeats 4000000
namespace Go.Proofs.Ytbimioonhfhflaa
open Go Go.Pv
def x78_L0 : XC:=.seq (.reg [⟨some 9,.binOp .lss 3 (.tmp 8) (.tmp 7) 3,none⟩]) (.seq (.cond (.tmp 9) .skip (.exit 0)) (.seq (.block 1 (.seq (.reg [⟨some 10,.move (.tmp 8),none⟩,⟨some 5,.assign (.tmp 10),none⟩]) (.seq (.reg [⟨some 11,.move (.tmp 1),none⟩,⟨some 12,.move (.tmp 0),none⟩,⟨some 13,.move (.tmp 5),none⟩,⟨some 14,.indexAddr 32 (.tmp 12) (.tmp 13),none⟩,⟨some 15,.load 9 (.tmp 14),none⟩,⟨some 16,.call ⟨.value (.tmp 11),#[.tmp 15],#[9]⟩,none⟩]) (.cond (.tmp 16) (.seq (.reg [⟨some 17,.move (.tmp 5),none⟩,⟨some 4,.assign (.tmp 17),none⟩]) .ret) .skip)))) (.reg [⟨some 18,.binOp .add 3 (.tmp 8) (.const (.int .i64 1)) 3,none⟩,⟨some 8,.move (.tmp 18),none⟩])))
def x78 : XC:=.seq (.reg [⟨some 4,.assign (.const (.int .i64 0)),none⟩]) (.seq (.seq (.reg [⟨some 6,.move (.tmp 0),none⟩,⟨some 7,.call ⟨.builtin .len,#[.tmp 6],#[32]⟩,none⟩,⟨some 8,.move (.const (.int .i64 0)),none⟩]) (.bloop 0 x78_L0)) (.seq (.reg [⟨some 4,.assign (.const (.int .i64 (-1))),none⟩]) .ret))
@[simp] theorem x78_s {C e s K} : type_of% (@X_at C e s K _ _ x78_L0.eq_1) ∧ type_of% (@X_at C e s K _ _ x78.eq_1):=⟨X_at x78_L0.eq_1,X_at x78.eq_1⟩
def an78 : Ann:=⟨[],[(0,[],[0,1,7,8],[4])],[]⟩
@[simp] theorem an78_a : an78.loopOf 0 = ([],[0,1,7,8],[4]):=rfl
theorem fi78 : FI Try.prog 78 (cxA an78) x78 [.tmp 4] Try.f78:=fiA Try.func78 mixed
def indexP {α : Type} (p : α → Bool) (l : List α) : Int:=match l.findIdx? p with
 | some i=>i
 | none=>-1
theorem indexP_at {α : Type} {p : α → Bool} {l : List α} {i : Nat} (h : i < l.length) (hp : p l[i] = true) (hb : ∀ j (hj : j < i), p (l[j]'(by omega)) = false) : indexP p l = i:=by
 unfold indexP
 have : l.findIdx? p = some i:=by
  rw [List.findIdx?_eq_some_iff_getElem]
  exact ⟨h,hp,fun j hj=>by simp [hb j hj]⟩
 rw [this]
theorem indexP_none {α : Type} {p : α → Bool} {l : List α} (hb : ∀ j (hj : j < l.length),p l[j] = false) : indexP p l = -1:=by
 unfold indexP
 have : l.findIdx? p = none:=by
  rw [List.findIdx?_eq_none_iff]
  intro x hx
  obtain ⟨j,hj,rfl⟩:=List.mem_iff_getElem.1 hx
  exact hb j hj
 rw [this]
theorem IndexFunc_strs (l : List ByteArray) (hl : l.length ≤ 1000000) (fid : Nat) [EnT Try.prog fid] (ys : List PV) [hy : FlatL ys] (p : ByteArray → Bool) (h : ∀ a ∈ l,CallOK Try.prog fid (.str a :: ys) [] (.bool (p a)) []) :
  CallOK Try.prog 78 [.list (l.map strRow),.fn (.func fid) [] ys] [] (.int .i64 (indexP p l)) []:=by
 have hcl : ∀ a : ByteArray,∀ v ∈ .str a :: ys,Closed v:=by
  intro a v hv
  rcases List.mem_cons.1 hv with rfl | hv
  ·exact (flat_str _).closed
  ·exact hy.closed v hv
 refine fi78.op ?_
 (refine Sg.h ?_;try repeat' ((with_reducible first|refine brA ?_|refine brE fun _=>?_|refine spl ⟨?_,?_⟩<;>intro _)<;>((try simp -implicitDefEqProofs(disch:=first|assumption|(try simp only[lens]);omega -splitDisjunctions)))))
 refine W_of fun Q hQ=>?_
 have main : ∀ n i,i + n = l.length → (∀ j (hj : j < i) (hl : j < l.length),p l[j] = false) → Q [(0,.list (l.map strRow)),(1,.fn (.func fid) [] ys),(7,.int .i64 (l.length : Int)),(8,.int .i64 (i : Int))] []:=by
  intro n
  induction n with
  | zero=>
   intro i hi hb
   have hv:=indexP_none fun j hj=>hb j (by omega) hj
   generalize indexP p l = v at *
   apply hQ
   subst hv
   (refine Sg.h ?_;try repeat' ((with_reducible first|refine brA ?_|refine brE fun _=>?_|refine spl ⟨?_,?_⟩<;>intro _)<;>((try simp -implicitDefEqProofs(disch:=first|assumption|(try simp only[lens]);omega -splitDisjunctions)))))
  | succ n ih=>
   intro i hi hb
   have hil : i < l.length:=by omega
   have hc:=h _ (List.getElem_mem hil)
   have ih:=ih (i + 1) (by omega)
   have hat:=fun hp=>indexP_at hil hp fun j hj=>hb j hj (by omega)
   generalize indexP p l = v at *
   cases hp : p l[i] with
   | true=>
    have hv:=hat hp
    rw [hp] at hc
    apply hQ
    clear hQ
    subst hv
    (refine Sg.h ?_;try repeat' ((with_reducible first|refine brA ?_|refine brE fun _=>?_|refine spl ⟨?_,?_⟩<;>intro _)<;>((try simp -implicitDefEqProofs(disch:=first|assumption|(try simp only[lens]);omega -splitDisjunctions) [hil]))))
    refine CL.clo hc ?_ (hcl _)
    (refine Sg.h ?_;try repeat' ((with_reducible first|refine brA ?_|refine brE fun _=>?_|refine spl ⟨?_,?_⟩<;>intro _)<;>((try simp -implicitDefEqProofs(disch:=first|assumption|(try simp only[lens]);omega -splitDisjunctions)))))
   | false=>
    have ih:=ih fun j hj hl=>by
     rcases Nat.lt_or_ge j i with hji | hji
     ·exact hb j hji hl
     ·have : j = i := by omega
      subst this;exact hp
    rw [hp] at hc
    apply hQ
    clear hQ
    (refine Sg.h ?_;try repeat' ((with_reducible first|refine brA ?_|refine brE fun _=>?_|refine spl ⟨?_,?_⟩<;>intro _)<;>((try simp -implicitDefEqProofs(disch:=first|assumption|(try simp only[lens]);omega -splitDisjunctions) [hil]))))
    refine CL.clo hc ?_ (hcl _)
    (refine Sg.h ?_;try repeat' ((with_reducible first|refine brA ?_|refine brE fun _=>?_|refine spl ⟨?_,?_⟩<;>intro _)<;>((try simp -implicitDefEqProofs(disch:=first|assumption|(try simp only[lens]);omega -splitDisjunctions)))))
    all_goals first|exact ih|(refine at2 ih ?_ ?_<;>simp;done)|(exfalso;first|omega|(simp_all;done)|(simp_all;omega))
 all_goals first|exact main _ 0 (Nat.zero_add _) (fun j hj=>by omega)|(refine at2 main _ 0 (Nat.zero_add _) (fun j hj=>by omega) ?_ ?_<;>simp;done)|(exfalso;first|omega|(simp_all;done)|(simp_all;omega))
def x62_T1 : XC:=.seq (.reg [⟨some 36,.move (.tmp 0),none⟩,⟨some 37,.move (.tmp 5),none⟩,⟨some 38,.slice 32 (.tmp 36) (some (.tmp 37)) none none,none⟩,⟨none,.call ⟨.builtin .clear,#[.tmp 38],#[32]⟩,none⟩]) (.seq (.reg [⟨some 39,.move (.tmp 0),none⟩,⟨some 40,.move (.tmp 5),none⟩,⟨some 41,.slice 32 (.tmp 39) none (some (.tmp 40)) none,none⟩,⟨some 4,.assign (.tmp 41),none⟩]) .ret)
def x62_L0 : XC:=.seq (.seq (.reg [⟨some 16,.move (.tmp 6),none⟩,⟨some 17,.move (.tmp 0),none⟩,⟨some 18,.call ⟨.builtin .len,#[.tmp 17],#[32]⟩,none⟩,⟨some 19,.binOp .lss 3 (.tmp 16) (.tmp 18) 3,none⟩]) (.cond (.tmp 19) .skip (.exit 0))) (.seq (.block 1 (.seq (.reg [⟨some 22,.move (.tmp 0),none⟩,⟨some 23,.move (.tmp 6),none⟩,⟨some 24,.indexAddr 32 (.tmp 22) (.tmp 23),none⟩,⟨some 25,.load 9 (.tmp 24),none⟩,⟨some 7,.assign (.tmp 25),none⟩]) (.seq (.reg [⟨some 26,.move (.tmp 1),none⟩,⟨some 27,.move (.tmp 7),none⟩,⟨some 28,.call ⟨.value (.tmp 26),#[.tmp 27],#[9]⟩,none⟩,⟨some 29,.unOp .not 4 (.tmp 28),none⟩]) (.cond (.tmp 29) (.seq (.reg [⟨some 30,.move (.tmp 0),none⟩,⟨some 31,.move (.tmp 5),none⟩,⟨some 32,.move (.tmp 7),none⟩,⟨some 33,.indexAddr 32 (.tmp 30) (.tmp 31),none⟩,⟨none,.store 9 (.tmp 33) (.tmp 32),none⟩]) (.reg [⟨some 34,.move (.tmp 5),none⟩,⟨some 35,.binOp .add 3 (.tmp 34) (.const (.int .i64 1)) 3,none⟩,⟨some 5,.assign (.tmp 35),none⟩])) .skip)))) (.reg [⟨some 20,.move (.tmp 6),none⟩,⟨some 21,.binOp .add 3 (.tmp 20) (.const (.int .i64 1)) 3,none⟩,⟨some 6,.assign (.tmp 21),none⟩]))
def x62 : XC:=.seq (.reg [⟨some 4,.assign (.const (.slice none 0 0)),none⟩]) (.seq (.reg [⟨some 8,.move (.tmp 0),none⟩,⟨some 9,.move (.tmp 1),none⟩,⟨some 10,.call ⟨.value (.func 78),#[.tmp 8,.tmp 9],#[32,37]⟩,none⟩,⟨some 5,.assign (.tmp 10),none⟩]) (.seq (.seq (.reg [⟨some 11,.move (.tmp 5),none⟩,⟨some 12,.binOp .eql 3 (.tmp 11) (.const (.int .i64 (-1))) 3,none⟩]) (.cond (.tmp 12) (.seq (.reg [⟨some 13,.move (.tmp 0),none⟩,⟨some 4,.assign (.tmp 13),none⟩]) .ret) .skip)) (.seq (.seq (.reg [⟨some 14,.move (.tmp 5),none⟩,⟨some 15,.binOp .add 3 (.tmp 14) (.const (.int .i64 1)) 3,none⟩,⟨some 6,.assign (.tmp 15),none⟩]) (.bloop 0 x62_L0)) (x62_T1))))
@[simp] theorem x62_s {C e s K} : type_of% (@X_at C e s K _ _ x62_T1.eq_1) ∧ type_of% (@X_at C e s K _ _ x62_L0.eq_1) ∧ type_of% (@X_at C e s K _ _ x62.eq_1):=⟨X_at x62_T1.eq_1,X_at x62_L0.eq_1,X_at x62.eq_1⟩
def an62 : Ann:=⟨[],[(0,[],[0,1,5,6],[0,5])],[]⟩
@[simp] theorem an62_a : an62.loopOf 0 = ([],[0,1,5,6],[0,5]):=rfl
theorem fi62 : FI Try.prog 62 (cxA an62) x62 [.tmp 4] Try.f62:=fiA Try.func62 mixed
theorem DeleteFunc_strs (l rest : List ByteArray) (h2 : l.length ≤ 1000000) (fid : Nat) [EnT Try.prog fid] (ys : List PV) [hy : FlatL ys] (p : ByteArray → Bool) (h : ∀ a ∈ l,CallOK Try.prog fid (.str a :: ys) [] (.bool (p a)) []) :
  CallOK Try.prog 62 [.sl 0 0 l.length,.fn (.func fid) [] ys] [.rows 1 ((l ++ rest).map strRow)] (.sl 0 0 (l.filter fun a=>!p a).length) [.rows 1 (((l.filter fun a=>!p a) ++ List.replicate (l.length - (l.filter fun a=>!p a).length) (⟨#[]⟩ : ByteArray) ++ rest).map strRow)]:=by
 have hi:=IndexFunc_strs l h2 fid ys p h
 have hcl : ∀ a : ByteArray,∀ v ∈ .str a :: ys,Closed v:=by
  intro a v hv
  rcases List.mem_cons.1 hv with rfl | hv
  ·exact (flat_str _).closed
  ·exact hy.closed v hv
 refine fi62.og ?_
 (refine Sg.h ?_;try repeat' ((with_reducible first|refine brA ?_|refine brE fun _=>?_|refine spl ⟨?_,?_⟩<;>intro _)<;>((try simp -implicitDefEqProofs(disch:=first|assumption|(try simp only[lens]);omega -splitDisjunctions)))))
 refine CL.look (v:=.int .i64 (indexP p l)) 6 (by simpa using hi) (flat_int _ _) ?_
 cases hf : l.findIdx? p with
 | none=>
  have hv : indexP p l = -1:=by unfold indexP;rw [hf]
  have hfil : l.filter (fun a=>!p a) = l:=by
   rw [List.filter_eq_self]
   intro a ha
   rw [List.findIdx?_eq_none_iff] at hf
   simp [hf a ha]
  rw [hv,hfil]
  (refine Sg.h ?_;try repeat' ((with_reducible first|refine brA ?_|refine brE fun _=>?_|refine spl ⟨?_,?_⟩<;>intro _)<;>((try simp -implicitDefEqProofs(disch:=first|assumption|(try simp only[lens]);omega -splitDisjunctions)))))
 | some i0=>
  have hv : indexP p l = i0:=by unfold indexP;rw [hf]
  rw [List.findIdx?_eq_some_iff_getElem] at hf
  obtain ⟨h3,h4,h5⟩:=hf
  rw [hv]
  (refine Sg.h ?_;try repeat' ((with_reducible first|refine brA ?_|refine brE fun _=>?_|refine spl ⟨?_,?_⟩<;>intro _)<;>((try simp -implicitDefEqProofs(disch:=first|assumption|(try simp only[lens]);omega -splitDisjunctions)))))
  refine W_of fun Q hQ=>?_
  have main : ∀ n j (mid : List ByteArray),j + n = l.length → mid.length + ((l.take j).filter fun a => !p a).length = j → 0 < mid.length →
    Q [(0,.sl 0 0 l.length),(1,.fn (.func fid) [] ys),(5,.int .i64 (((l.take j).filter fun a=>!p a).length : Int)),(6,.int .i64 (j : Int))] [.rows 1 (((l.take j).filter fun a=>!p a).map strRow ++ (mid.map strRow ++ ((l.drop j).map strRow ++ rest.map strRow)))]:=by
   intro n
   induction n with
   | zero=>
    intro j mid hj hm h0
    rw [List.take_of_length_le (show l.length ≤ j by omega)] at hm ⊢
    rw [List.drop_of_length_le (show l.length ≤ j by omega)]
    generalize (l.filter fun a=>!p a) = F at *
    apply hQ
    clear hQ hi h hcl
    (refine Sg.h ?_;try repeat' ((with_reducible first|refine brA ?_|refine brE fun _=>?_|refine spl ⟨?_,?_⟩<;>intro _)<;>((try simp -implicitDefEqProofs(disch:=first|assumption|(try simp only[lens]);omega -splitDisjunctions)))))
    have e1 : F.length + mid.length = l.length:=by omega
    have e2 : ∀ X : List (List PV),List.take F.length (F.map strRow ++ X) = F.map strRow:=fun X=>List.take_left' (by simp)
    have e3 : List.drop l.length (F.map strRow ++ (mid.map strRow ++ rest.map strRow)) = rest.map strRow:=by
     rw [← List.append_assoc]
     exact List.drop_left' (by simp;omega)
    rw [e2,e3]
   | succ n ih=>
    intro j mid hj hm h0
    have hc:=h _ (List.getElem_mem (show j < l.length by omega))
    have hjl : j < l.length:=by omega
    have hdr : l.drop j = l[j] :: l.drop (j + 1):=List.drop_eq_getElem_cons hjl
    have htk:=take_snocD hjl
    have ih:=ih (j + 1)
    rw [htk] at ih
    simp only [List.filter_append,List.filter_cons,List.filter_nil] at ih
    generalize hF : (l.take j).filter (fun a=>!p a) = F at *
    rw [hdr]
    have hjm : j - F.length = mid.length:=by omega
    obtain ⟨m,mid',rfl⟩ : ∃ m mid',mid = m :: mid':=by
     cases mid with
     | nil=>cases h0
     | cons m r=>exact ⟨m,r,rfl⟩
    have hlm : mid'.length + 1 + F.length = j:=by simpa using hm
    cases hp : p l[j] with
    | true=>
     rw [hp] at ih hc
     simp only [Bool.not_true,Bool.false_eq_true,if_false,List.append_nil] at ih
     have ih:=ih (m :: (mid' ++ [l[j]])) (by omega) (by simp;omega) (by simp)
     generalize l[j] = x at *
     generalize l.drop (j + 1) = R at *
     apply hQ
     clear hQ hi h htk hdr hF hm h5 h4 hp
     (refine Sg.h ?_;try repeat' ((with_reducible first|refine brA ?_|refine brE fun _=>?_|refine spl ⟨?_,?_⟩<;>intro _)<;>((try simp -implicitDefEqProofs(disch:=first|assumption|(try simp only[lens]);omega -splitDisjunctions) [hjm,hjl]))))
     refine CL.clo hc ?_ (hcl _)
     (refine Sg.h ?_;try repeat' ((with_reducible first|refine brA ?_|refine brE fun _=>?_|refine spl ⟨?_,?_⟩<;>intro _)<;>((try simp -implicitDefEqProofs(disch:=first|assumption|(try simp only[lens]);omega -splitDisjunctions) [hjm]))))
     all_goals first|exact ih|(refine at2 ih ?_ ?_<;>simp;done)|(exfalso;first|omega|(simp_all;done)|(simp_all;omega))
    | false=>
     rw [hp] at ih hc
     simp only [Bool.not_false,if_true] at ih
     have ih:=ih (mid' ++ [l[j]]) (by omega) (by simp;omega) (by simp)
     generalize l[j] = x at *
     generalize l.drop (j + 1) = R at *
     apply hQ
     clear hQ hi h htk hdr hF hm h5 h4 hp
     (refine Sg.h ?_;try repeat' ((with_reducible first|refine brA ?_|refine brE fun _=>?_|refine spl ⟨?_,?_⟩<;>intro _)<;>((try simp -implicitDefEqProofs(disch:=first|assumption|(try simp only[lens]);omega -splitDisjunctions) [hjm,hjl]))))
     refine CL.clo hc ?_ (hcl _)
     (refine Sg.h ?_;try repeat' ((with_reducible first|refine brA ?_|refine brE fun _=>?_|refine spl ⟨?_,?_⟩<;>intro _)<;>((try simp -implicitDefEqProofs(disch:=first|assumption|(try simp only[lens]);omega -splitDisjunctions) [hjm]))))
     all_goals first|exact ih|(refine at2 ih ?_ ?_<;>simp;done)|(exfalso;first|omega|(simp_all;done)|(simp_all;omega))
  have hfi : (l.take i0).filter (fun a=>!p a) = l.take i0:=by
   rw [List.filter_eq_self]
   intro a ha
   obtain ⟨k,hk,rfl⟩:=List.mem_iff_getElem.1 ha
   have:=h5 k (by simp at hk;omega)
   simp at this ⊢;exact this
  have hfj : (l.take (i0 + 1)).filter (fun a=>!p a) = l.take i0:=by
   rw [take_snocD h3,List.filter_append,hfi];simp [h4]
  have m0:=main (l.length - (i0 + 1)) (i0 + 1) [l[i0]] (by omega) (by rw [hfj];simp;omega) (by simp)
  rw [hfj] at m0
  refine at2 m0 ?_ ?_
  ·simp;omega
  ·have : l = l.take i0 ++ ([l[i0]] ++ l.drop (i0 + 1)) := by
    rw [List.singleton_append,← List.drop_eq_getElem_cons h3,List.take_append_drop]
   have e2:=congrArg (List.map strRow) this
   simp only [List.map_append,List.map_cons,List.map_nil,List.map_take,List.map_drop,List.append_assoc] at e2 ⊢
   conv=>rhs;rw [e2]
   simp only [List.append_assoc]
theorem DeleteFunc_less (l : List ByteArray) (h2 : l.length ≤ 1000000) (fid : Nat) [EnT Try.prog fid] (ys : List PV) [hy : FlatL ys] (p : ByteArray → Bool) (h : ∀ a ∈ l,CallOK Try.prog fid (.str a :: ys) [] (.bool (p a)) []) :
  CallOK Try.prog 62 [.sl 0 0 l.length,.fn (.func fid) [] ys] [.rows 1 (l.map strRow)] (.sl 0 0 (l.filter fun a=>!p a).length) [.rows 1 ((l.filter fun a=>!p a).map strRow)]:=by
 have hd:=DeleteFunc_strs l [] h2 fid ys p h
 rw [List.append_nil,List.append_nil,List.map_append] at hd
 refine hd.moved [0] (fun i hi=>?_) rfl (fun i j k hi hj _ _=>?_) (fun i o' ho=>?_) ?_
 ·have : i = 0 := by simpa using hi
  subst this;rfl
 ·have := lt_of_getElem? hi; have := lt_of_getElem? hj
  simp at *;omega
 ·have hi := lt_of_getElem? ho
  have : i = 0:=by simpa using hi
  subst this
  cases ho
  exact ⟨0,_,rfl,rfl,RenObj.less _ _⟩
 ·exact .sl rfl
end Go.Proofs.Ytbimioonhfhflaa
namespace Go.Pv
open Go
def liveK (ρ : List Nat) (s : Store) (k : Nat) (o : PObj) : List Nat → Store
 | []=>[]
 | i :: r=>(if i = k then o else renObj ρ ((s[i]?).getD .dead)) :: liveK ρ s k o r
@[simp] theorem liveK_nil {ρ : List Nat} {s : Store} {k : Nat} {o : PObj} : liveK ρ s k o [] = []:=rfl
@[simp] theorem liveK_cons {ρ r : List Nat} {s : Store} {k i : Nat} {o : PObj} : liveK ρ s k o (i :: r) = (if i = k then o else renObj ρ ((s[i]?).getD .dead)) :: liveK ρ s k o r:=rfl
section
variable {C : WC} {e : AE} {s S : Store} {q : AE → Store → Prop} {t c z k zk b : Nat} {L ids lens ρ0 : List Nat} {xss : List (List (List PV))}
end
attribute [simp] List.set_append_left List.set_append_right
end Go.Pv
namespace Go.Proofs
open Go.Shelf
def Try.laysSort_ren : Go.Shelf.Ren:=⟨fun | 190=>64 | 125=>80 | 258=>79 | 128=>96 | 129=>97 | 302=>87 | 303=>88 | 304=>89 | 305=>90 | 306=>91 | 307=>92 | 308=>93 | 309=>94 | 310=>95 | 333=>101 | 329=>102 | 330=>103 | 334=>104 | 335=>105 | 336=>106 | 344=>112 | n=>n,fun | 31=>32 | 9=>9 | 3=>3 | 46=>126 | 0=>0 | 51=>140 | 53=>142 | 4=>4 | 183=>133 | 182=>132 | 131=>97 | 5=>5 | 218=>144 | 222=>148 | 228=>159 | 229=>111 | n=>n,fun | n=>n⟩
theorem Try.laysSort : Go.Proofs.Lays.n190 Try.prog Try.laysSort_ren:={
 mixed:=by kernel_rfl,
 f125:=Try.func80.trans (congrArg some (by kernel_rfl)),
 f128:=Try.func96.trans (congrArg some (by kernel_rfl)),
 f129:=Try.func97.trans (congrArg some (by kernel_rfl)),
 f190:=Try.func64.trans (congrArg some (by kernel_rfl)),
 f258:=Try.func79.trans (congrArg some (by kernel_rfl)),
 f302:=Try.func87.trans (congrArg some (by kernel_rfl)),
 f303:=Try.func88.trans (congrArg some (by kernel_rfl)),
 f304:=Try.func89.trans (congrArg some (by kernel_rfl)),
 f305:=Try.func90.trans (congrArg some (by kernel_rfl)),
 f306:=Try.func91.trans (congrArg some (by kernel_rfl)),
 f307:=Try.func92.trans (congrArg some (by kernel_rfl)),
 f308:=Try.func93.trans (congrArg some (by kernel_rfl)),
 f309:=Try.func94.trans (congrArg some (by kernel_rfl)),
 f310:=Try.func95.trans (congrArg some (by kernel_rfl)),
 f329:=Try.func102.trans (congrArg some (by kernel_rfl)),
 f330:=Try.func103.trans (congrArg some (by kernel_rfl)),
 f333:=Try.func101.trans (congrArg some (by kernel_rfl)),
 f334:=Try.func104.trans (congrArg some (by kernel_rfl)),
 f335:=Try.func105.trans (congrArg some (by kernel_rfl)),
 f336:=Try.func106.trans (congrArg some (by kernel_rfl)),
 f344:=Try.func112.trans (congrArg some (by kernel_rfl)),
 t0:=Try.underlying0,
 a0:=Try.isAgg0,
 z0:=Try.sizeOf0,
 v0:=Try.zeroValue0,
 t3:=Try.underlying3,
 a3:=Try.isAgg3,
 z3:=Try.sizeOf3,
 v3:=Try.zeroValue3,
 t4:=Try.underlying4,
 a4:=Try.isAgg4,
 z4:=Try.sizeOf4,
 v4:=Try.zeroValue4,
 t5:=Try.underlying5,
 a5:=Try.isAgg5,
 z5:=Try.sizeOf5,
 v5:=Try.zeroValue5,
 t9:=Try.underlying9,
 a9:=Try.isAgg9,
 z9:=Try.sizeOf9,
 v9:=Try.zeroValue9,
 t31:=Try.underlying32,
 a31:=Try.isAgg32,
 z31:=Try.sizeOf32,
 v31:=Try.zeroValue32,
 t46:=Try.underlying126,
 a46:=Try.isAgg126,
 z46:=Try.sizeOf126,
 v46:=Try.zeroValue126,
 t51:=Try.underlying140,
 a51:=Try.isAgg140,
 z51:=Try.sizeOf140,
 v51:=Try.zeroValue140,
 t53:=Try.underlying142,
 a53:=Try.isAgg142,
 z53:=Try.sizeOf142,
 v53:=Try.zeroValue142,
 t131:=Try.underlying97,
 a131:=Try.isAgg97,
 z131:=Try.sizeOf97,
 v131:=Try.zeroValue97,
 t182:=Try.underlying132,
 a182:=Try.isAgg132,
 z182:=Try.sizeOf132,
 v182:=Try.zeroValue132,
 t183:=Try.underlying133,
 a183:=Try.isAgg133,
 z183:=Try.sizeOf133,
 v183:=Try.zeroValue133,
 t218:=Try.underlying144,
 a218:=Try.isAgg144,
 z218:=Try.sizeOf144,
 v218:=Try.zeroValue144,
 t222:=Try.underlying148,
 a222:=Try.isAgg148,
 z222:=Try.sizeOf148,
 v222:=Try.zeroValue148,
 t228:=Try.underlying159,
 a228:=Try.isAgg159,
 z228:=Try.sizeOf159,
 v228:=Try.zeroValue159,
 t229:=Try.underlying111,
 a229:=Try.isAgg111,
 z229:=Try.sizeOf111,
 v229:=Try.zeroValue111 }
def Try.laysCompact_ren : Go.Shelf.Ren:=⟨fun | 194=>65 | n=>n,fun | 31=>32 | 9=>9 | 3=>3 | 4=>4 | 0=>0 | n=>n,fun | n=>n⟩
theorem Try.laysCompact : Go.Proofs.Lays.n194 Try.prog Try.laysCompact_ren:={
 mixed:=by kernel_rfl,
 f194:=Try.func65.trans (congrArg some (by kernel_rfl)),
 t0:=Try.underlying0,
 a0:=Try.isAgg0,
 z0:=Try.sizeOf0,
 v0:=Try.zeroValue0,
 t3:=Try.underlying3,
 a3:=Try.isAgg3,
 z3:=Try.sizeOf3,
 v3:=Try.zeroValue3,
 t4:=Try.underlying4,
 a4:=Try.isAgg4,
 z4:=Try.sizeOf4,
 v4:=Try.zeroValue4,
 t9:=Try.underlying9,
 a9:=Try.isAgg9,
 z9:=Try.sizeOf9,
 v9:=Try.zeroValue9,
 t31:=Try.underlying32,
 a31:=Try.isAgg32,
 z31:=Try.sizeOf32,
 v31:=Try.zeroValue32 }
end Go.Proofs
namespace Go.Pv
open Go Go.Sort Go.Proofs
set_option linter.unusedVariables false
set_option linter.unusedSimpArgs false
def ofL (x : List UInt8) : ByteArray:=⟨x.toArray⟩
def toL (b : ByteArray) : List UInt8:=b.data.toList
@[simp] theorem ofL_toL (b : ByteArray) : ofL (toL b) = b:=by cases b;simp [ofL,toL]
@[simp] theorem toL_ofL (x : List UInt8) : toL (ofL x) = x:=by simp [ofL,toL]
def sortL (l : List ByteArray) : List ByteArray:=((l.map toL).mergeSort fun x y=>decide (x ≤ y)).map ofL
def compL (l : List ByteArray) : List ByteArray:=(Lib.compact (l.map toL)).map ofL
theorem sortL_length (l : List ByteArray) : (sortL l).length = l.length:=by simp [sortL,List.length_mergeSort]
theorem sortL_toL (l : List ByteArray) : (sortL l).map toL = (l.map toL).mergeSort fun x y=>decide (x ≤ y):=by
 unfold sortL;rw [List.map_map];exact (List.map_congr_left fun x _=>toL_ofL x).trans (List.map_id _)
theorem compL_toL (l : List ByteArray) : (compL l).map toL = Lib.compact (l.map toL):=by
 unfold compL;rw [List.map_map];exact (List.map_congr_left fun x _=>toL_ofL x).trans (List.map_id _)
theorem compL_length (l : List ByteArray) : (compL l).length ≤ l.length:=by
 have:=Lib.compact_length_le (l.map toL)
 simpa [compL] using this
theorem mem_of_compact {zs : List (List UInt8)} {x : List UInt8} (h : x ∈ Lib.compact zs) : x ∈ zs:=by
 unfold Lib.compact Lib.compactUpTo at h
 obtain ⟨j,hj,rfl⟩:=List.mem_map.1 h
 rw [List.mem_filter,List.mem_range] at hj
 rw [getElem!_pos _ _ (by simpa using hj.1)];simp
section
variable {C : Ctx} {p : PHeap} {σ : Sig} {s : Store} {w : World}
theorem SR.grown (h : SR C p σ s w) (os : Array Obj) : SR C p σ s (Go.Sort.grow w os):=by
 have hold : ∀ b,b < w.heap.size → (w.heap ++ os)[b]? = w.heap[b]?:=fun b hb=>Array.getElem?_append_left hb
 exact {
  pubIn:=fun b o hb=>by
   have:=h.pubIn b o hb
   show (w.heap ++ os)[b]? = _
   rw [hold b (by
    rcases Nat.lt_or_ge b w.heap.size with h1 | h1
    ·exact h1
    ·rw [Array.getElem?_eq_none h1] at this;cases this)]
   exact this
  obj:=fun i o hi=>(h.obj i o hi).mono PHeap.le.rfl' Sig.le.rfl' (fun l h1 h2 h3=>⟨by
   show (w.heap ++ os)[l.b]? = _
   refine hold _ ?_
   exact (ObjOK.alive h.obj ⟨_,hi,h1,h2,h3⟩).2,rfl⟩)
  inj:=h.inj
  sig:=h.sig
  os:=h.os
  tape:=h.tape
  output:=h.output
  size:=by show _ ≤ (w.heap ++ os).size;rw [Array.size_append];have:=h.size;omega
  frame:=fun b hb hd=>by
   show (w.heap ++ os)[b]? = _ ∧ _
   rw [hold b (Nat.lt_of_lt_of_le hb h.size)]
   exact h.frame b hb hd
  own:=h.own
  ple:=h.ple
  sle:=h.sle }
theorem putRow_eq {b o : Nat} {ca : Array Value} {ty : TypeId} (hb : w.heap[b]? = some (.cells ca ty (0,0))) (zs : List ByteArray) (hsz : o + zs.length ≤ ca.size) :
  putRow encStr w b o (zs.map toL).toArray = { w with heap:=w.heap.setIfInBounds b (.cells (spliceA ca o (zs.map Value.string)) ty (0,0)) }:=by
 unfold putRow mapBlock
 congr 1
 apply Array.ext_getElem?
 intro i
 rw [Array.getElem?_modify,Array.getElem?_setIfInBounds]
 by_cases hi : b = i
 ·subst hi
  rw [if_pos rfl,if_pos rfl,hb]
  have hlt : b < w.heap.size:=by
   rcases Nat.lt_or_ge b w.heap.size with h1 | h1
   ·exact h1
   ·rw [Array.getElem?_eq_none h1] at hb;cases hb
  rw [if_pos hlt]
  simp only [Option.map_some,onCells]
  congr 2
  apply Array.ext_getElem?
  intro j
  rw [spliceA_get _ _ _ _ (by simpa using hsz)]
  simp only [putCells,Array.getElem?_mapIdx,List.size_toArray,List.length_map]
  by_cases hj : o ≤ j ∧ j < o + zs.length
  ·rw [if_pos hj]
   have hjc : j < ca.size:=by omega
   rw [Array.getElem?_eq_getElem hjc]
   simp only [Option.map_some,if_pos hj]
   have hjz : j - o < zs.length:=by omega
   rw [List.getElem?_map,List.getElem?_eq_getElem hjz]
   simp only [Option.map_some,Option.some.injEq]
   rw [getElem!_pos _ _ (by simpa using hjz)]
   simp only [List.getElem_toArray,List.getElem_map]
   show Value.string ⟨(toL _).toArray⟩ = _
   rw [show (⟨(toL zs[j - o]).toArray⟩ : ByteArray) = ofL (toL zs[j - o]) from rfl,ofL_toL]
  ·rw [if_neg hj]
   cases hc : ca[j]? with
   | none=>rfl
   | some v=>simp only [Option.map_some,if_neg hj]
 ·rw [if_neg hi,if_neg hi]
theorem SR.putStrs (h : SR C p σ s w) {i : Nat} {loc : Loc} {l l2 : List ByteArray} (hi : s[i]? = some (.rows 1 (l.map strRow))) (hσ : σ i = some loc) (hn : 0 < l.length) (hl : l2.length = l.length) (hok : ∀ b ∈ l2,b.size ≤ maxLen) :
  SR C p σ (s.set i (.rows 1 (l2.map strRow))) (putRow encStr w loc.b loc.o (l2.map toL).toArray):=by
 obtain ⟨hn',hle,ca,ty,hb,hsz,hR⟩:=h.rows hi hσ (by intro e;simp at e;subst e;simp at hn)
 obtain ⟨l',hl1,hl2,_⟩:=h.obj i _ hi
 rw [hσ] at hl1;cases hl1
 rw [List.length_map] at hle
 rw [hl2] at hsz hR
 rw [putRow_eq hb l2 (by omega)]
 have:=h.putRows (off:=0) (ys:=l2.map strRow) (vs:=l2.map Value.string) hi hσ hn' hb (by rw [hl2];exact hsz) (by simp [hl]) (by rw [hl2];exact hR) (by simp [hl2]) (by
  rw [hl2]
  refine ⟨fun r row hr=>?_,fun r row j v c hr hj hc=>?_⟩
  ·rw [List.getElem?_map,Option.map_eq_some_iff] at hr
   obtain ⟨b,_,rfl⟩:=hr;rfl
  ·rw [List.getElem?_map,Option.map_eq_some_iff] at hr
   obtain ⟨b,hb2,rfl⟩:=hr
   obtain rfl : j = 0:=by have:=lt_of_getElem? hj;simp [strRow] at this;omega
   simp only [strRow,List.getElem?_cons_zero,Option.some.injEq] at hj
   subst hj
   rw [Nat.zero_add,Nat.mul_one,Nat.add_zero,List.getElem?_toArray,List.getElem?_map,hb2] at hc
   simp only [Option.map_some,Option.some.injEq] at hc
   subst hc
   exact .str (hok b (List.mem_of_getElem? hb2)))
 rw [Nat.zero_mul,Nat.add_zero] at this
 have e : Pv.putRows (l.map strRow) (l2.map strRow) 0 = l2.map strRow:=by
  simp [Pv.putRows,hl]
 rw [e] at this
 exact this
theorem holds_strs (h : Base p σ s w) {i : Nat} {loc : Loc} {l : List ByteArray} (hi : s[i]? = some (.rows 1 (l.map strRow))) (hσ : σ i = some loc) (hn : 0 < l.length) :
  Holds encStr w loc.b loc.o (l.map toL).toArray ∧ loc.b < w.heap.size ∧ ∀ b ∈ l,b.size ≤ maxLen:=by
 have h:=SR.start h
 obtain ⟨hn',hle,ca,ty,hb,hsz,hR⟩:=h.rows hi hσ (by intro e;simp at e;subst e;simp at hn)
 obtain ⟨l',hl1,hl2,_⟩:=h.obj i _ hi
 rw [hσ] at hl1;cases hl1
 rw [List.length_map] at hle
 rw [hl2] at hsz hR
 have hlt : loc.b < w.heap.size:=by
  rcases Nat.lt_or_ge loc.b w.heap.size with h1 | h1
  ·exact h1
  ·rw [Array.getElem?_eq_none h1] at hb;cases hb
 have hcell : ∀ (j : Nat) (hj : j < l.length),ca[loc.o + j]? = some (.string l[j]) ∧ l[j].size ≤ maxLen:=by
  intro j hj
  have hjc : loc.o + j < ca.size:=by omega
  have:=hR.rel j (strRow l[j]) 0 (.str l[j]) ca[loc.o + j] (by rw [List.getElem?_map,List.getElem?_eq_getElem hj];rfl) rfl (by rw [Nat.mul_one,Nat.add_zero];exact Array.getElem?_eq_getElem hjc)
  rw [Array.getElem?_eq_getElem hjc]
  generalize ca[loc.o + j] = c at this
  cases this with
  | str h=>exact ⟨rfl,h⟩
 refine ⟨fun j hj=>?_,hlt,fun b hb=>?_⟩
 ·simp only [List.size_toArray,List.length_map] at hj
  obtain ⟨h1,_⟩:=hcell j hj
  refine ⟨?_,?_⟩
  ·unfold World.cell?
   rw [hb]
   simp only [Option.isSome_none,Bool.false_eq_true,if_false]
   rw [h1,getElem!_pos _ _ (by simpa using hj)]
   simp only [List.getElem_toArray,List.getElem_map]
   show _ = some (Value.string (ofL (toL l[j])))
   rw [ofL_toL]
  ·unfold World.frozen?
   rw [hb]
   simp
 ·obtain ⟨j,hj,rfl⟩ := List.getElem_of_mem hb
  exact (hcell j hj).2
end
theorem set_same {s : Store} {i : Nat} {o : PObj} (h : s[i]? = some o) : s.set i o = s:=by
 apply List.ext_getElem?
 intro j
 rw [List.getElem?_set]
 split
 ·subst_vars
  rw [if_pos (lt_of_getElem? h),h]
 ·rfl
theorem sort_strs (s : Store) (i : Nat) (l : List ByteArray) (hi : s[i]? = some (.rows 1 (l.map strRow))) (hl : l.length < 4611686018427387904) :
  CallOK Go.Proofs.Try.prog 64 [.sl i 0 l.length] s (.tuple []) (s.set i (.rows 1 ((sortL l).map strRow))):=by
 intro pub σ w cargs hb ha
 obtain ⟨c,rfl⟩ : ∃ c,cargs = #[c]:=by
  have:=ha.1
  match cargs,this with
  | ⟨[c]⟩,_=>exact ⟨c,rfl⟩
 have hr:=ha.2 0 _ _ rfl rfl
 cases hr with
 | sl hσ hlen hcap ha2=>
  rename_i loc ad cap
  by_cases h0 : l.length = 0
  ·have hle : l = [] := List.length_eq_zero_iff.1 h0
   subst hle
   refine Calls.mono (calls_of_every_depth fun D=>AnyS.slices_Sort_string_none_alone Go.Proofs.Try.laysSort D ad cap w) ?_
   rintro e w' ⟨rfl,rfl⟩
   refine ⟨_,pub,σ,rfl,?_,.tuple rfl fun j v c h=>by simp at h⟩
   rw [show (sortL []).map strRow = [] from by simp [sortL],set_same (by simpa using hi)]
   exact SR.start hb
  ·obtain ⟨rfl,hn⟩ := ha2 (by omega)
   obtain ⟨hH,hlt,hmx⟩:=holds_strs hb hi hσ (by omega)
   rw [Nat.zero_mul,Nat.add_zero]
   have hc:=calls_of_every_depth fun D=>AnyS.slices_Sort_string_alone Go.Proofs.Try.laysSort D loc.b loc.o cap (l.map toL) w hH hlt (by simpa using hl)
   rw [List.length_map] at hc
   refine Calls.mono hc ?_
   rintro e w' ⟨rfl,n,os,rfl⟩
   refine ⟨_,pub,σ,rfl,?_,.tuple rfl fun j v c h=>by simp at h⟩
   rw [← sortL_toL]
   refine SR.grown ?_ os
   refine SR.putStrs (l:=l) (l2:=sortL l) ((SR.start hb).drawn (w':=Go.Sort.ahead w n) rfl rfl rfl rfl) hi hσ (by omega) (sortL_length l) fun b hbm=>?_
   unfold sortL at hbm
   obtain ⟨x,hx,rfl⟩:=List.mem_map.1 hbm
   rw [List.mem_mergeSort] at hx
   obtain ⟨b,hb2,rfl⟩:=List.mem_map.1 hx
   rw [ofL_toL]
   exact hmx b hb2
theorem compact_strs (s : Store) (i : Nat) (l : List ByteArray) (hi : s[i]? = some (.rows 1 (l.map strRow))) (hl : l.length < 4611686018427387904) :
  CallOK Go.Proofs.Try.prog 65 [.sl i 0 l.length] s (.sl i 0 (compL l).length) (s.set i (.rows 1 ((compL l ++ List.replicate (l.length - (compL l).length) (⟨#[]⟩ : ByteArray)).map strRow))):=by
 intro pub σ w cargs hb ha
 obtain ⟨c,rfl⟩ : ∃ c,cargs = #[c]:=by
  have:=ha.1
  match cargs,this with
  | ⟨[c]⟩,_=>exact ⟨c,rfl⟩
 have hr:=ha.2 0 _ _ rfl rfl
 cases hr with
 | sl hσ hlen hcap ha2=>
  rename_i loc ad cap
  by_cases h0 : l.length = 0
  ·have hle : l = [] := List.length_eq_zero_iff.1 h0
   subst hle
   refine Calls.mono (calls_of_every_depth fun D=>AnyS.slices_Compact_string_empty_in Go.Proofs.Try.laysCompact D ad cap w) ?_
   rintro e w' ⟨rfl,rfl⟩
   have hce : compL [] = []:=List.length_eq_zero_iff.1 (Nat.le_zero.1 (compL_length []))
   refine ⟨_,pub,σ,rfl,?_,?_⟩
   ·rw [hce]
    simp only [List.length_nil,Nat.sub_self,List.replicate_zero,List.append_nil,List.map_nil]
    rw [set_same (by simpa using hi)]
    exact SR.start hb
   ·rw [hce];exact .sl hσ hlen hcap ha2
  ·obtain ⟨rfl,hn⟩ := ha2 (by omega)
   obtain ⟨hH,hlt,hmx⟩:=holds_strs hb hi hσ (by omega)
   rw [Nat.zero_mul,Nat.add_zero]
   have hc:=calls_of_every_depth fun D=>AnyS.slices_Compact_string_in Go.Proofs.Try.laysCompact D loc.b loc.o cap (l.map toL) w hH (by simp;omega) (by simpa using hlen)
   rw [List.length_map] at hc
   refine Calls.mono hc ?_
   rintro e w' ⟨rfl,n,rfl⟩
   have hcl : (Lib.compact (l.map toL)).length = (compL l).length:=by simp [compL]
   rw [hcl]
   refine ⟨_,pub,σ,rfl,?_,?_⟩
   ·have he : Lib.compact (l.map toL) ++ List.replicate (l.length - (compL l).length) [] = (compL l ++ List.replicate (l.length - (compL l).length) (⟨#[]⟩ : ByteArray)).map toL := by
     rw [List.map_append,compL_toL];simp [toL]
    rw [he]
    have hcle:=compL_length l
    refine SR.putStrs ((SR.start hb).drawn (w':=Go.Sort.ahead w n) rfl rfl rfl rfl) hi hσ (by omega) (by simp;omega) fun b hbm=>?_
    rcases List.mem_append.1 hbm with hbm | hbm
    ·unfold compL at hbm
     obtain ⟨x,hx,rfl⟩:=List.mem_map.1 hbm
     have hx2:=mem_of_compact hx
     obtain ⟨b,hb2,rfl⟩:=List.mem_map.1 hx2
     rw [ofL_toL]
     exact hmx b hb2
    ·rw [List.mem_replicate] at hbm
     rw [hbm.2];simp [maxLen]
   ·have hcle := compL_length l
    refine .sl hσ (by omega) hcap fun h=>⟨by rw [Nat.zero_mul,Nat.add_zero],hn⟩
theorem sort_strs' {s : Store} {i n : Nat} (l : List ByteArray) (hi : s[i]? = some (.rows 1 (l.map strRow))) (hn : l.length = n) (hl : n ≤ 1000000) :
  CallOK Go.Proofs.Try.prog 64 [.sl i 0 n] s (.tuple []) (s.set i (.rows 1 ((sortL l).map strRow))):=by
 subst hn;exact sort_strs s i l hi (by omega)
theorem compact_strs' {s : Store} {i n : Nat} (l : List ByteArray) (hi : s[i]? = some (.rows 1 (l.map strRow))) (hn : l.length = n) (hl : n ≤ 1000000) :
  CallOK Go.Proofs.Try.prog 65 [.sl i 0 n] s (.sl i 0 (compL l).length) (s.set i (.rows 1 ((compL l ++ List.replicate (n - (compL l).length) (⟨#[]⟩ : ByteArray)).map strRow))):=by
 subst hn;exact compact_strs s i l hi (by omega)
end Go.Pv
