import Derived.Test.YtbdionmmfigfiaaDNuC
import Derived.Test.YtbdionmmfigfiaaDPvQg
import Derived.Test.YtbdionmmfigfiaaDNtV
set_option linter.unusedVariables false
set_option linter.unusedSimpArgs false
set_option maxRecDepth 100000
set_option maxHeartbeats 4000000
namespace Go.Proofs.Ytbdionmmfigfiaa
open Go Go.Pv
noncomputable def prR (ts : List Lt) : Option (List Bool × List (Nat × Nat)) := srS (corB ts) (atTs ts) ((atTs ts).length + 1) (List.replicate (atTs ts).length false) []
def x15 : XC := .seq (.reg [⟨some 2,.assign (.const (.slice none 0 0)),none⟩,⟨some 3,.assign (.const (.bool false)),none⟩,⟨some 4,.alloc 29,none⟩]) (.seq (.seq (.reg [⟨some 11,.move (.tmp 0),none⟩,⟨some 12,.call ⟨.value (.func 26),#[.tmp 11],#[22]⟩,none⟩,⟨some 5,.alloc 29,none⟩,⟨none,.store 29 (.tmp 5) (.tmp 12),none⟩]) (.seq (.reg [⟨some 13,.fieldAddr 29 (.tmp 5) 0,none⟩,⟨some 14,.load 3 (.tmp 13),none⟩,⟨some 15,.binOp .neq 3 (.tmp 14) (.const (.int .i64 0)) 3,none⟩]) (.cond (.tmp 15) (.seq (.drawn 3 [⟨some 16,.load 29 (.tmp 5),none⟩,⟨some 2,.assign (.const (.slice none 0 0)),none⟩,⟨some 3,.assign (.const (.bool false)),none⟩,⟨none,.store 29 (.tmp 4) (.tmp 16),none⟩]) .ret) .skip))) (.seq (.reg [⟨some 17,.move (.tmp 0),none⟩,⟨some 18,.call ⟨.value (.func 38),#[.tmp 17],#[22]⟩,none⟩,⟨some 6,.alloc 22,none⟩,⟨none,.store 22 (.tmp 6) (.tmp 18),none⟩]) (.seq (.seq (.reg [⟨some 19,.load 22 (.tmp 6),none⟩,⟨some 20,.call ⟨.builtin .len,#[.tmp 19],#[22]⟩,none⟩,⟨some 21,.binOp .gtr 3 (.tmp 20) (.const (.int .i64 12)) 3,none⟩]) (.cond (.tmp 21) (.seq (.reg [⟨some 22,.call ⟨.value (.func 39),#[.const (.int .i64 2),.const (.int .i64 0)],#[3,3]⟩,none⟩,⟨some 2,.assign (.const (.slice none 0 0)),none⟩,⟨some 3,.assign (.const (.bool false)),none⟩,⟨none,.store 29 (.tmp 4) (.tmp 22),none⟩]) .ret) .skip)) (.seq (.reg [⟨some 23,.move (.tmp 0),none⟩,⟨some 24,.call ⟨.value (.func 36),#[.tmp 23],#[22]⟩,none⟩,⟨some 7,.alloc 61,none⟩,⟨none,.store 61 (.tmp 7) (.tmp 24),none⟩]) (.seq (.reg [⟨some 25,.load 22 (.tmp 6),none⟩,⟨some 26,.call ⟨.builtin .len,#[.tmp 25],#[22]⟩,none⟩,⟨some 27,.makeSlice 64 (.tmp 26) (.tmp 26),none⟩,⟨some 8,.alloc 64,none⟩,⟨none,.store 64 (.tmp 8) (.tmp 27),none⟩]) (.seq (.reg [⟨some 9,.alloc 25,none⟩]) (.seq (.reg [⟨some 10,.alloc 26,none⟩]) (.seq (.reg [⟨some 28,.makeFunc (.func 40) #[] #[.tmp 8,.tmp 7,.tmp 9,.tmp 6,.tmp 10],none⟩,⟨none,.store 26 (.tmp 10) (.tmp 28),none⟩]) (.seq (.seq (.reg [⟨some 29,.load 26 (.tmp 10),none⟩,⟨some 30,.call ⟨.value (.tmp 29),#[],#[]⟩,none⟩,⟨some 31,.unOp .not 4 (.tmp 30),none⟩]) (.cond (.tmp 31) (.seq (.reg [⟨some 32,.build 29 #[],none⟩,⟨some 2,.assign (.const (.slice none 0 0)),none⟩,⟨some 3,.assign (.const (.bool false)),none⟩,⟨none,.store 29 (.tmp 4) (.tmp 32),none⟩]) .ret) .skip)) (.seq (.reg [⟨some 33,.load 25 (.tmp 9),none⟩,⟨some 34,.build 29 #[],none⟩,⟨some 2,.assign (.tmp 33),none⟩,⟨some 3,.assign (.const (.bool true)),none⟩,⟨none,.store 29 (.tmp 4) (.tmp 34),none⟩]) .ret))))))))))
@[simp] theorem x15_s {C e s K} : type_of% (@X_at C e s K _ _ x15.eq_1) := X_at x15.eq_1
def an15 : Ann := ⟨[],[],[]⟩
@[simp] theorem an15_a : an15.clsOf 3 = .draw ∧ an15.frzOf 3 = [] := ⟨rfl,rfl⟩
theorem fi15 : FI Try.prog 15 (cxA an15) x15 [.tmp 2,.tmp 3,.cell 4 29] Try.f15 := fiA Try.func15 mixed
theorem Prove_bad (l : List Ln) (h : (lnFault l).1 ≠ 0) : CallOK Try.prog 15 [.list (l.map lnr)] [] (.tuple [.nilsl,.bool false,.agg [.int .i64 (lnFault l).1,.int .i64 (lnFault l).2]]) [] := by
 have hc := Check_net l
 generalize (lnFault l).1 = c at *
 generalize (lnFault l).2 = a at *
 refine fi15.op ?_
 (refine Sg.h ?_;try repeat' ((first | (with_reducible first|refine brA ?_|refine brE fun _=>?_|refine spl ⟨?_,?_⟩<;>intro _) | refine clo hc ?_) <;> ((try simp -implicitDefEqProofs [h]); (try simp -implicitDefEqProofs(disch:=first|assumption|(try simp only[lens]);omega -splitDisjunctions) [h]))))
theorem Prove_many (ts : List Lt) (h1 : ∀ t ∈ ts,LtOk t) (h2 : 1 ≤ ts.length) (h3 : ts.length ≤ 20) (h4 : szTs ts ≤ 200) (hm : 12 < (atTs ts).length) : CallOK Try.prog 15 [.list ((ts.map lnOf).map lnr)] [] (.tuple [.nilsl,.bool false,.agg [.int .i64 2,.int .i64 0]]) [] := by
 have hc := Check_net (ts.map lnOf)
 rw [fine_of h1 h2 h3 h4] at hc
 have hv := leaves_net (ts.map lnOf) (by simp; omega) (by simp; omega)
 rw [lvs_lt ts h4] at hv
 have hf := fault_net 2 0
 have hm' : (12 : Int) < ((atTs ts).length : Int) := by omega
 generalize ts.map lnOf = L at *
 generalize atTs ts = A at *
 refine fi15.op ?_
 (refine Sg.h ?_;try repeat' ((first | (with_reducible first|refine brA ?_|refine brE fun _=>?_|refine spl ⟨?_,?_⟩<;>intro _) | refine clo hc ?_ | refine clo hv ?_ | refine clo hf ?_) <;> ((try simp -implicitDefEqProofs [hm']); (try simp -implicitDefEqProofs(disch:=first|assumption|(try simp only[lens]);omega -splitDisjunctions) [hm']))))
theorem Prove_none (ts : List Lt) (h1 : ∀ t ∈ ts,LtOk t) (h2 : 1 ≤ ts.length) (h3 : ts.length ≤ 20) (h4 : szTs ts ≤ 200) (hm : (atTs ts).length ≤ 12) (hR : prR ts = none) : CallOK Try.prog 15 [.list ((ts.map lnOf).map lnr)] [] (.tuple [.nilsl,.bool false,.agg [.int .i64 0,.int .i64 0]]) [] := by
 have hc := Check_net (ts.map lnOf)
 rw [fine_of h1 h2 h3 h4] at hc
 have hv := leaves_net (ts.map lnOf) (by simp; omega) (by simp; omega)
 rw [lvs_lt ts h4] at hv
 have hg := newGraph_net ts (by omega) (by omega)
 have hp := prove1_net ts h4 (by omega) _ _ [] (.nil _) (show ([] : List (Nat × Nat)).length + ((atTs ts).length + 1) = _ by simp)
 unfold prR at hR
 rw [hR] at hp
 have hm' : ¬ (12 : Int) < ((atTs ts).length : Int) := by omega
 rw [show axsR [] none = [] from rfl,show usedR (List.replicate (atTs ts).length false) none = List.replicate (atTs ts).length false from rfl] at hp
 have hrep : (List.replicate (atTs ts).length false).map boolRow = List.replicate (atTs ts).length [PV.bool false] := by simp [boolRow_eq]
 unfold sh6 sh7 at hp
 rw [hrep,List.length_replicate] at hp
 clear hR hrep
 generalize ts.map lnOf = L at *
 generalize grV ts = G at *
 generalize atTs ts = A at *
 refine fi15.op ?_
 (refine Sg.h ?_;try repeat' ((first | (with_reducible first|refine brA ?_|refine brE fun _=>?_|refine spl ⟨?_,?_⟩<;>intro _) | refine clo hc ?_ | refine clo hv ?_ | refine clo hg ?_) <;> ((try simp -implicitDefEqProofs [hm']); (try simp -implicitDefEqProofs(disch:=first|assumption|(try simp only[lens]);omega -splitDisjunctions) [hm']))))
 refine CL.gc [(9,some 0,2)] [] [4,9,29] ?_
 (refine Sg.h ?_;try repeat' ((with_reducible first|refine brA ?_|refine brE fun _=>?_|refine spl ⟨?_,?_⟩<;>intro _)<;> ((try simp -implicitDefEqProofs); (try simp -implicitDefEqProofs(disch:=first|assumption|(try simp only[lens]);omega -splitDisjunctions)))))
 refine CL.sub [2,3,1,4,5,7,6] (hc := by simpa [cst] using hp) ?_
 (refine Sg.h ?_;try repeat' ((with_reducible first|refine brA ?_|refine brE fun _=>?_|refine spl ⟨?_,?_⟩<;>intro _)<;> ((try simp -implicitDefEqProofs); (try simp -implicitDefEqProofs(disch:=first|assumption|(try simp only[lens]);omega -splitDisjunctions)))))
theorem Prove_some (ts : List Lt) (h1 : ∀ t ∈ ts,LtOk t) (h2 : 1 ≤ ts.length) (h3 : ts.length ≤ 20) (h4 : szTs ts ≤ 200) (hm : (atTs ts).length ≤ 12) {y : List Bool × List (Nat × Nat)} (hR : prR ts = some y) : CallOK Try.prog 15 [.list ((ts.map lnOf).map lnr)] [] (.tuple [.list ((cst y.2).map relRow),.bool true,.agg [.int .i64 0,.int .i64 0]]) [] := by
 have hc := Check_net (ts.map lnOf)
 rw [fine_of h1 h2 h3 h4] at hc
 have hv := leaves_net (ts.map lnOf) (by simp; omega) (by simp; omega)
 rw [lvs_lt ts h4] at hv
 have hg := newGraph_net ts (by omega) (by omega)
 have hp := prove1_net ts h4 (by omega) _ _ [] (.nil _) (show ([] : List (Nat × Nat)).length + ((atTs ts).length + 1) = _ by simp)
 unfold prR at hR
 rw [hR] at hp
 have hm' : ¬ (12 : Int) < ((atTs ts).length : Int) := by omega
 rw [show axsR [] (some y) = y.2 from rfl,show usedR (List.replicate (atTs ts).length false) (some y) = y.1 from rfl] at hp
 have hrep : (List.replicate (atTs ts).length false).map boolRow = List.replicate (atTs ts).length [PV.bool false] := by simp [boolRow_eq]
 unfold sh6 sh7 at hp
 rw [hrep,List.length_replicate] at hp
 clear hR hrep
 generalize y.1 = U at *
 generalize cst y.2 = Y at *
 generalize ts.map lnOf = L at *
 generalize grV ts = G at *
 generalize atTs ts = A at *
 refine fi15.op ?_
 (refine Sg.h ?_;try repeat' ((first | (with_reducible first|refine brA ?_|refine brE fun _=>?_|refine spl ⟨?_,?_⟩<;>intro _) | refine clo hc ?_ | refine clo hv ?_ | refine clo hg ?_) <;> ((try simp -implicitDefEqProofs [hm']); (try simp -implicitDefEqProofs(disch:=first|assumption|(try simp only[lens]);omega -splitDisjunctions) [hm']))))
 refine CL.gc [(9,some 0,2)] [] [4,9,29] ?_
 (refine Sg.h ?_;try repeat' ((with_reducible first|refine brA ?_|refine brE fun _=>?_|refine spl ⟨?_,?_⟩<;>intro _)<;> ((try simp -implicitDefEqProofs); (try simp -implicitDefEqProofs(disch:=first|assumption|(try simp only[lens]);omega -splitDisjunctions)))))
 refine CL.sub [2,3,1,4,5,7,6] (hc := by simpa [cst] using hp) ?_
 (refine Sg.h ?_;try repeat' ((with_reducible first|refine brA ?_|refine brE fun _=>?_|refine spl ⟨?_,?_⟩<;>intro _)<;> ((try simp -implicitDefEqProofs); (try simp -implicitDefEqProofs(disch:=first|assumption|(try simp only[lens]);omega -splitDisjunctions)))))
def x16_T1 : XC := .seq (.reg [⟨some 36,.move (.tmp 3),none⟩,⟨some 2,.assign (.tmp 36),none⟩]) .ret
def x16_L0 : XC := .seq (.seq (.reg [⟨some 5,.move (.tmp 4),none⟩,⟨some 6,.move (.tmp 0),none⟩,⟨some 7,.call ⟨.builtin .len,#[.tmp 6],#[22]⟩,none⟩,⟨some 8,.binOp .lss 3 (.tmp 5) (.tmp 7) 3,none⟩]) (.cond (.tmp 8) .skip (.exit 0))) (.seq (.block 1 (.drawn 5 [⟨some 11,.move (.tmp 3),none⟩,⟨some 12,.move (.tmp 0),none⟩,⟨some 13,.move (.tmp 4),none⟩,⟨some 14,.indexAddr 22 (.tmp 12) (.tmp 13),none⟩,⟨some 15,.fieldAddr 24 (.tmp 14) 0,none⟩,⟨some 16,.load 3 (.tmp 15),none⟩,⟨some 17,.move (.tmp 0),none⟩,⟨some 18,.move (.tmp 4),none⟩,⟨some 19,.indexAddr 22 (.tmp 17) (.tmp 18),none⟩,⟨some 20,.fieldAddr 24 (.tmp 19) 1,none⟩,⟨some 21,.load 9 (.tmp 20),none⟩,⟨some 22,.move (.tmp 0),none⟩,⟨some 23,.move (.tmp 4),none⟩,⟨some 24,.indexAddr 22 (.tmp 22) (.tmp 23),none⟩,⟨some 25,.fieldAddr 24 (.tmp 24) 2,none⟩,⟨some 26,.load 4 (.tmp 25),none⟩,⟨some 27,.move (.tmp 0),none⟩,⟨some 28,.move (.tmp 4),none⟩,⟨some 29,.indexAddr 22 (.tmp 27) (.tmp 28),none⟩,⟨some 30,.fieldAddr 24 (.tmp 29) 3,none⟩,⟨some 31,.load 22 (.tmp 30),none⟩,⟨some 32,.call ⟨.value (.func 16),#[.tmp 31],#[22]⟩,none⟩,⟨some 33,.build 24 #[(0,.tmp 16),(1,.tmp 21),(2,.tmp 26),(3,.tmp 32)],none⟩,⟨some 34,.buildSlice 22 1 #[(0,.tmp 33)],none⟩,⟨some 35,.call ⟨.builtin .append,#[.tmp 11,.tmp 34],#[22,22]⟩,none⟩,⟨some 3,.assign (.tmp 35),none⟩])) (.reg [⟨some 9,.move (.tmp 4),none⟩,⟨some 10,.binOp .add 3 (.tmp 9) (.const (.int .i64 1)) 3,none⟩,⟨some 4,.assign (.tmp 10),none⟩]))
def x16 : XC := .seq (.reg [⟨some 2,.assign (.const (.slice none 0 0)),none⟩]) (.seq (.reg [⟨some 3,.assign (.const (.slice none 0 0)),none⟩]) (.seq (.seq (.reg [⟨some 4,.assign (.const (.int .i64 0)),none⟩]) (.bloop 0 x16_L0)) (x16_T1)))
@[simp] theorem x16_s {C e s K} : type_of% (@X_at C e s K _ _ x16_T1.eq_1) ∧ type_of% (@X_at C e s K _ _ x16_L0.eq_1) ∧ type_of% (@X_at C e s K _ _ x16.eq_1) := ⟨X_at x16_T1.eq_1,X_at x16_L0.eq_1,X_at x16.eq_1⟩
def an16 : Ann := ⟨[(5,.mix 24)],[(0,[(3,none,4)],[0,3,4],[3])],[]⟩
@[simp] theorem an16_a : an16.clsOf 5 = .mix 24 ∧ an16.frzOf 5 = [] ∧ an16.loopOf 0 = ([(3,none,4)],[0,3,4],[3]) := ⟨rfl,rfl,rfl⟩
theorem fi16 : FI Try.prog 16 (cxA an16) x16 [.tmp 2] Try.f16 := fiA Try.func16 mixed
theorem ownLinear_step (l : List Ln) (hl : l.length ≤ 3000) (ih : ∀ x ∈ l,CallOK Try.prog 16 [.list (x.kids.map lnr)] [] (.list (x.kids.map lnr)) []) : CallOK Try.prog 16 [.list (l.map lnr)] [] (.list (l.map lnr)) [] := by
 refine fi16.os ?_
 (refine Sg.h ?_;try repeat' ((with_reducible first|refine brA ?_|refine brE fun _=>?_|refine spl ⟨?_,?_⟩<;>intro _)<;> ((try simp -implicitDefEqProofs); (try simp -implicitDefEqProofs(disch:=first|assumption|(try simp only[lens]);omega -splitDisjunctions)))))
 refine W_of fun Q hQ => ?_
 have main : ∀ n i,i + n = l.length → Q [(0,.list (l.map lnr)),(3,.sl 0 0 (l.take i).length),(4,.int .i64 (i : Int))] [.rows 4 ((l.take i).map lnr)] := by
  intro n
  induction n with
  | zero =>
   intro i hi
   rw [List.take_of_length_le (by omega)]
   have hi' : ¬ (i : Int) < (l.length : Int) := by omega
   apply hQ
   clear hQ ih
   (refine Sg.h ?_;try repeat' ((with_reducible first|refine brA ?_|refine brE fun _=>?_|refine spl ⟨?_,?_⟩<;>intro _)<;> ((try simp -implicitDefEqProofs [hi']); (try simp -implicitDefEqProofs(disch:=first|assumption|(try simp only[lens]);omega -splitDisjunctions) [hi']))))
  | succ n ihn =>
   intro i hi
   have hil : i < l.length := by omega
   have ihn := ihn (i + 1) (by omega)
   have hc := ih l[i] (List.getElem_mem ..)
   rw [take_snoc hil] at ihn
   have hlt : (l.take i).length ≤ 3000 := by rw [List.length_take]; omega
   generalize l.take i = T at *
   generalize hx : l[i] = x at *
   have hrow : lnr x = [.int .i64 x.k,.str x.nm,.bool x.no,.list (x.kids.map lnr)] := lnr_eq x
   rw [List.map_append,List.map_singleton,hrow] at ihn
   clear ih
   apply hQ
   clear hQ
   (refine Sg.h ?_;try repeat' ((first | (with_reducible first|refine brA ?_|refine brE fun _=>?_|refine spl ⟨?_,?_⟩<;>intro _) | refine clo hc ?_) <;> ((try simp -implicitDefEqProofs [hil,hx]); (try simp -implicitDefEqProofs(disch:=first|assumption|(try simp only[lens]);omega -splitDisjunctions) [hil,hx]))))
   all_goals first | exact ihn | (refine at2 ihn ?_ ?_ <;> simp; done) | (exfalso; first | omega | (simp_all; done) | (simp_all; omega))
 refine at2 (main l.length 0 (Nat.zero_add _)) ?_ ?_
 ·rfl
 ·rfl
theorem vaAny_mem {l : List Ln} {d : Int} (h : vaAny l d = false) : ∀ x ∈ l,vaL x d = false := by
 induction l with
 | nil => intro x hx; cases hx
 | cons a r ih =>
  rw [vaAny,Bool.or_eq_false_iff] at h
  intro x hx
  rcases List.mem_cons.1 hx with rfl | hx
  ·exact h.1
  ·exact ih h.2 x hx
theorem ownLinear_law (l : List Ln) (h : vaLs l 0 = false) : CallOK Try.prog 16 [.list (l.map lnr)] [] (.list (l.map lnr)) [] := by
 have hu : ∀ (l : List Ln) (d : Int),vaLs l d = false → l.length ≤ 3000 ∧ ∀ x ∈ l,vaLs x.kids (d + 1) = false := by
  intro l d h
  unfold vaLs at h
  rw [Bool.or_eq_false_iff,Bool.or_eq_false_iff] at h
  refine ⟨by have := h.1.2; simpa using this,fun x hx => ?_⟩
  rw [← vaL_eq]
  exact vaAny_mem h.2 x hx
 have all : ∀ x : Ln,∀ d : Int,vaLs x.kids d = false → CallOK Try.prog 16 [.list (x.kids.map lnr)] [] (.list (x.kids.map lnr)) [] := by
  intro x
  induction x using Ln.ind with
  | h p ih =>
   intro d hd
   obtain ⟨h1,h2⟩ := hu p.kids d hd
   exact ownLinear_step p.kids h1 fun q hq => ih q hq (d + 1) (h2 q hq)
 obtain ⟨h1,h2⟩ := hu l 0 h
 exact ownLinear_step l h1 fun x hx => all x 1 (h2 x hx)
end Go.Proofs.Ytbdionmmfigfiaa
namespace Go.Pv
open Go
theorem callOK_softR {P : Program} {f : FuncId} {args : List PV} {v v' : PV} {s s' : Store} (h : CallOK P f args s v' s') (hs : Soft v v') : CallOK P f args s v s' := by
 intro pub σ w cargs hb ha
 refine (h pub σ w cargs hb ha).mono ?_
 rintro e w' ⟨cv,pub',σ',rfl,h1,h2⟩
 exact ⟨cv,pub',σ',rfl,h1,hs.rel h2⟩
end Go.Pv
namespace Go.Proofs.Ytbdionmmfigfiaa
open Go Go.Pv
def pB : ByteArray := ⟨#[112]⟩
def idL (par : Bool) : Lt := .op par (.atom pB false) (.atom pB true)
def x33 : XC := .seq (.reg [⟨some 2,.assign (.const (.slice none 0 0)),none⟩]) (.seq (.reg [⟨some 3,.move (.tmp 0),none⟩,⟨some 4,.build 24 #[(0,.const (.int .i64 1)),(1,.const (.string ⟨#[112]⟩))],none⟩,⟨some 5,.build 24 #[(0,.const (.int .i64 1)),(1,.const (.string ⟨#[112]⟩)),(2,.const (.bool true))],none⟩,⟨some 6,.buildSlice 22 2 #[(0,.tmp 4),(1,.tmp 5)],none⟩,⟨some 7,.build 24 #[(0,.tmp 3),(3,.tmp 6)],none⟩,⟨some 8,.buildSlice 22 1 #[(0,.tmp 7)],none⟩,⟨some 2,.assign (.tmp 8),none⟩]) .ret)
@[simp] theorem x33_s {C e s K} : type_of% (@X_at C e s K _ _ x33.eq_1) := X_at x33.eq_1
def an33 : Ann := ⟨[],[],[]⟩
theorem fi33 : FI Try.prog 33 (cxA an33) x33 [.tmp 2] Try.f33 := fiA Try.func33 mixed
theorem identity_law (par : Bool) : CallOK Try.prog 33 [.int .i64 (if par = true then 3 else 2)] [] (.list (([idL par].map lnOf).map lnr)) [] := by
 have e : ([idL par].map lnOf).map lnr = [[.int .i64 (if par = true then 3 else 2),.str ⟨#[]⟩,.bool false,.list [[.int .i64 1,.str pB,.bool false,.list []],[.int .i64 1,.str pB,.bool true,.list []]]]] := by
  simp only [List.map_cons,List.map_nil,idL,lnOf,lnr_eq,ln_mk]
 rw [e]
 refine callOK_softR (v' := .list [[.int .i64 (if par = true then 3 else 2),.str ⟨#[]⟩,.bool false,.list [[.int .i64 1,.str pB,.bool false,.nilsl],[.int .i64 1,.str pB,.bool true,.nilsl]]]]) (fi33.op ?_) ?_
 ·generalize (if par = true then (3 : Int) else 2) = k
  unfold pB
  (refine Sg.h ?_;try repeat' ((with_reducible first|refine brA ?_|refine brE fun _=>?_|refine spl ⟨?_,?_⟩<;>intro _)<;> ((try simp -implicitDefEqProofs); (try simp -implicitDefEqProofs(disch:=first|assumption|(try simp only[lens]);omega -splitDisjunctions)))))
 ·exact .list (.cons (.cons .refl (.cons .refl (.cons .refl (.cons (.list (.cons (.cons .refl (.cons .refl (.cons .refl (.cons .nil .nil)))) (.cons (.cons .refl (.cons .refl (.cons .refl (.cons .nil .nil)))) .nil))) .nil)))) .nil)
theorem idL_ok (par : Bool) : ∀ t ∈ [idL par],LtOk t := by
 intro t ht
 rw [List.mem_singleton] at ht
 subst ht
 exact ⟨by unfold LtOk; decide,by unfold LtOk; decide⟩
theorem idL_lk (par : Bool) : Lk (atTs [idL par]) [(0,1)] := by
 have h := str_lk (.atom pB false)
 have e : atTs [.atom pB false,dlT (.atom pB false)] = atTs [idL par] := rfl
 rw [e] at h
 exact h
theorem idL_par : corB [idL true] [(0,1)] = true := by
 rw [corB_iff]
 have h := str_cor (.atom pB false)
 exact (par_cor [] (.atom pB false) (.atom pB true) [(0,1)] (by intro a ha; rw [List.mem_singleton] at ha; subst ha; exact ⟨by decide,by decide⟩)).2 h
theorem idL_ten : corB [idL false] [(0,1)] = false := by
 rw [Bool.eq_false_iff]
 intro h
 have h : Full 3 [edS (1,2),edS (0,1),edS (0,2)] [] := corB_iff.1 h
 have h1 := h.exch (s := edS (1,2)) (T := [edS (0,1),edS (0,2)]) (.refl _) (.refl _)
 have h2 := h1.exch (s := edS (0,1)) (T := [edS (0,2)]) (.refl _) (.refl _)
 refine h2.later (s := edS (0,2)) (by simp) ?_
 exact (Con.edge (a := 0) (b := 1) (by simp [edS])).trans (Con.edge (a := 1) (b := 2) (by simp [edS]))
def x8 : XC := .seq (.reg [⟨some 0,.assign (.const (.bool false)),none⟩]) (.seq (.reg [⟨some 6,.call ⟨.value (.func 33),#[.const (.int .i64 3)],#[3]⟩,none⟩,⟨some 7,.build 33 #[(0,.const (.int .i64 0)),(1,.const (.int .i64 1))],none⟩,⟨some 8,.buildSlice 25 1 #[(0,.tmp 7)],none⟩,⟨some 9,.call ⟨.value (.func 13),#[.tmp 6,.tmp 8],#[22,25]⟩,none⟩,⟨some 5,.move (.tmp 9),none⟩,⟨some 10,.extract (.tmp 5) 0,none⟩,⟨some 11,.extract (.tmp 5) 1,none⟩,⟨some 2,.alloc 29,none⟩,⟨some 1,.assign (.tmp 10),none⟩,⟨none,.store 29 (.tmp 2) (.tmp 11),none⟩]) (.seq (.reg [⟨some 13,.call ⟨.value (.func 33),#[.const (.int .i64 2)],#[3]⟩,none⟩,⟨some 14,.build 33 #[(0,.const (.int .i64 0)),(1,.const (.int .i64 1))],none⟩,⟨some 15,.buildSlice 25 1 #[(0,.tmp 14)],none⟩,⟨some 16,.call ⟨.value (.func 13),#[.tmp 13,.tmp 15],#[22,25]⟩,none⟩,⟨some 12,.move (.tmp 16),none⟩,⟨some 17,.extract (.tmp 12) 0,none⟩,⟨some 18,.extract (.tmp 12) 1,none⟩,⟨some 4,.alloc 29,none⟩,⟨some 3,.assign (.tmp 17),none⟩,⟨none,.store 29 (.tmp 4) (.tmp 18),none⟩]) (.seq (.reg [⟨some 19,.fieldAddr 29 (.tmp 2) 0,none⟩,⟨some 20,.load 3 (.tmp 19),none⟩,⟨some 21,.binOp .eql 3 (.tmp 20) (.const (.int .i64 0)) 3,none⟩,⟨some 22,.move (.tmp 21),none⟩,⟨some 23,.fieldAddr 29 (.tmp 4) 0,some (some 22,true)⟩,⟨some 24,.load 3 (.tmp 23),some (some 22,true)⟩,⟨some 25,.binOp .eql 3 (.tmp 24) (.const (.int .i64 0)) 3,some (some 22,true)⟩,⟨some 26,.pick (.tmp 22) (.tmp 25) (.const (.bool false)),none⟩,⟨some 27,.move (.tmp 26),none⟩,⟨some 28,.move (.tmp 1),some (some 27,true)⟩,⟨some 29,.pick (.tmp 27) (.tmp 28) (.const (.bool false)),none⟩,⟨some 30,.move (.tmp 29),none⟩,⟨some 31,.move (.tmp 3),some (some 30,true)⟩,⟨some 32,.unOp .not 4 (.tmp 31),some (some 30,true)⟩,⟨some 33,.pick (.tmp 30) (.tmp 32) (.const (.bool false)),none⟩,⟨some 0,.assign (.tmp 33),none⟩]) .ret)))
@[simp] theorem x8_s {C e s K} : type_of% (@X_at C e s K _ _ x8.eq_1) := X_at x8.eq_1
def an8 : Ann := ⟨[],[],[]⟩
theorem fi8 : FI Try.prog 8 (cxA an8) x8 [.tmp 0] Try.f8 := fiA Try.func8 mixed
theorem netBegun_law : CallOK Try.prog 8 [] [] (.bool true) [] := by
 have i3 := identity_law true
 have i2 := identity_law false
 rw [if_pos rfl] at i3
 rw [if_neg (by decide)] at i2
 have h (par : Bool) := Correct_ok [idL par] [(0,1)] (idL_ok par) (by simp) (by simp) (by cases par <;> decide) (by cases par <;> decide) (idL_lk par)
 have h3 := h true
 have h2 := h false
 rw [idL_par] at h3
 rw [idL_ten] at h2
 have e : (cst [(0,1)]).map relRow = [[.int .i64 0,.int .i64 1]] := rfl
 rw [e] at h2 h3
 clear h
 generalize ([idL true].map lnOf).map lnr = l3 at *
 generalize ([idL false].map lnOf).map lnr = l2 at *
 refine fi8.op ?_
 (refine Sg.h ?_;try repeat' ((first | (with_reducible first|refine brA ?_|refine brE fun _=>?_|refine spl ⟨?_,?_⟩<;>intro _) | refine clo i3 ?_) <;> ((try simp -implicitDefEqProofs); (try simp -implicitDefEqProofs(disch:=first|assumption|(try simp only[lens]);omega -splitDisjunctions)))))
 refine CL.giv [0] ?_
 (refine Sg.h ?_;try repeat' ((first | (with_reducible first|refine brA ?_|refine brE fun _=>?_|refine spl ⟨?_,?_⟩<;>intro _) | refine clo h3 ?_ | refine clo i2 ?_) <;> ((try simp -implicitDefEqProofs); (try simp -implicitDefEqProofs(disch:=first|assumption|(try simp only[lens]);omega -splitDisjunctions)))))
 refine CL.giv [2] ?_
 (refine Sg.h ?_;try repeat' ((first | (with_reducible first|refine brA ?_|refine brE fun _=>?_|refine spl ⟨?_,?_⟩<;>intro _) | refine clo h2 ?_) <;> ((try simp -implicitDefEqProofs); (try simp -implicitDefEqProofs(disch:=first|assumption|(try simp only[lens]);omega -splitDisjunctions)))))
end Go.Proofs.Ytbdionmmfigfiaa
namespace Go.Proofs.Ytbdionmmfigfiaa
open Go Go.Pv
theorem pars_lt (t : Lt) : ∀ n,((ndL (lnOf t)).filter fun x => decide (x.k = 3)).length = (pqT n t).length := by
 induction t with
 | atom nm no => intro n; rw [ndL_eq]; simp [lnOf,pqT]
 | op p a b ha hb =>
  intro n
  have h1 := ha (n + 1)
  have h2 := hb (n + 1 + szT a)
  rw [ndL_eq,lnOf,pqT,List.length_append,List.length_append,← h1,← h2]
  cases p <;> simp [ndLs]
theorem parsTs_lt (l : List Lt) : ∀ n,((ndLs (l.map lnOf)).filter fun x => decide (x.k = 3)).length = (pqTs n l).length := by
 induction l with
 | nil => intro n; simp [pqTs]
 | cons t r ih => intro n; rw [List.map_cons,ndLs,List.filter_append,List.length_append,pars_lt t n,ih (n + szT t),pqTs,List.length_append]
theorem lkF_net {ts : List Lt} {an : List (Nat × Nat)} (h1 : ∀ t ∈ ts,LtOk t) (h2 : 1 ≤ ts.length) (h3 : ts.length ≤ 20) (h4 : szTs ts ≤ 200) (h6 : Lk (atTs ts) an) : lkF (ts.map lnOf) (cst an) = (0,0) := by
 refine lkF_of h1 h2 h3 h4 ?_ h6
 have : (flat2 an).length ≤ (atTs ts).length := nodup_le _ _ h6.2.1 fun x hx => by
  obtain ⟨a,ha,hx⟩ := List.mem_flatMap.1 hx
  have := h6.1 a ha
  simp at hx
  rcases hx with rfl | rfl
  ·exact this.1
  ·exact this.2.1
 rw [flat2_len] at this
 omega
def x5 : XC := .seq (.reg [⟨some 2,.assign (.const (.bool false)),none⟩]) (.seq (.seq (.reg [⟨some 7,.call ⟨.value (.func 8),#[],#[]⟩,none⟩,⟨some 8,.unOp .not 4 (.tmp 7),none⟩]) (.cond (.tmp 8) (.seq (.reg [⟨some 2,.assign (.const (.bool false)),none⟩]) .ret) .skip)) (.seq (.seq (.reg [⟨some 9,.move (.tmp 0),none⟩,⟨some 10,.call ⟨.value (.func 9),#[.tmp 9,.const (.int .i64 0)],#[22,3]⟩,none⟩]) (.cond (.tmp 10) (.seq (.reg [⟨some 2,.assign (.const (.bool true)),none⟩]) .ret) .skip)) (.seq (.reg [⟨some 12,.move (.tmp 0),none⟩,⟨some 13,.call ⟨.value (.func 16),#[.tmp 12],#[22]⟩,none⟩,⟨some 14,.call ⟨.value (.func 15),#[.tmp 13],#[22]⟩,none⟩,⟨some 11,.move (.tmp 14),none⟩,⟨some 15,.extract (.tmp 11) 0,none⟩,⟨some 16,.extract (.tmp 11) 1,none⟩,⟨some 17,.extract (.tmp 11) 2,none⟩,⟨some 5,.alloc 29,none⟩,⟨some 3,.assign (.tmp 15),none⟩,⟨some 4,.assign (.tmp 16),none⟩,⟨none,.store 29 (.tmp 5) (.tmp 17),none⟩]) (.seq (.reg [⟨some 18,.move (.tmp 0),none⟩,⟨some 19,.call ⟨.value (.func 10),#[.tmp 18],#[22]⟩,none⟩,⟨some 6,.alloc 29,none⟩,⟨none,.store 29 (.tmp 6) (.tmp 19),none⟩]) (.seq (.seq (.reg [⟨some 20,.fieldAddr 29 (.tmp 6) 0,none⟩,⟨some 21,.load 3 (.tmp 20),none⟩,⟨some 22,.binOp .eql 3 (.tmp 21) (.const (.int .i64 0)) 3,none⟩,⟨some 23,.move (.tmp 22),none⟩,⟨some 24,.move (.tmp 0),some (some 23,true)⟩,⟨some 25,.call ⟨.value (.func 12),#[.tmp 24],#[22]⟩,some (some 23,true)⟩,⟨some 26,.call ⟨.builtin .len,#[.tmp 25],#[22]⟩,some (some 23,true)⟩,⟨some 27,.binOp .gtr 3 (.tmp 26) (.const (.int .i64 12)) 3,some (some 23,true)⟩,⟨some 28,.pick (.tmp 23) (.tmp 27) (.const (.bool false)),none⟩]) (.cond (.tmp 28) (.reg [⟨some 29,.call ⟨.value (.func 17),#[.const (.int .i64 2),.const (.int .i64 0)],#[3,3]⟩,none⟩,⟨none,.store 29 (.tmp 6) (.tmp 29),none⟩]) .skip)) (.seq (.seq (.reg [⟨some 30,.load 29 (.tmp 5),none⟩,⟨some 31,.load 29 (.tmp 6),none⟩,⟨some 32,.binOp .neq 29 (.tmp 30) (.tmp 31) 29,none⟩]) (.cond (.tmp 32) (.seq (.reg [⟨some 2,.assign (.const (.bool false)),none⟩]) .ret) .skip)) (.seq (.seq (.reg [⟨some 33,.fieldAddr 29 (.tmp 6) 0,none⟩,⟨some 34,.load 3 (.tmp 33),none⟩,⟨some 35,.binOp .neq 3 (.tmp 34) (.const (.int .i64 0)) 3,none⟩,⟨some 36,.move (.tmp 35),none⟩,⟨some 37,.move (.tmp 4),some (some 36,false)⟩,⟨some 38,.unOp .not 4 (.tmp 37),some (some 36,false)⟩,⟨some 39,.pick (.tmp 36) (.const (.bool true)) (.tmp 38),none⟩]) (.cond (.tmp 39) (.seq (.reg [⟨some 40,.move (.tmp 4),none⟩,⟨some 41,.unOp .not 4 (.tmp 40),none⟩,⟨some 42,.move (.tmp 41),none⟩,⟨some 43,.move (.tmp 3),some (some 42,true)⟩,⟨some 44,.call ⟨.builtin .len,#[.tmp 43],#[25]⟩,some (some 42,true)⟩,⟨some 45,.binOp .eql 3 (.tmp 44) (.const (.int .i64 0)) 3,some (some 42,true)⟩,⟨some 46,.pick (.tmp 42) (.tmp 45) (.const (.bool false)),none⟩,⟨some 47,.move (.tmp 46),none⟩,⟨some 48,.fieldAddr 29 (.tmp 6) 0,some (some 47,true)⟩,⟨some 49,.load 3 (.tmp 48),some (some 47,true)⟩,⟨some 50,.binOp .neq 3 (.tmp 49) (.const (.int .i64 0)) 3,some (some 47,true)⟩,⟨some 51,.move (.tmp 50),some (some 47,true)⟩,⟨some 52,.move (.tmp 0),some (some 51,false)⟩,⟨some 53,.call ⟨.value (.func 18),#[.tmp 52],#[22]⟩,some (some 51,false)⟩,⟨some 54,.binOp .gtr 3 (.tmp 53) (.const (.int .i64 6)) 3,some (some 51,false)⟩,⟨some 55,.pick (.tmp 51) (.const (.bool true)) (.tmp 54),some (some 47,true)⟩,⟨some 56,.move (.tmp 55),some (some 47,true)⟩,⟨some 57,.move (.tmp 0),some (some 56,false)⟩,⟨some 58,.call ⟨.value (.func 12),#[.tmp 57],#[22]⟩,some (some 56,false)⟩,⟨some 59,.call ⟨.builtin .len,#[.tmp 58],#[22]⟩,some (some 56,false)⟩,⟨some 60,.binOp .gtr 3 (.tmp 59) (.const (.int .i64 8)) 3,some (some 56,false)⟩,⟨some 61,.pick (.tmp 56) (.const (.bool true)) (.tmp 60),some (some 47,true)⟩,⟨some 62,.move (.tmp 61),some (some 47,true)⟩,⟨some 63,.move (.tmp 0),some (some 62,false)⟩,⟨some 64,.call ⟨.value (.func 19),#[.tmp 63],#[22]⟩,some (some 62,false)⟩,⟨some 65,.unOp .not 4 (.tmp 64),some (some 62,false)⟩,⟨some 66,.pick (.tmp 62) (.const (.bool true)) (.tmp 65),some (some 47,true)⟩,⟨some 67,.pick (.tmp 47) (.tmp 66) (.const (.bool false)),none⟩,⟨some 2,.assign (.tmp 67),none⟩]) .ret) .skip)) (.seq (.reg [⟨some 68,.move (.tmp 0),none⟩,⟨some 69,.move (.tmp 3),none⟩,⟨some 70,.call ⟨.value (.func 20),#[.tmp 68,.tmp 69],#[22,25]⟩,none⟩,⟨some 71,.field 29 (.tmp 70) 0,none⟩,⟨some 72,.binOp .eql 3 (.tmp 71) (.const (.int .i64 0)) 3,none⟩,⟨some 73,.move (.tmp 72),none⟩,⟨some 74,.move (.tmp 0),some (some 73,true)⟩,⟨some 75,.call ⟨.value (.func 18),#[.tmp 74],#[22]⟩,some (some 73,true)⟩,⟨some 76,.binOp .gtr 3 (.tmp 75) (.const (.int .i64 10)) 3,some (some 73,true)⟩,⟨some 77,.move (.tmp 76),some (some 73,true)⟩,⟨some 78,.move (.tmp 0),some (some 77,false)⟩,⟨some 79,.move (.tmp 3),some (some 77,false)⟩,⟨some 80,.call ⟨.value (.func 21),#[.tmp 78,.tmp 79],#[22,25]⟩,some (some 77,false)⟩,⟨some 81,.pick (.tmp 77) (.const (.bool true)) (.tmp 80),some (some 73,true)⟩,⟨some 82,.pick (.tmp 73) (.tmp 81) (.const (.bool false)),none⟩,⟨some 2,.assign (.tmp 82),none⟩]) .ret))))))))
@[simp] theorem x5_s {C e s K} : type_of% (@X_at C e s K _ _ x5.eq_1) := X_at x5.eq_1
def an5 : Ann := ⟨[],[],[]⟩
theorem fi5 : FI Try.prog 5 (cxA an5) x5 [.tmp 2] Try.f5 := fiA Try.func5 mixed
theorem netProves_law (l : List Ln) : CallOK Try.prog 5 [.list (l.map lnr)] [] (.bool true) [] := by
 have hbg := netBegun_law
 have vl := VastLinear_ref l 0 (by decide) (by decide)
 refine fi5.op ?_
 cases hv : vaLs l 0 with
 | true =>
  rw [hv] at vl
  (refine Sg.h ?_;try repeat' ((first | (with_reducible first|refine brA ?_|refine brE fun _=>?_|refine spl ⟨?_,?_⟩<;>intro _) | refine clo hbg ?_ | refine clo vl ?_) <;> ((try simp -implicitDefEqProofs); (try simp -implicitDefEqProofs(disch:=first|assumption|(try simp only[lens]);omega -splitDisjunctions)))))
 | false =>
 have ho := ownLinear_law l hv
 rw [hv] at vl
 have hlf := LinearFault_ref l
 by_cases h0 : (lnFault l).1 = 0
 rotate_left 1
 ·have hp := Prove_bad l h0
  generalize (lnFault l).1 = c at *
  generalize (lnFault l).2 = a at *
  (refine Sg.h ?_;try repeat' ((first | (with_reducible first|refine brA ?_|refine brE fun _=>?_|refine spl ⟨?_,?_⟩<;>intro _) | refine clo hbg ?_ | refine clo vl ?_ | refine clo ho ?_ | refine clo hp ?_ | refine clo hlf ?_) <;> ((try simp -implicitDefEqProofs [h0]); (try simp -implicitDefEqProofs(disch:=first|assumption|(try simp only[lens]);omega -splitDisjunctions) [h0]))))
 have hF := F_ref 2 0
 have hlv := Leaves_ref l
 have hpr := Pars_ref l
 obtain ⟨ts,rfl,h1,h2,h3,h4⟩ := trees_of h0
 have hnl := (ndLs_lt ts).1
 have hvl : lvR (ts.map lnOf) = atTs ts := by
  unfold lvR
  rw [List.take_of_length_le (by rw [hnl]; omega),(ndLs_lt ts).2]
 rw [List.take_of_length_le (by rw [hnl]; omega),parsTs_lt ts 0] at hpr
 rw [hvl] at hlv
 rw [fine_of h1 h2 h3 h4] at hlf
 have hs0 : 0 < szTs ts := by
  cases ts with
  | nil => simp at h2
  | cons t r => have := szT_pos t; rw [szTs]; omega
 have hA : (atTs ts).length ≤ 200 := by
  have := lfTs_len ts 0
  rw [lnTs_lf,List.length_map,atTs_len] at this
  omega
 clear h0 hnl hvl
 by_cases hm : 12 < (atTs ts).length
 ·have hp := Prove_many ts h1 h2 h3 h4 hm
  have hm' : (12 : Int) < ((atTs ts).length : Int) := by omega
  generalize ts.map lnOf = L at *
  generalize atTs ts = A at *
  (refine Sg.h ?_;try repeat' ((first | (with_reducible first|refine brA ?_|refine brE fun _=>?_|refine spl ⟨?_,?_⟩<;>intro _) | refine clo hbg ?_ | refine clo vl ?_ | refine clo ho ?_ | refine clo hp ?_ | refine clo hlf ?_ | refine clo hlv ?_ | refine clo hF ?_) <;> ((try simp -implicitDefEqProofs [hm']); (try simp -implicitDefEqProofs(disch:=first|assumption|(try simp only[lens]);omega -splitDisjunctions) [hm']))))
 have hm' : ¬ (12 : Int) < ((atTs ts).length : Int) := by omega
 cases hR : prR ts with
 | none =>
  have hp := Prove_none ts h1 h2 h3 h4 (by omega) hR
  by_cases h5 : 6 < (pqTs 0 ts).length
  ·have h5' : (6 : Int) < ((pqTs 0 ts).length : Int) := by omega
   generalize ts.map lnOf = L at *
   generalize atTs ts = A at *
   generalize pqTs 0 ts = P at *
   (refine Sg.h ?_;try repeat' ((first | (with_reducible first|refine brA ?_|refine brE fun _=>?_|refine spl ⟨?_,?_⟩<;>intro _) | refine clo hbg ?_ | refine clo vl ?_ | refine clo ho ?_ | refine clo hp ?_ | refine clo hlf ?_ | refine clo hlv ?_ | refine clo hpr ?_) <;> ((try simp -implicitDefEqProofs [hm',h5']); (try simp -implicitDefEqProofs(disch:=first|assumption|(try simp only[lens]);omega -splitDisjunctions) [hm',h5']))))
  have h5' : ¬ (6 : Int) < ((pqTs 0 ts).length : Int) := by omega
  by_cases h6 : 8 < (atTs ts).length
  ·have h6' : (8 : Int) < ((atTs ts).length : Int) := by omega
   generalize ts.map lnOf = L at *
   generalize atTs ts = A at *
   generalize pqTs 0 ts = P at *
   (refine Sg.h ?_;try repeat' ((first | (with_reducible first|refine brA ?_|refine brE fun _=>?_|refine spl ⟨?_,?_⟩<;>intro _) | refine clo hbg ?_ | refine clo vl ?_ | refine clo ho ?_ | refine clo hp ?_ | refine clo hlf ?_ | refine clo hlv ?_ | refine clo hpr ?_) <;> ((try simp -implicitDefEqProofs [hm',h5',h6']); (try simp -implicitDefEqProofs(disch:=first|assumption|(try simp only[lens]);omega -splitDisjunctions) [hm',h5',h6']))))
  have h6' : ¬ (8 : Int) < ((atTs ts).length : Int) := by omega
  obtain ⟨b,hk,hkb⟩ := Linkable_ref ts h4 hs0 (by omega) (by omega) hA
  have hb : b = false := by
   cases b with
   | false => rfl
   | true =>
    have := hkb rfl
    unfold lnkB at this
    unfold prR at hR
    rw [hR] at this
    cases this
  subst hb
  generalize ts.map lnOf = L at *
  generalize atTs ts = A at *
  generalize pqTs 0 ts = P at *
  (refine Sg.h ?_;try repeat' ((first | (with_reducible first|refine brA ?_|refine brE fun _=>?_|refine spl ⟨?_,?_⟩<;>intro _) | refine clo hbg ?_ | refine clo vl ?_ | refine clo ho ?_ | refine clo hp ?_ | refine clo hlf ?_ | refine clo hlv ?_ | refine clo hpr ?_ | refine clo hk ?_) <;> ((try simp -implicitDefEqProofs [hm',h5',h6']); (try simp -implicitDefEqProofs(disch:=first|assumption|(try simp only[lens]);omega -splitDisjunctions) [hm',h5',h6']))))
 | some y =>
  have hp := Prove_some ts h1 h2 h3 h4 (by omega) hR
  obtain ⟨hlk,hT,_⟩ := srS_some (.nil (atTs ts)) hR
  have hnf := NetFault_ref (ts.map lnOf) (cst y.2)
  rw [lkF_net h1 h2 h3 h4 hlk] at hnf
  by_cases h5 : 10 < (pqTs 0 ts).length
  ·have h5' : (10 : Int) < ((pqTs 0 ts).length : Int) := by omega
   generalize ts.map lnOf = L at *
   generalize cst y.2 = Y at *
   generalize atTs ts = A at *
   generalize pqTs 0 ts = P at *
   (refine Sg.h ?_;try repeat' ((first | (with_reducible first|refine brA ?_|refine brE fun _=>?_|refine spl ⟨?_,?_⟩<;>intro _) | refine clo hbg ?_ | refine clo vl ?_ | refine clo ho ?_ | refine clo hp ?_ | refine clo hlf ?_ | refine clo hlv ?_ | refine clo hnf ?_ | refine clo hpr ?_) <;> ((try simp -implicitDefEqProofs [hm',h5']); (try simp -implicitDefEqProofs(disch:=first|assumption|(try simp only[lens]);omega -splitDisjunctions) [hm',h5']))))
  have h5' : ¬ (10 : Int) < ((pqTs 0 ts).length : Int) := by omega
  have hyl : 2 * y.2.length ≤ (atTs ts).length := by
   rw [← flat2_len]
   exact nodup_le _ _ hlk.2.1 fun x hx => by
    obtain ⟨a,ha,hx⟩ := List.mem_flatMap.1 hx
    have := hlk.1 a ha
    simp at hx
    rcases hx with rfl | rfl
    ·exact this.1
    ·exact this.2.1
  have hsw := Switched_ref ts y.2 (by omega) hs0 (by omega) (by omega) (by rw [atTs_len]; exact lk_in hlk) (by omega)
  rw [hT] at hsw
  generalize ts.map lnOf = L at *
  generalize cst y.2 = Y at *
  generalize atTs ts = A at *
  generalize pqTs 0 ts = P at *
  (refine Sg.h ?_;try repeat' ((first | (with_reducible first|refine brA ?_|refine brE fun _=>?_|refine spl ⟨?_,?_⟩<;>intro _) | refine clo hbg ?_ | refine clo vl ?_ | refine clo ho ?_ | refine clo hp ?_ | refine clo hlf ?_ | refine clo hlv ?_ | refine clo hnf ?_ | refine clo hpr ?_ | refine clo hsw ?_) <;> ((try simp -implicitDefEqProofs [hm',h5']); (try simp -implicitDefEqProofs(disch:=first|assumption|(try simp only[lens]);omega -splitDisjunctions) [hm',h5']))))
end Go.Proofs.Ytbdionmmfigfiaa
