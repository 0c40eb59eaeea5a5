import Derived.Test.YtfhakdonenhnbaaBGaA
set_option linter.unusedVariables false
set_option linter.unusedSimpArgs false
set_option maxRecDepth 100000
set_option maxHeartbeats 4000000
namespace Go.Proofs.Ytfhakdonenhnbaa
open Go Go.Pv
def memP (es : Mem) : List (PV × PV):=es.map fun p=>(.agg (ci p.1),.bool p.2)
@[simp] theorem memP_ren {ρ : List Nat} (es : Mem) : (memP es).map (fun p=>(renN ρ 4 p.1,renN ρ 4 p.2)) = memP es:=by simp [memP]
@[simp] theorem memP_up {ρ : List Nat} {n : Nat} (es : Mem) : (memP es).map (fun p=>(upN ρ (n + 1) p.1,upN ρ (n + 1) p.2)) = memP es:=by simp [memP]
@[simp] theorem memP_deref {s : Store} {n : Nat} (es : Mem) : (memP es).map (fun p=>(deref s (n + 1) p.1,deref s (n + 1) p.2)) = memP es:=by simp [memP]
@[simp] theorem memP_refs (es : Mem) : ((memP es).flatMap fun p=>refsN 4 p.2) = []:=by
 induction es with
 | nil=>rfl
 | cons a r ih=>exact ih
theorem cellsEq_ci : ∀ {c d : List Int},c.length = d.length → cellsEq (ci c) (ci d) = some (decide (c = d))
 | [],[],_=>rfl
 | [],_ :: _,h=>by cases h
 | _ :: _,[],h=>by cases h
 | a :: c,b :: d,h=>by
  have ih:=cellsEq_ci (c:=c) (d:=d) (by simpa using h)
  show (if IntKind.i64 = IntKind.i64 then (cellsEq (ci c) (ci d)).map fun t=>a == b && t else none) = _
  rw [if_pos rfl,ih,Option.map_some]
  congr 1
  rw [Bool.eq_iff_iff]
  simp
theorem findP_memP {c : List Int} (hc : c.length = 18) : ∀ {es : Mem} {i : Nat},KeysOk es → findP (.agg (ci c)) (memP es) i = some ((lkM c es i).map fun q=>(q.1,PV.bool q.2))
 | [],i,_=>rfl
 | p :: es,i,h=>by
  have ih:=findP_memP hc (es:=es) (i:=i + 1) fun q hq=>h q (by simp [hq])
  have hl:=(h p (by simp)).1
  have he:=cellsEq_ci (c:=c) (d:=p.1) (by omega)
  show (match keyEq (.agg (ci c)) (.agg (ci p.1)) with
   | some true=>some (some (i,PV.bool p.2))
   | some false=>findP (.agg (ci c)) (memP es) (i + 1)
   | none=>none) = _
  rw [show keyEq (.agg (ci c)) (.agg (ci p.1)) = some (decide (c = p.1)) from he]
  unfold lkM
  by_cases hcp : c = p.1
  ·rw [decide_eq_true hcp,if_pos hcp];rfl
  ·rw [decide_eq_false hcp,if_neg hcp];exact ih
theorem cellKey_ci : ∀ c : List Int,cellKey (ci c) = some (c.map (.int .i64))
 | []=>rfl
 | a :: c=>by
  show (cellKey (ci c)).map (fun l=>Value.int .i64 a :: l) = _
  rw [cellKey_ci c];rfl
theorem wide_T : wideT Try.prog 69 = true:=by kernel_rfl
theorem list18 {c : List Int} (h : c.length = 18) : ∃ a0 a1 a2 a3 a4 a5 a6 a7 a8 a9 a10 a11 a12 a13 a14 a15 a16 a17,c = [a0,a1,a2,a3,a4,a5,a6,a7,a8,a9,a10,a11,a12,a13,a14,a15,a16,a17]:=by
 match c,h with
 | [a0,a1,a2,a3,a4,a5,a6,a7,a8,a9,a10,a11,a12,a13,a14,a15,a16,a17],_=>exact ⟨a0,a1,a2,a3,a4,a5,a6,a7,a8,a9,a10,a11,a12,a13,a14,a15,a16,a17,rfl⟩
def fieldsTO (P : Program) (T : TypeId) : Option (List (TypeId × Nat) × Bool):=match P.underlying T with
 | some (.struct fs) => some (fs.toList.map fun f => (f.type, f.offset), fs.all (·.name != "_"))
 | _=>none
theorem fieldsTO_some {P : Program} {T : TypeId} {l : List (TypeId × Nat)} (h : fieldsTO P T = some (l, true)) : ∃ fs, P.underlying T = some (.struct fs) ∧ (fs.toList.map fun f => (f.type, f.offset)) = l ∧ fs.all (·.name != "_") = true := by
 unfold fieldsTO at h
 split at h
 ·rename_i fs hu
  simp only [Option.some.injEq,Prod.mk.injEq] at h
  exact ⟨fs,hu,h.1,h.2⟩
 ·cases h
theorem key_int (d : Nat) {a : Int} (ha : 0 ≤ a ∧ a ≤ 8) : Try.prog.keyLits (d + 1) 3 [.int .i64 a] = some [.int .i64 a]:=by
 have u : Try.prog.underlying 3 = some (.int .i64):=by kernel_rfl
 have hw : (Lit.int .i64 a).wf = true:=by
  show (decide (IntKind.min .i64 ≤ a) && decide (a ≤ IntKind.max .i64)) = true
  rw [Bool.and_eq_true,decide_eq_true_eq,decide_eq_true_eq]
  exact ⟨Int.le_trans (show IntKind.min .i64 ≤ 0 by decide) ha.1,Int.le_trans ha.2 (show (8 : Int) ≤ IntKind.max .i64 by decide)⟩
 unfold Program.keyLits
 rw [u]
 dsimp only
 rw [if_pos ⟨rfl,hw⟩]
theorem key_arr (d : Nat) {a b c e : Int} (ha : 0 ≤ a ∧ a ≤ 8) (hb : 0 ≤ b ∧ b ≤ 8) (hc : 0 ≤ c ∧ c ≤ 8) (he : 0 ≤ e ∧ e ≤ 8) : Try.prog.keyLits (d + 2) 51 [.int .i64 a,.int .i64 b,.int .i64 c,.int .i64 e] = some [.int .i64 a,.int .i64 b,.int .i64 c,.int .i64 e]:=by
 have u : Try.prog.underlying 51 = some (.array 4 3):=by kernel_rfl
 have k4 : Try.prog.cellsOf 51 = 4:=by kernel_rfl
 have k1 : Try.prog.cellsOf 3 = 1:=by kernel_rfl
 unfold Program.keyLits
 rw [u]
 dsimp only
 rw [k4,k1,show List.range 4 = [0,1,2,3] from rfl]
 simp [key_int,ha,hb,hc,he]
theorem key_pos (d : Nat) {n a b c e a' b' c' e' : Int} (hn : 0 ≤ n ∧ n ≤ 8) (ha : 0 ≤ a ∧ a ≤ 8) (hb : 0 ≤ b ∧ b ≤ 8) (hc : 0 ≤ c ∧ c ≤ 8) (he : 0 ≤ e ∧ e ≤ 8) (ha' : 0 ≤ a' ∧ a' ≤ 8) (hb' : 0 ≤ b' ∧ b' ≤ 8) (hc' : 0 ≤ c' ∧ c' ≤ 8) (he' : 0 ≤ e' ∧ e' ≤ 8) :
  (Try.prog.keyLits (d + 3) 53 [.int .i64 n,.int .i64 a,.int .i64 b,.int .i64 c,.int .i64 e,.int .i64 a',.int .i64 b',.int .i64 c',.int .i64 e']).isSome = true:=by
 have u : fieldsTO Try.prog 53 = some ([(3,0),(51,1),(51,5)],true):=by kernel_rfl
 obtain ⟨fs,hu,hl,hn'⟩:=fieldsTO_some u
 have k9 : Try.prog.cellsOf 53 = 9:=by kernel_rfl
 have k4 : Try.prog.cellsOf 51 = 4:=by kernel_rfl
 have k1 : Try.prog.cellsOf 3 = 1:=by kernel_rfl
 unfold Program.keyLits
 rw [hu]
 dsimp only
 rw [k9,hn']
 generalize fs.toList = L at *
 have h3 : L.length = 3:=by simpa using congrArg List.length hl
 obtain ⟨f1,f2,f3,rfl⟩ : ∃ f1 f2 f3,L = [f1,f2,f3]:=by
  rcases L with _ | ⟨f1,_ | ⟨f2,_ | ⟨f3,_ | ⟨f4,L⟩⟩⟩⟩ <;> first | exact ⟨f1,f2,f3,rfl⟩ | simp at h3
 ·simp only [List.map_cons,List.map_nil,List.cons.injEq,Prod.mk.injEq,and_true] at hl
  obtain ⟨⟨t1,o1⟩,⟨t2,o2⟩,t3,o3⟩:=hl
  have g1:=key_int (d + 1) hn
  have g2:=key_arr d ha hb hc he
  have g3:=key_arr d ha' hb' hc' he'
  simp [t1,o1,t2,o2,t3,o3,k4,k1,g1,g2,g3]
theorem wide_key {c : List Int} (hc : c.length = 18) (hz : ∀ z ∈ c,0 ≤ z ∧ z ≤ 8) : wideK Try.prog 69 (.agg (ci c)) = true:=by
 obtain ⟨a0,a1,a2,a3,a4,a5,a6,a7,a8,a9,a10,a11,a12,a13,a14,a15,a16,a17,rfl⟩:=list18 hc
 have u1 : Try.prog.underlying 69 = some (.array 2 53):=by kernel_rfl
 have k18 : Try.prog.cellsOf 69 = 18:=by kernel_rfl
 have k9 : Try.prog.cellsOf 53 = 9:=by kernel_rfl
 have kt : Try.prog.keyType 69 = true:=by kernel_rfl
 obtain ⟨d,hd⟩ : ∃ d,Try.prog.types.size = d + 3:=⟨Try.prog.types.size - 3,by kernel_rfl⟩
 have hz:=fun z h=>hz z h
 simp only [List.mem_cons,List.not_mem_nil,or_false,forall_eq_or_imp,forall_eq] at hz
 obtain ⟨z0,z1,z2,z3,z4,z5,z6,z7,z8,z9,z10,z11,z12,z13,z14,z15,z16,z17⟩:=hz
 obtain ⟨l1,h1⟩:=Option.isSome_iff_exists.1 (key_pos d z0 z1 z2 z3 z4 z5 z6 z7 z8)
 obtain ⟨l2,h2⟩:=Option.isSome_iff_exists.1 (key_pos d z9 z10 z11 z12 z13 z14 z15 z16 z17)
 unfold wideK
 dsimp only
 rw [cellKey_ci]
 dsimp only
 unfold keyOf
 rw [u1]
 dsimp only
 have hf : (Value.agg (List.map (Value.int IntKind.i64) [a0,a1,a2,a3,a4,a5,a6,a7,a8,a9,a10,a11,a12,a13,a14,a15,a16,a17]).toArray).formed Try.prog 69 = true:=by
  unfold Value.formed
  rw [u1]
  dsimp only
  rw [k18];rfl
 rw [kt,hf,hd,Bool.and_self,if_pos rfl,Option.isSome_map]
 unfold Program.keyLits
 rw [u1]
 dsimp only
 rw [show (Value.agg (List.map (Value.int IntKind.i64) [a0,a1,a2,a3,a4,a5,a6,a7,a8,a9,a10,a11,a12,a13,a14,a15,a16,a17]).toArray).cells.toList = [.int .i64 a0,.int .i64 a1,.int .i64 a2,.int .i64 a3,.int .i64 a4,.int .i64 a5,.int .i64 a6,.int .i64 a7,.int .i64 a8,.int .i64 a9,.int .i64 a10,.int .i64 a11,.int .i64 a12,.int .i64 a13,.int .i64 a14,.int .i64 a15,.int .i64 a16,.int .i64 a17] from rfl,k18,k9,show List.range 2 = [0,1] from rfl]
 simp [h1,h2]
theorem wide_mem {es : Mem} (h : KeysOk es) {c : List Int} (hc : c.length = 18) (hz : ∀ z ∈ c,0 ≤ z ∧ z ≤ 8) : wideM Try.prog 69 (.agg (ci c)) (memP es) = true:=by
 unfold wideM
 rw [wide_T,wide_key hc hz,Bool.and_self,Bool.true_and,List.all_eq_true]
 intro p hp
 obtain ⟨q,hq,rfl⟩:=List.mem_map.1 hp
 exact wide_key (h q hq).1 (h q hq).2
theorem putP_memP {c : List Int} {b : Bool} {es : Mem} : putP (.agg (ci c)) (.bool b) (memP es) ((lkM c es 0).map fun q=>(q.1,PV.bool q.2)) = memP (ptM c b es):=by
 unfold ptM
 cases lkM c es 0 with
 | none=>simp [putP,memP]
 | some q=>simp [putP,memP,List.map_set]
end Go.Proofs.Ytfhakdonenhnbaa
namespace Go.Proofs.Ytfhakdonenhnbaa
open Go Go.Pv
@[simp] theorem rg6 : List.range 6 = [0,1,2,3,4,5]:=rfl
def stG (A B : Nat) (P Q : List Pd) (c : List Int) (x r : Nat) (es : Mem) : Store:=[.rows 1 [[.ptr 4 0 0]],.rows 9 [ci c],.rows 1 [[.int .i64 (x : Int)]],.rows 1 [[.int .i64 (r : Int)]],.rows 7 [brdC A B P Q (.mapv 5)],.map (memP es)]
attribute [simp] stG
def idxS (f : Nat → Mem → Bool × Mem) : List Nat → Nat → Mem → Int × Mem
 | [],_,es=>(-1,es)
 | y :: r,i,es=>if (f y es).1 = true then ((i : Int),(f y es).2) else idxS f r (i + 1) (f y es).2
theorem idxS_any {f : Nat → Mem → Bool × Mem} : ∀ {l : List Nat} {i : Nat} {es : Mem},(0 ≤ (idxS f l i es).1 ↔ (anyS f l es).1 = true) ∧ (idxS f l i es).2 = (anyS f l es).2
 | [],_,_=>⟨⟨fun h=>absurd h (show ¬ (0 : Int) ≤ -1 by decide),fun h=>by cases h⟩,rfl⟩
 | y :: r,i,es=>by
  unfold idxS anyS
  split
  ·exact ⟨⟨fun _=>rfl,fun _=>by dsimp only;omega⟩,rfl⟩
  ·exact idxS_any
section
variable (A B : Nat) (P Q : List Pd) (c : List Int) (x r : Nat) (fid : FuncId) [EnT Try.prog fid] (f : Nat → Mem → Bool × Mem) (ok : Mem → Prop)
def x42_L0 : XC:=.seq (.reg [⟨some 9,.binOp .lss 3 (.tmp 8) (.tmp 7) 3,none⟩]) (.seq (.cond (.tmp 9) .skip (.exit 0)) (.seq (.block 1 (.seq (.reg [⟨some 10,.move (.tmp 8),none⟩,⟨some 5,.assign (.tmp 10),none⟩]) (.seq (.reg [⟨some 11,.move (.tmp 1),none⟩,⟨some 12,.move (.tmp 0),none⟩,⟨some 13,.move (.tmp 5),none⟩,⟨some 14,.indexAddr 58 (.tmp 12) (.tmp 13),none⟩,⟨some 15,.load 3 (.tmp 14),none⟩,⟨some 16,.call ⟨.value (.tmp 11),#[.tmp 15],#[3]⟩,none⟩]) (.cond (.tmp 16) (.seq (.reg [⟨some 17,.move (.tmp 5),none⟩,⟨some 4,.assign (.tmp 17),none⟩]) .ret) .skip)))) (.reg [⟨some 18,.binOp .add 3 (.tmp 8) (.const (.int .i64 1)) 3,none⟩,⟨some 8,.move (.tmp 18),none⟩])))
def x42 : XC:=.seq (.reg [⟨some 4,.assign (.const (.int .i64 0)),none⟩]) (.seq (.seq (.reg [⟨some 6,.move (.tmp 0),none⟩,⟨some 7,.call ⟨.builtin .len,#[.tmp 6],#[58]⟩,none⟩,⟨some 8,.move (.const (.int .i64 0)),none⟩]) (.bloop 0 x42_L0)) (.seq (.reg [⟨some 4,.assign (.const (.int .i64 (-1))),none⟩]) .ret))
@[simp] theorem x42_s {C e s K} : type_of% (@X_at C e s K _ _ x42_L0.eq_1) ∧ type_of% (@X_at C e s K _ _ x42.eq_1):=⟨X_at x42_L0.eq_1,X_at x42.eq_1⟩
def an42 : Ann:=⟨[],[(0,[],[0,1,7,8],[4])],[]⟩
@[simp] theorem an42_a : an42.loopOf 0 = ([],[0,1,7,8],[4]):=rfl
theorem fi42 : FI Try.prog 42 (cxA an42) x42 [.tmp 4] Try.f42:=fiA Try.func42 mixed
theorem IndexFunc_mem (l : List Nat) (hl : l.length ≤ 1000) (h : ∀ a ∈ l,∀ es,ok es → CallOK Try.prog fid [.int .i64 (a : Int),.ptr 0 0 0,.ptr 1 0 0,.ptr 2 0 0,.ptr 3 0 0] (stG A B P Q c x r es) (.bool (f a es).1) (stG A B P Q c x r (f a es).2))
  (hok : ∀ a ∈ l,∀ es,ok es → ok (f a es).2) (es : Mem) (he : ok es) : CallOK Try.prog 42 [.list (l.map numRow),.fn (.func fid) [] [.ptr 0 0 0,.ptr 1 0 0,.ptr 2 0 0,.ptr 3 0 0]] (stG A B P Q c x r es) (.int .i64 (idxS f l 0 es).1) (stG A B P Q c x r (idxS f l 0 es).2):=by
 generalize hR : idxS f l 0 es = R
 refine fi42.og ?_
 (refine Sg.h ?_;try repeat' ((with_reducible first|refine brA ?_|refine brE fun _=>?_|refine spl ⟨?_,?_⟩<;>intro _)<;>((try simp -implicitDefEqProofs);(try simp -implicitDefEqProofs(disch:=first|assumption|(try simp only[lens]);omega -splitDisjunctions)))))
 refine W_of fun Q0 hQ=>?_
 have main : ∀ n i es,i + n = l.length → ok es → idxS f (l.drop i) i es = R → Q0 [(0,.list (l.map numRow)),(1,.fn (.func fid) [] [.ptr 0 0 0,.ptr 1 0 0,.ptr 2 0 0,.ptr 3 0 0]),(7,.int .i64 (l.length : Int)),(8,.int .i64 (i : Int))] (stG A B P Q c x r es):=by
  intro n
  induction n with
  | zero=>
   intro i es hi he hR
   rw [List.drop_of_length_le (by omega)] at hR
   subst hR
   obtain rfl : i = l.length:=by omega
   apply hQ
   clear hQ
   unfold idxS
   (refine Sg.h ?_;try repeat' ((with_reducible first|refine brA ?_|refine brE fun _=>?_|refine spl ⟨?_,?_⟩<;>intro _)<;>((try simp -implicitDefEqProofs);(try simp -implicitDefEqProofs(disch:=first|assumption|(try simp only[lens]);omega -splitDisjunctions)))))
  | succ n ih=>
   intro i es hi he hR
   have hil : i < l.length:=by omega
   have hc:=h _ (List.getElem_mem hil) es he
   have he2:=hok _ (List.getElem_mem hil) es he
   rw [List.drop_eq_getElem_cons hil,idxS] at hR
   have ih:=ih (i + 1) (f l[i] es).2 (by omega) he2
   have hi' : (i : Int) < (l.length : Int):=by omega
   generalize f l[i] es = q at *
   generalize hx : l[i] = a at *
   obtain ⟨b,es2⟩:=q
   dsimp only at *
   apply hQ
   clear hQ
   cases b with
   | true=>
    rw [if_pos rfl] at hR
    subst hR
    (refine Sg.h ?_;try repeat' ((with_reducible first|refine brA ?_|refine brE fun _=>?_|refine spl ⟨?_,?_⟩<;>intro _)<;>((try simp -implicitDefEqProofs [hi',hil,hx]);(try simp -implicitDefEqProofs(disch:=first|assumption|(try simp only[lens]);omega -splitDisjunctions) [hi',hil,hx]))))
    refine CL.of hc ?_
    (refine Sg.h ?_;try repeat' ((with_reducible first|refine brA ?_|refine brE fun _=>?_|refine spl ⟨?_,?_⟩<;>intro _)<;>((try simp -implicitDefEqProofs);(try simp -implicitDefEqProofs(disch:=first|assumption|(try simp only[lens]);omega -splitDisjunctions)))))
   | false=>
    rw [if_neg (by simp)] at hR
    have ih:=ih hR
    (refine Sg.h ?_;try repeat' ((with_reducible first|refine brA ?_|refine brE fun _=>?_|refine spl ⟨?_,?_⟩<;>intro _)<;>((try simp -implicitDefEqProofs [hi',hil,hx]);(try simp -implicitDefEqProofs(disch:=first|assumption|(try simp only[lens]);omega -splitDisjunctions) [hi',hil,hx]))))
    refine CL.of hc ?_
    (refine Sg.h ?_;try repeat' ((with_reducible first|refine brA ?_|refine brE fun _=>?_|refine spl ⟨?_,?_⟩<;>intro _)<;>((try simp -implicitDefEqProofs);(try simp -implicitDefEqProofs(disch:=first|assumption|(try simp only[lens]);omega -splitDisjunctions)))))
    all_goals first|exact ih|(refine at2 ih ?_ ?_<;>simp;done)|(exfalso;first|omega|(simp_all;done)|(simp_all;omega))
 all_goals first|exact main l.length 0 es (Nat.zero_add _) he hR|(refine at2 main l.length 0 es (Nat.zero_add _) he hR ?_ ?_<;>simp;done)|(exfalso;first|omega|(simp_all;done)|(simp_all;omega))
def x26 : XC:=.seq (.reg [⟨some 4,.assign (.const (.bool false)),none⟩]) (.seq (.reg [⟨some 5,.move (.tmp 0),none⟩,⟨some 6,.move (.tmp 1),none⟩,⟨some 7,.call ⟨.value (.func 42),#[.tmp 5,.tmp 6],#[58,74]⟩,none⟩,⟨some 8,.binOp .geq 3 (.tmp 7) (.const (.int .i64 0)) 3,none⟩,⟨some 4,.assign (.tmp 8),none⟩]) .ret)
@[simp] theorem x26_s {C e s K} : type_of% (@X_at C e s K _ _ x26.eq_1):=X_at x26.eq_1
def an26 : Ann:=⟨[],[],[]⟩
theorem fi26 : FI Try.prog 26 (cxA an26) x26 [.tmp 4] Try.f26:=fiA Try.func26 mixed
theorem ContainsFunc_mem (l : List Nat) (hl : l.length ≤ 1000) (h : ∀ a ∈ l,∀ es,ok es → CallOK Try.prog fid [.int .i64 (a : Int),.ptr 0 0 0,.ptr 1 0 0,.ptr 2 0 0,.ptr 3 0 0] (stG A B P Q c x r es) (.bool (f a es).1) (stG A B P Q c x r (f a es).2))
  (hok : ∀ a ∈ l,∀ es,ok es → ok (f a es).2) (es : Mem) (he : ok es) : CallOK Try.prog 26 [.list (l.map numRow),.fn (.func fid) [] [.ptr 0 0 0,.ptr 1 0 0,.ptr 2 0 0,.ptr 3 0 0]] (stG A B P Q c x r es) (.bool (anyS f l es).1) (stG A B P Q c x r (anyS f l es).2):=by
 have hc:=IndexFunc_mem A B P Q c x r fid f ok l hl h hok es he
 obtain ⟨e1,e2⟩:=idxS_any (f:=f) (l:=l) (i:=0) (es:=es)
 rw [← e2]
 generalize idxS f l 0 es = q at *
 generalize (anyS f l es).1 = b at *
 refine fi26.og ?_
 (refine Sg.h ?_;try repeat' ((with_reducible first|refine brA ?_|refine brE fun _=>?_|refine spl ⟨?_,?_⟩<;>intro _)<;>((try simp -implicitDefEqProofs);(try simp -implicitDefEqProofs(disch:=first|assumption|(try simp only[lens]);omega -splitDisjunctions)))))
 refine CL.of hc ?_
 cases b with
 | true=>
  have h0 : 0 ≤ q.1:=e1.2 rfl
  (refine Sg.h ?_;try repeat' ((with_reducible first|refine brA ?_|refine brE fun _=>?_|refine spl ⟨?_,?_⟩<;>intro _)<;>((try simp -implicitDefEqProofs [h0]);(try simp -implicitDefEqProofs(disch:=first|assumption|(try simp only[lens]);omega -splitDisjunctions) [h0]))))
 | false=>
  have h0 : ¬ 0 ≤ q.1:=fun g=>by have:=e1.1 g;cases this
  (refine Sg.h ?_;try repeat' ((with_reducible first|refine brA ?_|refine brE fun _=>?_|refine spl ⟨?_,?_⟩<;>intro _)<;>((try simp -implicitDefEqProofs [h0]);(try simp -implicitDefEqProofs(disch:=first|assumption|(try simp only[lens]);omega -splitDisjunctions) [h0]))))
end
end Go.Proofs.Ytfhakdonenhnbaa
