import Derived.Test.YtbimioonhfhflaaAPvPan
import Derived.Test.YtbimioonhfhflaaATy
import Derived.Ground.NamesProg
import Derived.Shelf.Strings.OnBuilder
import Derived.Test.YtbimioonhfhflaaAMnD
import Derived.Test.YtbimioonhfhflaaAPvMov
import Derived.Test.YtbimioonhfhflaaAFbV
set_option linter.unusedVariables false
set_option linter.unusedSimpArgs false
set_option maxRecDepth 100000
set_option maxHeartbeats 4000000
namespace Go.Proofs
open Go.Shelf
def Try.laysJoin_ren : Go.Shelf.Ren:=⟨fun | 156=>100 | 165=>109 | 166=>110 | 169=>111 | 240=>116 | 241=>117 | 276=>120 | 277=>121 | n=>n,fun | 31=>32 | 9=>9 | 3=>3 | 4=>4 | 0=>0 | 20=>20 | 72=>153 | 76=>156 | 70=>150 | 37=>151 | 75=>155 | 127=>163 | 164=>167 | 5=>5 | 80=>158 | n=>n,fun | n=>n⟩
theorem Try.laysJoin : Go.Proofs.Lays.n156 Try.prog Try.laysJoin_ren:={
 mixed:=by kernel_rfl,
 f156:=Try.func100.trans (congrArg some (by kernel_rfl)),
 f165:=Try.func109.trans (congrArg some (by kernel_rfl)),
 f166:=Try.func110.trans (congrArg some (by kernel_rfl)),
 f169:=Try.func111.trans (congrArg some (by kernel_rfl)),
 f240:=Try.func116.trans (congrArg some (by kernel_rfl)),
 f241:=Try.func117.trans (congrArg some (by kernel_rfl)),
 f276:=Try.func120.trans (congrArg some (by kernel_rfl)),
 f277:=Try.func121.trans (congrArg some (by kernel_rfl)),
 t0:=Try.underlying0,
 a0:=Try.isAgg0,
 z0:=Try.sizeOf0,
 v0:=Try.zeroValue0,
 t3:=Try.underlying3,
 a3:=Try.isAgg3,
 z3:=Try.sizeOf3,
 v3:=Try.zeroValue3,
 t4:=Try.underlying4,
 a4:=Try.isAgg4,
 z4:=Try.sizeOf4,
 v4:=Try.zeroValue4,
 t9:=Try.underlying9,
 a9:=Try.isAgg9,
 z9:=Try.sizeOf9,
 v9:=Try.zeroValue9,
 t20:=Try.underlying20,
 a20:=Try.isAgg20,
 z20:=Try.sizeOf20,
 v20:=Try.zeroValue20,
 t31:=Try.underlying32,
 a31:=Try.isAgg32,
 z31:=Try.sizeOf32,
 v31:=Try.zeroValue32,
 t37:=Try.underlying151,
 a37:=Try.isAgg151,
 z37:=Try.sizeOf151,
 v37:=Try.zeroValue151,
 t70:=Try.underlying150,
 a70:=Try.isAgg150,
 z70:=Try.sizeOf150,
 v70:=Try.zeroValue150,
 t72:=Try.underlying153,
 a72:=Try.isAgg153,
 z72:=Try.sizeOf153,
 v72:=Try.zeroValue153,
 t75:=Try.underlying155,
 a75:=Try.isAgg155,
 z75:=Try.sizeOf155,
 v75:=Try.zeroValue155,
 t76:=Try.underlying156,
 a76:=Try.isAgg156,
 z76:=Try.sizeOf156,
 v76:=Try.zeroValue156,
 t127:=Try.underlying163,
 a127:=Try.isAgg163,
 z127:=Try.sizeOf163,
 v127:=Try.zeroValue163,
 t164:=Try.underlying167,
 a164:=Try.isAgg167,
 z164:=Try.sizeOf167,
 v164:=Try.zeroValue167 }
theorem Try.joinExtra : Builder.Extra Try.prog Try.laysJoin_ren:={
 sizeBuilder:=by kernel_rfl,
 liesBuilder:=by kernel_rfl,
 t5:=Try.underlying5,
 a5:=Try.isAgg5,
 z5:=Try.sizeOf5,
 v5:=Try.zeroValue5,
 infoByte:=by kernel_rfl,
 cellsByte:=by kernel_rfl,
 sizeByte:=by kernel_rfl,
 neB5:=by decide }
end Go.Proofs
namespace Go.Pv
open Go Go.Proofs Go.RowKit
set_option linter.unusedVariables false
set_option linter.unusedSimpArgs false
theorem SR.belowJ {C : Ctx} {p : PHeap} {σ : Sig} {s : Store} {w w' : World} (h : SR C p σ s w) (b : Below w.heap.size w w') : SR C p σ s w':=by
 have hlt : ∀ (k : Nat) (o : Obj),w.heap[k]? = some o → k < w.heap.size:=fun k o hk=>by
  rcases Nat.lt_or_ge k w.heap.size with h1 | h1
  ·exact h1
  ·rw [Array.getElem?_eq_none h1] at hk;cases hk
 exact {
  pubIn:=fun k o hk=>by
   have:=h.pubIn k o hk
   rw [b.block k (hlt k o this)];exact this
  obj:=fun i o hi=>(h.obj i o hi).mono PHeap.le.rfl' Sig.le.rfl' (fun l h1 h2 h3=>⟨b.block _ (ObjOK.alive h.obj ⟨_,hi,h1,h2,h3⟩).2,rfl⟩)
  inj:=h.inj
  sig:=h.sig
  os:=b.os.trans h.os
  tape:=b.tape.trans h.tape
  output:=b.output.trans h.output
  size:=Nat.le_trans h.size b.size
  frame:=fun k hk hd=>by
   rw [b.block k (Nat.lt_of_lt_of_le hk h.size)]
   exact h.frame k hk hd
  own:=h.own
  ple:=h.ple
  sle:=h.sle }
def joinB (l : List ByteArray) (sep : ByteArray) : ByteArray:=⟨(Lib.join (l.map (·.data.toList)) sep.data.toList).toArray⟩
theorem Join_strs (l : List ByteArray) (sep : ByteArray) (hn : l.length ≤ 1000000) (hj : (joinB l sep).size ≤ 1000000000) :
  CallOK Go.Proofs.Try.prog 100 [.list (l.map strRow),.str sep] [] (.str (joinB l sep)) []:=by
 intro pub σ w cargs hbase hargs
 obtain ⟨hsz,hrel⟩:=hargs
 have hsz2 : cargs.size = 2:=hsz
 obtain ⟨c1,c2,rfl⟩ : ∃ c1 c2,cargs = #[c1,c2]:=⟨cargs[0],cargs[1],by
  apply Array.ext (by simp [hsz2])
  intro i h1 h2
  simp only [List.size_toArray,List.length_cons,List.length_nil] at h2
  match i,h2 with
  | 0,_=>rfl
  | 1,_=>rfl⟩
 have r1:=hrel 0 _ c1 rfl rfl
 have r2:=hrel 1 _ c2 rfl rfl
 have hr : ∀ w',Below w.heap.size w w' → ∃ cv pub' σ',Ending.returned (.string (joinB l sep)) = .returned cv ∧ SR ⟨w,pub,σ,dom [] σ⟩ pub' σ' [] w' ∧ Rel pub' σ' (.str (joinB l sep)) cv:=fun w' hb=>
  ⟨_,pub,σ,rfl,(SR.start hbase).belowJ hb,.str (Nat.le_trans hj (by decide))⟩
 cases r2 with
 | str hs2=>
 have hlen : (Lib.join (l.map (·.data.toList)) sep.data.toList).length ≤ 140737488355328:=by
  have : (joinB l sep).size = (Lib.join (l.map (·.data.toList)) sep.data.toList).length:=by
   show (Lib.join _ _).toArray.size = _
   rw [List.size_toArray]
  omega
 generalize hrows : l.map strRow = rows at r1
 cases r1 with
 | list0 hc=>
  obtain rfl : l = []:=by simpa using hrows
  refine (Any.strings_Join_none (P:=Go.Proofs.Try.prog) Go.Proofs.Try.laysJoin Go.Proofs.Try.joinExtra _ _ sep w).mono ?_
  rintro e w' ⟨rfl,rfl⟩
  exact hr _ (Below.refl _ _)
 | list hb hle hcap hw hsz3 hrr=>
  rename_i b o cs ty fr esz cap
  subst hrows
  have hlt : b < w.heap.size:=by
   rcases Nat.lt_or_ge b w.heap.size with h1 | h1
   ·exact h1
   ·have := hbase.pubIn b _ hb
    rw [Array.getElem?_eq_none h1] at this;cases this
  rw [List.length_map] at hle hsz3 ⊢
  have hcell : ∀ (j : Nat) x,l[j]? = some x → w.cell? ⟨b,o + j,none⟩ = some (.string x):=by
   intro j x hx
   have hrow : (l.map strRow)[j]? = some (strRow x):=by rw [List.getElem?_map,hx];rfl
   have he : esz = 1:=(hw j _ hrow).symm
   subst he
   have hjl : j < l.length:=by
    rcases Nat.lt_or_ge j l.length with h1 | h1
    ·exact h1
    ·rw [List.getElem?_eq_none h1] at hx;cases hx
   have hlt2 : o + j < cs.size:=by omega
   have h3:=hrr j (strRow x) 0 (.str x) cs[o + j] hrow rfl (by rw [Nat.mul_one,Nat.add_zero];exact Array.getElem?_eq_getElem hlt2)
   generalize hcv : cs[o + j] = cv at h3
   cases h3 with
   | str _=>
    unfold World.cell?
    rw [hbase.pubIn b _ hb]
    simp only [Option.bind_some]
    rw [Array.getElem?_eq_getElem hlt2,hcv]
    rfl
  refine (Any.strings_Join (P:=Go.Proofs.Try.prog) Go.Proofs.Try.laysJoin Go.Proofs.Try.joinExtra b o cap l sep w hcell hlt (by omega) hle hlen).mono ?_
  rintro e w' ⟨rfl,hb2⟩
  exact hr _ hb2
end Go.Pv
namespace Go.Proofs.Ytbimioonhfhflaa
open Go Go.Pv
mutual
def wtB : Wd → ByteArray
 | .mk a []=>a
 | .mk a (x :: r)=>a ++ (⟨#[40]⟩ : ByteArray) ++ joinB (wtsB (x :: r)) ⟨#[44,32]⟩ ++ (⟨#[41]⟩ : ByteArray)
def wtsB : List Wd → List ByteArray
 | []=>[]
 | w :: r=>wtB w :: wtsB r
end
theorem wtsB_eq (l : List Wd) : wtsB l = l.map wtB:=by
 induction l with
 | nil=>rw [wtsB];rfl
 | cons f r ih=>rw [wtsB,ih];rfl
def lsB (l : List Wd) : ByteArray:=joinB (l.map wtB) ⟨#[44,32]⟩
theorem wtB_eq (w : Wd) : wtB w = if w.args = [] then w.nm else w.nm ++ (⟨#[40]⟩ : ByteArray) ++ lsB w.args ++ (⟨#[41]⟩ : ByteArray):=by
 cases w with
 | mk a l=>
  cases l with
  | nil=>rw [wtB];rfl
  | cons x r=>rw [wtB,wtsB_eq];rfl
def shW (w : Wd) : Prop:=∀ x ∈ ndW w,∀ y,x = .w y → y.nm.size ≤ 8
theorem inter_len (sep : List UInt8) : ∀ xs : List (List UInt8),(sep.intercalate xs).length ≤ (xs.map List.length).sum + sep.length * (xs.length - 1)
 | []=>by simp [List.intercalate]
 | [x]=>by simp [List.intercalate]
 | x :: y :: r=>by
  have ih:=inter_len sep (y :: r)
  have e : sep.intercalate (x :: y :: r) = x ++ sep ++ sep.intercalate (y :: r):=by
   simp [List.intercalate,List.intersperse]
  rw [e,List.length_append,List.length_append]
  simp only [List.map_cons,List.sum_cons,List.length_cons] at ih ⊢
  have : sep.length * (r.length + 1 + 1 - 1) = sep.length * (r.length + 1 - 1) + sep.length:=by
   rw [show r.length + 1 + 1 - 1 = (r.length + 1 - 1) + 1 by omega,Nat.mul_add,Nat.mul_one]
  omega
theorem joinB_len (l : List ByteArray) : (joinB l ⟨#[44,32]⟩).size ≤ (l.map ByteArray.size).sum + 2 * (l.length - 1):=by
 have h:=inter_len [44,32] (l.map (·.data.toList))
 have e : (joinB l ⟨#[44,32]⟩).size = (List.intercalate [44,32] (l.map (·.data.toList))).length:=by
  show (Lib.join _ _).toArray.size = _
  rw [List.size_toArray];rfl
 rw [e]
 refine Nat.le_trans h ?_
 rw [List.map_map,List.length_map]
 exact Nat.le_refl _
theorem ndW_kid {w v : Wd} (h : v ∈ w.args) : ∀ x ∈ ndW v,x ∈ ndW w:=by
 intro x hx
 rw [ndW_eq,List.mem_cons]
 refine .inr ?_
 have : ∀ l : List Wd,v ∈ l → x ∈ ndWs l:=by
  intro l
  induction l with
  | nil=>intro h;cases h
  | cons y r ih=>
   intro h
   rw [ndWs,List.mem_append]
   rcases List.mem_cons.1 h with rfl | h
   ·exact .inl hx
   ·exact .inr (ih h)
 exact this _ h
theorem shW_kid {w v : Wd} (hw : shW w) (h : v ∈ w.args) : shW v:=fun x hx y he=>hw x (ndW_kid h x hx) y he
theorem lsB_len (l : List Wd) (ih : ∀ w ∈ l,(wtB w).size + 2 ≤ 12 * (ndW w).length) : (lsB l).size ≤ 12 * (ndWs l).length:=by
 refine Nat.le_trans (joinB_len _) ?_
 rw [List.map_map,List.length_map]
 have : ∀ l : List Wd,(∀ w ∈ l,(wtB w).size + 2 ≤ 12 * (ndW w).length) → (l.map (ByteArray.size ∘ wtB)).sum + 2 * l.length ≤ 12 * (ndWs l).length:=by
  intro l
  induction l with
  | nil=>intro _;simp
  | cons w r ihr=>
   intro h
   have h1:=h w (by simp)
   have h2:=ihr fun w hw=>h w (by simp [hw])
   rw [ndWs,List.length_append,List.map_cons,List.sum_cons,List.length_cons]
   simp only [Function.comp_apply]
   omega
 have:=this l ih
 omega
theorem wtB_len (w : Wd) : shW w → (wtB w).size + 2 ≤ 12 * (ndW w).length:=by
 induction w using Wd.ind with
 | h w ih=>
  intro hs
  have h0 : w.nm.size ≤ 8:=hs (.w w) (by rw [ndW_eq];simp) w rfl
  have h1:=lsB_len w.args fun v hv=>ih v hv (shW_kid hs hv)
  rw [wtB_eq,ndW_eq,List.length_cons]
  split
  ·omega
  ·rw [ByteArray.size_append,ByteArray.size_append,ByteArray.size_append,show (⟨#[40]⟩ : ByteArray).size = 1 from rfl,show (⟨#[41]⟩ : ByteArray).size = 1 from rfl]
   omega
def x84_T1 : XC:=.seq (.reg [⟨some 18,.move (.tmp 3),none⟩,⟨some 19,.call ⟨.value (.func 100),#[.tmp 18,.const (.string ⟨#[44,32]⟩)],#[32,9]⟩,none⟩,⟨some 2,.assign (.tmp 19),none⟩]) .ret
def x84_L0 : XC:=.seq (.reg [⟨some 9,.binOp .lss 3 (.tmp 8) (.tmp 7) 3,none⟩]) (.seq (.cond (.tmp 9) .skip (.exit 0)) (.seq (.block 1 (.seq (.reg [⟨some 10,.indexAddr 26 (.tmp 6) (.tmp 8),none⟩,⟨some 11,.load 31 (.tmp 10),none⟩,⟨some 5,.alloc 31,none⟩,⟨none,.store 31 (.tmp 5) (.tmp 11),none⟩]) (.reg [⟨some 12,.move (.tmp 3),none⟩,⟨some 13,.load 31 (.tmp 5),none⟩,⟨some 14,.call ⟨.value (.func 85),#[.tmp 13],#[31]⟩,none⟩,⟨some 15,.buildSlice 32 1 #[(0,.tmp 14)],none⟩,⟨some 16,.call ⟨.builtin .append,#[.tmp 12,.tmp 15],#[32,32]⟩,none⟩,⟨some 3,.assign (.tmp 16),none⟩]))) (.reg [⟨some 17,.binOp .add 3 (.tmp 8) (.const (.int .i64 1)) 3,none⟩,⟨some 8,.move (.tmp 17),none⟩])))
def x84 : XC:=.seq (.reg [⟨some 2,.assign (.const (.string ⟨#[]⟩)),none⟩]) (.seq (.reg [⟨some 3,.assign (.const (.slice none 0 0)),none⟩]) (.seq (.seq (.reg [⟨some 6,.move (.tmp 0),none⟩,⟨some 7,.call ⟨.builtin .len,#[.tmp 6],#[26]⟩,none⟩,⟨some 8,.move (.const (.int .i64 0)),none⟩]) (.bloop 0 x84_L0)) (x84_T1)))
@[simp] theorem x84_s {C e s K} : type_of% (@X_at C e s K _ _ x84_T1.eq_1) ∧ type_of% (@X_at C e s K _ _ x84_L0.eq_1) ∧ type_of% (@X_at C e s K _ _ x84.eq_1):=⟨X_at x84_T1.eq_1,X_at x84_L0.eq_1,X_at x84.eq_1⟩
def an84 : Ann:=⟨[],[(0,[(3,none,1)],[3,6,7,8],[3])],[]⟩
@[simp] theorem an84_a : an84.loopOf 0 = ([(3,none,1)],[3,6,7,8],[3]):=rfl
theorem fi84 : FI Try.prog 84 (cxA an84) x84 [.tmp 2] Try.f84:=fiA Try.func84 mixed
theorem list_first (l : List Wd) (ih : ∀ w ∈ l,CallOK Try.prog 85 [.agg (wrd w)] [] (.str (wtB w)) []) (hl : l.length ≤ 1000000) (hs : (lsB l).size ≤ 1000000000) : CallOK Try.prog 84 [.list (l.map wrd)] [] (.str (lsB l)) []:=by
 have hj:=Join_strs (l.map wtB) ⟨#[44,32]⟩ (by rw [List.length_map];exact hl) hs
 change CallOK _ _ _ _ (.str (lsB l)) _ at hj
 refine fi84.op ?_
 generalize lsB l = S at *
 (refine Sg.h ?_;try repeat' ((with_reducible first|refine brA ?_|refine brE fun _=>?_|refine spl ⟨?_,?_⟩<;>intro _)<;>((try simp -implicitDefEqProofs);(try simp -implicitDefEqProofs(disch:=first|assumption|(try simp only[lens]);omega -splitDisjunctions)))))
 refine W_of fun Q hQ=>?_
 have main : ∀ n i,i + n = l.length → Q [(3,.sl 0 0 i),(6,.list (l.map wrd)),(7,.int .i64 (l.length : Int)),(8,.int .i64 (i : Int))] [.rows 1 (((l.take i).map wtB).map strRow)]:=by
  intro n
  induction n with
  | zero=>
   intro i hi
   obtain rfl : i = l.length:=by omega
   rw [List.take_of_length_le (Nat.le_refl _)]
   apply hQ
   clear hQ
   rw [List.map_map] at hj
   (refine Sg.h ?_;try repeat' ((with_reducible first|refine brA ?_|refine brE fun _=>?_|refine spl ⟨?_,?_⟩<;>intro _)<;>((try simp -implicitDefEqProofs);(try simp -implicitDefEqProofs(disch:=first|assumption|(try simp only[lens]);omega -splitDisjunctions)))))
   refine CL.giv [0] ?_
   (refine Sg.h ?_;try repeat' ((first|(with_reducible first|refine brA ?_|refine brE fun _=>?_|refine spl ⟨?_,?_⟩<;>intro _)|refine clo hj ?_)<;>((try simp -implicitDefEqProofs);(try simp -implicitDefEqProofs(disch:=first|assumption|(try simp only[lens]);omega -splitDisjunctions)))))
  | succ n ihn=>
   intro i hi
   have hil : i < l.length:=by omega
   have ihn:=ihn (i + 1) (by omega)
   have hc:=ih l[i] (List.getElem_mem hil)
   rw [take_snocE hil,List.map_append,List.map_append] at ihn
   have hlen : (l.take i).length = i:=by rw [List.length_take];omega
   generalize l.take i = T at *
   subst hlen
   have hb : (T.length + 1) * 16 ≤ 140737488355328:=by omega
   apply hQ
   clear hQ
   (refine Sg.h ?_;try repeat' ((first|(with_reducible first|refine brA ?_|refine brE fun _=>?_|refine spl ⟨?_,?_⟩<;>intro _)|refine clo hc ?_)<;>((try simp -implicitDefEqProofs [hil]);(try simp -implicitDefEqProofs(disch:=first|assumption|(try simp only[lens]);omega -splitDisjunctions) [hil]))))
   refine at2 ihn ?_ ?_ <;> simp [strRow]
 all_goals first|exact main l.length 0 (Nat.zero_add _)|(refine at2 main l.length 0 (Nat.zero_add _) ?_ ?_<;>simp;done)|(exfalso;first|omega|(simp_all;done)|(simp_all;omega))
end Go.Proofs.Ytbimioonhfhflaa
namespace Go.Proofs.Ytbimioonhfhflaa
open Go Go.Pv
inductive WdOk : Wd → Prop where
 | mk (nm : ByteArray) (l : List Wd) (h : isBigB nm = true ∨ isNameB nm = true ∧ l = []) (hl : ∀ w ∈ l,WdOk w) : WdOk (.mk nm l)
inductive ExOk : Ex → Prop where
 | pred (nm : ByteArray) (l : List Wd) (h : isBigB nm = true) (hl : ∀ w ∈ l,WdOk w) : ExOk (.mk 1 nm l [])
 | same (a b : Wd) (ha : WdOk a) (hb : WdOk b) : ExOk (.mk 2 ⟨#[]⟩ [a,b] [])
 | tru : ExOk (.mk 3 ⟨#[]⟩ [] [])
 | fal : ExOk (.mk 4 ⟨#[]⟩ [] [])
 | not (a : Ex) (ha : ExOk a) : ExOk (.mk 5 ⟨#[]⟩ [] [a])
 | and (a b : Ex) (ha : ExOk a) (hb : ExOk b) : ExOk (.mk 6 ⟨#[]⟩ [] [a,b])
 | or (a b : Ex) (ha : ExOk a) (hb : ExOk b) : ExOk (.mk 7 ⟨#[]⟩ [] [a,b])
 | then (a b : Ex) (ha : ExOk a) (hb : ExOk b) : ExOk (.mk 8 ⟨#[]⟩ [] [a,b])
 | all (nm : ByteArray) (a : Ex) (hn : isNameB nm = true) (ha : ExOk a) : ExOk (.mk 9 nm [] [a])
 | some (nm : ByteArray) (a : Ex) (hn : isNameB nm = true) (ha : ExOk a) : ExOk (.mk 10 nm [] [a])
theorem bigX_size {nm : ByteArray} (h : isBigB nm = true) : 1 ≤ nm.size ∧ nm.size ≤ 8:=by
 unfold isBigB at h
 simp only [Bool.and_eq_true,decide_eq_true_eq] at h
 exact h.1.1
theorem nameX_size {nm : ByteArray} (h : isNameB nm = true) : 1 ≤ nm.size ∧ nm.size ≤ 8:=by
 unfold isNameB at h
 rw [Bool.and_eq_true,decide_eq_true_eq] at h
 exact h.1
theorem WdOk.head {w : Wd} (h : WdOk w) : w.nm.size ≤ 8:=by
 cases h with
 | mk nm l h hl=>
  rcases h with h | ⟨h,_⟩
  ·exact (bigX_size h).2
  ·exact (nameX_size h).2
theorem WdOk.kid {w v : Wd} (h : WdOk w) (hv : v ∈ w.args) : WdOk v:=by
 cases h with
 | mk nm l h hl=>exact hl v hv
theorem ndWs_mem {x : Nd} : ∀ {l : List Wd},x ∈ ndWs l → ∃ w ∈ l,x ∈ ndW w
 | [],h=>by rw [ndWs_nil] at h;cases h
 | w :: r,h=>by
  rw [ndWs,List.mem_append] at h
  rcases h with h | h
  ·exact ⟨w,by simp,h⟩
  ·obtain ⟨v,h1,h2⟩ := ndWs_mem h
   exact ⟨v,by simp [h1],h2⟩
theorem WdOk.short {w : Wd} : WdOk w → shW w:=by
 induction w using Wd.ind with
 | h w ih=>
  intro h x hx y he
  rw [ndW_eq,List.mem_cons] at hx
  rcases hx with rfl | hx
  ·cases he;exact h.head
  ·obtain ⟨v,h1,h2⟩ := ndWs_mem hx
   exact ih v h1 (h.kid h1) x h2 y he
theorem ndW_pos (w : Wd) : 1 ≤ (ndW w).length:=by rw [ndW_eq];simp
theorem ndWs_le : ∀ l : List Wd,l.length ≤ (ndWs l).length
 | []=>by simp
 | w :: r=>by
  have:=ndWs_le r
  have:=ndW_pos w
  rw [ndWs,List.length_append,List.length_cons];omega
theorem ndWs_kid {w : Wd} : ∀ {l : List Wd},w ∈ l → (ndW w).length ≤ (ndWs l).length
 | [],h=>by cases h
 | v :: r,h=>by
  rw [ndWs,List.length_append]
  rcases List.mem_cons.1 h with rfl | h
  ·omega
  ·have:=ndWs_kid h;omega
def x85 : XC:=.seq (.reg [⟨some 1,.box 31 (.tmp 0),none⟩,⟨some 2,.assign (.const (.string ⟨#[]⟩)),none⟩]) (.seq (.seq (.reg [⟨some 3,.fieldAddr 31 (.tmp 1) 1,none⟩,⟨some 4,.load 26 (.tmp 3),none⟩,⟨some 5,.call ⟨.builtin .len,#[.tmp 4],#[26]⟩,none⟩,⟨some 6,.binOp .eql 3 (.tmp 5) (.const (.int .i64 0)) 3,none⟩]) (.cond (.tmp 6) (.seq (.reg [⟨some 7,.fieldAddr 31 (.tmp 1) 0,none⟩,⟨some 8,.load 9 (.tmp 7),none⟩,⟨some 2,.assign (.tmp 8),none⟩]) .ret) .skip)) (.seq (.drawn 3 [⟨some 9,.fieldAddr 31 (.tmp 1) 0,none⟩,⟨some 10,.load 9 (.tmp 9),none⟩,⟨some 11,.binOp .add 9 (.tmp 10) (.const (.string ⟨#[40]⟩)) 9,none⟩,⟨some 12,.fieldAddr 31 (.tmp 1) 1,none⟩,⟨some 13,.load 26 (.tmp 12),none⟩,⟨some 14,.call ⟨.value (.func 84),#[.tmp 13],#[26]⟩,none⟩,⟨some 15,.binOp .add 9 (.tmp 11) (.tmp 14) 9,none⟩,⟨some 16,.binOp .add 9 (.tmp 15) (.const (.string ⟨#[41]⟩)) 9,none⟩,⟨some 2,.assign (.tmp 16),none⟩]) .ret))
@[simp] theorem x85_s {C e s K} : type_of% (@X_at C e s K _ _ x85.eq_1):=X_at x85.eq_1
def an85 : Ann:=⟨[(3,.mix 6)],[],[]⟩
@[simp] theorem an85_a : an85.clsOf 3 = .mix 6 ∧ an85.frzOf 3 = []:=⟨rfl,rfl⟩
theorem fi85 : FI Try.prog 85 (cxA an85) x85 [.tmp 2] Try.f85:=fiA Try.func85 mixed
theorem words_first (l : List Wd) (hw : ∀ w ∈ l,WdOk w) (hn : (ndWs l).length ≤ 1000) (ih : ∀ w ∈ l,CallOK Try.prog 85 [.agg (wrd w)] [] (.str (wtB w)) []) : CallOK Try.prog 84 [.list (l.map wrd)] [] (.str (lsB l)) []:=by
 have h1:=ndWs_le l
 have h2:=lsB_len l fun v hv=>wtB_len v (hw v hv).short
 exact list_first l ih (by omega) (by omega)
theorem WordText_first (w : Wd) : WdOk w → (ndW w).length ≤ 1000 → CallOK Try.prog 85 [.agg (wrd w)] [] (.str (wtB w)) []:=by
 induction w using Wd.ind with
 | h w ih=>
  intro hw hn
  rw [ndW_eq,List.length_cons] at hn
  have hl:=words_first w.args (fun v hv=>hw.kid hv) (by omega) (fun v hv=>ih v hv (hw.kid hv) (by have:=ndWs_kid hv;omega))
  have h1:=ndWs_le w.args
  have h2:=lsB_len w.args fun v hv=>wtB_len v (hw.kid hv).short
  have h3:=hw.head
  rw [wtB_eq]
  generalize lsB w.args = S at *
  refine fi85.op ?_
  by_cases ha : w.args = []
  ·rw [if_pos ha]
   (refine Sg.h ?_;try repeat' ((with_reducible first|refine brA ?_|refine brE fun _=>?_|refine spl ⟨?_,?_⟩<;>intro _)<;>((try simp -implicitDefEqProofs [ha]);(try simp -implicitDefEqProofs(disch:=first|assumption|(try simp only[lens]);omega -splitDisjunctions) [ha]))))
  ·rw [if_neg ha]
   (refine Sg.h ?_;try repeat' ((first|(with_reducible first|refine brA ?_|refine brE fun _=>?_|refine spl ⟨?_,?_⟩<;>intro _)|refine clo hl ?_)<;>((try simp -implicitDefEqProofs [ha]);(try simp -implicitDefEqProofs(disch:=first|assumption|(try simp only[lens]);omega -splitDisjunctions) [ha]))))
   repeat' (first | refine And.intro ?_ ?_)
   all_goals (try omega)
theorem list_firstOk (l : List Wd) (hw : ∀ w ∈ l,WdOk w) (hn : (ndWs l).length ≤ 1000) : CallOK Try.prog 84 [.list (l.map wrd)] [] (.str (lsB l)) []:=
 words_first l hw hn fun w h=>WordText_first w (hw w h) (by have:=ndWs_kid h;omega)
def x86 : XC:=.seq (.reg [⟨some 2,.assign (.const (.int .i64 0)),none⟩]) (.seq (.seq (.reg [⟨some 3,.move (.tmp 0),none⟩]) (.block 0 (.seq (.reg [⟨some 5,.binOp .eql 3 (.tmp 3) (.const (.int .i64 8)) 3,none⟩,⟨some 4,.assign (.tmp 5),none⟩]) (.cond (.tmp 4) (.seq (.reg [⟨some 2,.assign (.const (.int .i64 1)),none⟩]) .ret) (.seq (.reg [⟨some 7,.binOp .eql 3 (.tmp 3) (.const (.int .i64 7)) 3,none⟩,⟨some 6,.assign (.tmp 7),none⟩]) (.cond (.tmp 6) (.seq (.reg [⟨some 2,.assign (.const (.int .i64 2)),none⟩]) .ret) (.seq (.reg [⟨some 9,.binOp .eql 3 (.tmp 3) (.const (.int .i64 6)) 3,none⟩,⟨some 8,.assign (.tmp 9),none⟩]) (.cond (.tmp 8) (.seq (.reg [⟨some 2,.assign (.const (.int .i64 3)),none⟩]) .ret) .skip)))))))) (.seq (.reg [⟨some 2,.assign (.const (.int .i64 4)),none⟩]) .ret))
@[simp] theorem x86_s {C e s K} : type_of% (@X_at C e s K _ _ x86.eq_1):=X_at x86.eq_1
def an86 : Ann:=⟨[],[],[]⟩
theorem fi86 : FI Try.prog 86 (cxA an86) x86 [.tmp 2] Try.f86:=fiA Try.func86 mixed
def levelX (k : Int) : Int:=if k = 8 then 1 else if k = 7 then 2 else if k = 6 then 3 else 4
theorem level_first (k : Int) : CallOK Try.prog 86 [.int .i64 k] [] (.int .i64 (levelX k)) []:=by
 refine fi86.op ?_
 (refine Sg.h ?_;try repeat' ((with_reducible first|refine brA ?_|refine brE fun _=>?_|refine spl ⟨?_,?_⟩<;>intro _)<;>((try simp -implicitDefEqProofs);(try simp -implicitDefEqProofs(disch:=first|assumption|(try simp only[lens]);omega -splitDisjunctions)))))
 all_goals simp_all [levelX]
def parX (s : ByteArray) (k least : Int) : ByteArray:=if levelX k < least then (⟨#[40]⟩ : ByteArray) ++ s ++ (⟨#[41]⟩ : ByteArray) else s
def predB (nm : ByteArray) (l : List Wd) : ByteArray:=if l = [] then nm else nm ++ ((⟨#[40]⟩ : ByteArray) ++ lsB l ++ (⟨#[41]⟩ : ByteArray))
mutual
def sdX : Ex → Int → ByteArray
 | .mk k nm ws l=>fun least=>
  let a:=((sdXs l)[0]?).getD fun _=>⟨#[]⟩
  let b:=((sdXs l)[1]?).getD fun _=>⟨#[]⟩
  parX (if k = 1 then predB nm ws else if k = 2 then (ws[0]?.map wtB).getD ⟨#[]⟩ ++ (⟨#[32,61,32]⟩ : ByteArray) ++ (ws[1]?.map wtB).getD ⟨#[]⟩ else if k = 3 then ⟨#[49]⟩ else if k = 4 then ⟨#[48]⟩ else if k = 5 then (⟨#[126]⟩ : ByteArray) ++ a 4
   else if k = 9 then (⟨#[33]⟩ : ByteArray) ++ nm ++ (⟨#[32]⟩ : ByteArray) ++ a 4 else if k = 10 then (⟨#[63]⟩ : ByteArray) ++ nm ++ (⟨#[32]⟩ : ByteArray) ++ a 4
   else if k = 6 then a 3 ++ (⟨#[32,38,32]⟩ : ByteArray) ++ b 4 else if k = 7 then a 2 ++ (⟨#[32,124,32]⟩ : ByteArray) ++ b 3 else if k = 8 then a 2 ++ (⟨#[32,45,62,32]⟩ : ByteArray) ++ b 1 else ⟨#[]⟩) k least
def sdXs : List Ex → List (Int → ByteArray)
 | []=>[]
 | f :: r=>sdX f :: sdXs r
end
theorem parX_size (s : ByteArray) (k least : Int) : (parX s k least).size ≤ s.size + 2:=by
 unfold parX;split
 ·simp only [ByteArray.size_append];show 1 + s.size + 1 ≤ _;omega
 ·omega
theorem ndE_len0 (k : Int) (nm : ByteArray) (ws : List Wd) : (ndE (.mk k nm ws [])).length = 1 + (ndWs ws).length:=by rw [ndE_eq];simp;omega
theorem ndE_len1 (k : Int) (nm : ByteArray) (a : Ex) : (ndE (.mk k nm [] [a])).length = 1 + (ndE a).length:=by rw [ndE_eq];simp [ndEs];omega
theorem ndE_len2 (k : Int) (nm : ByteArray) (a b : Ex) : (ndE (.mk k nm [] [a,b])).length = 1 + (ndE a).length + (ndE b).length:=by rw [ndE_eq];simp [ndEs];omega
theorem ndWs_two (a b : Wd) : (ndWs [a,b]).length = (ndW a).length + (ndW b).length:=by simp [ndWs]
theorem predB_size {nm : ByteArray} {l : List Wd} (h : isBigB nm = true) (hl : ∀ w ∈ l,WdOk w) : (predB nm l).size ≤ 10 + 12 * (ndWs l).length:=by
 have h1:=bigX_size h
 have h2:=lsB_len l fun v hv=>wtB_len v (hl v hv).short
 unfold predB
 split
 ·omega
 ·simp only [ByteArray.size_append]
  show nm.size + (1 + (lsB l).size + 1) ≤ _
  omega
theorem sdX_size (e : Ex) (h : ExOk e) : ∀ least,(sdX e least).size ≤ 20 * (ndE e).length:=by
 induction h with
 | pred nm l h hl=>
  intro least
  refine Nat.le_trans (parX_size _ _ _) ?_
  have:=predB_size h hl
  simp [ndE_len0];omega
 | same a b ha hb=>
  intro least
  refine Nat.le_trans (parX_size _ _ _) ?_
  have h1:=wtB_len a ha.short
  have h2:=wtB_len b hb.short
  simp [ndE_len0,ndWs_two];omega
 | tru=>intro least;refine Nat.le_trans (parX_size _ _ _) ?_;simp [ndE_len0]
 | fal=>intro least;refine Nat.le_trans (parX_size _ _ _) ?_;simp [ndE_len0]
 | not a ha ih=>intro least;refine Nat.le_trans (parX_size _ _ _) ?_;have:=ih 4;simp [sdXs,ndE_len1];omega
 | and a b ha hb iha ihb=>intro least;refine Nat.le_trans (parX_size _ _ _) ?_;have:=iha 3;have:=ihb 4;simp [sdXs,ndE_len2];omega
 | or a b ha hb iha ihb=>intro least;refine Nat.le_trans (parX_size _ _ _) ?_;have:=iha 2;have:=ihb 3;simp [sdXs,ndE_len2];omega
 | «then» a b ha hb iha ihb=>intro least;refine Nat.le_trans (parX_size _ _ _) ?_;have:=iha 2;have:=ihb 1;simp [sdXs,ndE_len2];omega
 | all nm a hn ha ih=>intro least;refine Nat.le_trans (parX_size _ _ _) ?_;have:=ih 4;have:=nameX_size hn;simp [sdXs,ndE_len1];omega
 | some nm a hn ha ih=>intro least;refine Nat.le_trans (parX_size _ _ _) ?_;have:=ih 4;have:=nameX_size hn;simp [sdXs,ndE_len1];omega
end Go.Proofs.Ytbimioonhfhflaa
namespace Go.Proofs.Ytbimioonhfhflaa
open Go Go.Pv
theorem nodesWs_in {w : Wd} {x : Nd} : ∀ {l : List Wd},w ∈ l → x ∈ ndW w → x ∈ ndWs l
 | [],h,_=>by cases h
 | v :: r,h,hx=>by
  rw [ndWs,List.mem_append]
  rcases List.mem_cons.1 h with rfl | h
  ·exact .inl hx
  ·exact .inr (nodesWs_in h hx)
theorem fineWd (w : Wd) : (∀ x ∈ ndW w,∃ o,chkN x = .ok o) → WdOk w:=by
 induction w using Wd.ind with
 | h w ih=>
  intro h
  obtain ⟨o,ho⟩:=h (.w w) (by rw [ndW_eq];simp)
  have hk : ∀ v ∈ w.args,WdOk v:=fun v hv=>ih v hv fun x hx=>h x (by rw [ndW_eq];exact List.mem_cons_of_mem _ (nodesWs_in hv hx))
  cases w with
  | mk nm l=>
   refine .mk nm l ?_ hk
   rw [chkN,chkW] at ho
   split at ho
   ·rename_i hb;exact .inl hb
   split at ho
   ·rename_i hn
    split at ho
    ·cases ho
    ·rename_i hl
     exact .inr ⟨hn,List.eq_nil_of_length_eq_zero (by have : ¬ 0 < l.length:=hl;omega)⟩
   ·cases ho
def IdL (L : Mw) : Prop:=∀ p ∈ L,isNameB p.1 = true ∧ p.2 = .mk p.1 []
theorem idL_taken {L : Mw} (h : IdL L) (z : ByteArray) : takenX L z = [z]:=by
 unfold takenX
 cases hl : lookW z L with
 | none=>rfl
 | some w=>
  obtain ⟨h1,h2⟩:=h _ (lookW_mem hl)
  dsimp only at h1 h2 ⊢
  rw [h2,varsW_eq]
  show (if isNameB z = true then [z] else _) = _
  rw [if_pos h1]
theorem big_name {a : ByteArray} (h : isBigB a = true) : isNameB a = false:=by
 cases hn : isNameB a with
 | false=>rfl
 | true=>rw [name_notbig hn] at h;cases h
theorem putW_self {L : Mw} (hL : IdL L) (w : Wd) : WdOk w → putW L w = w:=by
 induction w using Wd.ind with
 | h w ih=>
  intro hw
  rw [putW_eq]
  cases hl : lookW w.nm L with
  | some v=>
   obtain ⟨h1,h2⟩:=hL _ (lookW_mem hl)
   dsimp only at h1 h2 ⊢
   rw [h2]
   cases hw with
   | mk nm l h hk=>
    rcases h with h | ⟨_,rfl⟩
    ·have := big_name h
     rw [show (Wd.mk nm l).nm = nm from rfl] at h1
     rw [this] at h1;cases h1
    ·rfl
  | none=>
   dsimp only
   cases hw with
   | mk nm l h hk=>
    have hm : l.map (putW L) = l.map id:=List.map_congr_left fun x hx=>ih x hx (hk x hx)
    show Wd.mk nm (l.map (putW L)) = Wd.mk nm l
    rw [hm,List.map_id]
theorem putX_self {sc : List ByteArray → List ByteArray} (hsc : ∀ l y,y ∈ sc l ↔ y ∈ l) (e : Ex) : ∀ L : Mw,IdL L → (∀ x ∈ ndE e,∃ o,chkN x = .ok o) → putX sc freshN e L = e:=by
 induction e using Ex.ind with
 | h e ih=>
  intro L hL hok
  have hws : e.words.map (putW L) = e.words:=by
   rw [List.map_congr_left (g:=id) fun x hx=>putW_self hL x (fineWd x fun y hy=>hok y (by rw [ndE_eq];exact List.mem_cons_of_mem _ (List.mem_append_left _ (nodesWs_in hx hy)))),List.map_id]
  have hks : ∀ L',IdL L' → (e.kids.map fun q=>putX sc freshN q L') = e.kids:=fun L' hL'=>by
   rw [List.map_congr_left (g:=id) fun x hx=>ih x hx L' hL' fun y hy=>hok y (by rw [ndE_eq];exact List.mem_cons_of_mem _ (List.mem_append_right _ (ndEs_mem hx hy))),List.map_id]
  rw [putX_eq,hws]
  split
  ·rename_i hQ
   have hnf : e.nm ∉ freeX sc e:=by
    rw [freeX_eq,hsc,if_pos hQ,List.mem_filter]
    simp
   have hnew : newNm freshN L e.nm (freeX sc e) = e.nm:=by
    unfold newNm freshN
    rw [if_neg]
    rw [hasB_iff,List.mem_flatMap]
    rintro ⟨z,hz,hy⟩
    rw [idL_taken hL,List.mem_singleton] at hy
    exact hnf (hy ▸ hz)
   have hmap : mapX freshN L e.nm (freeX sc e) = nowL L (freeX sc e):=by
    unfold mapX
    rw [hnew,if_neg (fun g=>g rfl),List.append_nil]
   rw [hnew,hmap,hks _ fun p hp=>hL p (now_sub hp)]
   cases e;rfl
  ·rw [hks L hL]
   cases e;rfl
section
variable {sc : List ByteArray → List ByteArray} {fr : ByteArray → List ByteArray → ByteArray}
theorem vars_put2 {L : Mw} {y z : ByteArray} (w : Wd) (hN : NamesL L) : z ∈ varsW w → y ∈ takenX L z → y ∈ varsW (putW L w):=by
 induction w using Wd.ind with
 | h w ih=>
  intro hz hy
  rw [varsW_eq] at hz
  rw [putW_eq]
  by_cases hn : isNameB w.nm = true
  ·rw [if_pos hn,List.mem_singleton] at hz
   subst hz
   unfold takenX at hy
   cases hl : lookW w.nm L with
   | some v=>rw [hl] at hy;exact hy
   | none=>
    rw [hl] at hy
    dsimp only at hy ⊢
    rw [varsW_eq]
    show y ∈ (if isNameB w.nm = true then [w.nm] else _)
    rw [if_pos hn];exact hy
  ·rw [if_neg hn] at hz
   have hl : lookW w.nm L = none:=by
    cases hl : lookW w.nm L with
    | none=>rfl
    | some v=>exact absurd (hN _ (lookW_mem hl)) hn
   rw [hl]
   dsimp only
   rw [varsW_eq]
   show y ∈ (if isNameB w.nm = true then [w.nm] else varsWs (w.args.map (putW L)))
   rw [if_neg hn]
   obtain ⟨v,hv,hzv⟩:=varsWs_mem.1 hz
   exact varsWs_mem.2 ⟨_,List.mem_map.2 ⟨v,hv,rfl⟩,ih v hv hzv hy⟩
theorem free_put2 (hsc : ∀ l y,y ∈ sc l ↔ y ∈ l) (hfr : ∀ a t,fr a t ∉ t) {y z : ByteArray} (e : Ex) : ∀ L : Mw,NamesL L → noW e = true → okQ e = true → z ∈ freeX sc e → y ∈ takenX L z → y ∈ freeX sc (putX sc fr e L):=by
 induction e using Ex.ind with
 | h e ih=>
  intro L hN hno hq hz hy
  have hz0:=hz
  rw [noW_eq,Bool.and_eq_true,List.all_eq_true] at hno
  rw [okQ_eq,Bool.and_eq_true,List.all_eq_true] at hq
  rw [freeX_eq,hsc] at hz
  rw [putX_eq]
  cases hQ : isQ e.k with
  | false=>
   rw [hQ,if_neg (by simp)] at hz
   rw [if_neg (by simp),freeX_eq,hsc]
   simp only [ex_mk]
   rw [hQ,if_neg (by simp),List.mem_append]
   rcases List.mem_append.1 hz with h | h
   ·obtain ⟨w,hw,hzw⟩ := varsWs_mem.1 h
    exact .inl (varsWs_mem.2 ⟨_,List.mem_map.2 ⟨w,hw,rfl⟩,vars_put2 w hN hzw hy⟩)
   ·obtain ⟨q,hqm,hzq⟩ := (freeXs_mem sc).1 h
    exact .inr ((freeXs_mem sc).2 ⟨_,List.mem_map.2 ⟨q,hqm,rfl⟩,ih q hqm L hN (hno.2 q hqm) (hq.2 q hqm) hzq hy⟩)
  | true=>
   rw [hQ,if_pos rfl,List.mem_filter] at hz
   have hzn : z ≠ e.nm:=by simpa using hz.2
   have hn : isNameB e.nm = true:=by have:=hq.1;rw [hQ] at this;simpa using this
   have hws : e.words = []:=by
    have:=hno.1
    rw [hQ,Bool.not_true,Bool.false_or,List.isEmpty_iff] at this
    exact this
   rw [if_pos rfl,freeX_eq,hsc]
   simp only [ex_mk]
   rw [hQ,if_pos rfl,List.mem_filter]
   rw [hws,varsWs,List.nil_append] at hz
   obtain ⟨q,hqm,hzq⟩:=(freeXs_mem sc).1 hz.1
   have hyn : y ≠ newNm fr L e.nm (freeX sc e):=fun g=>hfr e.nm ((freeX sc e).flatMap (takenX L)) (by
    have : newNm fr L e.nm (freeX sc e) ∈ (freeX sc e).flatMap (takenX L):=by rw [← g];exact List.mem_flatMap.2 ⟨z,hz0,hy⟩
    exact this)
   have hyt : y ∈ takenX (mapX fr L e.nm (freeX sc e)) z:=by
    unfold takenX mapX
    rw [lookW_app,lookW_in hz0]
    unfold takenX at hy
    cases hl : lookW z L with
    | some w=>rw [hl] at hy;exact hy
    | none=>
     rw [hl] at hy
     dsimp only
     have : lookW z (if newNm fr L e.nm (freeX sc e) ≠ e.nm then [(e.nm,Wd.mk (newNm fr L e.nm (freeX sc e)) [])] else []) = none:=by
      split
      ·rw [lookW,if_neg hzn,lookW]
      ·rfl
     rw [this];exact hy
   refine ⟨List.mem_append_right _ ((freeXs_mem sc).2 ⟨_,List.mem_map.2 ⟨q,hqm,rfl⟩,ih q hqm _ (map_names hN hn) (hno.2 q hqm) (hq.2 q hqm) hzq hyt⟩),?_⟩
   simpa using hyn
end
theorem vars_has {n : ByteArray} (w : Wd) : n ∈ varsW w → hasW n w = true:=by
 induction w using Wd.ind with
 | h w ih=>
  intro h
  rw [varsW_eq] at h
  rw [hasW_eq,Bool.or_eq_true]
  split at h
  ·rw [List.mem_singleton] at h;exact .inl (decide_eq_true h.symm)
  ·right
   obtain ⟨v,hv,hn⟩:=varsWs_mem.1 h
   have hh:=ih v hv hn
   have : ∀ l : List Wd,v ∈ l → hasWs n l = true:=by
    intro l
    induction l with
    | nil=>intro g;cases g
    | cons a r ihr=>
     intro g
     rw [hasWs,Bool.or_eq_true]
     rcases List.mem_cons.1 g with rfl | g
     ·exact .inl hh
     ·exact .inr (ihr g)
   exact this _ hv
theorem swaps {e : Ex} {nm : ByteArray} {w : Wd} (h : (putF e nm w).1 = 0) : (∀ c ∈ freeX scL (putO e nm w),(c ∈ freeX scL e ∧ c ≠ nm) ∨ (nm ∈ freeX scL e ∧ hasW c w = true)) ∧ ∀ a ∈ freeX scL e,a ≠ nm → a ∈ freeX scL (putO e nm w):=by
 obtain ⟨h1,h2,h3,h4,_,_⟩:=putF_zero h
 obtain ⟨e2,eW,eQ⟩:=shapes_of (checkM_ok h1).2
 obtain ⟨p2,pW,pQ⟩:=shapes_of (checkM_ok h4).2
 have hNL : NamesL [(nm,w)]:=fun p hp=>by rw [List.mem_singleton] at hp;rw [hp];exact h2
 have hsc : ∀ l y,y ∈ scL l ↔ y ∈ l:=fun l=>(comp_ok l).2
 constructor
 ·intro c hc
  obtain ⟨z,hz,hy⟩:=free_put hsc freshN_new e _ hNL eW eQ pQ hc
  unfold takenX at hy
  rw [lookW] at hy
  by_cases hzn : z = nm
  ·rw [if_pos hzn] at hy
   exact .inr ⟨hzn ▸ hz,vars_has w hy⟩
  ·rw [if_neg hzn,lookW,List.mem_singleton] at hy
   subst hy
   exact .inl ⟨hz,hzn⟩
 ·intro a ha hne
  refine free_put2 hsc freshN_new e _ hNL eW eQ ha ?_
  unfold takenX
  rw [lookW,if_neg hne,lookW]
  simp
theorem put_itself {e : Ex} {nm : ByteArray} (h : (putF e nm (.mk nm [])).1 = 0) : putO e nm (.mk nm []) = e:=by
 obtain ⟨h1,h2,_⟩:=putF_zero h
 exact putX_self (fun l=>(comp_ok l).2) e _ (fun p hp=>by rw [List.mem_singleton.1 hp];exact ⟨h2,rfl⟩) (checkM_ok h1).2
end Go.Proofs.Ytbimioonhfhflaa
