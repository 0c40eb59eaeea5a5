import Derived.Test.YtlcplnafkeklaaaBMnM
import Derived.Test.YtlcplnafkeklaaaBMnW
import Derived.Test.YtlcplnafkeklaaaBFaJ
import Derived.Test.YtlcplnafkeklaaaBMnH
import Derived.Test.YtlcplnafkeklaaaBMoB
set_option linter.unusedVariables false
set_option linter.unusedSimpArgs false
set_option maxRecDepth 100000
set_option maxHeartbeats 4000000
namespace Go.Proofs.Ytlcplnafkeklaaa
open Go Go.Pv
theorem callOK_softA {P : Program} {f : FuncId} {args args' : List PV} {v : PV} {s s' : Store} (h : CallOK P f args' s v s') (hs : SoftL args' args) : CallOK P f args s v s':=by
 intro pub σ w cargs hb ha
 have hg:=hs.get (pub:=pub)
 refine h pub σ w cargs hb ⟨by rw [ha.1,hg.1],fun j x y hx hy=>?_⟩
 have hjl:=lt_of_getElem? hx
 have hyj : args[j]? = some (args[j]'(by have:=hg.1;omega)):=List.getElem?_eq_getElem _
 exact hg.2 j x _ hx hyj σ y (ha.2 j _ y hyj hy)
def x32 : XC:=.seq (.reg [⟨some 3,.box 64 (.tmp 0),none⟩,⟨some 4,.box 29 (.tmp 1),none⟩,⟨some 5,.box 63 (.tmp 2),none⟩,⟨some 6,.assign (.const (.bool false)),none⟩]) (.seq (.reg [⟨some 7,.alloc 4,none⟩,⟨none,.store 4 (.tmp 7) (.const (.bool true)),none⟩]) (.seq (.reg [⟨some 8,.alloc 86,none⟩]) (.seq (.reg [⟨some 10,.makeFunc (.func 49) #[] #[.tmp 5,.tmp 7,.tmp 3,.tmp 8],none⟩,⟨none,.store 86 (.tmp 8) (.tmp 10),none⟩]) (.seq (.reg [⟨some 9,.alloc 90,none⟩]) (.seq (.reg [⟨some 11,.makeFunc (.func 51) #[] #[.tmp 3,.tmp 7,.tmp 8,.tmp 9],none⟩,⟨none,.store 90 (.tmp 9) (.tmp 11),none⟩]) (.seq (.reg [⟨some 12,.load 90 (.tmp 9),none⟩,⟨some 13,.load 29 (.tmp 4),none⟩,⟨some 14,.call ⟨.value (.tmp 12),#[.tmp 13,.const (.slice none 0 0)],#[29,30]⟩,none⟩]) (.seq (.reg [⟨some 15,.load 4 (.tmp 7),none⟩,⟨some 6,.assign (.tmp 15),none⟩]) .ret)))))))
@[simp] theorem x32_s {C e s K} : type_of% (@X_at C e s K _ _ x32.eq_1):=X_at x32.eq_1
def an32 : Ann:=⟨[],[],[]⟩
theorem fi32 : FI Try.prog 32 (cxA an32) x32 [.tmp 6] Try.f32:=fiA Try.func32 mixed
theorem known_world (N : Int) (F : List Fn) (P : List Pd) (e : Ex) (L : Ev) (hn : (ndE e).length ≤ 1000000) : CallOK Try.prog 32 [worldOf N F P,.agg (exr e),.imap (mapI L)] [] (.bool (exK F P L e [])) []:=by
 have hc:=known2_world N F P e L e [] (by simpa using hn) true
 unfold worldOf
 refine fi32.op ?_
 (refine Sg.h ?_;try repeat' ((with_reducible first|refine brA ?_|refine brE fun _=>?_|refine spl ⟨?_,?_⟩<;>intro _)<;>((try simp -implicitDefEqProofs);(try simp -implicitDefEqProofs(disch:=first|assumption|(try simp only[lens]);omega -splitDisjunctions)))))
 refine cl_kx (rest:=[]) (callOK_softA hc (.cons .refl (.cons .nil (.cons .refl (.cons .refl (.cons .refl (.cons .refl .nil))))))) ?_
 (refine Sg.h ?_;try repeat' ((with_reducible first|refine brA ?_|refine brE fun _=>?_|refine spl ⟨?_,?_⟩<;>intro _)<;>((try simp -implicitDefEqProofs);(try simp -implicitDefEqProofs(disch:=first|assumption|(try simp only[lens]);omega -splitDisjunctions)))))
def x10_T1 : XC:=.seq (.reg [⟨some 75,.load 25 (.tmp 4),none⟩,⟨some 76,.call ⟨.value (.func 31),#[.tmp 75],#[25]⟩,none⟩,⟨some 15,.assign (.tmp 76),none⟩]) (.seq (.seq (.reg [⟨some 77,.move (.tmp 15),none⟩,⟨some 78,.load 29 (.tmp 5),none⟩,⟨some 79,.move (.tmp 12),none⟩,⟨some 80,.call ⟨.value (.func 32),#[.tmp 77,.tmp 78,.tmp 79],#[64,29,63]⟩,none⟩,⟨some 81,.unOp .not 4 (.tmp 80),none⟩]) (.cond (.tmp 81) (.seq (.reg [⟨some 82,.call ⟨.value (.func 22),#[.const (.int .i64 6),.const (.int .i64 0)],#[3,3]⟩,none⟩,⟨some 8,.assign (.const (.bool false)),none⟩,⟨none,.store 36 (.tmp 9) (.tmp 82),none⟩]) .ret) .skip)) (.seq (.seq (.drawn 22 [⟨some 83,.fieldAddr 25 (.tmp 4) 0,none⟩,⟨some 84,.load 3 (.tmp 83),none⟩,⟨some 85,.load 29 (.tmp 5),none⟩,⟨some 86,.call ⟨.value (.func 33),#[.tmp 85],#[29]⟩,none⟩,⟨some 87,.call ⟨.builtin .min,#[.tmp 86,.const (.int .i64 6)],#[3,3]⟩,none⟩,⟨some 88,.call ⟨.value (.func 26),#[.tmp 84,.tmp 87],#[3,3]⟩,none⟩,⟨some 89,.binOp .gtr 3 (.tmp 88) (.const (.int .i64 5000)) 3,none⟩,⟨some 90,.move (.tmp 89),none⟩,⟨some 91,.load 29 (.tmp 5),some (some 90,false)⟩,⟨some 92,.call ⟨.value (.func 33),#[.tmp 91],#[29]⟩,some (some 90,false)⟩,⟨some 93,.binOp .gtr 3 (.tmp 92) (.const (.int .i64 6)) 3,some (some 90,false)⟩,⟨some 94,.pick (.tmp 90) (.const (.bool true)) (.tmp 93),none⟩]) (.cond (.tmp 94) (.seq (.reg [⟨some 95,.call ⟨.value (.func 22),#[.const (.int .i64 2),.const (.int .i64 0)],#[3,3]⟩,none⟩,⟨some 8,.assign (.const (.bool false)),none⟩,⟨none,.store 36 (.tmp 9) (.tmp 95),none⟩]) .ret) .skip)) (.seq (.reg [⟨some 96,.move (.tmp 15),none⟩,⟨some 97,.load 29 (.tmp 5),none⟩,⟨some 98,.move (.tmp 12),none⟩,⟨some 99,.call ⟨.value (.func 34),#[.tmp 96,.tmp 97,.tmp 98],#[64,29,63]⟩,none⟩,⟨some 100,.build 36 #[],none⟩,⟨some 8,.assign (.tmp 99),none⟩,⟨none,.store 36 (.tmp 9) (.tmp 100),none⟩]) .ret)))
def x10_L0 : XC:=.seq (.reg [⟨some 43,.binOp .lss 3 (.tmp 42) (.tmp 41) 3,none⟩]) (.seq (.cond (.tmp 43) .skip (.exit 0)) (.seq (.block 1 (.seq (.reg [⟨some 44,.move (.tmp 42),none⟩,⟨some 45,.indexAddr 30 (.tmp 40) (.tmp 42),none⟩,⟨some 46,.load 9 (.tmp 45),none⟩,⟨some 13,.assign (.tmp 44),none⟩,⟨some 14,.assign (.tmp 46),none⟩]) (.seq (.seq (.reg [⟨some 47,.move (.tmp 14),none⟩,⟨some 48,.call ⟨.value (.func 30),#[.tmp 47],#[9]⟩,none⟩,⟨some 49,.unOp .not 4 (.tmp 48),none⟩]) (.cond (.tmp 49) (.seq (.reg [⟨some 50,.move (.tmp 13),none⟩,⟨some 51,.call ⟨.value (.func 22),#[.const (.int .i64 8),.tmp 50],#[3,3]⟩,none⟩,⟨some 8,.assign (.const (.bool false)),none⟩,⟨none,.store 36 (.tmp 9) (.tmp 51),none⟩]) .ret) .skip)) (.seq (.seq (.drawn 15 [⟨some 52,.move (.tmp 3),none⟩,⟨some 53,.move (.tmp 13),none⟩,⟨some 54,.indexAddr 31 (.tmp 52) (.tmp 53),none⟩,⟨some 55,.load 3 (.tmp 54),none⟩,⟨some 56,.binOp .lss 3 (.tmp 55) (.const (.int .i64 0)) 3,none⟩,⟨some 57,.move (.tmp 56),none⟩,⟨some 58,.move (.tmp 3),some (some 57,false)⟩,⟨some 59,.move (.tmp 13),some (some 57,false)⟩,⟨some 60,.indexAddr 31 (.tmp 58) (.tmp 59),some (some 57,false)⟩,⟨some 61,.load 3 (.tmp 60),some (some 57,false)⟩,⟨some 62,.fieldAddr 25 (.tmp 4) 0,some (some 57,false)⟩,⟨some 63,.load 3 (.tmp 62),some (some 57,false)⟩,⟨some 64,.binOp .geq 3 (.tmp 61) (.tmp 63) 3,some (some 57,false)⟩,⟨some 65,.pick (.tmp 57) (.const (.bool true)) (.tmp 64),none⟩]) (.cond (.tmp 65) (.seq (.reg [⟨some 66,.move (.tmp 13),none⟩,⟨some 67,.call ⟨.value (.func 22),#[.const (.int .i64 3),.tmp 66],#[3,3]⟩,none⟩,⟨some 8,.assign (.const (.bool false)),none⟩,⟨none,.store 36 (.tmp 9) (.tmp 67),none⟩]) .ret) .skip)) (.reg [⟨some 68,.move (.tmp 12),none⟩,⟨some 69,.move (.tmp 14),none⟩,⟨some 70,.move (.tmp 3),none⟩,⟨some 71,.move (.tmp 13),none⟩,⟨some 72,.indexAddr 31 (.tmp 70) (.tmp 71),none⟩,⟨some 73,.load 3 (.tmp 72),none⟩,⟨none,.mapUpdate 63 (.tmp 68) (.tmp 69) (.tmp 73),none⟩]))))) (.reg [⟨some 74,.binOp .add 3 (.tmp 42) (.const (.int .i64 1)) 3,none⟩,⟨some 42,.move (.tmp 74),none⟩])))
def x10 : XC:=.seq (.reg [⟨some 4,.box 25 (.tmp 0),none⟩,⟨some 5,.box 29 (.tmp 1),none⟩,⟨some 8,.assign (.const (.bool false)),none⟩,⟨some 9,.alloc 36,none⟩]) (.seq (.seq (.reg [⟨some 16,.load 25 (.tmp 4),none⟩,⟨some 17,.call ⟨.value (.func 9),#[.tmp 16],#[25]⟩,none⟩,⟨some 10,.alloc 36,none⟩,⟨none,.store 36 (.tmp 10) (.tmp 17),none⟩]) (.seq (.reg [⟨some 18,.fieldAddr 36 (.tmp 10) 0,none⟩,⟨some 19,.load 3 (.tmp 18),none⟩,⟨some 20,.binOp .neq 3 (.tmp 19) (.const (.int .i64 0)) 3,none⟩]) (.cond (.tmp 20) (.seq (.drawn 3 [⟨some 21,.load 36 (.tmp 10),none⟩,⟨some 8,.assign (.const (.bool false)),none⟩,⟨none,.store 36 (.tmp 9) (.tmp 21),none⟩]) .ret) .skip))) (.seq (.seq (.reg [⟨some 22,.load 29 (.tmp 5),none⟩,⟨some 23,.call ⟨.value (.func 29),#[.tmp 22],#[29]⟩,none⟩,⟨some 11,.alloc 36,none⟩,⟨none,.store 36 (.tmp 11) (.tmp 23),none⟩]) (.seq (.reg [⟨some 24,.fieldAddr 36 (.tmp 11) 0,none⟩,⟨some 25,.load 3 (.tmp 24),none⟩,⟨some 26,.binOp .neq 3 (.tmp 25) (.const (.int .i64 0)) 3,none⟩]) (.cond (.tmp 26) (.seq (.drawn 6 [⟨some 27,.load 36 (.tmp 11),none⟩,⟨some 8,.assign (.const (.bool false)),none⟩,⟨none,.store 36 (.tmp 9) (.tmp 27),none⟩]) .ret) .skip))) (.seq (.seq (.reg [⟨some 28,.move (.tmp 2),none⟩,⟨some 29,.call ⟨.builtin .len,#[.tmp 28],#[30]⟩,none⟩,⟨some 30,.move (.tmp 3),none⟩,⟨some 31,.call ⟨.builtin .len,#[.tmp 30],#[31]⟩,none⟩,⟨some 32,.binOp .neq 3 (.tmp 29) (.tmp 31) 3,none⟩,⟨some 33,.move (.tmp 32),none⟩,⟨some 34,.move (.tmp 2),some (some 33,false)⟩,⟨some 35,.call ⟨.builtin .len,#[.tmp 34],#[30]⟩,some (some 33,false)⟩,⟨some 36,.binOp .gtr 3 (.tmp 35) (.const (.int .i64 20)) 3,some (some 33,false)⟩,⟨some 37,.pick (.tmp 33) (.const (.bool true)) (.tmp 36),none⟩]) (.cond (.tmp 37) (.seq (.reg [⟨some 38,.call ⟨.value (.func 22),#[.const (.int .i64 9),.const (.int .i64 0)],#[3,3]⟩,none⟩,⟨some 8,.assign (.const (.bool false)),none⟩,⟨none,.store 36 (.tmp 9) (.tmp 38),none⟩]) .ret) .skip)) (.seq (.reg [⟨some 39,.makeMap 63 none,none⟩,⟨some 12,.assign (.tmp 39),none⟩]) (.seq (.seq (.reg [⟨some 40,.move (.tmp 2),none⟩,⟨some 41,.call ⟨.builtin .len,#[.tmp 40],#[30]⟩,none⟩,⟨some 42,.move (.const (.int .i64 0)),none⟩]) (.bloop 0 x10_L0)) (x10_T1))))))
@[simp] theorem x10_s {C e s K} : type_of% (@X_at C e s K _ _ x10_T1.eq_1) ∧ type_of% (@X_at C e s K _ _ x10_L0.eq_1) ∧ type_of% (@X_at C e s K _ _ x10.eq_1):=⟨X_at x10_T1.eq_1,X_at x10_L0.eq_1,X_at x10.eq_1⟩
def an10 : Ann:=⟨[(15,.mix 12),(22,.mix 5)],[(0,[],[3,4,5,9,12,40,41,42],[4,5,8,9,12])],[]⟩
@[simp] theorem an10_a : an10.clsOf 3 = .draw ∧ an10.clsOf 6 = .draw ∧ an10.clsOf 15 = .mix 12 ∧ an10.clsOf 22 = .mix 5 ∧ an10.frzOf 3 = [] ∧ an10.frzOf 6 = [] ∧ an10.frzOf 15 = [] ∧ an10.frzOf 22 = [] ∧ an10.loopOf 0 = ([],[3,4,5,9,12,40,41,42],[4,5,8,9,12]):=⟨rfl,rfl,rfl,rfl,rfl,rfl,rfl,rfl,rfl⟩
theorem fi10 : FI Try.prog 10 (cxA an10) x10 [.tmp 8,.cell 9 36] Try.f10:=fiA Try.func10 mixed
theorem Value_meaning (S : Stc) (e : Ex) (ns : List ByteArray) (vs : List Int) : CallOK Try.prog 10 [.agg (stc S),.agg (exr e),.list (ns.map strRow),.list (vs.map intRow)] [] (.tuple [.bool (valB S e ns vs),.agg [.int .i64 (valF S e ns vs).1,.int .i64 (valF S e ns vs).2]]) []:=by
 have hck:=Check_meaning S
 have hfc:=Check_first e
 have f9:=fault_meaning 9 0
 have f6:=fault_meaning 6 0
 have f2:=fault_meaning 2 0
 obtain ⟨n,F,P⟩:=S
 unfold stc at hck ⊢
 dsimp only at hck ⊢
 by_cases h1 : (stcF ⟨n,F,P⟩).1 = 0
 rotate_left
 ·have hv : valF ⟨n,F,P⟩ e ns vs = stcF ⟨n,F,P⟩ := by unfold valF; rw [if_pos h1]
  rw [valB,hv,if_neg h1]
  generalize stcF ⟨n,F,P⟩ = q at *
  refine fi10.op ?_
  (refine Sg.h ?_;try repeat' ((first|(with_reducible first|refine brA ?_|refine brE fun _=>?_|refine spl ⟨?_,?_⟩<;>intro _)|refine clo hck ?_)<;>((try simp -implicitDefEqProofs [h1]);(try simp -implicitDefEqProofs(disch:=first|assumption|(try simp only[lens]);omega -splitDisjunctions) [h1]))))
 have hv1 : valF ⟨n,F,P⟩ e ns vs = if (stcF ⟨n,F,P⟩).1 ≠ 0 then stcF ⟨n,F,P⟩ else if (checkX e).1 ≠ 0 then checkX e else if ns.length ≠ vs.length ∨ 20 < ns.length then (9,0)
  else if (namF n ns vs 0).1 ≠ 0 then namF n ns vs 0 else if exK F P [] e ns = false then (6,0) else if hugeF n (deepF e) = true then (2,0) else (0,0):=rfl
 rw [if_neg (fun g=>g h1)] at hv1
 obtain ⟨s0,s8,sF,sP,snF,snP,sOF,sOP,sz⟩:=stcF_zero h1
 rw [sz] at hck
 dsimp only at s0 s8 sF sP snF snP sOF sOP
 by_cases h2 : (checkX e).1 = 0
 rotate_left
 ·rw [if_pos h2] at hv1
  rw [valB,hv1,if_neg h2]
  generalize checkX e = q at *
  refine fi10.op ?_
  (refine Sg.h ?_;try repeat' ((first|(with_reducible first|refine brA ?_|refine brE fun _=>?_|refine spl ⟨?_,?_⟩<;>intro _)|refine clo hck ?_|refine clo hfc ?_)<;>((try simp -implicitDefEqProofs [h2]);(try simp -implicitDefEqProofs(disch:=first|assumption|(try simp only[lens]);omega -splitDisjunctions) [h2]))))
 rw [if_neg (fun g=>g h2)] at hv1
 obtain ⟨en,eo⟩:=checkM_ok h2
 rw [checkX_zero h2] at hfc
 by_cases h3 : ns.length ≠ vs.length ∨ 20 < ns.length
 ·rw [if_pos h3] at hv1
  rw [valB,hv1,if_neg (fun g=>by cases g)]
  refine fi10.op ?_
  by_cases h4 : ns.length = vs.length
  ·have h5 : (20 : Int) < (ns.length : Int) := by omega
   have h6 : (20 : Int) < (vs.length : Int):=by omega
   (refine Sg.h ?_;try repeat' ((first|(with_reducible first|refine brA ?_|refine brE fun _=>?_|refine spl ⟨?_,?_⟩<;>intro _)|refine clo hck ?_|refine clo hfc ?_|refine clo f9 ?_)<;>((try simp -implicitDefEqProofs [h4,h5,h6]);(try simp -implicitDefEqProofs(disch:=first|assumption|(try simp only[lens]);omega -splitDisjunctions) [h4,h5,h6]))))
  ·have h5 : ¬ (ns.length : Int) = (vs.length : Int) := by omega
   (refine Sg.h ?_;try repeat' ((first|(with_reducible first|refine brA ?_|refine brE fun _=>?_|refine spl ⟨?_,?_⟩<;>intro _)|refine clo hck ?_|refine clo hfc ?_|refine clo f9 ?_)<;>((try simp -implicitDefEqProofs [h5]);(try simp -implicitDefEqProofs(disch:=first|assumption|(try simp only[lens]);omega -splitDisjunctions) [h5]))))
 rw [if_neg h3] at hv1
 have hlen : ns.length = vs.length:=by omega
 have h20 : ¬ (20 : Int) < (ns.length : Int):=by omega
 have h20' : ¬ (20 : Int) < (vs.length : Int):=by omega
 obtain ⟨v,hv⟩ : ∃ v,valF ⟨n,F,P⟩ e ns vs = v:=⟨_,rfl⟩
 obtain ⟨b,hb⟩ : ∃ b,valB ⟨n,F,P⟩ e ns vs = b:=⟨_,rfl⟩
 rw [hv] at hv1
 rw [hv,hb]
 refine fi10.op ?_
 (refine Sg.h ?_;try repeat' ((first|(with_reducible first|refine brA ?_|refine brE fun _=>?_|refine spl ⟨?_,?_⟩<;>intro _)|refine clo hck ?_|refine clo hfc ?_)<;>((try simp -implicitDefEqProofs [hlen,h20,h20']);(try simp -implicitDefEqProofs(disch:=first|assumption|(try simp only[lens]);omega -splitDisjunctions) [hlen,h20,h20']))))
 refine W_of fun Q hQ=>?_
 have main : ∀ k i,i + k = vs.length → namF n ns vs 0 = namF n (ns.drop i) (vs.drop i) i → Q [(3,.list (vs.map intRow)),(4,.ptr 0 0 0),(5,.ptr 1 0 0),(9,.ptr 2 0 0),(12,.mapv 3),(40,.list (ns.map strRow)),(41,.int .i64 (vs.length : Int)),(42,.int .i64 (i : Int))] [.rows 3 [[.int .i64 n,.list (F.map fnRow),.list (P.map pdRow)]],.rows 4 [exr e],.rows 2 [[.int .i64 0,.int .i64 0]],.map (mapI (evOf (ns.take i) (vs.take i) []))]:=by
  intro k
  induction k with
  | zero=>
   intro i hi hnf
   obtain rfl : i = vs.length:=by omega
   have hz : namF n ns vs 0 = (0,0):=by
    rw [hnf,List.drop_of_length_le (by omega),namF]
    simp
   rw [hz] at hv1
   rw [if_neg (fun g=>g rfl)] at hv1
   have hrg:=namF_zero hlen (i:=0) (by rw [hz])
   have hk:=evOf_keys ns vs [] keys_nil
   have hen:=evOf_env hlen
   have hkn:=known_world n F P e (evOf ns vs []) (by omega)
   rw [exK_list (evOf_known hlen),List.append_nil] at hkn
   have hnw:=newWorld_meaning n F P sF sP snF snP
   have hdp:=deep_meaning e (by have:=deepF_nd e;omega)
   have hdn:=deepF_nd e
   have hvl:=fun (hx : exK F P [] e ns = true)=>value_world n s0 s8 F sOF P sOP e (exK_ok e eo ns hx) (evOf ns vs []) hk (fun x=>by rw [hen];exact envLs_range s0 hrg x)
   have hvs:=valS_spec n F P e (evOf ns vs []) hk
   rw [hen] at hvs
   rw [show ns.take vs.length = ns from List.take_of_length_le (by omega),List.take_length]
   unfold worldOf at hkn hnw hvl
   unfold stc at hnw
   dsimp only at hnw
   generalize evOf ns vs [] = L at *
   rw [valB,hv] at hb
   apply hQ
   clear hQ
   cases hx : exK F P [] e ns with
   | false=>
    rw [if_pos hx] at hv1
    rw [hx] at hkn
    subst hv1
    rw [if_neg (fun g=>by cases g)] at hb
    subst hb
    (refine Sg.h ?_;try repeat' ((first|(with_reducible first|refine brA ?_|refine brE fun _=>?_|refine spl ⟨?_,?_⟩<;>intro _)|refine clo hnw ?_|refine clo f6 ?_)<;>((try simp -implicitDefEqProofs);(try simp -implicitDefEqProofs(disch:=first|assumption|(try simp only[lens]);omega -splitDisjunctions)))))
    refine CL.see hkn (by simp) (flat_bool _) ?_
    (refine Sg.h ?_;try repeat' ((first|(with_reducible first|refine brA ?_|refine brE fun _=>?_|refine spl ⟨?_,?_⟩<;>intro _)|refine clo f6 ?_)<;>((try simp -implicitDefEqProofs);(try simp -implicitDefEqProofs(disch:=first|assumption|(try simp only[lens]);omega -splitDisjunctions)))))
   | true=>
    rw [if_neg (by simp [hx])] at hv1
    rw [hx] at hkn
    have hvl:=hvl hx
    by_cases hd : 6 < deepF e
    ·have hh : hugeF n (deepF e) = true := by unfold hugeF; rw [decide_eq_true hd,Bool.or_true]
     rw [if_pos hh] at hv1
     subst hv1
     rw [if_neg (fun g=>by cases g)] at hb
     subst hb
     have hpw:=power_meaning n 6 (by omega) s8 (by omega)
     have hd' : (6 : Int) < (deepF e : Int):=by omega
     have hmn : min (deepF e : Int) 6 = 6:=by omega
     clear hvs hvl
     generalize deepF e = d at *
     (refine Sg.h ?_;try repeat' ((first|(with_reducible first|refine brA ?_|refine brE fun _=>?_|refine spl ⟨?_,?_⟩<;>intro _)|refine clo hnw ?_|refine clo f6 ?_)<;>((try simp -implicitDefEqProofs);(try simp -implicitDefEqProofs(disch:=first|assumption|(try simp only[lens]);omega -splitDisjunctions)))))
     refine CL.see hkn (by simp) (flat_bool _) ?_
     (refine Sg.h ?_;try repeat' ((first|(with_reducible first|refine brA ?_|refine brE fun _=>?_|refine spl ⟨?_,?_⟩<;>intro _)|refine clo hdp ?_|refine clo hpw ?_|refine clo f2 ?_)<;>((try simp -implicitDefEqProofs [hd',hmn]);(try simp -implicitDefEqProofs(disch:=first|assumption|(try simp only[lens]);omega -splitDisjunctions) [hd',hmn]))))
    ·have hpw := power_meaning n (deepF e) (by omega) s8 (by omega)
     have hpr:=pow8 s0 s8 (k:=deepF e) (by omega)
     have hd' : ¬ (6 : Int) < (deepF e : Int):=by omega
     have hmn : min (deepF e : Int) 6 = deepF e:=by omega
     have hh : hugeF n (deepF e) = decide (5000 < n ^ deepF e):=by unfold hugeF;rw [decide_eq_false hd,Bool.or_false,Nat.min_eq_left (by omega)]
     rw [hh] at hv1
     by_cases h5 : 5000 < n ^ deepF e
     ·rw [if_pos (decide_eq_true h5)] at hv1
      subst hv1
      rw [if_neg (fun g=>by cases g)] at hb
      subst hb
      clear hvs hvl
      generalize n ^ deepF e = q at *
      generalize deepF e = d at *
      (refine Sg.h ?_;try repeat' ((first|(with_reducible first|refine brA ?_|refine brE fun _=>?_|refine spl ⟨?_,?_⟩<;>intro _)|refine clo hnw ?_|refine clo f6 ?_)<;>((try simp -implicitDefEqProofs);(try simp -implicitDefEqProofs(disch:=first|assumption|(try simp only[lens]);omega -splitDisjunctions)))))
      refine CL.see hkn (by simp) (flat_bool _) ?_
      (refine Sg.h ?_;try repeat' ((first|(with_reducible first|refine brA ?_|refine brE fun _=>?_|refine spl ⟨?_,?_⟩<;>intro _)|refine clo hdp ?_|refine clo hpw ?_|refine clo f2 ?_)<;>((try simp -implicitDefEqProofs [hd',hmn,h5]);(try simp -implicitDefEqProofs(disch:=first|assumption|(try simp only[lens]);omega -splitDisjunctions) [hd',hmn,h5]))))
     ·rw [if_neg (by simpa using h5)] at hv1
      subst hv1
      rw [if_pos rfl] at hb
      rw [← hvs.1] at hb
      clear hvs
      generalize valS n F P e L = z at *
      obtain ⟨z1,z2⟩:=z
      dsimp only at hb hvl
      subst hb
      generalize n ^ deepF e = q at *
      generalize deepF e = d at *
      (refine Sg.h ?_;try repeat' ((first|(with_reducible first|refine brA ?_|refine brE fun _=>?_|refine spl ⟨?_,?_⟩<;>intro _)|refine clo hnw ?_|refine clo f6 ?_)<;>((try simp -implicitDefEqProofs);(try simp -implicitDefEqProofs(disch:=first|assumption|(try simp only[lens]);omega -splitDisjunctions)))))
      refine CL.see hkn (by simp) (flat_bool _) ?_
      (refine Sg.h ?_;try repeat' ((first|(with_reducible first|refine brA ?_|refine brE fun _=>?_|refine spl ⟨?_,?_⟩<;>intro _)|refine clo hdp ?_|refine clo hpw ?_|refine clo f2 ?_)<;>((try simp -implicitDefEqProofs [hd',hmn,h5]);(try simp -implicitDefEqProofs(disch:=first|assumption|(try simp only[lens]);omega -splitDisjunctions) [hd',hmn,h5]))))
      refine CL.sub [3] (s2:=stE z2) (v:=.bool z1) (by simpa [liveS] using hvl) ?_
      (refine Sg.h ?_;try repeat' ((with_reducible first|refine brA ?_|refine brE fun _=>?_|refine spl ⟨?_,?_⟩<;>intro _)<;>((try simp -implicitDefEqProofs);(try simp -implicitDefEqProofs(disch:=first|assumption|(try simp only[lens]);omega -splitDisjunctions)))))
  | succ k ih=>
   intro i hi hnf
   have hi1 : i < ns.length:=by omega
   have hi2 : i < vs.length:=by omega
   have hnm:=isName_formula ns[i] []
   have ih:=ih (i + 1) (by omega)
   rw [namF_step hi1 hi2] at hnf
   rw [take_snocM hi1,take_snocM hi2,evOf_snoc (by rw [List.length_take,List.length_take];omega)] at ih
   have hk:=evOf_keys (ns.take i) (vs.take i) [] keys_nil
   obtain ⟨r,hr⟩:=findP_any ns[i] (evOf (ns.take i) (vs.take i) [])
   have hp:=putI_put (v:=vs[i]) hk hr
   generalize hL1 : evOf (ns.take i) (vs.take i) [] = L1 at *
   have f8:=fault_meaning 8 i
   have f3:=fault_meaning 3 i
   generalize hx1 : ns[i] = x at *
   generalize hx2 : vs[i] = y at *
   have hi' : (i : Int) < (vs.length : Int):=by omega
   have hi1' : (i : Int) < (ns.length : Int):=by omega
   apply hQ
   clear hQ
   cases hn : isNameB x with
   | false=>
    rw [if_pos hn] at hnf
    rw [hnf,if_pos (fun g=>by cases g)] at hv1
    subst hv1
    rw [valB,hv,if_neg (fun g=>by cases g)] at hb
    subst hb
    rw [hn] at hnm
    (refine Sg.h ?_;try repeat' ((first|(with_reducible first|refine brA ?_|refine brE fun _=>?_|refine spl ⟨?_,?_⟩<;>intro _)|refine clo hnm ?_|refine clo f8 ?_)<;>((try simp -implicitDefEqProofs [hi',hi1',hi1,hi2,hx1,hx2]);(try simp -implicitDefEqProofs(disch:=first|assumption|(try simp only[lens]);omega -splitDisjunctions) [hi',hi1',hi1,hi2,hx1,hx2]))))
   | true=>
    rw [if_neg (by simp [hn])] at hnf
    rw [hn] at hnm
    by_cases hrr : y < 0 ∨ n ≤ y
    ·rw [if_pos hrr] at hnf
     rw [hnf,if_pos (fun g=>by cases g)] at hv1
     subst hv1
     rw [valB,hv,if_neg (fun g=>by cases g)] at hb
     subst hb
     by_cases hy : y < 0
     ·(refine Sg.h ?_;try repeat' ((first|(with_reducible first|refine brA ?_|refine brE fun _=>?_|refine spl ⟨?_,?_⟩<;>intro _)|refine clo hnm ?_|refine clo f3 ?_)<;>((try simp -implicitDefEqProofs [hi',hi1',hi1,hi2,hx1,hx2,hy]);(try simp -implicitDefEqProofs(disch:=first|assumption|(try simp only[lens]);omega -splitDisjunctions) [hi',hi1',hi1,hi2,hx1,hx2,hy]))))
     ·have hy2 : n ≤ y := by omega
      (refine Sg.h ?_;try repeat' ((first|(with_reducible first|refine brA ?_|refine brE fun _=>?_|refine spl ⟨?_,?_⟩<;>intro _)|refine clo hnm ?_|refine clo f3 ?_)<;>((try simp -implicitDefEqProofs [hi',hi1',hi1,hi2,hx1,hx2,hy,hy2]);(try simp -implicitDefEqProofs(disch:=first|assumption|(try simp only[lens]);omega -splitDisjunctions) [hi',hi1',hi1,hi2,hx1,hx2,hy,hy2]))))
    ·rw [if_neg hrr] at hnf
     have ih:=ih hnf
     have hy : ¬ y < 0:=fun g=>hrr (.inl g)
     have hy2 : ¬ n ≤ y:=fun g=>hrr (.inr g)
     (refine Sg.h ?_;try repeat' ((first|(with_reducible first|refine brA ?_|refine brE fun _=>?_|refine spl ⟨?_,?_⟩<;>intro _)|refine clo hnm ?_)<;>((try simp -implicitDefEqProofs [hi',hi1',hi1,hi2,hx1,hx2,hy,hy2,hr,hp]);(try simp -implicitDefEqProofs(disch:=first|assumption|(try simp only[lens]);omega -splitDisjunctions) [hi',hi1',hi1,hi2,hx1,hx2,hy,hy2,hr,hp]))))
     all_goals first|exact ih|(refine at2 ih ?_ ?_<;>simp;done)|(exfalso;first|omega|(simp_all;done)|(simp_all;omega))
 all_goals first|exact main vs.length 0 (Nat.zero_add _) rfl|(refine at2 main vs.length 0 (Nat.zero_add _) rfl ?_ ?_<;>simp;done)|(exfalso;first|omega|(simp_all;done)|(simp_all;omega))
end Go.Proofs.Ytlcplnafkeklaaa
namespace Go.Proofs.Ytlcplnafkeklaaa
open Go Go.Pv
def wX : Wd:=.mk ⟨#[120]⟩ []
def wY : Wd:=.mk ⟨#[121]⟩ []
def sameX : Ex:=.mk 9 ⟨#[120]⟩ [] [.mk 9 ⟨#[121]⟩ [] [.mk 2 ⟨#[]⟩ [wX,wY] []]]
theorem callOK_softR {P : Program} {f : FuncId} {args : List PV} {v v' : PV} {s s' : Store} (h : CallOK P f args s v' s') (hs : Soft v v') : CallOK P f args s v s':=by
 intro pub σ w cargs hb ha
 refine (h pub σ w cargs hb ha).mono ?_
 rintro e w' ⟨cv,pub',σ',rfl,h1,h2⟩
 exact ⟨cv,pub',σ',rfl,h1,hs.rel h2⟩
def rawX : PV:=.agg [.int .i64 9,.str ⟨#[120]⟩,.nilsl,.list [[.int .i64 9,.str ⟨#[121]⟩,.nilsl,.list [[.int .i64 2,.str ⟨#[]⟩,.list [[.str ⟨#[120]⟩,.nilsl],[.str ⟨#[121]⟩,.nilsl]],.nilsl]]]]]
attribute [local irreducible] X
def x20 : XC:=.seq (.reg [⟨some 0,.alloc 29,none⟩]) (.seq (.reg [⟨some 2,.build 68 #[(0,.const (.string ⟨#[120]⟩))],none⟩,⟨some 3,.build 68 #[(0,.const (.string ⟨#[121]⟩))],none⟩,⟨some 4,.buildSlice 26 2 #[(0,.tmp 2),(1,.tmp 3)],none⟩,⟨some 1,.assign (.tmp 4),none⟩]) (.seq (.reg [⟨some 5,.move (.tmp 1),none⟩,⟨some 6,.build 29 #[(0,.const (.int .i64 2)),(2,.tmp 5)],none⟩,⟨some 7,.buildSlice 27 1 #[(0,.tmp 6)],none⟩,⟨some 8,.build 29 #[(0,.const (.int .i64 9)),(1,.const (.string ⟨#[121]⟩)),(3,.tmp 7)],none⟩,⟨some 9,.buildSlice 27 1 #[(0,.tmp 8)],none⟩,⟨some 10,.build 29 #[(0,.const (.int .i64 9)),(1,.const (.string ⟨#[120]⟩)),(3,.tmp 9)],none⟩,⟨none,.store 29 (.tmp 0) (.tmp 10),none⟩]) .ret))
@[simp] theorem x20_s {C e s K} : type_of% (@X_at C e s K _ _ x20.eq_1):=X_at x20.eq_1
def an20 : Ann:=⟨[],[],[]⟩
theorem fi20 : FI Try.prog 20 (cxA an20) x20 [.cell 0 29] Try.f20:=fiA Try.func20 mixed
theorem sameThings_raw : CallOK Try.prog 20 [] [] rawX []:=by
 unfold rawX
 refine fi20.op ?_
 (refine Sg.h ?_;try repeat' ((with_reducible first|refine brA ?_|refine brE fun _=>?_|refine spl ⟨?_,?_⟩<;>intro _)<;>((try simp -implicitDefEqProofs);(try simp -implicitDefEqProofs(disch:=first|assumption|(try simp only[lens]);omega -splitDisjunctions)))))
theorem sameThings_law : CallOK Try.prog 20 [] [] (.agg (exr sameX)) []:=by
 have e : exr sameX = [.int .i64 9,.str ⟨#[120]⟩,.list [],.list [[.int .i64 9,.str ⟨#[121]⟩,.list [],.list [[.int .i64 2,.str ⟨#[]⟩,.list [[.str ⟨#[120]⟩,.list []],[.str ⟨#[121]⟩,.list []]],.list []]]]]]:=by
  simp [sameX,wX,wY,exr,exrs,wrd,wrds]
 rw [e]
 refine callOK_softR sameThings_raw ?_
 unfold rawX
 exact .agg (.cons .refl (.cons .refl (.cons .nil (.cons (.list (.cons (.cons .refl (.cons .refl (.cons .nil (.cons (.list (.cons (.cons .refl (.cons .refl (.cons (.list (.cons (.cons .refl (.cons .nil .nil)) (.cons (.cons .refl (.cons .nil .nil)) .nil))) (.cons .nil .nil)))) .nil)) .nil)))) .nil)) .nil))))
set_option maxRecDepth 100000
theorem begun1 : valF ⟨1,[],[]⟩ sameX [] [] = (0,0) ∧ valB ⟨1,[],[]⟩ sameX [] [] = true:=⟨by kernel_rfl,by kernel_rfl⟩
theorem begun2 : valF ⟨2,[],[]⟩ sameX [] [] = (0,0) ∧ valB ⟨2,[],[]⟩ sameX [] [] = false:=⟨by kernel_rfl,by kernel_rfl⟩
def x6 : XC:=.seq (.reg [⟨some 0,.assign (.const (.bool false)),none⟩]) (.seq (.reg [⟨some 6,.build 25 #[(0,.const (.int .i64 1))],none⟩,⟨some 7,.call ⟨.value (.func 20),#[],#[]⟩,none⟩,⟨some 8,.call ⟨.value (.func 10),#[.tmp 6,.tmp 7,.const (.slice none 0 0),.const (.slice none 0 0)],#[25,29,30,31]⟩,none⟩,⟨some 5,.move (.tmp 8),none⟩,⟨some 9,.extract (.tmp 5) 0,none⟩,⟨some 10,.extract (.tmp 5) 1,none⟩,⟨some 2,.alloc 36,none⟩,⟨some 1,.assign (.tmp 9),none⟩,⟨none,.store 36 (.tmp 2) (.tmp 10),none⟩]) (.seq (.reg [⟨some 12,.build 25 #[(0,.const (.int .i64 2))],none⟩,⟨some 13,.call ⟨.value (.func 20),#[],#[]⟩,none⟩,⟨some 14,.call ⟨.value (.func 10),#[.tmp 12,.tmp 13,.const (.slice none 0 0),.const (.slice none 0 0)],#[25,29,30,31]⟩,none⟩,⟨some 11,.move (.tmp 14),none⟩,⟨some 15,.extract (.tmp 11) 0,none⟩,⟨some 16,.extract (.tmp 11) 1,none⟩,⟨some 4,.alloc 36,none⟩,⟨some 3,.assign (.tmp 15),none⟩,⟨none,.store 36 (.tmp 4) (.tmp 16),none⟩]) (.seq (.reg [⟨some 17,.fieldAddr 36 (.tmp 2) 0,none⟩,⟨some 18,.load 3 (.tmp 17),none⟩,⟨some 19,.binOp .eql 3 (.tmp 18) (.const (.int .i64 0)) 3,none⟩,⟨some 20,.move (.tmp 19),none⟩,⟨some 21,.fieldAddr 36 (.tmp 4) 0,some (some 20,true)⟩,⟨some 22,.load 3 (.tmp 21),some (some 20,true)⟩,⟨some 23,.binOp .eql 3 (.tmp 22) (.const (.int .i64 0)) 3,some (some 20,true)⟩,⟨some 24,.pick (.tmp 20) (.tmp 23) (.const (.bool false)),none⟩,⟨some 25,.move (.tmp 24),none⟩,⟨some 26,.move (.tmp 1),some (some 25,true)⟩,⟨some 27,.pick (.tmp 25) (.tmp 26) (.const (.bool false)),none⟩,⟨some 28,.move (.tmp 27),none⟩,⟨some 29,.move (.tmp 3),some (some 28,true)⟩,⟨some 30,.unOp .not 4 (.tmp 29),some (some 28,true)⟩,⟨some 31,.pick (.tmp 28) (.tmp 30) (.const (.bool false)),none⟩,⟨some 0,.assign (.tmp 31),none⟩]) .ret)))
@[simp] theorem x6_s {C e s K} : type_of% (@X_at C e s K _ _ x6.eq_1):=X_at x6.eq_1
def an6 : Ann:=⟨[],[],[]⟩
theorem fi6 : FI Try.prog 6 (cxA an6) x6 [.tmp 0] Try.f6:=fiA Try.func6 mixed
theorem meaningBegun_law : CallOK Try.prog 6 [] [] (.bool true) []:=by
 have h0:=sameThings_law
 have h1:=Value_meaning ⟨1,[],[]⟩ sameX [] []
 have h2:=Value_meaning ⟨2,[],[]⟩ sameX [] []
 rw [begun1.1,begun1.2] at h1
 rw [begun2.1,begun2.2] at h2
 have h1:=callOK_softA (args:=[.agg [.int .i64 1,.nilsl,.nilsl],.agg (exr sameX),.nilsl,.nilsl]) h1 (.cons (.agg (.cons .refl (.cons .nil (.cons .nil .nil)))) (.cons .refl (.cons .nil (.cons .nil .nil))))
 have h2:=callOK_softA (args:=[.agg [.int .i64 2,.nilsl,.nilsl],.agg (exr sameX),.nilsl,.nilsl]) h2 (.cons (.agg (.cons .refl (.cons .nil (.cons .nil .nil)))) (.cons .refl (.cons .nil (.cons .nil .nil))))
 generalize sameX = q at *
 refine fi6.op ?_
 (refine Sg.h ?_;try repeat' ((first|(with_reducible first|refine brA ?_|refine brE fun _=>?_|refine spl ⟨?_,?_⟩<;>intro _)|refine clo h0 ?_|refine clo h1 ?_|refine clo h2 ?_)<;>((try simp -implicitDefEqProofs);(try simp -implicitDefEqProofs(disch:=first|assumption|(try simp only[lens]);omega -splitDisjunctions)))))
end Go.Proofs.Ytlcplnafkeklaaa
namespace Go.Proofs.Ytlcplnafkeklaaa
open Go Go.Pv
def StcB (S : Stc) : Prop:=S.funs.length * 48 ≤ 140737488355328 ∧ S.preds.length * 48 ≤ 140737488355328 ∧ (∀ f ∈ S.funs,f.tab.length * 8 ≤ 140737488355328) ∧ (∀ p ∈ S.preds,p.bits.length * 1 ≤ 140737488355328)
def x3 : XC:=.seq (.reg [⟨some 4,.box 25 (.tmp 0),none⟩,⟨some 5,.box 29 (.tmp 1),none⟩,⟨some 8,.assign (.const (.bool false)),none⟩]) (.seq (.seq (.reg [⟨some 14,.call ⟨.value (.func 6),#[],#[]⟩,none⟩,⟨some 15,.unOp .not 4 (.tmp 14),none⟩]) (.cond (.tmp 15) (.seq (.reg [⟨some 8,.assign (.const (.bool false)),none⟩]) .ret) .skip)) (.seq (.seq (.reg [⟨some 16,.load 29 (.tmp 5),none⟩,⟨some 17,.call ⟨.value (.func 7),#[.tmp 16,.const (.int .i64 0)],#[29,3]⟩,none⟩]) (.cond (.tmp 17) (.seq (.reg [⟨some 8,.assign (.const (.bool true)),none⟩]) .ret) .skip)) (.seq (.reg [⟨some 18,.load 25 (.tmp 4),none⟩,⟨some 19,.call ⟨.value (.func 8),#[.tmp 18],#[25]⟩,none⟩,⟨some 9,.alloc 25,none⟩,⟨none,.store 25 (.tmp 9) (.tmp 19),none⟩]) (.seq (.reg [⟨some 20,.load 25 (.tmp 9),none⟩,⟨some 21,.call ⟨.value (.func 9),#[.tmp 20],#[25]⟩,none⟩,⟨some 10,.alloc 36,none⟩,⟨none,.store 36 (.tmp 10) (.tmp 21),none⟩]) (.seq (.drawn 7 [⟨some 23,.load 25 (.tmp 9),none⟩,⟨some 24,.load 29 (.tmp 5),none⟩,⟨some 25,.call ⟨.value (.func 11),#[.tmp 24],#[29]⟩,none⟩,⟨some 26,.move (.tmp 2),none⟩,⟨some 27,.move (.tmp 3),none⟩,⟨some 28,.call ⟨.value (.func 10),#[.tmp 23,.tmp 25,.tmp 26,.tmp 27],#[25,29,30,31]⟩,none⟩,⟨some 22,.move (.tmp 28),none⟩,⟨some 29,.extract (.tmp 22) 0,none⟩,⟨some 30,.extract (.tmp 22) 1,none⟩,⟨some 12,.alloc 36,none⟩,⟨some 11,.assign (.tmp 29),none⟩,⟨none,.store 36 (.tmp 12) (.tmp 30),none⟩]) (.seq (.reg [⟨some 31,.load 25 (.tmp 4),none⟩,⟨some 32,.load 29 (.tmp 5),none⟩,⟨some 33,.move (.tmp 2),none⟩,⟨some 34,.move (.tmp 3),none⟩,⟨some 35,.call ⟨.value (.func 12),#[.tmp 31,.tmp 32,.tmp 33,.tmp 34],#[25,29,30,31]⟩,none⟩,⟨some 13,.alloc 36,none⟩,⟨none,.store 36 (.tmp 13) (.tmp 35),none⟩]) (.seq (.seq (.drawn 9 [⟨some 36,.load 36 (.tmp 10),none⟩,⟨some 37,.load 25 (.tmp 4),none⟩,⟨some 38,.call ⟨.value (.func 13),#[.tmp 37],#[25]⟩,none⟩,⟨some 39,.binOp .neq 36 (.tmp 36) (.tmp 38) 36,none⟩,⟨some 40,.move (.tmp 39),none⟩,⟨some 41,.load 36 (.tmp 12),some (some 40,false)⟩,⟨some 42,.load 36 (.tmp 13),some (some 40,false)⟩,⟨some 43,.binOp .neq 36 (.tmp 41) (.tmp 42) 36,some (some 40,false)⟩,⟨some 44,.pick (.tmp 40) (.const (.bool true)) (.tmp 43),none⟩]) (.cond (.tmp 44) (.seq (.reg [⟨some 8,.assign (.const (.bool false)),none⟩]) .ret) .skip)) (.seq (.seq (.reg [⟨some 45,.fieldAddr 36 (.tmp 13) 0,none⟩,⟨some 46,.load 3 (.tmp 45),none⟩,⟨some 47,.binOp .neq 3 (.tmp 46) (.const (.int .i64 0)) 3,none⟩]) (.cond (.tmp 47) (.seq (.reg [⟨some 48,.move (.tmp 11),none⟩,⟨some 49,.unOp .not 4 (.tmp 48),none⟩,⟨some 8,.assign (.tmp 49),none⟩]) .ret) .skip)) (.seq (.reg [⟨some 50,.move (.tmp 11),none⟩,⟨some 51,.load 25 (.tmp 4),none⟩,⟨some 52,.load 29 (.tmp 5),none⟩,⟨some 53,.move (.tmp 2),none⟩,⟨some 54,.move (.tmp 3),none⟩,⟨some 55,.call ⟨.value (.func 14),#[.tmp 51,.tmp 52,.tmp 53,.tmp 54],#[25,29,30,31]⟩,none⟩,⟨some 56,.binOp .eql 4 (.tmp 50) (.tmp 55) 4,none⟩,⟨some 8,.assign (.tmp 56),none⟩]) .ret)))))))))
@[simp] theorem x3_s {C e s K} : type_of% (@X_at C e s K _ _ x3.eq_1):=X_at x3.eq_1
def an3 : Ann:=⟨[(7,.mix 11),(9,.mix 7)],[],[]⟩
@[simp] theorem an3_a : an3.clsOf 7 = .mix 11 ∧ an3.clsOf 9 = .mix 7 ∧ an3.frzOf 7 = [] ∧ an3.frzOf 9 = []:=⟨rfl,rfl,rfl,rfl⟩
theorem fi3 : FI Try.prog 3 (cxA an3) x3 [.tmp 8] Try.f3:=fiA Try.func3 mixed
theorem meaningValues_law (S : Stc) (hS : StcB S) (e : Ex) (ns : List ByteArray) (vs : List Int) : CallOK Try.prog 3 [.agg (stc S),.agg (exr e),.list (ns.map strRow),.list (vs.map intRow)] [] (.bool true) []:=by
 have c0:=meaningBegun_law
 have c1:=VastExpr_ref e 0 (by decide)
 obtain ⟨n,F,P⟩:=S
 obtain ⟨b1,b2,b3,b4⟩:=hS
 have o1:=ownStructure_law n F P b1 b2 b3 b4
 have k1:=Check_meaning ⟨n,F,P⟩
 have k2:=StructureFault_ref ⟨n,F,P⟩
 have v1:=Value_meaning ⟨n,F,P⟩ e ns vs
 have v2:=valueFault_law n F P e ns vs
 clear b1 b2 b3 b4
 unfold stc at *
 dsimp only at *
 refine fi3.op ?_
 cases hv : vxF e 0 with
 | true=>
  rw [hv] at c1
  (refine Sg.h ?_;try repeat' ((first|(with_reducible first|refine brA ?_|refine brE fun _=>?_|refine spl ⟨?_,?_⟩<;>intro _)|refine clo c0 ?_|refine clo c1 ?_)<;>((try simp -implicitDefEqProofs);(try simp -implicitDefEqProofs(disch:=first|assumption|(try simp only[lens]);omega -splitDisjunctions)))))
 | false=>
 rw [hv] at c1
 have o2:=ownExpr_law e 0 hv
 by_cases hz : (valF ⟨n,F,P⟩ e ns vs).1 = 0
 ·obtain ⟨z1,z2,z3,z4,z5,z6,z7,z8⟩ := valF_zero hz
  obtain ⟨s0,s8,sF,sP,snF,snP,sOF,sOP,sz⟩:=stcF_zero z1
  obtain ⟨en,eo⟩:=checkM_ok z2
  have hx:=ExprValue_ref n s0 s8 F sOF snF sF P sOP sP e ns vs z3 (by omega) (namF_zero z3 z5) z6 (exK_ok e eo ns z6)
  have hb : valB ⟨n,F,P⟩ e ns vs = valV n F P e (envLs ns vs):=by rw [valB,if_pos hz]
  rw [hb,z8] at v1
  rw [z8] at v2
  rw [sz] at k1 k2
  clear z1 z2 z3 z4 z5 z6 z7 z8 hz hb eo
  generalize valV n F P e (envLs ns vs) = b at *
  (refine Sg.h ?_;try repeat' ((first|(with_reducible first|refine brA ?_|refine brE fun _=>?_|refine spl ⟨?_,?_⟩<;>intro _)|refine clo c0 ?_|refine clo c1 ?_|refine clo o1 ?_|refine clo k1 ?_|refine clo k2 ?_|refine clo o2 ?_|refine clo v1 ?_|refine clo v2 ?_|refine clo hx ?_)<;>((try simp -implicitDefEqProofs);(try simp -implicitDefEqProofs(disch:=first|assumption|(try simp only[lens]);omega -splitDisjunctions)))))
 ·have hb : valB ⟨n,F,P⟩ e ns vs = false := by rw [valB,if_neg hz]
  rw [hb] at v1
  generalize valF ⟨n,F,P⟩ e ns vs = q at *
  generalize stcF ⟨n,F,P⟩ = q2 at *
  (refine Sg.h ?_;try repeat' ((first|(with_reducible first|refine brA ?_|refine brE fun _=>?_|refine spl ⟨?_,?_⟩<;>intro _)|refine clo c0 ?_|refine clo c1 ?_|refine clo o1 ?_|refine clo k1 ?_|refine clo k2 ?_|refine clo o2 ?_|refine clo v1 ?_|refine clo v2 ?_)<;>((try simp -implicitDefEqProofs [hz]);(try simp -implicitDefEqProofs(disch:=first|assumption|(try simp only[lens]);omega -splitDisjunctions) [hz]))))
end Go.Proofs.Ytlcplnafkeklaaa
