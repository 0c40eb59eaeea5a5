import Derived.Test.YtbimioonhfhflaaDMnM
import Derived.Test.YtbimioonhfhflaaDMnG
set_option linter.unusedVariables false
set_option linter.unusedSimpArgs false
set_option maxRecDepth 100000
set_option maxHeartbeats 4000000
namespace Go.Proofs.Ytbimioonhfhflaa
open Go Go.Pv
theorem callOK_softA {P : Program} {f : FuncId} {args args' : List PV} {v : PV} {s s' : Store} (h : CallOK P f args' s v s') (hs : SoftL args' args) : CallOK P f args s v s':=by
 intro pub σ w cargs hb ha
 have hg:=hs.get (pub:=pub)
 refine h pub σ w cargs hb ⟨by rw [ha.1,hg.1],fun j x y hx hy=>?_⟩
 have hjl:=lt_of_getElem? hx
 have hyj : args[j]? = some (args[j]'(by have:=hg.1;omega)):=List.getElem?_eq_getElem _
 exact hg.2 j x _ hx hyj σ y (ha.2 j _ y hyj hy)
def x32 : XC:=.seq (.reg [⟨some 3,.box 68 (.tmp 0),none⟩,⟨some 4,.box 29 (.tmp 1),none⟩,⟨some 5,.box 67 (.tmp 2),none⟩,⟨some 6,.assign (.const (.bool false)),none⟩]) (.seq (.reg [⟨some 7,.alloc 4,none⟩,⟨none,.store 4 (.tmp 7) (.const (.bool true)),none⟩]) (.seq (.reg [⟨some 8,.alloc 96,none⟩]) (.seq (.reg [⟨some 10,.makeFunc (.func 52) #[] #[.tmp 5,.tmp 7,.tmp 3,.tmp 8],none⟩,⟨none,.store 96 (.tmp 8) (.tmp 10),none⟩]) (.seq (.reg [⟨some 9,.alloc 99,none⟩]) (.seq (.reg [⟨some 11,.makeFunc (.func 54) #[] #[.tmp 3,.tmp 7,.tmp 8,.tmp 9],none⟩,⟨none,.store 99 (.tmp 9) (.tmp 11),none⟩]) (.seq (.reg [⟨some 12,.load 99 (.tmp 9),none⟩,⟨some 13,.load 29 (.tmp 4),none⟩,⟨some 14,.call ⟨.value (.tmp 12),#[.tmp 13,.const (.slice none 0 0)],#[29,32]⟩,none⟩]) (.seq (.reg [⟨some 15,.load 4 (.tmp 7),none⟩,⟨some 6,.assign (.tmp 15),none⟩]) .ret)))))))
@[simp] theorem x32_s {C e s K} : type_of% (@X_at C e s K _ _ x32.eq_1):=X_at x32.eq_1
def an32 : Ann:=⟨[],[],[]⟩
theorem fi32 : FI Try.prog 32 (cxA an32) x32 [.tmp 6] Try.f32:=fiA Try.func32 mixed
theorem known_world (N : Int) (F : List Fn) (P : List Pd) (e : Ex) (L : Ev) (hn : (ndE e).length ≤ 1000000) : CallOK Try.prog 32 [worldOf N F P,.agg (exr e),.imap (mapI L)] [] (.bool (exK F P L e [])) []:=by
 have hc:=known2_world N F P e L e [] (by simpa using hn) true
 unfold worldOf
 refine fi32.op ?_
 (refine Sg.h ?_;try repeat' ((with_reducible first|refine brA ?_|refine brE fun _=>?_|refine spl ⟨?_,?_⟩<;>intro _)<;>((try simp -implicitDefEqProofs(disch:=first|assumption|(try simp only[lens]);omega -splitDisjunctions)))))
 refine cl_kx (rest:=[]) (callOK_softA hc (.cons .refl (.cons .nil (.cons .refl (.cons .refl (.cons .refl (.cons .refl .nil))))))) ?_
 (refine Sg.h ?_;try repeat' ((with_reducible first|refine brA ?_|refine brE fun _=>?_|refine spl ⟨?_,?_⟩<;>intro _)<;>((try simp -implicitDefEqProofs(disch:=first|assumption|(try simp only[lens]);omega -splitDisjunctions)))))
def x12_T1 : XC:=.seq (.reg [⟨some 75,.load 25 (.tmp 4),none⟩,⟨some 76,.call ⟨.value (.func 31),#[.tmp 75],#[25]⟩,none⟩,⟨some 15,.assign (.tmp 76),none⟩]) (.seq (.seq (.reg [⟨some 77,.move (.tmp 15),none⟩,⟨some 78,.load 29 (.tmp 5),none⟩,⟨some 79,.move (.tmp 12),none⟩,⟨some 80,.call ⟨.value (.func 32),#[.tmp 77,.tmp 78,.tmp 79],#[68,29,67]⟩,none⟩,⟨some 81,.unOp .not 4 (.tmp 80),none⟩]) (.cond (.tmp 81) (.seq (.reg [⟨some 82,.call ⟨.value (.func 30),#[.const (.int .i64 6),.const (.int .i64 0)],#[3,3]⟩,none⟩,⟨some 8,.assign (.const (.bool false)),none⟩,⟨none,.store 39 (.tmp 9) (.tmp 82),none⟩]) .ret) .skip)) (.seq (.seq (.drawn 22 [⟨some 83,.fieldAddr 25 (.tmp 4) 0,none⟩,⟨some 84,.load 3 (.tmp 83),none⟩,⟨some 85,.load 29 (.tmp 5),none⟩,⟨some 86,.call ⟨.value (.func 34),#[.tmp 85],#[29]⟩,none⟩,⟨some 87,.call ⟨.builtin .min,#[.tmp 86,.const (.int .i64 6)],#[3,3]⟩,none⟩,⟨some 88,.call ⟨.value (.func 33),#[.tmp 84,.tmp 87],#[3,3]⟩,none⟩,⟨some 89,.binOp .gtr 3 (.tmp 88) (.const (.int .i64 5000)) 3,none⟩,⟨some 90,.move (.tmp 89),none⟩,⟨some 91,.load 29 (.tmp 5),some (some 90,false)⟩,⟨some 92,.call ⟨.value (.func 34),#[.tmp 91],#[29]⟩,some (some 90,false)⟩,⟨some 93,.binOp .gtr 3 (.tmp 92) (.const (.int .i64 6)) 3,some (some 90,false)⟩,⟨some 94,.pick (.tmp 90) (.const (.bool true)) (.tmp 93),none⟩]) (.cond (.tmp 94) (.seq (.reg [⟨some 95,.call ⟨.value (.func 30),#[.const (.int .i64 2),.const (.int .i64 0)],#[3,3]⟩,none⟩,⟨some 8,.assign (.const (.bool false)),none⟩,⟨none,.store 39 (.tmp 9) (.tmp 95),none⟩]) .ret) .skip)) (.seq (.reg [⟨some 96,.move (.tmp 15),none⟩,⟨some 97,.load 29 (.tmp 5),none⟩,⟨some 98,.move (.tmp 12),none⟩,⟨some 99,.call ⟨.value (.func 35),#[.tmp 96,.tmp 97,.tmp 98],#[68,29,67]⟩,none⟩,⟨some 100,.build 39 #[],none⟩,⟨some 8,.assign (.tmp 99),none⟩,⟨none,.store 39 (.tmp 9) (.tmp 100),none⟩]) .ret)))
def x12_L0 : XC:=.seq (.reg [⟨some 43,.binOp .lss 3 (.tmp 42) (.tmp 41) 3,none⟩]) (.seq (.cond (.tmp 43) .skip (.exit 0)) (.seq (.block 1 (.seq (.reg [⟨some 44,.move (.tmp 42),none⟩,⟨some 45,.indexAddr 32 (.tmp 40) (.tmp 42),none⟩,⟨some 46,.load 9 (.tmp 45),none⟩,⟨some 13,.assign (.tmp 44),none⟩,⟨some 14,.assign (.tmp 46),none⟩]) (.seq (.seq (.reg [⟨some 47,.move (.tmp 14),none⟩,⟨some 48,.call ⟨.value (.func 24),#[.tmp 47],#[9]⟩,none⟩,⟨some 49,.unOp .not 4 (.tmp 48),none⟩]) (.cond (.tmp 49) (.seq (.reg [⟨some 50,.move (.tmp 13),none⟩,⟨some 51,.call ⟨.value (.func 30),#[.const (.int .i64 8),.tmp 50],#[3,3]⟩,none⟩,⟨some 8,.assign (.const (.bool false)),none⟩,⟨none,.store 39 (.tmp 9) (.tmp 51),none⟩]) .ret) .skip)) (.seq (.seq (.drawn 15 [⟨some 52,.move (.tmp 3),none⟩,⟨some 53,.move (.tmp 13),none⟩,⟨some 54,.indexAddr 33 (.tmp 52) (.tmp 53),none⟩,⟨some 55,.load 3 (.tmp 54),none⟩,⟨some 56,.binOp .lss 3 (.tmp 55) (.const (.int .i64 0)) 3,none⟩,⟨some 57,.move (.tmp 56),none⟩,⟨some 58,.move (.tmp 3),some (some 57,false)⟩,⟨some 59,.move (.tmp 13),some (some 57,false)⟩,⟨some 60,.indexAddr 33 (.tmp 58) (.tmp 59),some (some 57,false)⟩,⟨some 61,.load 3 (.tmp 60),some (some 57,false)⟩,⟨some 62,.fieldAddr 25 (.tmp 4) 0,some (some 57,false)⟩,⟨some 63,.load 3 (.tmp 62),some (some 57,false)⟩,⟨some 64,.binOp .geq 3 (.tmp 61) (.tmp 63) 3,some (some 57,false)⟩,⟨some 65,.pick (.tmp 57) (.const (.bool true)) (.tmp 64),none⟩]) (.cond (.tmp 65) (.seq (.reg [⟨some 66,.move (.tmp 13),none⟩,⟨some 67,.call ⟨.value (.func 30),#[.const (.int .i64 3),.tmp 66],#[3,3]⟩,none⟩,⟨some 8,.assign (.const (.bool false)),none⟩,⟨none,.store 39 (.tmp 9) (.tmp 67),none⟩]) .ret) .skip)) (.reg [⟨some 68,.move (.tmp 12),none⟩,⟨some 69,.move (.tmp 14),none⟩,⟨some 70,.move (.tmp 3),none⟩,⟨some 71,.move (.tmp 13),none⟩,⟨some 72,.indexAddr 33 (.tmp 70) (.tmp 71),none⟩,⟨some 73,.load 3 (.tmp 72),none⟩,⟨none,.mapUpdate 67 (.tmp 68) (.tmp 69) (.tmp 73),none⟩]))))) (.reg [⟨some 74,.binOp .add 3 (.tmp 42) (.const (.int .i64 1)) 3,none⟩,⟨some 42,.move (.tmp 74),none⟩])))
def x12 : XC:=.seq (.reg [⟨some 4,.box 25 (.tmp 0),none⟩,⟨some 5,.box 29 (.tmp 1),none⟩,⟨some 8,.assign (.const (.bool false)),none⟩,⟨some 9,.alloc 39,none⟩]) (.seq (.seq (.reg [⟨some 16,.load 25 (.tmp 4),none⟩,⟨some 17,.call ⟨.value (.func 29),#[.tmp 16],#[25]⟩,none⟩,⟨some 10,.alloc 39,none⟩,⟨none,.store 39 (.tmp 10) (.tmp 17),none⟩]) (.seq (.reg [⟨some 18,.fieldAddr 39 (.tmp 10) 0,none⟩,⟨some 19,.load 3 (.tmp 18),none⟩,⟨some 20,.binOp .neq 3 (.tmp 19) (.const (.int .i64 0)) 3,none⟩]) (.cond (.tmp 20) (.seq (.drawn 3 [⟨some 21,.load 39 (.tmp 10),none⟩,⟨some 8,.assign (.const (.bool false)),none⟩,⟨none,.store 39 (.tmp 9) (.tmp 21),none⟩]) .ret) .skip))) (.seq (.seq (.reg [⟨some 22,.load 29 (.tmp 5),none⟩,⟨some 23,.call ⟨.value (.func 23),#[.tmp 22],#[29]⟩,none⟩,⟨some 11,.alloc 39,none⟩,⟨none,.store 39 (.tmp 11) (.tmp 23),none⟩]) (.seq (.reg [⟨some 24,.fieldAddr 39 (.tmp 11) 0,none⟩,⟨some 25,.load 3 (.tmp 24),none⟩,⟨some 26,.binOp .neq 3 (.tmp 25) (.const (.int .i64 0)) 3,none⟩]) (.cond (.tmp 26) (.seq (.drawn 6 [⟨some 27,.load 39 (.tmp 11),none⟩,⟨some 8,.assign (.const (.bool false)),none⟩,⟨none,.store 39 (.tmp 9) (.tmp 27),none⟩]) .ret) .skip))) (.seq (.seq (.reg [⟨some 28,.move (.tmp 2),none⟩,⟨some 29,.call ⟨.builtin .len,#[.tmp 28],#[32]⟩,none⟩,⟨some 30,.move (.tmp 3),none⟩,⟨some 31,.call ⟨.builtin .len,#[.tmp 30],#[33]⟩,none⟩,⟨some 32,.binOp .neq 3 (.tmp 29) (.tmp 31) 3,none⟩,⟨some 33,.move (.tmp 32),none⟩,⟨some 34,.move (.tmp 2),some (some 33,false)⟩,⟨some 35,.call ⟨.builtin .len,#[.tmp 34],#[32]⟩,some (some 33,false)⟩,⟨some 36,.binOp .gtr 3 (.tmp 35) (.const (.int .i64 20)) 3,some (some 33,false)⟩,⟨some 37,.pick (.tmp 33) (.const (.bool true)) (.tmp 36),none⟩]) (.cond (.tmp 37) (.seq (.reg [⟨some 38,.call ⟨.value (.func 30),#[.const (.int .i64 9),.const (.int .i64 0)],#[3,3]⟩,none⟩,⟨some 8,.assign (.const (.bool false)),none⟩,⟨none,.store 39 (.tmp 9) (.tmp 38),none⟩]) .ret) .skip)) (.seq (.reg [⟨some 39,.makeMap 67 none,none⟩,⟨some 12,.assign (.tmp 39),none⟩]) (.seq (.seq (.reg [⟨some 40,.move (.tmp 2),none⟩,⟨some 41,.call ⟨.builtin .len,#[.tmp 40],#[32]⟩,none⟩,⟨some 42,.move (.const (.int .i64 0)),none⟩]) (.bloop 0 x12_L0)) (x12_T1))))))
@[simp] theorem x12_s {C e s K} : type_of% (@X_at C e s K _ _ x12_T1.eq_1) ∧ type_of% (@X_at C e s K _ _ x12_L0.eq_1) ∧ type_of% (@X_at C e s K _ _ x12.eq_1):=⟨X_at x12_T1.eq_1,X_at x12_L0.eq_1,X_at x12.eq_1⟩
def an12 : Ann:=⟨[(15,.mix 12),(22,.mix 5)],[(0,[],[3,4,5,9,12,40,41,42],[4,5,8,9,12])],[]⟩
@[simp] theorem an12_a : an12.clsOf 3 = .draw ∧ an12.clsOf 6 = .draw ∧ an12.clsOf 15 = .mix 12 ∧ an12.clsOf 22 = .mix 5 ∧ an12.frzOf 3 = [] ∧ an12.frzOf 6 = [] ∧ an12.frzOf 15 = [] ∧ an12.frzOf 22 = [] ∧ an12.loopOf 0 = ([],[3,4,5,9,12,40,41,42],[4,5,8,9,12]):=⟨rfl,rfl,rfl,rfl,rfl,rfl,rfl,rfl,rfl⟩
theorem fi12 : FI Try.prog 12 (cxA an12) x12 [.tmp 8,.cell 9 39] Try.f12:=fiA Try.func12 mixed
theorem Value_meaning (S : Stc) (e : Ex) (ns : List ByteArray) (vs : List Int) : CallOK Try.prog 12 [.agg (stc S),.agg (exr e),.list (ns.map strRow),.list (vs.map intRow)] [] (.tuple [.bool (valB S e ns vs),.agg [.int .i64 (valF S e ns vs).1,.int .i64 (valF S e ns vs).2]]) []:=by
 have hck:=Check_meaning S
 have hfc:=Check_first e
 have f9:=fault_meaning 9 0
 have f6:=fault_meaning 6 0
 have f2:=fault_meaning 2 0
 obtain ⟨n,F,P⟩:=S
 unfold stc at hck ⊢
 dsimp only at hck ⊢
 by_cases h1 : (stcF ⟨n,F,P⟩).1 = 0
 rotate_left
 ·have hv : valF ⟨n,F,P⟩ e ns vs = stcF ⟨n,F,P⟩ := by unfold valF; rw [if_pos h1]
  rw [valB,hv,if_neg h1]
  generalize stcF ⟨n,F,P⟩ = q at *
  refine fi12.op ?_
  (refine Sg.h ?_;try repeat' ((first|(with_reducible first|refine brA ?_|refine brE fun _=>?_|refine spl ⟨?_,?_⟩<;>intro _)|refine clo hck ?_)<;>((try simp -implicitDefEqProofs(disch:=first|assumption|(try simp only[lens]);omega -splitDisjunctions) [h1]))))
 have hv1 : valF ⟨n,F,P⟩ e ns vs = if (stcF ⟨n,F,P⟩).1 ≠ 0 then stcF ⟨n,F,P⟩ else if (checkX e).1 ≠ 0 then checkX e else if ns.length ≠ vs.length ∨ 20 < ns.length then (9,0)
  else if (namF n ns vs 0).1 ≠ 0 then namF n ns vs 0 else if exK F P [] e ns = false then (6,0) else if hugeF n (deepF e) = true then (2,0) else (0,0):=rfl
 rw [if_neg (fun g=>g h1)] at hv1
 obtain ⟨s0,s8,sF,sP,snF,snP,sOF,sOP,sz⟩:=stcF_zero h1
 rw [sz] at hck
 dsimp only at s0 s8 sF sP snF snP sOF sOP
 by_cases h2 : (checkX e).1 = 0
 rotate_left
 ·rw [if_pos h2] at hv1
  rw [valB,hv1,if_neg h2]
  generalize checkX e = q at *
  refine fi12.op ?_
  (refine Sg.h ?_;try repeat' ((first|(with_reducible first|refine brA ?_|refine brE fun _=>?_|refine spl ⟨?_,?_⟩<;>intro _)|refine clo hck ?_|refine clo hfc ?_)<;>((try simp -implicitDefEqProofs(disch:=first|assumption|(try simp only[lens]);omega -splitDisjunctions) [h2]))))
 rw [if_neg (fun g=>g h2)] at hv1
 obtain ⟨en,eo⟩:=checkM_ok h2
 rw [checkX_zero h2] at hfc
 by_cases h3 : ns.length ≠ vs.length ∨ 20 < ns.length
 ·rw [if_pos h3] at hv1
  rw [valB,hv1,if_neg (fun g=>by cases g)]
  refine fi12.op ?_
  by_cases h4 : ns.length = vs.length
  ·have h5 : (20 : Int) < (ns.length : Int) := by omega
   have h6 : (20 : Int) < (vs.length : Int):=by omega
   (refine Sg.h ?_;try repeat' ((first|(with_reducible first|refine brA ?_|refine brE fun _=>?_|refine spl ⟨?_,?_⟩<;>intro _)|refine clo hck ?_|refine clo hfc ?_|refine clo f9 ?_)<;>((try simp -implicitDefEqProofs(disch:=first|assumption|(try simp only[lens]);omega -splitDisjunctions) [h4,h5,h6]))))
  ·have h5 : ¬ (ns.length : Int) = (vs.length : Int) := by omega
   (refine Sg.h ?_;try repeat' ((first|(with_reducible first|refine brA ?_|refine brE fun _=>?_|refine spl ⟨?_,?_⟩<;>intro _)|refine clo hck ?_|refine clo hfc ?_|refine clo f9 ?_)<;>((try simp -implicitDefEqProofs(disch:=first|assumption|(try simp only[lens]);omega -splitDisjunctions) [h5]))))
 rw [if_neg h3] at hv1
 have hlen : ns.length = vs.length:=by omega
 have h20 : ¬ (20 : Int) < (ns.length : Int):=by omega
 have h20' : ¬ (20 : Int) < (vs.length : Int):=by omega
 obtain ⟨v,hv⟩ : ∃ v,valF ⟨n,F,P⟩ e ns vs = v:=⟨_,rfl⟩
 obtain ⟨b,hb⟩ : ∃ b,valB ⟨n,F,P⟩ e ns vs = b:=⟨_,rfl⟩
 rw [hv] at hv1
 rw [hv,hb]
 refine fi12.op ?_
 (refine Sg.h ?_;try repeat' ((first|(with_reducible first|refine brA ?_|refine brE fun _=>?_|refine spl ⟨?_,?_⟩<;>intro _)|refine clo hck ?_|refine clo hfc ?_)<;>((try simp -implicitDefEqProofs(disch:=first|assumption|(try simp only[lens]);omega -splitDisjunctions) [hlen,h20,h20']))))
 refine W_of fun Q hQ=>?_
 have main : ∀ k i,i + k = vs.length → namF n ns vs 0 = namF n (ns.drop i) (vs.drop i) i → Q [(3,.list (vs.map intRow)),(4,.ptr 0 0 0),(5,.ptr 1 0 0),(9,.ptr 2 0 0),(12,.mapv 3),(40,.list (ns.map strRow)),(41,.int .i64 (vs.length : Int)),(42,.int .i64 (i : Int))] [.rows 3 [[.int .i64 n,.list (F.map fnRow),.list (P.map pdRow)]],.rows 4 [exr e],.rows 2 [[.int .i64 0,.int .i64 0]],.map (mapI (evOf (ns.take i) (vs.take i) []))]:=by
  intro k
  induction k with
  | zero=>
   intro i hi hnf
   obtain rfl : i = vs.length:=by omega
   have hz : namF n ns vs 0 = (0,0):=by
    rw [hnf,List.drop_of_length_le (by omega),namF]
    simp
   rw [hz] at hv1
   rw [if_neg (fun g=>g rfl)] at hv1
   have hrg:=namF_zero hlen (i:=0) (by rw [hz])
   have hk:=evOf_keys ns vs [] keys_nil
   have hen:=evOf_env hlen
   have hkn:=known_world n F P e (evOf ns vs []) (by omega)
   rw [exK_list (evOf_known hlen),List.append_nil] at hkn
   have hnw:=newWorld_meaning n F P sF sP snF snP
   have hdp:=deep_meaning e (by have:=deepF_nd e;omega)
   have hdn:=deepF_nd e
   have hvl:=fun (hx : exK F P [] e ns = true)=>value_world n s0 s8 F sOF P sOP e (exK_ok e eo ns hx) (evOf ns vs []) hk (fun x=>by rw [hen];exact envLs_range s0 hrg x)
   have hvs:=valS_spec n F P e (evOf ns vs []) hk
   rw [hen] at hvs
   rw [show ns.take vs.length = ns from List.take_of_length_le (by omega),List.take_length]
   unfold worldOf at hkn hnw hvl
   unfold stc at hnw
   dsimp only at hnw
   generalize evOf ns vs [] = L at *
   rw [valB,hv] at hb
   apply hQ
   clear hQ
   cases hx : exK F P [] e ns with
   | false=>
    rw [if_pos hx] at hv1
    rw [hx] at hkn
    subst hv1
    rw [if_neg (fun g=>by cases g)] at hb
    subst hb
    (refine Sg.h ?_;try repeat' ((first|(with_reducible first|refine brA ?_|refine brE fun _=>?_|refine spl ⟨?_,?_⟩<;>intro _)|refine clo hnw ?_|refine clo f6 ?_)<;>((try simp -implicitDefEqProofs(disch:=first|assumption|(try simp only[lens]);omega -splitDisjunctions)))))
    refine CL.see hkn (by simp) (flat_bool _) ?_
    (refine Sg.h ?_;try repeat' ((first|(with_reducible first|refine brA ?_|refine brE fun _=>?_|refine spl ⟨?_,?_⟩<;>intro _)|refine clo f6 ?_)<;>((try simp -implicitDefEqProofs(disch:=first|assumption|(try simp only[lens]);omega -splitDisjunctions)))))
   | true=>
    rw [if_neg (by simp [hx])] at hv1
    rw [hx] at hkn
    have hvl:=hvl hx
    by_cases hd : 6 < deepF e
    ·have hh : hugeF n (deepF e) = true := by unfold hugeF; rw [decide_eq_true hd,Bool.or_true]
     rw [if_pos hh] at hv1
     subst hv1
     rw [if_neg (fun g=>by cases g)] at hb
     subst hb
     have hpw:=power_meaning n 6 (by omega) s8 (by omega)
     have hd' : (6 : Int) < (deepF e : Int):=by omega
     have hmn : min (deepF e : Int) 6 = 6:=by omega
     clear hvs hvl
     generalize deepF e = d at *
     (refine Sg.h ?_;try repeat' ((first|(with_reducible first|refine brA ?_|refine brE fun _=>?_|refine spl ⟨?_,?_⟩<;>intro _)|refine clo hnw ?_|refine clo f6 ?_)<;>((try simp -implicitDefEqProofs(disch:=first|assumption|(try simp only[lens]);omega -splitDisjunctions)))))
     refine CL.see hkn (by simp) (flat_bool _) ?_
     (refine Sg.h ?_;try repeat' ((first|(with_reducible first|refine brA ?_|refine brE fun _=>?_|refine spl ⟨?_,?_⟩<;>intro _)|refine clo hdp ?_|refine clo hpw ?_|refine clo f2 ?_)<;>((try simp -implicitDefEqProofs(disch:=first|assumption|(try simp only[lens]);omega -splitDisjunctions) [hd',hmn]))))
    ·have hpw := power_meaning n (deepF e) (by omega) s8 (by omega)
     have hpr:=pow8 s0 s8 (k:=deepF e) (by omega)
     have hd' : ¬ (6 : Int) < (deepF e : Int):=by omega
     have hmn : min (deepF e : Int) 6 = deepF e:=by omega
     have hh : hugeF n (deepF e) = decide (5000 < n ^ deepF e):=by unfold hugeF;rw [decide_eq_false hd,Bool.or_false,Nat.min_eq_left (by omega)]
     rw [hh] at hv1
     by_cases h5 : 5000 < n ^ deepF e
     ·rw [if_pos (decide_eq_true h5)] at hv1
      subst hv1
      rw [if_neg (fun g=>by cases g)] at hb
      subst hb
      clear hvs hvl
      generalize n ^ deepF e = q at *
      generalize deepF e = d at *
      (refine Sg.h ?_;try repeat' ((first|(with_reducible first|refine brA ?_|refine brE fun _=>?_|refine spl ⟨?_,?_⟩<;>intro _)|refine clo hnw ?_|refine clo f6 ?_)<;>((try simp -implicitDefEqProofs(disch:=first|assumption|(try simp only[lens]);omega -splitDisjunctions)))))
      refine CL.see hkn (by simp) (flat_bool _) ?_
      (refine Sg.h ?_;try repeat' ((first|(with_reducible first|refine brA ?_|refine brE fun _=>?_|refine spl ⟨?_,?_⟩<;>intro _)|refine clo hdp ?_|refine clo hpw ?_|refine clo f2 ?_)<;>((try simp -implicitDefEqProofs(disch:=first|assumption|(try simp only[lens]);omega -splitDisjunctions) [hd',hmn,h5]))))
     ·rw [if_neg (by simpa using h5)] at hv1
      subst hv1
      rw [if_pos rfl] at hb
      rw [← hvs.1] at hb
      clear hvs
      generalize valS n F P e L = z at *
      obtain ⟨z1,z2⟩:=z
      dsimp only at hb hvl
      subst hb
      generalize n ^ deepF e = q at *
      generalize deepF e = d at *
      (refine Sg.h ?_;try repeat' ((first|(with_reducible first|refine brA ?_|refine brE fun _=>?_|refine spl ⟨?_,?_⟩<;>intro _)|refine clo hnw ?_|refine clo f6 ?_)<;>((try simp -implicitDefEqProofs(disch:=first|assumption|(try simp only[lens]);omega -splitDisjunctions)))))
      refine CL.see hkn (by simp) (flat_bool _) ?_
      (refine Sg.h ?_;try repeat' ((first|(with_reducible first|refine brA ?_|refine brE fun _=>?_|refine spl ⟨?_,?_⟩<;>intro _)|refine clo hdp ?_|refine clo hpw ?_|refine clo f2 ?_)<;>((try simp -implicitDefEqProofs(disch:=first|assumption|(try simp only[lens]);omega -splitDisjunctions) [hd',hmn,h5]))))
      refine CL.sub [3] (s2:=stE z2) (v:=.bool z1) (by simpa [liveS] using hvl) ?_
      (refine Sg.h ?_;try repeat' ((with_reducible first|refine brA ?_|refine brE fun _=>?_|refine spl ⟨?_,?_⟩<;>intro _)<;>((try simp -implicitDefEqProofs(disch:=first|assumption|(try simp only[lens]);omega -splitDisjunctions)))))
  | succ k ih=>
   intro i hi hnf
   have hi1 : i < ns.length:=by omega
   have hi2 : i < vs.length:=by omega
   have hnm:=isName_formula ns[i] []
   have ih:=ih (i + 1) (by omega)
   rw [namF_step hi1 hi2] at hnf
   rw [take_snocM hi1,take_snocM hi2,evOf_snoc (by rw [List.length_take,List.length_take];omega)] at ih
   have hk:=evOf_keys (ns.take i) (vs.take i) [] keys_nil
   obtain ⟨r,hr⟩:=findP_any ns[i] (evOf (ns.take i) (vs.take i) [])
   have hp:=putI_put (v:=vs[i]) hk hr
   generalize hL1 : evOf (ns.take i) (vs.take i) [] = L1 at *
   have f8:=fault_meaning 8 i
   have f3:=fault_meaning 3 i
   generalize hx1 : ns[i] = x at *
   generalize hx2 : vs[i] = y at *
   have hi' : (i : Int) < (vs.length : Int):=by omega
   have hi1' : (i : Int) < (ns.length : Int):=by omega
   apply hQ
   clear hQ
   cases hn : isNameB x with
   | false=>
    rw [if_pos hn] at hnf
    rw [hnf,if_pos (fun g=>by cases g)] at hv1
    subst hv1
    rw [valB,hv,if_neg (fun g=>by cases g)] at hb
    subst hb
    rw [hn] at hnm
    (refine Sg.h ?_;try repeat' ((first|(with_reducible first|refine brA ?_|refine brE fun _=>?_|refine spl ⟨?_,?_⟩<;>intro _)|refine clo hnm ?_|refine clo f8 ?_)<;>((try simp -implicitDefEqProofs(disch:=first|assumption|(try simp only[lens]);omega -splitDisjunctions) [hi',hi1',hi1,hi2,hx1,hx2]))))
   | true=>
    rw [if_neg (by simp [hn])] at hnf
    rw [hn] at hnm
    by_cases hrr : y < 0 ∨ n ≤ y
    ·rw [if_pos hrr] at hnf
     rw [hnf,if_pos (fun g=>by cases g)] at hv1
     subst hv1
     rw [valB,hv,if_neg (fun g=>by cases g)] at hb
     subst hb
     by_cases hy : y < 0
     ·(refine Sg.h ?_;try repeat' ((first|(with_reducible first|refine brA ?_|refine brE fun _=>?_|refine spl ⟨?_,?_⟩<;>intro _)|refine clo hnm ?_|refine clo f3 ?_)<;>((try simp -implicitDefEqProofs(disch:=first|assumption|(try simp only[lens]);omega -splitDisjunctions) [hi',hi1',hi1,hi2,hx1,hx2,hy]))))
     ·have hy2 : n ≤ y := by omega
      (refine Sg.h ?_;try repeat' ((first|(with_reducible first|refine brA ?_|refine brE fun _=>?_|refine spl ⟨?_,?_⟩<;>intro _)|refine clo hnm ?_|refine clo f3 ?_)<;>((try simp -implicitDefEqProofs(disch:=first|assumption|(try simp only[lens]);omega -splitDisjunctions) [hi',hi1',hi1,hi2,hx1,hx2,hy,hy2]))))
    ·rw [if_neg hrr] at hnf
     have ih:=ih hnf
     have hy : ¬ y < 0:=fun g=>hrr (.inl g)
     have hy2 : ¬ n ≤ y:=fun g=>hrr (.inr g)
     (refine Sg.h ?_;try repeat' ((first|(with_reducible first|refine brA ?_|refine brE fun _=>?_|refine spl ⟨?_,?_⟩<;>intro _)|refine clo hnm ?_)<;>((try simp -implicitDefEqProofs(disch:=first|assumption|(try simp only[lens]);omega -splitDisjunctions) [hi',hi1',hi1,hi2,hx1,hx2,hy,hy2,hr,hp]))))
     all_goals first|exact ih|(refine at2 ih ?_ ?_<;>simp;done)|(exfalso;first|omega|(simp_all;done)|(simp_all;omega))
 all_goals first|exact main vs.length 0 (Nat.zero_add _) rfl|(refine at2 main vs.length 0 (Nat.zero_add _) rfl ?_ ?_<;>simp;done)|(exfalso;first|omega|(simp_all;done)|(simp_all;omega))
end Go.Proofs.Ytbimioonhfhflaa
namespace Go.Proofs.Ytbimioonhfhflaa
open Go Go.Pv
mutual
def vwF : Wd → Nat → Bool
 | .mk _ l=>fun d=>decide (25000 < d) || decide (25000 < l.length) || vwsF l (d + 1)
def vwsF : List Wd → Nat → Bool
 | []=>fun _=>false
 | w :: r=>fun d=>vwF w d || vwsF r d
end
theorem vwF_eq (w : Wd) (d : Nat) : vwF w d = (decide (25000 < d) || decide (25000 < w.args.length) || vwsF w.args (d + 1)):=by
 cases w with | mk a l=>rw [vwF];rfl
def x19_L0 : XC:=.seq (.seq (.reg [⟨some 13,.move (.tmp 5),none⟩,⟨some 14,.move (.tmp 0),none⟩,⟨some 15,.call ⟨.builtin .len,#[.tmp 14],#[26]⟩,none⟩,⟨some 16,.binOp .lss 3 (.tmp 13) (.tmp 15) 3,none⟩]) (.cond (.tmp 16) .skip (.exit 0))) (.seq (.block 1 (.seq (.reg [⟨some 19,.move (.tmp 0),none⟩,⟨some 20,.move (.tmp 5),none⟩,⟨some 21,.indexAddr 26 (.tmp 19) (.tmp 20),none⟩,⟨some 22,.fieldAddr 31 (.tmp 21) 1,none⟩,⟨some 23,.load 26 (.tmp 22),none⟩,⟨some 24,.move (.tmp 1),none⟩,⟨some 25,.binOp .add 3 (.tmp 24) (.const (.int .i64 1)) 3,none⟩,⟨some 26,.call ⟨.value (.func 19),#[.tmp 23,.tmp 25],#[26,3]⟩,none⟩]) (.cond (.tmp 26) (.seq (.reg [⟨some 4,.assign (.const (.bool true)),none⟩]) .ret) .skip))) (.reg [⟨some 17,.move (.tmp 5),none⟩,⟨some 18,.binOp .add 3 (.tmp 17) (.const (.int .i64 1)) 3,none⟩,⟨some 5,.assign (.tmp 18),none⟩]))
def x19 : XC:=.seq (.reg [⟨some 4,.assign (.const (.bool false)),none⟩]) (.seq (.seq (.reg [⟨some 6,.move (.tmp 1),none⟩,⟨some 7,.binOp .gtr 3 (.tmp 6) (.const (.int .i64 25000)) 3,none⟩,⟨some 8,.move (.tmp 7),none⟩,⟨some 9,.move (.tmp 0),some (some 8,false)⟩,⟨some 10,.call ⟨.builtin .len,#[.tmp 9],#[26]⟩,some (some 8,false)⟩,⟨some 11,.binOp .gtr 3 (.tmp 10) (.const (.int .i64 25000)) 3,some (some 8,false)⟩,⟨some 12,.pick (.tmp 8) (.const (.bool true)) (.tmp 11),none⟩]) (.cond (.tmp 12) (.seq (.reg [⟨some 4,.assign (.const (.bool true)),none⟩]) .ret) .skip)) (.seq (.seq (.reg [⟨some 5,.assign (.const (.int .i64 0)),none⟩]) (.bloop 0 x19_L0)) (.seq (.reg [⟨some 4,.assign (.const (.bool false)),none⟩]) .ret)))
@[simp] theorem x19_s {C e s K} : type_of% (@X_at C e s K _ _ x19_L0.eq_1) ∧ type_of% (@X_at C e s K _ _ x19.eq_1):=⟨X_at x19_L0.eq_1,X_at x19.eq_1⟩
def an19 : Ann:=⟨[],[(0,[],[0,1,5],[4])],[]⟩
@[simp] theorem an19_a : an19.loopOf 0 = ([],[0,1,5],[4]):=rfl
theorem fi19 : FI Try.prog 19 (cxA an19) x19 [.tmp 4] Try.f19:=fiA Try.func19 mixed
theorem vastWords_ref (w : Wd) : ∀ d : Nat,d ≤ 25001 → CallOK Try.prog 19 [.list (w.args.map wrd),.int .i64 (d : Int)] [] (.bool (vwF w d)) []:=by
 induction w using Wd.ind with
 | h w ih=>
  intro d hd
  rw [vwF_eq]
  refine fi19.op ?_
  by_cases h1 : 25000 < d
  ·have h1' : (25000 : Int) < (d : Int) := by omega
   rw [decide_eq_true h1]
   (refine Sg.h ?_;try repeat' ((with_reducible first|refine brA ?_|refine brE fun _=>?_|refine spl ⟨?_,?_⟩<;>intro _)<;>((try simp -implicitDefEqProofs(disch:=first|assumption|(try simp only[lens]);omega -splitDisjunctions) [h1']))))
   all_goals simp
  have h1' : ¬ (25000 : Int) < (d : Int):=by omega
  rw [decide_eq_false h1]
  by_cases h2 : 25000 < w.args.length
  ·have h2' : (25000 : Int) < (w.args.length : Int) := by omega
   rw [decide_eq_true h2]
   (refine Sg.h ?_;try repeat' ((with_reducible first|refine brA ?_|refine brE fun _=>?_|refine spl ⟨?_,?_⟩<;>intro _)<;>((try simp -implicitDefEqProofs(disch:=first|assumption|(try simp only[lens]);omega -splitDisjunctions) [h1',h2']))))
   all_goals simp
  have h2' : ¬ (25000 : Int) < (w.args.length : Int):=by omega
  rw [decide_eq_false h2,Bool.false_or,Bool.false_or]
  (refine Sg.h ?_;try repeat' ((with_reducible first|refine brA ?_|refine brE fun _=>?_|refine spl ⟨?_,?_⟩<;>intro _)<;>((try simp -implicitDefEqProofs(disch:=first|assumption|(try simp only[lens]);omega -splitDisjunctions) [h1',h2']))))
  obtain ⟨R,hR⟩ : ∃ R,vwsF w.args (d + 1) = R:=⟨_,rfl⟩
  rw [hR]
  refine W_of fun Q hQ=>?_
  have main : ∀ n i,i + n = w.args.length → vwsF (w.args.drop i) (d + 1) = R → Q [(0,.list (w.args.map wrd)),(1,.int .i64 (d : Int)),(5,.int .i64 (i : Int))] []:=by
   intro n
   induction n with
   | zero=>
    intro i hi hR
    rw [List.drop_of_length_le (by omega),vwsF] at hR
    dsimp only at hR
    subst hR
    obtain rfl : i = w.args.length:=by omega
    apply hQ
    clear hQ
    (refine Sg.h ?_;try repeat' ((with_reducible first|refine brA ?_|refine brE fun _=>?_|refine spl ⟨?_,?_⟩<;>intro _)<;>((try simp -implicitDefEqProofs(disch:=first|assumption|(try simp only[lens]);omega -splitDisjunctions)))))
   | succ n ihn=>
    intro i hi hR
    have hil : i < w.args.length:=by omega
    rw [List.drop_eq_getElem_cons hil,vwsF] at hR
    dsimp only at hR
    have hc:=ih _ (List.getElem_mem hil) (d + 1) (by omega)
    have ihn:=ihn (i + 1) (by omega)
    have hi' : (i : Int) < (w.args.length : Int):=by omega
    generalize hx : w.args[i] = x at *
    generalize vwF x (d + 1) = b at *
    apply hQ
    clear hQ
    cases b with
    | true=>
     rw [Bool.true_or] at hR
     subst hR
     (refine Sg.h ?_;try repeat' ((first|(with_reducible first|refine brA ?_|refine brE fun _=>?_|refine spl ⟨?_,?_⟩<;>intro _)|refine clo hc ?_)<;>((try simp -implicitDefEqProofs(disch:=first|assumption|(try simp only[lens]);omega -splitDisjunctions) [hi',hil,hx]))))
    | false=>
     rw [Bool.false_or] at hR
     have ihn:=ihn hR
     (refine Sg.h ?_;try repeat' ((first|(with_reducible first|refine brA ?_|refine brE fun _=>?_|refine spl ⟨?_,?_⟩<;>intro _)|refine clo hc ?_)<;>((try simp -implicitDefEqProofs(disch:=first|assumption|(try simp only[lens]);omega -splitDisjunctions) [hi',hil,hx]))))
     all_goals first|exact ihn|(refine at2 ihn ?_ ?_<;>simp;done)|(exfalso;first|omega|(simp_all;done)|(simp_all;omega))
  all_goals first|exact main w.args.length 0 (Nat.zero_add _) hR|(refine at2 main w.args.length 0 (Nat.zero_add _) hR ?_ ?_<;>simp;done)|(exfalso;first|omega|(simp_all;done)|(simp_all;omega))
mutual
def vxF : Ex → Nat → Bool
 | .mk _ _ ws l=>fun d=>decide (25000 < d) || decide (25000 < l.length) || vwF (.mk ⟨#[]⟩ ws) d || vxsF l (d + 1)
def vxsF : List Ex → Nat → Bool
 | []=>fun _=>false
 | e :: r=>fun d=>vxF e d || vxsF r d
end
theorem vxF_eq (e : Ex) (d : Nat) : vxF e d = (decide (25000 < d) || decide (25000 < e.kids.length) || vwF (.mk ⟨#[]⟩ e.words) d || vxsF e.kids (d + 1)):=by
 cases e with | mk k a w l=>rw [vxF];rfl
def x6_L0 : XC:=.seq (.seq (.reg [⟨some 20,.move (.tmp 5),none⟩,⟨some 21,.fieldAddr 29 (.tmp 2) 3,none⟩,⟨some 22,.load 27 (.tmp 21),none⟩,⟨some 23,.call ⟨.builtin .len,#[.tmp 22],#[27]⟩,none⟩,⟨some 24,.binOp .lss 3 (.tmp 20) (.tmp 23) 3,none⟩]) (.cond (.tmp 24) .skip (.exit 0))) (.seq (.block 1 (.seq (.reg [⟨some 27,.fieldAddr 29 (.tmp 2) 3,none⟩,⟨some 28,.load 27 (.tmp 27),none⟩,⟨some 29,.move (.tmp 5),none⟩,⟨some 30,.indexAddr 27 (.tmp 28) (.tmp 29),none⟩,⟨some 31,.load 29 (.tmp 30),none⟩,⟨some 32,.move (.tmp 1),none⟩,⟨some 33,.binOp .add 3 (.tmp 32) (.const (.int .i64 1)) 3,none⟩,⟨some 34,.call ⟨.value (.func 6),#[.tmp 31,.tmp 33],#[29,3]⟩,none⟩]) (.cond (.tmp 34) (.seq (.reg [⟨some 4,.assign (.const (.bool true)),none⟩]) .ret) .skip))) (.reg [⟨some 25,.move (.tmp 5),none⟩,⟨some 26,.binOp .add 3 (.tmp 25) (.const (.int .i64 1)) 3,none⟩,⟨some 5,.assign (.tmp 26),none⟩]))
def x6 : XC:=.seq (.reg [⟨some 2,.box 29 (.tmp 0),none⟩,⟨some 4,.assign (.const (.bool false)),none⟩]) (.seq (.seq (.reg [⟨some 6,.move (.tmp 1),none⟩,⟨some 7,.binOp .gtr 3 (.tmp 6) (.const (.int .i64 25000)) 3,none⟩,⟨some 8,.move (.tmp 7),none⟩,⟨some 9,.fieldAddr 29 (.tmp 2) 3,some (some 8,false)⟩,⟨some 10,.load 27 (.tmp 9),some (some 8,false)⟩,⟨some 11,.call ⟨.builtin .len,#[.tmp 10],#[27]⟩,some (some 8,false)⟩,⟨some 12,.binOp .gtr 3 (.tmp 11) (.const (.int .i64 25000)) 3,some (some 8,false)⟩,⟨some 13,.pick (.tmp 8) (.const (.bool true)) (.tmp 12),none⟩,⟨some 14,.move (.tmp 13),none⟩,⟨some 15,.fieldAddr 29 (.tmp 2) 2,some (some 14,false)⟩,⟨some 16,.load 26 (.tmp 15),some (some 14,false)⟩,⟨some 17,.move (.tmp 1),some (some 14,false)⟩,⟨some 18,.call ⟨.value (.func 19),#[.tmp 16,.tmp 17],#[26,3]⟩,some (some 14,false)⟩,⟨some 19,.pick (.tmp 14) (.const (.bool true)) (.tmp 18),none⟩]) (.cond (.tmp 19) (.seq (.reg [⟨some 4,.assign (.const (.bool true)),none⟩]) .ret) .skip)) (.seq (.seq (.reg [⟨some 5,.assign (.const (.int .i64 0)),none⟩]) (.bloop 0 x6_L0)) (.seq (.reg [⟨some 4,.assign (.const (.bool false)),none⟩]) .ret)))
@[simp] theorem x6_s {C e s K} : type_of% (@X_at C e s K _ _ x6_L0.eq_1) ∧ type_of% (@X_at C e s K _ _ x6.eq_1):=⟨X_at x6_L0.eq_1,X_at x6.eq_1⟩
def an6 : Ann:=⟨[],[(0,[],[1,2,5],[4])],[]⟩
@[simp] theorem an6_a : an6.loopOf 0 = ([],[1,2,5],[4]):=rfl
theorem fi6 : FI Try.prog 6 (cxA an6) x6 [.tmp 4] Try.f6:=fiA Try.func6 mixed
theorem VastExpr_ref (e : Ex) : ∀ d : Nat,d ≤ 25001 → CallOK Try.prog 6 [.agg (exr e),.int .i64 (d : Int)] [] (.bool (vxF e d)) []:=by
 induction e using Ex.ind with
 | h e ih=>
  intro d hd
  have he:=exr_eq e
  have hw:=vastWords_ref (.mk ⟨#[]⟩ e.words) d hd
  change CallOK _ _ [.list (e.words.map wrd),_] _ _ _ at hw
  rw [vxF_eq]
  generalize vwF (.mk ⟨#[]⟩ e.words) d = b at *
  refine fi6.op ?_
  by_cases h1 : 25000 < d
  ·have h1' : (25000 : Int) < (d : Int) := by omega
   rw [decide_eq_true h1]
   (refine Sg.h ?_;try repeat' ((with_reducible first|refine brA ?_|refine brE fun _=>?_|refine spl ⟨?_,?_⟩<;>intro _)<;>((try simp -implicitDefEqProofs(disch:=first|assumption|(try simp only[lens]);omega -splitDisjunctions) [h1']))))
   all_goals simp
  have h1' : ¬ (25000 : Int) < (d : Int):=by omega
  rw [decide_eq_false h1]
  by_cases h2 : 25000 < e.kids.length
  ·have h2' : (25000 : Int) < (e.kids.length : Int) := by omega
   rw [decide_eq_true h2]
   (refine Sg.h ?_;try repeat' ((with_reducible first|refine brA ?_|refine brE fun _=>?_|refine spl ⟨?_,?_⟩<;>intro _)<;>((try simp -implicitDefEqProofs(disch:=first|assumption|(try simp only[lens]);omega -splitDisjunctions) [h1',h2']))))
   all_goals simp
  have h2' : ¬ (25000 : Int) < (e.kids.length : Int):=by omega
  rw [decide_eq_false h2,Bool.false_or,Bool.false_or]
  cases b with
  | true=>
   rw [Bool.true_or]
   (refine Sg.h ?_;try repeat' ((first|(with_reducible first|refine brA ?_|refine brE fun _=>?_|refine spl ⟨?_,?_⟩<;>intro _)|refine clo hw ?_)<;>((try simp -implicitDefEqProofs(disch:=first|assumption|(try simp only[lens]);omega -splitDisjunctions) [h1',h2']))))
  | false=>
  rw [Bool.false_or]
  (refine Sg.h ?_;try repeat' ((first|(with_reducible first|refine brA ?_|refine brE fun _=>?_|refine spl ⟨?_,?_⟩<;>intro _)|refine clo hw ?_)<;>((try simp -implicitDefEqProofs(disch:=first|assumption|(try simp only[lens]);omega -splitDisjunctions) [h1',h2']))))
  obtain ⟨R,hR⟩ : ∃ R,vxsF e.kids (d + 1) = R:=⟨_,rfl⟩
  rw [hR]
  refine W_of fun Q hQ=>?_
  have main : ∀ n i,i + n = e.kids.length → vxsF (e.kids.drop i) (d + 1) = R → Q [(1,.int .i64 (d : Int)),(2,.ptr 0 0 0),(5,.int .i64 (i : Int))] [.rows 4 [exr e]]:=by
   intro n
   induction n with
   | zero=>
    intro i hi hR
    rw [List.drop_of_length_le (by omega),vxsF] at hR
    dsimp only at hR
    subst hR
    obtain rfl : i = e.kids.length:=by omega
    apply hQ
    clear hQ
    (refine Sg.h ?_;try repeat' ((with_reducible first|refine brA ?_|refine brE fun _=>?_|refine spl ⟨?_,?_⟩<;>intro _)<;>((try simp -implicitDefEqProofs(disch:=first|assumption|(try simp only[lens]);omega -splitDisjunctions)))))
   | succ n ihn=>
    intro i hi hR
    have hil : i < e.kids.length:=by omega
    rw [List.drop_eq_getElem_cons hil,vxsF] at hR
    dsimp only at hR
    have hc:=ih _ (List.getElem_mem hil) (d + 1) (by omega)
    have ihn:=ihn (i + 1) (by omega)
    have hi' : (i : Int) < (e.kids.length : Int):=by omega
    generalize hx : e.kids[i] = x at *
    generalize vxF x (d + 1) = b at *
    apply hQ
    clear hQ
    cases b with
    | true=>
     rw [Bool.true_or] at hR
     subst hR
     (refine Sg.h ?_;try repeat' ((first|(with_reducible first|refine brA ?_|refine brE fun _=>?_|refine spl ⟨?_,?_⟩<;>intro _)|refine clo hc ?_)<;>((try simp -implicitDefEqProofs(disch:=first|assumption|(try simp only[lens]);omega -splitDisjunctions) [hi',hil,hx]))))
    | false=>
     rw [Bool.false_or] at hR
     have ihn:=ihn hR
     (refine Sg.h ?_;try repeat' ((first|(with_reducible first|refine brA ?_|refine brE fun _=>?_|refine spl ⟨?_,?_⟩<;>intro _)|refine clo hc ?_)<;>((try simp -implicitDefEqProofs(disch:=first|assumption|(try simp only[lens]);omega -splitDisjunctions) [hi',hil,hx]))))
     all_goals first|exact ihn|(refine at2 ihn ?_ ?_<;>simp;done)|(exfalso;first|omega|(simp_all;done)|(simp_all;omega))
  all_goals first|exact main e.kids.length 0 (Nat.zero_add _) hR|(refine at2 main e.kids.length 0 (Nat.zero_add _) hR ?_ ?_<;>simp;done)|(exfalso;first|omega|(simp_all;done)|(simp_all;omega))
end Go.Proofs.Ytbimioonhfhflaa
