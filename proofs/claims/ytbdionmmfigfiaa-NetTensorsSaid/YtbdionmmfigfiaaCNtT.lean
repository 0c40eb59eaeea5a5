import Derived.Test.YtbdionmmfigfiaaCCcJ
set_option linter.unusedVariables false
set_option linter.unusedSimpArgs false
set_option maxRecDepth 100000
set_option maxHeartbeats 4000000
namespace Go.Proofs.Ytbdionmmfigfiaa
open Go Go.Pv
def pB : ByteArray := ⟨#[112]⟩
def idL (par : Bool) : Lt := .op par (.atom pB false) (.atom pB true)
def x33 : XC := .seq (.reg [⟨some 2,.assign (.const (.slice none 0 0)),none⟩]) (.seq (.reg [⟨some 3,.move (.tmp 0),none⟩,⟨some 4,.build 24 #[(0,.const (.int .i64 1)),(1,.const (.string ⟨#[112]⟩))],none⟩,⟨some 5,.build 24 #[(0,.const (.int .i64 1)),(1,.const (.string ⟨#[112]⟩)),(2,.const (.bool true))],none⟩,⟨some 6,.buildSlice 22 2 #[(0,.tmp 4),(1,.tmp 5)],none⟩,⟨some 7,.build 24 #[(0,.tmp 3),(3,.tmp 6)],none⟩,⟨some 8,.buildSlice 22 1 #[(0,.tmp 7)],none⟩,⟨some 2,.assign (.tmp 8),none⟩]) .ret)
@[simp] theorem x33_s {C e s K} : type_of% (@X_at C e s K _ _ x33.eq_1) := X_at x33.eq_1
def an33 : Ann := ⟨[],[],[]⟩
theorem fi33 : FI Try.prog 33 (cxA an33) x33 [.tmp 2] Try.f33 := fiA Try.func33 mixed
theorem identity_law (par : Bool) : CallOK Try.prog 33 [.int .i64 (if par = true then 3 else 2)] [] (.list (([idL par].map lnOf).map lnr)) [] := by
 have e : ([idL par].map lnOf).map lnr = [[.int .i64 (if par = true then 3 else 2),.str ⟨#[]⟩,.bool false,.list [[.int .i64 1,.str pB,.bool false,.list []],[.int .i64 1,.str pB,.bool true,.list []]]]] := by
  simp only [List.map_cons,List.map_nil,idL,lnOf,lnr_eq,ln_mk]
 rw [e]
 refine callOK_softR (v' := .list [[.int .i64 (if par = true then 3 else 2),.str ⟨#[]⟩,.bool false,.list [[.int .i64 1,.str pB,.bool false,.nilsl],[.int .i64 1,.str pB,.bool true,.nilsl]]]]) (fi33.op ?_) ?_
 ·generalize (if par = true then (3 : Int) else 2) = k
  unfold pB
  (refine Sg.h ?_;try repeat' ((with_reducible first|refine brA ?_|refine brE fun _=>?_|refine spl ⟨?_,?_⟩<;>intro _)<;> ((try simp -implicitDefEqProofs); (try simp -implicitDefEqProofs(disch:=first|assumption|(try simp only[lens]);omega -splitDisjunctions)))))
 ·exact .list (.cons (.cons .refl (.cons .refl (.cons .refl (.cons (.list (.cons (.cons .refl (.cons .refl (.cons .refl (.cons .nil .nil)))) (.cons (.cons .refl (.cons .refl (.cons .refl (.cons .nil .nil)))) .nil))) .nil)))) .nil)
theorem idL_ok (par : Bool) : ∀ t ∈ [idL par],LtOk t := by
 intro t ht
 rw [List.mem_singleton] at ht
 subst ht
 exact ⟨by unfold LtOk; decide,by unfold LtOk; decide⟩
theorem idL_lk (par : Bool) : Lk (atTs [idL par]) [(0,1)] := by
 have h := str_lk (.atom pB false)
 have e : atTs [.atom pB false,dlT (.atom pB false)] = atTs [idL par] := rfl
 rw [e] at h
 exact h
theorem idL_par : corB [idL true] [(0,1)] = true := by
 rw [corB_iff]
 have h := str_cor (.atom pB false)
 exact (par_cor [] (.atom pB false) (.atom pB true) [(0,1)] (by intro a ha; rw [List.mem_singleton] at ha; subst ha; exact ⟨by decide,by decide⟩)).2 h
theorem idL_ten : corB [idL false] [(0,1)] = false := by
 rw [Bool.eq_false_iff]
 intro h
 have h : Full 3 [edS (1,2),edS (0,1),edS (0,2)] [] := corB_iff.1 h
 have h1 := h.exch (s := edS (1,2)) (T := [edS (0,1),edS (0,2)]) (.refl _) (.refl _)
 have h2 := h1.exch (s := edS (0,1)) (T := [edS (0,2)]) (.refl _) (.refl _)
 refine h2.later (s := edS (0,2)) (by simp) ?_
 exact (Con.edge (a := 0) (b := 1) (by simp [edS])).trans (Con.edge (a := 1) (b := 2) (by simp [edS]))
def x8 : XC := .seq (.reg [⟨some 0,.assign (.const (.bool false)),none⟩]) (.seq (.reg [⟨some 6,.call ⟨.value (.func 33),#[.const (.int .i64 3)],#[3]⟩,none⟩,⟨some 7,.build 33 #[(0,.const (.int .i64 0)),(1,.const (.int .i64 1))],none⟩,⟨some 8,.buildSlice 25 1 #[(0,.tmp 7)],none⟩,⟨some 9,.call ⟨.value (.func 13),#[.tmp 6,.tmp 8],#[22,25]⟩,none⟩,⟨some 5,.move (.tmp 9),none⟩,⟨some 10,.extract (.tmp 5) 0,none⟩,⟨some 11,.extract (.tmp 5) 1,none⟩,⟨some 2,.alloc 29,none⟩,⟨some 1,.assign (.tmp 10),none⟩,⟨none,.store 29 (.tmp 2) (.tmp 11),none⟩]) (.seq (.reg [⟨some 13,.call ⟨.value (.func 33),#[.const (.int .i64 2)],#[3]⟩,none⟩,⟨some 14,.build 33 #[(0,.const (.int .i64 0)),(1,.const (.int .i64 1))],none⟩,⟨some 15,.buildSlice 25 1 #[(0,.tmp 14)],none⟩,⟨some 16,.call ⟨.value (.func 13),#[.tmp 13,.tmp 15],#[22,25]⟩,none⟩,⟨some 12,.move (.tmp 16),none⟩,⟨some 17,.extract (.tmp 12) 0,none⟩,⟨some 18,.extract (.tmp 12) 1,none⟩,⟨some 4,.alloc 29,none⟩,⟨some 3,.assign (.tmp 17),none⟩,⟨none,.store 29 (.tmp 4) (.tmp 18),none⟩]) (.seq (.reg [⟨some 19,.fieldAddr 29 (.tmp 2) 0,none⟩,⟨some 20,.load 3 (.tmp 19),none⟩,⟨some 21,.binOp .eql 3 (.tmp 20) (.const (.int .i64 0)) 3,none⟩,⟨some 22,.move (.tmp 21),none⟩,⟨some 23,.fieldAddr 29 (.tmp 4) 0,some (some 22,true)⟩,⟨some 24,.load 3 (.tmp 23),some (some 22,true)⟩,⟨some 25,.binOp .eql 3 (.tmp 24) (.const (.int .i64 0)) 3,some (some 22,true)⟩,⟨some 26,.pick (.tmp 22) (.tmp 25) (.const (.bool false)),none⟩,⟨some 27,.move (.tmp 26),none⟩,⟨some 28,.move (.tmp 1),some (some 27,true)⟩,⟨some 29,.pick (.tmp 27) (.tmp 28) (.const (.bool false)),none⟩,⟨some 30,.move (.tmp 29),none⟩,⟨some 31,.move (.tmp 3),some (some 30,true)⟩,⟨some 32,.unOp .not 4 (.tmp 31),some (some 30,true)⟩,⟨some 33,.pick (.tmp 30) (.tmp 32) (.const (.bool false)),none⟩,⟨some 0,.assign (.tmp 33),none⟩]) .ret)))
@[simp] theorem x8_s {C e s K} : type_of% (@X_at C e s K _ _ x8.eq_1) := X_at x8.eq_1
def an8 : Ann := ⟨[],[],[]⟩
theorem fi8 : FI Try.prog 8 (cxA an8) x8 [.tmp 0] Try.f8 := fiA Try.func8 mixed
theorem netBegun_law : CallOK Try.prog 8 [] [] (.bool true) [] := by
 have i3 := identity_law true
 have i2 := identity_law false
 rw [if_pos rfl] at i3
 rw [if_neg (by decide)] at i2
 have h (par : Bool) := Correct_ok [idL par] [(0,1)] (idL_ok par) (by simp) (by simp) (by cases par <;> decide) (by cases par <;> decide) (idL_lk par)
 have h3 := h true
 have h2 := h false
 rw [idL_par] at h3
 rw [idL_ten] at h2
 have e : (cst [(0,1)]).map relRow = [[.int .i64 0,.int .i64 1]] := rfl
 rw [e] at h2 h3
 clear h
 generalize ([idL true].map lnOf).map lnr = l3 at *
 generalize ([idL false].map lnOf).map lnr = l2 at *
 refine fi8.op ?_
 (refine Sg.h ?_;try repeat' ((first | (with_reducible first|refine brA ?_|refine brE fun _=>?_|refine spl ⟨?_,?_⟩<;>intro _) | refine clo i3 ?_) <;> ((try simp -implicitDefEqProofs); (try simp -implicitDefEqProofs(disch:=first|assumption|(try simp only[lens]);omega -splitDisjunctions)))))
 refine CL.giv [0] ?_
 (refine Sg.h ?_;try repeat' ((first | (with_reducible first|refine brA ?_|refine brE fun _=>?_|refine spl ⟨?_,?_⟩<;>intro _) | refine clo h3 ?_ | refine clo i2 ?_) <;> ((try simp -implicitDefEqProofs); (try simp -implicitDefEqProofs(disch:=first|assumption|(try simp only[lens]);omega -splitDisjunctions)))))
 refine CL.giv [2] ?_
 (refine Sg.h ?_;try repeat' ((first | (with_reducible first|refine brA ?_|refine brE fun _=>?_|refine spl ⟨?_,?_⟩<;>intro _) | refine clo h2 ?_) <;> ((try simp -implicitDefEqProofs); (try simp -implicitDefEqProofs(disch:=first|assumption|(try simp only[lens]);omega -splitDisjunctions)))))
end Go.Proofs.Ytbdionmmfigfiaa
namespace Go.Proofs.Ytbdionmmfigfiaa
open Go Go.Pv
theorem Correct_any (l : List Ln) (ax : List (Int × Int)) : ∃ (b : Bool) (c a : Int),(c = 0 ↔ (lkF l ax).1 = 0) ∧ CallOK Try.prog 13 [.list (l.map lnr),.list (ax.map relRow)] [] (.tuple [.bool b,.agg [.int .i64 c,.int .i64 a]]) [] := by
 by_cases h : (lkF l ax).1 = 0
 ·obtain ⟨ts,an,rfl,rfl,h1,h2,h3,h4,h5,h6⟩ := net_of h
  exact ⟨_,0,0,by simp [h],Correct_ok ts an h1 h2 h3 h4 h5 h6⟩
 ·exact ⟨_,_,_,by simp [h],Correct_bad l ax h⟩
theorem lk_app {A B : List Ln} {an bn : List (Nat × Nat)} (ha : Lk A an) (hb : Lk B bn) : Lk (A ++ B) (an ++ shf A.length bn) := by
 have hf : flat2 (an ++ shf A.length bn) = flat2 an ++ (flat2 bn).map (A.length + ·) := by
  unfold flat2 shf
  rw [List.flatMap_append,List.flatMap_map,List.map_flatMap]
  rfl
 have hin : ∀ k ∈ flat2 an,k < A.length := by
  intro k hk
  obtain ⟨a,h1,h2⟩ := List.mem_flatMap.1 hk
  have := ha.1 a h1
  simp at h2
  rcases h2 with rfl | rfl
  ·exact this.1
  ·exact this.2.1
 refine ⟨?_,?_,?_⟩
 ·intro a h
  rw [List.length_append]
  rcases List.mem_append.1 h with h | h
  ·obtain ⟨h1,h2,h3⟩ := ha.1 a h
   refine ⟨by omega,by omega,?_⟩
   rw [getElem!_pos (A ++ B) a.1 (by rw [List.length_append]; omega),getElem!_pos (A ++ B) a.2 (by rw [List.length_append]; omega),List.getElem_append_left h1,List.getElem_append_left h2]
   rwa [getElem!_pos A _ h1,getElem!_pos A _ h2] at h3
  ·obtain ⟨b,hb2,rfl⟩ := List.mem_map.1 h
   obtain ⟨h1,h2,h3⟩ := hb.1 b hb2
   refine ⟨by dsimp only; omega,by dsimp only; omega,?_⟩
   dsimp only
   rw [getElem!_pos (A ++ B) (A.length + b.1) (by rw [List.length_append]; omega),getElem!_pos (A ++ B) (A.length + b.2) (by rw [List.length_append]; omega),List.getElem_append_right (by omega),List.getElem_append_right (by omega)]
   rw [getElem!_pos B _ h1,getElem!_pos B _ h2] at h3
   simpa only [Nat.add_sub_cancel_left] using h3
 ·rw [hf,List.nodup_append]
  refine ⟨ha.2.1,?_,?_⟩
  ·have := hb.2.1
   unfold List.Nodup at this ⊢
   rw [List.pairwise_map]
   exact this.imp fun h e => h (by omega)
  ·intro x hx y hy
   obtain ⟨z,_,rfl⟩ := List.mem_map.1 hy
   have := hin x hx
   omega
 ·intro k hk
  rw [List.length_append] at hk
  rw [hf,List.mem_append]
  by_cases h : k < A.length
  ·exact .inl (ha.2.2 k h)
  ·refine .inr (List.mem_map.2 ⟨k - A.length,hb.2.2 _ (by omega),by omega⟩)
def x4_T1 : XC := .seq (.reg [⟨some 98,.move (.tmp 0),none⟩,⟨some 99,.call ⟨.builtin .len,#[.tmp 98],#[22]⟩,none⟩,⟨some 100,.binOp .sub 3 (.tmp 99) (.const (.int .i64 1)) 3,none⟩,⟨some 16,.assign (.tmp 100),none⟩]) (.seq (.reg [⟨some 101,.move (.tmp 0),none⟩,⟨some 102,.call ⟨.builtin .append,#[.const (.slice none 0 0),.tmp 101],#[22,22]⟩,none⟩,⟨some 103,.move (.tmp 2),none⟩,⟨some 104,.call ⟨.builtin .append,#[.tmp 102,.tmp 103],#[22,22]⟩,none⟩,⟨some 17,.assign (.tmp 104),none⟩]) (.seq (.drawn 17 [⟨some 105,.move (.tmp 0),none⟩,⟨some 106,.move (.tmp 16),none⟩,⟨some 107,.slice 22 (.tmp 105) none (some (.tmp 106)) none,none⟩,⟨some 108,.call ⟨.builtin .append,#[.const (.slice none 0 0),.tmp 107],#[22,22]⟩,none⟩,⟨some 109,.move (.tmp 0),none⟩,⟨some 110,.move (.tmp 16),none⟩,⟨some 111,.indexAddr 22 (.tmp 109) (.tmp 110),none⟩,⟨some 112,.load 24 (.tmp 111),none⟩,⟨some 113,.move (.tmp 2),none⟩,⟨some 114,.indexAddr 22 (.tmp 113) (.const (.int .i64 0)),none⟩,⟨some 115,.load 24 (.tmp 114),none⟩,⟨some 116,.buildSlice 22 2 #[(0,.tmp 112),(1,.tmp 115)],none⟩,⟨some 117,.build 24 #[(0,.const (.int .i64 2)),(3,.tmp 116)],none⟩,⟨some 118,.buildSlice 22 1 #[(0,.tmp 117)],none⟩,⟨some 119,.call ⟨.builtin .append,#[.tmp 108,.tmp 118],#[22,22]⟩,none⟩,⟨some 18,.assign (.tmp 119),none⟩]) (.seq (.reg [⟨some 120,.move (.tmp 18),none⟩,⟨some 121,.move (.tmp 2),none⟩,⟨some 122,.slice 22 (.tmp 121) (some (.const (.int .i64 1))) none none,none⟩,⟨some 123,.call ⟨.builtin .append,#[.tmp 120,.tmp 122],#[22,22]⟩,none⟩,⟨some 18,.assign (.tmp 123),none⟩]) (.seq (.reg [⟨some 125,.move (.tmp 17),none⟩,⟨some 126,.move (.tmp 14),none⟩,⟨some 127,.call ⟨.value (.func 13),#[.tmp 125,.tmp 126],#[22,25]⟩,none⟩,⟨some 124,.move (.tmp 127),none⟩,⟨some 128,.extract (.tmp 124) 0,none⟩,⟨some 129,.extract (.tmp 124) 1,none⟩,⟨some 20,.alloc 29,none⟩,⟨some 19,.assign (.tmp 128),none⟩,⟨none,.store 29 (.tmp 20) (.tmp 129),none⟩]) (.seq (.reg [⟨some 131,.move (.tmp 18),none⟩,⟨some 132,.move (.tmp 14),none⟩,⟨some 133,.call ⟨.value (.func 13),#[.tmp 131,.tmp 132],#[22,25]⟩,none⟩,⟨some 130,.move (.tmp 133),none⟩,⟨some 134,.extract (.tmp 130) 0,none⟩,⟨some 135,.extract (.tmp 130) 1,none⟩,⟨some 22,.alloc 29,none⟩,⟨some 21,.assign (.tmp 134),none⟩,⟨none,.store 29 (.tmp 22) (.tmp 135),none⟩]) (.seq (.reg [⟨some 136,.fieldAddr 29 (.tmp 20) 0,none⟩,⟨some 137,.load 3 (.tmp 136),none⟩,⟨some 138,.binOp .eql 3 (.tmp 137) (.const (.int .i64 0)) 3,none⟩,⟨some 139,.move (.tmp 138),none⟩,⟨some 140,.fieldAddr 29 (.tmp 22) 0,some (some 139,true)⟩,⟨some 141,.load 3 (.tmp 140),some (some 139,true)⟩,⟨some 142,.binOp .eql 3 (.tmp 141) (.const (.int .i64 0)) 3,some (some 139,true)⟩,⟨some 143,.pick (.tmp 139) (.tmp 142) (.const (.bool false)),none⟩,⟨some 144,.move (.tmp 143),none⟩,⟨some 145,.move (.tmp 19),some (some 144,true)⟩,⟨some 146,.unOp .not 4 (.tmp 145),some (some 144,true)⟩,⟨some 147,.pick (.tmp 144) (.tmp 146) (.const (.bool false)),none⟩,⟨some 148,.move (.tmp 147),none⟩,⟨some 149,.move (.tmp 21),some (some 148,true)⟩,⟨some 150,.move (.tmp 9),some (some 148,true)⟩,⟨some 151,.move (.tmp 150),some (some 148,true)⟩,⟨some 152,.move (.tmp 11),some (some 151,true)⟩,⟨some 153,.pick (.tmp 151) (.tmp 152) (.const (.bool false)),some (some 148,true)⟩,⟨some 154,.binOp .eql 4 (.tmp 149) (.tmp 153) 4,some (some 148,true)⟩,⟨some 155,.pick (.tmp 148) (.tmp 154) (.const (.bool false)),none⟩,⟨some 8,.assign (.tmp 155),none⟩]) .ret))))))
def x4_L0 : XC := .seq (.seq (.reg [⟨some 74,.move (.tmp 15),none⟩,⟨some 75,.move (.tmp 3),none⟩,⟨some 76,.call ⟨.builtin .len,#[.tmp 75],#[25]⟩,none⟩,⟨some 77,.binOp .lss 3 (.tmp 74) (.tmp 76) 3,none⟩]) (.cond (.tmp 77) .skip (.exit 0))) (.seq (.block 1 (.drawn 14 [⟨some 80,.move (.tmp 14),none⟩,⟨some 81,.move (.tmp 13),none⟩,⟨some 82,.move (.tmp 3),none⟩,⟨some 83,.move (.tmp 15),none⟩,⟨some 84,.indexAddr 25 (.tmp 82) (.tmp 83),none⟩,⟨some 85,.indexAddr 33 (.tmp 84) (.const (.int .i64 0)),none⟩,⟨some 86,.load 3 (.tmp 85),none⟩,⟨some 87,.binOp .add 3 (.tmp 81) (.tmp 86) 3,none⟩,⟨some 88,.move (.tmp 13),none⟩,⟨some 89,.move (.tmp 3),none⟩,⟨some 90,.move (.tmp 15),none⟩,⟨some 91,.indexAddr 25 (.tmp 89) (.tmp 90),none⟩,⟨some 92,.indexAddr 33 (.tmp 91) (.const (.int .i64 1)),none⟩,⟨some 93,.load 3 (.tmp 92),none⟩,⟨some 94,.binOp .add 3 (.tmp 88) (.tmp 93) 3,none⟩,⟨some 95,.build 33 #[(0,.tmp 87),(1,.tmp 94)],none⟩,⟨some 96,.buildSlice 25 1 #[(0,.tmp 95)],none⟩,⟨some 97,.call ⟨.builtin .append,#[.tmp 80,.tmp 96],#[25,25]⟩,none⟩,⟨some 14,.assign (.tmp 97),none⟩])) (.reg [⟨some 78,.move (.tmp 15),none⟩,⟨some 79,.binOp .add 3 (.tmp 78) (.const (.int .i64 1)) 3,none⟩,⟨some 15,.assign (.tmp 79),none⟩]))
def x4 : XC := .seq (.reg [⟨some 8,.assign (.const (.bool false)),none⟩]) (.seq (.seq (.reg [⟨some 23,.call ⟨.value (.func 8),#[],#[]⟩,none⟩,⟨some 24,.unOp .not 4 (.tmp 23),none⟩]) (.cond (.tmp 24) (.seq (.reg [⟨some 8,.assign (.const (.bool false)),none⟩]) .ret) .skip)) (.seq (.seq (.reg [⟨some 25,.move (.tmp 0),none⟩,⟨some 26,.call ⟨.value (.func 9),#[.tmp 25,.const (.int .i64 0)],#[22,3]⟩,none⟩,⟨some 27,.move (.tmp 26),none⟩,⟨some 28,.move (.tmp 2),some (some 27,false)⟩,⟨some 29,.call ⟨.value (.func 9),#[.tmp 28,.const (.int .i64 0)],#[22,3]⟩,some (some 27,false)⟩,⟨some 30,.pick (.tmp 27) (.const (.bool true)) (.tmp 29),none⟩]) (.cond (.tmp 30) (.seq (.reg [⟨some 8,.assign (.const (.bool true)),none⟩]) .ret) .skip)) (.seq (.reg [⟨some 32,.move (.tmp 0),none⟩,⟨some 33,.move (.tmp 1),none⟩,⟨some 34,.call ⟨.value (.func 13),#[.tmp 32,.tmp 33],#[22,25]⟩,none⟩,⟨some 31,.move (.tmp 34),none⟩,⟨some 35,.extract (.tmp 31) 0,none⟩,⟨some 36,.extract (.tmp 31) 1,none⟩,⟨some 10,.alloc 29,none⟩,⟨some 9,.assign (.tmp 35),none⟩,⟨none,.store 29 (.tmp 10) (.tmp 36),none⟩]) (.seq (.reg [⟨some 38,.move (.tmp 2),none⟩,⟨some 39,.move (.tmp 3),none⟩,⟨some 40,.call ⟨.value (.func 13),#[.tmp 38,.tmp 39],#[22,25]⟩,none⟩,⟨some 37,.move (.tmp 40),none⟩,⟨some 41,.extract (.tmp 37) 0,none⟩,⟨some 42,.extract (.tmp 37) 1,none⟩,⟨some 12,.alloc 29,none⟩,⟨some 11,.assign (.tmp 41),none⟩,⟨none,.store 29 (.tmp 12) (.tmp 42),none⟩]) (.seq (.seq (.reg [⟨some 43,.fieldAddr 29 (.tmp 10) 0,none⟩,⟨some 44,.load 3 (.tmp 43),none⟩,⟨some 45,.binOp .neq 3 (.tmp 44) (.const (.int .i64 0)) 3,none⟩,⟨some 46,.move (.tmp 45),none⟩,⟨some 47,.fieldAddr 29 (.tmp 12) 0,some (some 46,false)⟩,⟨some 48,.load 3 (.tmp 47),some (some 46,false)⟩,⟨some 49,.binOp .neq 3 (.tmp 48) (.const (.int .i64 0)) 3,some (some 46,false)⟩,⟨some 50,.pick (.tmp 46) (.const (.bool true)) (.tmp 49),none⟩,⟨some 51,.move (.tmp 50),none⟩,⟨some 52,.move (.tmp 0),some (some 51,false)⟩,⟨some 53,.call ⟨.builtin .len,#[.tmp 52],#[22]⟩,some (some 51,false)⟩,⟨some 54,.move (.tmp 2),some (some 51,false)⟩,⟨some 55,.call ⟨.builtin .len,#[.tmp 54],#[22]⟩,some (some 51,false)⟩,⟨some 56,.binOp .add 3 (.tmp 53) (.tmp 55) 3,some (some 51,false)⟩,⟨some 57,.binOp .gtr 3 (.tmp 56) (.const (.int .i64 20)) 3,some (some 51,false)⟩,⟨some 58,.pick (.tmp 51) (.const (.bool true)) (.tmp 57),none⟩,⟨some 59,.move (.tmp 58),none⟩,⟨some 60,.move (.tmp 0),some (some 59,false)⟩,⟨some 61,.call ⟨.value (.func 11),#[.tmp 60,.const (.int .i64 201)],#[22,3]⟩,some (some 59,false)⟩,⟨some 62,.call ⟨.builtin .len,#[.tmp 61],#[22]⟩,some (some 59,false)⟩,⟨some 63,.move (.tmp 2),some (some 59,false)⟩,⟨some 64,.call ⟨.value (.func 11),#[.tmp 63,.const (.int .i64 201)],#[22,3]⟩,some (some 59,false)⟩,⟨some 65,.call ⟨.builtin .len,#[.tmp 64],#[22]⟩,some (some 59,false)⟩,⟨some 66,.binOp .add 3 (.tmp 62) (.tmp 65) 3,some (some 59,false)⟩,⟨some 67,.binOp .gtr 3 (.tmp 66) (.const (.int .i64 199)) 3,some (some 59,false)⟩,⟨some 68,.pick (.tmp 59) (.const (.bool true)) (.tmp 67),none⟩]) (.cond (.tmp 68) (.seq (.reg [⟨some 8,.assign (.const (.bool true)),none⟩]) .ret) .skip)) (.seq (.reg [⟨some 69,.move (.tmp 0),none⟩,⟨some 70,.call ⟨.value (.func 12),#[.tmp 69],#[22]⟩,none⟩,⟨some 71,.call ⟨.builtin .len,#[.tmp 70],#[22]⟩,none⟩,⟨some 13,.assign (.tmp 71),none⟩]) (.seq (.reg [⟨some 72,.move (.tmp 1),none⟩,⟨some 73,.call ⟨.builtin .append,#[.const (.slice none 0 0),.tmp 72],#[25,25]⟩,none⟩,⟨some 14,.assign (.tmp 73),none⟩]) (.seq (.seq (.reg [⟨some 15,.assign (.const (.int .i64 0)),none⟩]) (.bloop 0 x4_L0)) (x4_T1)))))))))
@[simp] theorem x4_s {C e s K} : type_of% (@X_at C e s K _ _ x4_T1.eq_1) ∧ type_of% (@X_at C e s K _ _ x4_L0.eq_1) ∧ type_of% (@X_at C e s K _ _ x4.eq_1) := ⟨X_at x4_T1.eq_1,X_at x4_L0.eq_1,X_at x4.eq_1⟩
def an4 : Ann := ⟨[(14,.mixz 17),(17,.mixz 14)],[(0,[(14,none,2)],[0,2,3,9,11,13,14,15],[0,2,9,11,14])],[]⟩
@[simp] theorem an4_a : an4.clsOf 14 = .mixz 17 ∧ an4.clsOf 17 = .mixz 14 ∧ an4.frzOf 14 = [] ∧ an4.frzOf 17 = [] ∧ an4.loopOf 0 = ([(14,none,2)],[0,2,3,9,11,13,14,15],[0,2,9,11,14]) := ⟨rfl,rfl,rfl,rfl,rfl⟩
theorem fi4 : FI Try.prog 4 (cxA an4) x4 [.tmp 8] Try.f4 := fiA Try.func4 mixed
theorem netTensors_law (l : List Ln) (ax : List (Int × Int)) (m : List Ln) (bx : List (Int × Int)) : CallOK Try.prog 4 [.list (l.map lnr),.list (ax.map relRow),.list (m.map lnr),.list (bx.map relRow)] [] (.bool true) [] := by
 have hbg := netBegun_law
 have vl := VastLinear_ref l 0 (by decide) (by decide)
 have vm := VastLinear_ref m 0 (by decide) (by decide)
 refine fi4.op ?_
 generalize vaLs l 0 = v1 at *
 generalize vaLs m 0 = v2 at *
 cases v1 with
 | true => (refine Sg.h ?_;try repeat' ((first | (with_reducible first|refine brA ?_|refine brE fun _=>?_|refine spl ⟨?_,?_⟩<;>intro _) | refine clo hbg ?_ | refine clo vl ?_) <;> ((try simp -implicitDefEqProofs); (try simp -implicitDefEqProofs(disch:=first|assumption|(try simp only[lens]);omega -splitDisjunctions)))))
 | false =>
 cases v2 with
 | true => (refine Sg.h ?_;try repeat' ((first | (with_reducible first|refine brA ?_|refine brE fun _=>?_|refine spl ⟨?_,?_⟩<;>intro _) | refine clo hbg ?_ | refine clo vl ?_ | refine clo vm ?_) <;> ((try simp -implicitDefEqProofs); (try simp -implicitDefEqProofs(disch:=first|assumption|(try simp only[lens]);omega -splitDisjunctions)))))
 | false =>
 by_cases hc : (lkF l ax).1 = 0
 rotate_left 1
 ·have c1 := Correct_bad l ax hc
  obtain ⟨b,c,a,_,c2⟩ := Correct_any m bx
  generalize (lkF l ax).1 = c3 at *
  generalize (lkF l ax).2 = a3 at *
  (refine Sg.h ?_;try repeat' ((first | (with_reducible first|refine brA ?_|refine brE fun _=>?_|refine spl ⟨?_,?_⟩<;>intro _) | refine clo hbg ?_ | refine clo vl ?_ | refine clo vm ?_ | refine clo c1 ?_ | refine clo c2 ?_) <;> ((try simp -implicitDefEqProofs [hc]); (try simp -implicitDefEqProofs(disch:=first|assumption|(try simp only[lens]);omega -splitDisjunctions) [hc]))))
 by_cases hd : (lkF m bx).1 = 0
 rotate_left 1
 ·have c1 := Correct_bad m bx hd
  obtain ⟨b,c,a,h0,c2⟩ := Correct_any l ax
  obtain rfl : c = 0 := h0.2 hc
  generalize (lkF m bx).1 = c3 at *
  generalize (lkF m bx).2 = a3 at *
  (refine Sg.h ?_;try repeat' ((first | (with_reducible first|refine brA ?_|refine brE fun _=>?_|refine spl ⟨?_,?_⟩<;>intro _) | refine clo hbg ?_ | refine clo vl ?_ | refine clo vm ?_ | refine clo c2 ?_ | refine clo c1 ?_) <;> ((try simp -implicitDefEqProofs [hd]); (try simp -implicitDefEqProofs(disch:=first|assumption|(try simp only[lens]);omega -splitDisjunctions) [hd]))))
 obtain ⟨ts,an,e1,rfl,g1,g2,g3,g4,g5,g6⟩ := net_of hc
 obtain ⟨us,bn,e2,rfl,k1,k2,k3,k4,k5,k6⟩ := net_of hd
 have c1 := Correct_ok ts an g1 g2 g3 g4 g5 g6
 have c2 := Correct_ok us bn k1 k2 k3 k4 k5 k6
 have hl1 := Linears_ref l 201 (by decide) (by decide)
 have hl2 := Linears_ref m 201 (by decide) (by decide)
 have hv := Leaves_ref l
 have hvl : lvR l = atTs ts := by
  unfold lvR
  rw [e1,List.take_of_length_le (by rw [(ndLs_lt ts).1]; omega),(ndLs_lt ts).2]
 rw [hvl] at hv
 have hn1 : ((ndLs l).take (201 + 1 : Int).toNat).length = szTs ts := by rw [e1,List.take_of_length_le (by rw [(ndLs_lt ts).1]; exact Nat.le_trans g4 (by decide)),(ndLs_lt ts).1]
 have hn2 : ((ndLs m).take (201 + 1 : Int).toNat).length = szTs us := by rw [e2,List.take_of_length_le (by rw [(ndLs_lt us).1]; exact Nat.le_trans k4 (by decide)),(ndLs_lt us).1]
 rw [← e1] at c1
 rw [← e2] at c2
 generalize (ndLs l).take (201 + 1 : Int).toNat = N1 at *
 generalize (ndLs m).take (201 + 1 : Int).toNat = N2 at *
 have hll : l.length = ts.length := by rw [e1,List.length_map]
 have hml : m.length = us.length := by rw [e2,List.length_map]
 have hl20 : l.length ≤ 20 := by omega
 have hm20 : m.length ≤ 20 := by omega
 by_cases h1 : 20 < l.length + m.length
 ·have h1' : (20 : Int) < (l.length : Int) + (m.length : Int) := by omega
  clear e1 e2 hvl g1 g2 g3 g4 g5 g6 k1 k2 k3 k4 k5 k6 hc hd
  generalize corB ts an = x at *
  generalize corB us bn = y at *
  generalize cst an = ax at *
  generalize cst bn = bx at *
  (refine Sg.h ?_;try repeat' ((first | (with_reducible first|refine brA ?_|refine brE fun _=>?_|refine spl ⟨?_,?_⟩<;>intro _) | refine clo hbg ?_ | refine clo vl ?_ | refine clo vm ?_ | refine clo c1 ?_ | refine clo c2 ?_) <;> ((try simp -implicitDefEqProofs [h1']); (try simp -implicitDefEqProofs(disch:=first|assumption|(try simp only[lens]);omega -splitDisjunctions) [h1']))))
 have h1' : ¬ (20 : Int) < (l.length : Int) + (m.length : Int) := by omega
 by_cases h2 : 199 < N1.length + N2.length
 ·have h2' : (199 : Int) < (N1.length : Int) + (N2.length : Int) := by omega
  have b1 : N1.length ≤ 200 := by omega
  have b2 : N2.length ≤ 200 := by omega
  clear e1 e2 hvl g1 g2 g3 g4 g5 g6 k1 k2 k3 k4 k5 k6 hc hd
  generalize corB ts an = x at *
  generalize corB us bn = y at *
  generalize cst an = ax at *
  generalize cst bn = bx at *
  (refine Sg.h ?_;try repeat' ((first | (with_reducible first|refine brA ?_|refine brE fun _=>?_|refine spl ⟨?_,?_⟩<;>intro _) | refine clo hbg ?_ | refine clo vl ?_ | refine clo vm ?_ | refine clo c1 ?_ | refine clo c2 ?_ | refine clo hl1 ?_ | refine clo hl2 ?_) <;> ((try simp -implicitDefEqProofs [h1',h2']); (try simp -implicitDefEqProofs(disch:=first|assumption|(try simp only[lens]);omega -splitDisjunctions) [h1',h2']))))
 have h2' : ¬ (199 : Int) < (N1.length : Int) + (N2.length : Int) := by omega
 have hcl1 : (cst an).length ≤ 200 := by
  have := atTs_len ts 0
  have h3 := lfTs_len ts 0
  rw [lnTs_lf,List.length_map] at h3
  simp [cst]; omega
 have hcl2 : (cst bn).length ≤ 200 := by
  have := atTs_len us 0
  have h3 := lfTs_len us 0
  rw [lnTs_lf,List.length_map] at h3
  simp [cst]; omega
 have b1 : N1.length ≤ 200 := by omega
 have b2 : N2.length ≤ 200 := by omega
 -- the two nets that are asked for
 obtain ⟨p,x,rfl⟩ : ∃ p x,ts = p ++ [x] := ⟨_,_,(List.dropLast_concat_getLast (by intro e; subst e; simp at g2)).symm⟩
 obtain ⟨y,q,rfl⟩ : ∃ y q,us = y :: q := by
  cases us with
  | nil => simp at k2
  | cons y q => exact ⟨y,q,rfl⟩
 have hat1 : atTs ((p ++ [x]) ++ (y :: q)) = atTs (p ++ [x]) ++ atTs (y :: q) := atTs_app _ _
 have hat2 : atTs (p ++ .op false x y :: q) = atTs (p ++ [x]) ++ atTs (y :: q) := by rw [atTs_app,atTs_app]; simp [atTs,atT]
 have hlk := lk_app g6 k6
 have hsl : (an ++ shf (atTs (p ++ [x])).length bn).length = an.length + bn.length := by simp [shf]
 have hs1 : szTs ((p ++ [x]) ++ (y :: q)) = szTs (p ++ [x]) + szTs (y :: q) := szTs_app _ _
 have hs2 : szTs (p ++ .op false x y :: q) = szTs (p ++ [x]) + szTs (y :: q) + 1 := by rw [szTs_app,szTs_app]; simp [szTs,szT]; omega
 have hll2 : l.length = p.length + 1 := by rw [hll,List.length_append]; rfl
 have hml2 : m.length = q.length + 1 := by rw [hml,List.length_cons]
 have q1 := Correct_ok ((p ++ [x]) ++ (y :: q)) (an ++ shf (atTs (p ++ [x])).length bn) (by
  intro t ht
  rcases List.mem_append.1 ht with ht | ht
  ·exact g1 t ht
  ·exact k1 t ht) (by simp; omega) (by simp; omega) (by omega) (by rw [hat1,hsl,List.length_append]; omega) (by rw [hat1]; exact hlk)
 have q2 := Correct_ok (p ++ .op false x y :: q) (an ++ shf (atTs (p ++ [x])).length bn) (by
  intro t ht
  rcases List.mem_append.1 ht with ht | ht
  ·exact g1 t (by simp [ht])
  ·rcases List.mem_cons.1 ht with rfl | ht
   ·exact ⟨g1 x (by simp),k1 y (by simp)⟩
   ·exact k1 t (by simp [ht])) (by simp; omega) (by simp; omega) (by omega) (by rw [hat2,hsl,List.length_append]; omega) (by rw [hat2]; exact hlk)
 have hcor1 : corB ((p ++ [x]) ++ (y :: q)) (an ++ shf (atTs (p ++ [x])).length bn) = false := by
  rw [Bool.eq_false_iff]
  intro h
  have z1 := szT_pos x
  have z2 := szT_pos y
  exact beside_cor (p ++ [x]) (y :: q) an bn (by rw [szTs_app]; simp [szTs]; omega) (by simp [szTs]; omega) (lk_in g6) (lk_in k6) (corB_iff.1 h)
 have hcor2 : corB (p ++ .op false x y :: q) (an ++ shf (atTs (p ++ [x])).length bn) = (corB (p ++ [x]) an && corB (y :: q) bn) := by
  rw [Bool.eq_iff_iff,Bool.and_eq_true,corB_iff,corB_iff,corB_iff]
  exact ten_cor p q x y an bn (lk_in g6) (lk_in k6)
 rw [hcor1] at q1
 rw [hcor2] at q2
 have a1 : (((p ++ [x]) ++ (y :: q)).map lnOf).map lnr = l.map lnr ++ m.map lnr := by rw [e1,e2]; simp
 obtain ⟨P,hP⟩ : ∃ P,p.map lnOf = P := ⟨_,rfl⟩
 obtain ⟨Qs,hQs⟩ : ∃ Q,q.map lnOf = Q := ⟨_,rfl⟩
 have a2 : ((p ++ Lt.op false x y :: q).map lnOf).map lnr = P.map lnr ++ [.int .i64 2,.str ⟨#[]⟩,.bool false,.list [lnr (lnOf x),lnr (lnOf y)]] :: Qs.map lnr := by
  rw [List.map_append,List.map_append,List.map_cons,List.map_cons,hP,hQs,lnOf,if_neg (by decide),lnr_eq (Ln.mk 2 ⟨#[]⟩ false [lnOf x,lnOf y])]; rfl
 rw [a1] at q1
 rw [a2] at q2
 obtain ⟨k,hk⟩ : ∃ k,P.length = k := ⟨_,rfl⟩
 obtain ⟨j,hj⟩ : ∃ j,Qs.length = j := ⟨_,rfl⟩
 have e1 : l = P ++ [lnOf x] := by rw [e1,← hP]; simp
 have e2 : m = lnOf y :: Qs := by rw [e2,← hQs]; simp
 have hll : l.length = k + 1 := by rw [e1,List.length_append,hk]; rfl
 have hml : m.length = j + 1 := by rw [e2,List.length_cons,hj]
 generalize lnOf x = X at *
 generalize lnOf y = Y at *
 have hk0 : k < l.length := by omega
 have hj0 : 0 < m.length := by omega
 have hX : l[k] = X := by subst e1; rw [List.getElem_append_right (by omega)]; simp [hk]
 have hY : m[0] = Y := by subst e2; rfl
 have htk : List.take k (l.map lnr) = P.map lnr := by rw [e1,List.map_append,← hk,← List.length_map (f := lnr),List.take_left]
 have htl : (List.take (j + 1) (m.map lnr)).tail = Qs.map lnr := by rw [List.take_of_length_le (by rw [List.length_map]; omega),e2]; rfl
 have hkk : ((k : Int) + 1 - 1) = k := by omega
 have hk20 : k ≤ 20 := by omega
 have hj20 : j ≤ 20 := by omega
 have hKP : (P.map lnr).length = k := by rw [List.length_map]; exact hk
 have hKQ : (Qs.map lnr).length = j := by rw [List.length_map]; exact hj
 generalize corB (p ++ [x]) an = x1 at *
 generalize corB (y :: q) bn = y1 at *
 have hal : (atTs (p ++ [x])).length ≤ 200 := by
  have := atTs_len (p ++ [x]) 0
  have h3 := lfTs_len (p ++ [x]) 0
  rw [lnTs_lf,List.length_map] at h3
  omega
 have hcs : cst (an ++ shf (atTs (p ++ [x])).length bn) = cst an ++ (cst bn).map (fun b => ((((atTs (p ++ [x])).length : Nat) : Int) + b.1,(((atTs (p ++ [x])).length : Nat) : Int) + b.2)) := by simp [cst,shf]
 rw [hcs] at q1 q2
 have hbu : ∀ b ∈ cst bn,0 ≤ b.1 ∧ b.1 ≤ 200 ∧ 0 ≤ b.2 ∧ b.2 ≤ 200 := by
  have := atTs_len (y :: q) 0
  have h3 := lfTs_len (y :: q) 0
  rw [lnTs_lf,List.length_map] at h3
  intro b hb
  obtain ⟨a,ha,rfl⟩ := List.mem_map.1 hb
  have := lk_in k6 a ha
  dsimp only
  omega
 generalize cst an = ax at *
 generalize cst bn = bx at *
 obtain ⟨n,hn⟩ : ∃ n,(atTs (p ++ [x])).length = n := ⟨_,rfl⟩
 rw [hn] at q1 q2 hal
 generalize atTs (p ++ [x]) = A at *
 clear hat1 hat2 hlk hsl hs1 hs2 hll2 hml2 hcor1 hcor2 hcs hn1 hn2 hvl g5 g6 k5 k6 hc hd e1 e2 a1 a2 g1 g2 g3 g4 k1 k2 k3 k4 hP hQs h1 h2
 have h1' : ¬ (20 : Int) < (k : Int) + 1 + ((j : Int) + 1) := by omega
 (refine Sg.h ?_;try repeat' ((first | (with_reducible first|refine brA ?_|refine brE fun _=>?_|refine spl ⟨?_,?_⟩<;>intro _) | refine clo hbg ?_ | refine clo vl ?_ | refine clo vm ?_ | refine clo c1 ?_ | refine clo c2 ?_ | refine clo hl1 ?_ | refine clo hl2 ?_ | refine clo hv ?_) <;> ((try simp -implicitDefEqProofs [h1',h2',hn,hll,hml]); (try simp -implicitDefEqProofs(disch:=first|assumption|(try simp only[lens]);omega -splitDisjunctions) [h1',h2',hn,hll,hml]))))
 refine ⟨⟨fun row a b _ e => by subst e; simp,by omega⟩,?_⟩
 clear c1 c2 hl1 hl2 hv hbg vl vm
 refine W_of fun Q hQ => ?_
 obtain ⟨sh,hsh⟩ : ∃ sh : Int × Int → Int × Int,sh = fun b => ((n : Int) + b.1,(n : Int) + b.2) := ⟨_,rfl⟩
 rw [← hsh] at q1 q2
 have main : ∀ k i,i + k = bx.length → Q [(0,.list (l.map lnr)),(2,.list (m.map lnr)),(3,.list (bx.map relRow)),(9,.bool x1),(11,.bool y1),(13,.int .i64 (n : Int)),(14,.sl 0 0 (ax ++ (bx.take i).map sh).length),(15,.int .i64 (i : Int))] [.rows 2 ((ax ++ (bx.take i).map sh).map relRow)] := by
  intro k
  induction k with
  | zero =>
   intro i hi
   rw [List.take_of_length_le (by omega)]
   have hlk : (ax ++ bx.map sh).length ≤ 400 := by simp; omega
   generalize ax ++ bx.map sh = K at *
   have htK : List.take K.length (K.map relRow) = K.map relRow := List.take_of_length_le (by simp)
   apply hQ
   clear hQ
   (refine Sg.h ?_;try repeat' ((with_reducible first|refine brA ?_|refine brE fun _=>?_|refine spl ⟨?_,?_⟩<;>intro _)<;> ((try simp -implicitDefEqProofs [hll,hml,hk0,hj0,hX,hY,htk,htl,hkk,hKP,hKQ]); (try simp -implicitDefEqProofs(disch:=first|assumption|(try simp only[lens]);omega -splitDisjunctions) [hll,hml,hk0,hj0,hX,hY,htk,htl,hkk,hKP,hKQ]))))
   have t1 : List.take (k + 1 + (j + 1)) (l.map lnr ++ m.map lnr) = l.map lnr ++ m.map lnr := List.take_of_length_le (by rw [List.length_append,List.length_map,List.length_map]; omega)
   have t0 : List.take (k + 1) (l.map lnr) = l.map lnr := List.take_of_length_le (by rw [List.length_map]; omega)
   have t2 : List.take (k + 1) (P.map lnr ++ [[PV.int .i64 2,.str ⟨#[]⟩,.bool false,.list [lnr X,lnr Y]]]) = P.map lnr ++ [[PV.int .i64 2,.str ⟨#[]⟩,.bool false,.list [lnr X,lnr Y]]] := List.take_of_length_le (by rw [List.length_append,List.length_map]; simp; omega)
   have t3 : List.take (k + 1 + j) (P.map lnr ++ [[PV.int .i64 2,.str ⟨#[]⟩,.bool false,.list [lnr X,lnr Y]]] ++ Qs.map lnr) = P.map lnr ++ [[PV.int .i64 2,.str ⟨#[]⟩,.bool false,.list [lnr X,lnr Y]]] ++ Qs.map lnr := List.take_of_length_le (by rw [List.length_append,List.length_append,List.length_map,List.length_map]; simp; omega)
   all_goals refine CL.giv [0,2] ?_
   all_goals ((refine Sg.h ?_;try repeat' ((with_reducible first|refine brA ?_|refine brE fun _=>?_|refine spl ⟨?_,?_⟩<;>intro _)<;> ((try simp -implicitDefEqProofs); (try simp -implicitDefEqProofs(disch:=first|assumption|(try simp only[lens]);omega -splitDisjunctions))))))
   all_goals (try simp only [hml,Nat.le_refl,if_true,t0,t1,htK])
   all_goals ((refine Sg.h ?_;try repeat' ((first | (with_reducible first|refine brA ?_|refine brE fun _=>?_|refine spl ⟨?_,?_⟩<;>intro _) | refine clo q1 ?_) <;> ((try simp -implicitDefEqProofs); (try simp -implicitDefEqProofs(disch:=first|assumption|(try simp only[lens]);omega -splitDisjunctions))))))
   all_goals refine CL.giv [5] ?_
   all_goals ((refine Sg.h ?_;try repeat' ((with_reducible first|refine brA ?_|refine brE fun _=>?_|refine spl ⟨?_,?_⟩<;>intro _)<;> ((try simp -implicitDefEqProofs); (try simp -implicitDefEqProofs(disch:=first|assumption|(try simp only[lens]);omega -splitDisjunctions))))))
   have t4 : List.take k (P.map lnr) = P.map lnr := List.take_of_length_le (by omega)
   all_goals (try simp only [hj,hk,Nat.le_refl,if_true,t4,t2,t3])
   all_goals (try simp only [List.append_assoc,List.cons_append,List.nil_append])
   all_goals ((refine Sg.h ?_;try repeat' ((first | (with_reducible first|refine brA ?_|refine brE fun _=>?_|refine spl ⟨?_,?_⟩<;>intro _) | refine clo q2 ?_) <;> ((try simp -implicitDefEqProofs); (try simp -implicitDefEqProofs(disch:=first|assumption|(try simp only[lens]);omega -splitDisjunctions))))))
   all_goals (cases x1 <;> cases y1 <;> simp_all)
  | succ k ih =>
   intro i hi
   have ih := ih (i + 1) (by omega)
   have hil : i < bx.length := by omega
   rw [take_snoc hil,List.map_append,← List.append_assoc] at ih
   have hlk : (ax ++ (bx.take i).map sh).length ≤ 400 := by simp; omega
   obtain ⟨u,v,huv⟩ : ∃ u v,bx[i] = (u,v) := ⟨_,_,rfl⟩
   have e : sh (u,v) = ((n : Int) + u,(n : Int) + v) := by rw [hsh]
   rw [huv,List.map_singleton,e] at ih
   have hbu := hbu _ (List.getElem_mem hil)
   rw [huv] at hbu
   dsimp only at hbu
   generalize ax ++ (bx.take i).map sh = K at *
   have htk : List.take (K.length + 1) (K.map relRow ++ [[.int .i64 ((n : Int) + u),.int .i64 ((n : Int) + v)]]) = K.map relRow ++ [[.int .i64 ((n : Int) + u),.int .i64 ((n : Int) + v)]] := List.take_of_length_le (by simp)
   apply hQ
   clear hQ
   (refine Sg.h ?_;try repeat' ((with_reducible first|refine brA ?_|refine brE fun _=>?_|refine spl ⟨?_,?_⟩<;>intro _)<;> ((try simp -implicitDefEqProofs [hil,huv]); (try simp -implicitDefEqProofs(disch:=first|assumption|(try simp only[lens]);omega -splitDisjunctions) [hil,huv]))))
   all_goals first | exact ih | (refine at2 ih ?_ ?_ <;> simp [relRow_eq,htk]; done) | (exfalso; first | omega | (simp_all; done) | (simp_all; omega))
 refine at2 (main bx.length 0 (Nat.zero_add _)) ?_ ?_
 ·simp
 ·simp
end Go.Proofs.Ytbdionmmfigfiaa
