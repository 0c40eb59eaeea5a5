import Derived.Test.YtnoklmapofogeaaSPvQg
import Derived.Test.YtnoklmapofogeaaSPvFz
import Derived.Test.YtnoklmapofogeaaChecked
set_option linter.unusedVariables false
set_option linter.unusedSimpArgs false
namespace Go.Pv
open Go
section
variable {C : WC} {e : AE} {s S : Store} {q : AE → Store → Prop} {t c z k zk b : Nat} {L ids lens ρ0 : List Nat} {xss : List (List (List PV))}
end
@[simp] theorem frm_ge0 {f : Fm} (h : 0 < (frm f).length) : (frm f)[0] = .int .i64 f.kind := Option.some.inj ((List.getElem?_eq_getElem h).symm.trans (frm_get0 f))
@[simp] theorem frm_ge1 {f : Fm} (h : 1 < (frm f).length) : (frm f)[1] = .str f.name := Option.some.inj ((List.getElem?_eq_getElem h).symm.trans (frm_get1 f))
@[simp] theorem frm_ge2 {f : Fm} (h : 2 < (frm f).length) : (frm f)[2] = .list (f.kids.map frm) := Option.some.inj ((List.getElem?_eq_getElem h).symm.trans (frm_get2 f))
attribute [simp] List.set_append_left List.set_append_right
end Go.Pv
namespace Go.Proofs.Ytnoklmapofogeaa
open Go Go.Pv
theorem ty1 : tinfo Try.prog 1 = some ⟨1, false, (some [.nilfn]), .fn, none⟩ := by kernel_rfl
theorem zo1 : zeroOf Try.prog 1 = (some [.nilfn]) := by kernel_rfl
instance : TyT Try.prog 1 ⟨1, false, (some [.nilfn]), .fn, none⟩ := ⟨ty1⟩
instance : ZoT Try.prog 1 (some [.nilfn]) := ⟨zo1⟩
theorem ty2 : tinfo Try.prog 2 = some ⟨1, false, (some [.int .i64 0]), .int .i64, none⟩ := by kernel_rfl
theorem zo2 : zeroOf Try.prog 2 = (some [.int .i64 0]) := by kernel_rfl
instance : TyT Try.prog 2 ⟨1, false, (some [.int .i64 0]), .int .i64, none⟩ := ⟨ty2⟩
instance : ZoT Try.prog 2 (some [.int .i64 0]) := ⟨zo2⟩
theorem ty3 : tinfo Try.prog 3 = some ⟨1, false, (some [.int .i64 0]), .int .i64, none⟩ := by kernel_rfl
theorem zo3 : zeroOf Try.prog 3 = (some [.int .i64 0]) := by kernel_rfl
instance : TyT Try.prog 3 ⟨1, false, (some [.int .i64 0]), .int .i64, none⟩ := ⟨ty3⟩
instance : ZoT Try.prog 3 (some [.int .i64 0]) := ⟨zo3⟩
theorem ty4 : tinfo Try.prog 4 = some ⟨1, false, (some [.bool false]), .bool, none⟩ := by kernel_rfl
theorem zo4 : zeroOf Try.prog 4 = (some [.bool false]) := by kernel_rfl
instance : TyT Try.prog 4 ⟨1, false, (some [.bool false]), .bool, none⟩ := ⟨ty4⟩
instance : ZoT Try.prog 4 (some [.bool false]) := ⟨zo4⟩
theorem ty5 : tinfo Try.prog 5 = some ⟨1, false, (some [.int .u8 0]), .int .u8, none⟩ := by kernel_rfl
theorem zo5 : zeroOf Try.prog 5 = (some [.int .u8 0]) := by kernel_rfl
instance : TyT Try.prog 5 ⟨1, false, (some [.int .u8 0]), .int .u8, none⟩ := ⟨ty5⟩
instance : ZoT Try.prog 5 (some [.int .u8 0]) := ⟨zo5⟩
theorem ty9 : tinfo Try.prog 9 = some ⟨1, false, (some [.str ⟨#[]⟩]), .string, none⟩ := by kernel_rfl
theorem zo9 : zeroOf Try.prog 9 = (some [.str ⟨#[]⟩]) := by kernel_rfl
instance : TyT Try.prog 9 ⟨1, false, (some [.str ⟨#[]⟩]), .string, none⟩ := ⟨ty9⟩
instance : ZoT Try.prog 9 (some [.str ⟨#[]⟩]) := ⟨zo9⟩
theorem ty12 : tinfo Try.prog 12 = some ⟨1, false, (some [.int .u64 0]), .int .u64, none⟩ := by kernel_rfl
theorem zo12 : zeroOf Try.prog 12 = (some [.int .u64 0]) := by kernel_rfl
instance : TyT Try.prog 12 ⟨1, false, (some [.int .u64 0]), .int .u64, none⟩ := ⟨ty12⟩
instance : ZoT Try.prog 12 (some [.int .u64 0]) := ⟨zo12⟩
theorem ty21 : tinfo Try.prog 21 = some ⟨1, false, (some [.int .i32 0]), .int .i32, none⟩ := by kernel_rfl
theorem zo21 : zeroOf Try.prog 21 = (some [.int .i32 0]) := by kernel_rfl
instance : TyT Try.prog 21 ⟨1, false, (some [.int .i32 0]), .int .i32, none⟩ := ⟨ty21⟩
instance : ZoT Try.prog 21 (some [.int .i32 0]) := ⟨zo21⟩
theorem ty22 : tinfo Try.prog 22 = some ⟨1, false, (some [.nilsl]), .slice 24 3 48 true (some [.int .i64 0, .str ⟨#[]⟩, .nilsl]), none⟩ := by kernel_rfl
theorem zo22 : zeroOf Try.prog 22 = (some [.nilsl]) := by kernel_rfl
instance : TyT Try.prog 22 ⟨1, false, (some [.nilsl]), .slice 24 3 48 true (some [.int .i64 0, .str ⟨#[]⟩, .nilsl]), none⟩ := ⟨ty22⟩
instance : ZoT Try.prog 22 (some [.nilsl]) := ⟨zo22⟩
theorem ty23 : tinfo Try.prog 23 = some ⟨3, true, (some [.int .i64 0, .str ⟨#[]⟩, .nilsl]), .struct [(0, 3, 1, false), (1, 9, 1, false), (2, 22, 1, false)], (some [(0, .int .i64), (1, .string), (2, .other)])⟩ := by kernel_rfl
theorem zo23 : zeroOf Try.prog 23 = (some [.int .i64 0, .str ⟨#[]⟩, .nilsl]) := by kernel_rfl
instance : TyT Try.prog 23 ⟨3, true, (some [.int .i64 0, .str ⟨#[]⟩, .nilsl]), .struct [(0, 3, 1, false), (1, 9, 1, false), (2, 22, 1, false)], (some [(0, .int .i64), (1, .string), (2, .other)])⟩ := ⟨ty23⟩
instance : ZoT Try.prog 23 (some [.int .i64 0, .str ⟨#[]⟩, .nilsl]) := ⟨zo23⟩
theorem ty24 : tinfo Try.prog 24 = some ⟨3, true, (some [.int .i64 0, .str ⟨#[]⟩, .nilsl]), .struct [(0, 3, 1, false), (1, 9, 1, false), (2, 22, 1, false)], (some [(0, .int .i64), (1, .string), (2, .other)])⟩ := by kernel_rfl
theorem zo24 : zeroOf Try.prog 24 = (some [.int .i64 0, .str ⟨#[]⟩, .nilsl]) := by kernel_rfl
instance : TyT Try.prog 24 ⟨3, true, (some [.int .i64 0, .str ⟨#[]⟩, .nilsl]), .struct [(0, 3, 1, false), (1, 9, 1, false), (2, 22, 1, false)], (some [(0, .int .i64), (1, .string), (2, .other)])⟩ := ⟨ty24⟩
instance : ZoT Try.prog 24 (some [.int .i64 0, .str ⟨#[]⟩, .nilsl]) := ⟨zo24⟩
theorem ty25 : tinfo Try.prog 25 = some ⟨2, true, (some [.nilsl, .nilsl]), .struct [(0, 22, 1, false), (1, 22, 1, false)], (some [(0, .other), (1, .other)])⟩ := by kernel_rfl
theorem zo25 : zeroOf Try.prog 25 = (some [.nilsl, .nilsl]) := by kernel_rfl
instance : TyT Try.prog 25 ⟨2, true, (some [.nilsl, .nilsl]), .struct [(0, 22, 1, false), (1, 22, 1, false)], (some [(0, .other), (1, .other)])⟩ := ⟨ty25⟩
instance : ZoT Try.prog 25 (some [.nilsl, .nilsl]) := ⟨zo25⟩
theorem ty26 : tinfo Try.prog 26 = some ⟨2, true, (some [.nilsl, .nilsl]), .struct [(0, 22, 1, false), (1, 22, 1, false)], (some [(0, .other), (1, .other)])⟩ := by kernel_rfl
theorem zo26 : zeroOf Try.prog 26 = (some [.nilsl, .nilsl]) := by kernel_rfl
instance : TyT Try.prog 26 ⟨2, true, (some [.nilsl, .nilsl]), .struct [(0, 22, 1, false), (1, 22, 1, false)], (some [(0, .other), (1, .other)])⟩ := ⟨ty26⟩
instance : ZoT Try.prog 26 (some [.nilsl, .nilsl]) := ⟨zo26⟩
theorem ty27 : tinfo Try.prog 27 = some ⟨1, false, (some [.nilsl]), .slice 29 7 136 true (some [.str ⟨#[]⟩, .int .i64 0, .str ⟨#[]⟩, .nilsl, .nilsl, .nilsl, .nilsl]), none⟩ := by kernel_rfl
theorem zo27 : zeroOf Try.prog 27 = (some [.nilsl]) := by kernel_rfl
instance : TyT Try.prog 27 ⟨1, false, (some [.nilsl]), .slice 29 7 136 true (some [.str ⟨#[]⟩, .int .i64 0, .str ⟨#[]⟩, .nilsl, .nilsl, .nilsl, .nilsl]), none⟩ := ⟨ty27⟩
instance : ZoT Try.prog 27 (some [.nilsl]) := ⟨zo27⟩
theorem ty28 : tinfo Try.prog 28 = some ⟨7, true, (some [.str ⟨#[]⟩, .int .i64 0, .str ⟨#[]⟩, .nilsl, .nilsl, .nilsl, .nilsl]), .struct [(0, 9, 1, false), (1, 24, 3, true), (4, 26, 2, true), (6, 27, 1, false)], (some [(0, .string), (1, .other), (4, .other), (6, .other)])⟩ := by kernel_rfl
theorem zo28 : zeroOf Try.prog 28 = (some [.str ⟨#[]⟩, .int .i64 0, .str ⟨#[]⟩, .nilsl, .nilsl, .nilsl, .nilsl]) := by kernel_rfl
instance : TyT Try.prog 28 ⟨7, true, (some [.str ⟨#[]⟩, .int .i64 0, .str ⟨#[]⟩, .nilsl, .nilsl, .nilsl, .nilsl]), .struct [(0, 9, 1, false), (1, 24, 3, true), (4, 26, 2, true), (6, 27, 1, false)], (some [(0, .string), (1, .other), (4, .other), (6, .other)])⟩ := ⟨ty28⟩
instance : ZoT Try.prog 28 (some [.str ⟨#[]⟩, .int .i64 0, .str ⟨#[]⟩, .nilsl, .nilsl, .nilsl, .nilsl]) := ⟨zo28⟩
theorem ty29 : tinfo Try.prog 29 = some ⟨7, true, (some [.str ⟨#[]⟩, .int .i64 0, .str ⟨#[]⟩, .nilsl, .nilsl, .nilsl, .nilsl]), .struct [(0, 9, 1, false), (1, 24, 3, true), (4, 26, 2, true), (6, 27, 1, false)], (some [(0, .string), (1, .other), (4, .other), (6, .other)])⟩ := by kernel_rfl
theorem zo29 : zeroOf Try.prog 29 = (some [.str ⟨#[]⟩, .int .i64 0, .str ⟨#[]⟩, .nilsl, .nilsl, .nilsl, .nilsl]) := by kernel_rfl
instance : TyT Try.prog 29 ⟨7, true, (some [.str ⟨#[]⟩, .int .i64 0, .str ⟨#[]⟩, .nilsl, .nilsl, .nilsl, .nilsl]), .struct [(0, 9, 1, false), (1, 24, 3, true), (4, 26, 2, true), (6, 27, 1, false)], (some [(0, .string), (1, .other), (4, .other), (6, .other)])⟩ := ⟨ty29⟩
instance : ZoT Try.prog 29 (some [.str ⟨#[]⟩, .int .i64 0, .str ⟨#[]⟩, .nilsl, .nilsl, .nilsl, .nilsl]) := ⟨zo29⟩
theorem ty30 : tinfo Try.prog 30 = some ⟨1, false, (some [.nilfn]), .fn, none⟩ := by kernel_rfl
theorem zo30 : zeroOf Try.prog 30 = (some [.nilfn]) := by kernel_rfl
instance : TyT Try.prog 30 ⟨1, false, (some [.nilfn]), .fn, none⟩ := ⟨ty30⟩
instance : ZoT Try.prog 30 (some [.nilfn]) := ⟨zo30⟩
theorem ty33 : tinfo Try.prog 33 = some ⟨2, true, (some [.int .i64 0, .int .i64 0]), .struct [(0, 3, 1, false), (1, 3, 1, false)], (some [(0, .int .i64), (1, .int .i64)])⟩ := by kernel_rfl
theorem zo33 : zeroOf Try.prog 33 = (some [.int .i64 0, .int .i64 0]) := by kernel_rfl
instance : TyT Try.prog 33 ⟨2, true, (some [.int .i64 0, .int .i64 0]), .struct [(0, 3, 1, false), (1, 3, 1, false)], (some [(0, .int .i64), (1, .int .i64)])⟩ := ⟨ty33⟩
instance : ZoT Try.prog 33 (some [.int .i64 0, .int .i64 0]) := ⟨zo33⟩
theorem ty35 : tinfo Try.prog 35 = some ⟨1, false, (some [.nilsl]), .slice 9 1 16 false (some [.str ⟨#[]⟩]), none⟩ := by kernel_rfl
theorem zo35 : zeroOf Try.prog 35 = (some [.nilsl]) := by kernel_rfl
instance : TyT Try.prog 35 ⟨1, false, (some [.nilsl]), .slice 9 1 16 false (some [.str ⟨#[]⟩]), none⟩ := ⟨ty35⟩
instance : ZoT Try.prog 35 (some [.nilsl]) := ⟨zo35⟩
theorem ty37 : tinfo Try.prog 37 = some ⟨1, false, (some [.nilfn]), .fn, none⟩ := by kernel_rfl
theorem zo37 : zeroOf Try.prog 37 = (some [.nilfn]) := by kernel_rfl
instance : TyT Try.prog 37 ⟨1, false, (some [.nilfn]), .fn, none⟩ := ⟨ty37⟩
instance : ZoT Try.prog 37 (some [.nilfn]) := ⟨zo37⟩
theorem ty41 : tinfo Try.prog 41 = some ⟨1, false, (some [.nilfn]), .fn, none⟩ := by kernel_rfl
theorem zo41 : zeroOf Try.prog 41 = (some [.nilfn]) := by kernel_rfl
instance : TyT Try.prog 41 ⟨1, false, (some [.nilfn]), .fn, none⟩ := ⟨ty41⟩
instance : ZoT Try.prog 41 (some [.nilfn]) := ⟨zo41⟩
theorem ty43 : tinfo Try.prog 43 = some ⟨1, false, (some [.nilsl]), .slice 3 1 8 false (some [.int .i64 0]), none⟩ := by kernel_rfl
theorem zo43 : zeroOf Try.prog 43 = (some [.nilsl]) := by kernel_rfl
instance : TyT Try.prog 43 ⟨1, false, (some [.nilsl]), .slice 3 1 8 false (some [.int .i64 0]), none⟩ := ⟨ty43⟩
instance : ZoT Try.prog 43 (some [.nilsl]) := ⟨zo43⟩
theorem ty45 : tinfo Try.prog 45 = some ⟨1, false, (some [.nilfn]), .fn, none⟩ := by kernel_rfl
theorem zo45 : zeroOf Try.prog 45 = (some [.nilfn]) := by kernel_rfl
instance : TyT Try.prog 45 ⟨1, false, (some [.nilfn]), .fn, none⟩ := ⟨ty45⟩
instance : ZoT Try.prog 45 (some [.nilfn]) := ⟨zo45⟩
theorem ty47 : tinfo Try.prog 47 = some ⟨1, false, (some [.nilfn]), .fn, none⟩ := by kernel_rfl
theorem zo47 : zeroOf Try.prog 47 = (some [.nilfn]) := by kernel_rfl
instance : TyT Try.prog 47 ⟨1, false, (some [.nilfn]), .fn, none⟩ := ⟨ty47⟩
instance : ZoT Try.prog 47 (some [.nilfn]) := ⟨zo47⟩
theorem ty48 : tinfo Try.prog 48 = some ⟨1, false, (some [.nilfn]), .fn, none⟩ := by kernel_rfl
theorem zo48 : zeroOf Try.prog 48 = (some [.nilfn]) := by kernel_rfl
instance : TyT Try.prog 48 ⟨1, false, (some [.nilfn]), .fn, none⟩ := ⟨ty48⟩
instance : ZoT Try.prog 48 (some [.nilfn]) := ⟨zo48⟩
theorem ty49 : tinfo Try.prog 49 = some ⟨1, false, (some [.nilfn]), .fn, none⟩ := by kernel_rfl
theorem zo49 : zeroOf Try.prog 49 = (some [.nilfn]) := by kernel_rfl
instance : TyT Try.prog 49 ⟨1, false, (some [.nilfn]), .fn, none⟩ := ⟨ty49⟩
instance : ZoT Try.prog 49 (some [.nilfn]) := ⟨zo49⟩
theorem ty50 : tinfo Try.prog 50 = some ⟨1, false, (some [.nilfn]), .fn, none⟩ := by kernel_rfl
theorem zo50 : zeroOf Try.prog 50 = (some [.nilfn]) := by kernel_rfl
instance : TyT Try.prog 50 ⟨1, false, (some [.nilfn]), .fn, none⟩ := ⟨ty50⟩
instance : ZoT Try.prog 50 (some [.nilfn]) := ⟨zo50⟩
theorem ty55 : tinfo Try.prog 55 = some ⟨1, false, (some [.nilfn]), .fn, none⟩ := by kernel_rfl
theorem zo55 : zeroOf Try.prog 55 = (some [.nilfn]) := by kernel_rfl
instance : TyT Try.prog 55 ⟨1, false, (some [.nilfn]), .fn, none⟩ := ⟨ty55⟩
instance : ZoT Try.prog 55 (some [.nilfn]) := ⟨zo55⟩
theorem ty57 : tinfo Try.prog 57 = some ⟨1, false, (some [.nilfn]), .fn, none⟩ := by kernel_rfl
theorem zo57 : zeroOf Try.prog 57 = (some [.nilfn]) := by kernel_rfl
instance : TyT Try.prog 57 ⟨1, false, (some [.nilfn]), .fn, none⟩ := ⟨ty57⟩
instance : ZoT Try.prog 57 (some [.nilfn]) := ⟨zo57⟩
theorem ty58 : tinfo Try.prog 58 = some ⟨1, false, (some [.nilfn]), .fn, none⟩ := by kernel_rfl
theorem zo58 : zeroOf Try.prog 58 = (some [.nilfn]) := by kernel_rfl
instance : TyT Try.prog 58 ⟨1, false, (some [.nilfn]), .fn, none⟩ := ⟨ty58⟩
instance : ZoT Try.prog 58 (some [.nilfn]) := ⟨zo58⟩
theorem ty59 : tinfo Try.prog 59 = some ⟨1, false, (some [.nilfn]), .fn, none⟩ := by kernel_rfl
theorem zo59 : zeroOf Try.prog 59 = (some [.nilfn]) := by kernel_rfl
instance : TyT Try.prog 59 ⟨1, false, (some [.nilfn]), .fn, none⟩ := ⟨ty59⟩
instance : ZoT Try.prog 59 (some [.nilfn]) := ⟨zo59⟩
theorem ty60 : tinfo Try.prog 60 = some ⟨1, false, (some [.nilfn]), .fn, none⟩ := by kernel_rfl
theorem zo60 : zeroOf Try.prog 60 = (some [.nilfn]) := by kernel_rfl
instance : TyT Try.prog 60 ⟨1, false, (some [.nilfn]), .fn, none⟩ := ⟨ty60⟩
instance : ZoT Try.prog 60 (some [.nilfn]) := ⟨zo60⟩
theorem ty62 : tinfo Try.prog 62 = some ⟨1, false, (some [.nilfn]), .fn, none⟩ := by kernel_rfl
theorem zo62 : zeroOf Try.prog 62 = (some [.nilfn]) := by kernel_rfl
instance : TyT Try.prog 62 ⟨1, false, (some [.nilfn]), .fn, none⟩ := ⟨ty62⟩
instance : ZoT Try.prog 62 (some [.nilfn]) := ⟨zo62⟩
theorem ty63 : tinfo Try.prog 63 = some ⟨1, false, (some [.nilfn]), .fn, none⟩ := by kernel_rfl
theorem zo63 : zeroOf Try.prog 63 = (some [.nilfn]) := by kernel_rfl
instance : TyT Try.prog 63 ⟨1, false, (some [.nilfn]), .fn, none⟩ := ⟨ty63⟩
instance : ZoT Try.prog 63 (some [.nilfn]) := ⟨zo63⟩
theorem ty68 : tinfo Try.prog 68 = some ⟨1, false, (some [.nilfn]), .fn, none⟩ := by kernel_rfl
theorem zo68 : zeroOf Try.prog 68 = (some [.nilfn]) := by kernel_rfl
instance : TyT Try.prog 68 ⟨1, false, (some [.nilfn]), .fn, none⟩ := ⟨ty68⟩
instance : ZoT Try.prog 68 (some [.nilfn]) := ⟨zo68⟩
theorem ty69 : tinfo Try.prog 69 = some ⟨1, false, (some [.nilfn]), .fn, none⟩ := by kernel_rfl
theorem zo69 : zeroOf Try.prog 69 = (some [.nilfn]) := by kernel_rfl
instance : TyT Try.prog 69 ⟨1, false, (some [.nilfn]), .fn, none⟩ := ⟨ty69⟩
instance : ZoT Try.prog 69 (some [.nilfn]) := ⟨zo69⟩
theorem ty70 : tinfo Try.prog 70 = some ⟨1, false, (some [.nilfn]), .fn, none⟩ := by kernel_rfl
theorem zo70 : zeroOf Try.prog 70 = (some [.nilfn]) := by kernel_rfl
instance : TyT Try.prog 70 ⟨1, false, (some [.nilfn]), .fn, none⟩ := ⟨ty70⟩
instance : ZoT Try.prog 70 (some [.nilfn]) := ⟨zo70⟩
theorem ty72 : tinfo Try.prog 72 = some ⟨1, false, (some [.nilfn]), .fn, none⟩ := by kernel_rfl
theorem zo72 : zeroOf Try.prog 72 = (some [.nilfn]) := by kernel_rfl
instance : TyT Try.prog 72 ⟨1, false, (some [.nilfn]), .fn, none⟩ := ⟨ty72⟩
instance : ZoT Try.prog 72 (some [.nilfn]) := ⟨zo72⟩
theorem ty73 : tinfo Try.prog 73 = some ⟨1, false, (some [.nilfn]), .fn, none⟩ := by kernel_rfl
theorem zo73 : zeroOf Try.prog 73 = (some [.nilfn]) := by kernel_rfl
instance : TyT Try.prog 73 ⟨1, false, (some [.nilfn]), .fn, none⟩ := ⟨ty73⟩
instance : ZoT Try.prog 73 (some [.nilfn]) := ⟨zo73⟩
theorem ty80 : tinfo Try.prog 80 = some ⟨1, false, (some [.nilfn]), .fn, none⟩ := by kernel_rfl
theorem zo80 : zeroOf Try.prog 80 = (some [.nilfn]) := by kernel_rfl
instance : TyT Try.prog 80 ⟨1, false, (some [.nilfn]), .fn, none⟩ := ⟨ty80⟩
instance : ZoT Try.prog 80 (some [.nilfn]) := ⟨zo80⟩
theorem ty87 : tinfo Try.prog 87 = some ⟨1, false, (some [.nilfn]), .fn, none⟩ := by kernel_rfl
theorem zo87 : zeroOf Try.prog 87 = (some [.nilfn]) := by kernel_rfl
instance : TyT Try.prog 87 ⟨1, false, (some [.nilfn]), .fn, none⟩ := ⟨ty87⟩
instance : ZoT Try.prog 87 (some [.nilfn]) := ⟨zo87⟩
theorem ty88 : tinfo Try.prog 88 = some ⟨1, false, (some [.nilfn]), .fn, none⟩ := by kernel_rfl
theorem zo88 : zeroOf Try.prog 88 = (some [.nilfn]) := by kernel_rfl
instance : TyT Try.prog 88 ⟨1, false, (some [.nilfn]), .fn, none⟩ := ⟨ty88⟩
instance : ZoT Try.prog 88 (some [.nilfn]) := ⟨zo88⟩
theorem ty89 : tinfo Try.prog 89 = some ⟨1, false, (some [.nilfn]), .fn, none⟩ := by kernel_rfl
theorem zo89 : zeroOf Try.prog 89 = (some [.nilfn]) := by kernel_rfl
instance : TyT Try.prog 89 ⟨1, false, (some [.nilfn]), .fn, none⟩ := ⟨ty89⟩
instance : ZoT Try.prog 89 (some [.nilfn]) := ⟨zo89⟩
theorem ty97 : tinfo Try.prog 97 = some ⟨1, false, (some [.nilfn]), .fn, none⟩ := by kernel_rfl
theorem zo97 : zeroOf Try.prog 97 = (some [.nilfn]) := by kernel_rfl
instance : TyT Try.prog 97 ⟨1, false, (some [.nilfn]), .fn, none⟩ := ⟨ty97⟩
instance : ZoT Try.prog 97 (some [.nilfn]) := ⟨zo97⟩
theorem ty98 : tinfo Try.prog 98 = some ⟨1, false, (some [.nilfn]), .fn, none⟩ := by kernel_rfl
theorem zo98 : zeroOf Try.prog 98 = (some [.nilfn]) := by kernel_rfl
instance : TyT Try.prog 98 ⟨1, false, (some [.nilfn]), .fn, none⟩ := ⟨ty98⟩
instance : ZoT Try.prog 98 (some [.nilfn]) := ⟨zo98⟩
theorem ty99 : tinfo Try.prog 99 = some ⟨1, false, (some [.nilfn]), .fn, none⟩ := by kernel_rfl
theorem zo99 : zeroOf Try.prog 99 = (some [.nilfn]) := by kernel_rfl
instance : TyT Try.prog 99 ⟨1, false, (some [.nilfn]), .fn, none⟩ := ⟨ty99⟩
instance : ZoT Try.prog 99 (some [.nilfn]) := ⟨zo99⟩
theorem ty100 : tinfo Try.prog 100 = some ⟨1, false, (some [.nilfn]), .fn, none⟩ := by kernel_rfl
theorem zo100 : zeroOf Try.prog 100 = (some [.nilfn]) := by kernel_rfl
instance : TyT Try.prog 100 ⟨1, false, (some [.nilfn]), .fn, none⟩ := ⟨ty100⟩
instance : ZoT Try.prog 100 (some [.nilfn]) := ⟨zo100⟩
theorem ty101 : tinfo Try.prog 101 = some ⟨1, false, (some [.nilsl]), .slice 4 1 1 false (some [.bool false]), none⟩ := by kernel_rfl
theorem zo101 : zeroOf Try.prog 101 = (some [.nilsl]) := by kernel_rfl
instance : TyT Try.prog 101 ⟨1, false, (some [.nilsl]), .slice 4 1 1 false (some [.bool false]), none⟩ := ⟨ty101⟩
instance : ZoT Try.prog 101 (some [.nilsl]) := ⟨zo101⟩
theorem ty102 : tinfo Try.prog 102 = some ⟨1, false, (some [.nilptr]), .pointer, none⟩ := by kernel_rfl
theorem zo102 : zeroOf Try.prog 102 = (some [.nilptr]) := by kernel_rfl
instance : TyT Try.prog 102 ⟨1, false, (some [.nilptr]), .pointer, none⟩ := ⟨ty102⟩
instance : ZoT Try.prog 102 (some [.nilptr]) := ⟨zo102⟩
theorem ty104 : tinfo Try.prog 104 = some ⟨3, true, (some [.int .i64 0, .nilsl, .bool false]), .struct [(0, 3, 1, false), (1, 35, 1, false), (2, 4, 1, false)], (some [(0, .int .i64), (1, .other), (2, .bool)])⟩ := by kernel_rfl
theorem zo104 : zeroOf Try.prog 104 = (some [.int .i64 0, .nilsl, .bool false]) := by kernel_rfl
instance : TyT Try.prog 104 ⟨3, true, (some [.int .i64 0, .nilsl, .bool false]), .struct [(0, 3, 1, false), (1, 35, 1, false), (2, 4, 1, false)], (some [(0, .int .i64), (1, .other), (2, .bool)])⟩ := ⟨ty104⟩
instance : ZoT Try.prog 104 (some [.int .i64 0, .nilsl, .bool false]) := ⟨zo104⟩
theorem ty106 : tinfo Try.prog 106 = some ⟨1, false, (some [.nilfn]), .fn, none⟩ := by kernel_rfl
theorem zo106 : zeroOf Try.prog 106 = (some [.nilfn]) := by kernel_rfl
instance : TyT Try.prog 106 ⟨1, false, (some [.nilfn]), .fn, none⟩ := ⟨ty106⟩
instance : ZoT Try.prog 106 (some [.nilfn]) := ⟨zo106⟩
theorem ty108 : tinfo Try.prog 108 = some ⟨1, false, (some [.nilfn]), .fn, none⟩ := by kernel_rfl
theorem zo108 : zeroOf Try.prog 108 = (some [.nilfn]) := by kernel_rfl
instance : TyT Try.prog 108 ⟨1, false, (some [.nilfn]), .fn, none⟩ := ⟨ty108⟩
instance : ZoT Try.prog 108 (some [.nilfn]) := ⟨zo108⟩
theorem ty109 : tinfo Try.prog 109 = some ⟨1, false, (some [.nilfn]), .fn, none⟩ := by kernel_rfl
theorem zo109 : zeroOf Try.prog 109 = (some [.nilfn]) := by kernel_rfl
instance : TyT Try.prog 109 ⟨1, false, (some [.nilfn]), .fn, none⟩ := ⟨ty109⟩
instance : ZoT Try.prog 109 (some [.nilfn]) := ⟨zo109⟩
theorem ty110 : tinfo Try.prog 110 = some ⟨1, false, (some [.nilfn]), .fn, none⟩ := by kernel_rfl
theorem zo110 : zeroOf Try.prog 110 = (some [.nilfn]) := by kernel_rfl
instance : TyT Try.prog 110 ⟨1, false, (some [.nilfn]), .fn, none⟩ := ⟨ty110⟩
instance : ZoT Try.prog 110 (some [.nilfn]) := ⟨zo110⟩
theorem ty111 : tinfo Try.prog 111 = some ⟨1, false, (some [.nilsl]), .slice 26 2 48 true (some [.nilsl, .nilsl]), none⟩ := by kernel_rfl
theorem zo111 : zeroOf Try.prog 111 = (some [.nilsl]) := by kernel_rfl
instance : TyT Try.prog 111 ⟨1, false, (some [.nilsl]), .slice 26 2 48 true (some [.nilsl, .nilsl]), none⟩ := ⟨ty111⟩
instance : ZoT Try.prog 111 (some [.nilsl]) := ⟨zo111⟩
theorem ty113 : tinfo Try.prog 113 = some ⟨1, false, (some [.nilfn]), .fn, none⟩ := by kernel_rfl
theorem zo113 : zeroOf Try.prog 113 = (some [.nilfn]) := by kernel_rfl
instance : TyT Try.prog 113 ⟨1, false, (some [.nilfn]), .fn, none⟩ := ⟨ty113⟩
instance : ZoT Try.prog 113 (some [.nilfn]) := ⟨zo113⟩
theorem ty114 : tinfo Try.prog 114 = some ⟨1, false, (some [.nilsl]), .slice 22 1 24 false (some [.nilsl]), none⟩ := by kernel_rfl
theorem zo114 : zeroOf Try.prog 114 = (some [.nilsl]) := by kernel_rfl
instance : TyT Try.prog 114 ⟨1, false, (some [.nilsl]), .slice 22 1 24 false (some [.nilsl]), none⟩ := ⟨ty114⟩
instance : ZoT Try.prog 114 (some [.nilsl]) := ⟨zo114⟩
theorem ty115 : tinfo Try.prog 115 = some ⟨1, false, (some [.nilfn]), .fn, none⟩ := by kernel_rfl
theorem zo115 : zeroOf Try.prog 115 = (some [.nilfn]) := by kernel_rfl
instance : TyT Try.prog 115 ⟨1, false, (some [.nilfn]), .fn, none⟩ := ⟨ty115⟩
instance : ZoT Try.prog 115 (some [.nilfn]) := ⟨zo115⟩
theorem ty116 : tinfo Try.prog 116 = some ⟨1, false, (some [.nilfn]), .fn, none⟩ := by kernel_rfl
theorem zo116 : zeroOf Try.prog 116 = (some [.nilfn]) := by kernel_rfl
instance : TyT Try.prog 116 ⟨1, false, (some [.nilfn]), .fn, none⟩ := ⟨ty116⟩
instance : ZoT Try.prog 116 (some [.nilfn]) := ⟨zo116⟩
theorem ty117 : tinfo Try.prog 117 = some ⟨1, false, (some [.nilfn]), .fn, none⟩ := by kernel_rfl
theorem zo117 : zeroOf Try.prog 117 = (some [.nilfn]) := by kernel_rfl
instance : TyT Try.prog 117 ⟨1, false, (some [.nilfn]), .fn, none⟩ := ⟨ty117⟩
instance : ZoT Try.prog 117 (some [.nilfn]) := ⟨zo117⟩
theorem ty118 : tinfo Try.prog 118 = some ⟨1, false, (some [.nilfn]), .fn, none⟩ := by kernel_rfl
theorem zo118 : zeroOf Try.prog 118 = (some [.nilfn]) := by kernel_rfl
instance : TyT Try.prog 118 ⟨1, false, (some [.nilfn]), .fn, none⟩ := ⟨ty118⟩
instance : ZoT Try.prog 118 (some [.nilfn]) := ⟨zo118⟩
theorem ty119 : tinfo Try.prog 119 = some ⟨1, false, (some [.nilfn]), .fn, none⟩ := by kernel_rfl
theorem zo119 : zeroOf Try.prog 119 = (some [.nilfn]) := by kernel_rfl
instance : TyT Try.prog 119 ⟨1, false, (some [.nilfn]), .fn, none⟩ := ⟨ty119⟩
instance : ZoT Try.prog 119 (some [.nilfn]) := ⟨zo119⟩
theorem ty120 : tinfo Try.prog 120 = some ⟨1, false, (some [.nilfn]), .fn, none⟩ := by kernel_rfl
theorem zo120 : zeroOf Try.prog 120 = (some [.nilfn]) := by kernel_rfl
instance : TyT Try.prog 120 ⟨1, false, (some [.nilfn]), .fn, none⟩ := ⟨ty120⟩
instance : ZoT Try.prog 120 (some [.nilfn]) := ⟨zo120⟩
theorem ty121 : tinfo Try.prog 121 = some ⟨1, false, (some [.nilfn]), .fn, none⟩ := by kernel_rfl
theorem zo121 : zeroOf Try.prog 121 = (some [.nilfn]) := by kernel_rfl
instance : TyT Try.prog 121 ⟨1, false, (some [.nilfn]), .fn, none⟩ := ⟨ty121⟩
instance : ZoT Try.prog 121 (some [.nilfn]) := ⟨zo121⟩
theorem ty122 : tinfo Try.prog 122 = some ⟨1, false, (some [.nilfn]), .fn, none⟩ := by kernel_rfl
theorem zo122 : zeroOf Try.prog 122 = (some [.nilfn]) := by kernel_rfl
instance : TyT Try.prog 122 ⟨1, false, (some [.nilfn]), .fn, none⟩ := ⟨ty122⟩
instance : ZoT Try.prog 122 (some [.nilfn]) := ⟨zo122⟩
theorem ty123 : tinfo Try.prog 123 = some ⟨1, false, (some [.nilfn]), .fn, none⟩ := by kernel_rfl
theorem zo123 : zeroOf Try.prog 123 = (some [.nilfn]) := by kernel_rfl
instance : TyT Try.prog 123 ⟨1, false, (some [.nilfn]), .fn, none⟩ := ⟨ty123⟩
instance : ZoT Try.prog 123 (some [.nilfn]) := ⟨zo123⟩
theorem ty124 : tinfo Try.prog 124 = some ⟨1, false, (some [.nilfn]), .fn, none⟩ := by kernel_rfl
theorem zo124 : zeroOf Try.prog 124 = (some [.nilfn]) := by kernel_rfl
instance : TyT Try.prog 124 ⟨1, false, (some [.nilfn]), .fn, none⟩ := ⟨ty124⟩
instance : ZoT Try.prog 124 (some [.nilfn]) := ⟨zo124⟩
theorem ty129 : tinfo Try.prog 129 = some ⟨1, false, (some [.nilsl]), .slice 24 3 48 true (some [.int .i64 0, .str ⟨#[]⟩, .nilsl]), none⟩ := by kernel_rfl
theorem zo129 : zeroOf Try.prog 129 = (some [.nilsl]) := by kernel_rfl
instance : TyT Try.prog 129 ⟨1, false, (some [.nilsl]), .slice 24 3 48 true (some [.int .i64 0, .str ⟨#[]⟩, .nilsl]), none⟩ := ⟨ty129⟩
instance : ZoT Try.prog 129 (some [.nilsl]) := ⟨zo129⟩
theorem ty136 : tinfo Try.prog 136 = some ⟨1, false, (some [.nilsl]), .slice 139 2 48 true (some [.nilsl, .nilsl]), none⟩ := by kernel_rfl
theorem zo136 : zeroOf Try.prog 136 = (some [.nilsl]) := by kernel_rfl
instance : TyT Try.prog 136 ⟨1, false, (some [.nilsl]), .slice 139 2 48 true (some [.nilsl, .nilsl]), none⟩ := ⟨ty136⟩
instance : ZoT Try.prog 136 (some [.nilsl]) := ⟨zo136⟩
theorem ty138 : tinfo Try.prog 138 = some ⟨2, true, (some [.nilsl, .nilsl]), .struct [(0, 129, 1, false), (1, 129, 1, false)], (some [(0, .other), (1, .other)])⟩ := by kernel_rfl
theorem zo138 : zeroOf Try.prog 138 = (some [.nilsl, .nilsl]) := by kernel_rfl
instance : TyT Try.prog 138 ⟨2, true, (some [.nilsl, .nilsl]), .struct [(0, 129, 1, false), (1, 129, 1, false)], (some [(0, .other), (1, .other)])⟩ := ⟨ty138⟩
instance : ZoT Try.prog 138 (some [.nilsl, .nilsl]) := ⟨zo138⟩
theorem ty139 : tinfo Try.prog 139 = some ⟨2, true, (some [.nilsl, .nilsl]), .struct [(0, 129, 1, false), (1, 129, 1, false)], (some [(0, .other), (1, .other)])⟩ := by kernel_rfl
theorem zo139 : zeroOf Try.prog 139 = (some [.nilsl, .nilsl]) := by kernel_rfl
instance : TyT Try.prog 139 ⟨2, true, (some [.nilsl, .nilsl]), .struct [(0, 129, 1, false), (1, 129, 1, false)], (some [(0, .other), (1, .other)])⟩ := ⟨ty139⟩
instance : ZoT Try.prog 139 (some [.nilsl, .nilsl]) := ⟨zo139⟩
theorem ty140 : tinfo Try.prog 140 = some ⟨1, false, (some [.nilfn]), .fn, none⟩ := by kernel_rfl
theorem zo140 : zeroOf Try.prog 140 = (some [.nilfn]) := by kernel_rfl
instance : TyT Try.prog 140 ⟨1, false, (some [.nilfn]), .fn, none⟩ := ⟨ty140⟩
instance : ZoT Try.prog 140 (some [.nilfn]) := ⟨zo140⟩
theorem zv4 : zvOf Try.prog 4 = some (.bool false) := by kernel_rfl
instance : ZvT Try.prog 4 (.bool false) := ⟨zv4⟩
theorem mixed : Try.prog.follows .mixedOrders = true := by kernel_rfl
instance : MixT Try.prog := ⟨mixed⟩
theorem en3 : Enters Try.prog 3 := Try.call3
instance : EnT Try.prog 3 := ⟨en3⟩
theorem en9 : Enters Try.prog 9 := Try.call9
instance : EnT Try.prog 9 := ⟨en9⟩
theorem en12 : Enters Try.prog 12 := Try.call12
instance : EnT Try.prog 12 := ⟨en12⟩
theorem en15 : Enters Try.prog 15 := Try.call15
instance : EnT Try.prog 15 := ⟨en15⟩
theorem en17 : Enters Try.prog 17 := Try.call17
instance : EnT Try.prog 17 := ⟨en17⟩
theorem en18 : Enters Try.prog 18 := Try.call18
instance : EnT Try.prog 18 := ⟨en18⟩
theorem en19 : Enters Try.prog 19 := Try.call19
instance : EnT Try.prog 19 := ⟨en19⟩
theorem en20 : Enters Try.prog 20 := Try.call20
instance : EnT Try.prog 20 := ⟨en20⟩
theorem en22 : Enters Try.prog 22 := Try.call22
instance : EnT Try.prog 22 := ⟨en22⟩
theorem en24 : Enters Try.prog 24 := Try.call24
instance : EnT Try.prog 24 := ⟨en24⟩
theorem en26 : Enters Try.prog 26 := Try.call26
instance : EnT Try.prog 26 := ⟨en26⟩
theorem en30 : Enters Try.prog 30 := Try.call30
instance : EnT Try.prog 30 := ⟨en30⟩
theorem en35 : Enters Try.prog 35 := Try.call35
instance : EnT Try.prog 35 := ⟨en35⟩
theorem en43 : Enters Try.prog 43 := Try.call43
instance : EnT Try.prog 43 := ⟨en43⟩
theorem en44 : Enters Try.prog 44 := Try.call44
instance : EnT Try.prog 44 := ⟨en44⟩
theorem en45 : Enters Try.prog 45 := Try.call45
instance : EnT Try.prog 45 := ⟨en45⟩
theorem en47 : Enters Try.prog 47 := Try.call47
instance : EnT Try.prog 47 := ⟨en47⟩
theorem en48 : Enters Try.prog 48 := Try.call48
instance : EnT Try.prog 48 := ⟨en48⟩
theorem en50 : Enters Try.prog 50 := Try.call50
instance : EnT Try.prog 50 := ⟨en50⟩
theorem en57 : Enters Try.prog 57 := Try.call57
instance : EnT Try.prog 57 := ⟨en57⟩
theorem en59 : Enters Try.prog 59 := Try.call59
instance : EnT Try.prog 59 := ⟨en59⟩
theorem en62 : Enters Try.prog 62 := Try.call62
instance : EnT Try.prog 62 := ⟨en62⟩
theorem en63 : Enters Try.prog 63 := Try.call63
instance : EnT Try.prog 63 := ⟨en63⟩
theorem en68 : Enters Try.prog 68 := Try.call68
instance : EnT Try.prog 68 := ⟨en68⟩
theorem en69 : Enters Try.prog 69 := Try.call69
instance : EnT Try.prog 69 := ⟨en69⟩
theorem en70 : Enters Try.prog 70 := Try.call70
instance : EnT Try.prog 70 := ⟨en70⟩
theorem en72 : Enters Try.prog 72 := Try.call72
instance : EnT Try.prog 72 := ⟨en72⟩
theorem en73 : Enters Try.prog 73 := Try.call73
instance : EnT Try.prog 73 := ⟨en73⟩
theorem en80 : Enters Try.prog 80 := Try.call80
instance : EnT Try.prog 80 := ⟨en80⟩
theorem en87 : Enters Try.prog 87 := Try.call87
instance : EnT Try.prog 87 := ⟨en87⟩
theorem en88 : Enters Try.prog 88 := Try.call88
instance : EnT Try.prog 88 := ⟨en88⟩
theorem en89 : Enters Try.prog 89 := Try.call89
instance : EnT Try.prog 89 := ⟨en89⟩
theorem en97 : Enters Try.prog 97 := Try.call97
instance : EnT Try.prog 97 := ⟨en97⟩
theorem en98 : Enters Try.prog 98 := Try.call98
instance : EnT Try.prog 98 := ⟨en98⟩
theorem en99 : Enters Try.prog 99 := Try.call99
instance : EnT Try.prog 99 := ⟨en99⟩
theorem en100 : Enters Try.prog 100 := Try.call100
instance : EnT Try.prog 100 := ⟨en100⟩
theorem en106 : Enters Try.prog 106 := Try.call106
instance : EnT Try.prog 106 := ⟨en106⟩
theorem en107 : Enters Try.prog 107 := Try.call107
instance : EnT Try.prog 107 := ⟨en107⟩
theorem en108 : Enters Try.prog 108 := Try.call108
instance : EnT Try.prog 108 := ⟨en108⟩
theorem en109 : Enters Try.prog 109 := Try.call109
instance : EnT Try.prog 109 := ⟨en109⟩
theorem en110 : Enters Try.prog 110 := Try.call110
instance : EnT Try.prog 110 := ⟨en110⟩
theorem en111 : Enters Try.prog 111 := Try.call111
instance : EnT Try.prog 111 := ⟨en111⟩
theorem en112 : Enters Try.prog 112 := Try.call112
instance : EnT Try.prog 112 := ⟨en112⟩
theorem en113 : Enters Try.prog 113 := Try.call113
instance : EnT Try.prog 113 := ⟨en113⟩
theorem en114 : Enters Try.prog 114 := Try.call114
instance : EnT Try.prog 114 := ⟨en114⟩
theorem en115 : Enters Try.prog 115 := Try.call115
instance : EnT Try.prog 115 := ⟨en115⟩
theorem en116 : Enters Try.prog 116 := Try.call116
instance : EnT Try.prog 116 := ⟨en116⟩
theorem en117 : Enters Try.prog 117 := Try.call117
instance : EnT Try.prog 117 := ⟨en117⟩
theorem en118 : Enters Try.prog 118 := Try.call118
instance : EnT Try.prog 118 := ⟨en118⟩
theorem en119 : Enters Try.prog 119 := Try.call119
instance : EnT Try.prog 119 := ⟨en119⟩
theorem en120 : Enters Try.prog 120 := Try.call120
instance : EnT Try.prog 120 := ⟨en120⟩
theorem en121 : Enters Try.prog 121 := Try.call121
instance : EnT Try.prog 121 := ⟨en121⟩
theorem en122 : Enters Try.prog 122 := Try.call122
instance : EnT Try.prog 122 := ⟨en122⟩
theorem en123 : Enters Try.prog 123 := Try.call123
instance : EnT Try.prog 123 := ⟨en123⟩
theorem en124 : Enters Try.prog 124 := Try.call124
instance : EnT Try.prog 124 := ⟨en124⟩
theorem en137 : Enters Try.prog 137 := Try.call137
instance : EnT Try.prog 137 := ⟨en137⟩
theorem en138 : Enters Try.prog 138 := Try.call138
instance : EnT Try.prog 138 := ⟨en138⟩
theorem en139 : Enters Try.prog 139 := Try.call139
instance : EnT Try.prog 139 := ⟨en139⟩
theorem en140 : Enters Try.prog 140 := Try.call140
instance : EnT Try.prog 140 := ⟨en140⟩
theorem en145 : Enters Try.prog 145 := Try.call145
instance : EnT Try.prog 145 := ⟨en145⟩
theorem en146 : Enters Try.prog 146 := Try.call146
instance : EnT Try.prog 146 := ⟨en146⟩
theorem en148 : Enters Try.prog 148 := Try.call148
instance : EnT Try.prog 148 := ⟨en148⟩
theorem en149 : Enters Try.prog 149 := Try.call149
instance : EnT Try.prog 149 := ⟨en149⟩
theorem en151 : Enters Try.prog 151 := Try.call151
instance : EnT Try.prog 151 := ⟨en151⟩
theorem en152 : Enters Try.prog 152 := Try.call152
instance : EnT Try.prog 152 := ⟨en152⟩
theorem en153 : Enters Try.prog 153 := Try.call153
instance : EnT Try.prog 153 := ⟨en153⟩
theorem en154 : Enters Try.prog 154 := Try.call154
instance : EnT Try.prog 154 := ⟨en154⟩
theorem en155 : Enters Try.prog 155 := Try.call155
instance : EnT Try.prog 155 := ⟨en155⟩
theorem en156 : Enters Try.prog 156 := Try.call156
instance : EnT Try.prog 156 := ⟨en156⟩
theorem en157 : Enters Try.prog 157 := Try.call157
instance : EnT Try.prog 157 := ⟨en157⟩
theorem en158 : Enters Try.prog 158 := Try.call158
instance : EnT Try.prog 158 := ⟨en158⟩
theorem en159 : Enters Try.prog 159 := Try.call159
instance : EnT Try.prog 159 := ⟨en159⟩
theorem en160 : Enters Try.prog 160 := Try.call160
instance : EnT Try.prog 160 := ⟨en160⟩
theorem en162 : Enters Try.prog 162 := Try.call162
instance : EnT Try.prog 162 := ⟨en162⟩
theorem en163 : Enters Try.prog 163 := Try.call163
instance : EnT Try.prog 163 := ⟨en163⟩
theorem en164 : Enters Try.prog 164 := Try.call164
instance : EnT Try.prog 164 := ⟨en164⟩
theorem en178 : Enters Try.prog 178 := Try.call178
instance : EnT Try.prog 178 := ⟨en178⟩
end Go.Proofs.Ytnoklmapofogeaa
