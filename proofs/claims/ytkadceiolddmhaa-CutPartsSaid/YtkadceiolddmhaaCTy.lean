import Derived.Test.YtkadceiolddmhaaCPvFz
import Derived.Test.YtkadceiolddmhaaChecked
namespace Go.Proofs.Ytkadceiolddmhaa
open Go Go.Pv
theorem ty1 : tinfo Try.prog 1 = some ⟨1, false, (some [.nilfn]), .fn, none⟩ := by kernel_rfl
theorem zo1 : zeroOf Try.prog 1 = (some [.nilfn]) := by kernel_rfl
instance : TyT Try.prog 1 ⟨1, false, (some [.nilfn]), .fn, none⟩ := ⟨ty1⟩
instance : ZoT Try.prog 1 (some [.nilfn]) := ⟨zo1⟩
theorem ty2 : tinfo Try.prog 2 = some ⟨1, false, (some [.int .i64 0]), .int .i64, none⟩ := by kernel_rfl
theorem zo2 : zeroOf Try.prog 2 = (some [.int .i64 0]) := by kernel_rfl
instance : TyT Try.prog 2 ⟨1, false, (some [.int .i64 0]), .int .i64, none⟩ := ⟨ty2⟩
instance : ZoT Try.prog 2 (some [.int .i64 0]) := ⟨zo2⟩
theorem ty3 : tinfo Try.prog 3 = some ⟨1, false, (some [.int .i64 0]), .int .i64, none⟩ := by kernel_rfl
theorem zo3 : zeroOf Try.prog 3 = (some [.int .i64 0]) := by kernel_rfl
instance : TyT Try.prog 3 ⟨1, false, (some [.int .i64 0]), .int .i64, none⟩ := ⟨ty3⟩
instance : ZoT Try.prog 3 (some [.int .i64 0]) := ⟨zo3⟩
theorem ty4 : tinfo Try.prog 4 = some ⟨1, false, (some [.bool false]), .bool, none⟩ := by kernel_rfl
theorem zo4 : zeroOf Try.prog 4 = (some [.bool false]) := by kernel_rfl
instance : TyT Try.prog 4 ⟨1, false, (some [.bool false]), .bool, none⟩ := ⟨ty4⟩
instance : ZoT Try.prog 4 (some [.bool false]) := ⟨zo4⟩
theorem ty5 : tinfo Try.prog 5 = some ⟨1, false, (some [.int .u8 0]), .int .u8, none⟩ := by kernel_rfl
theorem zo5 : zeroOf Try.prog 5 = (some [.int .u8 0]) := by kernel_rfl
instance : TyT Try.prog 5 ⟨1, false, (some [.int .u8 0]), .int .u8, none⟩ := ⟨ty5⟩
instance : ZoT Try.prog 5 (some [.int .u8 0]) := ⟨zo5⟩
theorem ty9 : tinfo Try.prog 9 = some ⟨1, false, (some [.str ⟨#[]⟩]), .string, none⟩ := by kernel_rfl
theorem zo9 : zeroOf Try.prog 9 = (some [.str ⟨#[]⟩]) := by kernel_rfl
instance : TyT Try.prog 9 ⟨1, false, (some [.str ⟨#[]⟩]), .string, none⟩ := ⟨ty9⟩
instance : ZoT Try.prog 9 (some [.str ⟨#[]⟩]) := ⟨zo9⟩
theorem ty12 : tinfo Try.prog 12 = some ⟨1, false, (some [.int .u64 0]), .int .u64, none⟩ := by kernel_rfl
theorem zo12 : zeroOf Try.prog 12 = (some [.int .u64 0]) := by kernel_rfl
instance : TyT Try.prog 12 ⟨1, false, (some [.int .u64 0]), .int .u64, none⟩ := ⟨ty12⟩
instance : ZoT Try.prog 12 (some [.int .u64 0]) := ⟨zo12⟩
theorem ty21 : tinfo Try.prog 21 = some ⟨1, false, (some [.int .i32 0]), .int .i32, none⟩ := by kernel_rfl
theorem zo21 : zeroOf Try.prog 21 = (some [.int .i32 0]) := by kernel_rfl
instance : TyT Try.prog 21 ⟨1, false, (some [.int .i32 0]), .int .i32, none⟩ := ⟨ty21⟩
instance : ZoT Try.prog 21 (some [.int .i32 0]) := ⟨zo21⟩
theorem ty22 : tinfo Try.prog 22 = some ⟨1, false, (some [.nilsl]), .slice 122 3 48 true (some [.str ⟨#[]⟩, .int .i64 0, .nilsl]), none⟩ := by kernel_rfl
theorem zo22 : zeroOf Try.prog 22 = (some [.nilsl]) := by kernel_rfl
instance : TyT Try.prog 22 ⟨1, false, (some [.nilsl]), .slice 122 3 48 true (some [.str ⟨#[]⟩, .int .i64 0, .nilsl]), none⟩ := ⟨ty22⟩
instance : ZoT Try.prog 22 (some [.nilsl]) := ⟨zo22⟩
theorem ty23 : tinfo Try.prog 23 = some ⟨1, false, (some [.nilsl]), .slice 118 3 48 true (some [.str ⟨#[]⟩, .int .i64 0, .nilsl]), none⟩ := by kernel_rfl
theorem zo23 : zeroOf Try.prog 23 = (some [.nilsl]) := by kernel_rfl
instance : TyT Try.prog 23 ⟨1, false, (some [.nilsl]), .slice 118 3 48 true (some [.str ⟨#[]⟩, .int .i64 0, .nilsl]), none⟩ := ⟨ty23⟩
instance : ZoT Try.prog 23 (some [.nilsl]) := ⟨zo23⟩
theorem ty24 : tinfo Try.prog 24 = some ⟨3, true, (some [.int .i64 0, .nilsl, .nilsl]), .struct [(0, 3, 1, false), (1, 22, 1, false), (2, 23, 1, false)], (some [(0, .int .i64), (1, .other), (2, .other)])⟩ := by kernel_rfl
theorem zo24 : zeroOf Try.prog 24 = (some [.int .i64 0, .nilsl, .nilsl]) := by kernel_rfl
instance : TyT Try.prog 24 ⟨3, true, (some [.int .i64 0, .nilsl, .nilsl]), .struct [(0, 3, 1, false), (1, 22, 1, false), (2, 23, 1, false)], (some [(0, .int .i64), (1, .other), (2, .other)])⟩ := ⟨ty24⟩
instance : ZoT Try.prog 24 (some [.int .i64 0, .nilsl, .nilsl]) := ⟨zo24⟩
theorem ty25 : tinfo Try.prog 25 = some ⟨3, true, (some [.int .i64 0, .nilsl, .nilsl]), .struct [(0, 3, 1, false), (1, 22, 1, false), (2, 23, 1, false)], (some [(0, .int .i64), (1, .other), (2, .other)])⟩ := by kernel_rfl
theorem zo25 : zeroOf Try.prog 25 = (some [.int .i64 0, .nilsl, .nilsl]) := by kernel_rfl
instance : TyT Try.prog 25 ⟨3, true, (some [.int .i64 0, .nilsl, .nilsl]), .struct [(0, 3, 1, false), (1, 22, 1, false), (2, 23, 1, false)], (some [(0, .int .i64), (1, .other), (2, .other)])⟩ := ⟨ty25⟩
instance : ZoT Try.prog 25 (some [.int .i64 0, .nilsl, .nilsl]) := ⟨zo25⟩
theorem ty26 : tinfo Try.prog 26 = some ⟨1, false, (some [.nilsl]), .slice 116 2 40 true (some [.str ⟨#[]⟩, .nilsl]), none⟩ := by kernel_rfl
theorem zo26 : zeroOf Try.prog 26 = (some [.nilsl]) := by kernel_rfl
instance : TyT Try.prog 26 ⟨1, false, (some [.nilsl]), .slice 116 2 40 true (some [.str ⟨#[]⟩, .nilsl]), none⟩ := ⟨ty26⟩
instance : ZoT Try.prog 26 (some [.nilsl]) := ⟨zo26⟩
theorem ty27 : tinfo Try.prog 27 = some ⟨1, false, (some [.nilsl]), .slice 29 4 72 true (some [.int .i64 0, .str ⟨#[]⟩, .nilsl, .nilsl]), none⟩ := by kernel_rfl
theorem zo27 : zeroOf Try.prog 27 = (some [.nilsl]) := by kernel_rfl
instance : TyT Try.prog 27 ⟨1, false, (some [.nilsl]), .slice 29 4 72 true (some [.int .i64 0, .str ⟨#[]⟩, .nilsl, .nilsl]), none⟩ := ⟨ty27⟩
instance : ZoT Try.prog 27 (some [.nilsl]) := ⟨zo27⟩
theorem ty28 : tinfo Try.prog 28 = some ⟨4, true, (some [.int .i64 0, .str ⟨#[]⟩, .nilsl, .nilsl]), .struct [(0, 3, 1, false), (1, 9, 1, false), (2, 26, 1, false), (3, 27, 1, false)], (some [(0, .int .i64), (1, .string), (2, .other), (3, .other)])⟩ := by kernel_rfl
theorem zo28 : zeroOf Try.prog 28 = (some [.int .i64 0, .str ⟨#[]⟩, .nilsl, .nilsl]) := by kernel_rfl
instance : TyT Try.prog 28 ⟨4, true, (some [.int .i64 0, .str ⟨#[]⟩, .nilsl, .nilsl]), .struct [(0, 3, 1, false), (1, 9, 1, false), (2, 26, 1, false), (3, 27, 1, false)], (some [(0, .int .i64), (1, .string), (2, .other), (3, .other)])⟩ := ⟨ty28⟩
instance : ZoT Try.prog 28 (some [.int .i64 0, .str ⟨#[]⟩, .nilsl, .nilsl]) := ⟨zo28⟩
theorem ty29 : tinfo Try.prog 29 = some ⟨4, true, (some [.int .i64 0, .str ⟨#[]⟩, .nilsl, .nilsl]), .struct [(0, 3, 1, false), (1, 9, 1, false), (2, 26, 1, false), (3, 27, 1, false)], (some [(0, .int .i64), (1, .string), (2, .other), (3, .other)])⟩ := by kernel_rfl
theorem zo29 : zeroOf Try.prog 29 = (some [.int .i64 0, .str ⟨#[]⟩, .nilsl, .nilsl]) := by kernel_rfl
instance : TyT Try.prog 29 ⟨4, true, (some [.int .i64 0, .str ⟨#[]⟩, .nilsl, .nilsl]), .struct [(0, 3, 1, false), (1, 9, 1, false), (2, 26, 1, false), (3, 27, 1, false)], (some [(0, .int .i64), (1, .string), (2, .other), (3, .other)])⟩ := ⟨ty29⟩
instance : ZoT Try.prog 29 (some [.int .i64 0, .str ⟨#[]⟩, .nilsl, .nilsl]) := ⟨zo29⟩
theorem ty33 : tinfo Try.prog 33 = some ⟨2, true, (some [.int .i64 0, .int .i64 0]), .struct [(0, 3, 1, false), (1, 3, 1, false)], (some [(0, .int .i64), (1, .int .i64)])⟩ := by kernel_rfl
theorem zo33 : zeroOf Try.prog 33 = (some [.int .i64 0, .int .i64 0]) := by kernel_rfl
instance : TyT Try.prog 33 ⟨2, true, (some [.int .i64 0, .int .i64 0]), .struct [(0, 3, 1, false), (1, 3, 1, false)], (some [(0, .int .i64), (1, .int .i64)])⟩ := ⟨ty33⟩
instance : ZoT Try.prog 33 (some [.int .i64 0, .int .i64 0]) := ⟨zo33⟩
theorem ty35 : tinfo Try.prog 35 = some ⟨1, false, (some [.nilfn]), .fn, none⟩ := by kernel_rfl
theorem zo35 : zeroOf Try.prog 35 = (some [.nilfn]) := by kernel_rfl
instance : TyT Try.prog 35 ⟨1, false, (some [.nilfn]), .fn, none⟩ := ⟨ty35⟩
instance : ZoT Try.prog 35 (some [.nilfn]) := ⟨zo35⟩
theorem ty36 : tinfo Try.prog 36 = some ⟨1, false, (some [.nilfn]), .fn, none⟩ := by kernel_rfl
theorem zo36 : zeroOf Try.prog 36 = (some [.nilfn]) := by kernel_rfl
instance : TyT Try.prog 36 ⟨1, false, (some [.nilfn]), .fn, none⟩ := ⟨ty36⟩
instance : ZoT Try.prog 36 (some [.nilfn]) := ⟨zo36⟩
theorem ty37 : tinfo Try.prog 37 = some ⟨1, false, (some [.nilfn]), .fn, none⟩ := by kernel_rfl
theorem zo37 : zeroOf Try.prog 37 = (some [.nilfn]) := by kernel_rfl
instance : TyT Try.prog 37 ⟨1, false, (some [.nilfn]), .fn, none⟩ := ⟨ty37⟩
instance : ZoT Try.prog 37 (some [.nilfn]) := ⟨zo37⟩
theorem ty39 : tinfo Try.prog 39 = some ⟨1, false, (some [.nilfn]), .fn, none⟩ := by kernel_rfl
theorem zo39 : zeroOf Try.prog 39 = (some [.nilfn]) := by kernel_rfl
instance : TyT Try.prog 39 ⟨1, false, (some [.nilfn]), .fn, none⟩ := ⟨ty39⟩
instance : ZoT Try.prog 39 (some [.nilfn]) := ⟨zo39⟩
theorem ty40 : tinfo Try.prog 40 = some ⟨1, false, (some [.nilfn]), .fn, none⟩ := by kernel_rfl
theorem zo40 : zeroOf Try.prog 40 = (some [.nilfn]) := by kernel_rfl
instance : TyT Try.prog 40 ⟨1, false, (some [.nilfn]), .fn, none⟩ := ⟨ty40⟩
instance : ZoT Try.prog 40 (some [.nilfn]) := ⟨zo40⟩
theorem ty41 : tinfo Try.prog 41 = some ⟨1, false, (some [.nilfn]), .fn, none⟩ := by kernel_rfl
theorem zo41 : zeroOf Try.prog 41 = (some [.nilfn]) := by kernel_rfl
instance : TyT Try.prog 41 ⟨1, false, (some [.nilfn]), .fn, none⟩ := ⟨ty41⟩
instance : ZoT Try.prog 41 (some [.nilfn]) := ⟨zo41⟩
theorem ty45 : tinfo Try.prog 45 = some ⟨1, false, (some [.nilsl]), .slice 9 1 16 false (some [.str ⟨#[]⟩]), none⟩ := by kernel_rfl
theorem zo45 : zeroOf Try.prog 45 = (some [.nilsl]) := by kernel_rfl
instance : TyT Try.prog 45 ⟨1, false, (some [.nilsl]), .slice 9 1 16 false (some [.str ⟨#[]⟩]), none⟩ := ⟨ty45⟩
instance : ZoT Try.prog 45 (some [.nilsl]) := ⟨zo45⟩
theorem ty46 : tinfo Try.prog 46 = some ⟨1, false, (some [.nilsl]), .slice 3 1 8 false (some [.int .i64 0]), none⟩ := by kernel_rfl
theorem zo46 : zeroOf Try.prog 46 = (some [.nilsl]) := by kernel_rfl
instance : TyT Try.prog 46 ⟨1, false, (some [.nilsl]), .slice 3 1 8 false (some [.int .i64 0]), none⟩ := ⟨ty46⟩
instance : ZoT Try.prog 46 (some [.nilsl]) := ⟨zo46⟩
theorem ty48 : tinfo Try.prog 48 = some ⟨1, false, (some [.nilfn]), .fn, none⟩ := by kernel_rfl
theorem zo48 : zeroOf Try.prog 48 = (some [.nilfn]) := by kernel_rfl
instance : TyT Try.prog 48 ⟨1, false, (some [.nilfn]), .fn, none⟩ := ⟨ty48⟩
instance : ZoT Try.prog 48 (some [.nilfn]) := ⟨zo48⟩
theorem ty49 : tinfo Try.prog 49 = some ⟨1, false, (some [.nilfn]), .fn, none⟩ := by kernel_rfl
theorem zo49 : zeroOf Try.prog 49 = (some [.nilfn]) := by kernel_rfl
instance : TyT Try.prog 49 ⟨1, false, (some [.nilfn]), .fn, none⟩ := ⟨ty49⟩
instance : ZoT Try.prog 49 (some [.nilfn]) := ⟨zo49⟩
theorem ty50 : tinfo Try.prog 50 = some ⟨1, false, (some [.nilfn]), .fn, none⟩ := by kernel_rfl
theorem zo50 : zeroOf Try.prog 50 = (some [.nilfn]) := by kernel_rfl
instance : TyT Try.prog 50 ⟨1, false, (some [.nilfn]), .fn, none⟩ := ⟨ty50⟩
instance : ZoT Try.prog 50 (some [.nilfn]) := ⟨zo50⟩
theorem ty52 : tinfo Try.prog 52 = some ⟨1, false, (some [.nilfn]), .fn, none⟩ := by kernel_rfl
theorem zo52 : zeroOf Try.prog 52 = (some [.nilfn]) := by kernel_rfl
instance : TyT Try.prog 52 ⟨1, false, (some [.nilfn]), .fn, none⟩ := ⟨ty52⟩
instance : ZoT Try.prog 52 (some [.nilfn]) := ⟨zo52⟩
theorem ty56 : tinfo Try.prog 56 = some ⟨1, false, (some [.nilfn]), .fn, none⟩ := by kernel_rfl
theorem zo56 : zeroOf Try.prog 56 = (some [.nilfn]) := by kernel_rfl
instance : TyT Try.prog 56 ⟨1, false, (some [.nilfn]), .fn, none⟩ := ⟨ty56⟩
instance : ZoT Try.prog 56 (some [.nilfn]) := ⟨zo56⟩
theorem ty57 : tinfo Try.prog 57 = some ⟨1, false, (some [.nilsl]), .slice 59 3 48 true (some [.int .i64 0, .str ⟨#[]⟩, .nilsl]), none⟩ := by kernel_rfl
theorem zo57 : zeroOf Try.prog 57 = (some [.nilsl]) := by kernel_rfl
instance : TyT Try.prog 57 ⟨1, false, (some [.nilsl]), .slice 59 3 48 true (some [.int .i64 0, .str ⟨#[]⟩, .nilsl]), none⟩ := ⟨ty57⟩
instance : ZoT Try.prog 57 (some [.nilsl]) := ⟨zo57⟩
theorem ty59 : tinfo Try.prog 59 = some ⟨3, true, (some [.int .i64 0, .str ⟨#[]⟩, .nilsl]), .struct [(0, 3, 1, false), (1, 9, 1, false), (2, 57, 1, false)], (some [(0, .int .i64), (1, .string), (2, .other)])⟩ := by kernel_rfl
theorem zo59 : zeroOf Try.prog 59 = (some [.int .i64 0, .str ⟨#[]⟩, .nilsl]) := by kernel_rfl
instance : TyT Try.prog 59 ⟨3, true, (some [.int .i64 0, .str ⟨#[]⟩, .nilsl]), .struct [(0, 3, 1, false), (1, 9, 1, false), (2, 57, 1, false)], (some [(0, .int .i64), (1, .string), (2, .other)])⟩ := ⟨ty59⟩
instance : ZoT Try.prog 59 (some [.int .i64 0, .str ⟨#[]⟩, .nilsl]) := ⟨zo59⟩
theorem ty60 : tinfo Try.prog 60 = some ⟨2, true, (some [.nilsl, .nilsl]), .struct [(0, 57, 1, false), (1, 57, 1, false)], (some [(0, .other), (1, .other)])⟩ := by kernel_rfl
theorem zo60 : zeroOf Try.prog 60 = (some [.nilsl, .nilsl]) := by kernel_rfl
instance : TyT Try.prog 60 ⟨2, true, (some [.nilsl, .nilsl]), .struct [(0, 57, 1, false), (1, 57, 1, false)], (some [(0, .other), (1, .other)])⟩ := ⟨ty60⟩
instance : ZoT Try.prog 60 (some [.nilsl, .nilsl]) := ⟨zo60⟩
theorem ty61 : tinfo Try.prog 61 = some ⟨2, true, (some [.nilsl, .nilsl]), .struct [(0, 57, 1, false), (1, 57, 1, false)], (some [(0, .other), (1, .other)])⟩ := by kernel_rfl
theorem zo61 : zeroOf Try.prog 61 = (some [.nilsl, .nilsl]) := by kernel_rfl
instance : TyT Try.prog 61 ⟨2, true, (some [.nilsl, .nilsl]), .struct [(0, 57, 1, false), (1, 57, 1, false)], (some [(0, .other), (1, .other)])⟩ := ⟨ty61⟩
instance : ZoT Try.prog 61 (some [.nilsl, .nilsl]) := ⟨zo61⟩
theorem ty62 : tinfo Try.prog 62 = some ⟨1, false, (some [.nilsl]), .slice 64 7 136 true (some [.str ⟨#[]⟩, .int .i64 0, .str ⟨#[]⟩, .nilsl, .nilsl, .nilsl, .nilsl]), none⟩ := by kernel_rfl
theorem zo62 : zeroOf Try.prog 62 = (some [.nilsl]) := by kernel_rfl
instance : TyT Try.prog 62 ⟨1, false, (some [.nilsl]), .slice 64 7 136 true (some [.str ⟨#[]⟩, .int .i64 0, .str ⟨#[]⟩, .nilsl, .nilsl, .nilsl, .nilsl]), none⟩ := ⟨ty62⟩
instance : ZoT Try.prog 62 (some [.nilsl]) := ⟨zo62⟩
theorem ty64 : tinfo Try.prog 64 = some ⟨7, true, (some [.str ⟨#[]⟩, .int .i64 0, .str ⟨#[]⟩, .nilsl, .nilsl, .nilsl, .nilsl]), .struct [(0, 9, 1, false), (1, 59, 3, true), (4, 61, 2, true), (6, 62, 1, false)], (some [(0, .string), (1, .other), (4, .other), (6, .other)])⟩ := by kernel_rfl
theorem zo64 : zeroOf Try.prog 64 = (some [.str ⟨#[]⟩, .int .i64 0, .str ⟨#[]⟩, .nilsl, .nilsl, .nilsl, .nilsl]) := by kernel_rfl
instance : TyT Try.prog 64 ⟨7, true, (some [.str ⟨#[]⟩, .int .i64 0, .str ⟨#[]⟩, .nilsl, .nilsl, .nilsl, .nilsl]), .struct [(0, 9, 1, false), (1, 59, 3, true), (4, 61, 2, true), (6, 62, 1, false)], (some [(0, .string), (1, .other), (4, .other), (6, .other)])⟩ := ⟨ty64⟩
instance : ZoT Try.prog 64 (some [.str ⟨#[]⟩, .int .i64 0, .str ⟨#[]⟩, .nilsl, .nilsl, .nilsl, .nilsl]) := ⟨zo64⟩
theorem ty65 : tinfo Try.prog 65 = some ⟨1, false, (some [.nilfn]), .fn, none⟩ := by kernel_rfl
theorem zo65 : zeroOf Try.prog 65 = (some [.nilfn]) := by kernel_rfl
instance : TyT Try.prog 65 ⟨1, false, (some [.nilfn]), .fn, none⟩ := ⟨ty65⟩
instance : ZoT Try.prog 65 (some [.nilfn]) := ⟨zo65⟩
theorem ty72 : tinfo Try.prog 72 = some ⟨1, false, (some [.nilfn]), .fn, none⟩ := by kernel_rfl
theorem zo72 : zeroOf Try.prog 72 = (some [.nilfn]) := by kernel_rfl
instance : TyT Try.prog 72 ⟨1, false, (some [.nilfn]), .fn, none⟩ := ⟨ty72⟩
instance : ZoT Try.prog 72 (some [.nilfn]) := ⟨zo72⟩
theorem ty75 : tinfo Try.prog 75 = some ⟨1, false, (some [.nilsl]), .slice 45 1 24 false (some [.nilsl]), none⟩ := by kernel_rfl
theorem zo75 : zeroOf Try.prog 75 = (some [.nilsl]) := by kernel_rfl
instance : TyT Try.prog 75 ⟨1, false, (some [.nilsl]), .slice 45 1 24 false (some [.nilsl]), none⟩ := ⟨ty75⟩
instance : ZoT Try.prog 75 (some [.nilsl]) := ⟨zo75⟩
theorem ty85 : tinfo Try.prog 85 = some ⟨1, false, (some [.nilfn]), .fn, none⟩ := by kernel_rfl
theorem zo85 : zeroOf Try.prog 85 = (some [.nilfn]) := by kernel_rfl
instance : TyT Try.prog 85 ⟨1, false, (some [.nilfn]), .fn, none⟩ := ⟨ty85⟩
instance : ZoT Try.prog 85 (some [.nilfn]) := ⟨zo85⟩
theorem ty86 : tinfo Try.prog 86 = some ⟨1, false, (some [.nilfn]), .fn, none⟩ := by kernel_rfl
theorem zo86 : zeroOf Try.prog 86 = (some [.nilfn]) := by kernel_rfl
instance : TyT Try.prog 86 ⟨1, false, (some [.nilfn]), .fn, none⟩ := ⟨ty86⟩
instance : ZoT Try.prog 86 (some [.nilfn]) := ⟨zo86⟩
theorem ty87 : tinfo Try.prog 87 = some ⟨1, false, (some [.nilfn]), .fn, none⟩ := by kernel_rfl
theorem zo87 : zeroOf Try.prog 87 = (some [.nilfn]) := by kernel_rfl
instance : TyT Try.prog 87 ⟨1, false, (some [.nilfn]), .fn, none⟩ := ⟨ty87⟩
instance : ZoT Try.prog 87 (some [.nilfn]) := ⟨zo87⟩
theorem ty88 : tinfo Try.prog 88 = some ⟨1, false, (some [.nilfn]), .fn, none⟩ := by kernel_rfl
theorem zo88 : zeroOf Try.prog 88 = (some [.nilfn]) := by kernel_rfl
instance : TyT Try.prog 88 ⟨1, false, (some [.nilfn]), .fn, none⟩ := ⟨ty88⟩
instance : ZoT Try.prog 88 (some [.nilfn]) := ⟨zo88⟩
theorem ty90 : tinfo Try.prog 90 = some ⟨1, false, (some [.nilfn]), .fn, none⟩ := by kernel_rfl
theorem zo90 : zeroOf Try.prog 90 = (some [.nilfn]) := by kernel_rfl
instance : TyT Try.prog 90 ⟨1, false, (some [.nilfn]), .fn, none⟩ := ⟨ty90⟩
instance : ZoT Try.prog 90 (some [.nilfn]) := ⟨zo90⟩
theorem ty91 : tinfo Try.prog 91 = some ⟨1, false, (some [.nilsl]), .slice 4 1 1 false (some [.bool false]), none⟩ := by kernel_rfl
theorem zo91 : zeroOf Try.prog 91 = (some [.nilsl]) := by kernel_rfl
instance : TyT Try.prog 91 ⟨1, false, (some [.nilsl]), .slice 4 1 1 false (some [.bool false]), none⟩ := ⟨ty91⟩
instance : ZoT Try.prog 91 (some [.nilsl]) := ⟨zo91⟩
theorem ty97 : tinfo Try.prog 97 = some ⟨1, false, (some [.nilsl]), .slice 91 1 24 false (some [.nilsl]), none⟩ := by kernel_rfl
theorem zo97 : zeroOf Try.prog 97 = (some [.nilsl]) := by kernel_rfl
instance : TyT Try.prog 97 ⟨1, false, (some [.nilsl]), .slice 91 1 24 false (some [.nilsl]), none⟩ := ⟨ty97⟩
instance : ZoT Try.prog 97 (some [.nilsl]) := ⟨zo97⟩
theorem ty99 : tinfo Try.prog 99 = some ⟨1, false, (some [.nilfn]), .fn, none⟩ := by kernel_rfl
theorem zo99 : zeroOf Try.prog 99 = (some [.nilfn]) := by kernel_rfl
instance : TyT Try.prog 99 ⟨1, false, (some [.nilfn]), .fn, none⟩ := ⟨ty99⟩
instance : ZoT Try.prog 99 (some [.nilfn]) := ⟨zo99⟩
theorem ty100 : tinfo Try.prog 100 = some ⟨1, false, (some [.nilfn]), .fn, none⟩ := by kernel_rfl
theorem zo100 : zeroOf Try.prog 100 = (some [.nilfn]) := by kernel_rfl
instance : TyT Try.prog 100 ⟨1, false, (some [.nilfn]), .fn, none⟩ := ⟨ty100⟩
instance : ZoT Try.prog 100 (some [.nilfn]) := ⟨zo100⟩
theorem ty101 : tinfo Try.prog 101 = some ⟨1, false, (some [.nilfn]), .fn, none⟩ := by kernel_rfl
theorem zo101 : zeroOf Try.prog 101 = (some [.nilfn]) := by kernel_rfl
instance : TyT Try.prog 101 ⟨1, false, (some [.nilfn]), .fn, none⟩ := ⟨ty101⟩
instance : ZoT Try.prog 101 (some [.nilfn]) := ⟨zo101⟩
theorem ty102 : tinfo Try.prog 102 = some ⟨1, false, (some [.nilfn]), .fn, none⟩ := by kernel_rfl
theorem zo102 : zeroOf Try.prog 102 = (some [.nilfn]) := by kernel_rfl
instance : TyT Try.prog 102 ⟨1, false, (some [.nilfn]), .fn, none⟩ := ⟨ty102⟩
instance : ZoT Try.prog 102 (some [.nilfn]) := ⟨zo102⟩
theorem ty104 : tinfo Try.prog 104 = some ⟨1, false, (some [.nilmap]), .map 154 4, none⟩ := by kernel_rfl
theorem zo104 : zeroOf Try.prog 104 = (some [.nilmap]) := by kernel_rfl
instance : TyT Try.prog 104 ⟨1, false, (some [.nilmap]), .map 154 4, none⟩ := ⟨ty104⟩
instance : ZoT Try.prog 104 (some [.nilmap]) := ⟨zo104⟩
theorem ty107 : tinfo Try.prog 107 = some ⟨1, false, (some [.nilfn]), .fn, none⟩ := by kernel_rfl
theorem zo107 : zeroOf Try.prog 107 = (some [.nilfn]) := by kernel_rfl
instance : TyT Try.prog 107 ⟨1, false, (some [.nilfn]), .fn, none⟩ := ⟨ty107⟩
instance : ZoT Try.prog 107 (some [.nilfn]) := ⟨zo107⟩
theorem ty108 : tinfo Try.prog 108 = some ⟨4, true, (some [.int .i64 0, .int .i64 0, .int .i64 0, .int .i64 0]), .array 4 3 1 false, (some [(0, .int .i64), (1, .int .i64), (2, .int .i64), (3, .int .i64)])⟩ := by kernel_rfl
theorem zo108 : zeroOf Try.prog 108 = (some [.int .i64 0, .int .i64 0, .int .i64 0, .int .i64 0]) := by kernel_rfl
instance : TyT Try.prog 108 ⟨4, true, (some [.int .i64 0, .int .i64 0, .int .i64 0, .int .i64 0]), .array 4 3 1 false, (some [(0, .int .i64), (1, .int .i64), (2, .int .i64), (3, .int .i64)])⟩ := ⟨ty108⟩
instance : ZoT Try.prog 108 (some [.int .i64 0, .int .i64 0, .int .i64 0, .int .i64 0]) := ⟨zo108⟩
theorem ty110 : tinfo Try.prog 110 = some ⟨9, true, (some [.int .i64 0, .int .i64 0, .int .i64 0, .int .i64 0, .int .i64 0, .int .i64 0, .int .i64 0, .int .i64 0, .int .i64 0]), .struct [(0, 3, 1, false), (1, 108, 4, true), (5, 108, 4, true)], (some [(0, .int .i64), (1, .other), (5, .other)])⟩ := by kernel_rfl
theorem zo110 : zeroOf Try.prog 110 = (some [.int .i64 0, .int .i64 0, .int .i64 0, .int .i64 0, .int .i64 0, .int .i64 0, .int .i64 0, .int .i64 0, .int .i64 0]) := by kernel_rfl
instance : TyT Try.prog 110 ⟨9, true, (some [.int .i64 0, .int .i64 0, .int .i64 0, .int .i64 0, .int .i64 0, .int .i64 0, .int .i64 0, .int .i64 0, .int .i64 0]), .struct [(0, 3, 1, false), (1, 108, 4, true), (5, 108, 4, true)], (some [(0, .int .i64), (1, .other), (5, .other)])⟩ := ⟨ty110⟩
instance : ZoT Try.prog 110 (some [.int .i64 0, .int .i64 0, .int .i64 0, .int .i64 0, .int .i64 0, .int .i64 0, .int .i64 0, .int .i64 0, .int .i64 0]) := ⟨zo110⟩
theorem ty111 : tinfo Try.prog 111 = some ⟨1, false, (some [.nilfn]), .fn, none⟩ := by kernel_rfl
theorem zo111 : zeroOf Try.prog 111 = (some [.nilfn]) := by kernel_rfl
instance : TyT Try.prog 111 ⟨1, false, (some [.nilfn]), .fn, none⟩ := ⟨ty111⟩
instance : ZoT Try.prog 111 (some [.nilfn]) := ⟨zo111⟩
theorem ty112 : tinfo Try.prog 112 = some ⟨1, false, (some [.nilsl]), .slice 161 7 120 true (some [.int .i64 0, .str ⟨#[]⟩, .nilsl, .nilsl, .str ⟨#[]⟩, .nilsl, .bool false]), none⟩ := by kernel_rfl
theorem zo112 : zeroOf Try.prog 112 = (some [.nilsl]) := by kernel_rfl
instance : TyT Try.prog 112 ⟨1, false, (some [.nilsl]), .slice 161 7 120 true (some [.int .i64 0, .str ⟨#[]⟩, .nilsl, .nilsl, .str ⟨#[]⟩, .nilsl, .bool false]), none⟩ := ⟨ty112⟩
instance : ZoT Try.prog 112 (some [.nilsl]) := ⟨zo112⟩
theorem ty114 : tinfo Try.prog 114 = some ⟨1, false, (some [.nilfn]), .fn, none⟩ := by kernel_rfl
theorem zo114 : zeroOf Try.prog 114 = (some [.nilfn]) := by kernel_rfl
instance : TyT Try.prog 114 ⟨1, false, (some [.nilfn]), .fn, none⟩ := ⟨ty114⟩
instance : ZoT Try.prog 114 (some [.nilfn]) := ⟨zo114⟩
theorem ty115 : tinfo Try.prog 115 = some ⟨2, true, (some [.str ⟨#[]⟩, .nilsl]), .struct [(0, 9, 1, false), (1, 26, 1, false)], (some [(0, .string), (1, .other)])⟩ := by kernel_rfl
theorem zo115 : zeroOf Try.prog 115 = (some [.str ⟨#[]⟩, .nilsl]) := by kernel_rfl
instance : TyT Try.prog 115 ⟨2, true, (some [.str ⟨#[]⟩, .nilsl]), .struct [(0, 9, 1, false), (1, 26, 1, false)], (some [(0, .string), (1, .other)])⟩ := ⟨ty115⟩
instance : ZoT Try.prog 115 (some [.str ⟨#[]⟩, .nilsl]) := ⟨zo115⟩
theorem ty116 : tinfo Try.prog 116 = some ⟨2, true, (some [.str ⟨#[]⟩, .nilsl]), .struct [(0, 9, 1, false), (1, 26, 1, false)], (some [(0, .string), (1, .other)])⟩ := by kernel_rfl
theorem zo116 : zeroOf Try.prog 116 = (some [.str ⟨#[]⟩, .nilsl]) := by kernel_rfl
instance : TyT Try.prog 116 ⟨2, true, (some [.str ⟨#[]⟩, .nilsl]), .struct [(0, 9, 1, false), (1, 26, 1, false)], (some [(0, .string), (1, .other)])⟩ := ⟨ty116⟩
instance : ZoT Try.prog 116 (some [.str ⟨#[]⟩, .nilsl]) := ⟨zo116⟩
theorem ty117 : tinfo Try.prog 117 = some ⟨3, true, (some [.str ⟨#[]⟩, .int .i64 0, .nilsl]), .struct [(0, 9, 1, false), (1, 3, 1, false), (2, 91, 1, false)], (some [(0, .string), (1, .int .i64), (2, .other)])⟩ := by kernel_rfl
theorem zo117 : zeroOf Try.prog 117 = (some [.str ⟨#[]⟩, .int .i64 0, .nilsl]) := by kernel_rfl
instance : TyT Try.prog 117 ⟨3, true, (some [.str ⟨#[]⟩, .int .i64 0, .nilsl]), .struct [(0, 9, 1, false), (1, 3, 1, false), (2, 91, 1, false)], (some [(0, .string), (1, .int .i64), (2, .other)])⟩ := ⟨ty117⟩
instance : ZoT Try.prog 117 (some [.str ⟨#[]⟩, .int .i64 0, .nilsl]) := ⟨zo117⟩
theorem ty118 : tinfo Try.prog 118 = some ⟨3, true, (some [.str ⟨#[]⟩, .int .i64 0, .nilsl]), .struct [(0, 9, 1, false), (1, 3, 1, false), (2, 91, 1, false)], (some [(0, .string), (1, .int .i64), (2, .other)])⟩ := by kernel_rfl
theorem zo118 : zeroOf Try.prog 118 = (some [.str ⟨#[]⟩, .int .i64 0, .nilsl]) := by kernel_rfl
instance : TyT Try.prog 118 ⟨3, true, (some [.str ⟨#[]⟩, .int .i64 0, .nilsl]), .struct [(0, 9, 1, false), (1, 3, 1, false), (2, 91, 1, false)], (some [(0, .string), (1, .int .i64), (2, .other)])⟩ := ⟨ty118⟩
instance : ZoT Try.prog 118 (some [.str ⟨#[]⟩, .int .i64 0, .nilsl]) := ⟨zo118⟩
theorem ty119 : tinfo Try.prog 119 = some ⟨1, false, (some [.nilsl]), .slice 25 3 56 true (some [.int .i64 0, .nilsl, .nilsl]), none⟩ := by kernel_rfl
theorem zo119 : zeroOf Try.prog 119 = (some [.nilsl]) := by kernel_rfl
instance : TyT Try.prog 119 ⟨1, false, (some [.nilsl]), .slice 25 3 56 true (some [.int .i64 0, .nilsl, .nilsl]), none⟩ := ⟨ty119⟩
instance : ZoT Try.prog 119 (some [.nilsl]) := ⟨zo119⟩
theorem ty120 : tinfo Try.prog 120 = some ⟨1, false, (some [.nilfn]), .fn, none⟩ := by kernel_rfl
theorem zo120 : zeroOf Try.prog 120 = (some [.nilfn]) := by kernel_rfl
instance : TyT Try.prog 120 ⟨1, false, (some [.nilfn]), .fn, none⟩ := ⟨ty120⟩
instance : ZoT Try.prog 120 (some [.nilfn]) := ⟨zo120⟩
theorem ty122 : tinfo Try.prog 122 = some ⟨3, true, (some [.str ⟨#[]⟩, .int .i64 0, .nilsl]), .struct [(0, 9, 1, false), (1, 3, 1, false), (2, 46, 1, false)], (some [(0, .string), (1, .int .i64), (2, .other)])⟩ := by kernel_rfl
theorem zo122 : zeroOf Try.prog 122 = (some [.str ⟨#[]⟩, .int .i64 0, .nilsl]) := by kernel_rfl
instance : TyT Try.prog 122 ⟨3, true, (some [.str ⟨#[]⟩, .int .i64 0, .nilsl]), .struct [(0, 9, 1, false), (1, 3, 1, false), (2, 46, 1, false)], (some [(0, .string), (1, .int .i64), (2, .other)])⟩ := ⟨ty122⟩
instance : ZoT Try.prog 122 (some [.str ⟨#[]⟩, .int .i64 0, .nilsl]) := ⟨zo122⟩
theorem ty123 : tinfo Try.prog 123 = some ⟨1, false, (some [.nilfn]), .fn, none⟩ := by kernel_rfl
theorem zo123 : zeroOf Try.prog 123 = (some [.nilfn]) := by kernel_rfl
instance : TyT Try.prog 123 ⟨1, false, (some [.nilfn]), .fn, none⟩ := ⟨ty123⟩
instance : ZoT Try.prog 123 (some [.nilfn]) := ⟨zo123⟩
theorem ty124 : tinfo Try.prog 124 = some ⟨1, false, (some [.nilfn]), .fn, none⟩ := by kernel_rfl
theorem zo124 : zeroOf Try.prog 124 = (some [.nilfn]) := by kernel_rfl
instance : TyT Try.prog 124 ⟨1, false, (some [.nilfn]), .fn, none⟩ := ⟨ty124⟩
instance : ZoT Try.prog 124 (some [.nilfn]) := ⟨zo124⟩
theorem ty125 : tinfo Try.prog 125 = some ⟨1, false, (some [.nilfn]), .fn, none⟩ := by kernel_rfl
theorem zo125 : zeroOf Try.prog 125 = (some [.nilfn]) := by kernel_rfl
instance : TyT Try.prog 125 ⟨1, false, (some [.nilfn]), .fn, none⟩ := ⟨ty125⟩
instance : ZoT Try.prog 125 (some [.nilfn]) := ⟨zo125⟩
theorem ty126 : tinfo Try.prog 126 = some ⟨1, false, (some [.nilfn]), .fn, none⟩ := by kernel_rfl
theorem zo126 : zeroOf Try.prog 126 = (some [.nilfn]) := by kernel_rfl
instance : TyT Try.prog 126 ⟨1, false, (some [.nilfn]), .fn, none⟩ := ⟨ty126⟩
instance : ZoT Try.prog 126 (some [.nilfn]) := ⟨zo126⟩
theorem ty128 : tinfo Try.prog 128 = some ⟨1, false, (some [.nilmap]), .map 9 3, none⟩ := by kernel_rfl
theorem zo128 : zeroOf Try.prog 128 = (some [.nilmap]) := by kernel_rfl
instance : TyT Try.prog 128 ⟨1, false, (some [.nilmap]), .map 9 3, none⟩ := ⟨ty128⟩
instance : ZoT Try.prog 128 (some [.nilmap]) := ⟨zo128⟩
theorem ty132 : tinfo Try.prog 132 = some ⟨1, false, (some [.nilfn]), .fn, none⟩ := by kernel_rfl
theorem zo132 : zeroOf Try.prog 132 = (some [.nilfn]) := by kernel_rfl
instance : TyT Try.prog 132 ⟨1, false, (some [.nilfn]), .fn, none⟩ := ⟨ty132⟩
instance : ZoT Try.prog 132 (some [.nilfn]) := ⟨zo132⟩
theorem ty136 : tinfo Try.prog 136 = some ⟨1, false, (some [.nilfn]), .fn, none⟩ := by kernel_rfl
theorem zo136 : zeroOf Try.prog 136 = (some [.nilfn]) := by kernel_rfl
instance : TyT Try.prog 136 ⟨1, false, (some [.nilfn]), .fn, none⟩ := ⟨ty136⟩
instance : ZoT Try.prog 136 (some [.nilfn]) := ⟨zo136⟩
theorem ty154 : tinfo Try.prog 154 = some ⟨18, true, (some [.int .i64 0, .int .i64 0, .int .i64 0, .int .i64 0, .int .i64 0, .int .i64 0, .int .i64 0, .int .i64 0, .int .i64 0, .int .i64 0, .int .i64 0, .int .i64 0, .int .i64 0, .int .i64 0, .int .i64 0, .int .i64 0, .int .i64 0, .int .i64 0]), .array 2 110 9 true, (some [(0, .other), (9, .other)])⟩ := by kernel_rfl
theorem zo154 : zeroOf Try.prog 154 = (some [.int .i64 0, .int .i64 0, .int .i64 0, .int .i64 0, .int .i64 0, .int .i64 0, .int .i64 0, .int .i64 0, .int .i64 0, .int .i64 0, .int .i64 0, .int .i64 0, .int .i64 0, .int .i64 0, .int .i64 0, .int .i64 0, .int .i64 0, .int .i64 0]) := by kernel_rfl
instance : TyT Try.prog 154 ⟨18, true, (some [.int .i64 0, .int .i64 0, .int .i64 0, .int .i64 0, .int .i64 0, .int .i64 0, .int .i64 0, .int .i64 0, .int .i64 0, .int .i64 0, .int .i64 0, .int .i64 0, .int .i64 0, .int .i64 0, .int .i64 0, .int .i64 0, .int .i64 0, .int .i64 0]), .array 2 110 9 true, (some [(0, .other), (9, .other)])⟩ := ⟨ty154⟩
instance : ZoT Try.prog 154 (some [.int .i64 0, .int .i64 0, .int .i64 0, .int .i64 0, .int .i64 0, .int .i64 0, .int .i64 0, .int .i64 0, .int .i64 0, .int .i64 0, .int .i64 0, .int .i64 0, .int .i64 0, .int .i64 0, .int .i64 0, .int .i64 0, .int .i64 0, .int .i64 0]) := ⟨zo154⟩
theorem ty157 : tinfo Try.prog 157 = some ⟨1, false, (some [.nilfn]), .fn, none⟩ := by kernel_rfl
theorem zo157 : zeroOf Try.prog 157 = (some [.nilfn]) := by kernel_rfl
instance : TyT Try.prog 157 ⟨1, false, (some [.nilfn]), .fn, none⟩ := ⟨ty157⟩
instance : ZoT Try.prog 157 (some [.nilfn]) := ⟨zo157⟩
theorem ty158 : tinfo Try.prog 158 = some ⟨1, false, (some [.nilfn]), .fn, none⟩ := by kernel_rfl
theorem zo158 : zeroOf Try.prog 158 = (some [.nilfn]) := by kernel_rfl
instance : TyT Try.prog 158 ⟨1, false, (some [.nilfn]), .fn, none⟩ := ⟨ty158⟩
instance : ZoT Try.prog 158 (some [.nilfn]) := ⟨zo158⟩
theorem ty159 : tinfo Try.prog 159 = some ⟨1, false, (some [.nilfn]), .fn, none⟩ := by kernel_rfl
theorem zo159 : zeroOf Try.prog 159 = (some [.nilfn]) := by kernel_rfl
instance : TyT Try.prog 159 ⟨1, false, (some [.nilfn]), .fn, none⟩ := ⟨ty159⟩
instance : ZoT Try.prog 159 (some [.nilfn]) := ⟨zo159⟩
theorem ty161 : tinfo Try.prog 161 = some ⟨7, true, (some [.int .i64 0, .str ⟨#[]⟩, .nilsl, .nilsl, .str ⟨#[]⟩, .nilsl, .bool false]), .struct [(0, 29, 4, true), (4, 116, 2, true), (6, 4, 1, false)], (some [(0, .other), (4, .other), (6, .bool)])⟩ := by kernel_rfl
theorem zo161 : zeroOf Try.prog 161 = (some [.int .i64 0, .str ⟨#[]⟩, .nilsl, .nilsl, .str ⟨#[]⟩, .nilsl, .bool false]) := by kernel_rfl
instance : TyT Try.prog 161 ⟨7, true, (some [.int .i64 0, .str ⟨#[]⟩, .nilsl, .nilsl, .str ⟨#[]⟩, .nilsl, .bool false]), .struct [(0, 29, 4, true), (4, 116, 2, true), (6, 4, 1, false)], (some [(0, .other), (4, .other), (6, .bool)])⟩ := ⟨ty161⟩
instance : ZoT Try.prog 161 (some [.int .i64 0, .str ⟨#[]⟩, .nilsl, .nilsl, .str ⟨#[]⟩, .nilsl, .bool false]) := ⟨zo161⟩
theorem ty168 : tinfo Try.prog 168 = some ⟨2, true, (some [.int .i64 0, .nilmap]), .struct [(0, 3, 1, false), (1, 128, 1, false)], (some [(0, .int .i64), (1, .other)])⟩ := by kernel_rfl
theorem zo168 : zeroOf Try.prog 168 = (some [.int .i64 0, .nilmap]) := by kernel_rfl
instance : TyT Try.prog 168 ⟨2, true, (some [.int .i64 0, .nilmap]), .struct [(0, 3, 1, false), (1, 128, 1, false)], (some [(0, .int .i64), (1, .other)])⟩ := ⟨ty168⟩
instance : ZoT Try.prog 168 (some [.int .i64 0, .nilmap]) := ⟨zo168⟩
theorem ty169 : tinfo Try.prog 169 = some ⟨2, true, (some [.int .i64 0, .nilmap]), .struct [(0, 3, 1, false), (1, 128, 1, false)], (some [(0, .int .i64), (1, .other)])⟩ := by kernel_rfl
theorem zo169 : zeroOf Try.prog 169 = (some [.int .i64 0, .nilmap]) := by kernel_rfl
instance : TyT Try.prog 169 ⟨2, true, (some [.int .i64 0, .nilmap]), .struct [(0, 3, 1, false), (1, 128, 1, false)], (some [(0, .int .i64), (1, .other)])⟩ := ⟨ty169⟩
instance : ZoT Try.prog 169 (some [.int .i64 0, .nilmap]) := ⟨zo169⟩
theorem ty170 : tinfo Try.prog 170 = some ⟨1, false, (some [.nilfn]), .fn, none⟩ := by kernel_rfl
theorem zo170 : zeroOf Try.prog 170 = (some [.nilfn]) := by kernel_rfl
instance : TyT Try.prog 170 ⟨1, false, (some [.nilfn]), .fn, none⟩ := ⟨ty170⟩
instance : ZoT Try.prog 170 (some [.nilfn]) := ⟨zo170⟩
theorem ty171 : tinfo Try.prog 171 = some ⟨1, false, (some [.nilmap]), .map 9 122, none⟩ := by kernel_rfl
theorem zo171 : zeroOf Try.prog 171 = (some [.nilmap]) := by kernel_rfl
instance : TyT Try.prog 171 ⟨1, false, (some [.nilmap]), .map 9 122, none⟩ := ⟨ty171⟩
instance : ZoT Try.prog 171 (some [.nilmap]) := ⟨zo171⟩
theorem ty172 : tinfo Try.prog 172 = some ⟨1, false, (some [.nilmap]), .map 9 118, none⟩ := by kernel_rfl
theorem zo172 : zeroOf Try.prog 172 = (some [.nilmap]) := by kernel_rfl
instance : TyT Try.prog 172 ⟨1, false, (some [.nilmap]), .map 9 118, none⟩ := ⟨ty172⟩
instance : ZoT Try.prog 172 (some [.nilmap]) := ⟨zo172⟩
theorem ty173 : tinfo Try.prog 173 = some ⟨3, true, (some [.int .i64 0, .nilmap, .nilmap]), .struct [(0, 3, 1, false), (1, 171, 1, false), (2, 172, 1, false)], (some [(0, .int .i64), (1, .other), (2, .other)])⟩ := by kernel_rfl
theorem zo173 : zeroOf Try.prog 173 = (some [.int .i64 0, .nilmap, .nilmap]) := by kernel_rfl
instance : TyT Try.prog 173 ⟨3, true, (some [.int .i64 0, .nilmap, .nilmap]), .struct [(0, 3, 1, false), (1, 171, 1, false), (2, 172, 1, false)], (some [(0, .int .i64), (1, .other), (2, .other)])⟩ := ⟨ty173⟩
instance : ZoT Try.prog 173 (some [.int .i64 0, .nilmap, .nilmap]) := ⟨zo173⟩
theorem ty174 : tinfo Try.prog 174 = some ⟨3, true, (some [.int .i64 0, .nilmap, .nilmap]), .struct [(0, 3, 1, false), (1, 171, 1, false), (2, 172, 1, false)], (some [(0, .int .i64), (1, .other), (2, .other)])⟩ := by kernel_rfl
theorem zo174 : zeroOf Try.prog 174 = (some [.int .i64 0, .nilmap, .nilmap]) := by kernel_rfl
instance : TyT Try.prog 174 ⟨3, true, (some [.int .i64 0, .nilmap, .nilmap]), .struct [(0, 3, 1, false), (1, 171, 1, false), (2, 172, 1, false)], (some [(0, .int .i64), (1, .other), (2, .other)])⟩ := ⟨ty174⟩
instance : ZoT Try.prog 174 (some [.int .i64 0, .nilmap, .nilmap]) := ⟨zo174⟩
theorem ty175 : tinfo Try.prog 175 = some ⟨1, false, (some [.nilfn]), .fn, none⟩ := by kernel_rfl
theorem zo175 : zeroOf Try.prog 175 = (some [.nilfn]) := by kernel_rfl
instance : TyT Try.prog 175 ⟨1, false, (some [.nilfn]), .fn, none⟩ := ⟨ty175⟩
instance : ZoT Try.prog 175 (some [.nilfn]) := ⟨zo175⟩
theorem ty188 : tinfo Try.prog 188 = some ⟨2, true, (some [.bool false, .int .i64 0]), .struct [(0, 4, 1, false), (1, 3, 1, false)], (some [(0, .bool), (1, .int .i64)])⟩ := by kernel_rfl
theorem zo188 : zeroOf Try.prog 188 = (some [.bool false, .int .i64 0]) := by kernel_rfl
instance : TyT Try.prog 188 ⟨2, true, (some [.bool false, .int .i64 0]), .struct [(0, 4, 1, false), (1, 3, 1, false)], (some [(0, .bool), (1, .int .i64)])⟩ := ⟨ty188⟩
instance : ZoT Try.prog 188 (some [.bool false, .int .i64 0]) := ⟨zo188⟩
theorem ty196 : tinfo Try.prog 196 = some ⟨1, false, (some [.nilfn]), .fn, none⟩ := by kernel_rfl
theorem zo196 : zeroOf Try.prog 196 = (some [.nilfn]) := by kernel_rfl
instance : TyT Try.prog 196 ⟨1, false, (some [.nilfn]), .fn, none⟩ := ⟨ty196⟩
instance : ZoT Try.prog 196 (some [.nilfn]) := ⟨zo196⟩
theorem ty197 : tinfo Try.prog 197 = some ⟨1, false, (some [.nilfn]), .fn, none⟩ := by kernel_rfl
theorem zo197 : zeroOf Try.prog 197 = (some [.nilfn]) := by kernel_rfl
instance : TyT Try.prog 197 ⟨1, false, (some [.nilfn]), .fn, none⟩ := ⟨ty197⟩
instance : ZoT Try.prog 197 (some [.nilfn]) := ⟨zo197⟩
theorem ty198 : tinfo Try.prog 198 = some ⟨1, false, (some [.nilfn]), .fn, none⟩ := by kernel_rfl
theorem zo198 : zeroOf Try.prog 198 = (some [.nilfn]) := by kernel_rfl
instance : TyT Try.prog 198 ⟨1, false, (some [.nilfn]), .fn, none⟩ := ⟨ty198⟩
instance : ZoT Try.prog 198 (some [.nilfn]) := ⟨zo198⟩
theorem ty199 : tinfo Try.prog 199 = some ⟨1, false, (some [.nilfn]), .fn, none⟩ := by kernel_rfl
theorem zo199 : zeroOf Try.prog 199 = (some [.nilfn]) := by kernel_rfl
instance : TyT Try.prog 199 ⟨1, false, (some [.nilfn]), .fn, none⟩ := ⟨ty199⟩
instance : ZoT Try.prog 199 (some [.nilfn]) := ⟨zo199⟩
theorem ty200 : tinfo Try.prog 200 = some ⟨1, false, (some [.nilfn]), .fn, none⟩ := by kernel_rfl
theorem zo200 : zeroOf Try.prog 200 = (some [.nilfn]) := by kernel_rfl
instance : TyT Try.prog 200 ⟨1, false, (some [.nilfn]), .fn, none⟩ := ⟨ty200⟩
instance : ZoT Try.prog 200 (some [.nilfn]) := ⟨zo200⟩
theorem ty201 : tinfo Try.prog 201 = some ⟨1, false, (some [.nilfn]), .fn, none⟩ := by kernel_rfl
theorem zo201 : zeroOf Try.prog 201 = (some [.nilfn]) := by kernel_rfl
instance : TyT Try.prog 201 ⟨1, false, (some [.nilfn]), .fn, none⟩ := ⟨ty201⟩
instance : ZoT Try.prog 201 (some [.nilfn]) := ⟨zo201⟩
theorem ty202 : tinfo Try.prog 202 = some ⟨1, false, (some [.nilfn]), .fn, none⟩ := by kernel_rfl
theorem zo202 : zeroOf Try.prog 202 = (some [.nilfn]) := by kernel_rfl
instance : TyT Try.prog 202 ⟨1, false, (some [.nilfn]), .fn, none⟩ := ⟨ty202⟩
instance : ZoT Try.prog 202 (some [.nilfn]) := ⟨zo202⟩
theorem ty203 : tinfo Try.prog 203 = some ⟨1, false, (some [.nilfn]), .fn, none⟩ := by kernel_rfl
theorem zo203 : zeroOf Try.prog 203 = (some [.nilfn]) := by kernel_rfl
instance : TyT Try.prog 203 ⟨1, false, (some [.nilfn]), .fn, none⟩ := ⟨ty203⟩
instance : ZoT Try.prog 203 (some [.nilfn]) := ⟨zo203⟩
theorem ty204 : tinfo Try.prog 204 = some ⟨1, false, (some [.nilfn]), .fn, none⟩ := by kernel_rfl
theorem zo204 : zeroOf Try.prog 204 = (some [.nilfn]) := by kernel_rfl
instance : TyT Try.prog 204 ⟨1, false, (some [.nilfn]), .fn, none⟩ := ⟨ty204⟩
instance : ZoT Try.prog 204 (some [.nilfn]) := ⟨zo204⟩
theorem ty205 : tinfo Try.prog 205 = some ⟨1, false, (some [.nilfn]), .fn, none⟩ := by kernel_rfl
theorem zo205 : zeroOf Try.prog 205 = (some [.nilfn]) := by kernel_rfl
instance : TyT Try.prog 205 ⟨1, false, (some [.nilfn]), .fn, none⟩ := ⟨ty205⟩
instance : ZoT Try.prog 205 (some [.nilfn]) := ⟨zo205⟩
theorem ty206 : tinfo Try.prog 206 = some ⟨1, false, (some [.nilfn]), .fn, none⟩ := by kernel_rfl
theorem zo206 : zeroOf Try.prog 206 = (some [.nilfn]) := by kernel_rfl
instance : TyT Try.prog 206 ⟨1, false, (some [.nilfn]), .fn, none⟩ := ⟨ty206⟩
instance : ZoT Try.prog 206 (some [.nilfn]) := ⟨zo206⟩
theorem ty207 : tinfo Try.prog 207 = some ⟨2, true, (some [.int .i64 0, .int .i64 0]), .struct [(0, 33, 2, true)], (some [(0, .other)])⟩ := by kernel_rfl
theorem zo207 : zeroOf Try.prog 207 = (some [.int .i64 0, .int .i64 0]) := by kernel_rfl
instance : TyT Try.prog 207 ⟨2, true, (some [.int .i64 0, .int .i64 0]), .struct [(0, 33, 2, true)], (some [(0, .other)])⟩ := ⟨ty207⟩
instance : ZoT Try.prog 207 (some [.int .i64 0, .int .i64 0]) := ⟨zo207⟩
theorem ty208 : tinfo Try.prog 208 = some ⟨2, true, (some [.int .i64 0, .int .i64 0]), .struct [(0, 33, 2, true)], (some [(0, .other)])⟩ := by kernel_rfl
theorem zo208 : zeroOf Try.prog 208 = (some [.int .i64 0, .int .i64 0]) := by kernel_rfl
instance : TyT Try.prog 208 ⟨2, true, (some [.int .i64 0, .int .i64 0]), .struct [(0, 33, 2, true)], (some [(0, .other)])⟩ := ⟨ty208⟩
instance : ZoT Try.prog 208 (some [.int .i64 0, .int .i64 0]) := ⟨zo208⟩
theorem ty209 : tinfo Try.prog 209 = some ⟨1, false, (some [.nilfn]), .fn, none⟩ := by kernel_rfl
theorem zo209 : zeroOf Try.prog 209 = (some [.nilfn]) := by kernel_rfl
instance : TyT Try.prog 209 ⟨1, false, (some [.nilfn]), .fn, none⟩ := ⟨ty209⟩
instance : ZoT Try.prog 209 (some [.nilfn]) := ⟨zo209⟩
theorem ty211 : tinfo Try.prog 211 = some ⟨1, false, (some [.nilfn]), .fn, none⟩ := by kernel_rfl
theorem zo211 : zeroOf Try.prog 211 = (some [.nilfn]) := by kernel_rfl
instance : TyT Try.prog 211 ⟨1, false, (some [.nilfn]), .fn, none⟩ := ⟨ty211⟩
instance : ZoT Try.prog 211 (some [.nilfn]) := ⟨zo211⟩
theorem ty212 : tinfo Try.prog 212 = some ⟨1, false, (some [.nilfn]), .fn, none⟩ := by kernel_rfl
theorem zo212 : zeroOf Try.prog 212 = (some [.nilfn]) := by kernel_rfl
instance : TyT Try.prog 212 ⟨1, false, (some [.nilfn]), .fn, none⟩ := ⟨ty212⟩
instance : ZoT Try.prog 212 (some [.nilfn]) := ⟨zo212⟩
theorem ty213 : tinfo Try.prog 213 = some ⟨1, false, (some [.nilfn]), .fn, none⟩ := by kernel_rfl
theorem zo213 : zeroOf Try.prog 213 = (some [.nilfn]) := by kernel_rfl
instance : TyT Try.prog 213 ⟨1, false, (some [.nilfn]), .fn, none⟩ := ⟨ty213⟩
instance : ZoT Try.prog 213 (some [.nilfn]) := ⟨zo213⟩
theorem ty214 : tinfo Try.prog 214 = some ⟨1, false, (some [.nilfn]), .fn, none⟩ := by kernel_rfl
theorem zo214 : zeroOf Try.prog 214 = (some [.nilfn]) := by kernel_rfl
instance : TyT Try.prog 214 ⟨1, false, (some [.nilfn]), .fn, none⟩ := ⟨ty214⟩
instance : ZoT Try.prog 214 (some [.nilfn]) := ⟨zo214⟩
theorem ty215 : tinfo Try.prog 215 = some ⟨1, false, (some [.nilfn]), .fn, none⟩ := by kernel_rfl
theorem zo215 : zeroOf Try.prog 215 = (some [.nilfn]) := by kernel_rfl
instance : TyT Try.prog 215 ⟨1, false, (some [.nilfn]), .fn, none⟩ := ⟨ty215⟩
instance : ZoT Try.prog 215 (some [.nilfn]) := ⟨zo215⟩
theorem ty216 : tinfo Try.prog 216 = some ⟨1, false, (some [.nilfn]), .fn, none⟩ := by kernel_rfl
theorem zo216 : zeroOf Try.prog 216 = (some [.nilfn]) := by kernel_rfl
instance : TyT Try.prog 216 ⟨1, false, (some [.nilfn]), .fn, none⟩ := ⟨ty216⟩
instance : ZoT Try.prog 216 (some [.nilfn]) := ⟨zo216⟩
theorem ty217 : tinfo Try.prog 217 = some ⟨1, false, (some [.nilfn]), .fn, none⟩ := by kernel_rfl
theorem zo217 : zeroOf Try.prog 217 = (some [.nilfn]) := by kernel_rfl
instance : TyT Try.prog 217 ⟨1, false, (some [.nilfn]), .fn, none⟩ := ⟨ty217⟩
instance : ZoT Try.prog 217 (some [.nilfn]) := ⟨zo217⟩
theorem ty218 : tinfo Try.prog 218 = some ⟨1, false, (some [.nilfn]), .fn, none⟩ := by kernel_rfl
theorem zo218 : zeroOf Try.prog 218 = (some [.nilfn]) := by kernel_rfl
instance : TyT Try.prog 218 ⟨1, false, (some [.nilfn]), .fn, none⟩ := ⟨ty218⟩
instance : ZoT Try.prog 218 (some [.nilfn]) := ⟨zo218⟩
theorem ty219 : tinfo Try.prog 219 = some ⟨1, false, (some [.nilfn]), .fn, none⟩ := by kernel_rfl
theorem zo219 : zeroOf Try.prog 219 = (some [.nilfn]) := by kernel_rfl
instance : TyT Try.prog 219 ⟨1, false, (some [.nilfn]), .fn, none⟩ := ⟨ty219⟩
instance : ZoT Try.prog 219 (some [.nilfn]) := ⟨zo219⟩
theorem ty220 : tinfo Try.prog 220 = some ⟨1, false, (some [.nilfn]), .fn, none⟩ := by kernel_rfl
theorem zo220 : zeroOf Try.prog 220 = (some [.nilfn]) := by kernel_rfl
instance : TyT Try.prog 220 ⟨1, false, (some [.nilfn]), .fn, none⟩ := ⟨ty220⟩
instance : ZoT Try.prog 220 (some [.nilfn]) := ⟨zo220⟩
theorem ty226 : tinfo Try.prog 226 = some ⟨1, false, (some [.nilsl]), .slice 59 3 48 true (some [.int .i64 0, .str ⟨#[]⟩, .nilsl]), none⟩ := by kernel_rfl
theorem zo226 : zeroOf Try.prog 226 = (some [.nilsl]) := by kernel_rfl
instance : TyT Try.prog 226 ⟨1, false, (some [.nilsl]), .slice 59 3 48 true (some [.int .i64 0, .str ⟨#[]⟩, .nilsl]), none⟩ := ⟨ty226⟩
instance : ZoT Try.prog 226 (some [.nilsl]) := ⟨zo226⟩
theorem ty229 : tinfo Try.prog 229 = some ⟨1, false, (some [.nilfn]), .fn, none⟩ := by kernel_rfl
theorem zo229 : zeroOf Try.prog 229 = (some [.nilfn]) := by kernel_rfl
instance : TyT Try.prog 229 ⟨1, false, (some [.nilfn]), .fn, none⟩ := ⟨ty229⟩
instance : ZoT Try.prog 229 (some [.nilfn]) := ⟨zo229⟩
theorem ty231 : tinfo Try.prog 231 = some ⟨1, false, (some [.nilmap]), .map 9 229, none⟩ := by kernel_rfl
theorem zo231 : zeroOf Try.prog 231 = (some [.nilmap]) := by kernel_rfl
instance : TyT Try.prog 231 ⟨1, false, (some [.nilmap]), .map 9 229, none⟩ := ⟨ty231⟩
instance : ZoT Try.prog 231 (some [.nilmap]) := ⟨zo231⟩
theorem ty232 : tinfo Try.prog 232 = some ⟨1, false, (some [.nilfn]), .fn, none⟩ := by kernel_rfl
theorem zo232 : zeroOf Try.prog 232 = (some [.nilfn]) := by kernel_rfl
instance : TyT Try.prog 232 ⟨1, false, (some [.nilfn]), .fn, none⟩ := ⟨ty232⟩
instance : ZoT Try.prog 232 (some [.nilfn]) := ⟨zo232⟩
theorem ty233 : tinfo Try.prog 233 = some ⟨1, false, (some [.nilsl]), .slice 236 2 48 true (some [.nilsl, .nilsl]), none⟩ := by kernel_rfl
theorem zo233 : zeroOf Try.prog 233 = (some [.nilsl]) := by kernel_rfl
instance : TyT Try.prog 233 ⟨1, false, (some [.nilsl]), .slice 236 2 48 true (some [.nilsl, .nilsl]), none⟩ := ⟨ty233⟩
instance : ZoT Try.prog 233 (some [.nilsl]) := ⟨zo233⟩
theorem ty235 : tinfo Try.prog 235 = some ⟨2, true, (some [.nilsl, .nilsl]), .struct [(0, 226, 1, false), (1, 226, 1, false)], (some [(0, .other), (1, .other)])⟩ := by kernel_rfl
theorem zo235 : zeroOf Try.prog 235 = (some [.nilsl, .nilsl]) := by kernel_rfl
instance : TyT Try.prog 235 ⟨2, true, (some [.nilsl, .nilsl]), .struct [(0, 226, 1, false), (1, 226, 1, false)], (some [(0, .other), (1, .other)])⟩ := ⟨ty235⟩
instance : ZoT Try.prog 235 (some [.nilsl, .nilsl]) := ⟨zo235⟩
theorem ty236 : tinfo Try.prog 236 = some ⟨2, true, (some [.nilsl, .nilsl]), .struct [(0, 226, 1, false), (1, 226, 1, false)], (some [(0, .other), (1, .other)])⟩ := by kernel_rfl
theorem zo236 : zeroOf Try.prog 236 = (some [.nilsl, .nilsl]) := by kernel_rfl
instance : TyT Try.prog 236 ⟨2, true, (some [.nilsl, .nilsl]), .struct [(0, 226, 1, false), (1, 226, 1, false)], (some [(0, .other), (1, .other)])⟩ := ⟨ty236⟩
instance : ZoT Try.prog 236 (some [.nilsl, .nilsl]) := ⟨zo236⟩
theorem ty238 : tinfo Try.prog 238 = some ⟨1, false, (some [.int .i64 0]), .int .i64, none⟩ := by kernel_rfl
theorem zo238 : zeroOf Try.prog 238 = (some [.int .i64 0]) := by kernel_rfl
instance : TyT Try.prog 238 ⟨1, false, (some [.int .i64 0]), .int .i64, none⟩ := ⟨ty238⟩
instance : ZoT Try.prog 238 (some [.int .i64 0]) := ⟨zo238⟩
theorem ty240 : tinfo Try.prog 240 = some ⟨1, false, (some [.nilfn]), .fn, none⟩ := by kernel_rfl
theorem zo240 : zeroOf Try.prog 240 = (some [.nilfn]) := by kernel_rfl
instance : TyT Try.prog 240 ⟨1, false, (some [.nilfn]), .fn, none⟩ := ⟨ty240⟩
instance : ZoT Try.prog 240 (some [.nilfn]) := ⟨zo240⟩
theorem ty241 : tinfo Try.prog 241 = some ⟨1, false, (some [.nilfn]), .fn, none⟩ := by kernel_rfl
theorem zo241 : zeroOf Try.prog 241 = (some [.nilfn]) := by kernel_rfl
instance : TyT Try.prog 241 ⟨1, false, (some [.nilfn]), .fn, none⟩ := ⟨ty241⟩
instance : ZoT Try.prog 241 (some [.nilfn]) := ⟨zo241⟩
theorem ty242 : tinfo Try.prog 242 = some ⟨1, false, (some [.nilfn]), .fn, none⟩ := by kernel_rfl
theorem zo242 : zeroOf Try.prog 242 = (some [.nilfn]) := by kernel_rfl
instance : TyT Try.prog 242 ⟨1, false, (some [.nilfn]), .fn, none⟩ := ⟨ty242⟩
instance : ZoT Try.prog 242 (some [.nilfn]) := ⟨zo242⟩
theorem ty254 : tinfo Try.prog 254 = some ⟨1, false, (some [.nilsl]), .slice 57 1 24 false (some [.nilsl]), none⟩ := by kernel_rfl
theorem zo254 : zeroOf Try.prog 254 = (some [.nilsl]) := by kernel_rfl
instance : TyT Try.prog 254 ⟨1, false, (some [.nilsl]), .slice 57 1 24 false (some [.nilsl]), none⟩ := ⟨ty254⟩
instance : ZoT Try.prog 254 (some [.nilsl]) := ⟨zo254⟩
theorem ty274 : tinfo Try.prog 274 = some ⟨1, false, (some [.nilsl]), .slice 226 1 24 false (some [.nilsl]), none⟩ := by kernel_rfl
theorem zo274 : zeroOf Try.prog 274 = (some [.nilsl]) := by kernel_rfl
instance : TyT Try.prog 274 ⟨1, false, (some [.nilsl]), .slice 226 1 24 false (some [.nilsl]), none⟩ := ⟨ty274⟩
instance : ZoT Try.prog 274 (some [.nilsl]) := ⟨zo274⟩
theorem zv3 : zvOf Try.prog 3 = some (.int .i64 0) := by kernel_rfl
instance : ZvT Try.prog 3 (.int .i64 0) := ⟨zv3⟩
theorem zv4 : zvOf Try.prog 4 = some (.bool false) := by kernel_rfl
instance : ZvT Try.prog 4 (.bool false) := ⟨zv4⟩
theorem zv118 : zvOf Try.prog 118 = some (.agg [.str ⟨#[]⟩, .int .i64 0, .nilsl]) := by kernel_rfl
instance : ZvT Try.prog 118 (.agg [.str ⟨#[]⟩, .int .i64 0, .nilsl]) := ⟨zv118⟩
theorem zv122 : zvOf Try.prog 122 = some (.agg [.str ⟨#[]⟩, .int .i64 0, .nilsl]) := by kernel_rfl
instance : ZvT Try.prog 122 (.agg [.str ⟨#[]⟩, .int .i64 0, .nilsl]) := ⟨zv122⟩
theorem zv229 : zvOf Try.prog 229 = some (.nilfn) := by kernel_rfl
instance : ZvT Try.prog 229 (.nilfn) := ⟨zv229⟩
theorem mixed : Try.prog.follows .mixedOrders = true := by kernel_rfl
instance : MixT Try.prog := ⟨mixed⟩
theorem en3 : Enters Try.prog 3 := Try.call3
instance : EnT Try.prog 3 := ⟨en3⟩
theorem en4 : Enters Try.prog 4 := Try.call4
instance : EnT Try.prog 4 := ⟨en4⟩
theorem en9 : Enters Try.prog 9 := Try.call9
instance : EnT Try.prog 9 := ⟨en9⟩
theorem en10 : Enters Try.prog 10 := Try.call10
instance : EnT Try.prog 10 := ⟨en10⟩
theorem en35 : Enters Try.prog 35 := Try.call35
instance : EnT Try.prog 35 := ⟨en35⟩
theorem en36 : Enters Try.prog 36 := Try.call36
instance : EnT Try.prog 36 := ⟨en36⟩
theorem en37 : Enters Try.prog 37 := Try.call37
instance : EnT Try.prog 37 := ⟨en37⟩
theorem en39 : Enters Try.prog 39 := Try.call39
instance : EnT Try.prog 39 := ⟨en39⟩
theorem en40 : Enters Try.prog 40 := Try.call40
instance : EnT Try.prog 40 := ⟨en40⟩
theorem en41 : Enters Try.prog 41 := Try.call41
instance : EnT Try.prog 41 := ⟨en41⟩
theorem en52 : Enters Try.prog 52 := Try.call52
instance : EnT Try.prog 52 := ⟨en52⟩
theorem en57 : Enters Try.prog 57 := Try.call57
instance : EnT Try.prog 57 := ⟨en57⟩
theorem en59 : Enters Try.prog 59 := Try.call59
instance : EnT Try.prog 59 := ⟨en59⟩
theorem en61 : Enters Try.prog 61 := Try.call61
instance : EnT Try.prog 61 := ⟨en61⟩
theorem en64 : Enters Try.prog 64 := Try.call64
instance : EnT Try.prog 64 := ⟨en64⟩
theorem en75 : Enters Try.prog 75 := Try.call75
instance : EnT Try.prog 75 := ⟨en75⟩
theorem en84 : Enters Try.prog 84 := Try.call84
instance : EnT Try.prog 84 := ⟨en84⟩
theorem en85 : Enters Try.prog 85 := Try.call85
instance : EnT Try.prog 85 := ⟨en85⟩
theorem en86 : Enters Try.prog 86 := Try.call86
instance : EnT Try.prog 86 := ⟨en86⟩
theorem en87 : Enters Try.prog 87 := Try.call87
instance : EnT Try.prog 87 := ⟨en87⟩
theorem en88 : Enters Try.prog 88 := Try.call88
instance : EnT Try.prog 88 := ⟨en88⟩
theorem en90 : Enters Try.prog 90 := Try.call90
instance : EnT Try.prog 90 := ⟨en90⟩
theorem en91 : Enters Try.prog 91 := Try.call91
instance : EnT Try.prog 91 := ⟨en91⟩
theorem en122 : Enters Try.prog 122 := Try.call122
instance : EnT Try.prog 122 := ⟨en122⟩
theorem en123 : Enters Try.prog 123 := Try.call123
instance : EnT Try.prog 123 := ⟨en123⟩
theorem en124 : Enters Try.prog 124 := Try.call124
instance : EnT Try.prog 124 := ⟨en124⟩
theorem en125 : Enters Try.prog 125 := Try.call125
instance : EnT Try.prog 125 := ⟨en125⟩
theorem en126 : Enters Try.prog 126 := Try.call126
instance : EnT Try.prog 126 := ⟨en126⟩
theorem en132 : Enters Try.prog 132 := Try.call132
instance : EnT Try.prog 132 := ⟨en132⟩
theorem en157 : Enters Try.prog 157 := Try.call157
instance : EnT Try.prog 157 := ⟨en157⟩
theorem en158 : Enters Try.prog 158 := Try.call158
instance : EnT Try.prog 158 := ⟨en158⟩
theorem en159 : Enters Try.prog 159 := Try.call159
instance : EnT Try.prog 159 := ⟨en159⟩
theorem en168 : Enters Try.prog 168 := Try.call168
instance : EnT Try.prog 168 := ⟨en168⟩
theorem en169 : Enters Try.prog 169 := Try.call169
instance : EnT Try.prog 169 := ⟨en169⟩
theorem en170 : Enters Try.prog 170 := Try.call170
instance : EnT Try.prog 170 := ⟨en170⟩
theorem en171 : Enters Try.prog 171 := Try.call171
instance : EnT Try.prog 171 := ⟨en171⟩
theorem en172 : Enters Try.prog 172 := Try.call172
instance : EnT Try.prog 172 := ⟨en172⟩
theorem en173 : Enters Try.prog 173 := Try.call173
instance : EnT Try.prog 173 := ⟨en173⟩
theorem en174 : Enters Try.prog 174 := Try.call174
instance : EnT Try.prog 174 := ⟨en174⟩
theorem en175 : Enters Try.prog 175 := Try.call175
instance : EnT Try.prog 175 := ⟨en175⟩
theorem en196 : Enters Try.prog 196 := Try.call196
instance : EnT Try.prog 196 := ⟨en196⟩
theorem en197 : Enters Try.prog 197 := Try.call197
instance : EnT Try.prog 197 := ⟨en197⟩
theorem en198 : Enters Try.prog 198 := Try.call198
instance : EnT Try.prog 198 := ⟨en198⟩
theorem en199 : Enters Try.prog 199 := Try.call199
instance : EnT Try.prog 199 := ⟨en199⟩
theorem en200 : Enters Try.prog 200 := Try.call200
instance : EnT Try.prog 200 := ⟨en200⟩
theorem en201 : Enters Try.prog 201 := Try.call201
instance : EnT Try.prog 201 := ⟨en201⟩
theorem en202 : Enters Try.prog 202 := Try.call202
instance : EnT Try.prog 202 := ⟨en202⟩
theorem en203 : Enters Try.prog 203 := Try.call203
instance : EnT Try.prog 203 := ⟨en203⟩
theorem en204 : Enters Try.prog 204 := Try.call204
instance : EnT Try.prog 204 := ⟨en204⟩
theorem en205 : Enters Try.prog 205 := Try.call205
instance : EnT Try.prog 205 := ⟨en205⟩
theorem en206 : Enters Try.prog 206 := Try.call206
instance : EnT Try.prog 206 := ⟨en206⟩
theorem en207 : Enters Try.prog 207 := Try.call207
instance : EnT Try.prog 207 := ⟨en207⟩
theorem en208 : Enters Try.prog 208 := Try.call208
instance : EnT Try.prog 208 := ⟨en208⟩
theorem en209 : Enters Try.prog 209 := Try.call209
instance : EnT Try.prog 209 := ⟨en209⟩
theorem en210 : Enters Try.prog 210 := Try.call210
instance : EnT Try.prog 210 := ⟨en210⟩
theorem en211 : Enters Try.prog 211 := Try.call211
instance : EnT Try.prog 211 := ⟨en211⟩
theorem en212 : Enters Try.prog 212 := Try.call212
instance : EnT Try.prog 212 := ⟨en212⟩
theorem en213 : Enters Try.prog 213 := Try.call213
instance : EnT Try.prog 213 := ⟨en213⟩
theorem en214 : Enters Try.prog 214 := Try.call214
instance : EnT Try.prog 214 := ⟨en214⟩
theorem en215 : Enters Try.prog 215 := Try.call215
instance : EnT Try.prog 215 := ⟨en215⟩
theorem en216 : Enters Try.prog 216 := Try.call216
instance : EnT Try.prog 216 := ⟨en216⟩
theorem en217 : Enters Try.prog 217 := Try.call217
instance : EnT Try.prog 217 := ⟨en217⟩
theorem en218 : Enters Try.prog 218 := Try.call218
instance : EnT Try.prog 218 := ⟨en218⟩
theorem en219 : Enters Try.prog 219 := Try.call219
instance : EnT Try.prog 219 := ⟨en219⟩
theorem en220 : Enters Try.prog 220 := Try.call220
instance : EnT Try.prog 220 := ⟨en220⟩
theorem en231 : Enters Try.prog 231 := Try.call231
instance : EnT Try.prog 231 := ⟨en231⟩
theorem en232 : Enters Try.prog 232 := Try.call232
instance : EnT Try.prog 232 := ⟨en232⟩
theorem en233 : Enters Try.prog 233 := Try.call233
instance : EnT Try.prog 233 := ⟨en233⟩
theorem en234 : Enters Try.prog 234 := Try.call234
instance : EnT Try.prog 234 := ⟨en234⟩
theorem en235 : Enters Try.prog 235 := Try.call235
instance : EnT Try.prog 235 := ⟨en235⟩
theorem en238 : Enters Try.prog 238 := Try.call238
instance : EnT Try.prog 238 := ⟨en238⟩
theorem en239 : Enters Try.prog 239 := Try.call239
instance : EnT Try.prog 239 := ⟨en239⟩
theorem en240 : Enters Try.prog 240 := Try.call240
instance : EnT Try.prog 240 := ⟨en240⟩
theorem en241 : Enters Try.prog 241 := Try.call241
instance : EnT Try.prog 241 := ⟨en241⟩
theorem en242 : Enters Try.prog 242 := Try.call242
instance : EnT Try.prog 242 := ⟨en242⟩
end Go.Proofs.Ytkadceiolddmhaa
