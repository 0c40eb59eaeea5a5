/-
  Facts on the types and functions of this translation, laid by a program.
-/
import Derived.Test.YthnobaacfjihcaaPvWalk
import Derived.Test.YthnobaacfjihcaaChecked
namespace Go.Proofs.Ythnobaacfjihcaa
open Go Go.Pv

theorem ty1 : tinfo Try.prog 1 = some ⟨1, false, (some [.nilfn]), .fn, none⟩ := by kernel_rfl
theorem zo1 : zeroOf Try.prog 1 = (some [.nilfn]) := by kernel_rfl
instance : TyT Try.prog 1 ⟨1, false, (some [.nilfn]), .fn, none⟩ := ⟨ty1⟩
instance : ZoT Try.prog 1 (some [.nilfn]) := ⟨zo1⟩
theorem ty2 : tinfo Try.prog 2 = some ⟨1, false, (some [.int .i64 0]), .int .i64, none⟩ := by kernel_rfl
theorem zo2 : zeroOf Try.prog 2 = (some [.int .i64 0]) := by kernel_rfl
instance : TyT Try.prog 2 ⟨1, false, (some [.int .i64 0]), .int .i64, none⟩ := ⟨ty2⟩
instance : ZoT Try.prog 2 (some [.int .i64 0]) := ⟨zo2⟩
theorem ty3 : tinfo Try.prog 3 = some ⟨1, false, (some [.int .i64 0]), .int .i64, none⟩ := by kernel_rfl
theorem zo3 : zeroOf Try.prog 3 = (some [.int .i64 0]) := by kernel_rfl
instance : TyT Try.prog 3 ⟨1, false, (some [.int .i64 0]), .int .i64, none⟩ := ⟨ty3⟩
instance : ZoT Try.prog 3 (some [.int .i64 0]) := ⟨zo3⟩
theorem ty4 : tinfo Try.prog 4 = some ⟨1, false, (some [.bool false]), .bool, none⟩ := by kernel_rfl
theorem zo4 : zeroOf Try.prog 4 = (some [.bool false]) := by kernel_rfl
instance : TyT Try.prog 4 ⟨1, false, (some [.bool false]), .bool, none⟩ := ⟨ty4⟩
instance : ZoT Try.prog 4 (some [.bool false]) := ⟨zo4⟩
theorem ty5 : tinfo Try.prog 5 = some ⟨1, false, (some [.int .u8 0]), .int .u8, none⟩ := by kernel_rfl
theorem zo5 : zeroOf Try.prog 5 = (some [.int .u8 0]) := by kernel_rfl
instance : TyT Try.prog 5 ⟨1, false, (some [.int .u8 0]), .int .u8, none⟩ := ⟨ty5⟩
instance : ZoT Try.prog 5 (some [.int .u8 0]) := ⟨zo5⟩
theorem ty9 : tinfo Try.prog 9 = some ⟨1, false, (some [.str ⟨#[]⟩]), .string, none⟩ := by kernel_rfl
theorem zo9 : zeroOf Try.prog 9 = (some [.str ⟨#[]⟩]) := by kernel_rfl
instance : TyT Try.prog 9 ⟨1, false, (some [.str ⟨#[]⟩]), .string, none⟩ := ⟨ty9⟩
instance : ZoT Try.prog 9 (some [.str ⟨#[]⟩]) := ⟨zo9⟩
theorem ty12 : tinfo Try.prog 12 = some ⟨1, false, (some [.int .u64 0]), .int .u64, none⟩ := by kernel_rfl
theorem zo12 : zeroOf Try.prog 12 = (some [.int .u64 0]) := by kernel_rfl
instance : TyT Try.prog 12 ⟨1, false, (some [.int .u64 0]), .int .u64, none⟩ := ⟨ty12⟩
instance : ZoT Try.prog 12 (some [.int .u64 0]) := ⟨zo12⟩
theorem ty21 : tinfo Try.prog 21 = some ⟨1, false, (some [.int .i32 0]), .int .i32, none⟩ := by kernel_rfl
theorem zo21 : zeroOf Try.prog 21 = (some [.int .i32 0]) := by kernel_rfl
instance : TyT Try.prog 21 ⟨1, false, (some [.int .i32 0]), .int .i32, none⟩ := ⟨ty21⟩
instance : ZoT Try.prog 21 (some [.int .i32 0]) := ⟨zo21⟩
theorem ty22 : tinfo Try.prog 22 = some ⟨1, false, (some [.nilsl]), .slice 29 2 16 true (some [.int .i64 0, .int .i64 0]), none⟩ := by kernel_rfl
theorem zo22 : zeroOf Try.prog 22 = (some [.nilsl]) := by kernel_rfl
instance : TyT Try.prog 22 ⟨1, false, (some [.nilsl]), .slice 29 2 16 true (some [.int .i64 0, .int .i64 0]), none⟩ := ⟨ty22⟩
instance : ZoT Try.prog 22 (some [.nilsl]) := ⟨zo22⟩
theorem ty23 : tinfo Try.prog 23 = some ⟨2, true, (some [.int .i64 0, .nilsl]), .struct [(0, 3, 1, false), (1, 22, 1, false)], (some [(0, .int .i64), (1, .other)])⟩ := by kernel_rfl
theorem zo23 : zeroOf Try.prog 23 = (some [.int .i64 0, .nilsl]) := by kernel_rfl
instance : TyT Try.prog 23 ⟨2, true, (some [.int .i64 0, .nilsl]), .struct [(0, 3, 1, false), (1, 22, 1, false)], (some [(0, .int .i64), (1, .other)])⟩ := ⟨ty23⟩
instance : ZoT Try.prog 23 (some [.int .i64 0, .nilsl]) := ⟨zo23⟩
theorem ty24 : tinfo Try.prog 24 = some ⟨2, true, (some [.int .i64 0, .nilsl]), .struct [(0, 3, 1, false), (1, 22, 1, false)], (some [(0, .int .i64), (1, .other)])⟩ := by kernel_rfl
theorem zo24 : zeroOf Try.prog 24 = (some [.int .i64 0, .nilsl]) := by kernel_rfl
instance : TyT Try.prog 24 ⟨2, true, (some [.int .i64 0, .nilsl]), .struct [(0, 3, 1, false), (1, 22, 1, false)], (some [(0, .int .i64), (1, .other)])⟩ := ⟨ty24⟩
instance : ZoT Try.prog 24 (some [.int .i64 0, .nilsl]) := ⟨zo24⟩
theorem ty25 : tinfo Try.prog 25 = some ⟨1, false, (some [.nilfn]), .fn, none⟩ := by kernel_rfl
theorem zo25 : zeroOf Try.prog 25 = (some [.nilfn]) := by kernel_rfl
instance : TyT Try.prog 25 ⟨1, false, (some [.nilfn]), .fn, none⟩ := ⟨ty25⟩
instance : ZoT Try.prog 25 (some [.nilfn]) := ⟨zo25⟩
theorem ty26 : tinfo Try.prog 26 = some ⟨2, true, (some [.int .i64 0, .int .i64 0]), .struct [(0, 3, 1, false), (1, 3, 1, false)], (some [(0, .int .i64), (1, .int .i64)])⟩ := by kernel_rfl
theorem zo26 : zeroOf Try.prog 26 = (some [.int .i64 0, .int .i64 0]) := by kernel_rfl
instance : TyT Try.prog 26 ⟨2, true, (some [.int .i64 0, .int .i64 0]), .struct [(0, 3, 1, false), (1, 3, 1, false)], (some [(0, .int .i64), (1, .int .i64)])⟩ := ⟨ty26⟩
instance : ZoT Try.prog 26 (some [.int .i64 0, .int .i64 0]) := ⟨zo26⟩
theorem ty27 : tinfo Try.prog 27 = some ⟨2, true, (some [.int .i64 0, .int .i64 0]), .struct [(0, 3, 1, false), (1, 3, 1, false)], (some [(0, .int .i64), (1, .int .i64)])⟩ := by kernel_rfl
theorem zo27 : zeroOf Try.prog 27 = (some [.int .i64 0, .int .i64 0]) := by kernel_rfl
instance : TyT Try.prog 27 ⟨2, true, (some [.int .i64 0, .int .i64 0]), .struct [(0, 3, 1, false), (1, 3, 1, false)], (some [(0, .int .i64), (1, .int .i64)])⟩ := ⟨ty27⟩
instance : ZoT Try.prog 27 (some [.int .i64 0, .int .i64 0]) := ⟨zo27⟩
theorem ty28 : tinfo Try.prog 28 = some ⟨1, false, (some [.nilfn]), .fn, none⟩ := by kernel_rfl
theorem zo28 : zeroOf Try.prog 28 = (some [.nilfn]) := by kernel_rfl
instance : TyT Try.prog 28 ⟨1, false, (some [.nilfn]), .fn, none⟩ := ⟨ty28⟩
instance : ZoT Try.prog 28 (some [.nilfn]) := ⟨zo28⟩
theorem ty29 : tinfo Try.prog 29 = some ⟨2, true, (some [.int .i64 0, .int .i64 0]), .array 2 3 1 false, (some [(0, .int .i64), (1, .int .i64)])⟩ := by kernel_rfl
theorem zo29 : zeroOf Try.prog 29 = (some [.int .i64 0, .int .i64 0]) := by kernel_rfl
instance : TyT Try.prog 29 ⟨2, true, (some [.int .i64 0, .int .i64 0]), .array 2 3 1 false, (some [(0, .int .i64), (1, .int .i64)])⟩ := ⟨ty29⟩
instance : ZoT Try.prog 29 (some [.int .i64 0, .int .i64 0]) := ⟨zo29⟩
theorem ty30 : tinfo Try.prog 30 = some ⟨4, true, (some [.bool false, .bool false, .bool false, .bool false]), .array 4 4 1 false, (some [(0, .bool), (1, .bool), (2, .bool), (3, .bool)])⟩ := by kernel_rfl
theorem zo30 : zeroOf Try.prog 30 = (some [.bool false, .bool false, .bool false, .bool false]) := by kernel_rfl
instance : TyT Try.prog 30 ⟨4, true, (some [.bool false, .bool false, .bool false, .bool false]), .array 4 4 1 false, (some [(0, .bool), (1, .bool), (2, .bool), (3, .bool)])⟩ := ⟨ty30⟩
instance : ZoT Try.prog 30 (some [.bool false, .bool false, .bool false, .bool false]) := ⟨zo30⟩
theorem ty32 : tinfo Try.prog 32 = some ⟨1, false, (some [.nilfn]), .fn, none⟩ := by kernel_rfl
theorem zo32 : zeroOf Try.prog 32 = (some [.nilfn]) := by kernel_rfl
instance : TyT Try.prog 32 ⟨1, false, (some [.nilfn]), .fn, none⟩ := ⟨ty32⟩
instance : ZoT Try.prog 32 (some [.nilfn]) := ⟨zo32⟩
theorem ty33 : tinfo Try.prog 33 = some ⟨1, false, (some [.nilsl]), .slice 37 1 24 false (some [.nilsl]), none⟩ := by kernel_rfl
theorem zo33 : zeroOf Try.prog 33 = (some [.nilsl]) := by kernel_rfl
instance : TyT Try.prog 33 ⟨1, false, (some [.nilsl]), .slice 37 1 24 false (some [.nilsl]), none⟩ := ⟨ty33⟩
instance : ZoT Try.prog 33 (some [.nilsl]) := ⟨zo33⟩
theorem ty35 : tinfo Try.prog 35 = some ⟨1, false, (some [.nilfn]), .fn, none⟩ := by kernel_rfl
theorem zo35 : zeroOf Try.prog 35 = (some [.nilfn]) := by kernel_rfl
instance : TyT Try.prog 35 ⟨1, false, (some [.nilfn]), .fn, none⟩ := ⟨ty35⟩
instance : ZoT Try.prog 35 (some [.nilfn]) := ⟨zo35⟩
theorem ty36 : tinfo Try.prog 36 = some ⟨1, false, (some [.nilfn]), .fn, none⟩ := by kernel_rfl
theorem zo36 : zeroOf Try.prog 36 = (some [.nilfn]) := by kernel_rfl
instance : TyT Try.prog 36 ⟨1, false, (some [.nilfn]), .fn, none⟩ := ⟨ty36⟩
instance : ZoT Try.prog 36 (some [.nilfn]) := ⟨zo36⟩
theorem ty37 : tinfo Try.prog 37 = some ⟨1, false, (some [.nilsl]), .slice 3 1 8 false (some [.int .i64 0]), none⟩ := by kernel_rfl
theorem zo37 : zeroOf Try.prog 37 = (some [.nilsl]) := by kernel_rfl
instance : TyT Try.prog 37 ⟨1, false, (some [.nilsl]), .slice 3 1 8 false (some [.int .i64 0]), none⟩ := ⟨ty37⟩
instance : ZoT Try.prog 37 (some [.nilsl]) := ⟨zo37⟩
theorem ty38 : tinfo Try.prog 38 = some ⟨1, false, (some [.nilfn]), .fn, none⟩ := by kernel_rfl
theorem zo38 : zeroOf Try.prog 38 = (some [.nilfn]) := by kernel_rfl
instance : TyT Try.prog 38 ⟨1, false, (some [.nilfn]), .fn, none⟩ := ⟨ty38⟩
instance : ZoT Try.prog 38 (some [.nilfn]) := ⟨zo38⟩
theorem ty39 : tinfo Try.prog 39 = some ⟨1, false, (some [.nilsl]), .slice 41 1 24 false (some [.nilsl]), none⟩ := by kernel_rfl
theorem zo39 : zeroOf Try.prog 39 = (some [.nilsl]) := by kernel_rfl
instance : TyT Try.prog 39 ⟨1, false, (some [.nilsl]), .slice 41 1 24 false (some [.nilsl]), none⟩ := ⟨ty39⟩
instance : ZoT Try.prog 39 (some [.nilsl]) := ⟨zo39⟩
theorem ty40 : tinfo Try.prog 40 = some ⟨1, false, (some [.nilfn]), .fn, none⟩ := by kernel_rfl
theorem zo40 : zeroOf Try.prog 40 = (some [.nilfn]) := by kernel_rfl
instance : TyT Try.prog 40 ⟨1, false, (some [.nilfn]), .fn, none⟩ := ⟨ty40⟩
instance : ZoT Try.prog 40 (some [.nilfn]) := ⟨zo40⟩
theorem ty41 : tinfo Try.prog 41 = some ⟨1, false, (some [.nilsl]), .slice 4 1 1 false (some [.bool false]), none⟩ := by kernel_rfl
theorem zo41 : zeroOf Try.prog 41 = (some [.nilsl]) := by kernel_rfl
instance : TyT Try.prog 41 ⟨1, false, (some [.nilsl]), .slice 4 1 1 false (some [.bool false]), none⟩ := ⟨ty41⟩
instance : ZoT Try.prog 41 (some [.nilsl]) := ⟨zo41⟩
theorem ty42 : tinfo Try.prog 42 = some ⟨1, false, (some [.nilfn]), .fn, none⟩ := by kernel_rfl
theorem zo42 : zeroOf Try.prog 42 = (some [.nilfn]) := by kernel_rfl
instance : TyT Try.prog 42 ⟨1, false, (some [.nilfn]), .fn, none⟩ := ⟨ty42⟩
instance : ZoT Try.prog 42 (some [.nilfn]) := ⟨zo42⟩
theorem ty43 : tinfo Try.prog 43 = some ⟨1, false, (some [.nilfn]), .fn, none⟩ := by kernel_rfl
theorem zo43 : zeroOf Try.prog 43 = (some [.nilfn]) := by kernel_rfl
instance : TyT Try.prog 43 ⟨1, false, (some [.nilfn]), .fn, none⟩ := ⟨ty43⟩
instance : ZoT Try.prog 43 (some [.nilfn]) := ⟨zo43⟩
theorem ty45 : tinfo Try.prog 45 = some ⟨1, false, (some [.nilfn]), .fn, none⟩ := by kernel_rfl
theorem zo45 : zeroOf Try.prog 45 = (some [.nilfn]) := by kernel_rfl
instance : TyT Try.prog 45 ⟨1, false, (some [.nilfn]), .fn, none⟩ := ⟨ty45⟩
instance : ZoT Try.prog 45 (some [.nilfn]) := ⟨zo45⟩
theorem ty47 : tinfo Try.prog 47 = some ⟨1, false, (some [.nilfn]), .fn, none⟩ := by kernel_rfl
theorem zo47 : zeroOf Try.prog 47 = (some [.nilfn]) := by kernel_rfl
instance : TyT Try.prog 47 ⟨1, false, (some [.nilfn]), .fn, none⟩ := ⟨ty47⟩
instance : ZoT Try.prog 47 (some [.nilfn]) := ⟨zo47⟩
theorem ty48 : tinfo Try.prog 48 = some ⟨1, false, (some [.nilfn]), .fn, none⟩ := by kernel_rfl
theorem zo48 : zeroOf Try.prog 48 = (some [.nilfn]) := by kernel_rfl
instance : TyT Try.prog 48 ⟨1, false, (some [.nilfn]), .fn, none⟩ := ⟨ty48⟩
instance : ZoT Try.prog 48 (some [.nilfn]) := ⟨zo48⟩
theorem ty50 : tinfo Try.prog 50 = some ⟨1, false, (some [.nilfn]), .fn, none⟩ := by kernel_rfl
theorem zo50 : zeroOf Try.prog 50 = (some [.nilfn]) := by kernel_rfl
instance : TyT Try.prog 50 ⟨1, false, (some [.nilfn]), .fn, none⟩ := ⟨ty50⟩
instance : ZoT Try.prog 50 (some [.nilfn]) := ⟨zo50⟩
theorem ty51 : tinfo Try.prog 51 = some ⟨1, false, (some [.nilfn]), .fn, none⟩ := by kernel_rfl
theorem zo51 : zeroOf Try.prog 51 = (some [.nilfn]) := by kernel_rfl
instance : TyT Try.prog 51 ⟨1, false, (some [.nilfn]), .fn, none⟩ := ⟨ty51⟩
instance : ZoT Try.prog 51 (some [.nilfn]) := ⟨zo51⟩
theorem ty52 : tinfo Try.prog 52 = some ⟨1, false, (some [.nilfn]), .fn, none⟩ := by kernel_rfl
theorem zo52 : zeroOf Try.prog 52 = (some [.nilfn]) := by kernel_rfl
instance : TyT Try.prog 52 ⟨1, false, (some [.nilfn]), .fn, none⟩ := ⟨ty52⟩
instance : ZoT Try.prog 52 (some [.nilfn]) := ⟨zo52⟩
theorem ty53 : tinfo Try.prog 53 = some ⟨1, false, (some [.nilfn]), .fn, none⟩ := by kernel_rfl
theorem zo53 : zeroOf Try.prog 53 = (some [.nilfn]) := by kernel_rfl
instance : TyT Try.prog 53 ⟨1, false, (some [.nilfn]), .fn, none⟩ := ⟨ty53⟩
instance : ZoT Try.prog 53 (some [.nilfn]) := ⟨zo53⟩
theorem ty54 : tinfo Try.prog 54 = some ⟨1, false, (some [.nilfn]), .fn, none⟩ := by kernel_rfl
theorem zo54 : zeroOf Try.prog 54 = (some [.nilfn]) := by kernel_rfl
instance : TyT Try.prog 54 ⟨1, false, (some [.nilfn]), .fn, none⟩ := ⟨ty54⟩
instance : ZoT Try.prog 54 (some [.nilfn]) := ⟨zo54⟩
theorem ty55 : tinfo Try.prog 55 = some ⟨1, false, (some [.nilfn]), .fn, none⟩ := by kernel_rfl
theorem zo55 : zeroOf Try.prog 55 = (some [.nilfn]) := by kernel_rfl
instance : TyT Try.prog 55 ⟨1, false, (some [.nilfn]), .fn, none⟩ := ⟨ty55⟩
instance : ZoT Try.prog 55 (some [.nilfn]) := ⟨zo55⟩
theorem ty56 : tinfo Try.prog 56 = some ⟨1, false, (some [.nilfn]), .fn, none⟩ := by kernel_rfl
theorem zo56 : zeroOf Try.prog 56 = (some [.nilfn]) := by kernel_rfl
instance : TyT Try.prog 56 ⟨1, false, (some [.nilfn]), .fn, none⟩ := ⟨ty56⟩
instance : ZoT Try.prog 56 (some [.nilfn]) := ⟨zo56⟩
theorem ty57 : tinfo Try.prog 57 = some ⟨1, false, (some [.nilptr]), .pointer, none⟩ := by kernel_rfl
theorem zo57 : zeroOf Try.prog 57 = (some [.nilptr]) := by kernel_rfl
instance : TyT Try.prog 57 ⟨1, false, (some [.nilptr]), .pointer, none⟩ := ⟨ty57⟩
instance : ZoT Try.prog 57 (some [.nilptr]) := ⟨zo57⟩
theorem ty59 : tinfo Try.prog 59 = some ⟨1, false, (some [.nilsl]), .slice 41 1 24 false (some [.nilsl]), none⟩ := by kernel_rfl
theorem zo59 : zeroOf Try.prog 59 = (some [.nilsl]) := by kernel_rfl
instance : TyT Try.prog 59 ⟨1, false, (some [.nilsl]), .slice 41 1 24 false (some [.nilsl]), none⟩ := ⟨ty59⟩
instance : ZoT Try.prog 59 (some [.nilsl]) := ⟨zo59⟩
theorem ty60 : tinfo Try.prog 60 = some ⟨1, false, (some [.nilfn]), .fn, none⟩ := by kernel_rfl
theorem zo60 : zeroOf Try.prog 60 = (some [.nilfn]) := by kernel_rfl
instance : TyT Try.prog 60 ⟨1, false, (some [.nilfn]), .fn, none⟩ := ⟨ty60⟩
instance : ZoT Try.prog 60 (some [.nilfn]) := ⟨zo60⟩
theorem ty61 : tinfo Try.prog 61 = some ⟨1, false, (some [.nilfn]), .fn, none⟩ := by kernel_rfl
theorem zo61 : zeroOf Try.prog 61 = (some [.nilfn]) := by kernel_rfl
instance : TyT Try.prog 61 ⟨1, false, (some [.nilfn]), .fn, none⟩ := ⟨ty61⟩
instance : ZoT Try.prog 61 (some [.nilfn]) := ⟨zo61⟩
theorem ty62 : tinfo Try.prog 62 = some ⟨1, false, (some [.nilfn]), .fn, none⟩ := by kernel_rfl
theorem zo62 : zeroOf Try.prog 62 = (some [.nilfn]) := by kernel_rfl
instance : TyT Try.prog 62 ⟨1, false, (some [.nilfn]), .fn, none⟩ := ⟨ty62⟩
instance : ZoT Try.prog 62 (some [.nilfn]) := ⟨zo62⟩
theorem ty63 : tinfo Try.prog 63 = some ⟨3, true, (some [.nilsl, .nilsl, .nilsl]), .struct [(0, 59, 1, false), (1, 33, 1, false), (2, 33, 1, false)], (some [(0, .other), (1, .other), (2, .other)])⟩ := by kernel_rfl
theorem zo63 : zeroOf Try.prog 63 = (some [.nilsl, .nilsl, .nilsl]) := by kernel_rfl
instance : TyT Try.prog 63 ⟨3, true, (some [.nilsl, .nilsl, .nilsl]), .struct [(0, 59, 1, false), (1, 33, 1, false), (2, 33, 1, false)], (some [(0, .other), (1, .other), (2, .other)])⟩ := ⟨ty63⟩
instance : ZoT Try.prog 63 (some [.nilsl, .nilsl, .nilsl]) := ⟨zo63⟩
theorem ty64 : tinfo Try.prog 64 = some ⟨3, true, (some [.nilsl, .nilsl, .nilsl]), .struct [(0, 59, 1, false), (1, 33, 1, false), (2, 33, 1, false)], (some [(0, .other), (1, .other), (2, .other)])⟩ := by kernel_rfl
theorem zo64 : zeroOf Try.prog 64 = (some [.nilsl, .nilsl, .nilsl]) := by kernel_rfl
instance : TyT Try.prog 64 ⟨3, true, (some [.nilsl, .nilsl, .nilsl]), .struct [(0, 59, 1, false), (1, 33, 1, false), (2, 33, 1, false)], (some [(0, .other), (1, .other), (2, .other)])⟩ := ⟨ty64⟩
instance : ZoT Try.prog 64 (some [.nilsl, .nilsl, .nilsl]) := ⟨zo64⟩
theorem ty65 : tinfo Try.prog 65 = some ⟨1, false, (some [.nilfn]), .fn, none⟩ := by kernel_rfl
theorem zo65 : zeroOf Try.prog 65 = (some [.nilfn]) := by kernel_rfl
instance : TyT Try.prog 65 ⟨1, false, (some [.nilfn]), .fn, none⟩ := ⟨ty65⟩
instance : ZoT Try.prog 65 (some [.nilfn]) := ⟨zo65⟩
theorem ty66 : tinfo Try.prog 66 = some ⟨1, false, (some [.nilfn]), .fn, none⟩ := by kernel_rfl
theorem zo66 : zeroOf Try.prog 66 = (some [.nilfn]) := by kernel_rfl
instance : TyT Try.prog 66 ⟨1, false, (some [.nilfn]), .fn, none⟩ := ⟨ty66⟩
instance : ZoT Try.prog 66 (some [.nilfn]) := ⟨zo66⟩
theorem ty67 : tinfo Try.prog 67 = some ⟨1, false, (some [.nilfn]), .fn, none⟩ := by kernel_rfl
theorem zo67 : zeroOf Try.prog 67 = (some [.nilfn]) := by kernel_rfl
instance : TyT Try.prog 67 ⟨1, false, (some [.nilfn]), .fn, none⟩ := ⟨ty67⟩
instance : ZoT Try.prog 67 (some [.nilfn]) := ⟨zo67⟩
theorem ty69 : tinfo Try.prog 69 = some ⟨1, false, (some [.nilfn]), .fn, none⟩ := by kernel_rfl
theorem zo69 : zeroOf Try.prog 69 = (some [.nilfn]) := by kernel_rfl
instance : TyT Try.prog 69 ⟨1, false, (some [.nilfn]), .fn, none⟩ := ⟨ty69⟩
instance : ZoT Try.prog 69 (some [.nilfn]) := ⟨zo69⟩
theorem ty70 : tinfo Try.prog 70 = some ⟨1, false, (some [.nilfn]), .fn, none⟩ := by kernel_rfl
theorem zo70 : zeroOf Try.prog 70 = (some [.nilfn]) := by kernel_rfl
instance : TyT Try.prog 70 ⟨1, false, (some [.nilfn]), .fn, none⟩ := ⟨ty70⟩
instance : ZoT Try.prog 70 (some [.nilfn]) := ⟨zo70⟩
theorem ty71 : tinfo Try.prog 71 = some ⟨1, false, (some [.nilfn]), .fn, none⟩ := by kernel_rfl
theorem zo71 : zeroOf Try.prog 71 = (some [.nilfn]) := by kernel_rfl
instance : TyT Try.prog 71 ⟨1, false, (some [.nilfn]), .fn, none⟩ := ⟨ty71⟩
instance : ZoT Try.prog 71 (some [.nilfn]) := ⟨zo71⟩
theorem ty72 : tinfo Try.prog 72 = some ⟨1, false, (some [.nilfn]), .fn, none⟩ := by kernel_rfl
theorem zo72 : zeroOf Try.prog 72 = (some [.nilfn]) := by kernel_rfl
instance : TyT Try.prog 72 ⟨1, false, (some [.nilfn]), .fn, none⟩ := ⟨ty72⟩
instance : ZoT Try.prog 72 (some [.nilfn]) := ⟨zo72⟩
theorem ty73 : tinfo Try.prog 73 = some ⟨1, false, (some [.nilfn]), .fn, none⟩ := by kernel_rfl
theorem zo73 : zeroOf Try.prog 73 = (some [.nilfn]) := by kernel_rfl
instance : TyT Try.prog 73 ⟨1, false, (some [.nilfn]), .fn, none⟩ := ⟨ty73⟩
instance : ZoT Try.prog 73 (some [.nilfn]) := ⟨zo73⟩
theorem ty74 : tinfo Try.prog 74 = some ⟨1, false, (some [.nilfn]), .fn, none⟩ := by kernel_rfl
theorem zo74 : zeroOf Try.prog 74 = (some [.nilfn]) := by kernel_rfl
instance : TyT Try.prog 74 ⟨1, false, (some [.nilfn]), .fn, none⟩ := ⟨ty74⟩
instance : ZoT Try.prog 74 (some [.nilfn]) := ⟨zo74⟩
theorem ty75 : tinfo Try.prog 75 = some ⟨1, false, (some [.nilfn]), .fn, none⟩ := by kernel_rfl
theorem zo75 : zeroOf Try.prog 75 = (some [.nilfn]) := by kernel_rfl
instance : TyT Try.prog 75 ⟨1, false, (some [.nilfn]), .fn, none⟩ := ⟨ty75⟩
instance : ZoT Try.prog 75 (some [.nilfn]) := ⟨zo75⟩
theorem ty76 : tinfo Try.prog 76 = some ⟨1, false, (some [.nilfn]), .fn, none⟩ := by kernel_rfl
theorem zo76 : zeroOf Try.prog 76 = (some [.nilfn]) := by kernel_rfl
instance : TyT Try.prog 76 ⟨1, false, (some [.nilfn]), .fn, none⟩ := ⟨ty76⟩
instance : ZoT Try.prog 76 (some [.nilfn]) := ⟨zo76⟩
theorem ty82 : tinfo Try.prog 82 = some ⟨1, false, (some [.int .u32 0]), .int .u32, none⟩ := by kernel_rfl
theorem zo82 : zeroOf Try.prog 82 = (some [.int .u32 0]) := by kernel_rfl
instance : TyT Try.prog 82 ⟨1, false, (some [.int .u32 0]), .int .u32, none⟩ := ⟨ty82⟩
instance : ZoT Try.prog 82 (some [.int .u32 0]) := ⟨zo82⟩
theorem ty85 : tinfo Try.prog 85 = some ⟨1, false, (some [.nilfn]), .fn, none⟩ := by kernel_rfl
theorem zo85 : zeroOf Try.prog 85 = (some [.nilfn]) := by kernel_rfl
instance : TyT Try.prog 85 ⟨1, false, (some [.nilfn]), .fn, none⟩ := ⟨ty85⟩
instance : ZoT Try.prog 85 (some [.nilfn]) := ⟨zo85⟩
theorem ty86 : tinfo Try.prog 86 = some ⟨1, false, (some [.nilptr]), .pointer, none⟩ := by kernel_rfl
theorem zo86 : zeroOf Try.prog 86 = (some [.nilptr]) := by kernel_rfl
instance : TyT Try.prog 86 ⟨1, false, (some [.nilptr]), .pointer, none⟩ := ⟨ty86⟩
instance : ZoT Try.prog 86 (some [.nilptr]) := ⟨zo86⟩

theorem mixed : Try.prog.follows .mixedOrders = true := by kernel_rfl
instance : MixT Try.prog := ⟨mixed⟩
theorem en3 : Enters Try.prog 3 := Try.call3
instance : EnT Try.prog 3 := ⟨en3⟩
theorem en4 : Enters Try.prog 4 := Try.call4
instance : EnT Try.prog 4 := ⟨en4⟩
theorem en5 : Enters Try.prog 5 := Try.call5
instance : EnT Try.prog 5 := ⟨en5⟩
theorem en6 : Enters Try.prog 6 := Try.call6
instance : EnT Try.prog 6 := ⟨en6⟩
theorem en7 : Enters Try.prog 7 := Try.call7
instance : EnT Try.prog 7 := ⟨en7⟩
theorem en8 : Enters Try.prog 8 := Try.call8
instance : EnT Try.prog 8 := ⟨en8⟩
theorem en9 : Enters Try.prog 9 := Try.call9
instance : EnT Try.prog 9 := ⟨en9⟩
theorem en10 : Enters Try.prog 10 := Try.call10
instance : EnT Try.prog 10 := ⟨en10⟩
theorem en11 : Enters Try.prog 11 := Try.call11
instance : EnT Try.prog 11 := ⟨en11⟩
theorem en12 : Enters Try.prog 12 := Try.call12
instance : EnT Try.prog 12 := ⟨en12⟩
theorem en13 : Enters Try.prog 13 := Try.call13
instance : EnT Try.prog 13 := ⟨en13⟩
theorem en14 : Enters Try.prog 14 := Try.call14
instance : EnT Try.prog 14 := ⟨en14⟩
theorem en15 : Enters Try.prog 15 := Try.call15
instance : EnT Try.prog 15 := ⟨en15⟩
theorem en16 : Enters Try.prog 16 := Try.call16
instance : EnT Try.prog 16 := ⟨en16⟩
theorem en17 : Enters Try.prog 17 := Try.call17
instance : EnT Try.prog 17 := ⟨en17⟩
theorem en18 : Enters Try.prog 18 := Try.call18
instance : EnT Try.prog 18 := ⟨en18⟩
theorem en19 : Enters Try.prog 19 := Try.call19
instance : EnT Try.prog 19 := ⟨en19⟩
theorem en20 : Enters Try.prog 20 := Try.call20
instance : EnT Try.prog 20 := ⟨en20⟩
theorem en21 : Enters Try.prog 21 := Try.call21
instance : EnT Try.prog 21 := ⟨en21⟩
theorem en22 : Enters Try.prog 22 := Try.call22
instance : EnT Try.prog 22 := ⟨en22⟩
theorem en23 : Enters Try.prog 23 := Try.call23
instance : EnT Try.prog 23 := ⟨en23⟩
theorem en24 : Enters Try.prog 24 := Try.call24
instance : EnT Try.prog 24 := ⟨en24⟩
theorem en25 : Enters Try.prog 25 := Try.call25
instance : EnT Try.prog 25 := ⟨en25⟩
theorem en26 : Enters Try.prog 26 := Try.call26
instance : EnT Try.prog 26 := ⟨en26⟩
theorem en27 : Enters Try.prog 27 := Try.call27
instance : EnT Try.prog 27 := ⟨en27⟩
theorem en28 : Enters Try.prog 28 := Try.call28
instance : EnT Try.prog 28 := ⟨en28⟩
theorem en29 : Enters Try.prog 29 := Try.call29
instance : EnT Try.prog 29 := ⟨en29⟩
theorem en30 : Enters Try.prog 30 := Try.call30
instance : EnT Try.prog 30 := ⟨en30⟩
theorem en31 : Enters Try.prog 31 := Try.call31
instance : EnT Try.prog 31 := ⟨en31⟩
theorem en32 : Enters Try.prog 32 := Try.call32
instance : EnT Try.prog 32 := ⟨en32⟩
theorem en33 : Enters Try.prog 33 := Try.call33
instance : EnT Try.prog 33 := ⟨en33⟩
theorem en34 : Enters Try.prog 34 := Try.call34
instance : EnT Try.prog 34 := ⟨en34⟩
theorem en35 : Enters Try.prog 35 := Try.call35
instance : EnT Try.prog 35 := ⟨en35⟩
theorem en36 : Enters Try.prog 36 := Try.call36
instance : EnT Try.prog 36 := ⟨en36⟩
theorem en37 : Enters Try.prog 37 := Try.call37
instance : EnT Try.prog 37 := ⟨en37⟩
theorem en38 : Enters Try.prog 38 := Try.call38
instance : EnT Try.prog 38 := ⟨en38⟩
theorem en39 : Enters Try.prog 39 := Try.call39
instance : EnT Try.prog 39 := ⟨en39⟩
theorem en40 : Enters Try.prog 40 := Try.call40
instance : EnT Try.prog 40 := ⟨en40⟩
theorem en41 : Enters Try.prog 41 := Try.call41
instance : EnT Try.prog 41 := ⟨en41⟩
theorem en42 : Enters Try.prog 42 := Try.call42
instance : EnT Try.prog 42 := ⟨en42⟩
theorem en43 : Enters Try.prog 43 := Try.call43
instance : EnT Try.prog 43 := ⟨en43⟩
theorem en44 : Enters Try.prog 44 := Try.call44
instance : EnT Try.prog 44 := ⟨en44⟩
theorem en45 : Enters Try.prog 45 := Try.call45
instance : EnT Try.prog 45 := ⟨en45⟩
theorem en46 : Enters Try.prog 46 := Try.call46
instance : EnT Try.prog 46 := ⟨en46⟩
theorem en47 : Enters Try.prog 47 := Try.call47
instance : EnT Try.prog 47 := ⟨en47⟩
theorem en48 : Enters Try.prog 48 := Try.call48
instance : EnT Try.prog 48 := ⟨en48⟩
end Go.Proofs.Ythnobaacfjihcaa
