/-
  Facts on the types and functions of this translation, laid by a program.
-/
import Derived.Test.YtbmpmmbcfabeeaaPvWalk
import Derived.Test.YtbmpmmbcfabeeaaChecked
namespace Go.Proofs.Ytbmpmmbcfabeeaa
open Go Go.Pv

theorem ty1 : tinfo Try.prog 1 = some ⟨1, false, (some [.nilfn]), .fn, none⟩ := by kernel_rfl
theorem zo1 : zeroOf Try.prog 1 = (some [.nilfn]) := by kernel_rfl
instance : TyT Try.prog 1 ⟨1, false, (some [.nilfn]), .fn, none⟩ := ⟨ty1⟩
instance : ZoT Try.prog 1 (some [.nilfn]) := ⟨zo1⟩
theorem ty2 : tinfo Try.prog 2 = some ⟨1, false, (some [.int .i64 0]), .int .i64, none⟩ := by kernel_rfl
theorem zo2 : zeroOf Try.prog 2 = (some [.int .i64 0]) := by kernel_rfl
instance : TyT Try.prog 2 ⟨1, false, (some [.int .i64 0]), .int .i64, none⟩ := ⟨ty2⟩
instance : ZoT Try.prog 2 (some [.int .i64 0]) := ⟨zo2⟩
theorem ty3 : tinfo Try.prog 3 = some ⟨1, false, (some [.int .i64 0]), .int .i64, none⟩ := by kernel_rfl
theorem zo3 : zeroOf Try.prog 3 = (some [.int .i64 0]) := by kernel_rfl
instance : TyT Try.prog 3 ⟨1, false, (some [.int .i64 0]), .int .i64, none⟩ := ⟨ty3⟩
instance : ZoT Try.prog 3 (some [.int .i64 0]) := ⟨zo3⟩
theorem ty4 : tinfo Try.prog 4 = some ⟨1, false, (some [.bool false]), .bool, none⟩ := by kernel_rfl
theorem zo4 : zeroOf Try.prog 4 = (some [.bool false]) := by kernel_rfl
instance : TyT Try.prog 4 ⟨1, false, (some [.bool false]), .bool, none⟩ := ⟨ty4⟩
instance : ZoT Try.prog 4 (some [.bool false]) := ⟨zo4⟩
theorem ty5 : tinfo Try.prog 5 = some ⟨1, false, (some [.int .u8 0]), .int .u8, none⟩ := by kernel_rfl
theorem zo5 : zeroOf Try.prog 5 = (some [.int .u8 0]) := by kernel_rfl
instance : TyT Try.prog 5 ⟨1, false, (some [.int .u8 0]), .int .u8, none⟩ := ⟨ty5⟩
instance : ZoT Try.prog 5 (some [.int .u8 0]) := ⟨zo5⟩
theorem ty9 : tinfo Try.prog 9 = some ⟨1, false, (some [.str ⟨#[]⟩]), .string, none⟩ := by kernel_rfl
theorem zo9 : zeroOf Try.prog 9 = (some [.str ⟨#[]⟩]) := by kernel_rfl
instance : TyT Try.prog 9 ⟨1, false, (some [.str ⟨#[]⟩]), .string, none⟩ := ⟨ty9⟩
instance : ZoT Try.prog 9 (some [.str ⟨#[]⟩]) := ⟨zo9⟩
theorem ty12 : tinfo Try.prog 12 = some ⟨1, false, (some [.int .u64 0]), .int .u64, none⟩ := by kernel_rfl
theorem zo12 : zeroOf Try.prog 12 = (some [.int .u64 0]) := by kernel_rfl
instance : TyT Try.prog 12 ⟨1, false, (some [.int .u64 0]), .int .u64, none⟩ := ⟨ty12⟩
instance : ZoT Try.prog 12 (some [.int .u64 0]) := ⟨zo12⟩
theorem ty21 : tinfo Try.prog 21 = some ⟨1, false, (some [.int .i32 0]), .int .i32, none⟩ := by kernel_rfl
theorem zo21 : zeroOf Try.prog 21 = (some [.int .i32 0]) := by kernel_rfl
instance : TyT Try.prog 21 ⟨1, false, (some [.int .i32 0]), .int .i32, none⟩ := ⟨ty21⟩
instance : ZoT Try.prog 21 (some [.int .i32 0]) := ⟨zo21⟩
theorem ty22 : tinfo Try.prog 22 = some ⟨1, false, (some [.nilsl]), .slice 24 3 48 true (some [.int .i64 0, .str ⟨#[]⟩, .nilsl]), none⟩ := by kernel_rfl
theorem zo22 : zeroOf Try.prog 22 = (some [.nilsl]) := by kernel_rfl
instance : TyT Try.prog 22 ⟨1, false, (some [.nilsl]), .slice 24 3 48 true (some [.int .i64 0, .str ⟨#[]⟩, .nilsl]), none⟩ := ⟨ty22⟩
instance : ZoT Try.prog 22 (some [.nilsl]) := ⟨zo22⟩
theorem ty23 : tinfo Try.prog 23 = some ⟨3, true, (some [.int .i64 0, .str ⟨#[]⟩, .nilsl]), .struct [(0, 3, 1, false), (1, 9, 1, false), (2, 22, 1, false)], (some [(0, .int .i64), (1, .string), (2, .other)])⟩ := by kernel_rfl
theorem zo23 : zeroOf Try.prog 23 = (some [.int .i64 0, .str ⟨#[]⟩, .nilsl]) := by kernel_rfl
instance : TyT Try.prog 23 ⟨3, true, (some [.int .i64 0, .str ⟨#[]⟩, .nilsl]), .struct [(0, 3, 1, false), (1, 9, 1, false), (2, 22, 1, false)], (some [(0, .int .i64), (1, .string), (2, .other)])⟩ := ⟨ty23⟩
instance : ZoT Try.prog 23 (some [.int .i64 0, .str ⟨#[]⟩, .nilsl]) := ⟨zo23⟩
theorem ty24 : tinfo Try.prog 24 = some ⟨3, true, (some [.int .i64 0, .str ⟨#[]⟩, .nilsl]), .struct [(0, 3, 1, false), (1, 9, 1, false), (2, 22, 1, false)], (some [(0, .int .i64), (1, .string), (2, .other)])⟩ := by kernel_rfl
theorem zo24 : zeroOf Try.prog 24 = (some [.int .i64 0, .str ⟨#[]⟩, .nilsl]) := by kernel_rfl
instance : TyT Try.prog 24 ⟨3, true, (some [.int .i64 0, .str ⟨#[]⟩, .nilsl]), .struct [(0, 3, 1, false), (1, 9, 1, false), (2, 22, 1, false)], (some [(0, .int .i64), (1, .string), (2, .other)])⟩ := ⟨ty24⟩
instance : ZoT Try.prog 24 (some [.int .i64 0, .str ⟨#[]⟩, .nilsl]) := ⟨zo24⟩
theorem ty25 : tinfo Try.prog 25 = some ⟨1, false, (some [.nilfn]), .fn, none⟩ := by kernel_rfl
theorem zo25 : zeroOf Try.prog 25 = (some [.nilfn]) := by kernel_rfl
instance : TyT Try.prog 25 ⟨1, false, (some [.nilfn]), .fn, none⟩ := ⟨ty25⟩
instance : ZoT Try.prog 25 (some [.nilfn]) := ⟨zo25⟩
theorem ty26 : tinfo Try.prog 26 = some ⟨1, false, (some [.nilfn]), .fn, none⟩ := by kernel_rfl
theorem zo26 : zeroOf Try.prog 26 = (some [.nilfn]) := by kernel_rfl
instance : TyT Try.prog 26 ⟨1, false, (some [.nilfn]), .fn, none⟩ := ⟨ty26⟩
instance : ZoT Try.prog 26 (some [.nilfn]) := ⟨zo26⟩
theorem ty27 : tinfo Try.prog 27 = some ⟨1, false, (some [.nilfn]), .fn, none⟩ := by kernel_rfl
theorem zo27 : zeroOf Try.prog 27 = (some [.nilfn]) := by kernel_rfl
instance : TyT Try.prog 27 ⟨1, false, (some [.nilfn]), .fn, none⟩ := ⟨ty27⟩
instance : ZoT Try.prog 27 (some [.nilfn]) := ⟨zo27⟩
theorem ty28 : tinfo Try.prog 28 = some ⟨2, true, (some [.int .i64 0, .int .i64 0]), .struct [(0, 3, 1, false), (1, 3, 1, false)], (some [(0, .int .i64), (1, .int .i64)])⟩ := by kernel_rfl
theorem zo28 : zeroOf Try.prog 28 = (some [.int .i64 0, .int .i64 0]) := by kernel_rfl
instance : TyT Try.prog 28 ⟨2, true, (some [.int .i64 0, .int .i64 0]), .struct [(0, 3, 1, false), (1, 3, 1, false)], (some [(0, .int .i64), (1, .int .i64)])⟩ := ⟨ty28⟩
instance : ZoT Try.prog 28 (some [.int .i64 0, .int .i64 0]) := ⟨zo28⟩
theorem ty29 : tinfo Try.prog 29 = some ⟨2, true, (some [.int .i64 0, .int .i64 0]), .struct [(0, 3, 1, false), (1, 3, 1, false)], (some [(0, .int .i64), (1, .int .i64)])⟩ := by kernel_rfl
theorem zo29 : zeroOf Try.prog 29 = (some [.int .i64 0, .int .i64 0]) := by kernel_rfl
instance : TyT Try.prog 29 ⟨2, true, (some [.int .i64 0, .int .i64 0]), .struct [(0, 3, 1, false), (1, 3, 1, false)], (some [(0, .int .i64), (1, .int .i64)])⟩ := ⟨ty29⟩
instance : ZoT Try.prog 29 (some [.int .i64 0, .int .i64 0]) := ⟨zo29⟩
theorem ty30 : tinfo Try.prog 30 = some ⟨1, false, (some [.nilfn]), .fn, none⟩ := by kernel_rfl
theorem zo30 : zeroOf Try.prog 30 = (some [.nilfn]) := by kernel_rfl
instance : TyT Try.prog 30 ⟨1, false, (some [.nilfn]), .fn, none⟩ := ⟨ty30⟩
instance : ZoT Try.prog 30 (some [.nilfn]) := ⟨zo30⟩
theorem ty32 : tinfo Try.prog 32 = some ⟨1, false, (some [.nilfn]), .fn, none⟩ := by kernel_rfl
theorem zo32 : zeroOf Try.prog 32 = (some [.nilfn]) := by kernel_rfl
instance : TyT Try.prog 32 ⟨1, false, (some [.nilfn]), .fn, none⟩ := ⟨ty32⟩
instance : ZoT Try.prog 32 (some [.nilfn]) := ⟨zo32⟩
theorem ty33 : tinfo Try.prog 33 = some ⟨1, false, (some [.nilfn]), .fn, none⟩ := by kernel_rfl
theorem zo33 : zeroOf Try.prog 33 = (some [.nilfn]) := by kernel_rfl
instance : TyT Try.prog 33 ⟨1, false, (some [.nilfn]), .fn, none⟩ := ⟨ty33⟩
instance : ZoT Try.prog 33 (some [.nilfn]) := ⟨zo33⟩
theorem ty34 : tinfo Try.prog 34 = some ⟨1, false, (some [.nilfn]), .fn, none⟩ := by kernel_rfl
theorem zo34 : zeroOf Try.prog 34 = (some [.nilfn]) := by kernel_rfl
instance : TyT Try.prog 34 ⟨1, false, (some [.nilfn]), .fn, none⟩ := ⟨ty34⟩
instance : ZoT Try.prog 34 (some [.nilfn]) := ⟨zo34⟩
theorem ty35 : tinfo Try.prog 35 = some ⟨1, false, (some [.nilfn]), .fn, none⟩ := by kernel_rfl
theorem zo35 : zeroOf Try.prog 35 = (some [.nilfn]) := by kernel_rfl
instance : TyT Try.prog 35 ⟨1, false, (some [.nilfn]), .fn, none⟩ := ⟨ty35⟩
instance : ZoT Try.prog 35 (some [.nilfn]) := ⟨zo35⟩
theorem ty37 : tinfo Try.prog 37 = some ⟨1, false, (some [.nilfn]), .fn, none⟩ := by kernel_rfl
theorem zo37 : zeroOf Try.prog 37 = (some [.nilfn]) := by kernel_rfl
instance : TyT Try.prog 37 ⟨1, false, (some [.nilfn]), .fn, none⟩ := ⟨ty37⟩
instance : ZoT Try.prog 37 (some [.nilfn]) := ⟨zo37⟩
theorem ty38 : tinfo Try.prog 38 = some ⟨1, false, (some [.nilfn]), .fn, none⟩ := by kernel_rfl
theorem zo38 : zeroOf Try.prog 38 = (some [.nilfn]) := by kernel_rfl
instance : TyT Try.prog 38 ⟨1, false, (some [.nilfn]), .fn, none⟩ := ⟨ty38⟩
instance : ZoT Try.prog 38 (some [.nilfn]) := ⟨zo38⟩
theorem ty39 : tinfo Try.prog 39 = some ⟨1, false, (some [.nilfn]), .fn, none⟩ := by kernel_rfl
theorem zo39 : zeroOf Try.prog 39 = (some [.nilfn]) := by kernel_rfl
instance : TyT Try.prog 39 ⟨1, false, (some [.nilfn]), .fn, none⟩ := ⟨ty39⟩
instance : ZoT Try.prog 39 (some [.nilfn]) := ⟨zo39⟩
theorem ty40 : tinfo Try.prog 40 = some ⟨1, false, (some [.nilsl]), .slice 48 2 32 true (some [.int .i64 0, .nilsl]), none⟩ := by kernel_rfl
theorem zo40 : zeroOf Try.prog 40 = (some [.nilsl]) := by kernel_rfl
instance : TyT Try.prog 40 ⟨1, false, (some [.nilsl]), .slice 48 2 32 true (some [.int .i64 0, .nilsl]), none⟩ := ⟨ty40⟩
instance : ZoT Try.prog 40 (some [.nilsl]) := ⟨zo40⟩
theorem ty41 : tinfo Try.prog 41 = some ⟨5, true, (some [.bool false, .bool false, .bool false, .bool false, .bool false]), .array 5 4 1 false, (some [(0, .bool), (1, .bool), (2, .bool), (3, .bool), (4, .bool)])⟩ := by kernel_rfl
theorem zo41 : zeroOf Try.prog 41 = (some [.bool false, .bool false, .bool false, .bool false, .bool false]) := by kernel_rfl
instance : TyT Try.prog 41 ⟨5, true, (some [.bool false, .bool false, .bool false, .bool false, .bool false]), .array 5 4 1 false, (some [(0, .bool), (1, .bool), (2, .bool), (3, .bool), (4, .bool)])⟩ := ⟨ty41⟩
instance : ZoT Try.prog 41 (some [.bool false, .bool false, .bool false, .bool false, .bool false]) := ⟨zo41⟩
theorem ty43 : tinfo Try.prog 43 = some ⟨1, false, (some [.nilfn]), .fn, none⟩ := by kernel_rfl
theorem zo43 : zeroOf Try.prog 43 = (some [.nilfn]) := by kernel_rfl
instance : TyT Try.prog 43 ⟨1, false, (some [.nilfn]), .fn, none⟩ := ⟨ty43⟩
instance : ZoT Try.prog 43 (some [.nilfn]) := ⟨zo43⟩
theorem ty44 : tinfo Try.prog 44 = some ⟨1, false, (some [.nilfn]), .fn, none⟩ := by kernel_rfl
theorem zo44 : zeroOf Try.prog 44 = (some [.nilfn]) := by kernel_rfl
instance : TyT Try.prog 44 ⟨1, false, (some [.nilfn]), .fn, none⟩ := ⟨ty44⟩
instance : ZoT Try.prog 44 (some [.nilfn]) := ⟨zo44⟩
theorem ty45 : tinfo Try.prog 45 = some ⟨1, false, (some [.nilfn]), .fn, none⟩ := by kernel_rfl
theorem zo45 : zeroOf Try.prog 45 = (some [.nilfn]) := by kernel_rfl
instance : TyT Try.prog 45 ⟨1, false, (some [.nilfn]), .fn, none⟩ := ⟨ty45⟩
instance : ZoT Try.prog 45 (some [.nilfn]) := ⟨zo45⟩
theorem ty46 : tinfo Try.prog 46 = some ⟨1, false, (some [.nilsl]), .slice 4 1 1 false (some [.bool false]), none⟩ := by kernel_rfl
theorem zo46 : zeroOf Try.prog 46 = (some [.nilsl]) := by kernel_rfl
instance : TyT Try.prog 46 ⟨1, false, (some [.nilsl]), .slice 4 1 1 false (some [.bool false]), none⟩ := ⟨ty46⟩
instance : ZoT Try.prog 46 (some [.nilsl]) := ⟨zo46⟩
theorem ty47 : tinfo Try.prog 47 = some ⟨2, true, (some [.int .i64 0, .nilsl]), .struct [(0, 3, 1, false), (1, 46, 1, false)], (some [(0, .int .i64), (1, .other)])⟩ := by kernel_rfl
theorem zo47 : zeroOf Try.prog 47 = (some [.int .i64 0, .nilsl]) := by kernel_rfl
instance : TyT Try.prog 47 ⟨2, true, (some [.int .i64 0, .nilsl]), .struct [(0, 3, 1, false), (1, 46, 1, false)], (some [(0, .int .i64), (1, .other)])⟩ := ⟨ty47⟩
instance : ZoT Try.prog 47 (some [.int .i64 0, .nilsl]) := ⟨zo47⟩
theorem ty48 : tinfo Try.prog 48 = some ⟨2, true, (some [.int .i64 0, .nilsl]), .struct [(0, 3, 1, false), (1, 46, 1, false)], (some [(0, .int .i64), (1, .other)])⟩ := by kernel_rfl
theorem zo48 : zeroOf Try.prog 48 = (some [.int .i64 0, .nilsl]) := by kernel_rfl
instance : TyT Try.prog 48 ⟨2, true, (some [.int .i64 0, .nilsl]), .struct [(0, 3, 1, false), (1, 46, 1, false)], (some [(0, .int .i64), (1, .other)])⟩ := ⟨ty48⟩
instance : ZoT Try.prog 48 (some [.int .i64 0, .nilsl]) := ⟨zo48⟩
theorem ty49 : tinfo Try.prog 49 = some ⟨1, false, (some [.nilfn]), .fn, none⟩ := by kernel_rfl
theorem zo49 : zeroOf Try.prog 49 = (some [.nilfn]) := by kernel_rfl
instance : TyT Try.prog 49 ⟨1, false, (some [.nilfn]), .fn, none⟩ := ⟨ty49⟩
instance : ZoT Try.prog 49 (some [.nilfn]) := ⟨zo49⟩
theorem ty50 : tinfo Try.prog 50 = some ⟨1, false, (some [.nilfn]), .fn, none⟩ := by kernel_rfl
theorem zo50 : zeroOf Try.prog 50 = (some [.nilfn]) := by kernel_rfl
instance : TyT Try.prog 50 ⟨1, false, (some [.nilfn]), .fn, none⟩ := ⟨ty50⟩
instance : ZoT Try.prog 50 (some [.nilfn]) := ⟨zo50⟩
theorem ty51 : tinfo Try.prog 51 = some ⟨1, false, (some [.nilfn]), .fn, none⟩ := by kernel_rfl
theorem zo51 : zeroOf Try.prog 51 = (some [.nilfn]) := by kernel_rfl
instance : TyT Try.prog 51 ⟨1, false, (some [.nilfn]), .fn, none⟩ := ⟨ty51⟩
instance : ZoT Try.prog 51 (some [.nilfn]) := ⟨zo51⟩
theorem ty52 : tinfo Try.prog 52 = some ⟨1, false, (some [.nilfn]), .fn, none⟩ := by kernel_rfl
theorem zo52 : zeroOf Try.prog 52 = (some [.nilfn]) := by kernel_rfl
instance : TyT Try.prog 52 ⟨1, false, (some [.nilfn]), .fn, none⟩ := ⟨ty52⟩
instance : ZoT Try.prog 52 (some [.nilfn]) := ⟨zo52⟩
theorem ty53 : tinfo Try.prog 53 = some ⟨1, false, (some [.nilsl]), .slice 9 1 16 false (some [.str ⟨#[]⟩]), none⟩ := by kernel_rfl
theorem zo53 : zeroOf Try.prog 53 = (some [.nilsl]) := by kernel_rfl
instance : TyT Try.prog 53 ⟨1, false, (some [.nilsl]), .slice 9 1 16 false (some [.str ⟨#[]⟩]), none⟩ := ⟨ty53⟩
instance : ZoT Try.prog 53 (some [.nilsl]) := ⟨zo53⟩
theorem ty55 : tinfo Try.prog 55 = some ⟨1, false, (some [.nilfn]), .fn, none⟩ := by kernel_rfl
theorem zo55 : zeroOf Try.prog 55 = (some [.nilfn]) := by kernel_rfl
instance : TyT Try.prog 55 ⟨1, false, (some [.nilfn]), .fn, none⟩ := ⟨ty55⟩
instance : ZoT Try.prog 55 (some [.nilfn]) := ⟨zo55⟩
theorem ty56 : tinfo Try.prog 56 = some ⟨1, false, (some [.nilfn]), .fn, none⟩ := by kernel_rfl
theorem zo56 : zeroOf Try.prog 56 = (some [.nilfn]) := by kernel_rfl
instance : TyT Try.prog 56 ⟨1, false, (some [.nilfn]), .fn, none⟩ := ⟨ty56⟩
instance : ZoT Try.prog 56 (some [.nilfn]) := ⟨zo56⟩
theorem ty57 : tinfo Try.prog 57 = some ⟨1, false, (some [.nilfn]), .fn, none⟩ := by kernel_rfl
theorem zo57 : zeroOf Try.prog 57 = (some [.nilfn]) := by kernel_rfl
instance : TyT Try.prog 57 ⟨1, false, (some [.nilfn]), .fn, none⟩ := ⟨ty57⟩
instance : ZoT Try.prog 57 (some [.nilfn]) := ⟨zo57⟩
theorem ty58 : tinfo Try.prog 58 = some ⟨1, false, (some [.nilsl]), .slice 130 2 16 true (some [.int .i64 0, .int .i64 0]), none⟩ := by kernel_rfl
theorem zo58 : zeroOf Try.prog 58 = (some [.nilsl]) := by kernel_rfl
instance : TyT Try.prog 58 ⟨1, false, (some [.nilsl]), .slice 130 2 16 true (some [.int .i64 0, .int .i64 0]), none⟩ := ⟨ty58⟩
instance : ZoT Try.prog 58 (some [.nilsl]) := ⟨zo58⟩
theorem ty59 : tinfo Try.prog 59 = some ⟨1, false, (some [.nilsl]), .slice 53 1 24 false (some [.nilsl]), none⟩ := by kernel_rfl
theorem zo59 : zeroOf Try.prog 59 = (some [.nilsl]) := by kernel_rfl
instance : TyT Try.prog 59 ⟨1, false, (some [.nilsl]), .slice 53 1 24 false (some [.nilsl]), none⟩ := ⟨ty59⟩
instance : ZoT Try.prog 59 (some [.nilsl]) := ⟨zo59⟩
theorem ty60 : tinfo Try.prog 60 = some ⟨3, true, (some [.int .i64 0, .nilsl, .nilsl]), .struct [(0, 3, 1, false), (1, 58, 1, false), (2, 59, 1, false)], (some [(0, .int .i64), (1, .other), (2, .other)])⟩ := by kernel_rfl
theorem zo60 : zeroOf Try.prog 60 = (some [.int .i64 0, .nilsl, .nilsl]) := by kernel_rfl
instance : TyT Try.prog 60 ⟨3, true, (some [.int .i64 0, .nilsl, .nilsl]), .struct [(0, 3, 1, false), (1, 58, 1, false), (2, 59, 1, false)], (some [(0, .int .i64), (1, .other), (2, .other)])⟩ := ⟨ty60⟩
instance : ZoT Try.prog 60 (some [.int .i64 0, .nilsl, .nilsl]) := ⟨zo60⟩
theorem ty61 : tinfo Try.prog 61 = some ⟨3, true, (some [.int .i64 0, .nilsl, .nilsl]), .struct [(0, 3, 1, false), (1, 58, 1, false), (2, 59, 1, false)], (some [(0, .int .i64), (1, .other), (2, .other)])⟩ := by kernel_rfl
theorem zo61 : zeroOf Try.prog 61 = (some [.int .i64 0, .nilsl, .nilsl]) := by kernel_rfl
instance : TyT Try.prog 61 ⟨3, true, (some [.int .i64 0, .nilsl, .nilsl]), .struct [(0, 3, 1, false), (1, 58, 1, false), (2, 59, 1, false)], (some [(0, .int .i64), (1, .other), (2, .other)])⟩ := ⟨ty61⟩
instance : ZoT Try.prog 61 (some [.int .i64 0, .nilsl, .nilsl]) := ⟨zo61⟩
theorem ty62 : tinfo Try.prog 62 = some ⟨1, false, (some [.nilfn]), .fn, none⟩ := by kernel_rfl
theorem zo62 : zeroOf Try.prog 62 = (some [.nilfn]) := by kernel_rfl
instance : TyT Try.prog 62 ⟨1, false, (some [.nilfn]), .fn, none⟩ := ⟨ty62⟩
instance : ZoT Try.prog 62 (some [.nilfn]) := ⟨zo62⟩
theorem ty64 : tinfo Try.prog 64 = some ⟨1, false, (some [.nilfn]), .fn, none⟩ := by kernel_rfl
theorem zo64 : zeroOf Try.prog 64 = (some [.nilfn]) := by kernel_rfl
instance : TyT Try.prog 64 ⟨1, false, (some [.nilfn]), .fn, none⟩ := ⟨ty64⟩
instance : ZoT Try.prog 64 (some [.nilfn]) := ⟨zo64⟩
theorem ty66 : tinfo Try.prog 66 = some ⟨1, false, (some [.nilfn]), .fn, none⟩ := by kernel_rfl
theorem zo66 : zeroOf Try.prog 66 = (some [.nilfn]) := by kernel_rfl
instance : TyT Try.prog 66 ⟨1, false, (some [.nilfn]), .fn, none⟩ := ⟨ty66⟩
instance : ZoT Try.prog 66 (some [.nilfn]) := ⟨zo66⟩
theorem ty67 : tinfo Try.prog 67 = some ⟨6, true, (some [.bool false, .bool false, .bool false, .bool false, .bool false, .bool false]), .array 6 4 1 false, (some [(0, .bool), (1, .bool), (2, .bool), (3, .bool), (4, .bool), (5, .bool)])⟩ := by kernel_rfl
theorem zo67 : zeroOf Try.prog 67 = (some [.bool false, .bool false, .bool false, .bool false, .bool false, .bool false]) := by kernel_rfl
instance : TyT Try.prog 67 ⟨6, true, (some [.bool false, .bool false, .bool false, .bool false, .bool false, .bool false]), .array 6 4 1 false, (some [(0, .bool), (1, .bool), (2, .bool), (3, .bool), (4, .bool), (5, .bool)])⟩ := ⟨ty67⟩
instance : ZoT Try.prog 67 (some [.bool false, .bool false, .bool false, .bool false, .bool false, .bool false]) := ⟨zo67⟩
theorem ty69 : tinfo Try.prog 69 = some ⟨1, false, (some [.nilfn]), .fn, none⟩ := by kernel_rfl
theorem zo69 : zeroOf Try.prog 69 = (some [.nilfn]) := by kernel_rfl
instance : TyT Try.prog 69 ⟨1, false, (some [.nilfn]), .fn, none⟩ := ⟨ty69⟩
instance : ZoT Try.prog 69 (some [.nilfn]) := ⟨zo69⟩
theorem ty70 : tinfo Try.prog 70 = some ⟨1, false, (some [.nilfn]), .fn, none⟩ := by kernel_rfl
theorem zo70 : zeroOf Try.prog 70 = (some [.nilfn]) := by kernel_rfl
instance : TyT Try.prog 70 ⟨1, false, (some [.nilfn]), .fn, none⟩ := ⟨ty70⟩
instance : ZoT Try.prog 70 (some [.nilfn]) := ⟨zo70⟩
theorem ty71 : tinfo Try.prog 71 = some ⟨1, false, (some [.nilfn]), .fn, none⟩ := by kernel_rfl
theorem zo71 : zeroOf Try.prog 71 = (some [.nilfn]) := by kernel_rfl
instance : TyT Try.prog 71 ⟨1, false, (some [.nilfn]), .fn, none⟩ := ⟨ty71⟩
instance : ZoT Try.prog 71 (some [.nilfn]) := ⟨zo71⟩
theorem ty72 : tinfo Try.prog 72 = some ⟨1, false, (some [.nilfn]), .fn, none⟩ := by kernel_rfl
theorem zo72 : zeroOf Try.prog 72 = (some [.nilfn]) := by kernel_rfl
instance : TyT Try.prog 72 ⟨1, false, (some [.nilfn]), .fn, none⟩ := ⟨ty72⟩
instance : ZoT Try.prog 72 (some [.nilfn]) := ⟨zo72⟩
theorem ty73 : tinfo Try.prog 73 = some ⟨1, false, (some [.nilfn]), .fn, none⟩ := by kernel_rfl
theorem zo73 : zeroOf Try.prog 73 = (some [.nilfn]) := by kernel_rfl
instance : TyT Try.prog 73 ⟨1, false, (some [.nilfn]), .fn, none⟩ := ⟨ty73⟩
instance : ZoT Try.prog 73 (some [.nilfn]) := ⟨zo73⟩
theorem ty74 : tinfo Try.prog 74 = some ⟨1, false, (some [.nilfn]), .fn, none⟩ := by kernel_rfl
theorem zo74 : zeroOf Try.prog 74 = (some [.nilfn]) := by kernel_rfl
instance : TyT Try.prog 74 ⟨1, false, (some [.nilfn]), .fn, none⟩ := ⟨ty74⟩
instance : ZoT Try.prog 74 (some [.nilfn]) := ⟨zo74⟩
theorem ty75 : tinfo Try.prog 75 = some ⟨1, false, (some [.nilfn]), .fn, none⟩ := by kernel_rfl
theorem zo75 : zeroOf Try.prog 75 = (some [.nilfn]) := by kernel_rfl
instance : TyT Try.prog 75 ⟨1, false, (some [.nilfn]), .fn, none⟩ := ⟨ty75⟩
instance : ZoT Try.prog 75 (some [.nilfn]) := ⟨zo75⟩
theorem ty76 : tinfo Try.prog 76 = some ⟨1, false, (some [.nilfn]), .fn, none⟩ := by kernel_rfl
theorem zo76 : zeroOf Try.prog 76 = (some [.nilfn]) := by kernel_rfl
instance : TyT Try.prog 76 ⟨1, false, (some [.nilfn]), .fn, none⟩ := ⟨ty76⟩
instance : ZoT Try.prog 76 (some [.nilfn]) := ⟨zo76⟩
theorem ty77 : tinfo Try.prog 77 = some ⟨1, false, (some [.nilfn]), .fn, none⟩ := by kernel_rfl
theorem zo77 : zeroOf Try.prog 77 = (some [.nilfn]) := by kernel_rfl
instance : TyT Try.prog 77 ⟨1, false, (some [.nilfn]), .fn, none⟩ := ⟨ty77⟩
instance : ZoT Try.prog 77 (some [.nilfn]) := ⟨zo77⟩
theorem ty78 : tinfo Try.prog 78 = some ⟨1, false, (some [.nilfn]), .fn, none⟩ := by kernel_rfl
theorem zo78 : zeroOf Try.prog 78 = (some [.nilfn]) := by kernel_rfl
instance : TyT Try.prog 78 ⟨1, false, (some [.nilfn]), .fn, none⟩ := ⟨ty78⟩
instance : ZoT Try.prog 78 (some [.nilfn]) := ⟨zo78⟩
theorem ty79 : tinfo Try.prog 79 = some ⟨1, false, (some [.nilfn]), .fn, none⟩ := by kernel_rfl
theorem zo79 : zeroOf Try.prog 79 = (some [.nilfn]) := by kernel_rfl
instance : TyT Try.prog 79 ⟨1, false, (some [.nilfn]), .fn, none⟩ := ⟨ty79⟩
instance : ZoT Try.prog 79 (some [.nilfn]) := ⟨zo79⟩
theorem ty80 : tinfo Try.prog 80 = some ⟨1, false, (some [.nilfn]), .fn, none⟩ := by kernel_rfl
theorem zo80 : zeroOf Try.prog 80 = (some [.nilfn]) := by kernel_rfl
instance : TyT Try.prog 80 ⟨1, false, (some [.nilfn]), .fn, none⟩ := ⟨ty80⟩
instance : ZoT Try.prog 80 (some [.nilfn]) := ⟨zo80⟩
theorem ty81 : tinfo Try.prog 81 = some ⟨1, false, (some [.nilfn]), .fn, none⟩ := by kernel_rfl
theorem zo81 : zeroOf Try.prog 81 = (some [.nilfn]) := by kernel_rfl
instance : TyT Try.prog 81 ⟨1, false, (some [.nilfn]), .fn, none⟩ := ⟨ty81⟩
instance : ZoT Try.prog 81 (some [.nilfn]) := ⟨zo81⟩
theorem ty82 : tinfo Try.prog 82 = some ⟨1, false, (some [.nilfn]), .fn, none⟩ := by kernel_rfl
theorem zo82 : zeroOf Try.prog 82 = (some [.nilfn]) := by kernel_rfl
instance : TyT Try.prog 82 ⟨1, false, (some [.nilfn]), .fn, none⟩ := ⟨ty82⟩
instance : ZoT Try.prog 82 (some [.nilfn]) := ⟨zo82⟩
theorem ty84 : tinfo Try.prog 84 = some ⟨1, false, (some [.nilfn]), .fn, none⟩ := by kernel_rfl
theorem zo84 : zeroOf Try.prog 84 = (some [.nilfn]) := by kernel_rfl
instance : TyT Try.prog 84 ⟨1, false, (some [.nilfn]), .fn, none⟩ := ⟨ty84⟩
instance : ZoT Try.prog 84 (some [.nilfn]) := ⟨zo84⟩
theorem ty85 : tinfo Try.prog 85 = some ⟨1, false, (some [.nilfn]), .fn, none⟩ := by kernel_rfl
theorem zo85 : zeroOf Try.prog 85 = (some [.nilfn]) := by kernel_rfl
instance : TyT Try.prog 85 ⟨1, false, (some [.nilfn]), .fn, none⟩ := ⟨ty85⟩
instance : ZoT Try.prog 85 (some [.nilfn]) := ⟨zo85⟩
theorem ty86 : tinfo Try.prog 86 = some ⟨1, false, (some [.nilfn]), .fn, none⟩ := by kernel_rfl
theorem zo86 : zeroOf Try.prog 86 = (some [.nilfn]) := by kernel_rfl
instance : TyT Try.prog 86 ⟨1, false, (some [.nilfn]), .fn, none⟩ := ⟨ty86⟩
instance : ZoT Try.prog 86 (some [.nilfn]) := ⟨zo86⟩
theorem ty87 : tinfo Try.prog 87 = some ⟨1, false, (some [.nilfn]), .fn, none⟩ := by kernel_rfl
theorem zo87 : zeroOf Try.prog 87 = (some [.nilfn]) := by kernel_rfl
instance : TyT Try.prog 87 ⟨1, false, (some [.nilfn]), .fn, none⟩ := ⟨ty87⟩
instance : ZoT Try.prog 87 (some [.nilfn]) := ⟨zo87⟩
theorem ty88 : tinfo Try.prog 88 = some ⟨1, false, (some [.nilfn]), .fn, none⟩ := by kernel_rfl
theorem zo88 : zeroOf Try.prog 88 = (some [.nilfn]) := by kernel_rfl
instance : TyT Try.prog 88 ⟨1, false, (some [.nilfn]), .fn, none⟩ := ⟨ty88⟩
instance : ZoT Try.prog 88 (some [.nilfn]) := ⟨zo88⟩
theorem ty89 : tinfo Try.prog 89 = some ⟨1, false, (some [.nilfn]), .fn, none⟩ := by kernel_rfl
theorem zo89 : zeroOf Try.prog 89 = (some [.nilfn]) := by kernel_rfl
instance : TyT Try.prog 89 ⟨1, false, (some [.nilfn]), .fn, none⟩ := ⟨ty89⟩
instance : ZoT Try.prog 89 (some [.nilfn]) := ⟨zo89⟩
theorem ty91 : tinfo Try.prog 91 = some ⟨1, false, (some [.nilfn]), .fn, none⟩ := by kernel_rfl
theorem zo91 : zeroOf Try.prog 91 = (some [.nilfn]) := by kernel_rfl
instance : TyT Try.prog 91 ⟨1, false, (some [.nilfn]), .fn, none⟩ := ⟨ty91⟩
instance : ZoT Try.prog 91 (some [.nilfn]) := ⟨zo91⟩
theorem ty92 : tinfo Try.prog 92 = some ⟨1, false, (some [.nilfn]), .fn, none⟩ := by kernel_rfl
theorem zo92 : zeroOf Try.prog 92 = (some [.nilfn]) := by kernel_rfl
instance : TyT Try.prog 92 ⟨1, false, (some [.nilfn]), .fn, none⟩ := ⟨ty92⟩
instance : ZoT Try.prog 92 (some [.nilfn]) := ⟨zo92⟩
theorem ty94 : tinfo Try.prog 94 = some ⟨1, false, (some [.nilfn]), .fn, none⟩ := by kernel_rfl
theorem zo94 : zeroOf Try.prog 94 = (some [.nilfn]) := by kernel_rfl
instance : TyT Try.prog 94 ⟨1, false, (some [.nilfn]), .fn, none⟩ := ⟨ty94⟩
instance : ZoT Try.prog 94 (some [.nilfn]) := ⟨zo94⟩
theorem ty95 : tinfo Try.prog 95 = some ⟨1, false, (some [.nilfn]), .fn, none⟩ := by kernel_rfl
theorem zo95 : zeroOf Try.prog 95 = (some [.nilfn]) := by kernel_rfl
instance : TyT Try.prog 95 ⟨1, false, (some [.nilfn]), .fn, none⟩ := ⟨ty95⟩
instance : ZoT Try.prog 95 (some [.nilfn]) := ⟨zo95⟩
theorem ty96 : tinfo Try.prog 96 = some ⟨1, false, (some [.nilfn]), .fn, none⟩ := by kernel_rfl
theorem zo96 : zeroOf Try.prog 96 = (some [.nilfn]) := by kernel_rfl
instance : TyT Try.prog 96 ⟨1, false, (some [.nilfn]), .fn, none⟩ := ⟨ty96⟩
instance : ZoT Try.prog 96 (some [.nilfn]) := ⟨zo96⟩
theorem ty97 : tinfo Try.prog 97 = some ⟨1, false, (some [.nilfn]), .fn, none⟩ := by kernel_rfl
theorem zo97 : zeroOf Try.prog 97 = (some [.nilfn]) := by kernel_rfl
instance : TyT Try.prog 97 ⟨1, false, (some [.nilfn]), .fn, none⟩ := ⟨ty97⟩
instance : ZoT Try.prog 97 (some [.nilfn]) := ⟨zo97⟩
theorem ty98 : tinfo Try.prog 98 = some ⟨1, false, (some [.nilfn]), .fn, none⟩ := by kernel_rfl
theorem zo98 : zeroOf Try.prog 98 = (some [.nilfn]) := by kernel_rfl
instance : TyT Try.prog 98 ⟨1, false, (some [.nilfn]), .fn, none⟩ := ⟨ty98⟩
instance : ZoT Try.prog 98 (some [.nilfn]) := ⟨zo98⟩
theorem ty99 : tinfo Try.prog 99 = some ⟨2, true, (some [.int .i64 0, .int .i64 0]), .struct [(0, 29, 2, true)], (some [(0, .other)])⟩ := by kernel_rfl
theorem zo99 : zeroOf Try.prog 99 = (some [.int .i64 0, .int .i64 0]) := by kernel_rfl
instance : TyT Try.prog 99 ⟨2, true, (some [.int .i64 0, .int .i64 0]), .struct [(0, 29, 2, true)], (some [(0, .other)])⟩ := ⟨ty99⟩
instance : ZoT Try.prog 99 (some [.int .i64 0, .int .i64 0]) := ⟨zo99⟩
theorem ty100 : tinfo Try.prog 100 = some ⟨2, true, (some [.int .i64 0, .int .i64 0]), .struct [(0, 29, 2, true)], (some [(0, .other)])⟩ := by kernel_rfl
theorem zo100 : zeroOf Try.prog 100 = (some [.int .i64 0, .int .i64 0]) := by kernel_rfl
instance : TyT Try.prog 100 ⟨2, true, (some [.int .i64 0, .int .i64 0]), .struct [(0, 29, 2, true)], (some [(0, .other)])⟩ := ⟨ty100⟩
instance : ZoT Try.prog 100 (some [.int .i64 0, .int .i64 0]) := ⟨zo100⟩
theorem ty101 : tinfo Try.prog 101 = some ⟨1, false, (some [.nilptr]), .pointer, none⟩ := by kernel_rfl
theorem zo101 : zeroOf Try.prog 101 = (some [.nilptr]) := by kernel_rfl
instance : TyT Try.prog 101 ⟨1, false, (some [.nilptr]), .pointer, none⟩ := ⟨ty101⟩
instance : ZoT Try.prog 101 (some [.nilptr]) := ⟨zo101⟩
theorem ty102 : tinfo Try.prog 102 = some ⟨2, true, (some [.str ⟨#[]⟩, .int .i64 0]), .struct [(0, 9, 1, false), (1, 3, 1, false)], (some [(0, .string), (1, .int .i64)])⟩ := by kernel_rfl
theorem zo102 : zeroOf Try.prog 102 = (some [.str ⟨#[]⟩, .int .i64 0]) := by kernel_rfl
instance : TyT Try.prog 102 ⟨2, true, (some [.str ⟨#[]⟩, .int .i64 0]), .struct [(0, 9, 1, false), (1, 3, 1, false)], (some [(0, .string), (1, .int .i64)])⟩ := ⟨ty102⟩
instance : ZoT Try.prog 102 (some [.str ⟨#[]⟩, .int .i64 0]) := ⟨zo102⟩
theorem ty103 : tinfo Try.prog 103 = some ⟨2, true, (some [.str ⟨#[]⟩, .int .i64 0]), .struct [(0, 9, 1, false), (1, 3, 1, false)], (some [(0, .string), (1, .int .i64)])⟩ := by kernel_rfl
theorem zo103 : zeroOf Try.prog 103 = (some [.str ⟨#[]⟩, .int .i64 0]) := by kernel_rfl
instance : TyT Try.prog 103 ⟨2, true, (some [.str ⟨#[]⟩, .int .i64 0]), .struct [(0, 9, 1, false), (1, 3, 1, false)], (some [(0, .string), (1, .int .i64)])⟩ := ⟨ty103⟩
instance : ZoT Try.prog 103 (some [.str ⟨#[]⟩, .int .i64 0]) := ⟨zo103⟩
theorem ty104 : tinfo Try.prog 104 = some ⟨1, false, (some [.nilfn]), .fn, none⟩ := by kernel_rfl
theorem zo104 : zeroOf Try.prog 104 = (some [.nilfn]) := by kernel_rfl
instance : TyT Try.prog 104 ⟨1, false, (some [.nilfn]), .fn, none⟩ := ⟨ty104⟩
instance : ZoT Try.prog 104 (some [.nilfn]) := ⟨zo104⟩
theorem ty106 : tinfo Try.prog 106 = some ⟨1, false, (some [.nilfn]), .fn, none⟩ := by kernel_rfl
theorem zo106 : zeroOf Try.prog 106 = (some [.nilfn]) := by kernel_rfl
instance : TyT Try.prog 106 ⟨1, false, (some [.nilfn]), .fn, none⟩ := ⟨ty106⟩
instance : ZoT Try.prog 106 (some [.nilfn]) := ⟨zo106⟩
theorem ty108 : tinfo Try.prog 108 = some ⟨1, false, (some [.nilfn]), .fn, none⟩ := by kernel_rfl
theorem zo108 : zeroOf Try.prog 108 = (some [.nilfn]) := by kernel_rfl
instance : TyT Try.prog 108 ⟨1, false, (some [.nilfn]), .fn, none⟩ := ⟨ty108⟩
instance : ZoT Try.prog 108 (some [.nilfn]) := ⟨zo108⟩
theorem ty109 : tinfo Try.prog 109 = some ⟨1, false, (some [.nilfn]), .fn, none⟩ := by kernel_rfl
theorem zo109 : zeroOf Try.prog 109 = (some [.nilfn]) := by kernel_rfl
instance : TyT Try.prog 109 ⟨1, false, (some [.nilfn]), .fn, none⟩ := ⟨ty109⟩
instance : ZoT Try.prog 109 (some [.nilfn]) := ⟨zo109⟩
theorem ty110 : tinfo Try.prog 110 = some ⟨1, false, (some [.nilfn]), .fn, none⟩ := by kernel_rfl
theorem zo110 : zeroOf Try.prog 110 = (some [.nilfn]) := by kernel_rfl
instance : TyT Try.prog 110 ⟨1, false, (some [.nilfn]), .fn, none⟩ := ⟨ty110⟩
instance : ZoT Try.prog 110 (some [.nilfn]) := ⟨zo110⟩
theorem ty111 : tinfo Try.prog 111 = some ⟨16, true, (some [.bool false, .bool false, .bool false, .bool false, .bool false, .bool false, .bool false, .bool false, .bool false, .bool false, .bool false, .bool false, .bool false, .bool false, .bool false, .bool false]), .array 16 4 1 false, (some [(0, .bool), (1, .bool), (2, .bool), (3, .bool), (4, .bool), (5, .bool), (6, .bool), (7, .bool), (8, .bool), (9, .bool), (10, .bool), (11, .bool), (12, .bool), (13, .bool), (14, .bool), (15, .bool)])⟩ := by kernel_rfl
theorem zo111 : zeroOf Try.prog 111 = (some [.bool false, .bool false, .bool false, .bool false, .bool false, .bool false, .bool false, .bool false, .bool false, .bool false, .bool false, .bool false, .bool false, .bool false, .bool false, .bool false]) := by kernel_rfl
instance : TyT Try.prog 111 ⟨16, true, (some [.bool false, .bool false, .bool false, .bool false, .bool false, .bool false, .bool false, .bool false, .bool false, .bool false, .bool false, .bool false, .bool false, .bool false, .bool false, .bool false]), .array 16 4 1 false, (some [(0, .bool), (1, .bool), (2, .bool), (3, .bool), (4, .bool), (5, .bool), (6, .bool), (7, .bool), (8, .bool), (9, .bool), (10, .bool), (11, .bool), (12, .bool), (13, .bool), (14, .bool), (15, .bool)])⟩ := ⟨ty111⟩
instance : ZoT Try.prog 111 (some [.bool false, .bool false, .bool false, .bool false, .bool false, .bool false, .bool false, .bool false, .bool false, .bool false, .bool false, .bool false, .bool false, .bool false, .bool false, .bool false]) := ⟨zo111⟩
theorem ty112 : tinfo Try.prog 112 = some ⟨1, false, (some [.nilsl]), .slice 3 1 8 false (some [.int .i64 0]), none⟩ := by kernel_rfl
theorem zo112 : zeroOf Try.prog 112 = (some [.nilsl]) := by kernel_rfl
instance : TyT Try.prog 112 ⟨1, false, (some [.nilsl]), .slice 3 1 8 false (some [.int .i64 0]), none⟩ := ⟨ty112⟩
instance : ZoT Try.prog 112 (some [.nilsl]) := ⟨zo112⟩
theorem ty113 : tinfo Try.prog 113 = some ⟨1, false, (some [.nilfn]), .fn, none⟩ := by kernel_rfl
theorem zo113 : zeroOf Try.prog 113 = (some [.nilfn]) := by kernel_rfl
instance : TyT Try.prog 113 ⟨1, false, (some [.nilfn]), .fn, none⟩ := ⟨ty113⟩
instance : ZoT Try.prog 113 (some [.nilfn]) := ⟨zo113⟩
theorem ty114 : tinfo Try.prog 114 = some ⟨1, false, (some [.nilfn]), .fn, none⟩ := by kernel_rfl
theorem zo114 : zeroOf Try.prog 114 = (some [.nilfn]) := by kernel_rfl
instance : TyT Try.prog 114 ⟨1, false, (some [.nilfn]), .fn, none⟩ := ⟨ty114⟩
instance : ZoT Try.prog 114 (some [.nilfn]) := ⟨zo114⟩
theorem ty115 : tinfo Try.prog 115 = some ⟨1, false, (some [.nilfn]), .fn, none⟩ := by kernel_rfl
theorem zo115 : zeroOf Try.prog 115 = (some [.nilfn]) := by kernel_rfl
instance : TyT Try.prog 115 ⟨1, false, (some [.nilfn]), .fn, none⟩ := ⟨ty115⟩
instance : ZoT Try.prog 115 (some [.nilfn]) := ⟨zo115⟩
theorem ty116 : tinfo Try.prog 116 = some ⟨1, false, (some [.nilmap]), .map 9 4, none⟩ := by kernel_rfl
theorem zo116 : zeroOf Try.prog 116 = (some [.nilmap]) := by kernel_rfl
instance : TyT Try.prog 116 ⟨1, false, (some [.nilmap]), .map 9 4, none⟩ := ⟨ty116⟩
instance : ZoT Try.prog 116 (some [.nilmap]) := ⟨zo116⟩
theorem ty117 : tinfo Try.prog 117 = some ⟨1, false, (some [.nilfn]), .fn, none⟩ := by kernel_rfl
theorem zo117 : zeroOf Try.prog 117 = (some [.nilfn]) := by kernel_rfl
instance : TyT Try.prog 117 ⟨1, false, (some [.nilfn]), .fn, none⟩ := ⟨ty117⟩
instance : ZoT Try.prog 117 (some [.nilfn]) := ⟨zo117⟩
theorem ty118 : tinfo Try.prog 118 = some ⟨1, false, (some [.nilfn]), .fn, none⟩ := by kernel_rfl
theorem zo118 : zeroOf Try.prog 118 = (some [.nilfn]) := by kernel_rfl
instance : TyT Try.prog 118 ⟨1, false, (some [.nilfn]), .fn, none⟩ := ⟨ty118⟩
instance : ZoT Try.prog 118 (some [.nilfn]) := ⟨zo118⟩
theorem ty119 : tinfo Try.prog 119 = some ⟨1, false, (some [.nilfn]), .fn, none⟩ := by kernel_rfl
theorem zo119 : zeroOf Try.prog 119 = (some [.nilfn]) := by kernel_rfl
instance : TyT Try.prog 119 ⟨1, false, (some [.nilfn]), .fn, none⟩ := ⟨ty119⟩
instance : ZoT Try.prog 119 (some [.nilfn]) := ⟨zo119⟩
theorem ty120 : tinfo Try.prog 120 = some ⟨1, false, (some [.nilsl]), .slice 46 1 24 false (some [.nilsl]), none⟩ := by kernel_rfl
theorem zo120 : zeroOf Try.prog 120 = (some [.nilsl]) := by kernel_rfl
instance : TyT Try.prog 120 ⟨1, false, (some [.nilsl]), .slice 46 1 24 false (some [.nilsl]), none⟩ := ⟨ty120⟩
instance : ZoT Try.prog 120 (some [.nilsl]) := ⟨zo120⟩
theorem ty121 : tinfo Try.prog 121 = some ⟨1, false, (some [.nilsl]), .slice 46 1 24 false (some [.nilsl]), none⟩ := by kernel_rfl
theorem zo121 : zeroOf Try.prog 121 = (some [.nilsl]) := by kernel_rfl
instance : TyT Try.prog 121 ⟨1, false, (some [.nilsl]), .slice 46 1 24 false (some [.nilsl]), none⟩ := ⟨ty121⟩
instance : ZoT Try.prog 121 (some [.nilsl]) := ⟨zo121⟩
theorem ty122 : tinfo Try.prog 122 = some ⟨1, false, (some [.nilfn]), .fn, none⟩ := by kernel_rfl
theorem zo122 : zeroOf Try.prog 122 = (some [.nilfn]) := by kernel_rfl
instance : TyT Try.prog 122 ⟨1, false, (some [.nilfn]), .fn, none⟩ := ⟨ty122⟩
instance : ZoT Try.prog 122 (some [.nilfn]) := ⟨zo122⟩
theorem ty123 : tinfo Try.prog 123 = some ⟨1, false, (some [.nilfn]), .fn, none⟩ := by kernel_rfl
theorem zo123 : zeroOf Try.prog 123 = (some [.nilfn]) := by kernel_rfl
instance : TyT Try.prog 123 ⟨1, false, (some [.nilfn]), .fn, none⟩ := ⟨ty123⟩
instance : ZoT Try.prog 123 (some [.nilfn]) := ⟨zo123⟩
theorem ty124 : tinfo Try.prog 124 = some ⟨1, false, (some [.nilfn]), .fn, none⟩ := by kernel_rfl
theorem zo124 : zeroOf Try.prog 124 = (some [.nilfn]) := by kernel_rfl
instance : TyT Try.prog 124 ⟨1, false, (some [.nilfn]), .fn, none⟩ := ⟨ty124⟩
instance : ZoT Try.prog 124 (some [.nilfn]) := ⟨zo124⟩
theorem ty125 : tinfo Try.prog 125 = some ⟨1, false, (some [.nilfn]), .fn, none⟩ := by kernel_rfl
theorem zo125 : zeroOf Try.prog 125 = (some [.nilfn]) := by kernel_rfl
instance : TyT Try.prog 125 ⟨1, false, (some [.nilfn]), .fn, none⟩ := ⟨ty125⟩
instance : ZoT Try.prog 125 (some [.nilfn]) := ⟨zo125⟩
theorem ty126 : tinfo Try.prog 126 = some ⟨1, false, (some [.nilfn]), .fn, none⟩ := by kernel_rfl
theorem zo126 : zeroOf Try.prog 126 = (some [.nilfn]) := by kernel_rfl
instance : TyT Try.prog 126 ⟨1, false, (some [.nilfn]), .fn, none⟩ := ⟨ty126⟩
instance : ZoT Try.prog 126 (some [.nilfn]) := ⟨zo126⟩
theorem ty127 : tinfo Try.prog 127 = some ⟨1, false, (some [.nilfn]), .fn, none⟩ := by kernel_rfl
theorem zo127 : zeroOf Try.prog 127 = (some [.nilfn]) := by kernel_rfl
instance : TyT Try.prog 127 ⟨1, false, (some [.nilfn]), .fn, none⟩ := ⟨ty127⟩
instance : ZoT Try.prog 127 (some [.nilfn]) := ⟨zo127⟩
theorem ty128 : tinfo Try.prog 128 = some ⟨1, false, (some [.nilfn]), .fn, none⟩ := by kernel_rfl
theorem zo128 : zeroOf Try.prog 128 = (some [.nilfn]) := by kernel_rfl
instance : TyT Try.prog 128 ⟨1, false, (some [.nilfn]), .fn, none⟩ := ⟨ty128⟩
instance : ZoT Try.prog 128 (some [.nilfn]) := ⟨zo128⟩
theorem ty129 : tinfo Try.prog 129 = some ⟨1, false, (some [.nilfn]), .fn, none⟩ := by kernel_rfl
theorem zo129 : zeroOf Try.prog 129 = (some [.nilfn]) := by kernel_rfl
instance : TyT Try.prog 129 ⟨1, false, (some [.nilfn]), .fn, none⟩ := ⟨ty129⟩
instance : ZoT Try.prog 129 (some [.nilfn]) := ⟨zo129⟩
theorem ty130 : tinfo Try.prog 130 = some ⟨2, true, (some [.int .i64 0, .int .i64 0]), .array 2 3 1 false, (some [(0, .int .i64), (1, .int .i64)])⟩ := by kernel_rfl
theorem zo130 : zeroOf Try.prog 130 = (some [.int .i64 0, .int .i64 0]) := by kernel_rfl
instance : TyT Try.prog 130 ⟨2, true, (some [.int .i64 0, .int .i64 0]), .array 2 3 1 false, (some [(0, .int .i64), (1, .int .i64)])⟩ := ⟨ty130⟩
instance : ZoT Try.prog 130 (some [.int .i64 0, .int .i64 0]) := ⟨zo130⟩
theorem ty131 : tinfo Try.prog 131 = some ⟨1, false, (some [.nilsl]), .slice 112 1 24 false (some [.nilsl]), none⟩ := by kernel_rfl
theorem zo131 : zeroOf Try.prog 131 = (some [.nilsl]) := by kernel_rfl
instance : TyT Try.prog 131 ⟨1, false, (some [.nilsl]), .slice 112 1 24 false (some [.nilsl]), none⟩ := ⟨ty131⟩
instance : ZoT Try.prog 131 (some [.nilsl]) := ⟨zo131⟩
theorem ty132 : tinfo Try.prog 132 = some ⟨1, false, (some [.nilfn]), .fn, none⟩ := by kernel_rfl
theorem zo132 : zeroOf Try.prog 132 = (some [.nilfn]) := by kernel_rfl
instance : TyT Try.prog 132 ⟨1, false, (some [.nilfn]), .fn, none⟩ := ⟨ty132⟩
instance : ZoT Try.prog 132 (some [.nilfn]) := ⟨zo132⟩
theorem ty133 : tinfo Try.prog 133 = some ⟨1, false, (some [.nilfn]), .fn, none⟩ := by kernel_rfl
theorem zo133 : zeroOf Try.prog 133 = (some [.nilfn]) := by kernel_rfl
instance : TyT Try.prog 133 ⟨1, false, (some [.nilfn]), .fn, none⟩ := ⟨ty133⟩
instance : ZoT Try.prog 133 (some [.nilfn]) := ⟨zo133⟩
theorem ty134 : tinfo Try.prog 134 = some ⟨1, false, (some [.nilfn]), .fn, none⟩ := by kernel_rfl
theorem zo134 : zeroOf Try.prog 134 = (some [.nilfn]) := by kernel_rfl
instance : TyT Try.prog 134 ⟨1, false, (some [.nilfn]), .fn, none⟩ := ⟨ty134⟩
instance : ZoT Try.prog 134 (some [.nilfn]) := ⟨zo134⟩
theorem ty135 : tinfo Try.prog 135 = some ⟨1, false, (some [.nilfn]), .fn, none⟩ := by kernel_rfl
theorem zo135 : zeroOf Try.prog 135 = (some [.nilfn]) := by kernel_rfl
instance : TyT Try.prog 135 ⟨1, false, (some [.nilfn]), .fn, none⟩ := ⟨ty135⟩
instance : ZoT Try.prog 135 (some [.nilfn]) := ⟨zo135⟩
theorem ty136 : tinfo Try.prog 136 = some ⟨1, false, (some [.nilfn]), .fn, none⟩ := by kernel_rfl
theorem zo136 : zeroOf Try.prog 136 = (some [.nilfn]) := by kernel_rfl
instance : TyT Try.prog 136 ⟨1, false, (some [.nilfn]), .fn, none⟩ := ⟨ty136⟩
instance : ZoT Try.prog 136 (some [.nilfn]) := ⟨zo136⟩
theorem ty137 : tinfo Try.prog 137 = some ⟨1, false, (some [.nilfn]), .fn, none⟩ := by kernel_rfl
theorem zo137 : zeroOf Try.prog 137 = (some [.nilfn]) := by kernel_rfl
instance : TyT Try.prog 137 ⟨1, false, (some [.nilfn]), .fn, none⟩ := ⟨ty137⟩
instance : ZoT Try.prog 137 (some [.nilfn]) := ⟨zo137⟩
theorem ty138 : tinfo Try.prog 138 = some ⟨2, true, (some [.nilsl, .nilsl]), .array 2 46 1 false, (some [(0, .other), (1, .other)])⟩ := by kernel_rfl
theorem zo138 : zeroOf Try.prog 138 = (some [.nilsl, .nilsl]) := by kernel_rfl
instance : TyT Try.prog 138 ⟨2, true, (some [.nilsl, .nilsl]), .array 2 46 1 false, (some [(0, .other), (1, .other)])⟩ := ⟨ty138⟩
instance : ZoT Try.prog 138 (some [.nilsl, .nilsl]) := ⟨zo138⟩
theorem ty139 : tinfo Try.prog 139 = some ⟨1, false, (some [.nilfn]), .fn, none⟩ := by kernel_rfl
theorem zo139 : zeroOf Try.prog 139 = (some [.nilfn]) := by kernel_rfl
instance : TyT Try.prog 139 ⟨1, false, (some [.nilfn]), .fn, none⟩ := ⟨ty139⟩
instance : ZoT Try.prog 139 (some [.nilfn]) := ⟨zo139⟩
theorem ty140 : tinfo Try.prog 140 = some ⟨1, false, (some [.nilfn]), .fn, none⟩ := by kernel_rfl
theorem zo140 : zeroOf Try.prog 140 = (some [.nilfn]) := by kernel_rfl
instance : TyT Try.prog 140 ⟨1, false, (some [.nilfn]), .fn, none⟩ := ⟨ty140⟩
instance : ZoT Try.prog 140 (some [.nilfn]) := ⟨zo140⟩
theorem ty141 : tinfo Try.prog 141 = some ⟨1, false, (some [.nilfn]), .fn, none⟩ := by kernel_rfl
theorem zo141 : zeroOf Try.prog 141 = (some [.nilfn]) := by kernel_rfl
instance : TyT Try.prog 141 ⟨1, false, (some [.nilfn]), .fn, none⟩ := ⟨ty141⟩
instance : ZoT Try.prog 141 (some [.nilfn]) := ⟨zo141⟩
theorem ty142 : tinfo Try.prog 142 = some ⟨1, false, (some [.nilfn]), .fn, none⟩ := by kernel_rfl
theorem zo142 : zeroOf Try.prog 142 = (some [.nilfn]) := by kernel_rfl
instance : TyT Try.prog 142 ⟨1, false, (some [.nilfn]), .fn, none⟩ := ⟨ty142⟩
instance : ZoT Try.prog 142 (some [.nilfn]) := ⟨zo142⟩
theorem ty143 : tinfo Try.prog 143 = some ⟨1, false, (some [.nilfn]), .fn, none⟩ := by kernel_rfl
theorem zo143 : zeroOf Try.prog 143 = (some [.nilfn]) := by kernel_rfl
instance : TyT Try.prog 143 ⟨1, false, (some [.nilfn]), .fn, none⟩ := ⟨ty143⟩
instance : ZoT Try.prog 143 (some [.nilfn]) := ⟨zo143⟩
theorem ty144 : tinfo Try.prog 144 = some ⟨1, false, (some [.int .u64 0]), .int .u64, none⟩ := by kernel_rfl
theorem zo144 : zeroOf Try.prog 144 = (some [.int .u64 0]) := by kernel_rfl
instance : TyT Try.prog 144 ⟨1, false, (some [.int .u64 0]), .int .u64, none⟩ := ⟨ty144⟩
instance : ZoT Try.prog 144 (some [.int .u64 0]) := ⟨zo144⟩
theorem ty145 : tinfo Try.prog 145 = some ⟨1, false, (some [.nilfn]), .fn, none⟩ := by kernel_rfl
theorem zo145 : zeroOf Try.prog 145 = (some [.nilfn]) := by kernel_rfl
instance : TyT Try.prog 145 ⟨1, false, (some [.nilfn]), .fn, none⟩ := ⟨ty145⟩
instance : ZoT Try.prog 145 (some [.nilfn]) := ⟨zo145⟩
theorem ty146 : tinfo Try.prog 146 = some ⟨1, false, (some [.int .i64 0]), .int .i64, none⟩ := by kernel_rfl
theorem zo146 : zeroOf Try.prog 146 = (some [.int .i64 0]) := by kernel_rfl
instance : TyT Try.prog 146 ⟨1, false, (some [.int .i64 0]), .int .i64, none⟩ := ⟨ty146⟩
instance : ZoT Try.prog 146 (some [.int .i64 0]) := ⟨zo146⟩
theorem ty148 : tinfo Try.prog 148 = some ⟨1, false, (some [.nilfn]), .fn, none⟩ := by kernel_rfl
theorem zo148 : zeroOf Try.prog 148 = (some [.nilfn]) := by kernel_rfl
instance : TyT Try.prog 148 ⟨1, false, (some [.nilfn]), .fn, none⟩ := ⟨ty148⟩
instance : ZoT Try.prog 148 (some [.nilfn]) := ⟨zo148⟩
theorem ty149 : tinfo Try.prog 149 = some ⟨1, false, (some [.nilfn]), .fn, none⟩ := by kernel_rfl
theorem zo149 : zeroOf Try.prog 149 = (some [.nilfn]) := by kernel_rfl
instance : TyT Try.prog 149 ⟨1, false, (some [.nilfn]), .fn, none⟩ := ⟨ty149⟩
instance : ZoT Try.prog 149 (some [.nilfn]) := ⟨zo149⟩
theorem ty150 : tinfo Try.prog 150 = some ⟨1, false, (some [.nilfn]), .fn, none⟩ := by kernel_rfl
theorem zo150 : zeroOf Try.prog 150 = (some [.nilfn]) := by kernel_rfl
instance : TyT Try.prog 150 ⟨1, false, (some [.nilfn]), .fn, none⟩ := ⟨ty150⟩
instance : ZoT Try.prog 150 (some [.nilfn]) := ⟨zo150⟩
theorem ty152 : tinfo Try.prog 152 = some ⟨1, false, (some [.nilfn]), .fn, none⟩ := by kernel_rfl
theorem zo152 : zeroOf Try.prog 152 = (some [.nilfn]) := by kernel_rfl
instance : TyT Try.prog 152 ⟨1, false, (some [.nilfn]), .fn, none⟩ := ⟨ty152⟩
instance : ZoT Try.prog 152 (some [.nilfn]) := ⟨zo152⟩
theorem ty153 : tinfo Try.prog 153 = some ⟨1, false, (some [.nilfn]), .fn, none⟩ := by kernel_rfl
theorem zo153 : zeroOf Try.prog 153 = (some [.nilfn]) := by kernel_rfl
instance : TyT Try.prog 153 ⟨1, false, (some [.nilfn]), .fn, none⟩ := ⟨ty153⟩
instance : ZoT Try.prog 153 (some [.nilfn]) := ⟨zo153⟩
theorem ty154 : tinfo Try.prog 154 = some ⟨1, false, (some [.int .u32 0]), .int .u32, none⟩ := by kernel_rfl
theorem zo154 : zeroOf Try.prog 154 = (some [.int .u32 0]) := by kernel_rfl
instance : TyT Try.prog 154 ⟨1, false, (some [.int .u32 0]), .int .u32, none⟩ := ⟨ty154⟩
instance : ZoT Try.prog 154 (some [.int .u32 0]) := ⟨zo154⟩
theorem ty155 : tinfo Try.prog 155 = some ⟨1, false, (some [.nilfn]), .fn, none⟩ := by kernel_rfl
theorem zo155 : zeroOf Try.prog 155 = (some [.nilfn]) := by kernel_rfl
instance : TyT Try.prog 155 ⟨1, false, (some [.nilfn]), .fn, none⟩ := ⟨ty155⟩
instance : ZoT Try.prog 155 (some [.nilfn]) := ⟨zo155⟩
theorem ty156 : tinfo Try.prog 156 = some ⟨1, false, (some [.int .u64 0]), .int .u64, none⟩ := by kernel_rfl
theorem zo156 : zeroOf Try.prog 156 = (some [.int .u64 0]) := by kernel_rfl
instance : TyT Try.prog 156 ⟨1, false, (some [.int .u64 0]), .int .u64, none⟩ := ⟨ty156⟩
instance : ZoT Try.prog 156 (some [.int .u64 0]) := ⟨zo156⟩
theorem ty157 : tinfo Try.prog 157 = some ⟨1, false, (some [.int .u64 0]), .int .u64, none⟩ := by kernel_rfl
theorem zo157 : zeroOf Try.prog 157 = (some [.int .u64 0]) := by kernel_rfl
instance : TyT Try.prog 157 ⟨1, false, (some [.int .u64 0]), .int .u64, none⟩ := ⟨ty157⟩
instance : ZoT Try.prog 157 (some [.int .u64 0]) := ⟨zo157⟩
theorem ty158 : tinfo Try.prog 158 = some ⟨1, false, (some [.nilfn]), .fn, none⟩ := by kernel_rfl
theorem zo158 : zeroOf Try.prog 158 = (some [.nilfn]) := by kernel_rfl
instance : TyT Try.prog 158 ⟨1, false, (some [.nilfn]), .fn, none⟩ := ⟨ty158⟩
instance : ZoT Try.prog 158 (some [.nilfn]) := ⟨zo158⟩
theorem ty159 : tinfo Try.prog 159 = some ⟨1, false, (some [.nilfn]), .fn, none⟩ := by kernel_rfl
theorem zo159 : zeroOf Try.prog 159 = (some [.nilfn]) := by kernel_rfl
instance : TyT Try.prog 159 ⟨1, false, (some [.nilfn]), .fn, none⟩ := ⟨ty159⟩
instance : ZoT Try.prog 159 (some [.nilfn]) := ⟨zo159⟩
theorem ty160 : tinfo Try.prog 160 = some ⟨1, false, (some [.nilfn]), .fn, none⟩ := by kernel_rfl
theorem zo160 : zeroOf Try.prog 160 = (some [.nilfn]) := by kernel_rfl
instance : TyT Try.prog 160 ⟨1, false, (some [.nilfn]), .fn, none⟩ := ⟨ty160⟩
instance : ZoT Try.prog 160 (some [.nilfn]) := ⟨zo160⟩
theorem ty161 : tinfo Try.prog 161 = some ⟨1, false, (some [.nilptr]), .pointer, none⟩ := by kernel_rfl
theorem zo161 : zeroOf Try.prog 161 = (some [.nilptr]) := by kernel_rfl
instance : TyT Try.prog 161 ⟨1, false, (some [.nilptr]), .pointer, none⟩ := ⟨ty161⟩
instance : ZoT Try.prog 161 (some [.nilptr]) := ⟨zo161⟩
theorem ty162 : tinfo Try.prog 162 = some ⟨1, false, (some [.nilfn]), .fn, none⟩ := by kernel_rfl
theorem zo162 : zeroOf Try.prog 162 = (some [.nilfn]) := by kernel_rfl
instance : TyT Try.prog 162 ⟨1, false, (some [.nilfn]), .fn, none⟩ := ⟨ty162⟩
instance : ZoT Try.prog 162 (some [.nilfn]) := ⟨zo162⟩
theorem ty163 : tinfo Try.prog 163 = some ⟨1, false, (some [.nilptr]), .pointer, none⟩ := by kernel_rfl
theorem zo163 : zeroOf Try.prog 163 = (some [.nilptr]) := by kernel_rfl
instance : TyT Try.prog 163 ⟨1, false, (some [.nilptr]), .pointer, none⟩ := ⟨ty163⟩
instance : ZoT Try.prog 163 (some [.nilptr]) := ⟨zo163⟩
theorem ty165 : tinfo Try.prog 165 = some ⟨1, false, (some [.nilfn]), .fn, none⟩ := by kernel_rfl
theorem zo165 : zeroOf Try.prog 165 = (some [.nilfn]) := by kernel_rfl
instance : TyT Try.prog 165 ⟨1, false, (some [.nilfn]), .fn, none⟩ := ⟨ty165⟩
instance : ZoT Try.prog 165 (some [.nilfn]) := ⟨zo165⟩
theorem ty166 : tinfo Try.prog 166 = some ⟨1, false, (some [.nilfn]), .fn, none⟩ := by kernel_rfl
theorem zo166 : zeroOf Try.prog 166 = (some [.nilfn]) := by kernel_rfl
instance : TyT Try.prog 166 ⟨1, false, (some [.nilfn]), .fn, none⟩ := ⟨ty166⟩
instance : ZoT Try.prog 166 (some [.nilfn]) := ⟨zo166⟩
theorem ty172 : tinfo Try.prog 172 = some ⟨1, false, (some [.nilfn]), .fn, none⟩ := by kernel_rfl
theorem zo172 : zeroOf Try.prog 172 = (some [.nilfn]) := by kernel_rfl
instance : TyT Try.prog 172 ⟨1, false, (some [.nilfn]), .fn, none⟩ := ⟨ty172⟩
instance : ZoT Try.prog 172 (some [.nilfn]) := ⟨zo172⟩
theorem ty175 : tinfo Try.prog 175 = some ⟨1, false, (some [.nilfn]), .fn, none⟩ := by kernel_rfl
theorem zo175 : zeroOf Try.prog 175 = (some [.nilfn]) := by kernel_rfl
instance : TyT Try.prog 175 ⟨1, false, (some [.nilfn]), .fn, none⟩ := ⟨ty175⟩
instance : ZoT Try.prog 175 (some [.nilfn]) := ⟨zo175⟩
theorem ty176 : tinfo Try.prog 176 = some ⟨1, false, (some [.nilptr]), .pointer, none⟩ := by kernel_rfl
theorem zo176 : zeroOf Try.prog 176 = (some [.nilptr]) := by kernel_rfl
instance : TyT Try.prog 176 ⟨1, false, (some [.nilptr]), .pointer, none⟩ := ⟨ty176⟩
instance : ZoT Try.prog 176 (some [.nilptr]) := ⟨zo176⟩
theorem zv4 : zvOf Try.prog 4 = some (.bool false) := by kernel_rfl
instance : ZvT Try.prog 4 (.bool false) := ⟨zv4⟩

theorem mixed : Try.prog.follows .mixedOrders = true := by kernel_rfl
instance : MixT Try.prog := ⟨mixed⟩
theorem en3 : Enters Try.prog 3 := Try.call3
instance : EnT Try.prog 3 := ⟨en3⟩
theorem en4 : Enters Try.prog 4 := Try.call4
instance : EnT Try.prog 4 := ⟨en4⟩
theorem en5 : Enters Try.prog 5 := Try.call5
instance : EnT Try.prog 5 := ⟨en5⟩
theorem en6 : Enters Try.prog 6 := Try.call6
instance : EnT Try.prog 6 := ⟨en6⟩
theorem en7 : Enters Try.prog 7 := Try.call7
instance : EnT Try.prog 7 := ⟨en7⟩
theorem en8 : Enters Try.prog 8 := Try.call8
instance : EnT Try.prog 8 := ⟨en8⟩
theorem en9 : Enters Try.prog 9 := Try.call9
instance : EnT Try.prog 9 := ⟨en9⟩
theorem en10 : Enters Try.prog 10 := Try.call10
instance : EnT Try.prog 10 := ⟨en10⟩
theorem en11 : Enters Try.prog 11 := Try.call11
instance : EnT Try.prog 11 := ⟨en11⟩
theorem en12 : Enters Try.prog 12 := Try.call12
instance : EnT Try.prog 12 := ⟨en12⟩
theorem en13 : Enters Try.prog 13 := Try.call13
instance : EnT Try.prog 13 := ⟨en13⟩
theorem en14 : Enters Try.prog 14 := Try.call14
instance : EnT Try.prog 14 := ⟨en14⟩
theorem en15 : Enters Try.prog 15 := Try.call15
instance : EnT Try.prog 15 := ⟨en15⟩
theorem en16 : Enters Try.prog 16 := Try.call16
instance : EnT Try.prog 16 := ⟨en16⟩
theorem en17 : Enters Try.prog 17 := Try.call17
instance : EnT Try.prog 17 := ⟨en17⟩
theorem en18 : Enters Try.prog 18 := Try.call18
instance : EnT Try.prog 18 := ⟨en18⟩
theorem en19 : Enters Try.prog 19 := Try.call19
instance : EnT Try.prog 19 := ⟨en19⟩
theorem en20 : Enters Try.prog 20 := Try.call20
instance : EnT Try.prog 20 := ⟨en20⟩
theorem en21 : Enters Try.prog 21 := Try.call21
instance : EnT Try.prog 21 := ⟨en21⟩
theorem en22 : Enters Try.prog 22 := Try.call22
instance : EnT Try.prog 22 := ⟨en22⟩
theorem en23 : Enters Try.prog 23 := Try.call23
instance : EnT Try.prog 23 := ⟨en23⟩
theorem en24 : Enters Try.prog 24 := Try.call24
instance : EnT Try.prog 24 := ⟨en24⟩
theorem en25 : Enters Try.prog 25 := Try.call25
instance : EnT Try.prog 25 := ⟨en25⟩
theorem en26 : Enters Try.prog 26 := Try.call26
instance : EnT Try.prog 26 := ⟨en26⟩
theorem en27 : Enters Try.prog 27 := Try.call27
instance : EnT Try.prog 27 := ⟨en27⟩
theorem en28 : Enters Try.prog 28 := Try.call28
instance : EnT Try.prog 28 := ⟨en28⟩
theorem en29 : Enters Try.prog 29 := Try.call29
instance : EnT Try.prog 29 := ⟨en29⟩
theorem en30 : Enters Try.prog 30 := Try.call30
instance : EnT Try.prog 30 := ⟨en30⟩
theorem en31 : Enters Try.prog 31 := Try.call31
instance : EnT Try.prog 31 := ⟨en31⟩
theorem en32 : Enters Try.prog 32 := Try.call32
instance : EnT Try.prog 32 := ⟨en32⟩
theorem en33 : Enters Try.prog 33 := Try.call33
instance : EnT Try.prog 33 := ⟨en33⟩
theorem en34 : Enters Try.prog 34 := Try.call34
instance : EnT Try.prog 34 := ⟨en34⟩
theorem en35 : Enters Try.prog 35 := Try.call35
instance : EnT Try.prog 35 := ⟨en35⟩
theorem en36 : Enters Try.prog 36 := Try.call36
instance : EnT Try.prog 36 := ⟨en36⟩
theorem en37 : Enters Try.prog 37 := Try.call37
instance : EnT Try.prog 37 := ⟨en37⟩
theorem en38 : Enters Try.prog 38 := Try.call38
instance : EnT Try.prog 38 := ⟨en38⟩
theorem en39 : Enters Try.prog 39 := Try.call39
instance : EnT Try.prog 39 := ⟨en39⟩
theorem en40 : Enters Try.prog 40 := Try.call40
instance : EnT Try.prog 40 := ⟨en40⟩
theorem en41 : Enters Try.prog 41 := Try.call41
instance : EnT Try.prog 41 := ⟨en41⟩
theorem en42 : Enters Try.prog 42 := Try.call42
instance : EnT Try.prog 42 := ⟨en42⟩
theorem en43 : Enters Try.prog 43 := Try.call43
instance : EnT Try.prog 43 := ⟨en43⟩
theorem en44 : Enters Try.prog 44 := Try.call44
instance : EnT Try.prog 44 := ⟨en44⟩
theorem en45 : Enters Try.prog 45 := Try.call45
instance : EnT Try.prog 45 := ⟨en45⟩
theorem en46 : Enters Try.prog 46 := Try.call46
instance : EnT Try.prog 46 := ⟨en46⟩
theorem en47 : Enters Try.prog 47 := Try.call47
instance : EnT Try.prog 47 := ⟨en47⟩
theorem en48 : Enters Try.prog 48 := Try.call48
instance : EnT Try.prog 48 := ⟨en48⟩
theorem en49 : Enters Try.prog 49 := Try.call49
instance : EnT Try.prog 49 := ⟨en49⟩
theorem en50 : Enters Try.prog 50 := Try.call50
instance : EnT Try.prog 50 := ⟨en50⟩
theorem en51 : Enters Try.prog 51 := Try.call51
instance : EnT Try.prog 51 := ⟨en51⟩
theorem en52 : Enters Try.prog 52 := Try.call52
instance : EnT Try.prog 52 := ⟨en52⟩
theorem en53 : Enters Try.prog 53 := Try.call53
instance : EnT Try.prog 53 := ⟨en53⟩
theorem en54 : Enters Try.prog 54 := Try.call54
instance : EnT Try.prog 54 := ⟨en54⟩
theorem en55 : Enters Try.prog 55 := Try.call55
instance : EnT Try.prog 55 := ⟨en55⟩
theorem en56 : Enters Try.prog 56 := Try.call56
instance : EnT Try.prog 56 := ⟨en56⟩
theorem en57 : Enters Try.prog 57 := Try.call57
instance : EnT Try.prog 57 := ⟨en57⟩
theorem en58 : Enters Try.prog 58 := Try.call58
instance : EnT Try.prog 58 := ⟨en58⟩
theorem en59 : Enters Try.prog 59 := Try.call59
instance : EnT Try.prog 59 := ⟨en59⟩
theorem en60 : Enters Try.prog 60 := Try.call60
instance : EnT Try.prog 60 := ⟨en60⟩
theorem en61 : Enters Try.prog 61 := Try.call61
instance : EnT Try.prog 61 := ⟨en61⟩
theorem en62 : Enters Try.prog 62 := Try.call62
instance : EnT Try.prog 62 := ⟨en62⟩
theorem en63 : Enters Try.prog 63 := Try.call63
instance : EnT Try.prog 63 := ⟨en63⟩
theorem en64 : Enters Try.prog 64 := Try.call64
instance : EnT Try.prog 64 := ⟨en64⟩
theorem en65 : Enters Try.prog 65 := Try.call65
instance : EnT Try.prog 65 := ⟨en65⟩
theorem en66 : Enters Try.prog 66 := Try.call66
instance : EnT Try.prog 66 := ⟨en66⟩
theorem en67 : Enters Try.prog 67 := Try.call67
instance : EnT Try.prog 67 := ⟨en67⟩
theorem en68 : Enters Try.prog 68 := Try.call68
instance : EnT Try.prog 68 := ⟨en68⟩
theorem en69 : Enters Try.prog 69 := Try.call69
instance : EnT Try.prog 69 := ⟨en69⟩
theorem en70 : Enters Try.prog 70 := Try.call70
instance : EnT Try.prog 70 := ⟨en70⟩
theorem en71 : Enters Try.prog 71 := Try.call71
instance : EnT Try.prog 71 := ⟨en71⟩
theorem en72 : Enters Try.prog 72 := Try.call72
instance : EnT Try.prog 72 := ⟨en72⟩
theorem en73 : Enters Try.prog 73 := Try.call73
instance : EnT Try.prog 73 := ⟨en73⟩
theorem en74 : Enters Try.prog 74 := Try.call74
instance : EnT Try.prog 74 := ⟨en74⟩
theorem en75 : Enters Try.prog 75 := Try.call75
instance : EnT Try.prog 75 := ⟨en75⟩
theorem en76 : Enters Try.prog 76 := Try.call76
instance : EnT Try.prog 76 := ⟨en76⟩
theorem en77 : Enters Try.prog 77 := Try.call77
instance : EnT Try.prog 77 := ⟨en77⟩
theorem en78 : Enters Try.prog 78 := Try.call78
instance : EnT Try.prog 78 := ⟨en78⟩
theorem en79 : Enters Try.prog 79 := Try.call79
instance : EnT Try.prog 79 := ⟨en79⟩
theorem en80 : Enters Try.prog 80 := Try.call80
instance : EnT Try.prog 80 := ⟨en80⟩
theorem en81 : Enters Try.prog 81 := Try.call81
instance : EnT Try.prog 81 := ⟨en81⟩
theorem en82 : Enters Try.prog 82 := Try.call82
instance : EnT Try.prog 82 := ⟨en82⟩
theorem en83 : Enters Try.prog 83 := Try.call83
instance : EnT Try.prog 83 := ⟨en83⟩
theorem en84 : Enters Try.prog 84 := Try.call84
instance : EnT Try.prog 84 := ⟨en84⟩
theorem en85 : Enters Try.prog 85 := Try.call85
instance : EnT Try.prog 85 := ⟨en85⟩
theorem en86 : Enters Try.prog 86 := Try.call86
instance : EnT Try.prog 86 := ⟨en86⟩
theorem en87 : Enters Try.prog 87 := Try.call87
instance : EnT Try.prog 87 := ⟨en87⟩
theorem en88 : Enters Try.prog 88 := Try.call88
instance : EnT Try.prog 88 := ⟨en88⟩
theorem en89 : Enters Try.prog 89 := Try.call89
instance : EnT Try.prog 89 := ⟨en89⟩
theorem en90 : Enters Try.prog 90 := Try.call90
instance : EnT Try.prog 90 := ⟨en90⟩
theorem en91 : Enters Try.prog 91 := Try.call91
instance : EnT Try.prog 91 := ⟨en91⟩
theorem en92 : Enters Try.prog 92 := Try.call92
instance : EnT Try.prog 92 := ⟨en92⟩
theorem en93 : Enters Try.prog 93 := Try.call93
instance : EnT Try.prog 93 := ⟨en93⟩
theorem en94 : Enters Try.prog 94 := Try.call94
instance : EnT Try.prog 94 := ⟨en94⟩
theorem en95 : Enters Try.prog 95 := Try.call95
instance : EnT Try.prog 95 := ⟨en95⟩
theorem en96 : Enters Try.prog 96 := Try.call96
instance : EnT Try.prog 96 := ⟨en96⟩
theorem en97 : Enters Try.prog 97 := Try.call97
instance : EnT Try.prog 97 := ⟨en97⟩
theorem en98 : Enters Try.prog 98 := Try.call98
instance : EnT Try.prog 98 := ⟨en98⟩
theorem en99 : Enters Try.prog 99 := Try.call99
instance : EnT Try.prog 99 := ⟨en99⟩
theorem en100 : Enters Try.prog 100 := Try.call100
instance : EnT Try.prog 100 := ⟨en100⟩
theorem en101 : Enters Try.prog 101 := Try.call101
instance : EnT Try.prog 101 := ⟨en101⟩
theorem en102 : Enters Try.prog 102 := Try.call102
instance : EnT Try.prog 102 := ⟨en102⟩
theorem en103 : Enters Try.prog 103 := Try.call103
instance : EnT Try.prog 103 := ⟨en103⟩
theorem en104 : Enters Try.prog 104 := Try.call104
instance : EnT Try.prog 104 := ⟨en104⟩
theorem en105 : Enters Try.prog 105 := Try.call105
instance : EnT Try.prog 105 := ⟨en105⟩
theorem en106 : Enters Try.prog 106 := Try.call106
instance : EnT Try.prog 106 := ⟨en106⟩
theorem en107 : Enters Try.prog 107 := Try.call107
instance : EnT Try.prog 107 := ⟨en107⟩
theorem en108 : Enters Try.prog 108 := Try.call108
instance : EnT Try.prog 108 := ⟨en108⟩
theorem en109 : Enters Try.prog 109 := Try.call109
instance : EnT Try.prog 109 := ⟨en109⟩
theorem en110 : Enters Try.prog 110 := Try.call110
instance : EnT Try.prog 110 := ⟨en110⟩
theorem en111 : Enters Try.prog 111 := Try.call111
instance : EnT Try.prog 111 := ⟨en111⟩
theorem en112 : Enters Try.prog 112 := Try.call112
instance : EnT Try.prog 112 := ⟨en112⟩
theorem en113 : Enters Try.prog 113 := Try.call113
instance : EnT Try.prog 113 := ⟨en113⟩
theorem en114 : Enters Try.prog 114 := Try.call114
instance : EnT Try.prog 114 := ⟨en114⟩
theorem en115 : Enters Try.prog 115 := Try.call115
instance : EnT Try.prog 115 := ⟨en115⟩
theorem en116 : Enters Try.prog 116 := Try.call116
instance : EnT Try.prog 116 := ⟨en116⟩
theorem en117 : Enters Try.prog 117 := Try.call117
instance : EnT Try.prog 117 := ⟨en117⟩
theorem en118 : Enters Try.prog 118 := Try.call118
instance : EnT Try.prog 118 := ⟨en118⟩
theorem en119 : Enters Try.prog 119 := Try.call119
instance : EnT Try.prog 119 := ⟨en119⟩
theorem en120 : Enters Try.prog 120 := Try.call120
instance : EnT Try.prog 120 := ⟨en120⟩
theorem en121 : Enters Try.prog 121 := Try.call121
instance : EnT Try.prog 121 := ⟨en121⟩
theorem en122 : Enters Try.prog 122 := Try.call122
instance : EnT Try.prog 122 := ⟨en122⟩
theorem en123 : Enters Try.prog 123 := Try.call123
instance : EnT Try.prog 123 := ⟨en123⟩
theorem en124 : Enters Try.prog 124 := Try.call124
instance : EnT Try.prog 124 := ⟨en124⟩
theorem en125 : Enters Try.prog 125 := Try.call125
instance : EnT Try.prog 125 := ⟨en125⟩
theorem en126 : Enters Try.prog 126 := Try.call126
instance : EnT Try.prog 126 := ⟨en126⟩
theorem en127 : Enters Try.prog 127 := Try.call127
instance : EnT Try.prog 127 := ⟨en127⟩
theorem en128 : Enters Try.prog 128 := Try.call128
instance : EnT Try.prog 128 := ⟨en128⟩
theorem en129 : Enters Try.prog 129 := Try.call129
instance : EnT Try.prog 129 := ⟨en129⟩
theorem en130 : Enters Try.prog 130 := Try.call130
instance : EnT Try.prog 130 := ⟨en130⟩
theorem en131 : Enters Try.prog 131 := Try.call131
instance : EnT Try.prog 131 := ⟨en131⟩
theorem en133 : Enters Try.prog 133 := Try.call133
instance : EnT Try.prog 133 := ⟨en133⟩
theorem en134 : Enters Try.prog 134 := Try.call134
instance : EnT Try.prog 134 := ⟨en134⟩
theorem en135 : Enters Try.prog 135 := Try.call135
instance : EnT Try.prog 135 := ⟨en135⟩
theorem en136 : Enters Try.prog 136 := Try.call136
instance : EnT Try.prog 136 := ⟨en136⟩
theorem en137 : Enters Try.prog 137 := Try.call137
instance : EnT Try.prog 137 := ⟨en137⟩
theorem en138 : Enters Try.prog 138 := Try.call138
instance : EnT Try.prog 138 := ⟨en138⟩
theorem en139 : Enters Try.prog 139 := Try.call139
instance : EnT Try.prog 139 := ⟨en139⟩
theorem en140 : Enters Try.prog 140 := Try.call140
instance : EnT Try.prog 140 := ⟨en140⟩
theorem en141 : Enters Try.prog 141 := Try.call141
instance : EnT Try.prog 141 := ⟨en141⟩
theorem en142 : Enters Try.prog 142 := Try.call142
instance : EnT Try.prog 142 := ⟨en142⟩
theorem en143 : Enters Try.prog 143 := Try.call143
instance : EnT Try.prog 143 := ⟨en143⟩
theorem en144 : Enters Try.prog 144 := Try.call144
instance : EnT Try.prog 144 := ⟨en144⟩
theorem en145 : Enters Try.prog 145 := Try.call145
instance : EnT Try.prog 145 := ⟨en145⟩
theorem en146 : Enters Try.prog 146 := Try.call146
instance : EnT Try.prog 146 := ⟨en146⟩
theorem en147 : Enters Try.prog 147 := Try.call147
instance : EnT Try.prog 147 := ⟨en147⟩
theorem en148 : Enters Try.prog 148 := Try.call148
instance : EnT Try.prog 148 := ⟨en148⟩
theorem en149 : Enters Try.prog 149 := Try.call149
instance : EnT Try.prog 149 := ⟨en149⟩
theorem en150 : Enters Try.prog 150 := Try.call150
instance : EnT Try.prog 150 := ⟨en150⟩
theorem en151 : Enters Try.prog 151 := Try.call151
instance : EnT Try.prog 151 := ⟨en151⟩
end Go.Proofs.Ytbmpmmbcfabeeaa
