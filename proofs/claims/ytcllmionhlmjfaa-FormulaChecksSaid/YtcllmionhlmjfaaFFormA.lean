import Derived.Test.YtcllmionhlmjfaaFPvFz
import Derived.Test.YtcllmionhlmjfaaChecked
import Derived.Laws.RangeString
set_option linter.unusedVariables false
set_option linter.unusedSimpArgs false
set_option maxRecDepth 100000
set_option maxHeartbeats 4000000
namespace Go.Proofs.Ytcllmionhlmjfaa
open Go Go.Pv
theorem ty1 : tinfo Try.prog 1 = some ⟨1, false, (some [.nilfn]), .fn, none⟩ := by kernel_rfl
theorem zo1 : zeroOf Try.prog 1 = (some [.nilfn]) := by kernel_rfl
instance : TyT Try.prog 1 ⟨1, false, (some [.nilfn]), .fn, none⟩ := ⟨ty1⟩
instance : ZoT Try.prog 1 (some [.nilfn]) := ⟨zo1⟩
theorem ty2 : tinfo Try.prog 2 = some ⟨1, false, (some [.int .i64 0]), .int .i64, none⟩ := by kernel_rfl
theorem zo2 : zeroOf Try.prog 2 = (some [.int .i64 0]) := by kernel_rfl
instance : TyT Try.prog 2 ⟨1, false, (some [.int .i64 0]), .int .i64, none⟩ := ⟨ty2⟩
instance : ZoT Try.prog 2 (some [.int .i64 0]) := ⟨zo2⟩
theorem ty3 : tinfo Try.prog 3 = some ⟨1, false, (some [.int .i64 0]), .int .i64, none⟩ := by kernel_rfl
theorem zo3 : zeroOf Try.prog 3 = (some [.int .i64 0]) := by kernel_rfl
instance : TyT Try.prog 3 ⟨1, false, (some [.int .i64 0]), .int .i64, none⟩ := ⟨ty3⟩
instance : ZoT Try.prog 3 (some [.int .i64 0]) := ⟨zo3⟩
theorem ty4 : tinfo Try.prog 4 = some ⟨1, false, (some [.bool false]), .bool, none⟩ := by kernel_rfl
theorem zo4 : zeroOf Try.prog 4 = (some [.bool false]) := by kernel_rfl
instance : TyT Try.prog 4 ⟨1, false, (some [.bool false]), .bool, none⟩ := ⟨ty4⟩
instance : ZoT Try.prog 4 (some [.bool false]) := ⟨zo4⟩
theorem ty5 : tinfo Try.prog 5 = some ⟨1, false, (some [.int .u8 0]), .int .u8, none⟩ := by kernel_rfl
theorem zo5 : zeroOf Try.prog 5 = (some [.int .u8 0]) := by kernel_rfl
instance : TyT Try.prog 5 ⟨1, false, (some [.int .u8 0]), .int .u8, none⟩ := ⟨ty5⟩
instance : ZoT Try.prog 5 (some [.int .u8 0]) := ⟨zo5⟩
theorem ty9 : tinfo Try.prog 9 = some ⟨1, false, (some [.str ⟨#[]⟩]), .string, none⟩ := by kernel_rfl
theorem zo9 : zeroOf Try.prog 9 = (some [.str ⟨#[]⟩]) := by kernel_rfl
instance : TyT Try.prog 9 ⟨1, false, (some [.str ⟨#[]⟩]), .string, none⟩ := ⟨ty9⟩
instance : ZoT Try.prog 9 (some [.str ⟨#[]⟩]) := ⟨zo9⟩
theorem ty12 : tinfo Try.prog 12 = some ⟨1, false, (some [.int .u64 0]), .int .u64, none⟩ := by kernel_rfl
theorem zo12 : zeroOf Try.prog 12 = (some [.int .u64 0]) := by kernel_rfl
instance : TyT Try.prog 12 ⟨1, false, (some [.int .u64 0]), .int .u64, none⟩ := ⟨ty12⟩
instance : ZoT Try.prog 12 (some [.int .u64 0]) := ⟨zo12⟩
theorem ty21 : tinfo Try.prog 21 = some ⟨1, false, (some [.int .i32 0]), .int .i32, none⟩ := by kernel_rfl
theorem zo21 : zeroOf Try.prog 21 = (some [.int .i32 0]) := by kernel_rfl
instance : TyT Try.prog 21 ⟨1, false, (some [.int .i32 0]), .int .i32, none⟩ := ⟨ty21⟩
instance : ZoT Try.prog 21 (some [.int .i32 0]) := ⟨zo21⟩
theorem ty22 : tinfo Try.prog 22 = some ⟨1, false, (some [.nilsl]), .slice 24 3 48 true (some [.int .i64 0, .str ⟨#[]⟩, .nilsl]), none⟩ := by kernel_rfl
theorem zo22 : zeroOf Try.prog 22 = (some [.nilsl]) := by kernel_rfl
instance : TyT Try.prog 22 ⟨1, false, (some [.nilsl]), .slice 24 3 48 true (some [.int .i64 0, .str ⟨#[]⟩, .nilsl]), none⟩ := ⟨ty22⟩
instance : ZoT Try.prog 22 (some [.nilsl]) := ⟨zo22⟩
theorem ty24 : tinfo Try.prog 24 = some ⟨3, true, (some [.int .i64 0, .str ⟨#[]⟩, .nilsl]), .struct [(0, 3, 1, false), (1, 9, 1, false), (2, 22, 1, false)], (some [(0, .int .i64), (1, .string), (2, .other)])⟩ := by kernel_rfl
theorem zo24 : zeroOf Try.prog 24 = (some [.int .i64 0, .str ⟨#[]⟩, .nilsl]) := by kernel_rfl
instance : TyT Try.prog 24 ⟨3, true, (some [.int .i64 0, .str ⟨#[]⟩, .nilsl]), .struct [(0, 3, 1, false), (1, 9, 1, false), (2, 22, 1, false)], (some [(0, .int .i64), (1, .string), (2, .other)])⟩ := ⟨ty24⟩
instance : ZoT Try.prog 24 (some [.int .i64 0, .str ⟨#[]⟩, .nilsl]) := ⟨zo24⟩
theorem ty29 : tinfo Try.prog 29 = some ⟨2, true, (some [.int .i64 0, .int .i64 0]), .struct [(0, 3, 1, false), (1, 3, 1, false)], (some [(0, .int .i64), (1, .int .i64)])⟩ := by kernel_rfl
theorem zo29 : zeroOf Try.prog 29 = (some [.int .i64 0, .int .i64 0]) := by kernel_rfl
instance : TyT Try.prog 29 ⟨2, true, (some [.int .i64 0, .int .i64 0]), .struct [(0, 3, 1, false), (1, 3, 1, false)], (some [(0, .int .i64), (1, .int .i64)])⟩ := ⟨ty29⟩
instance : ZoT Try.prog 29 (some [.int .i64 0, .int .i64 0]) := ⟨zo29⟩
theorem ty32 : tinfo Try.prog 32 = some ⟨1, false, (some [.nilfn]), .fn, none⟩ := by kernel_rfl
theorem zo32 : zeroOf Try.prog 32 = (some [.nilfn]) := by kernel_rfl
instance : TyT Try.prog 32 ⟨1, false, (some [.nilfn]), .fn, none⟩ := ⟨ty32⟩
instance : ZoT Try.prog 32 (some [.nilfn]) := ⟨zo32⟩
theorem ty38 : tinfo Try.prog 38 = some ⟨1, false, (some [.nilfn]), .fn, none⟩ := by kernel_rfl
theorem zo38 : zeroOf Try.prog 38 = (some [.nilfn]) := by kernel_rfl
instance : TyT Try.prog 38 ⟨1, false, (some [.nilfn]), .fn, none⟩ := ⟨ty38⟩
instance : ZoT Try.prog 38 (some [.nilfn]) := ⟨zo38⟩
theorem ty40 : tinfo Try.prog 40 = some ⟨1, false, (some [.nilsl]), .slice 42 4 56 true (some [.int .i64 0, .str ⟨#[]⟩, .bool false, .nilsl]), none⟩ := by kernel_rfl
theorem zo40 : zeroOf Try.prog 40 = (some [.nilsl]) := by kernel_rfl
instance : TyT Try.prog 40 ⟨1, false, (some [.nilsl]), .slice 42 4 56 true (some [.int .i64 0, .str ⟨#[]⟩, .bool false, .nilsl]), none⟩ := ⟨ty40⟩
instance : ZoT Try.prog 40 (some [.nilsl]) := ⟨zo40⟩
theorem ty41 : tinfo Try.prog 41 = some ⟨4, true, (some [.int .i64 0, .str ⟨#[]⟩, .bool false, .nilsl]), .struct [(0, 3, 1, false), (1, 9, 1, false), (2, 4, 1, false), (3, 40, 1, false)], (some [(0, .int .i64), (1, .string), (2, .bool), (3, .other)])⟩ := by kernel_rfl
theorem zo41 : zeroOf Try.prog 41 = (some [.int .i64 0, .str ⟨#[]⟩, .bool false, .nilsl]) := by kernel_rfl
instance : TyT Try.prog 41 ⟨4, true, (some [.int .i64 0, .str ⟨#[]⟩, .bool false, .nilsl]), .struct [(0, 3, 1, false), (1, 9, 1, false), (2, 4, 1, false), (3, 40, 1, false)], (some [(0, .int .i64), (1, .string), (2, .bool), (3, .other)])⟩ := ⟨ty41⟩
instance : ZoT Try.prog 41 (some [.int .i64 0, .str ⟨#[]⟩, .bool false, .nilsl]) := ⟨zo41⟩
theorem ty42 : tinfo Try.prog 42 = some ⟨4, true, (some [.int .i64 0, .str ⟨#[]⟩, .bool false, .nilsl]), .struct [(0, 3, 1, false), (1, 9, 1, false), (2, 4, 1, false), (3, 40, 1, false)], (some [(0, .int .i64), (1, .string), (2, .bool), (3, .other)])⟩ := by kernel_rfl
theorem zo42 : zeroOf Try.prog 42 = (some [.int .i64 0, .str ⟨#[]⟩, .bool false, .nilsl]) := by kernel_rfl
instance : TyT Try.prog 42 ⟨4, true, (some [.int .i64 0, .str ⟨#[]⟩, .bool false, .nilsl]), .struct [(0, 3, 1, false), (1, 9, 1, false), (2, 4, 1, false), (3, 40, 1, false)], (some [(0, .int .i64), (1, .string), (2, .bool), (3, .other)])⟩ := ⟨ty42⟩
instance : ZoT Try.prog 42 (some [.int .i64 0, .str ⟨#[]⟩, .bool false, .nilsl]) := ⟨zo42⟩
theorem ty43 : tinfo Try.prog 43 = some ⟨1, false, (some [.nilsl]), .slice 48 2 16 true (some [.int .i64 0, .int .i64 0]), none⟩ := by kernel_rfl
theorem zo43 : zeroOf Try.prog 43 = (some [.nilsl]) := by kernel_rfl
instance : TyT Try.prog 43 ⟨1, false, (some [.nilsl]), .slice 48 2 16 true (some [.int .i64 0, .int .i64 0]), none⟩ := ⟨ty43⟩
instance : ZoT Try.prog 43 (some [.nilsl]) := ⟨zo43⟩
theorem ty44 : tinfo Try.prog 44 = some ⟨1, false, (some [.nilfn]), .fn, none⟩ := by kernel_rfl
theorem zo44 : zeroOf Try.prog 44 = (some [.nilfn]) := by kernel_rfl
instance : TyT Try.prog 44 ⟨1, false, (some [.nilfn]), .fn, none⟩ := ⟨ty44⟩
instance : ZoT Try.prog 44 (some [.nilfn]) := ⟨zo44⟩
theorem ty45 : tinfo Try.prog 45 = some ⟨1, false, (some [.nilfn]), .fn, none⟩ := by kernel_rfl
theorem zo45 : zeroOf Try.prog 45 = (some [.nilfn]) := by kernel_rfl
instance : TyT Try.prog 45 ⟨1, false, (some [.nilfn]), .fn, none⟩ := ⟨ty45⟩
instance : ZoT Try.prog 45 (some [.nilfn]) := ⟨zo45⟩
theorem ty47 : tinfo Try.prog 47 = some ⟨1, false, (some [.nilfn]), .fn, none⟩ := by kernel_rfl
theorem zo47 : zeroOf Try.prog 47 = (some [.nilfn]) := by kernel_rfl
instance : TyT Try.prog 47 ⟨1, false, (some [.nilfn]), .fn, none⟩ := ⟨ty47⟩
instance : ZoT Try.prog 47 (some [.nilfn]) := ⟨zo47⟩
theorem ty48 : tinfo Try.prog 48 = some ⟨2, true, (some [.int .i64 0, .int .i64 0]), .array 2 3 1 false, (some [(0, .int .i64), (1, .int .i64)])⟩ := by kernel_rfl
theorem zo48 : zeroOf Try.prog 48 = (some [.int .i64 0, .int .i64 0]) := by kernel_rfl
instance : TyT Try.prog 48 ⟨2, true, (some [.int .i64 0, .int .i64 0]), .array 2 3 1 false, (some [(0, .int .i64), (1, .int .i64)])⟩ := ⟨ty48⟩
instance : ZoT Try.prog 48 (some [.int .i64 0, .int .i64 0]) := ⟨zo48⟩
theorem ty50 : tinfo Try.prog 50 = some ⟨1, false, (some [.nilfn]), .fn, none⟩ := by kernel_rfl
theorem zo50 : zeroOf Try.prog 50 = (some [.nilfn]) := by kernel_rfl
instance : TyT Try.prog 50 ⟨1, false, (some [.nilfn]), .fn, none⟩ := ⟨ty50⟩
instance : ZoT Try.prog 50 (some [.nilfn]) := ⟨zo50⟩
theorem ty51 : tinfo Try.prog 51 = some ⟨1, false, (some [.nilfn]), .fn, none⟩ := by kernel_rfl
theorem zo51 : zeroOf Try.prog 51 = (some [.nilfn]) := by kernel_rfl
instance : TyT Try.prog 51 ⟨1, false, (some [.nilfn]), .fn, none⟩ := ⟨ty51⟩
instance : ZoT Try.prog 51 (some [.nilfn]) := ⟨zo51⟩
theorem ty52 : tinfo Try.prog 52 = some ⟨1, false, (some [.nilfn]), .fn, none⟩ := by kernel_rfl
theorem zo52 : zeroOf Try.prog 52 = (some [.nilfn]) := by kernel_rfl
instance : TyT Try.prog 52 ⟨1, false, (some [.nilfn]), .fn, none⟩ := ⟨ty52⟩
instance : ZoT Try.prog 52 (some [.nilfn]) := ⟨zo52⟩
theorem ty53 : tinfo Try.prog 53 = some ⟨1, false, (some [.nilfn]), .fn, none⟩ := by kernel_rfl
theorem zo53 : zeroOf Try.prog 53 = (some [.nilfn]) := by kernel_rfl
instance : TyT Try.prog 53 ⟨1, false, (some [.nilfn]), .fn, none⟩ := ⟨ty53⟩
instance : ZoT Try.prog 53 (some [.nilfn]) := ⟨zo53⟩
theorem ty54 : tinfo Try.prog 54 = some ⟨1, false, (some [.nilsl]), .slice 103 2 40 true (some [.str ⟨#[]⟩, .nilsl]), none⟩ := by kernel_rfl
theorem zo54 : zeroOf Try.prog 54 = (some [.nilsl]) := by kernel_rfl
instance : TyT Try.prog 54 ⟨1, false, (some [.nilsl]), .slice 103 2 40 true (some [.str ⟨#[]⟩, .nilsl]), none⟩ := ⟨ty54⟩
instance : ZoT Try.prog 54 (some [.nilsl]) := ⟨zo54⟩
theorem ty55 : tinfo Try.prog 55 = some ⟨1, false, (some [.nilsl]), .slice 57 4 72 true (some [.int .i64 0, .str ⟨#[]⟩, .nilsl, .nilsl]), none⟩ := by kernel_rfl
theorem zo55 : zeroOf Try.prog 55 = (some [.nilsl]) := by kernel_rfl
instance : TyT Try.prog 55 ⟨1, false, (some [.nilsl]), .slice 57 4 72 true (some [.int .i64 0, .str ⟨#[]⟩, .nilsl, .nilsl]), none⟩ := ⟨ty55⟩
instance : ZoT Try.prog 55 (some [.nilsl]) := ⟨zo55⟩
theorem ty56 : tinfo Try.prog 56 = some ⟨4, true, (some [.int .i64 0, .str ⟨#[]⟩, .nilsl, .nilsl]), .struct [(0, 3, 1, false), (1, 9, 1, false), (2, 54, 1, false), (3, 55, 1, false)], (some [(0, .int .i64), (1, .string), (2, .other), (3, .other)])⟩ := by kernel_rfl
theorem zo56 : zeroOf Try.prog 56 = (some [.int .i64 0, .str ⟨#[]⟩, .nilsl, .nilsl]) := by kernel_rfl
instance : TyT Try.prog 56 ⟨4, true, (some [.int .i64 0, .str ⟨#[]⟩, .nilsl, .nilsl]), .struct [(0, 3, 1, false), (1, 9, 1, false), (2, 54, 1, false), (3, 55, 1, false)], (some [(0, .int .i64), (1, .string), (2, .other), (3, .other)])⟩ := ⟨ty56⟩
instance : ZoT Try.prog 56 (some [.int .i64 0, .str ⟨#[]⟩, .nilsl, .nilsl]) := ⟨zo56⟩
theorem ty57 : tinfo Try.prog 57 = some ⟨4, true, (some [.int .i64 0, .str ⟨#[]⟩, .nilsl, .nilsl]), .struct [(0, 3, 1, false), (1, 9, 1, false), (2, 54, 1, false), (3, 55, 1, false)], (some [(0, .int .i64), (1, .string), (2, .other), (3, .other)])⟩ := by kernel_rfl
theorem zo57 : zeroOf Try.prog 57 = (some [.int .i64 0, .str ⟨#[]⟩, .nilsl, .nilsl]) := by kernel_rfl
instance : TyT Try.prog 57 ⟨4, true, (some [.int .i64 0, .str ⟨#[]⟩, .nilsl, .nilsl]), .struct [(0, 3, 1, false), (1, 9, 1, false), (2, 54, 1, false), (3, 55, 1, false)], (some [(0, .int .i64), (1, .string), (2, .other), (3, .other)])⟩ := ⟨ty57⟩
instance : ZoT Try.prog 57 (some [.int .i64 0, .str ⟨#[]⟩, .nilsl, .nilsl]) := ⟨zo57⟩
theorem ty59 : tinfo Try.prog 59 = some ⟨1, false, (some [.nilfn]), .fn, none⟩ := by kernel_rfl
theorem zo59 : zeroOf Try.prog 59 = (some [.nilfn]) := by kernel_rfl
instance : TyT Try.prog 59 ⟨1, false, (some [.nilfn]), .fn, none⟩ := ⟨ty59⟩
instance : ZoT Try.prog 59 (some [.nilfn]) := ⟨zo59⟩
theorem ty60 : tinfo Try.prog 60 = some ⟨1, false, (some [.nilfn]), .fn, none⟩ := by kernel_rfl
theorem zo60 : zeroOf Try.prog 60 = (some [.nilfn]) := by kernel_rfl
instance : TyT Try.prog 60 ⟨1, false, (some [.nilfn]), .fn, none⟩ := ⟨ty60⟩
instance : ZoT Try.prog 60 (some [.nilfn]) := ⟨zo60⟩
theorem ty62 : tinfo Try.prog 62 = some ⟨1, false, (some [.nilfn]), .fn, none⟩ := by kernel_rfl
theorem zo62 : zeroOf Try.prog 62 = (some [.nilfn]) := by kernel_rfl
instance : TyT Try.prog 62 ⟨1, false, (some [.nilfn]), .fn, none⟩ := ⟨ty62⟩
instance : ZoT Try.prog 62 (some [.nilfn]) := ⟨zo62⟩
theorem ty63 : tinfo Try.prog 63 = some ⟨1, false, (some [.nilfn]), .fn, none⟩ := by kernel_rfl
theorem zo63 : zeroOf Try.prog 63 = (some [.nilfn]) := by kernel_rfl
instance : TyT Try.prog 63 ⟨1, false, (some [.nilfn]), .fn, none⟩ := ⟨ty63⟩
instance : ZoT Try.prog 63 (some [.nilfn]) := ⟨zo63⟩
theorem ty65 : tinfo Try.prog 65 = some ⟨1, false, (some [.nilsl]), .slice 9 1 16 false (some [.str ⟨#[]⟩]), none⟩ := by kernel_rfl
theorem zo65 : zeroOf Try.prog 65 = (some [.nilsl]) := by kernel_rfl
instance : TyT Try.prog 65 ⟨1, false, (some [.nilsl]), .slice 9 1 16 false (some [.str ⟨#[]⟩]), none⟩ := ⟨ty65⟩
instance : ZoT Try.prog 65 (some [.nilsl]) := ⟨zo65⟩
theorem ty72 : tinfo Try.prog 72 = some ⟨1, false, (some [.nilfn]), .fn, none⟩ := by kernel_rfl
theorem zo72 : zeroOf Try.prog 72 = (some [.nilfn]) := by kernel_rfl
instance : TyT Try.prog 72 ⟨1, false, (some [.nilfn]), .fn, none⟩ := ⟨ty72⟩
instance : ZoT Try.prog 72 (some [.nilfn]) := ⟨zo72⟩
theorem ty79 : tinfo Try.prog 79 = some ⟨1, false, (some [.nilfn]), .fn, none⟩ := by kernel_rfl
theorem zo79 : zeroOf Try.prog 79 = (some [.nilfn]) := by kernel_rfl
instance : TyT Try.prog 79 ⟨1, false, (some [.nilfn]), .fn, none⟩ := ⟨ty79⟩
instance : ZoT Try.prog 79 (some [.nilfn]) := ⟨zo79⟩
theorem ty80 : tinfo Try.prog 80 = some ⟨1, false, (some [.nilfn]), .fn, none⟩ := by kernel_rfl
theorem zo80 : zeroOf Try.prog 80 = (some [.nilfn]) := by kernel_rfl
instance : TyT Try.prog 80 ⟨1, false, (some [.nilfn]), .fn, none⟩ := ⟨ty80⟩
instance : ZoT Try.prog 80 (some [.nilfn]) := ⟨zo80⟩
theorem ty81 : tinfo Try.prog 81 = some ⟨2, true, (some [.int .i64 0, .int .i64 0]), .struct [(0, 29, 2, true)], (some [(0, .other)])⟩ := by kernel_rfl
theorem zo81 : zeroOf Try.prog 81 = (some [.int .i64 0, .int .i64 0]) := by kernel_rfl
instance : TyT Try.prog 81 ⟨2, true, (some [.int .i64 0, .int .i64 0]), .struct [(0, 29, 2, true)], (some [(0, .other)])⟩ := ⟨ty81⟩
instance : ZoT Try.prog 81 (some [.int .i64 0, .int .i64 0]) := ⟨zo81⟩
theorem ty82 : tinfo Try.prog 82 = some ⟨2, true, (some [.int .i64 0, .int .i64 0]), .struct [(0, 29, 2, true)], (some [(0, .other)])⟩ := by kernel_rfl
theorem zo82 : zeroOf Try.prog 82 = (some [.int .i64 0, .int .i64 0]) := by kernel_rfl
instance : TyT Try.prog 82 ⟨2, true, (some [.int .i64 0, .int .i64 0]), .struct [(0, 29, 2, true)], (some [(0, .other)])⟩ := ⟨ty82⟩
instance : ZoT Try.prog 82 (some [.int .i64 0, .int .i64 0]) := ⟨zo82⟩
theorem ty83 : tinfo Try.prog 83 = some ⟨1, false, (some [.nilptr]), .pointer, none⟩ := by kernel_rfl
theorem zo83 : zeroOf Try.prog 83 = (some [.nilptr]) := by kernel_rfl
instance : TyT Try.prog 83 ⟨1, false, (some [.nilptr]), .pointer, none⟩ := ⟨ty83⟩
instance : ZoT Try.prog 83 (some [.nilptr]) := ⟨zo83⟩
theorem ty85 : tinfo Try.prog 85 = some ⟨2, true, (some [.str ⟨#[]⟩, .int .i64 0]), .struct [(0, 9, 1, false), (1, 3, 1, false)], (some [(0, .string), (1, .int .i64)])⟩ := by kernel_rfl
theorem zo85 : zeroOf Try.prog 85 = (some [.str ⟨#[]⟩, .int .i64 0]) := by kernel_rfl
instance : TyT Try.prog 85 ⟨2, true, (some [.str ⟨#[]⟩, .int .i64 0]), .struct [(0, 9, 1, false), (1, 3, 1, false)], (some [(0, .string), (1, .int .i64)])⟩ := ⟨ty85⟩
instance : ZoT Try.prog 85 (some [.str ⟨#[]⟩, .int .i64 0]) := ⟨zo85⟩
theorem ty91 : tinfo Try.prog 91 = some ⟨1, false, (some [.nilfn]), .fn, none⟩ := by kernel_rfl
theorem zo91 : zeroOf Try.prog 91 = (some [.nilfn]) := by kernel_rfl
instance : TyT Try.prog 91 ⟨1, false, (some [.nilfn]), .fn, none⟩ := ⟨ty91⟩
instance : ZoT Try.prog 91 (some [.nilfn]) := ⟨zo91⟩
theorem ty93 : tinfo Try.prog 93 = some ⟨1, false, (some [.nilptr]), .pointer, none⟩ := by kernel_rfl
theorem zo93 : zeroOf Try.prog 93 = (some [.nilptr]) := by kernel_rfl
instance : TyT Try.prog 93 ⟨1, false, (some [.nilptr]), .pointer, none⟩ := ⟨ty93⟩
instance : ZoT Try.prog 93 (some [.nilptr]) := ⟨zo93⟩
theorem ty97 : tinfo Try.prog 97 = some ⟨1, false, (some [.nilptr]), .pointer, none⟩ := by kernel_rfl
theorem zo97 : zeroOf Try.prog 97 = (some [.nilptr]) := by kernel_rfl
instance : TyT Try.prog 97 ⟨1, false, (some [.nilptr]), .pointer, none⟩ := ⟨ty97⟩
instance : ZoT Try.prog 97 (some [.nilptr]) := ⟨zo97⟩
theorem ty103 : tinfo Try.prog 103 = some ⟨2, true, (some [.str ⟨#[]⟩, .nilsl]), .struct [(0, 9, 1, false), (1, 54, 1, false)], (some [(0, .string), (1, .other)])⟩ := by kernel_rfl
theorem zo103 : zeroOf Try.prog 103 = (some [.str ⟨#[]⟩, .nilsl]) := by kernel_rfl
instance : TyT Try.prog 103 ⟨2, true, (some [.str ⟨#[]⟩, .nilsl]), .struct [(0, 9, 1, false), (1, 54, 1, false)], (some [(0, .string), (1, .other)])⟩ := ⟨ty103⟩
instance : ZoT Try.prog 103 (some [.str ⟨#[]⟩, .nilsl]) := ⟨zo103⟩
theorem ty105 : tinfo Try.prog 105 = some ⟨1, false, (some [.nilfn]), .fn, none⟩ := by kernel_rfl
theorem zo105 : zeroOf Try.prog 105 = (some [.nilfn]) := by kernel_rfl
instance : TyT Try.prog 105 ⟨1, false, (some [.nilfn]), .fn, none⟩ := ⟨ty105⟩
instance : ZoT Try.prog 105 (some [.nilfn]) := ⟨zo105⟩
theorem ty106 : tinfo Try.prog 106 = some ⟨1, false, (some [.nilfn]), .fn, none⟩ := by kernel_rfl
theorem zo106 : zeroOf Try.prog 106 = (some [.nilfn]) := by kernel_rfl
instance : TyT Try.prog 106 ⟨1, false, (some [.nilfn]), .fn, none⟩ := ⟨ty106⟩
instance : ZoT Try.prog 106 (some [.nilfn]) := ⟨zo106⟩
theorem ty107 : tinfo Try.prog 107 = some ⟨1, false, (some [.nilsl]), .slice 3 1 8 false (some [.int .i64 0]), none⟩ := by kernel_rfl
theorem zo107 : zeroOf Try.prog 107 = (some [.nilsl]) := by kernel_rfl
instance : TyT Try.prog 107 ⟨1, false, (some [.nilsl]), .slice 3 1 8 false (some [.int .i64 0]), none⟩ := ⟨ty107⟩
instance : ZoT Try.prog 107 (some [.nilsl]) := ⟨zo107⟩
theorem ty112 : tinfo Try.prog 112 = some ⟨4, true, (some [.nilsl, .nilsl, .nilsl, .nilsl]), .struct [(0, 107, 1, false), (1, 43, 1, false), (2, 107, 1, false), (3, 107, 1, false)], (some [(0, .other), (1, .other), (2, .other), (3, .other)])⟩ := by kernel_rfl
theorem zo112 : zeroOf Try.prog 112 = (some [.nilsl, .nilsl, .nilsl, .nilsl]) := by kernel_rfl
instance : TyT Try.prog 112 ⟨4, true, (some [.nilsl, .nilsl, .nilsl, .nilsl]), .struct [(0, 107, 1, false), (1, 43, 1, false), (2, 107, 1, false), (3, 107, 1, false)], (some [(0, .other), (1, .other), (2, .other), (3, .other)])⟩ := ⟨ty112⟩
instance : ZoT Try.prog 112 (some [.nilsl, .nilsl, .nilsl, .nilsl]) := ⟨zo112⟩
theorem ty113 : tinfo Try.prog 113 = some ⟨4, true, (some [.nilsl, .nilsl, .nilsl, .nilsl]), .struct [(0, 107, 1, false), (1, 43, 1, false), (2, 107, 1, false), (3, 107, 1, false)], (some [(0, .other), (1, .other), (2, .other), (3, .other)])⟩ := by kernel_rfl
theorem zo113 : zeroOf Try.prog 113 = (some [.nilsl, .nilsl, .nilsl, .nilsl]) := by kernel_rfl
instance : TyT Try.prog 113 ⟨4, true, (some [.nilsl, .nilsl, .nilsl, .nilsl]), .struct [(0, 107, 1, false), (1, 43, 1, false), (2, 107, 1, false), (3, 107, 1, false)], (some [(0, .other), (1, .other), (2, .other), (3, .other)])⟩ := ⟨ty113⟩
instance : ZoT Try.prog 113 (some [.nilsl, .nilsl, .nilsl, .nilsl]) := ⟨zo113⟩
theorem ty122 : tinfo Try.prog 122 = some ⟨1, false, (some [.nilptr]), .pointer, none⟩ := by kernel_rfl
theorem zo122 : zeroOf Try.prog 122 = (some [.nilptr]) := by kernel_rfl
instance : TyT Try.prog 122 ⟨1, false, (some [.nilptr]), .pointer, none⟩ := ⟨ty122⟩
instance : ZoT Try.prog 122 (some [.nilptr]) := ⟨zo122⟩
theorem ty124 : tinfo Try.prog 124 = some ⟨2, true, (some [.str ⟨#[]⟩, .int .i64 0]), .struct [(0, 9, 1, false), (1, 3, 1, false)], (some [(0, .string), (1, .int .i64)])⟩ := by kernel_rfl
theorem zo124 : zeroOf Try.prog 124 = (some [.str ⟨#[]⟩, .int .i64 0]) := by kernel_rfl
instance : TyT Try.prog 124 ⟨2, true, (some [.str ⟨#[]⟩, .int .i64 0]), .struct [(0, 9, 1, false), (1, 3, 1, false)], (some [(0, .string), (1, .int .i64)])⟩ := ⟨ty124⟩
instance : ZoT Try.prog 124 (some [.str ⟨#[]⟩, .int .i64 0]) := ⟨zo124⟩
theorem ty126 : tinfo Try.prog 126 = some ⟨1, false, (some [.nilfn]), .fn, none⟩ := by kernel_rfl
theorem zo126 : zeroOf Try.prog 126 = (some [.nilfn]) := by kernel_rfl
instance : TyT Try.prog 126 ⟨1, false, (some [.nilfn]), .fn, none⟩ := ⟨ty126⟩
instance : ZoT Try.prog 126 (some [.nilfn]) := ⟨zo126⟩
theorem ty128 : tinfo Try.prog 128 = some ⟨1, false, (some [.nilmap]), .map 9 3, none⟩ := by kernel_rfl
theorem zo128 : zeroOf Try.prog 128 = (some [.nilmap]) := by kernel_rfl
instance : TyT Try.prog 128 ⟨1, false, (some [.nilmap]), .map 9 3, none⟩ := ⟨ty128⟩
instance : ZoT Try.prog 128 (some [.nilmap]) := ⟨zo128⟩
theorem ty129 : tinfo Try.prog 129 = some ⟨2, true, (some [.int .i64 0, .nilmap]), .struct [(0, 3, 1, false), (1, 128, 1, false)], (some [(0, .int .i64), (1, .other)])⟩ := by kernel_rfl
theorem zo129 : zeroOf Try.prog 129 = (some [.int .i64 0, .nilmap]) := by kernel_rfl
instance : TyT Try.prog 129 ⟨2, true, (some [.int .i64 0, .nilmap]), .struct [(0, 3, 1, false), (1, 128, 1, false)], (some [(0, .int .i64), (1, .other)])⟩ := ⟨ty129⟩
instance : ZoT Try.prog 129 (some [.int .i64 0, .nilmap]) := ⟨zo129⟩
theorem ty200 : tinfo Try.prog 200 = some ⟨1, false, (some [.nilfn]), .fn, none⟩ := by kernel_rfl
theorem zo200 : zeroOf Try.prog 200 = (some [.nilfn]) := by kernel_rfl
instance : TyT Try.prog 200 ⟨1, false, (some [.nilfn]), .fn, none⟩ := ⟨ty200⟩
instance : ZoT Try.prog 200 (some [.nilfn]) := ⟨zo200⟩
theorem ty201 : tinfo Try.prog 201 = some ⟨1, false, (some [.nilfn]), .fn, none⟩ := by kernel_rfl
theorem zo201 : zeroOf Try.prog 201 = (some [.nilfn]) := by kernel_rfl
instance : TyT Try.prog 201 ⟨1, false, (some [.nilfn]), .fn, none⟩ := ⟨ty201⟩
instance : ZoT Try.prog 201 (some [.nilfn]) := ⟨zo201⟩
theorem zv3 : zvOf Try.prog 3 = some (.int .i64 0) := by kernel_rfl
instance : ZvT Try.prog 3 (.int .i64 0) := ⟨zv3⟩
theorem zv4 : zvOf Try.prog 4 = some (.bool false) := by kernel_rfl
instance : ZvT Try.prog 4 (.bool false) := ⟨zv4⟩
theorem mixed : Try.prog.follows .mixedOrders = true := by kernel_rfl
instance : MixT Try.prog := ⟨mixed⟩
theorem en3 : Enters Try.prog 3 := Try.call3
instance : EnT Try.prog 3 := ⟨en3⟩
theorem en9 : Enters Try.prog 9 := Try.call9
instance : EnT Try.prog 9 := ⟨en9⟩
theorem en11 : Enters Try.prog 11 := Try.call11
instance : EnT Try.prog 11 := ⟨en11⟩
theorem en12 : Enters Try.prog 12 := Try.call12
instance : EnT Try.prog 12 := ⟨en12⟩
theorem en13 : Enters Try.prog 13 := Try.call13
instance : EnT Try.prog 13 := ⟨en13⟩
theorem en14 : Enters Try.prog 14 := Try.call14
instance : EnT Try.prog 14 := ⟨en14⟩
theorem en15 : Enters Try.prog 15 := Try.call15
instance : EnT Try.prog 15 := ⟨en15⟩
theorem en16 : Enters Try.prog 16 := Try.call16
instance : EnT Try.prog 16 := ⟨en16⟩
theorem en17 : Enters Try.prog 17 := Try.call17
instance : EnT Try.prog 17 := ⟨en17⟩
theorem en18 : Enters Try.prog 18 := Try.call18
instance : EnT Try.prog 18 := ⟨en18⟩
theorem en19 : Enters Try.prog 19 := Try.call19
instance : EnT Try.prog 19 := ⟨en19⟩
theorem en20 : Enters Try.prog 20 := Try.call20
instance : EnT Try.prog 20 := ⟨en20⟩
theorem en24 : Enters Try.prog 24 := Try.call24
instance : EnT Try.prog 24 := ⟨en24⟩
theorem en44 : Enters Try.prog 44 := Try.call44
instance : EnT Try.prog 44 := ⟨en44⟩
theorem en45 : Enters Try.prog 45 := Try.call45
instance : EnT Try.prog 45 := ⟨en45⟩
theorem en47 : Enters Try.prog 47 := Try.call47
instance : EnT Try.prog 47 := ⟨en47⟩
theorem en48 : Enters Try.prog 48 := Try.call48
instance : EnT Try.prog 48 := ⟨en48⟩
theorem en49 : Enters Try.prog 49 := Try.call49
instance : EnT Try.prog 49 := ⟨en49⟩
theorem en50 : Enters Try.prog 50 := Try.call50
instance : EnT Try.prog 50 := ⟨en50⟩
theorem en51 : Enters Try.prog 51 := Try.call51
instance : EnT Try.prog 51 := ⟨en51⟩
theorem en52 : Enters Try.prog 52 := Try.call52
instance : EnT Try.prog 52 := ⟨en52⟩
theorem en53 : Enters Try.prog 53 := Try.call53
instance : EnT Try.prog 53 := ⟨en53⟩
theorem en54 : Enters Try.prog 54 := Try.call54
instance : EnT Try.prog 54 := ⟨en54⟩
theorem en55 : Enters Try.prog 55 := Try.call55
instance : EnT Try.prog 55 := ⟨en55⟩
theorem en56 : Enters Try.prog 56 := Try.call56
instance : EnT Try.prog 56 := ⟨en56⟩
theorem en57 : Enters Try.prog 57 := Try.call57
instance : EnT Try.prog 57 := ⟨en57⟩
theorem en58 : Enters Try.prog 58 := Try.call58
instance : EnT Try.prog 58 := ⟨en58⟩
theorem en59 : Enters Try.prog 59 := Try.call59
instance : EnT Try.prog 59 := ⟨en59⟩
theorem en60 : Enters Try.prog 60 := Try.call60
instance : EnT Try.prog 60 := ⟨en60⟩
theorem en79 : Enters Try.prog 79 := Try.call79
instance : EnT Try.prog 79 := ⟨en79⟩
theorem en80 : Enters Try.prog 80 := Try.call80
instance : EnT Try.prog 80 := ⟨en80⟩
theorem en81 : Enters Try.prog 81 := Try.call81
instance : EnT Try.prog 81 := ⟨en81⟩
theorem en82 : Enters Try.prog 82 := Try.call82
instance : EnT Try.prog 82 := ⟨en82⟩
theorem en83 : Enters Try.prog 83 := Try.call83
instance : EnT Try.prog 83 := ⟨en83⟩
theorem en105 : Enters Try.prog 105 := Try.call105
instance : EnT Try.prog 105 := ⟨en105⟩
theorem en106 : Enters Try.prog 106 := Try.call106
instance : EnT Try.prog 106 := ⟨en106⟩
theorem en107 : Enters Try.prog 107 := Try.call107
instance : EnT Try.prog 107 := ⟨en107⟩
theorem en128 : Enters Try.prog 128 := Try.call128
instance : EnT Try.prog 128 := ⟨en128⟩
theorem en129 : Enters Try.prog 129 := Try.call129
instance : EnT Try.prog 129 := ⟨en129⟩
theorem en146 : Enters Try.prog 146 := Try.call146
instance : EnT Try.prog 146 := ⟨en146⟩
end Go.Proofs.Ytcllmionhlmjfaa
namespace Go.Proofs.Ytcllmionhlmjfaa
open Go Go.Pv
theorem fault_formula (c a : Int) (s : Store) : CallOK Try.prog 50 [.int .i64 c, .int .i64 a] s (.agg [.int .i64 c, .int .i64 a]) s := by
 refine CallOK.frame ?_ ?_
 ·refine callOK_of Try.func50 rfl rfl Try.ntmps50 (by simp) ?_
  rw [Try.results50]
  dsimp only [light, regL, dsts, lopsL, lop, nth]
  (have F_ := True.intro); repeat' (first | (with_reducible refine stp ?_) | (with_reducible refine hq _ _ ?_; clear hq q) | (with_reducible refine hk _ _ ?_; clear hk k) | (with_reducible refine EvL.regA (fun k hk => ?_)) | ((with_reducible apply WOps.call); (· fail)) | (with_reducible refine WOps.auto F_ (fun q hq => ?_)) | ((with_reducible refine EvL.condA ?_ ?_); all_goals (intro h <;> (try simp only [hna, hnb, hnc, ne_eq, reduceCtorEq, Int.reduceEq, gt_iff_lt, ge_iff_le] at h) <;> (try (exfalso; omega; done)))) | (with_reducible refine EvL.drawnA (fun k hk => ?_)) | (with_reducible refine EvL.mixA (fun k hk => ?_)) | (with_reducible refine EvL.mix2A (fun k hk => ?_)) | (with_reducible refine WMix.bothA F_ ?_ ?_) | (with_reducible refine WOps.takeA ?_) | (with_reducible refine WOps.passA ?_) | ((with_reducible refine WOps.splitA ?_ ?_); all_goals (intro h <;> simp only [h] <;> (try simp only [hna, hnb, hnc, ne_eq, reduceCtorEq, Int.reduceEq, gt_iff_lt, ge_iff_le] at h) <;> (try (exfalso; omega; done)))) | (with_reducible refine WMix.takeA ?_) | (with_reducible refine WMix.passA ?_) | (with_reducible refine WMix.consA F_ ?_) | (with_reducible refine WMix.makeA F_ ?_) | ((with_reducible refine And.intro ?_ ?_); (· omega)) | ((with_reducible refine And.intro (fun h => ?_) (fun h => ?_)) <;> (try simp only [Decidable.not_not] at h) <;> (try simp only [h])) | (with_reducible intro hl))
  (refine finA ?_; try exact trivial)
 ·simp [flat_int, Flat.closed]
def kidsN (n : Int) : Int := if n = 1 ∨ n = 2 ∨ n = 3 then 0 else if n = 4 ∨ n = 8 ∨ n = 9 then 1 else if n = 5 ∨ n = 6 ∨ n = 7 then 2 else -1
theorem kids_formula (n : Int) (s : Store) : CallOK Try.prog 49 [.int .i64 n] s (.int .i64 (kidsN n)) s := by
 refine CallOK.frame ?_ ?_
 ·refine callOK_of Try.func49 rfl rfl Try.ntmps49 (by simp) ?_
  rw [Try.results49]
  dsimp only [light, regL, dsts, lopsL, lop, nth]
  (have F_ := True.intro); repeat' (first | (with_reducible refine stp ?_) | (with_reducible refine hq _ _ ?_; clear hq q) | (with_reducible refine hk _ _ ?_; clear hk k) | (with_reducible refine EvL.regA (fun k hk => ?_)) | ((with_reducible apply WOps.call); (· fail)) | (with_reducible refine WOps.auto F_ (fun q hq => ?_)) | ((with_reducible refine EvL.condA ?_ ?_); all_goals (intro h <;> (try simp only [hna, hnb, hnc, ne_eq, reduceCtorEq, Int.reduceEq, gt_iff_lt, ge_iff_le] at h) <;> (try (exfalso; omega; done)))) | (with_reducible refine EvL.drawnA (fun k hk => ?_)) | (with_reducible refine EvL.mixA (fun k hk => ?_)) | (with_reducible refine EvL.mix2A (fun k hk => ?_)) | (with_reducible refine WMix.bothA F_ ?_ ?_) | (with_reducible refine WOps.takeA ?_) | (with_reducible refine WOps.passA ?_) | ((with_reducible refine WOps.splitA ?_ ?_); all_goals (intro h <;> simp only [h] <;> (try simp only [hna, hnb, hnc, ne_eq, reduceCtorEq, Int.reduceEq, gt_iff_lt, ge_iff_le] at h) <;> (try (exfalso; omega; done)))) | (with_reducible refine WMix.takeA ?_) | (with_reducible refine WMix.passA ?_) | (with_reducible refine WMix.consA F_ ?_) | (with_reducible refine WMix.makeA F_ ?_) | ((with_reducible refine And.intro ?_ ?_); (· omega)) | ((with_reducible refine And.intro (fun h => ?_) (fun h => ?_)) <;> (try simp only [Decidable.not_not] at h) <;> (try simp only [h])) | (with_reducible intro hl))
  all_goals
   refine ⟨trivial, ?_⟩
   simp only [WRes, Env.upd, reduceIte, Nat.reduceEqDiff]
   refine RetView.done 6 ?_
   simp only [deref, retV, PV.int.injEq, true_and]
   unfold kidsN
   omega
 ·simp [flat_int, Flat.closed]
def letterB (b : UInt8) : Bool := decide (97 ≤ b.toNat ∧ b.toNat ≤ 122)
def isNameB (s : ByteArray) : Bool := decide (1 ≤ s.size ∧ s.size ≤ 8) && s.data.toList.all letterB
theorem decode_high (s : ByteArray) (i : Nat) (h : i < s.size) (hb : 128 ≤ s[i].toNat) : 128 ≤ (Utf8.decode s i).1 := by
 have hg : (s.get! (i + 0)).toNat = s[i].toNat := by
  rw [Nat.add_zero]
  show (s.data[i]!).toNat = _
  rw [getElem!_pos s.data i h]; rfl
 unfold Utf8.decode
 simp only [hg, Utf8.runeError]
 rw [if_neg (by omega)]
 split
 ·split
  ·assumption
  ·decide
 ·split
  ·split
   ·rename_i h1; simp only [Bool.and_eq_true, decide_eq_true_eq] at h1; omega
   ·decide
  ·split
   ·split
    ·rename_i h1; simp only [Bool.and_eq_true, decide_eq_true_eq] at h1; omega
    ·decide
   ·decide
theorem decode_letter (s : ByteArray) (i : Nat) (h : i < s.size) : (letterB s[i] = true → Utf8.decode s i = (s[i].toNat, 1)) ∧ (letterB s[i] = false → (Utf8.decode s i).1 < 97 ∨ 122 < (Utf8.decode s i).1) := by
 refine ⟨fun hl => ?_, fun hl => ?_⟩
 ·simp only [letterB, decide_eq_true_eq] at hl
  exact decode_ascii s i h (by omega)
 ·simp only [letterB, decide_eq_false_iff_not] at hl
  by_cases hb : s[i].toNat < 128
  ·rw [decode_ascii s i h hb]; simp only; omega
  ·have := decode_high s i h (by omega); omega
theorem all_letter (s : ByteArray) : s.data.toList.all letterB = true ↔ ∀ i (h : i < s.size), letterB s[i] = true := by
 rw [List.all_eq_true]
 constructor
 ·intro h i hi; exact h _ (by simp [ByteArray.getElem_eq_getElem_data])
 ·intro h b hb
  obtain ⟨i, hi, rfl⟩ := List.mem_iff_getElem.1 hb
  exact h i (by simpa using hi)
theorem letter_of_decode (t : ByteArray) (i : Nat) (hi : i < t.size) (h1 : 97 ≤ ((Utf8.decode t i).1 : Int)) (h2 : ((Utf8.decode t i).1 : Int) ≤ 122) : letterB t[i] = true := by
 cases hb : letterB t[i] with
 | true => rfl
 | false => have := (decode_letter t i hi).2 hb; omega
theorem no_name (t : ByteArray) (i : Nat) (hi : i < t.size) (h : ((Utf8.decode t i).1 : Int) < 97 ∨ 122 < ((Utf8.decode t i).1 : Int)) : isNameB t = false := by
 have h1 : letterB t[i] = false := by
  cases hb : letterB t[i] with
  | false => rfl
  | true =>
   have := (decode_letter t i hi).1 hb
   simp only [letterB, decide_eq_true_eq] at hb
   rw [this] at h; simp only at h; omega
 have h2 : ¬ t.data.toList.all letterB = true := by
  rw [all_letter]; intro h3; rw [h3 i hi] at h1; cases h1
 simp [isNameB, h2]
theorem isName_formula (t : ByteArray) (s : Store) : CallOK Try.prog 51 [.str t] s (.bool (isNameB t)) s := by
 have _hty := ty21
 refine CallOK.frame ?_ ?_
 ·refine callOK_of Try.func51 rfl rfl Try.ntmps51 (by simp) ?_
  rw [Try.results51]
  dsimp only [light, regL, dsts, lopsL, lop, nth]
  (have F_ := True.intro); repeat' (first | (with_reducible refine stp ?_) | (with_reducible refine hq _ _ ?_; clear hq q) | (with_reducible refine hk _ _ ?_; clear hk k) | (with_reducible refine EvL.regA (fun k hk => ?_)) | ((with_reducible apply WOps.call); (· fail)) | (with_reducible refine WOps.auto F_ (fun q hq => ?_)) | ((with_reducible refine EvL.condA ?_ ?_); all_goals (intro h <;> (try simp only [hna, hnb, hnc, ne_eq, reduceCtorEq, Int.reduceEq, gt_iff_lt, ge_iff_le] at h) <;> (try (exfalso; omega; done)))) | (with_reducible refine EvL.drawnA (fun k hk => ?_)) | (with_reducible refine EvL.mixA (fun k hk => ?_)) | (with_reducible refine EvL.mix2A (fun k hk => ?_)) | (with_reducible refine WMix.bothA F_ ?_ ?_) | (with_reducible refine WOps.takeA ?_) | (with_reducible refine WOps.passA ?_) | ((with_reducible refine WOps.splitA ?_ ?_); all_goals (intro h <;> simp only [h] <;> (try simp only [hna, hnb, hnc, ne_eq, reduceCtorEq, Int.reduceEq, gt_iff_lt, ge_iff_le] at h) <;> (try (exfalso; omega; done)))) | (with_reducible refine WMix.takeA ?_) | (with_reducible refine WMix.passA ?_) | (with_reducible refine WMix.consA F_ ?_) | (with_reducible refine WMix.makeA F_ ?_) | ((with_reducible refine And.intro ?_ ?_); (· omega)) | ((with_reducible refine And.intro (fun h => ?_) (fun h => ?_)) <;> (try simp only [Decidable.not_not] at h) <;> (try simp only [h])) | (with_reducible intro hl))
  all_goals first | ((refine finA ?_; try exact trivial); simp [isNameB]; omega; done) | skip
  ·refine EvL.loop (X := Nat) (fun i => [(0, .str t), (14, .ptr 0 0 0)]) (fun i => [.iter t i]) (fun i => i ≤ t.size ∧ ∀ j (h : j < t.size), j < i → letterB t[j] = true) (fun i => t.size - i) 0 ⟨by omega, fun j _ h => by omega⟩
    (View.of [0] _ (by simp) (by decide) (by (refine vw ?_; try exact trivial)) (by (refine vw ?_; try exact trivial))) (fun i hi => ?_)
   (have F_ := True.intro); repeat' (first | (with_reducible refine stp ?_) | (with_reducible refine hq _ _ ?_; clear hq q) | (with_reducible refine hk _ _ ?_; clear hk k) | (with_reducible refine EvL.regA (fun k hk => ?_)) | ((with_reducible apply WOps.call); (· fail)) | (with_reducible refine WOps.auto F_ (fun q hq => ?_)) | ((with_reducible refine EvL.condA ?_ ?_); all_goals (intro h <;> (try simp only [hna, hnb, hnc, ne_eq, reduceCtorEq, Int.reduceEq, gt_iff_lt, ge_iff_le] at h) <;> (try (exfalso; omega; done)))) | (with_reducible refine EvL.drawnA (fun k hk => ?_)) | (with_reducible refine EvL.mixA (fun k hk => ?_)) | (with_reducible refine EvL.mix2A (fun k hk => ?_)) | (with_reducible refine WMix.bothA F_ ?_ ?_) | (with_reducible refine WOps.takeA ?_) | (with_reducible refine WOps.passA ?_) | ((with_reducible refine WOps.splitA ?_ ?_); all_goals (intro h <;> simp only [h] <;> (try simp only [hna, hnb, hnc, ne_eq, reduceCtorEq, Int.reduceEq, gt_iff_lt, ge_iff_le] at h) <;> (try (exfalso; omega; done)))) | (with_reducible refine WMix.takeA ?_) | (with_reducible refine WMix.passA ?_) | (with_reducible refine WMix.consA F_ ?_) | (with_reducible refine WMix.makeA F_ ?_) | ((with_reducible refine And.intro ?_ ?_); (· omega)) | ((with_reducible refine And.intro (fun h => ?_) (fun h => ?_)) <;> (try simp only [Decidable.not_not] at h) <;> (try simp only [h])) | (with_reducible intro hl))
   all_goals first | ((refine finA ?_; try exact trivial); rw [no_name t i ‹_› (by omega)]; done) | skip
   ·have h1 : letterB t[i] = true := letter_of_decode t i ‹_› (by omega) (by omega)
    have h2 := (decode_letter t i ‹_›).1 h1
    rw [h2]
    refine ⟨i + 1, ⟨by omega, fun j hj hji => ?_⟩, by omega, View.of [0] _ (by simp) (by decide) (by (refine vw ?_; try exact trivial)) (by (refine vw ?_; try exact trivial))⟩
    by_cases e : j = i
    ·subst e; exact h1
    ·exact hi.2 j hj (by omega)
   ·(refine finA ?_; try exact trivial)
    have h2 : t.data.toList.all letterB = true := by
     rw [all_letter]; intro j hj; exact hi.2 j hj (by omega)
    simp [isNameB, h2]; omega
 ·simp [flat_str, Flat.closed]
end Go.Proofs.Ytcllmionhlmjfaa
