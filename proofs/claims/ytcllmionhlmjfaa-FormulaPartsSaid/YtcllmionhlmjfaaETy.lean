import Derived.Test.YtcllmionhlmjfaaEPvFz
import Derived.Test.YtcllmionhlmjfaaChecked
namespace Go.Proofs.Ytcllmionhlmjfaa
open Go Go.Pv
theorem ty1 : tinfo Try.prog 1 = some ⟨1, false, (some [.nilfn]), .fn, none⟩ := by kernel_rfl
theorem zo1 : zeroOf Try.prog 1 = (some [.nilfn]) := by kernel_rfl
instance : TyT Try.prog 1 ⟨1, false, (some [.nilfn]), .fn, none⟩ := ⟨ty1⟩
instance : ZoT Try.prog 1 (some [.nilfn]) := ⟨zo1⟩
theorem ty2 : tinfo Try.prog 2 = some ⟨1, false, (some [.int .i64 0]), .int .i64, none⟩ := by kernel_rfl
theorem zo2 : zeroOf Try.prog 2 = (some [.int .i64 0]) := by kernel_rfl
instance : TyT Try.prog 2 ⟨1, false, (some [.int .i64 0]), .int .i64, none⟩ := ⟨ty2⟩
instance : ZoT Try.prog 2 (some [.int .i64 0]) := ⟨zo2⟩
theorem ty3 : tinfo Try.prog 3 = some ⟨1, false, (some [.int .i64 0]), .int .i64, none⟩ := by kernel_rfl
theorem zo3 : zeroOf Try.prog 3 = (some [.int .i64 0]) := by kernel_rfl
instance : TyT Try.prog 3 ⟨1, false, (some [.int .i64 0]), .int .i64, none⟩ := ⟨ty3⟩
instance : ZoT Try.prog 3 (some [.int .i64 0]) := ⟨zo3⟩
theorem ty4 : tinfo Try.prog 4 = some ⟨1, false, (some [.bool false]), .bool, none⟩ := by kernel_rfl
theorem zo4 : zeroOf Try.prog 4 = (some [.bool false]) := by kernel_rfl
instance : TyT Try.prog 4 ⟨1, false, (some [.bool false]), .bool, none⟩ := ⟨ty4⟩
instance : ZoT Try.prog 4 (some [.bool false]) := ⟨zo4⟩
theorem ty5 : tinfo Try.prog 5 = some ⟨1, false, (some [.int .u8 0]), .int .u8, none⟩ := by kernel_rfl
theorem zo5 : zeroOf Try.prog 5 = (some [.int .u8 0]) := by kernel_rfl
instance : TyT Try.prog 5 ⟨1, false, (some [.int .u8 0]), .int .u8, none⟩ := ⟨ty5⟩
instance : ZoT Try.prog 5 (some [.int .u8 0]) := ⟨zo5⟩
theorem ty9 : tinfo Try.prog 9 = some ⟨1, false, (some [.str ⟨#[]⟩]), .string, none⟩ := by kernel_rfl
theorem zo9 : zeroOf Try.prog 9 = (some [.str ⟨#[]⟩]) := by kernel_rfl
instance : TyT Try.prog 9 ⟨1, false, (some [.str ⟨#[]⟩]), .string, none⟩ := ⟨ty9⟩
instance : ZoT Try.prog 9 (some [.str ⟨#[]⟩]) := ⟨zo9⟩
theorem ty12 : tinfo Try.prog 12 = some ⟨1, false, (some [.int .u64 0]), .int .u64, none⟩ := by kernel_rfl
theorem zo12 : zeroOf Try.prog 12 = (some [.int .u64 0]) := by kernel_rfl
instance : TyT Try.prog 12 ⟨1, false, (some [.int .u64 0]), .int .u64, none⟩ := ⟨ty12⟩
instance : ZoT Try.prog 12 (some [.int .u64 0]) := ⟨zo12⟩
theorem ty21 : tinfo Try.prog 21 = some ⟨1, false, (some [.int .i32 0]), .int .i32, none⟩ := by kernel_rfl
theorem zo21 : zeroOf Try.prog 21 = (some [.int .i32 0]) := by kernel_rfl
instance : TyT Try.prog 21 ⟨1, false, (some [.int .i32 0]), .int .i32, none⟩ := ⟨ty21⟩
instance : ZoT Try.prog 21 (some [.int .i32 0]) := ⟨zo21⟩
theorem ty22 : tinfo Try.prog 22 = some ⟨1, false, (some [.nilsl]), .slice 24 3 48 true (some [.int .i64 0, .str ⟨#[]⟩, .nilsl]), none⟩ := by kernel_rfl
theorem zo22 : zeroOf Try.prog 22 = (some [.nilsl]) := by kernel_rfl
instance : TyT Try.prog 22 ⟨1, false, (some [.nilsl]), .slice 24 3 48 true (some [.int .i64 0, .str ⟨#[]⟩, .nilsl]), none⟩ := ⟨ty22⟩
instance : ZoT Try.prog 22 (some [.nilsl]) := ⟨zo22⟩
theorem ty24 : tinfo Try.prog 24 = some ⟨3, true, (some [.int .i64 0, .str ⟨#[]⟩, .nilsl]), .struct [(0, 3, 1, false), (1, 9, 1, false), (2, 22, 1, false)], (some [(0, .int .i64), (1, .string), (2, .other)])⟩ := by kernel_rfl
theorem zo24 : zeroOf Try.prog 24 = (some [.int .i64 0, .str ⟨#[]⟩, .nilsl]) := by kernel_rfl
instance : TyT Try.prog 24 ⟨3, true, (some [.int .i64 0, .str ⟨#[]⟩, .nilsl]), .struct [(0, 3, 1, false), (1, 9, 1, false), (2, 22, 1, false)], (some [(0, .int .i64), (1, .string), (2, .other)])⟩ := ⟨ty24⟩
instance : ZoT Try.prog 24 (some [.int .i64 0, .str ⟨#[]⟩, .nilsl]) := ⟨zo24⟩
theorem ty29 : tinfo Try.prog 29 = some ⟨2, true, (some [.int .i64 0, .int .i64 0]), .struct [(0, 3, 1, false), (1, 3, 1, false)], (some [(0, .int .i64), (1, .int .i64)])⟩ := by kernel_rfl
theorem zo29 : zeroOf Try.prog 29 = (some [.int .i64 0, .int .i64 0]) := by kernel_rfl
instance : TyT Try.prog 29 ⟨2, true, (some [.int .i64 0, .int .i64 0]), .struct [(0, 3, 1, false), (1, 3, 1, false)], (some [(0, .int .i64), (1, .int .i64)])⟩ := ⟨ty29⟩
instance : ZoT Try.prog 29 (some [.int .i64 0, .int .i64 0]) := ⟨zo29⟩
theorem ty32 : tinfo Try.prog 32 = some ⟨1, false, (some [.nilfn]), .fn, none⟩ := by kernel_rfl
theorem zo32 : zeroOf Try.prog 32 = (some [.nilfn]) := by kernel_rfl
instance : TyT Try.prog 32 ⟨1, false, (some [.nilfn]), .fn, none⟩ := ⟨ty32⟩
instance : ZoT Try.prog 32 (some [.nilfn]) := ⟨zo32⟩
theorem ty35 : tinfo Try.prog 35 = some ⟨1, false, (some [.nilfn]), .fn, none⟩ := by kernel_rfl
theorem zo35 : zeroOf Try.prog 35 = (some [.nilfn]) := by kernel_rfl
instance : TyT Try.prog 35 ⟨1, false, (some [.nilfn]), .fn, none⟩ := ⟨ty35⟩
instance : ZoT Try.prog 35 (some [.nilfn]) := ⟨zo35⟩
theorem ty37 : tinfo Try.prog 37 = some ⟨1, false, (some [.nilfn]), .fn, none⟩ := by kernel_rfl
theorem zo37 : zeroOf Try.prog 37 = (some [.nilfn]) := by kernel_rfl
instance : TyT Try.prog 37 ⟨1, false, (some [.nilfn]), .fn, none⟩ := ⟨ty37⟩
instance : ZoT Try.prog 37 (some [.nilfn]) := ⟨zo37⟩
theorem ty38 : tinfo Try.prog 38 = some ⟨1, false, (some [.nilfn]), .fn, none⟩ := by kernel_rfl
theorem zo38 : zeroOf Try.prog 38 = (some [.nilfn]) := by kernel_rfl
instance : TyT Try.prog 38 ⟨1, false, (some [.nilfn]), .fn, none⟩ := ⟨ty38⟩
instance : ZoT Try.prog 38 (some [.nilfn]) := ⟨zo38⟩
theorem ty39 : tinfo Try.prog 39 = some ⟨1, false, (some [.nilfn]), .fn, none⟩ := by kernel_rfl
theorem zo39 : zeroOf Try.prog 39 = (some [.nilfn]) := by kernel_rfl
instance : TyT Try.prog 39 ⟨1, false, (some [.nilfn]), .fn, none⟩ := ⟨ty39⟩
instance : ZoT Try.prog 39 (some [.nilfn]) := ⟨zo39⟩
theorem ty40 : tinfo Try.prog 40 = some ⟨1, false, (some [.nilsl]), .slice 42 4 56 true (some [.int .i64 0, .str ⟨#[]⟩, .bool false, .nilsl]), none⟩ := by kernel_rfl
theorem zo40 : zeroOf Try.prog 40 = (some [.nilsl]) := by kernel_rfl
instance : TyT Try.prog 40 ⟨1, false, (some [.nilsl]), .slice 42 4 56 true (some [.int .i64 0, .str ⟨#[]⟩, .bool false, .nilsl]), none⟩ := ⟨ty40⟩
instance : ZoT Try.prog 40 (some [.nilsl]) := ⟨zo40⟩
theorem ty41 : tinfo Try.prog 41 = some ⟨4, true, (some [.int .i64 0, .str ⟨#[]⟩, .bool false, .nilsl]), .struct [(0, 3, 1, false), (1, 9, 1, false), (2, 4, 1, false), (3, 40, 1, false)], (some [(0, .int .i64), (1, .string), (2, .bool), (3, .other)])⟩ := by kernel_rfl
theorem zo41 : zeroOf Try.prog 41 = (some [.int .i64 0, .str ⟨#[]⟩, .bool false, .nilsl]) := by kernel_rfl
instance : TyT Try.prog 41 ⟨4, true, (some [.int .i64 0, .str ⟨#[]⟩, .bool false, .nilsl]), .struct [(0, 3, 1, false), (1, 9, 1, false), (2, 4, 1, false), (3, 40, 1, false)], (some [(0, .int .i64), (1, .string), (2, .bool), (3, .other)])⟩ := ⟨ty41⟩
instance : ZoT Try.prog 41 (some [.int .i64 0, .str ⟨#[]⟩, .bool false, .nilsl]) := ⟨zo41⟩
theorem ty42 : tinfo Try.prog 42 = some ⟨4, true, (some [.int .i64 0, .str ⟨#[]⟩, .bool false, .nilsl]), .struct [(0, 3, 1, false), (1, 9, 1, false), (2, 4, 1, false), (3, 40, 1, false)], (some [(0, .int .i64), (1, .string), (2, .bool), (3, .other)])⟩ := by kernel_rfl
theorem zo42 : zeroOf Try.prog 42 = (some [.int .i64 0, .str ⟨#[]⟩, .bool false, .nilsl]) := by kernel_rfl
instance : TyT Try.prog 42 ⟨4, true, (some [.int .i64 0, .str ⟨#[]⟩, .bool false, .nilsl]), .struct [(0, 3, 1, false), (1, 9, 1, false), (2, 4, 1, false), (3, 40, 1, false)], (some [(0, .int .i64), (1, .string), (2, .bool), (3, .other)])⟩ := ⟨ty42⟩
instance : ZoT Try.prog 42 (some [.int .i64 0, .str ⟨#[]⟩, .bool false, .nilsl]) := ⟨zo42⟩
theorem ty43 : tinfo Try.prog 43 = some ⟨1, false, (some [.nilsl]), .slice 48 2 16 true (some [.int .i64 0, .int .i64 0]), none⟩ := by kernel_rfl
theorem zo43 : zeroOf Try.prog 43 = (some [.nilsl]) := by kernel_rfl
instance : TyT Try.prog 43 ⟨1, false, (some [.nilsl]), .slice 48 2 16 true (some [.int .i64 0, .int .i64 0]), none⟩ := ⟨ty43⟩
instance : ZoT Try.prog 43 (some [.nilsl]) := ⟨zo43⟩
theorem ty44 : tinfo Try.prog 44 = some ⟨1, false, (some [.nilfn]), .fn, none⟩ := by kernel_rfl
theorem zo44 : zeroOf Try.prog 44 = (some [.nilfn]) := by kernel_rfl
instance : TyT Try.prog 44 ⟨1, false, (some [.nilfn]), .fn, none⟩ := ⟨ty44⟩
instance : ZoT Try.prog 44 (some [.nilfn]) := ⟨zo44⟩
theorem ty45 : tinfo Try.prog 45 = some ⟨1, false, (some [.nilfn]), .fn, none⟩ := by kernel_rfl
theorem zo45 : zeroOf Try.prog 45 = (some [.nilfn]) := by kernel_rfl
instance : TyT Try.prog 45 ⟨1, false, (some [.nilfn]), .fn, none⟩ := ⟨ty45⟩
instance : ZoT Try.prog 45 (some [.nilfn]) := ⟨zo45⟩
theorem ty46 : tinfo Try.prog 46 = some ⟨1, false, (some [.nilfn]), .fn, none⟩ := by kernel_rfl
theorem zo46 : zeroOf Try.prog 46 = (some [.nilfn]) := by kernel_rfl
instance : TyT Try.prog 46 ⟨1, false, (some [.nilfn]), .fn, none⟩ := ⟨ty46⟩
instance : ZoT Try.prog 46 (some [.nilfn]) := ⟨zo46⟩
theorem ty47 : tinfo Try.prog 47 = some ⟨1, false, (some [.nilfn]), .fn, none⟩ := by kernel_rfl
theorem zo47 : zeroOf Try.prog 47 = (some [.nilfn]) := by kernel_rfl
instance : TyT Try.prog 47 ⟨1, false, (some [.nilfn]), .fn, none⟩ := ⟨ty47⟩
instance : ZoT Try.prog 47 (some [.nilfn]) := ⟨zo47⟩
theorem ty48 : tinfo Try.prog 48 = some ⟨2, true, (some [.int .i64 0, .int .i64 0]), .array 2 3 1 false, (some [(0, .int .i64), (1, .int .i64)])⟩ := by kernel_rfl
theorem zo48 : zeroOf Try.prog 48 = (some [.int .i64 0, .int .i64 0]) := by kernel_rfl
instance : TyT Try.prog 48 ⟨2, true, (some [.int .i64 0, .int .i64 0]), .array 2 3 1 false, (some [(0, .int .i64), (1, .int .i64)])⟩ := ⟨ty48⟩
instance : ZoT Try.prog 48 (some [.int .i64 0, .int .i64 0]) := ⟨zo48⟩
theorem ty50 : tinfo Try.prog 50 = some ⟨1, false, (some [.nilfn]), .fn, none⟩ := by kernel_rfl
theorem zo50 : zeroOf Try.prog 50 = (some [.nilfn]) := by kernel_rfl
instance : TyT Try.prog 50 ⟨1, false, (some [.nilfn]), .fn, none⟩ := ⟨ty50⟩
instance : ZoT Try.prog 50 (some [.nilfn]) := ⟨zo50⟩
theorem ty51 : tinfo Try.prog 51 = some ⟨1, false, (some [.nilfn]), .fn, none⟩ := by kernel_rfl
theorem zo51 : zeroOf Try.prog 51 = (some [.nilfn]) := by kernel_rfl
instance : TyT Try.prog 51 ⟨1, false, (some [.nilfn]), .fn, none⟩ := ⟨ty51⟩
instance : ZoT Try.prog 51 (some [.nilfn]) := ⟨zo51⟩
theorem ty52 : tinfo Try.prog 52 = some ⟨1, false, (some [.nilfn]), .fn, none⟩ := by kernel_rfl
theorem zo52 : zeroOf Try.prog 52 = (some [.nilfn]) := by kernel_rfl
instance : TyT Try.prog 52 ⟨1, false, (some [.nilfn]), .fn, none⟩ := ⟨ty52⟩
instance : ZoT Try.prog 52 (some [.nilfn]) := ⟨zo52⟩
theorem ty53 : tinfo Try.prog 53 = some ⟨1, false, (some [.nilfn]), .fn, none⟩ := by kernel_rfl
theorem zo53 : zeroOf Try.prog 53 = (some [.nilfn]) := by kernel_rfl
instance : TyT Try.prog 53 ⟨1, false, (some [.nilfn]), .fn, none⟩ := ⟨ty53⟩
instance : ZoT Try.prog 53 (some [.nilfn]) := ⟨zo53⟩
theorem ty54 : tinfo Try.prog 54 = some ⟨1, false, (some [.nilsl]), .slice 103 2 40 true (some [.str ⟨#[]⟩, .nilsl]), none⟩ := by kernel_rfl
theorem zo54 : zeroOf Try.prog 54 = (some [.nilsl]) := by kernel_rfl
instance : TyT Try.prog 54 ⟨1, false, (some [.nilsl]), .slice 103 2 40 true (some [.str ⟨#[]⟩, .nilsl]), none⟩ := ⟨ty54⟩
instance : ZoT Try.prog 54 (some [.nilsl]) := ⟨zo54⟩
theorem ty55 : tinfo Try.prog 55 = some ⟨1, false, (some [.nilsl]), .slice 57 4 72 true (some [.int .i64 0, .str ⟨#[]⟩, .nilsl, .nilsl]), none⟩ := by kernel_rfl
theorem zo55 : zeroOf Try.prog 55 = (some [.nilsl]) := by kernel_rfl
instance : TyT Try.prog 55 ⟨1, false, (some [.nilsl]), .slice 57 4 72 true (some [.int .i64 0, .str ⟨#[]⟩, .nilsl, .nilsl]), none⟩ := ⟨ty55⟩
instance : ZoT Try.prog 55 (some [.nilsl]) := ⟨zo55⟩
theorem ty56 : tinfo Try.prog 56 = some ⟨4, true, (some [.int .i64 0, .str ⟨#[]⟩, .nilsl, .nilsl]), .struct [(0, 3, 1, false), (1, 9, 1, false), (2, 54, 1, false), (3, 55, 1, false)], (some [(0, .int .i64), (1, .string), (2, .other), (3, .other)])⟩ := by kernel_rfl
theorem zo56 : zeroOf Try.prog 56 = (some [.int .i64 0, .str ⟨#[]⟩, .nilsl, .nilsl]) := by kernel_rfl
instance : TyT Try.prog 56 ⟨4, true, (some [.int .i64 0, .str ⟨#[]⟩, .nilsl, .nilsl]), .struct [(0, 3, 1, false), (1, 9, 1, false), (2, 54, 1, false), (3, 55, 1, false)], (some [(0, .int .i64), (1, .string), (2, .other), (3, .other)])⟩ := ⟨ty56⟩
instance : ZoT Try.prog 56 (some [.int .i64 0, .str ⟨#[]⟩, .nilsl, .nilsl]) := ⟨zo56⟩
theorem ty57 : tinfo Try.prog 57 = some ⟨4, true, (some [.int .i64 0, .str ⟨#[]⟩, .nilsl, .nilsl]), .struct [(0, 3, 1, false), (1, 9, 1, false), (2, 54, 1, false), (3, 55, 1, false)], (some [(0, .int .i64), (1, .string), (2, .other), (3, .other)])⟩ := by kernel_rfl
theorem zo57 : zeroOf Try.prog 57 = (some [.int .i64 0, .str ⟨#[]⟩, .nilsl, .nilsl]) := by kernel_rfl
instance : TyT Try.prog 57 ⟨4, true, (some [.int .i64 0, .str ⟨#[]⟩, .nilsl, .nilsl]), .struct [(0, 3, 1, false), (1, 9, 1, false), (2, 54, 1, false), (3, 55, 1, false)], (some [(0, .int .i64), (1, .string), (2, .other), (3, .other)])⟩ := ⟨ty57⟩
instance : ZoT Try.prog 57 (some [.int .i64 0, .str ⟨#[]⟩, .nilsl, .nilsl]) := ⟨zo57⟩
theorem ty60 : tinfo Try.prog 60 = some ⟨1, false, (some [.nilfn]), .fn, none⟩ := by kernel_rfl
theorem zo60 : zeroOf Try.prog 60 = (some [.nilfn]) := by kernel_rfl
instance : TyT Try.prog 60 ⟨1, false, (some [.nilfn]), .fn, none⟩ := ⟨ty60⟩
instance : ZoT Try.prog 60 (some [.nilfn]) := ⟨zo60⟩
theorem ty62 : tinfo Try.prog 62 = some ⟨1, false, (some [.nilfn]), .fn, none⟩ := by kernel_rfl
theorem zo62 : zeroOf Try.prog 62 = (some [.nilfn]) := by kernel_rfl
instance : TyT Try.prog 62 ⟨1, false, (some [.nilfn]), .fn, none⟩ := ⟨ty62⟩
instance : ZoT Try.prog 62 (some [.nilfn]) := ⟨zo62⟩
theorem ty65 : tinfo Try.prog 65 = some ⟨1, false, (some [.nilsl]), .slice 9 1 16 false (some [.str ⟨#[]⟩]), none⟩ := by kernel_rfl
theorem zo65 : zeroOf Try.prog 65 = (some [.nilsl]) := by kernel_rfl
instance : TyT Try.prog 65 ⟨1, false, (some [.nilsl]), .slice 9 1 16 false (some [.str ⟨#[]⟩]), none⟩ := ⟨ty65⟩
instance : ZoT Try.prog 65 (some [.nilsl]) := ⟨zo65⟩
theorem ty72 : tinfo Try.prog 72 = some ⟨1, false, (some [.nilfn]), .fn, none⟩ := by kernel_rfl
theorem zo72 : zeroOf Try.prog 72 = (some [.nilfn]) := by kernel_rfl
instance : TyT Try.prog 72 ⟨1, false, (some [.nilfn]), .fn, none⟩ := ⟨ty72⟩
instance : ZoT Try.prog 72 (some [.nilfn]) := ⟨zo72⟩
theorem ty75 : tinfo Try.prog 75 = some ⟨1, false, (some [.nilfn]), .fn, none⟩ := by kernel_rfl
theorem zo75 : zeroOf Try.prog 75 = (some [.nilfn]) := by kernel_rfl
instance : TyT Try.prog 75 ⟨1, false, (some [.nilfn]), .fn, none⟩ := ⟨ty75⟩
instance : ZoT Try.prog 75 (some [.nilfn]) := ⟨zo75⟩
theorem ty76 : tinfo Try.prog 76 = some ⟨1, false, (some [.nilfn]), .fn, none⟩ := by kernel_rfl
theorem zo76 : zeroOf Try.prog 76 = (some [.nilfn]) := by kernel_rfl
instance : TyT Try.prog 76 ⟨1, false, (some [.nilfn]), .fn, none⟩ := ⟨ty76⟩
instance : ZoT Try.prog 76 (some [.nilfn]) := ⟨zo76⟩
theorem ty77 : tinfo Try.prog 77 = some ⟨1, false, (some [.nilfn]), .fn, none⟩ := by kernel_rfl
theorem zo77 : zeroOf Try.prog 77 = (some [.nilfn]) := by kernel_rfl
instance : TyT Try.prog 77 ⟨1, false, (some [.nilfn]), .fn, none⟩ := ⟨ty77⟩
instance : ZoT Try.prog 77 (some [.nilfn]) := ⟨zo77⟩
theorem ty78 : tinfo Try.prog 78 = some ⟨1, false, (some [.nilfn]), .fn, none⟩ := by kernel_rfl
theorem zo78 : zeroOf Try.prog 78 = (some [.nilfn]) := by kernel_rfl
instance : TyT Try.prog 78 ⟨1, false, (some [.nilfn]), .fn, none⟩ := ⟨ty78⟩
instance : ZoT Try.prog 78 (some [.nilfn]) := ⟨zo78⟩
theorem ty79 : tinfo Try.prog 79 = some ⟨1, false, (some [.nilfn]), .fn, none⟩ := by kernel_rfl
theorem zo79 : zeroOf Try.prog 79 = (some [.nilfn]) := by kernel_rfl
instance : TyT Try.prog 79 ⟨1, false, (some [.nilfn]), .fn, none⟩ := ⟨ty79⟩
instance : ZoT Try.prog 79 (some [.nilfn]) := ⟨zo79⟩
theorem ty80 : tinfo Try.prog 80 = some ⟨1, false, (some [.nilfn]), .fn, none⟩ := by kernel_rfl
theorem zo80 : zeroOf Try.prog 80 = (some [.nilfn]) := by kernel_rfl
instance : TyT Try.prog 80 ⟨1, false, (some [.nilfn]), .fn, none⟩ := ⟨ty80⟩
instance : ZoT Try.prog 80 (some [.nilfn]) := ⟨zo80⟩
theorem ty81 : tinfo Try.prog 81 = some ⟨2, true, (some [.int .i64 0, .int .i64 0]), .struct [(0, 29, 2, true)], (some [(0, .other)])⟩ := by kernel_rfl
theorem zo81 : zeroOf Try.prog 81 = (some [.int .i64 0, .int .i64 0]) := by kernel_rfl
instance : TyT Try.prog 81 ⟨2, true, (some [.int .i64 0, .int .i64 0]), .struct [(0, 29, 2, true)], (some [(0, .other)])⟩ := ⟨ty81⟩
instance : ZoT Try.prog 81 (some [.int .i64 0, .int .i64 0]) := ⟨zo81⟩
theorem ty82 : tinfo Try.prog 82 = some ⟨2, true, (some [.int .i64 0, .int .i64 0]), .struct [(0, 29, 2, true)], (some [(0, .other)])⟩ := by kernel_rfl
theorem zo82 : zeroOf Try.prog 82 = (some [.int .i64 0, .int .i64 0]) := by kernel_rfl
instance : TyT Try.prog 82 ⟨2, true, (some [.int .i64 0, .int .i64 0]), .struct [(0, 29, 2, true)], (some [(0, .other)])⟩ := ⟨ty82⟩
instance : ZoT Try.prog 82 (some [.int .i64 0, .int .i64 0]) := ⟨zo82⟩
theorem ty83 : tinfo Try.prog 83 = some ⟨1, false, (some [.nilptr]), .pointer, none⟩ := by kernel_rfl
theorem zo83 : zeroOf Try.prog 83 = (some [.nilptr]) := by kernel_rfl
instance : TyT Try.prog 83 ⟨1, false, (some [.nilptr]), .pointer, none⟩ := ⟨ty83⟩
instance : ZoT Try.prog 83 (some [.nilptr]) := ⟨zo83⟩
theorem ty85 : tinfo Try.prog 85 = some ⟨2, true, (some [.str ⟨#[]⟩, .int .i64 0]), .struct [(0, 9, 1, false), (1, 3, 1, false)], (some [(0, .string), (1, .int .i64)])⟩ := by kernel_rfl
theorem zo85 : zeroOf Try.prog 85 = (some [.str ⟨#[]⟩, .int .i64 0]) := by kernel_rfl
instance : TyT Try.prog 85 ⟨2, true, (some [.str ⟨#[]⟩, .int .i64 0]), .struct [(0, 9, 1, false), (1, 3, 1, false)], (some [(0, .string), (1, .int .i64)])⟩ := ⟨ty85⟩
instance : ZoT Try.prog 85 (some [.str ⟨#[]⟩, .int .i64 0]) := ⟨zo85⟩
theorem ty91 : tinfo Try.prog 91 = some ⟨1, false, (some [.nilfn]), .fn, none⟩ := by kernel_rfl
theorem zo91 : zeroOf Try.prog 91 = (some [.nilfn]) := by kernel_rfl
instance : TyT Try.prog 91 ⟨1, false, (some [.nilfn]), .fn, none⟩ := ⟨ty91⟩
instance : ZoT Try.prog 91 (some [.nilfn]) := ⟨zo91⟩
theorem ty93 : tinfo Try.prog 93 = some ⟨1, false, (some [.nilptr]), .pointer, none⟩ := by kernel_rfl
theorem zo93 : zeroOf Try.prog 93 = (some [.nilptr]) := by kernel_rfl
instance : TyT Try.prog 93 ⟨1, false, (some [.nilptr]), .pointer, none⟩ := ⟨ty93⟩
instance : ZoT Try.prog 93 (some [.nilptr]) := ⟨zo93⟩
theorem ty97 : tinfo Try.prog 97 = some ⟨1, false, (some [.nilptr]), .pointer, none⟩ := by kernel_rfl
theorem zo97 : zeroOf Try.prog 97 = (some [.nilptr]) := by kernel_rfl
instance : TyT Try.prog 97 ⟨1, false, (some [.nilptr]), .pointer, none⟩ := ⟨ty97⟩
instance : ZoT Try.prog 97 (some [.nilptr]) := ⟨zo97⟩
theorem ty102 : tinfo Try.prog 102 = some ⟨2, true, (some [.str ⟨#[]⟩, .nilsl]), .struct [(0, 9, 1, false), (1, 54, 1, false)], (some [(0, .string), (1, .other)])⟩ := by kernel_rfl
theorem zo102 : zeroOf Try.prog 102 = (some [.str ⟨#[]⟩, .nilsl]) := by kernel_rfl
instance : TyT Try.prog 102 ⟨2, true, (some [.str ⟨#[]⟩, .nilsl]), .struct [(0, 9, 1, false), (1, 54, 1, false)], (some [(0, .string), (1, .other)])⟩ := ⟨ty102⟩
instance : ZoT Try.prog 102 (some [.str ⟨#[]⟩, .nilsl]) := ⟨zo102⟩
theorem ty103 : tinfo Try.prog 103 = some ⟨2, true, (some [.str ⟨#[]⟩, .nilsl]), .struct [(0, 9, 1, false), (1, 54, 1, false)], (some [(0, .string), (1, .other)])⟩ := by kernel_rfl
theorem zo103 : zeroOf Try.prog 103 = (some [.str ⟨#[]⟩, .nilsl]) := by kernel_rfl
instance : TyT Try.prog 103 ⟨2, true, (some [.str ⟨#[]⟩, .nilsl]), .struct [(0, 9, 1, false), (1, 54, 1, false)], (some [(0, .string), (1, .other)])⟩ := ⟨ty103⟩
instance : ZoT Try.prog 103 (some [.str ⟨#[]⟩, .nilsl]) := ⟨zo103⟩
theorem ty104 : tinfo Try.prog 104 = some ⟨1, false, (some [.nilfn]), .fn, none⟩ := by kernel_rfl
theorem zo104 : zeroOf Try.prog 104 = (some [.nilfn]) := by kernel_rfl
instance : TyT Try.prog 104 ⟨1, false, (some [.nilfn]), .fn, none⟩ := ⟨ty104⟩
instance : ZoT Try.prog 104 (some [.nilfn]) := ⟨zo104⟩
theorem ty105 : tinfo Try.prog 105 = some ⟨1, false, (some [.nilfn]), .fn, none⟩ := by kernel_rfl
theorem zo105 : zeroOf Try.prog 105 = (some [.nilfn]) := by kernel_rfl
instance : TyT Try.prog 105 ⟨1, false, (some [.nilfn]), .fn, none⟩ := ⟨ty105⟩
instance : ZoT Try.prog 105 (some [.nilfn]) := ⟨zo105⟩
theorem ty106 : tinfo Try.prog 106 = some ⟨1, false, (some [.nilfn]), .fn, none⟩ := by kernel_rfl
theorem zo106 : zeroOf Try.prog 106 = (some [.nilfn]) := by kernel_rfl
instance : TyT Try.prog 106 ⟨1, false, (some [.nilfn]), .fn, none⟩ := ⟨ty106⟩
instance : ZoT Try.prog 106 (some [.nilfn]) := ⟨zo106⟩
theorem ty107 : tinfo Try.prog 107 = some ⟨1, false, (some [.nilsl]), .slice 3 1 8 false (some [.int .i64 0]), none⟩ := by kernel_rfl
theorem zo107 : zeroOf Try.prog 107 = (some [.nilsl]) := by kernel_rfl
instance : TyT Try.prog 107 ⟨1, false, (some [.nilsl]), .slice 3 1 8 false (some [.int .i64 0]), none⟩ := ⟨ty107⟩
instance : ZoT Try.prog 107 (some [.nilsl]) := ⟨zo107⟩
theorem ty112 : tinfo Try.prog 112 = some ⟨4, true, (some [.nilsl, .nilsl, .nilsl, .nilsl]), .struct [(0, 107, 1, false), (1, 43, 1, false), (2, 107, 1, false), (3, 107, 1, false)], (some [(0, .other), (1, .other), (2, .other), (3, .other)])⟩ := by kernel_rfl
theorem zo112 : zeroOf Try.prog 112 = (some [.nilsl, .nilsl, .nilsl, .nilsl]) := by kernel_rfl
instance : TyT Try.prog 112 ⟨4, true, (some [.nilsl, .nilsl, .nilsl, .nilsl]), .struct [(0, 107, 1, false), (1, 43, 1, false), (2, 107, 1, false), (3, 107, 1, false)], (some [(0, .other), (1, .other), (2, .other), (3, .other)])⟩ := ⟨ty112⟩
instance : ZoT Try.prog 112 (some [.nilsl, .nilsl, .nilsl, .nilsl]) := ⟨zo112⟩
theorem ty113 : tinfo Try.prog 113 = some ⟨4, true, (some [.nilsl, .nilsl, .nilsl, .nilsl]), .struct [(0, 107, 1, false), (1, 43, 1, false), (2, 107, 1, false), (3, 107, 1, false)], (some [(0, .other), (1, .other), (2, .other), (3, .other)])⟩ := by kernel_rfl
theorem zo113 : zeroOf Try.prog 113 = (some [.nilsl, .nilsl, .nilsl, .nilsl]) := by kernel_rfl
instance : TyT Try.prog 113 ⟨4, true, (some [.nilsl, .nilsl, .nilsl, .nilsl]), .struct [(0, 107, 1, false), (1, 43, 1, false), (2, 107, 1, false), (3, 107, 1, false)], (some [(0, .other), (1, .other), (2, .other), (3, .other)])⟩ := ⟨ty113⟩
instance : ZoT Try.prog 113 (some [.nilsl, .nilsl, .nilsl, .nilsl]) := ⟨zo113⟩
theorem ty122 : tinfo Try.prog 122 = some ⟨1, false, (some [.nilptr]), .pointer, none⟩ := by kernel_rfl
theorem zo122 : zeroOf Try.prog 122 = (some [.nilptr]) := by kernel_rfl
instance : TyT Try.prog 122 ⟨1, false, (some [.nilptr]), .pointer, none⟩ := ⟨ty122⟩
instance : ZoT Try.prog 122 (some [.nilptr]) := ⟨zo122⟩
theorem ty124 : tinfo Try.prog 124 = some ⟨2, true, (some [.str ⟨#[]⟩, .int .i64 0]), .struct [(0, 9, 1, false), (1, 3, 1, false)], (some [(0, .string), (1, .int .i64)])⟩ := by kernel_rfl
theorem zo124 : zeroOf Try.prog 124 = (some [.str ⟨#[]⟩, .int .i64 0]) := by kernel_rfl
instance : TyT Try.prog 124 ⟨2, true, (some [.str ⟨#[]⟩, .int .i64 0]), .struct [(0, 9, 1, false), (1, 3, 1, false)], (some [(0, .string), (1, .int .i64)])⟩ := ⟨ty124⟩
instance : ZoT Try.prog 124 (some [.str ⟨#[]⟩, .int .i64 0]) := ⟨zo124⟩
theorem ty126 : tinfo Try.prog 126 = some ⟨1, false, (some [.nilfn]), .fn, none⟩ := by kernel_rfl
theorem zo126 : zeroOf Try.prog 126 = (some [.nilfn]) := by kernel_rfl
instance : TyT Try.prog 126 ⟨1, false, (some [.nilfn]), .fn, none⟩ := ⟨ty126⟩
instance : ZoT Try.prog 126 (some [.nilfn]) := ⟨zo126⟩
theorem ty128 : tinfo Try.prog 128 = some ⟨1, false, (some [.nilmap]), .map 9 3, none⟩ := by kernel_rfl
theorem zo128 : zeroOf Try.prog 128 = (some [.nilmap]) := by kernel_rfl
instance : TyT Try.prog 128 ⟨1, false, (some [.nilmap]), .map 9 3, none⟩ := ⟨ty128⟩
instance : ZoT Try.prog 128 (some [.nilmap]) := ⟨zo128⟩
theorem ty129 : tinfo Try.prog 129 = some ⟨2, true, (some [.int .i64 0, .nilmap]), .struct [(0, 3, 1, false), (1, 128, 1, false)], (some [(0, .int .i64), (1, .other)])⟩ := by kernel_rfl
theorem zo129 : zeroOf Try.prog 129 = (some [.int .i64 0, .nilmap]) := by kernel_rfl
instance : TyT Try.prog 129 ⟨2, true, (some [.int .i64 0, .nilmap]), .struct [(0, 3, 1, false), (1, 128, 1, false)], (some [(0, .int .i64), (1, .other)])⟩ := ⟨ty129⟩
instance : ZoT Try.prog 129 (some [.int .i64 0, .nilmap]) := ⟨zo129⟩
theorem ty140 : tinfo Try.prog 140 = some ⟨1, false, (some [.nilmap]), .map 9 4, none⟩ := by kernel_rfl
theorem zo140 : zeroOf Try.prog 140 = (some [.nilmap]) := by kernel_rfl
instance : TyT Try.prog 140 ⟨1, false, (some [.nilmap]), .map 9 4, none⟩ := ⟨ty140⟩
instance : ZoT Try.prog 140 (some [.nilmap]) := ⟨zo140⟩
theorem ty200 : tinfo Try.prog 200 = some ⟨1, false, (some [.nilfn]), .fn, none⟩ := by kernel_rfl
theorem zo200 : zeroOf Try.prog 200 = (some [.nilfn]) := by kernel_rfl
instance : TyT Try.prog 200 ⟨1, false, (some [.nilfn]), .fn, none⟩ := ⟨ty200⟩
instance : ZoT Try.prog 200 (some [.nilfn]) := ⟨zo200⟩
theorem ty201 : tinfo Try.prog 201 = some ⟨1, false, (some [.nilfn]), .fn, none⟩ := by kernel_rfl
theorem zo201 : zeroOf Try.prog 201 = (some [.nilfn]) := by kernel_rfl
instance : TyT Try.prog 201 ⟨1, false, (some [.nilfn]), .fn, none⟩ := ⟨ty201⟩
instance : ZoT Try.prog 201 (some [.nilfn]) := ⟨zo201⟩
theorem zv3 : zvOf Try.prog 3 = some (.int .i64 0) := by kernel_rfl
instance : ZvT Try.prog 3 (.int .i64 0) := ⟨zv3⟩
theorem zv4 : zvOf Try.prog 4 = some (.bool false) := by kernel_rfl
instance : ZvT Try.prog 4 (.bool false) := ⟨zv4⟩
theorem mixed : Try.prog.follows .mixedOrders = true := by kernel_rfl
instance : MixT Try.prog := ⟨mixed⟩
theorem en3 : Enters Try.prog 3 := Try.call3
instance : EnT Try.prog 3 := ⟨en3⟩
theorem en9 : Enters Try.prog 9 := Try.call9
instance : EnT Try.prog 9 := ⟨en9⟩
theorem en10 : Enters Try.prog 10 := Try.call10
instance : EnT Try.prog 10 := ⟨en10⟩
theorem en11 : Enters Try.prog 11 := Try.call11
instance : EnT Try.prog 11 := ⟨en11⟩
theorem en12 : Enters Try.prog 12 := Try.call12
instance : EnT Try.prog 12 := ⟨en12⟩
theorem en13 : Enters Try.prog 13 := Try.call13
instance : EnT Try.prog 13 := ⟨en13⟩
theorem en14 : Enters Try.prog 14 := Try.call14
instance : EnT Try.prog 14 := ⟨en14⟩
theorem en15 : Enters Try.prog 15 := Try.call15
instance : EnT Try.prog 15 := ⟨en15⟩
theorem en16 : Enters Try.prog 16 := Try.call16
instance : EnT Try.prog 16 := ⟨en16⟩
theorem en17 : Enters Try.prog 17 := Try.call17
instance : EnT Try.prog 17 := ⟨en17⟩
theorem en19 : Enters Try.prog 19 := Try.call19
instance : EnT Try.prog 19 := ⟨en19⟩
theorem en20 : Enters Try.prog 20 := Try.call20
instance : EnT Try.prog 20 := ⟨en20⟩
theorem en21 : Enters Try.prog 21 := Try.call21
instance : EnT Try.prog 21 := ⟨en21⟩
theorem en24 : Enters Try.prog 24 := Try.call24
instance : EnT Try.prog 24 := ⟨en24⟩
theorem en35 : Enters Try.prog 35 := Try.call35
instance : EnT Try.prog 35 := ⟨en35⟩
theorem en37 : Enters Try.prog 37 := Try.call37
instance : EnT Try.prog 37 := ⟨en37⟩
theorem en38 : Enters Try.prog 38 := Try.call38
instance : EnT Try.prog 38 := ⟨en38⟩
theorem en39 : Enters Try.prog 39 := Try.call39
instance : EnT Try.prog 39 := ⟨en39⟩
theorem en40 : Enters Try.prog 40 := Try.call40
instance : EnT Try.prog 40 := ⟨en40⟩
theorem en41 : Enters Try.prog 41 := Try.call41
instance : EnT Try.prog 41 := ⟨en41⟩
theorem en42 : Enters Try.prog 42 := Try.call42
instance : EnT Try.prog 42 := ⟨en42⟩
theorem en43 : Enters Try.prog 43 := Try.call43
instance : EnT Try.prog 43 := ⟨en43⟩
theorem en44 : Enters Try.prog 44 := Try.call44
instance : EnT Try.prog 44 := ⟨en44⟩
theorem en45 : Enters Try.prog 45 := Try.call45
instance : EnT Try.prog 45 := ⟨en45⟩
theorem en46 : Enters Try.prog 46 := Try.call46
instance : EnT Try.prog 46 := ⟨en46⟩
theorem en47 : Enters Try.prog 47 := Try.call47
instance : EnT Try.prog 47 := ⟨en47⟩
theorem en48 : Enters Try.prog 48 := Try.call48
instance : EnT Try.prog 48 := ⟨en48⟩
theorem en49 : Enters Try.prog 49 := Try.call49
instance : EnT Try.prog 49 := ⟨en49⟩
theorem en50 : Enters Try.prog 50 := Try.call50
instance : EnT Try.prog 50 := ⟨en50⟩
theorem en51 : Enters Try.prog 51 := Try.call51
instance : EnT Try.prog 51 := ⟨en51⟩
theorem en52 : Enters Try.prog 52 := Try.call52
instance : EnT Try.prog 52 := ⟨en52⟩
theorem en53 : Enters Try.prog 53 := Try.call53
instance : EnT Try.prog 53 := ⟨en53⟩
theorem en55 : Enters Try.prog 55 := Try.call55
instance : EnT Try.prog 55 := ⟨en55⟩
theorem en56 : Enters Try.prog 56 := Try.call56
instance : EnT Try.prog 56 := ⟨en56⟩
theorem en57 : Enters Try.prog 57 := Try.call57
instance : EnT Try.prog 57 := ⟨en57⟩
theorem en58 : Enters Try.prog 58 := Try.call58
instance : EnT Try.prog 58 := ⟨en58⟩
theorem en75 : Enters Try.prog 75 := Try.call75
instance : EnT Try.prog 75 := ⟨en75⟩
theorem en76 : Enters Try.prog 76 := Try.call76
instance : EnT Try.prog 76 := ⟨en76⟩
theorem en77 : Enters Try.prog 77 := Try.call77
instance : EnT Try.prog 77 := ⟨en77⟩
theorem en78 : Enters Try.prog 78 := Try.call78
instance : EnT Try.prog 78 := ⟨en78⟩
theorem en79 : Enters Try.prog 79 := Try.call79
instance : EnT Try.prog 79 := ⟨en79⟩
theorem en80 : Enters Try.prog 80 := Try.call80
instance : EnT Try.prog 80 := ⟨en80⟩
theorem en81 : Enters Try.prog 81 := Try.call81
instance : EnT Try.prog 81 := ⟨en81⟩
theorem en82 : Enters Try.prog 82 := Try.call82
instance : EnT Try.prog 82 := ⟨en82⟩
theorem en102 : Enters Try.prog 102 := Try.call102
instance : EnT Try.prog 102 := ⟨en102⟩
theorem en103 : Enters Try.prog 103 := Try.call103
instance : EnT Try.prog 103 := ⟨en103⟩
theorem en104 : Enters Try.prog 104 := Try.call104
instance : EnT Try.prog 104 := ⟨en104⟩
theorem en105 : Enters Try.prog 105 := Try.call105
instance : EnT Try.prog 105 := ⟨en105⟩
theorem en106 : Enters Try.prog 106 := Try.call106
instance : EnT Try.prog 106 := ⟨en106⟩
theorem en107 : Enters Try.prog 107 := Try.call107
instance : EnT Try.prog 107 := ⟨en107⟩
theorem en128 : Enters Try.prog 128 := Try.call128
instance : EnT Try.prog 128 := ⟨en128⟩
theorem en129 : Enters Try.prog 129 := Try.call129
instance : EnT Try.prog 129 := ⟨en129⟩
theorem en146 : Enters Try.prog 146 := Try.call146
instance : EnT Try.prog 146 := ⟨en146⟩
end Go.Proofs.Ytcllmionhlmjfaa
