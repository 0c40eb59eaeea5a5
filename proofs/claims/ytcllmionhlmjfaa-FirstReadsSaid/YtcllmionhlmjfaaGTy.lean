import Derived.Test.YtcllmionhlmjfaaGPvFz
import Derived.Test.YtcllmionhlmjfaaChecked
namespace Go.Proofs.Ytcllmionhlmjfaa
open Go Go.Pv
theorem ty1 : tinfo Try.prog 1 = some ⟨1,false,(some [.nilfn]),.fn,none⟩ := by kernel_rfl
theorem zo1 : zeroOf Try.prog 1 = (some [.nilfn]) := by kernel_rfl
instance : TyT Try.prog 1 ⟨1,false,(some [.nilfn]),.fn,none⟩ := ⟨ty1⟩
instance : ZoT Try.prog 1 (some [.nilfn]) := ⟨zo1⟩
theorem ty2 : tinfo Try.prog 2 = some ⟨1,false,(some [.int .i64 0]),.int .i64,none⟩ := by kernel_rfl
theorem zo2 : zeroOf Try.prog 2 = (some [.int .i64 0]) := by kernel_rfl
instance : TyT Try.prog 2 ⟨1,false,(some [.int .i64 0]),.int .i64,none⟩ := ⟨ty2⟩
instance : ZoT Try.prog 2 (some [.int .i64 0]) := ⟨zo2⟩
theorem ty3 : tinfo Try.prog 3 = some ⟨1,false,(some [.int .i64 0]),.int .i64,none⟩ := by kernel_rfl
theorem zo3 : zeroOf Try.prog 3 = (some [.int .i64 0]) := by kernel_rfl
instance : TyT Try.prog 3 ⟨1,false,(some [.int .i64 0]),.int .i64,none⟩ := ⟨ty3⟩
instance : ZoT Try.prog 3 (some [.int .i64 0]) := ⟨zo3⟩
theorem ty4 : tinfo Try.prog 4 = some ⟨1,false,(some [.bool false]),.bool,none⟩ := by kernel_rfl
theorem zo4 : zeroOf Try.prog 4 = (some [.bool false]) := by kernel_rfl
instance : TyT Try.prog 4 ⟨1,false,(some [.bool false]),.bool,none⟩ := ⟨ty4⟩
instance : ZoT Try.prog 4 (some [.bool false]) := ⟨zo4⟩
theorem ty5 : tinfo Try.prog 5 = some ⟨1,false,(some [.int .u8 0]),.int .u8,none⟩ := by kernel_rfl
theorem zo5 : zeroOf Try.prog 5 = (some [.int .u8 0]) := by kernel_rfl
instance : TyT Try.prog 5 ⟨1,false,(some [.int .u8 0]),.int .u8,none⟩ := ⟨ty5⟩
instance : ZoT Try.prog 5 (some [.int .u8 0]) := ⟨zo5⟩
theorem ty9 : tinfo Try.prog 9 = some ⟨1,false,(some [.str ⟨#[]⟩]),.string,none⟩ := by kernel_rfl
theorem zo9 : zeroOf Try.prog 9 = (some [.str ⟨#[]⟩]) := by kernel_rfl
instance : TyT Try.prog 9 ⟨1,false,(some [.str ⟨#[]⟩]),.string,none⟩ := ⟨ty9⟩
instance : ZoT Try.prog 9 (some [.str ⟨#[]⟩]) := ⟨zo9⟩
theorem ty12 : tinfo Try.prog 12 = some ⟨1,false,(some [.int .u64 0]),.int .u64,none⟩ := by kernel_rfl
theorem zo12 : zeroOf Try.prog 12 = (some [.int .u64 0]) := by kernel_rfl
instance : TyT Try.prog 12 ⟨1,false,(some [.int .u64 0]),.int .u64,none⟩ := ⟨ty12⟩
instance : ZoT Try.prog 12 (some [.int .u64 0]) := ⟨zo12⟩
theorem ty21 : tinfo Try.prog 21 = some ⟨1,false,(some [.int .i32 0]),.int .i32,none⟩ := by kernel_rfl
theorem zo21 : zeroOf Try.prog 21 = (some [.int .i32 0]) := by kernel_rfl
instance : TyT Try.prog 21 ⟨1,false,(some [.int .i32 0]),.int .i32,none⟩ := ⟨ty21⟩
instance : ZoT Try.prog 21 (some [.int .i32 0]) := ⟨zo21⟩
theorem ty22 : tinfo Try.prog 22 = some ⟨1,false,(some [.nilsl]),.slice 24 3 48 true (some [.int .i64 0,.str ⟨#[]⟩,.nilsl]),none⟩ := by kernel_rfl
theorem zo22 : zeroOf Try.prog 22 = (some [.nilsl]) := by kernel_rfl
instance : TyT Try.prog 22 ⟨1,false,(some [.nilsl]),.slice 24 3 48 true (some [.int .i64 0,.str ⟨#[]⟩,.nilsl]),none⟩ := ⟨ty22⟩
instance : ZoT Try.prog 22 (some [.nilsl]) := ⟨zo22⟩
theorem ty24 : tinfo Try.prog 24 = some ⟨3,true,(some [.int .i64 0,.str ⟨#[]⟩,.nilsl]),.struct [(0,3,1,false),(1,9,1,false),(2,22,1,false)],(some [(0,.int .i64),(1,.string),(2,.other)])⟩ := by kernel_rfl
theorem zo24 : zeroOf Try.prog 24 = (some [.int .i64 0,.str ⟨#[]⟩,.nilsl]) := by kernel_rfl
instance : TyT Try.prog 24 ⟨3,true,(some [.int .i64 0,.str ⟨#[]⟩,.nilsl]),.struct [(0,3,1,false),(1,9,1,false),(2,22,1,false)],(some [(0,.int .i64),(1,.string),(2,.other)])⟩ := ⟨ty24⟩
instance : ZoT Try.prog 24 (some [.int .i64 0,.str ⟨#[]⟩,.nilsl]) := ⟨zo24⟩
theorem ty29 : tinfo Try.prog 29 = some ⟨2,true,(some [.int .i64 0,.int .i64 0]),.struct [(0,3,1,false),(1,3,1,false)],(some [(0,.int .i64),(1,.int .i64)])⟩ := by kernel_rfl
theorem zo29 : zeroOf Try.prog 29 = (some [.int .i64 0,.int .i64 0]) := by kernel_rfl
instance : TyT Try.prog 29 ⟨2,true,(some [.int .i64 0,.int .i64 0]),.struct [(0,3,1,false),(1,3,1,false)],(some [(0,.int .i64),(1,.int .i64)])⟩ := ⟨ty29⟩
instance : ZoT Try.prog 29 (some [.int .i64 0,.int .i64 0]) := ⟨zo29⟩
theorem ty30 : tinfo Try.prog 30 = some ⟨1,false,(some [.nilfn]),.fn,none⟩ := by kernel_rfl
theorem zo30 : zeroOf Try.prog 30 = (some [.nilfn]) := by kernel_rfl
instance : TyT Try.prog 30 ⟨1,false,(some [.nilfn]),.fn,none⟩ := ⟨ty30⟩
instance : ZoT Try.prog 30 (some [.nilfn]) := ⟨zo30⟩
theorem ty32 : tinfo Try.prog 32 = some ⟨1,false,(some [.nilfn]),.fn,none⟩ := by kernel_rfl
theorem zo32 : zeroOf Try.prog 32 = (some [.nilfn]) := by kernel_rfl
instance : TyT Try.prog 32 ⟨1,false,(some [.nilfn]),.fn,none⟩ := ⟨ty32⟩
instance : ZoT Try.prog 32 (some [.nilfn]) := ⟨zo32⟩
theorem ty33 : tinfo Try.prog 33 = some ⟨1,false,(some [.nilfn]),.fn,none⟩ := by kernel_rfl
theorem zo33 : zeroOf Try.prog 33 = (some [.nilfn]) := by kernel_rfl
instance : TyT Try.prog 33 ⟨1,false,(some [.nilfn]),.fn,none⟩ := ⟨ty33⟩
instance : ZoT Try.prog 33 (some [.nilfn]) := ⟨zo33⟩
theorem ty34 : tinfo Try.prog 34 = some ⟨1,false,(some [.nilfn]),.fn,none⟩ := by kernel_rfl
theorem zo34 : zeroOf Try.prog 34 = (some [.nilfn]) := by kernel_rfl
instance : TyT Try.prog 34 ⟨1,false,(some [.nilfn]),.fn,none⟩ := ⟨ty34⟩
instance : ZoT Try.prog 34 (some [.nilfn]) := ⟨zo34⟩
theorem ty38 : tinfo Try.prog 38 = some ⟨1,false,(some [.nilfn]),.fn,none⟩ := by kernel_rfl
theorem zo38 : zeroOf Try.prog 38 = (some [.nilfn]) := by kernel_rfl
instance : TyT Try.prog 38 ⟨1,false,(some [.nilfn]),.fn,none⟩ := ⟨ty38⟩
instance : ZoT Try.prog 38 (some [.nilfn]) := ⟨zo38⟩
theorem ty40 : tinfo Try.prog 40 = some ⟨1,false,(some [.nilsl]),.slice 42 4 56 true (some [.int .i64 0,.str ⟨#[]⟩,.bool false,.nilsl]),none⟩ := by kernel_rfl
theorem zo40 : zeroOf Try.prog 40 = (some [.nilsl]) := by kernel_rfl
instance : TyT Try.prog 40 ⟨1,false,(some [.nilsl]),.slice 42 4 56 true (some [.int .i64 0,.str ⟨#[]⟩,.bool false,.nilsl]),none⟩ := ⟨ty40⟩
instance : ZoT Try.prog 40 (some [.nilsl]) := ⟨zo40⟩
theorem ty41 : tinfo Try.prog 41 = some ⟨4,true,(some [.int .i64 0,.str ⟨#[]⟩,.bool false,.nilsl]),.struct [(0,3,1,false),(1,9,1,false),(2,4,1,false),(3,40,1,false)],(some [(0,.int .i64),(1,.string),(2,.bool),(3,.other)])⟩ := by kernel_rfl
theorem zo41 : zeroOf Try.prog 41 = (some [.int .i64 0,.str ⟨#[]⟩,.bool false,.nilsl]) := by kernel_rfl
instance : TyT Try.prog 41 ⟨4,true,(some [.int .i64 0,.str ⟨#[]⟩,.bool false,.nilsl]),.struct [(0,3,1,false),(1,9,1,false),(2,4,1,false),(3,40,1,false)],(some [(0,.int .i64),(1,.string),(2,.bool),(3,.other)])⟩ := ⟨ty41⟩
instance : ZoT Try.prog 41 (some [.int .i64 0,.str ⟨#[]⟩,.bool false,.nilsl]) := ⟨zo41⟩
theorem ty42 : tinfo Try.prog 42 = some ⟨4,true,(some [.int .i64 0,.str ⟨#[]⟩,.bool false,.nilsl]),.struct [(0,3,1,false),(1,9,1,false),(2,4,1,false),(3,40,1,false)],(some [(0,.int .i64),(1,.string),(2,.bool),(3,.other)])⟩ := by kernel_rfl
theorem zo42 : zeroOf Try.prog 42 = (some [.int .i64 0,.str ⟨#[]⟩,.bool false,.nilsl]) := by kernel_rfl
instance : TyT Try.prog 42 ⟨4,true,(some [.int .i64 0,.str ⟨#[]⟩,.bool false,.nilsl]),.struct [(0,3,1,false),(1,9,1,false),(2,4,1,false),(3,40,1,false)],(some [(0,.int .i64),(1,.string),(2,.bool),(3,.other)])⟩ := ⟨ty42⟩
instance : ZoT Try.prog 42 (some [.int .i64 0,.str ⟨#[]⟩,.bool false,.nilsl]) := ⟨zo42⟩
theorem ty43 : tinfo Try.prog 43 = some ⟨1,false,(some [.nilsl]),.slice 48 2 16 true (some [.int .i64 0,.int .i64 0]),none⟩ := by kernel_rfl
theorem zo43 : zeroOf Try.prog 43 = (some [.nilsl]) := by kernel_rfl
instance : TyT Try.prog 43 ⟨1,false,(some [.nilsl]),.slice 48 2 16 true (some [.int .i64 0,.int .i64 0]),none⟩ := ⟨ty43⟩
instance : ZoT Try.prog 43 (some [.nilsl]) := ⟨zo43⟩
theorem ty44 : tinfo Try.prog 44 = some ⟨1,false,(some [.nilfn]),.fn,none⟩ := by kernel_rfl
theorem zo44 : zeroOf Try.prog 44 = (some [.nilfn]) := by kernel_rfl
instance : TyT Try.prog 44 ⟨1,false,(some [.nilfn]),.fn,none⟩ := ⟨ty44⟩
instance : ZoT Try.prog 44 (some [.nilfn]) := ⟨zo44⟩
theorem ty45 : tinfo Try.prog 45 = some ⟨1,false,(some [.nilfn]),.fn,none⟩ := by kernel_rfl
theorem zo45 : zeroOf Try.prog 45 = (some [.nilfn]) := by kernel_rfl
instance : TyT Try.prog 45 ⟨1,false,(some [.nilfn]),.fn,none⟩ := ⟨ty45⟩
instance : ZoT Try.prog 45 (some [.nilfn]) := ⟨zo45⟩
theorem ty46 : tinfo Try.prog 46 = some ⟨1,false,(some [.nilfn]),.fn,none⟩ := by kernel_rfl
theorem zo46 : zeroOf Try.prog 46 = (some [.nilfn]) := by kernel_rfl
instance : TyT Try.prog 46 ⟨1,false,(some [.nilfn]),.fn,none⟩ := ⟨ty46⟩
instance : ZoT Try.prog 46 (some [.nilfn]) := ⟨zo46⟩
theorem ty48 : tinfo Try.prog 48 = some ⟨2,true,(some [.int .i64 0,.int .i64 0]),.array 2 3 1 false,(some [(0,.int .i64),(1,.int .i64)])⟩ := by kernel_rfl
theorem zo48 : zeroOf Try.prog 48 = (some [.int .i64 0,.int .i64 0]) := by kernel_rfl
instance : TyT Try.prog 48 ⟨2,true,(some [.int .i64 0,.int .i64 0]),.array 2 3 1 false,(some [(0,.int .i64),(1,.int .i64)])⟩ := ⟨ty48⟩
instance : ZoT Try.prog 48 (some [.int .i64 0,.int .i64 0]) := ⟨zo48⟩
theorem ty51 : tinfo Try.prog 51 = some ⟨1,false,(some [.nilfn]),.fn,none⟩ := by kernel_rfl
theorem zo51 : zeroOf Try.prog 51 = (some [.nilfn]) := by kernel_rfl
instance : TyT Try.prog 51 ⟨1,false,(some [.nilfn]),.fn,none⟩ := ⟨ty51⟩
instance : ZoT Try.prog 51 (some [.nilfn]) := ⟨zo51⟩
theorem ty54 : tinfo Try.prog 54 = some ⟨1,false,(some [.nilsl]),.slice 103 2 40 true (some [.str ⟨#[]⟩,.nilsl]),none⟩ := by kernel_rfl
theorem zo54 : zeroOf Try.prog 54 = (some [.nilsl]) := by kernel_rfl
instance : TyT Try.prog 54 ⟨1,false,(some [.nilsl]),.slice 103 2 40 true (some [.str ⟨#[]⟩,.nilsl]),none⟩ := ⟨ty54⟩
instance : ZoT Try.prog 54 (some [.nilsl]) := ⟨zo54⟩
theorem ty55 : tinfo Try.prog 55 = some ⟨1,false,(some [.nilsl]),.slice 57 4 72 true (some [.int .i64 0,.str ⟨#[]⟩,.nilsl,.nilsl]),none⟩ := by kernel_rfl
theorem zo55 : zeroOf Try.prog 55 = (some [.nilsl]) := by kernel_rfl
instance : TyT Try.prog 55 ⟨1,false,(some [.nilsl]),.slice 57 4 72 true (some [.int .i64 0,.str ⟨#[]⟩,.nilsl,.nilsl]),none⟩ := ⟨ty55⟩
instance : ZoT Try.prog 55 (some [.nilsl]) := ⟨zo55⟩
theorem ty56 : tinfo Try.prog 56 = some ⟨4,true,(some [.int .i64 0,.str ⟨#[]⟩,.nilsl,.nilsl]),.struct [(0,3,1,false),(1,9,1,false),(2,54,1,false),(3,55,1,false)],(some [(0,.int .i64),(1,.string),(2,.other),(3,.other)])⟩ := by kernel_rfl
theorem zo56 : zeroOf Try.prog 56 = (some [.int .i64 0,.str ⟨#[]⟩,.nilsl,.nilsl]) := by kernel_rfl
instance : TyT Try.prog 56 ⟨4,true,(some [.int .i64 0,.str ⟨#[]⟩,.nilsl,.nilsl]),.struct [(0,3,1,false),(1,9,1,false),(2,54,1,false),(3,55,1,false)],(some [(0,.int .i64),(1,.string),(2,.other),(3,.other)])⟩ := ⟨ty56⟩
instance : ZoT Try.prog 56 (some [.int .i64 0,.str ⟨#[]⟩,.nilsl,.nilsl]) := ⟨zo56⟩
theorem ty57 : tinfo Try.prog 57 = some ⟨4,true,(some [.int .i64 0,.str ⟨#[]⟩,.nilsl,.nilsl]),.struct [(0,3,1,false),(1,9,1,false),(2,54,1,false),(3,55,1,false)],(some [(0,.int .i64),(1,.string),(2,.other),(3,.other)])⟩ := by kernel_rfl
theorem zo57 : zeroOf Try.prog 57 = (some [.int .i64 0,.str ⟨#[]⟩,.nilsl,.nilsl]) := by kernel_rfl
instance : TyT Try.prog 57 ⟨4,true,(some [.int .i64 0,.str ⟨#[]⟩,.nilsl,.nilsl]),.struct [(0,3,1,false),(1,9,1,false),(2,54,1,false),(3,55,1,false)],(some [(0,.int .i64),(1,.string),(2,.other),(3,.other)])⟩ := ⟨ty57⟩
instance : ZoT Try.prog 57 (some [.int .i64 0,.str ⟨#[]⟩,.nilsl,.nilsl]) := ⟨zo57⟩
theorem ty60 : tinfo Try.prog 60 = some ⟨1,false,(some [.nilfn]),.fn,none⟩ := by kernel_rfl
theorem zo60 : zeroOf Try.prog 60 = (some [.nilfn]) := by kernel_rfl
instance : TyT Try.prog 60 ⟨1,false,(some [.nilfn]),.fn,none⟩ := ⟨ty60⟩
instance : ZoT Try.prog 60 (some [.nilfn]) := ⟨zo60⟩
theorem ty61 : tinfo Try.prog 61 = some ⟨1,false,(some [.nilfn]),.fn,none⟩ := by kernel_rfl
theorem zo61 : zeroOf Try.prog 61 = (some [.nilfn]) := by kernel_rfl
instance : TyT Try.prog 61 ⟨1,false,(some [.nilfn]),.fn,none⟩ := ⟨ty61⟩
instance : ZoT Try.prog 61 (some [.nilfn]) := ⟨zo61⟩
theorem ty62 : tinfo Try.prog 62 = some ⟨1,false,(some [.nilfn]),.fn,none⟩ := by kernel_rfl
theorem zo62 : zeroOf Try.prog 62 = (some [.nilfn]) := by kernel_rfl
instance : TyT Try.prog 62 ⟨1,false,(some [.nilfn]),.fn,none⟩ := ⟨ty62⟩
instance : ZoT Try.prog 62 (some [.nilfn]) := ⟨zo62⟩
theorem ty63 : tinfo Try.prog 63 = some ⟨1,false,(some [.nilfn]),.fn,none⟩ := by kernel_rfl
theorem zo63 : zeroOf Try.prog 63 = (some [.nilfn]) := by kernel_rfl
instance : TyT Try.prog 63 ⟨1,false,(some [.nilfn]),.fn,none⟩ := ⟨ty63⟩
instance : ZoT Try.prog 63 (some [.nilfn]) := ⟨zo63⟩
theorem ty65 : tinfo Try.prog 65 = some ⟨1,false,(some [.nilsl]),.slice 9 1 16 false (some [.str ⟨#[]⟩]),none⟩ := by kernel_rfl
theorem zo65 : zeroOf Try.prog 65 = (some [.nilsl]) := by kernel_rfl
instance : TyT Try.prog 65 ⟨1,false,(some [.nilsl]),.slice 9 1 16 false (some [.str ⟨#[]⟩]),none⟩ := ⟨ty65⟩
instance : ZoT Try.prog 65 (some [.nilsl]) := ⟨zo65⟩
theorem ty67 : tinfo Try.prog 67 = some ⟨1,false,(some [.nilfn]),.fn,none⟩ := by kernel_rfl
theorem zo67 : zeroOf Try.prog 67 = (some [.nilfn]) := by kernel_rfl
instance : TyT Try.prog 67 ⟨1,false,(some [.nilfn]),.fn,none⟩ := ⟨ty67⟩
instance : ZoT Try.prog 67 (some [.nilfn]) := ⟨zo67⟩
theorem ty68 : tinfo Try.prog 68 = some ⟨1,false,(some [.nilfn]),.fn,none⟩ := by kernel_rfl
theorem zo68 : zeroOf Try.prog 68 = (some [.nilfn]) := by kernel_rfl
instance : TyT Try.prog 68 ⟨1,false,(some [.nilfn]),.fn,none⟩ := ⟨ty68⟩
instance : ZoT Try.prog 68 (some [.nilfn]) := ⟨zo68⟩
theorem ty69 : tinfo Try.prog 69 = some ⟨1,false,(some [.nilfn]),.fn,none⟩ := by kernel_rfl
theorem zo69 : zeroOf Try.prog 69 = (some [.nilfn]) := by kernel_rfl
instance : TyT Try.prog 69 ⟨1,false,(some [.nilfn]),.fn,none⟩ := ⟨ty69⟩
instance : ZoT Try.prog 69 (some [.nilfn]) := ⟨zo69⟩
theorem ty71 : tinfo Try.prog 71 = some ⟨1,false,(some [.nilfn]),.fn,none⟩ := by kernel_rfl
theorem zo71 : zeroOf Try.prog 71 = (some [.nilfn]) := by kernel_rfl
instance : TyT Try.prog 71 ⟨1,false,(some [.nilfn]),.fn,none⟩ := ⟨ty71⟩
instance : ZoT Try.prog 71 (some [.nilfn]) := ⟨zo71⟩
theorem ty72 : tinfo Try.prog 72 = some ⟨1,false,(some [.nilfn]),.fn,none⟩ := by kernel_rfl
theorem zo72 : zeroOf Try.prog 72 = (some [.nilfn]) := by kernel_rfl
instance : TyT Try.prog 72 ⟨1,false,(some [.nilfn]),.fn,none⟩ := ⟨ty72⟩
instance : ZoT Try.prog 72 (some [.nilfn]) := ⟨zo72⟩
theorem ty73 : tinfo Try.prog 73 = some ⟨1,false,(some [.nilfn]),.fn,none⟩ := by kernel_rfl
theorem zo73 : zeroOf Try.prog 73 = (some [.nilfn]) := by kernel_rfl
instance : TyT Try.prog 73 ⟨1,false,(some [.nilfn]),.fn,none⟩ := ⟨ty73⟩
instance : ZoT Try.prog 73 (some [.nilfn]) := ⟨zo73⟩
theorem ty74 : tinfo Try.prog 74 = some ⟨1,false,(some [.nilfn]),.fn,none⟩ := by kernel_rfl
theorem zo74 : zeroOf Try.prog 74 = (some [.nilfn]) := by kernel_rfl
instance : TyT Try.prog 74 ⟨1,false,(some [.nilfn]),.fn,none⟩ := ⟨ty74⟩
instance : ZoT Try.prog 74 (some [.nilfn]) := ⟨zo74⟩
theorem ty80 : tinfo Try.prog 80 = some ⟨1,false,(some [.nilfn]),.fn,none⟩ := by kernel_rfl
theorem zo80 : zeroOf Try.prog 80 = (some [.nilfn]) := by kernel_rfl
instance : TyT Try.prog 80 ⟨1,false,(some [.nilfn]),.fn,none⟩ := ⟨ty80⟩
instance : ZoT Try.prog 80 (some [.nilfn]) := ⟨zo80⟩
theorem ty81 : tinfo Try.prog 81 = some ⟨2,true,(some [.int .i64 0,.int .i64 0]),.struct [(0,29,2,true)],(some [(0,.other)])⟩ := by kernel_rfl
theorem zo81 : zeroOf Try.prog 81 = (some [.int .i64 0,.int .i64 0]) := by kernel_rfl
instance : TyT Try.prog 81 ⟨2,true,(some [.int .i64 0,.int .i64 0]),.struct [(0,29,2,true)],(some [(0,.other)])⟩ := ⟨ty81⟩
instance : ZoT Try.prog 81 (some [.int .i64 0,.int .i64 0]) := ⟨zo81⟩
theorem ty82 : tinfo Try.prog 82 = some ⟨2,true,(some [.int .i64 0,.int .i64 0]),.struct [(0,29,2,true)],(some [(0,.other)])⟩ := by kernel_rfl
theorem zo82 : zeroOf Try.prog 82 = (some [.int .i64 0,.int .i64 0]) := by kernel_rfl
instance : TyT Try.prog 82 ⟨2,true,(some [.int .i64 0,.int .i64 0]),.struct [(0,29,2,true)],(some [(0,.other)])⟩ := ⟨ty82⟩
instance : ZoT Try.prog 82 (some [.int .i64 0,.int .i64 0]) := ⟨zo82⟩
theorem ty83 : tinfo Try.prog 83 = some ⟨1,false,(some [.nilptr]),.pointer,none⟩ := by kernel_rfl
theorem zo83 : zeroOf Try.prog 83 = (some [.nilptr]) := by kernel_rfl
instance : TyT Try.prog 83 ⟨1,false,(some [.nilptr]),.pointer,none⟩ := ⟨ty83⟩
instance : ZoT Try.prog 83 (some [.nilptr]) := ⟨zo83⟩
theorem ty90 : tinfo Try.prog 90 = some ⟨1,false,(some [.nilfn]),.fn,none⟩ := by kernel_rfl
theorem zo90 : zeroOf Try.prog 90 = (some [.nilfn]) := by kernel_rfl
instance : TyT Try.prog 90 ⟨1,false,(some [.nilfn]),.fn,none⟩ := ⟨ty90⟩
instance : ZoT Try.prog 90 (some [.nilfn]) := ⟨zo90⟩
theorem ty91 : tinfo Try.prog 91 = some ⟨1,false,(some [.nilfn]),.fn,none⟩ := by kernel_rfl
theorem zo91 : zeroOf Try.prog 91 = (some [.nilfn]) := by kernel_rfl
instance : TyT Try.prog 91 ⟨1,false,(some [.nilfn]),.fn,none⟩ := ⟨ty91⟩
instance : ZoT Try.prog 91 (some [.nilfn]) := ⟨zo91⟩
theorem ty93 : tinfo Try.prog 93 = some ⟨1,false,(some [.nilptr]),.pointer,none⟩ := by kernel_rfl
theorem zo93 : zeroOf Try.prog 93 = (some [.nilptr]) := by kernel_rfl
instance : TyT Try.prog 93 ⟨1,false,(some [.nilptr]),.pointer,none⟩ := ⟨ty93⟩
instance : ZoT Try.prog 93 (some [.nilptr]) := ⟨zo93⟩
theorem ty94 : tinfo Try.prog 94 = some ⟨1,false,(some [.nilfn]),.fn,none⟩ := by kernel_rfl
theorem zo94 : zeroOf Try.prog 94 = (some [.nilfn]) := by kernel_rfl
instance : TyT Try.prog 94 ⟨1,false,(some [.nilfn]),.fn,none⟩ := ⟨ty94⟩
instance : ZoT Try.prog 94 (some [.nilfn]) := ⟨zo94⟩
theorem ty95 : tinfo Try.prog 95 = some ⟨1,false,(some [.nilfn]),.fn,none⟩ := by kernel_rfl
theorem zo95 : zeroOf Try.prog 95 = (some [.nilfn]) := by kernel_rfl
instance : TyT Try.prog 95 ⟨1,false,(some [.nilfn]),.fn,none⟩ := ⟨ty95⟩
instance : ZoT Try.prog 95 (some [.nilfn]) := ⟨zo95⟩
theorem ty96 : tinfo Try.prog 96 = some ⟨1,false,(some [.nilfn]),.fn,none⟩ := by kernel_rfl
theorem zo96 : zeroOf Try.prog 96 = (some [.nilfn]) := by kernel_rfl
instance : TyT Try.prog 96 ⟨1,false,(some [.nilfn]),.fn,none⟩ := ⟨ty96⟩
instance : ZoT Try.prog 96 (some [.nilfn]) := ⟨zo96⟩
theorem ty97 : tinfo Try.prog 97 = some ⟨1,false,(some [.nilptr]),.pointer,none⟩ := by kernel_rfl
theorem zo97 : zeroOf Try.prog 97 = (some [.nilptr]) := by kernel_rfl
instance : TyT Try.prog 97 ⟨1,false,(some [.nilptr]),.pointer,none⟩ := ⟨ty97⟩
instance : ZoT Try.prog 97 (some [.nilptr]) := ⟨zo97⟩
theorem ty98 : tinfo Try.prog 98 = some ⟨1,false,(some [.nilfn]),.fn,none⟩ := by kernel_rfl
theorem zo98 : zeroOf Try.prog 98 = (some [.nilfn]) := by kernel_rfl
instance : TyT Try.prog 98 ⟨1,false,(some [.nilfn]),.fn,none⟩ := ⟨ty98⟩
instance : ZoT Try.prog 98 (some [.nilfn]) := ⟨zo98⟩
theorem ty100 : tinfo Try.prog 100 = some ⟨1,false,(some [.nilfn]),.fn,none⟩ := by kernel_rfl
theorem zo100 : zeroOf Try.prog 100 = (some [.nilfn]) := by kernel_rfl
instance : TyT Try.prog 100 ⟨1,false,(some [.nilfn]),.fn,none⟩ := ⟨ty100⟩
instance : ZoT Try.prog 100 (some [.nilfn]) := ⟨zo100⟩
theorem ty101 : tinfo Try.prog 101 = some ⟨1,false,(some [.nilfn]),.fn,none⟩ := by kernel_rfl
theorem zo101 : zeroOf Try.prog 101 = (some [.nilfn]) := by kernel_rfl
instance : TyT Try.prog 101 ⟨1,false,(some [.nilfn]),.fn,none⟩ := ⟨ty101⟩
instance : ZoT Try.prog 101 (some [.nilfn]) := ⟨zo101⟩
theorem ty102 : tinfo Try.prog 102 = some ⟨2,true,(some [.str ⟨#[]⟩,.nilsl]),.struct [(0,9,1,false),(1,54,1,false)],(some [(0,.string),(1,.other)])⟩ := by kernel_rfl
theorem zo102 : zeroOf Try.prog 102 = (some [.str ⟨#[]⟩,.nilsl]) := by kernel_rfl
instance : TyT Try.prog 102 ⟨2,true,(some [.str ⟨#[]⟩,.nilsl]),.struct [(0,9,1,false),(1,54,1,false)],(some [(0,.string),(1,.other)])⟩ := ⟨ty102⟩
instance : ZoT Try.prog 102 (some [.str ⟨#[]⟩,.nilsl]) := ⟨zo102⟩
theorem ty103 : tinfo Try.prog 103 = some ⟨2,true,(some [.str ⟨#[]⟩,.nilsl]),.struct [(0,9,1,false),(1,54,1,false)],(some [(0,.string),(1,.other)])⟩ := by kernel_rfl
theorem zo103 : zeroOf Try.prog 103 = (some [.str ⟨#[]⟩,.nilsl]) := by kernel_rfl
instance : TyT Try.prog 103 ⟨2,true,(some [.str ⟨#[]⟩,.nilsl]),.struct [(0,9,1,false),(1,54,1,false)],(some [(0,.string),(1,.other)])⟩ := ⟨ty103⟩
instance : ZoT Try.prog 103 (some [.str ⟨#[]⟩,.nilsl]) := ⟨zo103⟩
theorem ty107 : tinfo Try.prog 107 = some ⟨1,false,(some [.nilsl]),.slice 3 1 8 false (some [.int .i64 0]),none⟩ := by kernel_rfl
theorem zo107 : zeroOf Try.prog 107 = (some [.nilsl]) := by kernel_rfl
instance : TyT Try.prog 107 ⟨1,false,(some [.nilsl]),.slice 3 1 8 false (some [.int .i64 0]),none⟩ := ⟨ty107⟩
instance : ZoT Try.prog 107 (some [.nilsl]) := ⟨zo107⟩
theorem ty112 : tinfo Try.prog 112 = some ⟨4,true,(some [.nilsl,.nilsl,.nilsl,.nilsl]),.struct [(0,107,1,false),(1,43,1,false),(2,107,1,false),(3,107,1,false)],(some [(0,.other),(1,.other),(2,.other),(3,.other)])⟩ := by kernel_rfl
theorem zo112 : zeroOf Try.prog 112 = (some [.nilsl,.nilsl,.nilsl,.nilsl]) := by kernel_rfl
instance : TyT Try.prog 112 ⟨4,true,(some [.nilsl,.nilsl,.nilsl,.nilsl]),.struct [(0,107,1,false),(1,43,1,false),(2,107,1,false),(3,107,1,false)],(some [(0,.other),(1,.other),(2,.other),(3,.other)])⟩ := ⟨ty112⟩
instance : ZoT Try.prog 112 (some [.nilsl,.nilsl,.nilsl,.nilsl]) := ⟨zo112⟩
theorem ty113 : tinfo Try.prog 113 = some ⟨4,true,(some [.nilsl,.nilsl,.nilsl,.nilsl]),.struct [(0,107,1,false),(1,43,1,false),(2,107,1,false),(3,107,1,false)],(some [(0,.other),(1,.other),(2,.other),(3,.other)])⟩ := by kernel_rfl
theorem zo113 : zeroOf Try.prog 113 = (some [.nilsl,.nilsl,.nilsl,.nilsl]) := by kernel_rfl
instance : TyT Try.prog 113 ⟨4,true,(some [.nilsl,.nilsl,.nilsl,.nilsl]),.struct [(0,107,1,false),(1,43,1,false),(2,107,1,false),(3,107,1,false)],(some [(0,.other),(1,.other),(2,.other),(3,.other)])⟩ := ⟨ty113⟩
instance : ZoT Try.prog 113 (some [.nilsl,.nilsl,.nilsl,.nilsl]) := ⟨zo113⟩
theorem ty114 : tinfo Try.prog 114 = some ⟨1,false,(some [.nilfn]),.fn,none⟩ := by kernel_rfl
theorem zo114 : zeroOf Try.prog 114 = (some [.nilfn]) := by kernel_rfl
instance : TyT Try.prog 114 ⟨1,false,(some [.nilfn]),.fn,none⟩ := ⟨ty114⟩
instance : ZoT Try.prog 114 (some [.nilfn]) := ⟨zo114⟩
theorem ty115 : tinfo Try.prog 115 = some ⟨1,false,(some [.nilsl]),.slice 3 1 8 false (some [.int .i64 0]),none⟩ := by kernel_rfl
theorem zo115 : zeroOf Try.prog 115 = (some [.nilsl]) := by kernel_rfl
instance : TyT Try.prog 115 ⟨1,false,(some [.nilsl]),.slice 3 1 8 false (some [.int .i64 0]),none⟩ := ⟨ty115⟩
instance : ZoT Try.prog 115 (some [.nilsl]) := ⟨zo115⟩
theorem ty116 : tinfo Try.prog 116 = some ⟨1,false,(some [.nilfn]),.fn,none⟩ := by kernel_rfl
theorem zo116 : zeroOf Try.prog 116 = (some [.nilfn]) := by kernel_rfl
instance : TyT Try.prog 116 ⟨1,false,(some [.nilfn]),.fn,none⟩ := ⟨ty116⟩
instance : ZoT Try.prog 116 (some [.nilfn]) := ⟨zo116⟩
theorem ty117 : tinfo Try.prog 117 = some ⟨1,false,(some [.nilfn]),.fn,none⟩ := by kernel_rfl
theorem zo117 : zeroOf Try.prog 117 = (some [.nilfn]) := by kernel_rfl
instance : TyT Try.prog 117 ⟨1,false,(some [.nilfn]),.fn,none⟩ := ⟨ty117⟩
instance : ZoT Try.prog 117 (some [.nilfn]) := ⟨zo117⟩
theorem ty118 : tinfo Try.prog 118 = some ⟨1,false,(some [.nilfn]),.fn,none⟩ := by kernel_rfl
theorem zo118 : zeroOf Try.prog 118 = (some [.nilfn]) := by kernel_rfl
instance : TyT Try.prog 118 ⟨1,false,(some [.nilfn]),.fn,none⟩ := ⟨ty118⟩
instance : ZoT Try.prog 118 (some [.nilfn]) := ⟨zo118⟩
theorem ty119 : tinfo Try.prog 119 = some ⟨1,false,(some [.nilfn]),.fn,none⟩ := by kernel_rfl
theorem zo119 : zeroOf Try.prog 119 = (some [.nilfn]) := by kernel_rfl
instance : TyT Try.prog 119 ⟨1,false,(some [.nilfn]),.fn,none⟩ := ⟨ty119⟩
instance : ZoT Try.prog 119 (some [.nilfn]) := ⟨zo119⟩
theorem ty120 : tinfo Try.prog 120 = some ⟨2,true,(some [.int .i64 0,.int .i64 0]),.struct [(0,29,2,true)],(some [(0,.other)])⟩ := by kernel_rfl
theorem zo120 : zeroOf Try.prog 120 = (some [.int .i64 0,.int .i64 0]) := by kernel_rfl
instance : TyT Try.prog 120 ⟨2,true,(some [.int .i64 0,.int .i64 0]),.struct [(0,29,2,true)],(some [(0,.other)])⟩ := ⟨ty120⟩
instance : ZoT Try.prog 120 (some [.int .i64 0,.int .i64 0]) := ⟨zo120⟩
theorem ty121 : tinfo Try.prog 121 = some ⟨2,true,(some [.int .i64 0,.int .i64 0]),.struct [(0,29,2,true)],(some [(0,.other)])⟩ := by kernel_rfl
theorem zo121 : zeroOf Try.prog 121 = (some [.int .i64 0,.int .i64 0]) := by kernel_rfl
instance : TyT Try.prog 121 ⟨2,true,(some [.int .i64 0,.int .i64 0]),.struct [(0,29,2,true)],(some [(0,.other)])⟩ := ⟨ty121⟩
instance : ZoT Try.prog 121 (some [.int .i64 0,.int .i64 0]) := ⟨zo121⟩
theorem ty122 : tinfo Try.prog 122 = some ⟨1,false,(some [.nilptr]),.pointer,none⟩ := by kernel_rfl
theorem zo122 : zeroOf Try.prog 122 = (some [.nilptr]) := by kernel_rfl
instance : TyT Try.prog 122 ⟨1,false,(some [.nilptr]),.pointer,none⟩ := ⟨ty122⟩
instance : ZoT Try.prog 122 (some [.nilptr]) := ⟨zo122⟩
theorem ty123 : tinfo Try.prog 123 = some ⟨2,true,(some [.str ⟨#[]⟩,.int .i64 0]),.struct [(0,9,1,false),(1,3,1,false)],(some [(0,.string),(1,.int .i64)])⟩ := by kernel_rfl
theorem zo123 : zeroOf Try.prog 123 = (some [.str ⟨#[]⟩,.int .i64 0]) := by kernel_rfl
instance : TyT Try.prog 123 ⟨2,true,(some [.str ⟨#[]⟩,.int .i64 0]),.struct [(0,9,1,false),(1,3,1,false)],(some [(0,.string),(1,.int .i64)])⟩ := ⟨ty123⟩
instance : ZoT Try.prog 123 (some [.str ⟨#[]⟩,.int .i64 0]) := ⟨zo123⟩
theorem ty124 : tinfo Try.prog 124 = some ⟨2,true,(some [.str ⟨#[]⟩,.int .i64 0]),.struct [(0,9,1,false),(1,3,1,false)],(some [(0,.string),(1,.int .i64)])⟩ := by kernel_rfl
theorem zo124 : zeroOf Try.prog 124 = (some [.str ⟨#[]⟩,.int .i64 0]) := by kernel_rfl
instance : TyT Try.prog 124 ⟨2,true,(some [.str ⟨#[]⟩,.int .i64 0]),.struct [(0,9,1,false),(1,3,1,false)],(some [(0,.string),(1,.int .i64)])⟩ := ⟨ty124⟩
instance : ZoT Try.prog 124 (some [.str ⟨#[]⟩,.int .i64 0]) := ⟨zo124⟩
theorem ty125 : tinfo Try.prog 125 = some ⟨1,false,(some [.nilfn]),.fn,none⟩ := by kernel_rfl
theorem zo125 : zeroOf Try.prog 125 = (some [.nilfn]) := by kernel_rfl
instance : TyT Try.prog 125 ⟨1,false,(some [.nilfn]),.fn,none⟩ := ⟨ty125⟩
instance : ZoT Try.prog 125 (some [.nilfn]) := ⟨zo125⟩
theorem ty126 : tinfo Try.prog 126 = some ⟨1,false,(some [.nilfn]),.fn,none⟩ := by kernel_rfl
theorem zo126 : zeroOf Try.prog 126 = (some [.nilfn]) := by kernel_rfl
instance : TyT Try.prog 126 ⟨1,false,(some [.nilfn]),.fn,none⟩ := ⟨ty126⟩
instance : ZoT Try.prog 126 (some [.nilfn]) := ⟨zo126⟩
theorem ty127 : tinfo Try.prog 127 = some ⟨1,false,(some [.nilptr]),.pointer,none⟩ := by kernel_rfl
theorem zo127 : zeroOf Try.prog 127 = (some [.nilptr]) := by kernel_rfl
instance : TyT Try.prog 127 ⟨1,false,(some [.nilptr]),.pointer,none⟩ := ⟨ty127⟩
instance : ZoT Try.prog 127 (some [.nilptr]) := ⟨zo127⟩
theorem ty128 : tinfo Try.prog 128 = some ⟨1,false,(some [.nilmap]),.map 9 3,none⟩ := by kernel_rfl
theorem zo128 : zeroOf Try.prog 128 = (some [.nilmap]) := by kernel_rfl
instance : TyT Try.prog 128 ⟨1,false,(some [.nilmap]),.map 9 3,none⟩ := ⟨ty128⟩
instance : ZoT Try.prog 128 (some [.nilmap]) := ⟨zo128⟩
theorem ty129 : tinfo Try.prog 129 = some ⟨2,true,(some [.int .i64 0,.nilmap]),.struct [(0,3,1,false),(1,128,1,false)],(some [(0,.int .i64),(1,.other)])⟩ := by kernel_rfl
theorem zo129 : zeroOf Try.prog 129 = (some [.int .i64 0,.nilmap]) := by kernel_rfl
instance : TyT Try.prog 129 ⟨2,true,(some [.int .i64 0,.nilmap]),.struct [(0,3,1,false),(1,128,1,false)],(some [(0,.int .i64),(1,.other)])⟩ := ⟨ty129⟩
instance : ZoT Try.prog 129 (some [.int .i64 0,.nilmap]) := ⟨zo129⟩
theorem ty130 : tinfo Try.prog 130 = some ⟨2,true,(some [.int .i64 0,.nilmap]),.struct [(0,3,1,false),(1,128,1,false)],(some [(0,.int .i64),(1,.other)])⟩ := by kernel_rfl
theorem zo130 : zeroOf Try.prog 130 = (some [.int .i64 0,.nilmap]) := by kernel_rfl
instance : TyT Try.prog 130 ⟨2,true,(some [.int .i64 0,.nilmap]),.struct [(0,3,1,false),(1,128,1,false)],(some [(0,.int .i64),(1,.other)])⟩ := ⟨ty130⟩
instance : ZoT Try.prog 130 (some [.int .i64 0,.nilmap]) := ⟨zo130⟩
theorem ty133 : tinfo Try.prog 133 = some ⟨1,false,(some [.nilfn]),.fn,none⟩ := by kernel_rfl
theorem zo133 : zeroOf Try.prog 133 = (some [.nilfn]) := by kernel_rfl
instance : TyT Try.prog 133 ⟨1,false,(some [.nilfn]),.fn,none⟩ := ⟨ty133⟩
instance : ZoT Try.prog 133 (some [.nilfn]) := ⟨zo133⟩
theorem ty134 : tinfo Try.prog 134 = some ⟨1,false,(some [.nilfn]),.fn,none⟩ := by kernel_rfl
theorem zo134 : zeroOf Try.prog 134 = (some [.nilfn]) := by kernel_rfl
instance : TyT Try.prog 134 ⟨1,false,(some [.nilfn]),.fn,none⟩ := ⟨ty134⟩
instance : ZoT Try.prog 134 (some [.nilfn]) := ⟨zo134⟩
theorem ty135 : tinfo Try.prog 135 = some ⟨1,false,(some [.nilsl]),.slice 153 7 120 true (some [.int .i64 0,.str ⟨#[]⟩,.nilsl,.nilsl,.str ⟨#[]⟩,.nilsl,.bool false]),none⟩ := by kernel_rfl
theorem zo135 : zeroOf Try.prog 135 = (some [.nilsl]) := by kernel_rfl
instance : TyT Try.prog 135 ⟨1,false,(some [.nilsl]),.slice 153 7 120 true (some [.int .i64 0,.str ⟨#[]⟩,.nilsl,.nilsl,.str ⟨#[]⟩,.nilsl,.bool false]),none⟩ := ⟨ty135⟩
instance : ZoT Try.prog 135 (some [.nilsl]) := ⟨zo135⟩
theorem ty147 : tinfo Try.prog 147 = some ⟨1,false,(some [.nilfn]),.fn,none⟩ := by kernel_rfl
theorem zo147 : zeroOf Try.prog 147 = (some [.nilfn]) := by kernel_rfl
instance : TyT Try.prog 147 ⟨1,false,(some [.nilfn]),.fn,none⟩ := ⟨ty147⟩
instance : ZoT Try.prog 147 (some [.nilfn]) := ⟨zo147⟩
theorem ty153 : tinfo Try.prog 153 = some ⟨7,true,(some [.int .i64 0,.str ⟨#[]⟩,.nilsl,.nilsl,.str ⟨#[]⟩,.nilsl,.bool false]),.struct [(0,57,4,true),(4,103,2,true),(6,4,1,false)],(some [(0,.other),(4,.other),(6,.bool)])⟩ := by kernel_rfl
theorem zo153 : zeroOf Try.prog 153 = (some [.int .i64 0,.str ⟨#[]⟩,.nilsl,.nilsl,.str ⟨#[]⟩,.nilsl,.bool false]) := by kernel_rfl
instance : TyT Try.prog 153 ⟨7,true,(some [.int .i64 0,.str ⟨#[]⟩,.nilsl,.nilsl,.str ⟨#[]⟩,.nilsl,.bool false]),.struct [(0,57,4,true),(4,103,2,true),(6,4,1,false)],(some [(0,.other),(4,.other),(6,.bool)])⟩ := ⟨ty153⟩
instance : ZoT Try.prog 153 (some [.int .i64 0,.str ⟨#[]⟩,.nilsl,.nilsl,.str ⟨#[]⟩,.nilsl,.bool false]) := ⟨zo153⟩
theorem ty157 : tinfo Try.prog 157 = some ⟨1,false,(some [.nilfn]),.fn,none⟩ := by kernel_rfl
theorem zo157 : zeroOf Try.prog 157 = (some [.nilfn]) := by kernel_rfl
instance : TyT Try.prog 157 ⟨1,false,(some [.nilfn]),.fn,none⟩ := ⟨ty157⟩
instance : ZoT Try.prog 157 (some [.nilfn]) := ⟨zo157⟩
theorem ty158 : tinfo Try.prog 158 = some ⟨1,false,(some [.nilfn]),.fn,none⟩ := by kernel_rfl
theorem zo158 : zeroOf Try.prog 158 = (some [.nilfn]) := by kernel_rfl
instance : TyT Try.prog 158 ⟨1,false,(some [.nilfn]),.fn,none⟩ := ⟨ty158⟩
instance : ZoT Try.prog 158 (some [.nilfn]) := ⟨zo158⟩
theorem ty159 : tinfo Try.prog 159 = some ⟨1,false,(some [.int .u64 0]),.int .u64,none⟩ := by kernel_rfl
theorem zo159 : zeroOf Try.prog 159 = (some [.int .u64 0]) := by kernel_rfl
instance : TyT Try.prog 159 ⟨1,false,(some [.int .u64 0]),.int .u64,none⟩ := ⟨ty159⟩
instance : ZoT Try.prog 159 (some [.int .u64 0]) := ⟨zo159⟩
theorem ty163 : tinfo Try.prog 163 = some ⟨1,false,(some [.nilfn]),.fn,none⟩ := by kernel_rfl
theorem zo163 : zeroOf Try.prog 163 = (some [.nilfn]) := by kernel_rfl
instance : TyT Try.prog 163 ⟨1,false,(some [.nilfn]),.fn,none⟩ := ⟨ty163⟩
instance : ZoT Try.prog 163 (some [.nilfn]) := ⟨zo163⟩
theorem ty164 : tinfo Try.prog 164 = some ⟨1,false,(some [.nilfn]),.fn,none⟩ := by kernel_rfl
theorem zo164 : zeroOf Try.prog 164 = (some [.nilfn]) := by kernel_rfl
instance : TyT Try.prog 164 ⟨1,false,(some [.nilfn]),.fn,none⟩ := ⟨ty164⟩
instance : ZoT Try.prog 164 (some [.nilfn]) := ⟨zo164⟩
theorem ty200 : tinfo Try.prog 200 = some ⟨1,false,(some [.nilfn]),.fn,none⟩ := by kernel_rfl
theorem zo200 : zeroOf Try.prog 200 = (some [.nilfn]) := by kernel_rfl
instance : TyT Try.prog 200 ⟨1,false,(some [.nilfn]),.fn,none⟩ := ⟨ty200⟩
instance : ZoT Try.prog 200 (some [.nilfn]) := ⟨zo200⟩
theorem ty201 : tinfo Try.prog 201 = some ⟨1,false,(some [.nilfn]),.fn,none⟩ := by kernel_rfl
theorem zo201 : zeroOf Try.prog 201 = (some [.nilfn]) := by kernel_rfl
instance : TyT Try.prog 201 ⟨1,false,(some [.nilfn]),.fn,none⟩ := ⟨ty201⟩
instance : ZoT Try.prog 201 (some [.nilfn]) := ⟨zo201⟩
theorem zv3 : zvOf Try.prog 3 = some (.int .i64 0) := by kernel_rfl
instance : ZvT Try.prog 3 (.int .i64 0) := ⟨zv3⟩
theorem zv4 : zvOf Try.prog 4 = some (.bool false) := by kernel_rfl
instance : ZvT Try.prog 4 (.bool false) := ⟨zv4⟩
theorem mixed : Try.prog.follows .mixedOrders = true := by kernel_rfl
instance : MixT Try.prog := ⟨mixed⟩
theorem en8 : Enters Try.prog 8 := Try.call8
instance : EnT Try.prog 8 := ⟨en8⟩
theorem en9 : Enters Try.prog 9 := Try.call9
instance : EnT Try.prog 9 := ⟨en9⟩
theorem en20 : Enters Try.prog 20 := Try.call20
instance : EnT Try.prog 20 := ⟨en20⟩
theorem en29 : Enters Try.prog 29 := Try.call29
instance : EnT Try.prog 29 := ⟨en29⟩
theorem en30 : Enters Try.prog 30 := Try.call30
instance : EnT Try.prog 30 := ⟨en30⟩
theorem en31 : Enters Try.prog 31 := Try.call31
instance : EnT Try.prog 31 := ⟨en31⟩
theorem en32 : Enters Try.prog 32 := Try.call32
instance : EnT Try.prog 32 := ⟨en32⟩
theorem en33 : Enters Try.prog 33 := Try.call33
instance : EnT Try.prog 33 := ⟨en33⟩
theorem en34 : Enters Try.prog 34 := Try.call34
instance : EnT Try.prog 34 := ⟨en34⟩
theorem en44 : Enters Try.prog 44 := Try.call44
instance : EnT Try.prog 44 := ⟨en44⟩
theorem en45 : Enters Try.prog 45 := Try.call45
instance : EnT Try.prog 45 := ⟨en45⟩
theorem en51 : Enters Try.prog 51 := Try.call51
instance : EnT Try.prog 51 := ⟨en51⟩
theorem en65 : Enters Try.prog 65 := Try.call65
instance : EnT Try.prog 65 := ⟨en65⟩
theorem en66 : Enters Try.prog 66 := Try.call66
instance : EnT Try.prog 66 := ⟨en66⟩
theorem en67 : Enters Try.prog 67 := Try.call67
instance : EnT Try.prog 67 := ⟨en67⟩
theorem en68 : Enters Try.prog 68 := Try.call68
instance : EnT Try.prog 68 := ⟨en68⟩
theorem en69 : Enters Try.prog 69 := Try.call69
instance : EnT Try.prog 69 := ⟨en69⟩
theorem en70 : Enters Try.prog 70 := Try.call70
instance : EnT Try.prog 70 := ⟨en70⟩
theorem en71 : Enters Try.prog 71 := Try.call71
instance : EnT Try.prog 71 := ⟨en71⟩
theorem en72 : Enters Try.prog 72 := Try.call72
instance : EnT Try.prog 72 := ⟨en72⟩
theorem en73 : Enters Try.prog 73 := Try.call73
instance : EnT Try.prog 73 := ⟨en73⟩
theorem en74 : Enters Try.prog 74 := Try.call74
instance : EnT Try.prog 74 := ⟨en74⟩
theorem en82 : Enters Try.prog 82 := Try.call82
instance : EnT Try.prog 82 := ⟨en82⟩
theorem en83 : Enters Try.prog 83 := Try.call83
instance : EnT Try.prog 83 := ⟨en83⟩
theorem en94 : Enters Try.prog 94 := Try.call94
instance : EnT Try.prog 94 := ⟨en94⟩
theorem en95 : Enters Try.prog 95 := Try.call95
instance : EnT Try.prog 95 := ⟨en95⟩
theorem en96 : Enters Try.prog 96 := Try.call96
instance : EnT Try.prog 96 := ⟨en96⟩
theorem en97 : Enters Try.prog 97 := Try.call97
instance : EnT Try.prog 97 := ⟨en97⟩
theorem en98 : Enters Try.prog 98 := Try.call98
instance : EnT Try.prog 98 := ⟨en98⟩
theorem en99 : Enters Try.prog 99 := Try.call99
instance : EnT Try.prog 99 := ⟨en99⟩
theorem en100 : Enters Try.prog 100 := Try.call100
instance : EnT Try.prog 100 := ⟨en100⟩
theorem en101 : Enters Try.prog 101 := Try.call101
instance : EnT Try.prog 101 := ⟨en101⟩
theorem en107 : Enters Try.prog 107 := Try.call107
instance : EnT Try.prog 107 := ⟨en107⟩
theorem en112 : Enters Try.prog 112 := Try.call112
instance : EnT Try.prog 112 := ⟨en112⟩
theorem en113 : Enters Try.prog 113 := Try.call113
instance : EnT Try.prog 113 := ⟨en113⟩
theorem en114 : Enters Try.prog 114 := Try.call114
instance : EnT Try.prog 114 := ⟨en114⟩
theorem en115 : Enters Try.prog 115 := Try.call115
instance : EnT Try.prog 115 := ⟨en115⟩
theorem en116 : Enters Try.prog 116 := Try.call116
instance : EnT Try.prog 116 := ⟨en116⟩
theorem en117 : Enters Try.prog 117 := Try.call117
instance : EnT Try.prog 117 := ⟨en117⟩
theorem en118 : Enters Try.prog 118 := Try.call118
instance : EnT Try.prog 118 := ⟨en118⟩
theorem en119 : Enters Try.prog 119 := Try.call119
instance : EnT Try.prog 119 := ⟨en119⟩
theorem en120 : Enters Try.prog 120 := Try.call120
instance : EnT Try.prog 120 := ⟨en120⟩
theorem en121 : Enters Try.prog 121 := Try.call121
instance : EnT Try.prog 121 := ⟨en121⟩
theorem en122 : Enters Try.prog 122 := Try.call122
instance : EnT Try.prog 122 := ⟨en122⟩
theorem en123 : Enters Try.prog 123 := Try.call123
instance : EnT Try.prog 123 := ⟨en123⟩
theorem en124 : Enters Try.prog 124 := Try.call124
instance : EnT Try.prog 124 := ⟨en124⟩
theorem en125 : Enters Try.prog 125 := Try.call125
instance : EnT Try.prog 125 := ⟨en125⟩
theorem en129 : Enters Try.prog 129 := Try.call129
instance : EnT Try.prog 129 := ⟨en129⟩
theorem en133 : Enters Try.prog 133 := Try.call133
instance : EnT Try.prog 133 := ⟨en133⟩
theorem en134 : Enters Try.prog 134 := Try.call134
instance : EnT Try.prog 134 := ⟨en134⟩
theorem en147 : Enters Try.prog 147 := Try.call147
instance : EnT Try.prog 147 := ⟨en147⟩
theorem en157 : Enters Try.prog 157 := Try.call157
instance : EnT Try.prog 157 := ⟨en157⟩
theorem en158 : Enters Try.prog 158 := Try.call158
instance : EnT Try.prog 158 := ⟨en158⟩
theorem en159 : Enters Try.prog 159 := Try.call159
instance : EnT Try.prog 159 := ⟨en159⟩
theorem en163 : Enters Try.prog 163 := Try.call163
instance : EnT Try.prog 163 := ⟨en163⟩
theorem en164 : Enters Try.prog 164 := Try.call164
instance : EnT Try.prog 164 := ⟨en164⟩
end Go.Proofs.Ytcllmionhlmjfaa
