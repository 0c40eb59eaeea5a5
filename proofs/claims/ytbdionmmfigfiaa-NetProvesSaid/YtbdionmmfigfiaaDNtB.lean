import Derived.Test.YtbdionmmfigfiaaDPvFz
import Derived.Test.YtbdionmmfigfiaaChecked
import Derived.Laws.RangeString
import Derived.Test.YtbdionmmfigfiaaDPvRec
set_option linter.unusedVariables false
set_option linter.unusedSimpArgs false
set_option maxRecDepth 100000
set_option maxHeartbeats 4000000
namespace Go.Proofs.Ytbdionmmfigfiaa
open Go Go.Pv
theorem ty1 : tinfo Try.prog 1 = some ⟨1,false,(some [.nilfn]),.fn,none⟩ := by kernel_rfl
theorem zo1 : zeroOf Try.prog 1 = (some [.nilfn]) := by kernel_rfl
instance : TyT Try.prog 1 ⟨1,false,(some [.nilfn]),.fn,none⟩ := ⟨ty1⟩
instance : ZoT Try.prog 1 (some [.nilfn]) := ⟨zo1⟩
theorem ty2 : tinfo Try.prog 2 = some ⟨1,false,(some [.int .i64 0]),.int .i64,none⟩ := by kernel_rfl
theorem zo2 : zeroOf Try.prog 2 = (some [.int .i64 0]) := by kernel_rfl
instance : TyT Try.prog 2 ⟨1,false,(some [.int .i64 0]),.int .i64,none⟩ := ⟨ty2⟩
instance : ZoT Try.prog 2 (some [.int .i64 0]) := ⟨zo2⟩
theorem ty3 : tinfo Try.prog 3 = some ⟨1,false,(some [.int .i64 0]),.int .i64,none⟩ := by kernel_rfl
theorem zo3 : zeroOf Try.prog 3 = (some [.int .i64 0]) := by kernel_rfl
instance : TyT Try.prog 3 ⟨1,false,(some [.int .i64 0]),.int .i64,none⟩ := ⟨ty3⟩
instance : ZoT Try.prog 3 (some [.int .i64 0]) := ⟨zo3⟩
theorem ty4 : tinfo Try.prog 4 = some ⟨1,false,(some [.bool false]),.bool,none⟩ := by kernel_rfl
theorem zo4 : zeroOf Try.prog 4 = (some [.bool false]) := by kernel_rfl
instance : TyT Try.prog 4 ⟨1,false,(some [.bool false]),.bool,none⟩ := ⟨ty4⟩
instance : ZoT Try.prog 4 (some [.bool false]) := ⟨zo4⟩
theorem ty5 : tinfo Try.prog 5 = some ⟨1,false,(some [.int .u8 0]),.int .u8,none⟩ := by kernel_rfl
theorem zo5 : zeroOf Try.prog 5 = (some [.int .u8 0]) := by kernel_rfl
instance : TyT Try.prog 5 ⟨1,false,(some [.int .u8 0]),.int .u8,none⟩ := ⟨ty5⟩
instance : ZoT Try.prog 5 (some [.int .u8 0]) := ⟨zo5⟩
theorem ty9 : tinfo Try.prog 9 = some ⟨1,false,(some [.str ⟨#[]⟩]),.string,none⟩ := by kernel_rfl
theorem zo9 : zeroOf Try.prog 9 = (some [.str ⟨#[]⟩]) := by kernel_rfl
instance : TyT Try.prog 9 ⟨1,false,(some [.str ⟨#[]⟩]),.string,none⟩ := ⟨ty9⟩
instance : ZoT Try.prog 9 (some [.str ⟨#[]⟩]) := ⟨zo9⟩
theorem ty12 : tinfo Try.prog 12 = some ⟨1,false,(some [.int .u64 0]),.int .u64,none⟩ := by kernel_rfl
theorem zo12 : zeroOf Try.prog 12 = (some [.int .u64 0]) := by kernel_rfl
instance : TyT Try.prog 12 ⟨1,false,(some [.int .u64 0]),.int .u64,none⟩ := ⟨ty12⟩
instance : ZoT Try.prog 12 (some [.int .u64 0]) := ⟨zo12⟩
theorem ty21 : tinfo Try.prog 21 = some ⟨1,false,(some [.int .i32 0]),.int .i32,none⟩ := by kernel_rfl
theorem zo21 : zeroOf Try.prog 21 = (some [.int .i32 0]) := by kernel_rfl
instance : TyT Try.prog 21 ⟨1,false,(some [.int .i32 0]),.int .i32,none⟩ := ⟨ty21⟩
instance : ZoT Try.prog 21 (some [.int .i32 0]) := ⟨zo21⟩
theorem ty22 : tinfo Try.prog 22 = some ⟨1,false,(some [.nilsl]),.slice 24 4 56 true (some [.int .i64 0,.str ⟨#[]⟩,.bool false,.nilsl]),none⟩ := by kernel_rfl
theorem zo22 : zeroOf Try.prog 22 = (some [.nilsl]) := by kernel_rfl
instance : TyT Try.prog 22 ⟨1,false,(some [.nilsl]),.slice 24 4 56 true (some [.int .i64 0,.str ⟨#[]⟩,.bool false,.nilsl]),none⟩ := ⟨ty22⟩
instance : ZoT Try.prog 22 (some [.nilsl]) := ⟨zo22⟩
theorem ty24 : tinfo Try.prog 24 = some ⟨4,true,(some [.int .i64 0,.str ⟨#[]⟩,.bool false,.nilsl]),.struct [(0,3,1,false),(1,9,1,false),(2,4,1,false),(3,22,1,false)],(some [(0,.int .i64),(1,.string),(2,.bool),(3,.other)])⟩ := by kernel_rfl
theorem zo24 : zeroOf Try.prog 24 = (some [.int .i64 0,.str ⟨#[]⟩,.bool false,.nilsl]) := by kernel_rfl
instance : TyT Try.prog 24 ⟨4,true,(some [.int .i64 0,.str ⟨#[]⟩,.bool false,.nilsl]),.struct [(0,3,1,false),(1,9,1,false),(2,4,1,false),(3,22,1,false)],(some [(0,.int .i64),(1,.string),(2,.bool),(3,.other)])⟩ := ⟨ty24⟩
instance : ZoT Try.prog 24 (some [.int .i64 0,.str ⟨#[]⟩,.bool false,.nilsl]) := ⟨zo24⟩
theorem ty25 : tinfo Try.prog 25 = some ⟨1,false,(some [.nilsl]),.slice 33 2 16 true (some [.int .i64 0,.int .i64 0]),none⟩ := by kernel_rfl
theorem zo25 : zeroOf Try.prog 25 = (some [.nilsl]) := by kernel_rfl
instance : TyT Try.prog 25 ⟨1,false,(some [.nilsl]),.slice 33 2 16 true (some [.int .i64 0,.int .i64 0]),none⟩ := ⟨ty25⟩
instance : ZoT Try.prog 25 (some [.nilsl]) := ⟨zo25⟩
theorem ty26 : tinfo Try.prog 26 = some ⟨1,false,(some [.nilfn]),.fn,none⟩ := by kernel_rfl
theorem zo26 : zeroOf Try.prog 26 = (some [.nilfn]) := by kernel_rfl
instance : TyT Try.prog 26 ⟨1,false,(some [.nilfn]),.fn,none⟩ := ⟨ty26⟩
instance : ZoT Try.prog 26 (some [.nilfn]) := ⟨zo26⟩
theorem ty29 : tinfo Try.prog 29 = some ⟨2,true,(some [.int .i64 0,.int .i64 0]),.struct [(0,3,1,false),(1,3,1,false)],(some [(0,.int .i64),(1,.int .i64)])⟩ := by kernel_rfl
theorem zo29 : zeroOf Try.prog 29 = (some [.int .i64 0,.int .i64 0]) := by kernel_rfl
instance : TyT Try.prog 29 ⟨2,true,(some [.int .i64 0,.int .i64 0]),.struct [(0,3,1,false),(1,3,1,false)],(some [(0,.int .i64),(1,.int .i64)])⟩ := ⟨ty29⟩
instance : ZoT Try.prog 29 (some [.int .i64 0,.int .i64 0]) := ⟨zo29⟩
theorem ty32 : tinfo Try.prog 32 = some ⟨1,false,(some [.nilfn]),.fn,none⟩ := by kernel_rfl
theorem zo32 : zeroOf Try.prog 32 = (some [.nilfn]) := by kernel_rfl
instance : TyT Try.prog 32 ⟨1,false,(some [.nilfn]),.fn,none⟩ := ⟨ty32⟩
instance : ZoT Try.prog 32 (some [.nilfn]) := ⟨zo32⟩
theorem ty33 : tinfo Try.prog 33 = some ⟨2,true,(some [.int .i64 0,.int .i64 0]),.array 2 3 1 false,(some [(0,.int .i64),(1,.int .i64)])⟩ := by kernel_rfl
theorem zo33 : zeroOf Try.prog 33 = (some [.int .i64 0,.int .i64 0]) := by kernel_rfl
instance : TyT Try.prog 33 ⟨2,true,(some [.int .i64 0,.int .i64 0]),.array 2 3 1 false,(some [(0,.int .i64),(1,.int .i64)])⟩ := ⟨ty33⟩
instance : ZoT Try.prog 33 (some [.int .i64 0,.int .i64 0]) := ⟨zo33⟩
theorem ty35 : tinfo Try.prog 35 = some ⟨1,false,(some [.nilfn]),.fn,none⟩ := by kernel_rfl
theorem zo35 : zeroOf Try.prog 35 = (some [.nilfn]) := by kernel_rfl
instance : TyT Try.prog 35 ⟨1,false,(some [.nilfn]),.fn,none⟩ := ⟨ty35⟩
instance : ZoT Try.prog 35 (some [.nilfn]) := ⟨zo35⟩
theorem ty36 : tinfo Try.prog 36 = some ⟨1,false,(some [.nilfn]),.fn,none⟩ := by kernel_rfl
theorem zo36 : zeroOf Try.prog 36 = (some [.nilfn]) := by kernel_rfl
instance : TyT Try.prog 36 ⟨1,false,(some [.nilfn]),.fn,none⟩ := ⟨ty36⟩
instance : ZoT Try.prog 36 (some [.nilfn]) := ⟨zo36⟩
theorem ty37 : tinfo Try.prog 37 = some ⟨1,false,(some [.nilfn]),.fn,none⟩ := by kernel_rfl
theorem zo37 : zeroOf Try.prog 37 = (some [.nilfn]) := by kernel_rfl
instance : TyT Try.prog 37 ⟨1,false,(some [.nilfn]),.fn,none⟩ := ⟨ty37⟩
instance : ZoT Try.prog 37 (some [.nilfn]) := ⟨zo37⟩
theorem ty38 : tinfo Try.prog 38 = some ⟨1,false,(some [.nilfn]),.fn,none⟩ := by kernel_rfl
theorem zo38 : zeroOf Try.prog 38 = (some [.nilfn]) := by kernel_rfl
instance : TyT Try.prog 38 ⟨1,false,(some [.nilfn]),.fn,none⟩ := ⟨ty38⟩
instance : ZoT Try.prog 38 (some [.nilfn]) := ⟨zo38⟩
theorem ty40 : tinfo Try.prog 40 = some ⟨1,false,(some [.nilfn]),.fn,none⟩ := by kernel_rfl
theorem zo40 : zeroOf Try.prog 40 = (some [.nilfn]) := by kernel_rfl
instance : TyT Try.prog 40 ⟨1,false,(some [.nilfn]),.fn,none⟩ := ⟨ty40⟩
instance : ZoT Try.prog 40 (some [.nilfn]) := ⟨zo40⟩
theorem ty41 : tinfo Try.prog 41 = some ⟨1,false,(some [.nilfn]),.fn,none⟩ := by kernel_rfl
theorem zo41 : zeroOf Try.prog 41 = (some [.nilfn]) := by kernel_rfl
instance : TyT Try.prog 41 ⟨1,false,(some [.nilfn]),.fn,none⟩ := ⟨ty41⟩
instance : ZoT Try.prog 41 (some [.nilfn]) := ⟨zo41⟩
theorem ty42 : tinfo Try.prog 42 = some ⟨1,false,(some [.nilfn]),.fn,none⟩ := by kernel_rfl
theorem zo42 : zeroOf Try.prog 42 = (some [.nilfn]) := by kernel_rfl
instance : TyT Try.prog 42 ⟨1,false,(some [.nilfn]),.fn,none⟩ := ⟨ty42⟩
instance : ZoT Try.prog 42 (some [.nilfn]) := ⟨zo42⟩
theorem ty43 : tinfo Try.prog 43 = some ⟨1,false,(some [.nilfn]),.fn,none⟩ := by kernel_rfl
theorem zo43 : zeroOf Try.prog 43 = (some [.nilfn]) := by kernel_rfl
instance : TyT Try.prog 43 ⟨1,false,(some [.nilfn]),.fn,none⟩ := ⟨ty43⟩
instance : ZoT Try.prog 43 (some [.nilfn]) := ⟨zo43⟩
theorem ty44 : tinfo Try.prog 44 = some ⟨1,false,(some [.nilfn]),.fn,none⟩ := by kernel_rfl
theorem zo44 : zeroOf Try.prog 44 = (some [.nilfn]) := by kernel_rfl
instance : TyT Try.prog 44 ⟨1,false,(some [.nilfn]),.fn,none⟩ := ⟨ty44⟩
instance : ZoT Try.prog 44 (some [.nilfn]) := ⟨zo44⟩
theorem ty45 : tinfo Try.prog 45 = some ⟨1,false,(some [.nilfn]),.fn,none⟩ := by kernel_rfl
theorem zo45 : zeroOf Try.prog 45 = (some [.nilfn]) := by kernel_rfl
instance : TyT Try.prog 45 ⟨1,false,(some [.nilfn]),.fn,none⟩ := ⟨ty45⟩
instance : ZoT Try.prog 45 (some [.nilfn]) := ⟨zo45⟩
theorem ty51 : tinfo Try.prog 51 = some ⟨1,false,(some [.nilsl]),.slice 53 3 64 true (some [.str ⟨#[]⟩,.nilsl,.nilsl]),none⟩ := by kernel_rfl
theorem zo51 : zeroOf Try.prog 51 = (some [.nilsl]) := by kernel_rfl
instance : TyT Try.prog 51 ⟨1,false,(some [.nilsl]),.slice 53 3 64 true (some [.str ⟨#[]⟩,.nilsl,.nilsl]),none⟩ := ⟨ty51⟩
instance : ZoT Try.prog 51 (some [.nilsl]) := ⟨zo51⟩
theorem ty52 : tinfo Try.prog 52 = some ⟨3,true,(some [.str ⟨#[]⟩,.nilsl,.nilsl]),.struct [(0,9,1,false),(1,22,1,false),(2,51,1,false)],(some [(0,.string),(1,.other),(2,.other)])⟩ := by kernel_rfl
theorem zo52 : zeroOf Try.prog 52 = (some [.str ⟨#[]⟩,.nilsl,.nilsl]) := by kernel_rfl
instance : TyT Try.prog 52 ⟨3,true,(some [.str ⟨#[]⟩,.nilsl,.nilsl]),.struct [(0,9,1,false),(1,22,1,false),(2,51,1,false)],(some [(0,.string),(1,.other),(2,.other)])⟩ := ⟨ty52⟩
instance : ZoT Try.prog 52 (some [.str ⟨#[]⟩,.nilsl,.nilsl]) := ⟨zo52⟩
theorem ty53 : tinfo Try.prog 53 = some ⟨3,true,(some [.str ⟨#[]⟩,.nilsl,.nilsl]),.struct [(0,9,1,false),(1,22,1,false),(2,51,1,false)],(some [(0,.string),(1,.other),(2,.other)])⟩ := by kernel_rfl
theorem zo53 : zeroOf Try.prog 53 = (some [.str ⟨#[]⟩,.nilsl,.nilsl]) := by kernel_rfl
instance : TyT Try.prog 53 ⟨3,true,(some [.str ⟨#[]⟩,.nilsl,.nilsl]),.struct [(0,9,1,false),(1,22,1,false),(2,51,1,false)],(some [(0,.string),(1,.other),(2,.other)])⟩ := ⟨ty53⟩
instance : ZoT Try.prog 53 (some [.str ⟨#[]⟩,.nilsl,.nilsl]) := ⟨zo53⟩
theorem ty56 : tinfo Try.prog 56 = some ⟨1,false,(some [.nilfn]),.fn,none⟩ := by kernel_rfl
theorem zo56 : zeroOf Try.prog 56 = (some [.nilfn]) := by kernel_rfl
instance : TyT Try.prog 56 ⟨1,false,(some [.nilfn]),.fn,none⟩ := ⟨ty56⟩
instance : ZoT Try.prog 56 (some [.nilfn]) := ⟨zo56⟩
theorem ty57 : tinfo Try.prog 57 = some ⟨1,false,(some [.nilfn]),.fn,none⟩ := by kernel_rfl
theorem zo57 : zeroOf Try.prog 57 = (some [.nilfn]) := by kernel_rfl
instance : TyT Try.prog 57 ⟨1,false,(some [.nilfn]),.fn,none⟩ := ⟨ty57⟩
instance : ZoT Try.prog 57 (some [.nilfn]) := ⟨zo57⟩
theorem ty58 : tinfo Try.prog 58 = some ⟨1,false,(some [.nilfn]),.fn,none⟩ := by kernel_rfl
theorem zo58 : zeroOf Try.prog 58 = (some [.nilfn]) := by kernel_rfl
instance : TyT Try.prog 58 ⟨1,false,(some [.nilfn]),.fn,none⟩ := ⟨ty58⟩
instance : ZoT Try.prog 58 (some [.nilfn]) := ⟨zo58⟩
theorem ty59 : tinfo Try.prog 59 = some ⟨1,false,(some [.nilfn]),.fn,none⟩ := by kernel_rfl
theorem zo59 : zeroOf Try.prog 59 = (some [.nilfn]) := by kernel_rfl
instance : TyT Try.prog 59 ⟨1,false,(some [.nilfn]),.fn,none⟩ := ⟨ty59⟩
instance : ZoT Try.prog 59 (some [.nilfn]) := ⟨zo59⟩
theorem ty60 : tinfo Try.prog 60 = some ⟨1,false,(some [.nilfn]),.fn,none⟩ := by kernel_rfl
theorem zo60 : zeroOf Try.prog 60 = (some [.nilfn]) := by kernel_rfl
instance : TyT Try.prog 60 ⟨1,false,(some [.nilfn]),.fn,none⟩ := ⟨ty60⟩
instance : ZoT Try.prog 60 (some [.nilfn]) := ⟨zo60⟩
theorem ty61 : tinfo Try.prog 61 = some ⟨1,false,(some [.nilptr]),.pointer,none⟩ := by kernel_rfl
theorem zo61 : zeroOf Try.prog 61 = (some [.nilptr]) := by kernel_rfl
instance : TyT Try.prog 61 ⟨1,false,(some [.nilptr]),.pointer,none⟩ := ⟨ty61⟩
instance : ZoT Try.prog 61 (some [.nilptr]) := ⟨zo61⟩
theorem ty62 : tinfo Try.prog 62 = some ⟨1,false,(some [.nilfn]),.fn,none⟩ := by kernel_rfl
theorem zo62 : zeroOf Try.prog 62 = (some [.nilfn]) := by kernel_rfl
instance : TyT Try.prog 62 ⟨1,false,(some [.nilfn]),.fn,none⟩ := ⟨ty62⟩
instance : ZoT Try.prog 62 (some [.nilfn]) := ⟨zo62⟩
theorem ty63 : tinfo Try.prog 63 = some ⟨1,false,(some [.nilfn]),.fn,none⟩ := by kernel_rfl
theorem zo63 : zeroOf Try.prog 63 = (some [.nilfn]) := by kernel_rfl
instance : TyT Try.prog 63 ⟨1,false,(some [.nilfn]),.fn,none⟩ := ⟨ty63⟩
instance : ZoT Try.prog 63 (some [.nilfn]) := ⟨zo63⟩
theorem ty64 : tinfo Try.prog 64 = some ⟨1,false,(some [.nilsl]),.slice 4 1 1 false (some [.bool false]),none⟩ := by kernel_rfl
theorem zo64 : zeroOf Try.prog 64 = (some [.nilsl]) := by kernel_rfl
instance : TyT Try.prog 64 ⟨1,false,(some [.nilsl]),.slice 4 1 1 false (some [.bool false]),none⟩ := ⟨ty64⟩
instance : ZoT Try.prog 64 (some [.nilsl]) := ⟨zo64⟩
theorem ty65 : tinfo Try.prog 65 = some ⟨1,false,(some [.nilfn]),.fn,none⟩ := by kernel_rfl
theorem zo65 : zeroOf Try.prog 65 = (some [.nilfn]) := by kernel_rfl
instance : TyT Try.prog 65 ⟨1,false,(some [.nilfn]),.fn,none⟩ := ⟨ty65⟩
instance : ZoT Try.prog 65 (some [.nilfn]) := ⟨zo65⟩
theorem ty67 : tinfo Try.prog 67 = some ⟨1,false,(some [.nilsl]),.slice 3 1 8 false (some [.int .i64 0]),none⟩ := by kernel_rfl
theorem zo67 : zeroOf Try.prog 67 = (some [.nilsl]) := by kernel_rfl
instance : TyT Try.prog 67 ⟨1,false,(some [.nilsl]),.slice 3 1 8 false (some [.int .i64 0]),none⟩ := ⟨ty67⟩
instance : ZoT Try.prog 67 (some [.nilsl]) := ⟨zo67⟩
theorem ty68 : tinfo Try.prog 68 = some ⟨1,false,(some [.nilsl]),.slice 71 4 32 true (some [.int .i64 0,.int .i64 0,.int .i64 0,.int .i64 0]),none⟩ := by kernel_rfl
theorem zo68 : zeroOf Try.prog 68 = (some [.nilsl]) := by kernel_rfl
instance : TyT Try.prog 68 ⟨1,false,(some [.nilsl]),.slice 71 4 32 true (some [.int .i64 0,.int .i64 0,.int .i64 0,.int .i64 0]),none⟩ := ⟨ty68⟩
instance : ZoT Try.prog 68 (some [.nilsl]) := ⟨zo68⟩
theorem ty71 : tinfo Try.prog 71 = some ⟨4,true,(some [.int .i64 0,.int .i64 0,.int .i64 0,.int .i64 0]),.array 2 33 2 true,(some [(0,.other),(2,.other)])⟩ := by kernel_rfl
theorem zo71 : zeroOf Try.prog 71 = (some [.int .i64 0,.int .i64 0,.int .i64 0,.int .i64 0]) := by kernel_rfl
instance : TyT Try.prog 71 ⟨4,true,(some [.int .i64 0,.int .i64 0,.int .i64 0,.int .i64 0]),.array 2 33 2 true,(some [(0,.other),(2,.other)])⟩ := ⟨ty71⟩
instance : ZoT Try.prog 71 (some [.int .i64 0,.int .i64 0,.int .i64 0,.int .i64 0]) := ⟨zo71⟩
theorem ty75 : tinfo Try.prog 75 = some ⟨1,false,(some [.nilfn]),.fn,none⟩ := by kernel_rfl
theorem zo75 : zeroOf Try.prog 75 = (some [.nilfn]) := by kernel_rfl
instance : TyT Try.prog 75 ⟨1,false,(some [.nilfn]),.fn,none⟩ := ⟨ty75⟩
instance : ZoT Try.prog 75 (some [.nilfn]) := ⟨zo75⟩
theorem ty84 : tinfo Try.prog 84 = some ⟨4,true,(some [.nilsl,.nilsl,.nilsl,.nilsl]),.struct [(0,67,1,false),(1,25,1,false),(2,67,1,false),(3,67,1,false)],(some [(0,.other),(1,.other),(2,.other),(3,.other)])⟩ := by kernel_rfl
theorem zo84 : zeroOf Try.prog 84 = (some [.nilsl,.nilsl,.nilsl,.nilsl]) := by kernel_rfl
instance : TyT Try.prog 84 ⟨4,true,(some [.nilsl,.nilsl,.nilsl,.nilsl]),.struct [(0,67,1,false),(1,25,1,false),(2,67,1,false),(3,67,1,false)],(some [(0,.other),(1,.other),(2,.other),(3,.other)])⟩ := ⟨ty84⟩
instance : ZoT Try.prog 84 (some [.nilsl,.nilsl,.nilsl,.nilsl]) := ⟨zo84⟩
theorem ty85 : tinfo Try.prog 85 = some ⟨1,false,(some [.nilsl]),.slice 3 1 8 false (some [.int .i64 0]),none⟩ := by kernel_rfl
theorem zo85 : zeroOf Try.prog 85 = (some [.nilsl]) := by kernel_rfl
instance : TyT Try.prog 85 ⟨1,false,(some [.nilsl]),.slice 3 1 8 false (some [.int .i64 0]),none⟩ := ⟨ty85⟩
instance : ZoT Try.prog 85 (some [.nilsl]) := ⟨zo85⟩
theorem ty97 : tinfo Try.prog 97 = some ⟨1,false,(some [.nilfn]),.fn,none⟩ := by kernel_rfl
theorem zo97 : zeroOf Try.prog 97 = (some [.nilfn]) := by kernel_rfl
instance : TyT Try.prog 97 ⟨1,false,(some [.nilfn]),.fn,none⟩ := ⟨ty97⟩
instance : ZoT Try.prog 97 (some [.nilfn]) := ⟨zo97⟩
theorem zv3 : zvOf Try.prog 3 = some (.int .i64 0) := by kernel_rfl
instance : ZvT Try.prog 3 (.int .i64 0) := ⟨zv3⟩
theorem mixed : Try.prog.follows .mixedOrders = true := by kernel_rfl
instance : MixT Try.prog := ⟨mixed⟩
theorem en3 : Enters Try.prog 3 := Try.call3
instance : EnT Try.prog 3 := ⟨en3⟩
theorem en4 : Enters Try.prog 4 := Try.call4
instance : EnT Try.prog 4 := ⟨en4⟩
theorem en5 : Enters Try.prog 5 := Try.call5
instance : EnT Try.prog 5 := ⟨en5⟩
theorem en7 : Enters Try.prog 7 := Try.call7
instance : EnT Try.prog 7 := ⟨en7⟩
theorem en8 : Enters Try.prog 8 := Try.call8
instance : EnT Try.prog 8 := ⟨en8⟩
theorem en9 : Enters Try.prog 9 := Try.call9
instance : EnT Try.prog 9 := ⟨en9⟩
theorem en10 : Enters Try.prog 10 := Try.call10
instance : EnT Try.prog 10 := ⟨en10⟩
theorem en11 : Enters Try.prog 11 := Try.call11
instance : EnT Try.prog 11 := ⟨en11⟩
theorem en12 : Enters Try.prog 12 := Try.call12
instance : EnT Try.prog 12 := ⟨en12⟩
theorem en13 : Enters Try.prog 13 := Try.call13
instance : EnT Try.prog 13 := ⟨en13⟩
theorem en15 : Enters Try.prog 15 := Try.call15
instance : EnT Try.prog 15 := ⟨en15⟩
theorem en16 : Enters Try.prog 16 := Try.call16
instance : EnT Try.prog 16 := ⟨en16⟩
theorem en17 : Enters Try.prog 17 := Try.call17
instance : EnT Try.prog 17 := ⟨en17⟩
theorem en18 : Enters Try.prog 18 := Try.call18
instance : EnT Try.prog 18 := ⟨en18⟩
theorem en19 : Enters Try.prog 19 := Try.call19
instance : EnT Try.prog 19 := ⟨en19⟩
theorem en20 : Enters Try.prog 20 := Try.call20
instance : EnT Try.prog 20 := ⟨en20⟩
theorem en21 : Enters Try.prog 21 := Try.call21
instance : EnT Try.prog 21 := ⟨en21⟩
theorem en22 : Enters Try.prog 22 := Try.call22
instance : EnT Try.prog 22 := ⟨en22⟩
theorem en26 : Enters Try.prog 26 := Try.call26
instance : EnT Try.prog 26 := ⟨en26⟩
theorem en33 : Enters Try.prog 33 := Try.call33
instance : EnT Try.prog 33 := ⟨en33⟩
theorem en34 : Enters Try.prog 34 := Try.call34
instance : EnT Try.prog 34 := ⟨en34⟩
theorem en35 : Enters Try.prog 35 := Try.call35
instance : EnT Try.prog 35 := ⟨en35⟩
theorem en36 : Enters Try.prog 36 := Try.call36
instance : EnT Try.prog 36 := ⟨en36⟩
theorem en37 : Enters Try.prog 37 := Try.call37
instance : EnT Try.prog 37 := ⟨en37⟩
theorem en38 : Enters Try.prog 38 := Try.call38
instance : EnT Try.prog 38 := ⟨en38⟩
theorem en39 : Enters Try.prog 39 := Try.call39
instance : EnT Try.prog 39 := ⟨en39⟩
theorem en40 : Enters Try.prog 40 := Try.call40
instance : EnT Try.prog 40 := ⟨en40⟩
theorem en41 : Enters Try.prog 41 := Try.call41
instance : EnT Try.prog 41 := ⟨en41⟩
theorem en42 : Enters Try.prog 42 := Try.call42
instance : EnT Try.prog 42 := ⟨en42⟩
theorem en43 : Enters Try.prog 43 := Try.call43
instance : EnT Try.prog 43 := ⟨en43⟩
theorem en44 : Enters Try.prog 44 := Try.call44
instance : EnT Try.prog 44 := ⟨en44⟩
theorem en45 : Enters Try.prog 45 := Try.call45
instance : EnT Try.prog 45 := ⟨en45⟩
theorem en52 : Enters Try.prog 52 := Try.call52
instance : EnT Try.prog 52 := ⟨en52⟩
theorem en53 : Enters Try.prog 53 := Try.call53
instance : EnT Try.prog 53 := ⟨en53⟩
theorem en54 : Enters Try.prog 54 := Try.call54
instance : EnT Try.prog 54 := ⟨en54⟩
theorem en57 : Enters Try.prog 57 := Try.call57
instance : EnT Try.prog 57 := ⟨en57⟩
theorem en58 : Enters Try.prog 58 := Try.call58
instance : EnT Try.prog 58 := ⟨en58⟩
theorem en59 : Enters Try.prog 59 := Try.call59
instance : EnT Try.prog 59 := ⟨en59⟩
theorem en60 : Enters Try.prog 60 := Try.call60
instance : EnT Try.prog 60 := ⟨en60⟩
theorem en61 : Enters Try.prog 61 := Try.call61
instance : EnT Try.prog 61 := ⟨en61⟩
theorem en62 : Enters Try.prog 62 := Try.call62
instance : EnT Try.prog 62 := ⟨en62⟩
theorem en63 : Enters Try.prog 63 := Try.call63
instance : EnT Try.prog 63 := ⟨en63⟩
theorem en64 : Enters Try.prog 64 := Try.call64
instance : EnT Try.prog 64 := ⟨en64⟩
theorem en65 : Enters Try.prog 65 := Try.call65
instance : EnT Try.prog 65 := ⟨en65⟩
theorem en67 : Enters Try.prog 67 := Try.call67
instance : EnT Try.prog 67 := ⟨en67⟩
theorem en68 : Enters Try.prog 68 := Try.call68
instance : EnT Try.prog 68 := ⟨en68⟩
theorem en71 : Enters Try.prog 71 := Try.call71
instance : EnT Try.prog 71 := ⟨en71⟩
end Go.Proofs.Ytbdionmmfigfiaa
namespace Go.Proofs.Ytbdionmmfigfiaa
open Go Go.Pv
def kidsN (n : Int) : Int := if n = 1 ∨ n = 2 ∨ n = 3 then 0 else if n = 4 ∨ n = 8 ∨ n = 9 then 1 else if n = 5 ∨ n = 6 ∨ n = 7 then 2 else -1
def letterB (b : UInt8) : Bool := decide (97 ≤ b.toNat ∧ b.toNat ≤ 122)
def isNameB (s : ByteArray) : Bool := decide (1 ≤ s.size ∧ s.size ≤ 8) && s.data.toList.all letterB
theorem decode_high (s : ByteArray) (i : Nat) (h : i < s.size) (hb : 128 ≤ s[i].toNat) : 128 ≤ (Utf8.decode s i).1 := by
 have hg : (s.get! (i + 0)).toNat = s[i].toNat := by
  rw [Nat.add_zero]
  show (s.data[i]!).toNat = _
  rw [getElem!_pos s.data i h]; rfl
 unfold Utf8.decode
 simp only [hg,Utf8.runeError]
 rw [if_neg (by omega)]
 split
 ·split
  ·assumption
  ·decide
 ·split
  ·split
   ·rename_i h1; simp only [Bool.and_eq_true,decide_eq_true_eq] at h1; omega
   ·decide
  ·split
   ·split
    ·rename_i h1; simp only [Bool.and_eq_true,decide_eq_true_eq] at h1; omega
    ·decide
   ·decide
theorem decode_letter (s : ByteArray) (i : Nat) (h : i < s.size) : (letterB s[i] = true → Utf8.decode s i = (s[i].toNat,1)) ∧ (letterB s[i] = false → (Utf8.decode s i).1 < 97 ∨ 122 < (Utf8.decode s i).1) := by
 refine ⟨fun hl => ?_,fun hl => ?_⟩
 ·simp only [letterB,decide_eq_true_eq] at hl
  exact decode_ascii s i h (by omega)
 ·simp only [letterB,decide_eq_false_iff_not] at hl
  by_cases hb : s[i].toNat < 128
  ·rw [decode_ascii s i h hb]; simp only; omega
  ·have := decode_high s i h (by omega); omega
theorem all_letter (s : ByteArray) : s.data.toList.all letterB = true ↔ ∀ i (h : i < s.size),letterB s[i] = true := by
 rw [List.all_eq_true]
 constructor
 ·intro h i hi; exact h _ (by simp [ByteArray.getElem_eq_getElem_data])
 ·intro h b hb
  obtain ⟨i,hi,rfl⟩ := List.mem_iff_getElem.1 hb
  exact h i (by simpa using hi)
theorem letter_of_decode (t : ByteArray) (i : Nat) (hi : i < t.size) (h1 : 97 ≤ ((Utf8.decode t i).1 : Int)) (h2 : ((Utf8.decode t i).1 : Int) ≤ 122) : letterB t[i] = true := by
 cases hb : letterB t[i] with
 | true => rfl
 | false => have := (decode_letter t i hi).2 hb; omega
theorem no_name (t : ByteArray) (i : Nat) (hi : i < t.size) (h : ((Utf8.decode t i).1 : Int) < 97 ∨ 122 < ((Utf8.decode t i).1 : Int)) : isNameB t = false := by
 have h1 : letterB t[i] = false := by
  cases hb : letterB t[i] with
  | false => rfl
  | true =>
   have := (decode_letter t i hi).1 hb
   simp only [letterB,decide_eq_true_eq] at hb
   rw [this] at h; simp only at h; omega
 have h2 : ¬ t.data.toList.all letterB = true := by
  rw [all_letter]; intro h3; rw [h3 i hi] at h1; cases h1
 simp [isNameB,h2]
theorem isName_formula (t : ByteArray) (s : Store) : CallOK Try.prog 54 [.str t] s (.bool (isNameB t)) s := by
 have _hty := ty21
 refine CallOK.frame ?_ ?_
 ·refine callOK_of Try.func54 rfl rfl Try.ntmps54 (by simp) ?_
  rw [Try.results54]
  dsimp only [light,regL,dsts,lopsL,lop,nth]
  (have F_ := True.intro); repeat' (first | (with_reducible refine stp ?_) | (with_reducible refine hq _ _ ?_; clear hq q) | (with_reducible refine hk _ _ ?_; clear hk k) | (with_reducible refine EvL.regA (fun k hk => ?_)) | ((with_reducible apply WOps.call); (· fail)) | (with_reducible refine WOps.auto F_ (fun q hq => ?_)) | ((with_reducible refine EvL.condA ?_ ?_); all_goals (intro h <;> (try simp only [hna,hnb,hnc,ne_eq,reduceCtorEq,Int.reduceEq,gt_iff_lt,ge_iff_le] at h) <;> (try (exfalso; omega; done)))) | (with_reducible refine EvL.drawnA (fun k hk => ?_)) | (with_reducible refine EvL.mixA (fun k hk => ?_)) | (with_reducible refine EvL.mix2A (fun k hk => ?_)) | (with_reducible refine WMix.bothA F_ ?_ ?_) | (with_reducible refine WOps.takeA ?_) | (with_reducible refine WOps.passA ?_) | ((with_reducible refine WOps.splitA ?_ ?_); all_goals (intro h <;> simp only [h] <;> (try simp only [hna,hnb,hnc,ne_eq,reduceCtorEq,Int.reduceEq,gt_iff_lt,ge_iff_le] at h) <;> (try (exfalso; omega; done)))) | (with_reducible refine WMix.takeA ?_) | (with_reducible refine WMix.passA ?_) | (with_reducible refine WMix.consA F_ ?_) | (with_reducible refine WMix.makeA F_ ?_) | ((with_reducible refine And.intro ?_ ?_); (· omega)) | ((with_reducible refine And.intro (fun h => ?_) (fun h => ?_)) <;> (try simp only [Decidable.not_not] at h) <;> (try simp only [h])) | (with_reducible intro hl))
  all_goals first | ((refine finA ?_; try exact trivial); simp [isNameB]; omega; done) | skip
  ·refine EvL.loop (X := Nat) (fun i => [(0,.str t),(14,.ptr 0 0 0)]) (fun i => [.iter t i]) (fun i => i ≤ t.size ∧ ∀ j (h : j < t.size),j < i → letterB t[j] = true) (fun i => t.size - i) 0 ⟨by omega,fun j _ h => by omega⟩
    (View.of [0] _ (by simp) (by decide) (by (refine vw ?_; try exact trivial)) (by (refine vw ?_; try exact trivial))) (fun i hi => ?_)
   (have F_ := True.intro); repeat' (first | (with_reducible refine stp ?_) | (with_reducible refine hq _ _ ?_; clear hq q) | (with_reducible refine hk _ _ ?_; clear hk k) | (with_reducible refine EvL.regA (fun k hk => ?_)) | ((with_reducible apply WOps.call); (· fail)) | (with_reducible refine WOps.auto F_ (fun q hq => ?_)) | ((with_reducible refine EvL.condA ?_ ?_); all_goals (intro h <;> (try simp only [hna,hnb,hnc,ne_eq,reduceCtorEq,Int.reduceEq,gt_iff_lt,ge_iff_le] at h) <;> (try (exfalso; omega; done)))) | (with_reducible refine EvL.drawnA (fun k hk => ?_)) | (with_reducible refine EvL.mixA (fun k hk => ?_)) | (with_reducible refine EvL.mix2A (fun k hk => ?_)) | (with_reducible refine WMix.bothA F_ ?_ ?_) | (with_reducible refine WOps.takeA ?_) | (with_reducible refine WOps.passA ?_) | ((with_reducible refine WOps.splitA ?_ ?_); all_goals (intro h <;> simp only [h] <;> (try simp only [hna,hnb,hnc,ne_eq,reduceCtorEq,Int.reduceEq,gt_iff_lt,ge_iff_le] at h) <;> (try (exfalso; omega; done)))) | (with_reducible refine WMix.takeA ?_) | (with_reducible refine WMix.passA ?_) | (with_reducible refine WMix.consA F_ ?_) | (with_reducible refine WMix.makeA F_ ?_) | ((with_reducible refine And.intro ?_ ?_); (· omega)) | ((with_reducible refine And.intro (fun h => ?_) (fun h => ?_)) <;> (try simp only [Decidable.not_not] at h) <;> (try simp only [h])) | (with_reducible intro hl))
   all_goals first | ((refine finA ?_; try exact trivial); rw [no_name t i ‹_› (by omega)]; done) | skip
   ·have h1 : letterB t[i] = true := letter_of_decode t i ‹_› (by omega) (by omega)
    have h2 := (decode_letter t i ‹_›).1 h1
    rw [h2]
    refine ⟨i + 1,⟨by omega,fun j hj hji => ?_⟩,by omega,View.of [0] _ (by simp) (by decide) (by (refine vw ?_; try exact trivial)) (by (refine vw ?_; try exact trivial))⟩
    by_cases e : j = i
    ·subst e; exact h1
    ·exact hi.2 j hj (by omega)
   ·(refine finA ?_; try exact trivial)
    have h2 : t.data.toList.all letterB = true := by
     rw [all_letter]; intro j hj; exact hi.2 j hj (by omega)
    simp [isNameB,h2]; omega
 ·simp [flat_str,Flat.closed]
end Go.Proofs.Ytbdionmmfigfiaa
namespace Go.Proofs.Ytbdionmmfigfiaa
open Go Go.Pv
def x39 : XC := .seq (.reg [⟨some 4,.alloc 29,none⟩]) (.seq (.reg [⟨some 5,.move (.tmp 0),none⟩,⟨some 6,.move (.tmp 1),none⟩,⟨some 7,.build 29 #[(0,.tmp 5),(1,.tmp 6)],none⟩,⟨none,.store 29 (.tmp 4) (.tmp 7),none⟩]) .ret)
@[simp] theorem x39_s {C e s K} : type_of% (@X_at C e s K _ _ x39.eq_1) := X_at x39.eq_1
def an39 : Ann := ⟨[],[],[]⟩
theorem fi39 : FI Try.prog 39 (cxA an39) x39 [.cell 4 29] Try.f39 := fiA Try.func39 mixed
theorem fault_net (c a : Int) : CallOK Try.prog 39 [.int .i64 c,.int .i64 a] [] (.agg [.int .i64 c,.int .i64 a]) [] := by
 refine fi39.op ?_
 (refine Sg.h ?_;try repeat' ((with_reducible first|refine brA ?_|refine brE fun _=>?_|refine spl ⟨?_,?_⟩<;>intro _)<;> ((try simp -implicitDefEqProofs); (try simp -implicitDefEqProofs(disch:=first|assumption|(try simp only[lens]);omega -splitDisjunctions)))))
def kidsL (k : Int) : Int := if k = 1 then 0 else if k = 2 ∨ k = 3 then 2 else -1
def x53 : XC := .seq (.reg [⟨some 2,.assign (.const (.int .i64 0)),none⟩]) (.seq (.seq (.reg [⟨some 3,.move (.tmp 0),none⟩]) (.block 0 (.seq (.reg [⟨some 5,.binOp .eql 3 (.tmp 3) (.const (.int .i64 1)) 3,none⟩,⟨some 4,.assign (.tmp 5),none⟩]) (.cond (.tmp 4) (.seq (.reg [⟨some 2,.assign (.const (.int .i64 0)),none⟩]) .ret) (.seq (.seq (.reg [⟨some 7,.binOp .eql 3 (.tmp 3) (.const (.int .i64 2)) 3,none⟩,⟨some 6,.assign (.tmp 7),none⟩]) (.cond (.tmp 6) .skip (.reg [⟨some 8,.binOp .eql 3 (.tmp 3) (.const (.int .i64 3)) 3,none⟩,⟨some 6,.assign (.tmp 8),none⟩]))) (.cond (.tmp 6) (.seq (.reg [⟨some 2,.assign (.const (.int .i64 2)),none⟩]) .ret) .skip)))))) (.seq (.reg [⟨some 2,.assign (.const (.int .i64 (-1))),none⟩]) .ret))
@[simp] theorem x53_s {C e s K} : type_of% (@X_at C e s K _ _ x53.eq_1) := X_at x53.eq_1
def an53 : Ann := ⟨[],[],[]⟩
theorem fi53 : FI Try.prog 53 (cxA an53) x53 [.tmp 2] Try.f53 := fiA Try.func53 mixed
theorem kids_net (k : Int) : CallOK Try.prog 53 [.int .i64 k] [] (.int .i64 (kidsL k)) [] := by
 refine fi53.op ?_
 (refine Sg.h ?_;try repeat' ((with_reducible first|refine brA ?_|refine brE fun _=>?_|refine spl ⟨?_,?_⟩<;>intro _)<;> ((try simp -implicitDefEqProofs); (try simp -implicitDefEqProofs(disch:=first|assumption|(try simp only[lens]);omega -splitDisjunctions)))))
 all_goals simp_all [kidsL]
 all_goals (intros; omega)
def x64 : XC := .seq (.reg [⟨some 1,.box 24 (.tmp 0),none⟩,⟨some 2,.assign (.const (.bool false)),none⟩]) (.seq (.reg [⟨some 3,.fieldAddr 24 (.tmp 1) 0,none⟩,⟨some 4,.load 3 (.tmp 3),none⟩,⟨some 5,.binOp .neq 3 (.tmp 4) (.const (.int .i64 1)) 3,none⟩,⟨some 2,.assign (.tmp 5),none⟩]) .ret)
@[simp] theorem x64_s {C e s K} : type_of% (@X_at C e s K _ _ x64.eq_1) := X_at x64.eq_1
def an64 : Ann := ⟨[],[],[]⟩
theorem fi64 : FI Try.prog 64 (cxA an64) x64 [.tmp 2] Try.f64 := fiA Try.func64 mixed
theorem leaves1_net (x : Ln) : CallOK Try.prog 64 [.agg (lnr x)] [] (.bool (decide (x.k ≠ 1))) [] := by
 refine fi64.op ?_
 (refine Sg.h ?_;try repeat' ((with_reducible first|refine brA ?_|refine brE fun _=>?_|refine spl ⟨?_,?_⟩<;>intro _)<;> ((try simp -implicitDefEqProofs); (try simp -implicitDefEqProofs(disch:=first|assumption|(try simp only[lens]);omega -splitDisjunctions)))))
 all_goals simp_all
def x67 : XC := .seq (.reg [⟨some 2,.assign (.const (.slice none 0 0)),none⟩]) (.seq (.seq (.reg [⟨some 3,.move (.tmp 0),none⟩,⟨some 4,.binOp .eql 22 (.tmp 3) (.const (.slice none 0 0)) 22,none⟩]) (.cond (.tmp 4) (.seq (.reg [⟨some 2,.assign (.const (.slice none 0 0)),none⟩]) .ret) .skip)) (.seq (.reg [⟨some 5,.buildSlice 22 0 #[],none⟩,⟨some 6,.move (.tmp 0),none⟩,⟨some 7,.call ⟨.builtin .append,#[.tmp 5,.tmp 6],#[22,22]⟩,none⟩,⟨some 2,.assign (.tmp 7),none⟩]) .ret))
@[simp] theorem x67_s {C e s K} : type_of% (@X_at C e s K _ _ x67.eq_1) := X_at x67.eq_1
def an67 : Ann := ⟨[],[],[]⟩
theorem fi67 : FI Try.prog 67 (cxA an67) x67 [.tmp 2] Try.f67 := fiA Try.func67 mixed
theorem Clone_lin (l : List Ln) (hl : 0 < l.length) (h2 : l.length ≤ 1000000) : CallOK Try.prog 67 [.list (l.map lnr)] [] (.sl 0 0 l.length) [.rows 4 (l.map lnr)] := by
 refine fi67.og ?_
 (refine Sg.h ?_;try repeat' ((with_reducible first|refine brA ?_|refine brE fun _=>?_|refine spl ⟨?_,?_⟩<;>intro _)<;> ((try simp -implicitDefEqProofs); (try simp -implicitDefEqProofs(disch:=first|assumption|(try simp only[lens]);omega -splitDisjunctions)))))
def revI (l : List Ln) (i : Nat) : List Ln := (List.range l.length).map fun k => if k < i ∨ l.length - i ≤ k then l[l.length - 1 - k]! else l[k]!
theorem revI_len (l : List Ln) (i : Nat) : (revI l i).length = l.length := by simp [revI]
theorem revI_zero (l : List Ln) : revI l 0 = l := by
 apply List.ext_getElem
 ·simp [revI]
 ·intro k h1 h2
  simp only [revI,List.getElem_map,List.getElem_range]
  rw [if_neg (by omega),getElem!_pos l k h2]
theorem revI_end (l : List Ln) (i : Nat) (h : l.length ≤ 2 * i + 1) : revI l i = l.reverse := by
 apply List.ext_getElem
 ·simp [revI]
 ·intro k h1 h2
  have hk : k < l.length := by simpa using h2
  simp only [revI,List.getElem_map,List.getElem_range,List.getElem_reverse]
  by_cases hc : k < i ∨ l.length - i ≤ k
  ·rw [if_pos hc,getElem!_pos l _ (by omega)]
  ·rw [if_neg hc,getElem!_pos l k hk]
   congr 1; omega
theorem revI_get (l : List Ln) (i k : Nat) (h : k < (revI l i).length) (hi : ¬ (k < i ∨ l.length - i ≤ k)) : (revI l i)[k] = l[k]'(by rw [revI_len] at h; exact h) := by
 simp only [revI,List.getElem_map,List.getElem_range]
 rw [if_neg hi,getElem!_pos l k]
theorem revI_step (l : List Ln) (i : Nat) (h : 2 * i + 1 < l.length) : ((revI l i).set i (l[l.length - 1 - i]'(by omega))).set (l.length - 1 - i) (l[i]'(by omega)) = revI l (i + 1) := by
 apply List.ext_getElem
 ·simp [revI]
 ·intro k h1 h2
  have hk : k < l.length := by simpa [revI] using h2
  rw [List.getElem_set,List.getElem_set]
  simp only [revI,List.getElem_map,List.getElem_range]
  by_cases h3 : l.length - 1 - i = k
  ·rw [if_pos h3,if_pos (by omega),getElem!_pos l _ (by omega)]
   congr 1; omega
  ·rw [if_neg h3]
   by_cases h4 : i = k
   ·subst h4
    rw [if_pos rfl,if_pos (by omega),getElem!_pos l _ (by omega)]
   ·rw [if_neg h4]
    by_cases h5 : k < i ∨ l.length - i ≤ k
    ·rw [if_pos h5,if_pos (by omega)]
    ·rw [if_neg h5,if_neg (by omega)]
def x68_L0 : XC := .seq (.seq (.reg [⟨some 7,.move (.tmp 2),none⟩,⟨some 8,.move (.tmp 3),none⟩,⟨some 9,.binOp .lss 3 (.tmp 7) (.tmp 8) 3,none⟩]) (.cond (.tmp 9) .skip (.exit 0))) (.seq (.block 1 (.drawn 3 [⟨some 14,.move (.tmp 0),none⟩,⟨some 15,.move (.tmp 2),none⟩,⟨some 16,.move (.tmp 0),none⟩,⟨some 17,.move (.tmp 3),none⟩,⟨some 18,.move (.tmp 0),none⟩,⟨some 19,.move (.tmp 3),none⟩,⟨some 20,.indexAddr 22 (.tmp 18) (.tmp 19),none⟩,⟨some 21,.load 24 (.tmp 20),none⟩,⟨some 22,.move (.tmp 0),none⟩,⟨some 23,.move (.tmp 2),none⟩,⟨some 24,.indexAddr 22 (.tmp 22) (.tmp 23),none⟩,⟨some 25,.load 24 (.tmp 24),none⟩,⟨some 26,.indexAddr 22 (.tmp 14) (.tmp 15),none⟩,⟨none,.store 24 (.tmp 26) (.tmp 21),none⟩,⟨some 27,.indexAddr 22 (.tmp 16) (.tmp 17),none⟩,⟨none,.store 24 (.tmp 27) (.tmp 25),none⟩])) (.reg [⟨some 10,.move (.tmp 2),none⟩,⟨some 11,.binOp .add 3 (.tmp 10) (.const (.int .i64 1)) 3,none⟩,⟨some 12,.move (.tmp 3),none⟩,⟨some 13,.binOp .sub 3 (.tmp 12) (.const (.int .i64 1)) 3,none⟩,⟨some 2,.assign (.tmp 11),none⟩,⟨some 3,.assign (.tmp 13),none⟩]))
def x68 : XC := .seq (.reg [⟨some 4,.move (.tmp 0),none⟩,⟨some 5,.call ⟨.builtin .len,#[.tmp 4],#[22]⟩,none⟩,⟨some 6,.binOp .sub 3 (.tmp 5) (.const (.int .i64 1)) 3,none⟩,⟨some 2,.assign (.const (.int .i64 0)),none⟩,⟨some 3,.assign (.tmp 6),none⟩]) (.bloop 0 x68_L0)
@[simp] theorem x68_s {C e s K} : type_of% (@X_at C e s K _ _ x68_L0.eq_1) ∧ type_of% (@X_at C e s K _ _ x68.eq_1) := ⟨X_at x68_L0.eq_1,X_at x68.eq_1⟩
def an68 : Ann := ⟨[(3,.tree (.op 0 (.op 1 (.op 2 (.op 3 (.op 4 (.op 5 (.op 6 (.op 7 (.op 8 (.op 9 (.op 10 (.op 11 (.op 12 (.op 13 (.op 14 (.op 15 .fin)))))))))))))))))],[(0,[],[0,2,3],[])],[]⟩
@[simp] theorem an68_a : an68.clsOf 3 = .tree (.op 0 (.op 1 (.op 2 (.op 3 (.op 4 (.op 5 (.op 6 (.op 7 (.op 8 (.op 9 (.op 10 (.op 11 (.op 12 (.op 13 (.op 14 (.op 15 .fin)))))))))))))))) ∧ an68.frzOf 3 = [] ∧ an68.loopOf 0 = ([],[0,2,3],[]) := ⟨rfl,rfl,rfl⟩
theorem fi68 : FI Try.prog 68 (cxA an68) x68 [] Try.f68 := fiA Try.func68 mixed
theorem Reverse_lin (l : List Ln) (hl : l.length ≤ 1000000) : CallOK Try.prog 68 [.sl 0 0 l.length] [.rows 4 (l.map lnr)] (.tuple []) [.rows 4 (l.reverse.map lnr)] := by
 refine fi68.og ?_
 obtain ⟨r,hr⟩ : ∃ r,l.reverse = r := ⟨_,rfl⟩
 rw [hr]
 by_cases h0 : l.length = 0
 ·obtain rfl : l = [] := List.eq_nil_of_length_eq_zero h0
  obtain rfl : r = [] := hr.symm
  (refine Sg.h ?_;try repeat' ((with_reducible first|refine brA ?_|refine brE fun _=>?_|refine spl ⟨?_,?_⟩<;>intro _)<;> ((try simp -implicitDefEqProofs); (try simp -implicitDefEqProofs(disch:=first|assumption|(try simp only[lens]);omega -splitDisjunctions)))))
  refine W_of fun Q hQ => ?_
  apply hQ
  clear hQ
  (refine Sg.h ?_;try repeat' ((with_reducible first|refine brA ?_|refine brE fun _=>?_|refine spl ⟨?_,?_⟩<;>intro _)<;> ((try simp -implicitDefEqProofs); (try simp -implicitDefEqProofs(disch:=first|assumption|(try simp only[lens]);omega -splitDisjunctions)))))
 (refine Sg.h ?_;try repeat' ((with_reducible first|refine brA ?_|refine brE fun _=>?_|refine spl ⟨?_,?_⟩<;>intro _)<;> ((try simp -implicitDefEqProofs); (try simp -implicitDefEqProofs(disch:=first|assumption|(try simp only[lens]);omega -splitDisjunctions)))))
 refine W_of fun Q hQ => ?_
 have main : ∀ n i j : Nat,i + j + 1 = l.length → j + 1 ≤ i + n → Q [(0,.sl 0 0 l.length),(2,.int .i64 (i : Int)),(3,.int .i64 (j : Int))] [.rows 4 ((revI l i).map lnr)] := by
  intro n
  induction n with
  | zero =>
   intro i j hij hn
   rw [revI_end l i (by omega),hr]
   have h1 : ¬ i < j := by omega
   apply hQ
   clear hQ
   (refine Sg.h ?_;try repeat' ((with_reducible first|refine brA ?_|refine brE fun _=>?_|refine spl ⟨?_,?_⟩<;>intro _)<;> ((try simp -implicitDefEqProofs [h1]); (try simp -implicitDefEqProofs(disch:=first|assumption|(try simp only[lens]);omega -splitDisjunctions) [h1]))))
  | succ n ih =>
   intro i j hij hn
   by_cases h1 : i < j
   ·obtain ⟨j,rfl⟩ : ∃ k,j = k + 1 := ⟨j - 1,by omega⟩
    have ih := ih (i + 1) j (by omega) (by omega)
    have hlen := revI_len l i
    have hi : i < (revI l i).length := by omega
    have hj : j + 1 < (revI l i).length := by omega
    have e1 := revI_get l i i hi (by omega)
    have e2 := revI_get l i (j + 1) hj (by omega)
    have hs := revI_step l i (by omega)
    simp only [show l.length - 1 - i = j + 1 by omega] at hs
    rw [← e1,← e2] at hs
    rw [← hs] at ih
    clear e1 e2 hs
    generalize revI l i = M at *
    obtain ⟨N,hN⟩ : ∃ N,(M.set i M[j + 1]).set (j + 1) M[i] = N := ⟨_,rfl⟩
    have e3 : ((M.map lnr).set i (lnr M[j + 1])).set (j + 1) (lnr M[i]) = N.map lnr := by rw [← hN]; simp
    rw [hN] at ih
    rw [← hlen] at ih ⊢
    apply hQ
    clear hQ hN
    (refine Sg.h ?_;try repeat' ((with_reducible first|refine brA ?_|refine brE fun _=>?_|refine spl ⟨?_,?_⟩<;>intro _)<;> ((try simp -implicitDefEqProofs [hi,hj,h1,e3]); (try simp -implicitDefEqProofs(disch:=first|assumption|(try simp only[lens]);omega -splitDisjunctions) [hi,hj,h1,e3]))))
    all_goals first | exact ih | (refine at2 ih ?_ ?_ <;> simp; done) | (exfalso; first | omega | (simp_all; done) | (simp_all; omega))
   ·rw [revI_end l i (by omega),hr]
    apply hQ
    clear hQ
    (refine Sg.h ?_;try repeat' ((with_reducible first|refine brA ?_|refine brE fun _=>?_|refine spl ⟨?_,?_⟩<;>intro _)<;> ((try simp -implicitDefEqProofs [h1]); (try simp -implicitDefEqProofs(disch:=first|assumption|(try simp only[lens]);omega -splitDisjunctions) [h1]))))
 refine at2 (main l.length 0 (l.length - 1) (by omega) (by omega)) ?_ ?_
 ·simp
  omega
 ·rw [revI_zero]
end Go.Proofs.Ytbdionmmfigfiaa
