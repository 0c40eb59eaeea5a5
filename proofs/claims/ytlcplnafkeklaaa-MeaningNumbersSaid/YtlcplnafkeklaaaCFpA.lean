import Derived.Test.YtlcplnafkeklaaaCPvWalk
import Derived.Test.YtlcplnafkeklaaaChecked
import Derived.Laws.RangeString
import Derived.Test.YtlcplnafkeklaaaCPvPan
import Derived.Test.YtlcplnafkeklaaaCPvRec
set_option linter.unusedVariables false
set_option linter.unusedSimpArgs false
set_option maxRecDepth 100000
set_option maxHeartbeats 4000000
namespace Go.Proofs.Ytlcplnafkeklaaa
open Go Go.Pv
theorem ty1 : tinfo Try.prog 1 = some ⟨1,false,(some [.nilfn]),.fn,none⟩:=by kernel_rfl
theorem zo1 : zeroOf Try.prog 1 = (some [.nilfn]):=by kernel_rfl
instance : TyT Try.prog 1 ⟨1,false,(some [.nilfn]),.fn,none⟩:=⟨ty1⟩
instance : ZoT Try.prog 1 (some [.nilfn]):=⟨zo1⟩
theorem ty2 : tinfo Try.prog 2 = some ⟨1,false,(some [.int .i64 0]),.int .i64,none⟩:=by kernel_rfl
theorem zo2 : zeroOf Try.prog 2 = (some [.int .i64 0]):=by kernel_rfl
instance : TyT Try.prog 2 ⟨1,false,(some [.int .i64 0]),.int .i64,none⟩:=⟨ty2⟩
instance : ZoT Try.prog 2 (some [.int .i64 0]):=⟨zo2⟩
theorem ty3 : tinfo Try.prog 3 = some ⟨1,false,(some [.int .i64 0]),.int .i64,none⟩:=by kernel_rfl
theorem zo3 : zeroOf Try.prog 3 = (some [.int .i64 0]):=by kernel_rfl
instance : TyT Try.prog 3 ⟨1,false,(some [.int .i64 0]),.int .i64,none⟩:=⟨ty3⟩
instance : ZoT Try.prog 3 (some [.int .i64 0]):=⟨zo3⟩
theorem ty4 : tinfo Try.prog 4 = some ⟨1,false,(some [.bool false]),.bool,none⟩:=by kernel_rfl
theorem zo4 : zeroOf Try.prog 4 = (some [.bool false]):=by kernel_rfl
instance : TyT Try.prog 4 ⟨1,false,(some [.bool false]),.bool,none⟩:=⟨ty4⟩
instance : ZoT Try.prog 4 (some [.bool false]):=⟨zo4⟩
theorem ty5 : tinfo Try.prog 5 = some ⟨1,false,(some [.int .u8 0]),.int .u8,none⟩:=by kernel_rfl
theorem zo5 : zeroOf Try.prog 5 = (some [.int .u8 0]):=by kernel_rfl
instance : TyT Try.prog 5 ⟨1,false,(some [.int .u8 0]),.int .u8,none⟩:=⟨ty5⟩
instance : ZoT Try.prog 5 (some [.int .u8 0]):=⟨zo5⟩
theorem ty9 : tinfo Try.prog 9 = some ⟨1,false,(some [.str ⟨#[]⟩]),.string,none⟩:=by kernel_rfl
theorem zo9 : zeroOf Try.prog 9 = (some [.str ⟨#[]⟩]):=by kernel_rfl
instance : TyT Try.prog 9 ⟨1,false,(some [.str ⟨#[]⟩]),.string,none⟩:=⟨ty9⟩
instance : ZoT Try.prog 9 (some [.str ⟨#[]⟩]):=⟨zo9⟩
theorem ty12 : tinfo Try.prog 12 = some ⟨1,false,(some [.int .u64 0]),.int .u64,none⟩:=by kernel_rfl
theorem zo12 : zeroOf Try.prog 12 = (some [.int .u64 0]):=by kernel_rfl
instance : TyT Try.prog 12 ⟨1,false,(some [.int .u64 0]),.int .u64,none⟩:=⟨ty12⟩
instance : ZoT Try.prog 12 (some [.int .u64 0]):=⟨zo12⟩
theorem ty21 : tinfo Try.prog 21 = some ⟨1,false,(some [.int .i32 0]),.int .i32,none⟩:=by kernel_rfl
theorem zo21 : zeroOf Try.prog 21 = (some [.int .i32 0]):=by kernel_rfl
instance : TyT Try.prog 21 ⟨1,false,(some [.int .i32 0]),.int .i32,none⟩:=⟨ty21⟩
instance : ZoT Try.prog 21 (some [.int .i32 0]):=⟨zo21⟩
theorem ty22 : tinfo Try.prog 22 = some ⟨1,false,(some [.nilsl]),.slice 52 3 48 true (some [.str ⟨#[]⟩,.int .i64 0,.nilsl]),none⟩:=by kernel_rfl
theorem zo22 : zeroOf Try.prog 22 = (some [.nilsl]):=by kernel_rfl
instance : TyT Try.prog 22 ⟨1,false,(some [.nilsl]),.slice 52 3 48 true (some [.str ⟨#[]⟩,.int .i64 0,.nilsl]),none⟩:=⟨ty22⟩
instance : ZoT Try.prog 22 (some [.nilsl]):=⟨zo22⟩
theorem ty23 : tinfo Try.prog 23 = some ⟨1,false,(some [.nilsl]),.slice 55 3 48 true (some [.str ⟨#[]⟩,.int .i64 0,.nilsl]),none⟩:=by kernel_rfl
theorem zo23 : zeroOf Try.prog 23 = (some [.nilsl]):=by kernel_rfl
instance : TyT Try.prog 23 ⟨1,false,(some [.nilsl]),.slice 55 3 48 true (some [.str ⟨#[]⟩,.int .i64 0,.nilsl]),none⟩:=⟨ty23⟩
instance : ZoT Try.prog 23 (some [.nilsl]):=⟨zo23⟩
theorem ty24 : tinfo Try.prog 24 = some ⟨3,true,(some [.int .i64 0,.nilsl,.nilsl]),.struct [(0,3,1,false),(1,22,1,false),(2,23,1,false)],(some [(0,.int .i64),(1,.other),(2,.other)])⟩:=by kernel_rfl
theorem zo24 : zeroOf Try.prog 24 = (some [.int .i64 0,.nilsl,.nilsl]):=by kernel_rfl
instance : TyT Try.prog 24 ⟨3,true,(some [.int .i64 0,.nilsl,.nilsl]),.struct [(0,3,1,false),(1,22,1,false),(2,23,1,false)],(some [(0,.int .i64),(1,.other),(2,.other)])⟩:=⟨ty24⟩
instance : ZoT Try.prog 24 (some [.int .i64 0,.nilsl,.nilsl]):=⟨zo24⟩
theorem ty25 : tinfo Try.prog 25 = some ⟨3,true,(some [.int .i64 0,.nilsl,.nilsl]),.struct [(0,3,1,false),(1,22,1,false),(2,23,1,false)],(some [(0,.int .i64),(1,.other),(2,.other)])⟩:=by kernel_rfl
theorem zo25 : zeroOf Try.prog 25 = (some [.int .i64 0,.nilsl,.nilsl]):=by kernel_rfl
instance : TyT Try.prog 25 ⟨3,true,(some [.int .i64 0,.nilsl,.nilsl]),.struct [(0,3,1,false),(1,22,1,false),(2,23,1,false)],(some [(0,.int .i64),(1,.other),(2,.other)])⟩:=⟨ty25⟩
instance : ZoT Try.prog 25 (some [.int .i64 0,.nilsl,.nilsl]):=⟨zo25⟩
theorem ty26 : tinfo Try.prog 26 = some ⟨1,false,(some [.nilsl]),.slice 68 2 40 true (some [.str ⟨#[]⟩,.nilsl]),none⟩:=by kernel_rfl
theorem zo26 : zeroOf Try.prog 26 = (some [.nilsl]):=by kernel_rfl
instance : TyT Try.prog 26 ⟨1,false,(some [.nilsl]),.slice 68 2 40 true (some [.str ⟨#[]⟩,.nilsl]),none⟩:=⟨ty26⟩
instance : ZoT Try.prog 26 (some [.nilsl]):=⟨zo26⟩
theorem ty27 : tinfo Try.prog 27 = some ⟨1,false,(some [.nilsl]),.slice 29 4 72 true (some [.int .i64 0,.str ⟨#[]⟩,.nilsl,.nilsl]),none⟩:=by kernel_rfl
theorem zo27 : zeroOf Try.prog 27 = (some [.nilsl]):=by kernel_rfl
instance : TyT Try.prog 27 ⟨1,false,(some [.nilsl]),.slice 29 4 72 true (some [.int .i64 0,.str ⟨#[]⟩,.nilsl,.nilsl]),none⟩:=⟨ty27⟩
instance : ZoT Try.prog 27 (some [.nilsl]):=⟨zo27⟩
theorem ty28 : tinfo Try.prog 28 = some ⟨4,true,(some [.int .i64 0,.str ⟨#[]⟩,.nilsl,.nilsl]),.struct [(0,3,1,false),(1,9,1,false),(2,26,1,false),(3,27,1,false)],(some [(0,.int .i64),(1,.string),(2,.other),(3,.other)])⟩:=by kernel_rfl
theorem zo28 : zeroOf Try.prog 28 = (some [.int .i64 0,.str ⟨#[]⟩,.nilsl,.nilsl]):=by kernel_rfl
instance : TyT Try.prog 28 ⟨4,true,(some [.int .i64 0,.str ⟨#[]⟩,.nilsl,.nilsl]),.struct [(0,3,1,false),(1,9,1,false),(2,26,1,false),(3,27,1,false)],(some [(0,.int .i64),(1,.string),(2,.other),(3,.other)])⟩:=⟨ty28⟩
instance : ZoT Try.prog 28 (some [.int .i64 0,.str ⟨#[]⟩,.nilsl,.nilsl]):=⟨zo28⟩
theorem ty29 : tinfo Try.prog 29 = some ⟨4,true,(some [.int .i64 0,.str ⟨#[]⟩,.nilsl,.nilsl]),.struct [(0,3,1,false),(1,9,1,false),(2,26,1,false),(3,27,1,false)],(some [(0,.int .i64),(1,.string),(2,.other),(3,.other)])⟩:=by kernel_rfl
theorem zo29 : zeroOf Try.prog 29 = (some [.int .i64 0,.str ⟨#[]⟩,.nilsl,.nilsl]):=by kernel_rfl
instance : TyT Try.prog 29 ⟨4,true,(some [.int .i64 0,.str ⟨#[]⟩,.nilsl,.nilsl]),.struct [(0,3,1,false),(1,9,1,false),(2,26,1,false),(3,27,1,false)],(some [(0,.int .i64),(1,.string),(2,.other),(3,.other)])⟩:=⟨ty29⟩
instance : ZoT Try.prog 29 (some [.int .i64 0,.str ⟨#[]⟩,.nilsl,.nilsl]):=⟨zo29⟩
theorem ty30 : tinfo Try.prog 30 = some ⟨1,false,(some [.nilsl]),.slice 9 1 16 false (some [.str ⟨#[]⟩]),none⟩:=by kernel_rfl
theorem zo30 : zeroOf Try.prog 30 = (some [.nilsl]):=by kernel_rfl
instance : TyT Try.prog 30 ⟨1,false,(some [.nilsl]),.slice 9 1 16 false (some [.str ⟨#[]⟩]),none⟩:=⟨ty30⟩
instance : ZoT Try.prog 30 (some [.nilsl]):=⟨zo30⟩
theorem ty31 : tinfo Try.prog 31 = some ⟨1,false,(some [.nilsl]),.slice 3 1 8 false (some [.int .i64 0]),none⟩:=by kernel_rfl
theorem zo31 : zeroOf Try.prog 31 = (some [.nilsl]):=by kernel_rfl
instance : TyT Try.prog 31 ⟨1,false,(some [.nilsl]),.slice 3 1 8 false (some [.int .i64 0]),none⟩:=⟨ty31⟩
instance : ZoT Try.prog 31 (some [.nilsl]):=⟨zo31⟩
theorem ty32 : tinfo Try.prog 32 = some ⟨1,false,(some [.nilfn]),.fn,none⟩:=by kernel_rfl
theorem zo32 : zeroOf Try.prog 32 = (some [.nilfn]):=by kernel_rfl
instance : TyT Try.prog 32 ⟨1,false,(some [.nilfn]),.fn,none⟩:=⟨ty32⟩
instance : ZoT Try.prog 32 (some [.nilfn]):=⟨zo32⟩
theorem ty33 : tinfo Try.prog 33 = some ⟨1,false,(some [.nilfn]),.fn,none⟩:=by kernel_rfl
theorem zo33 : zeroOf Try.prog 33 = (some [.nilfn]):=by kernel_rfl
instance : TyT Try.prog 33 ⟨1,false,(some [.nilfn]),.fn,none⟩:=⟨ty33⟩
instance : ZoT Try.prog 33 (some [.nilfn]):=⟨zo33⟩
theorem ty34 : tinfo Try.prog 34 = some ⟨1,false,(some [.nilfn]),.fn,none⟩:=by kernel_rfl
theorem zo34 : zeroOf Try.prog 34 = (some [.nilfn]):=by kernel_rfl
instance : TyT Try.prog 34 ⟨1,false,(some [.nilfn]),.fn,none⟩:=⟨ty34⟩
instance : ZoT Try.prog 34 (some [.nilfn]):=⟨zo34⟩
theorem ty36 : tinfo Try.prog 36 = some ⟨2,true,(some [.int .i64 0,.int .i64 0]),.struct [(0,3,1,false),(1,3,1,false)],(some [(0,.int .i64),(1,.int .i64)])⟩:=by kernel_rfl
theorem zo36 : zeroOf Try.prog 36 = (some [.int .i64 0,.int .i64 0]):=by kernel_rfl
instance : TyT Try.prog 36 ⟨2,true,(some [.int .i64 0,.int .i64 0]),.struct [(0,3,1,false),(1,3,1,false)],(some [(0,.int .i64),(1,.int .i64)])⟩:=⟨ty36⟩
instance : ZoT Try.prog 36 (some [.int .i64 0,.int .i64 0]):=⟨zo36⟩
theorem ty37 : tinfo Try.prog 37 = some ⟨1,false,(some [.nilfn]),.fn,none⟩:=by kernel_rfl
theorem zo37 : zeroOf Try.prog 37 = (some [.nilfn]):=by kernel_rfl
instance : TyT Try.prog 37 ⟨1,false,(some [.nilfn]),.fn,none⟩:=⟨ty37⟩
instance : ZoT Try.prog 37 (some [.nilfn]):=⟨zo37⟩
theorem ty40 : tinfo Try.prog 40 = some ⟨1,false,(some [.nilfn]),.fn,none⟩:=by kernel_rfl
theorem zo40 : zeroOf Try.prog 40 = (some [.nilfn]):=by kernel_rfl
instance : TyT Try.prog 40 ⟨1,false,(some [.nilfn]),.fn,none⟩:=⟨ty40⟩
instance : ZoT Try.prog 40 (some [.nilfn]):=⟨zo40⟩
theorem ty41 : tinfo Try.prog 41 = some ⟨1,false,(some [.nilfn]),.fn,none⟩:=by kernel_rfl
theorem zo41 : zeroOf Try.prog 41 = (some [.nilfn]):=by kernel_rfl
instance : TyT Try.prog 41 ⟨1,false,(some [.nilfn]),.fn,none⟩:=⟨ty41⟩
instance : ZoT Try.prog 41 (some [.nilfn]):=⟨zo41⟩
theorem ty44 : tinfo Try.prog 44 = some ⟨1,false,(some [.nilfn]),.fn,none⟩:=by kernel_rfl
theorem zo44 : zeroOf Try.prog 44 = (some [.nilfn]):=by kernel_rfl
instance : TyT Try.prog 44 ⟨1,false,(some [.nilfn]),.fn,none⟩:=⟨ty44⟩
instance : ZoT Try.prog 44 (some [.nilfn]):=⟨zo44⟩
theorem ty45 : tinfo Try.prog 45 = some ⟨1,false,(some [.nilfn]),.fn,none⟩:=by kernel_rfl
theorem zo45 : zeroOf Try.prog 45 = (some [.nilfn]):=by kernel_rfl
instance : TyT Try.prog 45 ⟨1,false,(some [.nilfn]),.fn,none⟩:=⟨ty45⟩
instance : ZoT Try.prog 45 (some [.nilfn]):=⟨zo45⟩
theorem ty46 : tinfo Try.prog 46 = some ⟨1,false,(some [.nilfn]),.fn,none⟩:=by kernel_rfl
theorem zo46 : zeroOf Try.prog 46 = (some [.nilfn]):=by kernel_rfl
instance : TyT Try.prog 46 ⟨1,false,(some [.nilfn]),.fn,none⟩:=⟨ty46⟩
instance : ZoT Try.prog 46 (some [.nilfn]):=⟨zo46⟩
theorem ty47 : tinfo Try.prog 47 = some ⟨1,false,(some [.nilfn]),.fn,none⟩:=by kernel_rfl
theorem zo47 : zeroOf Try.prog 47 = (some [.nilfn]):=by kernel_rfl
instance : TyT Try.prog 47 ⟨1,false,(some [.nilfn]),.fn,none⟩:=⟨ty47⟩
instance : ZoT Try.prog 47 (some [.nilfn]):=⟨zo47⟩
theorem ty48 : tinfo Try.prog 48 = some ⟨1,false,(some [.nilfn]),.fn,none⟩:=by kernel_rfl
theorem zo48 : zeroOf Try.prog 48 = (some [.nilfn]):=by kernel_rfl
instance : TyT Try.prog 48 ⟨1,false,(some [.nilfn]),.fn,none⟩:=⟨ty48⟩
instance : ZoT Try.prog 48 (some [.nilfn]):=⟨zo48⟩
theorem ty49 : tinfo Try.prog 49 = some ⟨1,false,(some [.nilfn]),.fn,none⟩:=by kernel_rfl
theorem zo49 : zeroOf Try.prog 49 = (some [.nilfn]):=by kernel_rfl
instance : TyT Try.prog 49 ⟨1,false,(some [.nilfn]),.fn,none⟩:=⟨ty49⟩
instance : ZoT Try.prog 49 (some [.nilfn]):=⟨zo49⟩
theorem ty50 : tinfo Try.prog 50 = some ⟨1,false,(some [.nilfn]),.fn,none⟩:=by kernel_rfl
theorem zo50 : zeroOf Try.prog 50 = (some [.nilfn]):=by kernel_rfl
instance : TyT Try.prog 50 ⟨1,false,(some [.nilfn]),.fn,none⟩:=⟨ty50⟩
instance : ZoT Try.prog 50 (some [.nilfn]):=⟨zo50⟩
theorem ty51 : tinfo Try.prog 51 = some ⟨3,true,(some [.str ⟨#[]⟩,.int .i64 0,.nilsl]),.struct [(0,9,1,false),(1,3,1,false),(2,31,1,false)],(some [(0,.string),(1,.int .i64),(2,.other)])⟩:=by kernel_rfl
theorem zo51 : zeroOf Try.prog 51 = (some [.str ⟨#[]⟩,.int .i64 0,.nilsl]):=by kernel_rfl
instance : TyT Try.prog 51 ⟨3,true,(some [.str ⟨#[]⟩,.int .i64 0,.nilsl]),.struct [(0,9,1,false),(1,3,1,false),(2,31,1,false)],(some [(0,.string),(1,.int .i64),(2,.other)])⟩:=⟨ty51⟩
instance : ZoT Try.prog 51 (some [.str ⟨#[]⟩,.int .i64 0,.nilsl]):=⟨zo51⟩
theorem ty52 : tinfo Try.prog 52 = some ⟨3,true,(some [.str ⟨#[]⟩,.int .i64 0,.nilsl]),.struct [(0,9,1,false),(1,3,1,false),(2,31,1,false)],(some [(0,.string),(1,.int .i64),(2,.other)])⟩:=by kernel_rfl
theorem zo52 : zeroOf Try.prog 52 = (some [.str ⟨#[]⟩,.int .i64 0,.nilsl]):=by kernel_rfl
instance : TyT Try.prog 52 ⟨3,true,(some [.str ⟨#[]⟩,.int .i64 0,.nilsl]),.struct [(0,9,1,false),(1,3,1,false),(2,31,1,false)],(some [(0,.string),(1,.int .i64),(2,.other)])⟩:=⟨ty52⟩
instance : ZoT Try.prog 52 (some [.str ⟨#[]⟩,.int .i64 0,.nilsl]):=⟨zo52⟩
theorem ty53 : tinfo Try.prog 53 = some ⟨1,false,(some [.nilsl]),.slice 4 1 1 false (some [.bool false]),none⟩:=by kernel_rfl
theorem zo53 : zeroOf Try.prog 53 = (some [.nilsl]):=by kernel_rfl
instance : TyT Try.prog 53 ⟨1,false,(some [.nilsl]),.slice 4 1 1 false (some [.bool false]),none⟩:=⟨ty53⟩
instance : ZoT Try.prog 53 (some [.nilsl]):=⟨zo53⟩
theorem ty54 : tinfo Try.prog 54 = some ⟨3,true,(some [.str ⟨#[]⟩,.int .i64 0,.nilsl]),.struct [(0,9,1,false),(1,3,1,false),(2,53,1,false)],(some [(0,.string),(1,.int .i64),(2,.other)])⟩:=by kernel_rfl
theorem zo54 : zeroOf Try.prog 54 = (some [.str ⟨#[]⟩,.int .i64 0,.nilsl]):=by kernel_rfl
instance : TyT Try.prog 54 ⟨3,true,(some [.str ⟨#[]⟩,.int .i64 0,.nilsl]),.struct [(0,9,1,false),(1,3,1,false),(2,53,1,false)],(some [(0,.string),(1,.int .i64),(2,.other)])⟩:=⟨ty54⟩
instance : ZoT Try.prog 54 (some [.str ⟨#[]⟩,.int .i64 0,.nilsl]):=⟨zo54⟩
theorem ty55 : tinfo Try.prog 55 = some ⟨3,true,(some [.str ⟨#[]⟩,.int .i64 0,.nilsl]),.struct [(0,9,1,false),(1,3,1,false),(2,53,1,false)],(some [(0,.string),(1,.int .i64),(2,.other)])⟩:=by kernel_rfl
theorem zo55 : zeroOf Try.prog 55 = (some [.str ⟨#[]⟩,.int .i64 0,.nilsl]):=by kernel_rfl
instance : TyT Try.prog 55 ⟨3,true,(some [.str ⟨#[]⟩,.int .i64 0,.nilsl]),.struct [(0,9,1,false),(1,3,1,false),(2,53,1,false)],(some [(0,.string),(1,.int .i64),(2,.other)])⟩:=⟨ty55⟩
instance : ZoT Try.prog 55 (some [.str ⟨#[]⟩,.int .i64 0,.nilsl]):=⟨zo55⟩
theorem ty57 : tinfo Try.prog 57 = some ⟨1,false,(some [.nilfn]),.fn,none⟩:=by kernel_rfl
theorem zo57 : zeroOf Try.prog 57 = (some [.nilfn]):=by kernel_rfl
instance : TyT Try.prog 57 ⟨1,false,(some [.nilfn]),.fn,none⟩:=⟨ty57⟩
instance : ZoT Try.prog 57 (some [.nilfn]):=⟨zo57⟩
theorem ty58 : tinfo Try.prog 58 = some ⟨1,false,(some [.nilfn]),.fn,none⟩:=by kernel_rfl
theorem zo58 : zeroOf Try.prog 58 = (some [.nilfn]):=by kernel_rfl
instance : TyT Try.prog 58 ⟨1,false,(some [.nilfn]),.fn,none⟩:=⟨ty58⟩
instance : ZoT Try.prog 58 (some [.nilfn]):=⟨zo58⟩
theorem ty59 : tinfo Try.prog 59 = some ⟨1,false,(some [.nilfn]),.fn,none⟩:=by kernel_rfl
theorem zo59 : zeroOf Try.prog 59 = (some [.nilfn]):=by kernel_rfl
instance : TyT Try.prog 59 ⟨1,false,(some [.nilfn]),.fn,none⟩:=⟨ty59⟩
instance : ZoT Try.prog 59 (some [.nilfn]):=⟨zo59⟩
theorem ty60 : tinfo Try.prog 60 = some ⟨1,false,(some [.nilfn]),.fn,none⟩:=by kernel_rfl
theorem zo60 : zeroOf Try.prog 60 = (some [.nilfn]):=by kernel_rfl
instance : TyT Try.prog 60 ⟨1,false,(some [.nilfn]),.fn,none⟩:=⟨ty60⟩
instance : ZoT Try.prog 60 (some [.nilfn]):=⟨zo60⟩
theorem ty61 : tinfo Try.prog 61 = some ⟨1,false,(some [.nilfn]),.fn,none⟩:=by kernel_rfl
theorem zo61 : zeroOf Try.prog 61 = (some [.nilfn]):=by kernel_rfl
instance : TyT Try.prog 61 ⟨1,false,(some [.nilfn]),.fn,none⟩:=⟨ty61⟩
instance : ZoT Try.prog 61 (some [.nilfn]):=⟨zo61⟩
theorem ty62 : tinfo Try.prog 62 = some ⟨1,false,(some [.nilfn]),.fn,none⟩:=by kernel_rfl
theorem zo62 : zeroOf Try.prog 62 = (some [.nilfn]):=by kernel_rfl
instance : TyT Try.prog 62 ⟨1,false,(some [.nilfn]),.fn,none⟩:=⟨ty62⟩
instance : ZoT Try.prog 62 (some [.nilfn]):=⟨zo62⟩
theorem ty63 : tinfo Try.prog 63 = some ⟨1,false,(some [.nilmap]),.map 9 3,none⟩:=by kernel_rfl
theorem zo63 : zeroOf Try.prog 63 = (some [.nilmap]):=by kernel_rfl
instance : TyT Try.prog 63 ⟨1,false,(some [.nilmap]),.map 9 3,none⟩:=⟨ty63⟩
instance : ZoT Try.prog 63 (some [.nilmap]):=⟨zo63⟩
theorem ty64 : tinfo Try.prog 64 = some ⟨1,false,(some [.nilptr]),.pointer,none⟩:=by kernel_rfl
theorem zo64 : zeroOf Try.prog 64 = (some [.nilptr]):=by kernel_rfl
instance : TyT Try.prog 64 ⟨1,false,(some [.nilptr]),.pointer,none⟩:=⟨ty64⟩
instance : ZoT Try.prog 64 (some [.nilptr]):=⟨zo64⟩
theorem ty65 : tinfo Try.prog 65 = some ⟨1,false,(some [.nilfn]),.fn,none⟩:=by kernel_rfl
theorem zo65 : zeroOf Try.prog 65 = (some [.nilfn]):=by kernel_rfl
instance : TyT Try.prog 65 ⟨1,false,(some [.nilfn]),.fn,none⟩:=⟨ty65⟩
instance : ZoT Try.prog 65 (some [.nilfn]):=⟨zo65⟩
theorem ty68 : tinfo Try.prog 68 = some ⟨2,true,(some [.str ⟨#[]⟩,.nilsl]),.struct [(0,9,1,false),(1,26,1,false)],(some [(0,.string),(1,.other)])⟩:=by kernel_rfl
theorem zo68 : zeroOf Try.prog 68 = (some [.str ⟨#[]⟩,.nilsl]):=by kernel_rfl
instance : TyT Try.prog 68 ⟨2,true,(some [.str ⟨#[]⟩,.nilsl]),.struct [(0,9,1,false),(1,26,1,false)],(some [(0,.string),(1,.other)])⟩:=⟨ty68⟩
instance : ZoT Try.prog 68 (some [.str ⟨#[]⟩,.nilsl]):=⟨zo68⟩
theorem ty72 : tinfo Try.prog 72 = some ⟨1,false,(some [.nilsl]),.slice 97 7 120 true (some [.int .i64 0,.str ⟨#[]⟩,.nilsl,.nilsl,.str ⟨#[]⟩,.nilsl,.bool false]),none⟩:=by kernel_rfl
theorem zo72 : zeroOf Try.prog 72 = (some [.nilsl]):=by kernel_rfl
instance : TyT Try.prog 72 ⟨1,false,(some [.nilsl]),.slice 97 7 120 true (some [.int .i64 0,.str ⟨#[]⟩,.nilsl,.nilsl,.str ⟨#[]⟩,.nilsl,.bool false]),none⟩:=⟨ty72⟩
instance : ZoT Try.prog 72 (some [.nilsl]):=⟨zo72⟩
theorem ty77 : tinfo Try.prog 77 = some ⟨1,false,(some [.nilptr]),.pointer,none⟩:=by kernel_rfl
theorem zo77 : zeroOf Try.prog 77 = (some [.nilptr]):=by kernel_rfl
instance : TyT Try.prog 77 ⟨1,false,(some [.nilptr]),.pointer,none⟩:=⟨ty77⟩
instance : ZoT Try.prog 77 (some [.nilptr]):=⟨zo77⟩
theorem ty78 : tinfo Try.prog 78 = some ⟨1,false,(some [.nilptr]),.pointer,none⟩:=by kernel_rfl
theorem zo78 : zeroOf Try.prog 78 = (some [.nilptr]):=by kernel_rfl
instance : TyT Try.prog 78 ⟨1,false,(some [.nilptr]),.pointer,none⟩:=⟨ty78⟩
instance : ZoT Try.prog 78 (some [.nilptr]):=⟨zo78⟩
theorem ty80 : tinfo Try.prog 80 = some ⟨2,true,(some [.int .i64 0,.nilmap]),.struct [(0,3,1,false),(1,63,1,false)],(some [(0,.int .i64),(1,.other)])⟩:=by kernel_rfl
theorem zo80 : zeroOf Try.prog 80 = (some [.int .i64 0,.nilmap]):=by kernel_rfl
instance : TyT Try.prog 80 ⟨2,true,(some [.int .i64 0,.nilmap]),.struct [(0,3,1,false),(1,63,1,false)],(some [(0,.int .i64),(1,.other)])⟩:=⟨ty80⟩
instance : ZoT Try.prog 80 (some [.int .i64 0,.nilmap]):=⟨zo80⟩
theorem ty82 : tinfo Try.prog 82 = some ⟨1,false,(some [.nilmap]),.map 9 52,none⟩:=by kernel_rfl
theorem zo82 : zeroOf Try.prog 82 = (some [.nilmap]):=by kernel_rfl
instance : TyT Try.prog 82 ⟨1,false,(some [.nilmap]),.map 9 52,none⟩:=⟨ty82⟩
instance : ZoT Try.prog 82 (some [.nilmap]):=⟨zo82⟩
theorem ty83 : tinfo Try.prog 83 = some ⟨1,false,(some [.nilmap]),.map 9 55,none⟩:=by kernel_rfl
theorem zo83 : zeroOf Try.prog 83 = (some [.nilmap]):=by kernel_rfl
instance : TyT Try.prog 83 ⟨1,false,(some [.nilmap]),.map 9 55,none⟩:=⟨ty83⟩
instance : ZoT Try.prog 83 (some [.nilmap]):=⟨zo83⟩
theorem ty85 : tinfo Try.prog 85 = some ⟨3,true,(some [.int .i64 0,.nilmap,.nilmap]),.struct [(0,3,1,false),(1,82,1,false),(2,83,1,false)],(some [(0,.int .i64),(1,.other),(2,.other)])⟩:=by kernel_rfl
theorem zo85 : zeroOf Try.prog 85 = (some [.int .i64 0,.nilmap,.nilmap]):=by kernel_rfl
instance : TyT Try.prog 85 ⟨3,true,(some [.int .i64 0,.nilmap,.nilmap]),.struct [(0,3,1,false),(1,82,1,false),(2,83,1,false)],(some [(0,.int .i64),(1,.other),(2,.other)])⟩:=⟨ty85⟩
instance : ZoT Try.prog 85 (some [.int .i64 0,.nilmap,.nilmap]):=⟨zo85⟩
theorem ty86 : tinfo Try.prog 86 = some ⟨1,false,(some [.nilfn]),.fn,none⟩:=by kernel_rfl
theorem zo86 : zeroOf Try.prog 86 = (some [.nilfn]):=by kernel_rfl
instance : TyT Try.prog 86 ⟨1,false,(some [.nilfn]),.fn,none⟩:=⟨ty86⟩
instance : ZoT Try.prog 86 (some [.nilfn]):=⟨zo86⟩
theorem ty90 : tinfo Try.prog 90 = some ⟨1,false,(some [.nilfn]),.fn,none⟩:=by kernel_rfl
theorem zo90 : zeroOf Try.prog 90 = (some [.nilfn]):=by kernel_rfl
instance : TyT Try.prog 90 ⟨1,false,(some [.nilfn]),.fn,none⟩:=⟨ty90⟩
instance : ZoT Try.prog 90 (some [.nilfn]):=⟨zo90⟩
theorem ty97 : tinfo Try.prog 97 = some ⟨7,true,(some [.int .i64 0,.str ⟨#[]⟩,.nilsl,.nilsl,.str ⟨#[]⟩,.nilsl,.bool false]),.struct [(0,29,4,true),(4,68,2,true),(6,4,1,false)],(some [(0,.other),(4,.other),(6,.bool)])⟩:=by kernel_rfl
theorem zo97 : zeroOf Try.prog 97 = (some [.int .i64 0,.str ⟨#[]⟩,.nilsl,.nilsl,.str ⟨#[]⟩,.nilsl,.bool false]):=by kernel_rfl
instance : TyT Try.prog 97 ⟨7,true,(some [.int .i64 0,.str ⟨#[]⟩,.nilsl,.nilsl,.str ⟨#[]⟩,.nilsl,.bool false]),.struct [(0,29,4,true),(4,68,2,true),(6,4,1,false)],(some [(0,.other),(4,.other),(6,.bool)])⟩:=⟨ty97⟩
instance : ZoT Try.prog 97 (some [.int .i64 0,.str ⟨#[]⟩,.nilsl,.nilsl,.str ⟨#[]⟩,.nilsl,.bool false]):=⟨zo97⟩
theorem ty100 : tinfo Try.prog 100 = some ⟨2,true,(some [.int .i64 0,.int .i64 0]),.struct [(0,36,2,true)],(some [(0,.other)])⟩:=by kernel_rfl
theorem zo100 : zeroOf Try.prog 100 = (some [.int .i64 0,.int .i64 0]):=by kernel_rfl
instance : TyT Try.prog 100 ⟨2,true,(some [.int .i64 0,.int .i64 0]),.struct [(0,36,2,true)],(some [(0,.other)])⟩:=⟨ty100⟩
instance : ZoT Try.prog 100 (some [.int .i64 0,.int .i64 0]):=⟨zo100⟩
theorem zv3 : zvOf Try.prog 3 = some (.int .i64 0):=by kernel_rfl
instance : ZvT Try.prog 3 (.int .i64 0):=⟨zv3⟩
theorem zv52 : zvOf Try.prog 52 = some (.agg [.str ⟨#[]⟩,.int .i64 0,.nilsl]):=by kernel_rfl
instance : ZvT Try.prog 52 (.agg [.str ⟨#[]⟩,.int .i64 0,.nilsl]):=⟨zv52⟩
theorem zv55 : zvOf Try.prog 55 = some (.agg [.str ⟨#[]⟩,.int .i64 0,.nilsl]):=by kernel_rfl
instance : ZvT Try.prog 55 (.agg [.str ⟨#[]⟩,.int .i64 0,.nilsl]):=⟨zv55⟩
theorem mixed : Try.prog.follows .mixedOrders = true:=by kernel_rfl
instance : MixT Try.prog:=⟨mixed⟩
theorem en3 : Enters Try.prog 3:=Try.call3
instance : EnT Try.prog 3:=⟨en3⟩
theorem en4 : Enters Try.prog 4:=Try.call4
instance : EnT Try.prog 4:=⟨en4⟩
theorem en5 : Enters Try.prog 5:=Try.call5
instance : EnT Try.prog 5:=⟨en5⟩
theorem en6 : Enters Try.prog 6:=Try.call6
instance : EnT Try.prog 6:=⟨en6⟩
theorem en7 : Enters Try.prog 7:=Try.call7
instance : EnT Try.prog 7:=⟨en7⟩
theorem en9 : Enters Try.prog 9:=Try.call9
instance : EnT Try.prog 9:=⟨en9⟩
theorem en10 : Enters Try.prog 10:=Try.call10
instance : EnT Try.prog 10:=⟨en10⟩
theorem en13 : Enters Try.prog 13:=Try.call13
instance : EnT Try.prog 13:=⟨en13⟩
theorem en19 : Enters Try.prog 19:=Try.call19
instance : EnT Try.prog 19:=⟨en19⟩
theorem en20 : Enters Try.prog 20:=Try.call20
instance : EnT Try.prog 20:=⟨en20⟩
theorem en21 : Enters Try.prog 21:=Try.call21
instance : EnT Try.prog 21:=⟨en21⟩
theorem en22 : Enters Try.prog 22:=Try.call22
instance : EnT Try.prog 22:=⟨en22⟩
theorem en23 : Enters Try.prog 23:=Try.call23
instance : EnT Try.prog 23:=⟨en23⟩
theorem en24 : Enters Try.prog 24:=Try.call24
instance : EnT Try.prog 24:=⟨en24⟩
theorem en25 : Enters Try.prog 25:=Try.call25
instance : EnT Try.prog 25:=⟨en25⟩
theorem en26 : Enters Try.prog 26:=Try.call26
instance : EnT Try.prog 26:=⟨en26⟩
theorem en27 : Enters Try.prog 27:=Try.call27
instance : EnT Try.prog 27:=⟨en27⟩
theorem en28 : Enters Try.prog 28:=Try.call28
instance : EnT Try.prog 28:=⟨en28⟩
theorem en29 : Enters Try.prog 29:=Try.call29
instance : EnT Try.prog 29:=⟨en29⟩
theorem en30 : Enters Try.prog 30:=Try.call30
instance : EnT Try.prog 30:=⟨en30⟩
theorem en31 : Enters Try.prog 31:=Try.call31
instance : EnT Try.prog 31:=⟨en31⟩
theorem en32 : Enters Try.prog 32:=Try.call32
instance : EnT Try.prog 32:=⟨en32⟩
theorem en33 : Enters Try.prog 33:=Try.call33
instance : EnT Try.prog 33:=⟨en33⟩
theorem en34 : Enters Try.prog 34:=Try.call34
instance : EnT Try.prog 34:=⟨en34⟩
theorem en37 : Enters Try.prog 37:=Try.call37
instance : EnT Try.prog 37:=⟨en37⟩
theorem en40 : Enters Try.prog 40:=Try.call40
instance : EnT Try.prog 40:=⟨en40⟩
theorem en41 : Enters Try.prog 41:=Try.call41
instance : EnT Try.prog 41:=⟨en41⟩
theorem en44 : Enters Try.prog 44:=Try.call44
instance : EnT Try.prog 44:=⟨en44⟩
theorem en45 : Enters Try.prog 45:=Try.call45
instance : EnT Try.prog 45:=⟨en45⟩
theorem en46 : Enters Try.prog 46:=Try.call46
instance : EnT Try.prog 46:=⟨en46⟩
theorem en47 : Enters Try.prog 47:=Try.call47
instance : EnT Try.prog 47:=⟨en47⟩
theorem en48 : Enters Try.prog 48:=Try.call48
instance : EnT Try.prog 48:=⟨en48⟩
theorem en49 : Enters Try.prog 49:=Try.call49
instance : EnT Try.prog 49:=⟨en49⟩
theorem en50 : Enters Try.prog 50:=Try.call50
instance : EnT Try.prog 50:=⟨en50⟩
theorem en51 : Enters Try.prog 51:=Try.call51
instance : EnT Try.prog 51:=⟨en51⟩
theorem en52 : Enters Try.prog 52:=Try.call52
instance : EnT Try.prog 52:=⟨en52⟩
theorem en53 : Enters Try.prog 53:=Try.call53
instance : EnT Try.prog 53:=⟨en53⟩
theorem en54 : Enters Try.prog 54:=Try.call54
instance : EnT Try.prog 54:=⟨en54⟩
theorem en55 : Enters Try.prog 55:=Try.call55
instance : EnT Try.prog 55:=⟨en55⟩
theorem en57 : Enters Try.prog 57:=Try.call57
instance : EnT Try.prog 57:=⟨en57⟩
theorem en58 : Enters Try.prog 58:=Try.call58
instance : EnT Try.prog 58:=⟨en58⟩
theorem en59 : Enters Try.prog 59:=Try.call59
instance : EnT Try.prog 59:=⟨en59⟩
theorem en60 : Enters Try.prog 60:=Try.call60
instance : EnT Try.prog 60:=⟨en60⟩
theorem en61 : Enters Try.prog 61:=Try.call61
instance : EnT Try.prog 61:=⟨en61⟩
theorem en62 : Enters Try.prog 62:=Try.call62
instance : EnT Try.prog 62:=⟨en62⟩
end Go.Proofs.Ytlcplnafkeklaaa
namespace Go.Proofs.Ytlcplnafkeklaaa
open Go Go.Pv
def kidsN (n : Int) : Int:=if n = 1 ∨ n = 2 ∨ n = 3 then 0 else if n = 4 ∨ n = 8 ∨ n = 9 then 1 else if n = 5 ∨ n = 6 ∨ n = 7 then 2 else -1
def letterB (b : UInt8) : Bool:=decide (97 ≤ b.toNat ∧ b.toNat ≤ 122)
def isNameB (s : ByteArray) : Bool:=decide (1 ≤ s.size ∧ s.size ≤ 8) && s.data.toList.all letterB
theorem decode_high (s : ByteArray) (i : Nat) (h : i < s.size) (hb : 128 ≤ s[i].toNat) : 128 ≤ (Utf8.decode s i).1:=by
 have hg : (s.get! (i + 0)).toNat = s[i].toNat:=by
  rw [Nat.add_zero]
  show (s.data[i]!).toNat = _
  rw [getElem!_pos s.data i h];rfl
 unfold Utf8.decode
 simp only [hg,Utf8.runeError]
 rw [if_neg (by omega)]
 split
 ·split
  ·assumption
  ·decide
 ·split
  ·split
   ·rename_i h1;simp only [Bool.and_eq_true,decide_eq_true_eq] at h1;omega
   ·decide
  ·split
   ·split
    ·rename_i h1;simp only [Bool.and_eq_true,decide_eq_true_eq] at h1;omega
    ·decide
   ·decide
theorem decode_letter (s : ByteArray) (i : Nat) (h : i < s.size) : (letterB s[i] = true → Utf8.decode s i = (s[i].toNat,1)) ∧ (letterB s[i] = false → (Utf8.decode s i).1 < 97 ∨ 122 < (Utf8.decode s i).1):=by
 refine ⟨fun hl=>?_,fun hl=>?_⟩
 ·simp only [letterB,decide_eq_true_eq] at hl
  exact decode_ascii s i h (by omega)
 ·simp only [letterB,decide_eq_false_iff_not] at hl
  by_cases hb : s[i].toNat < 128
  ·rw [decode_ascii s i h hb];simp only;omega
  ·have:=decode_high s i h (by omega);omega
theorem all_letter (s : ByteArray) : s.data.toList.all letterB = true ↔ ∀ i (h : i < s.size),letterB s[i] = true:=by
 rw [List.all_eq_true]
 constructor
 ·intro h i hi;exact h _ (by simp [ByteArray.getElem_eq_getElem_data])
 ·intro h b hb
  obtain ⟨i,hi,rfl⟩:=List.mem_iff_getElem.1 hb
  exact h i (by simpa using hi)
theorem letter_of_decode (t : ByteArray) (i : Nat) (hi : i < t.size) (h1 : 97 ≤ ((Utf8.decode t i).1 : Int)) (h2 : ((Utf8.decode t i).1 : Int) ≤ 122) : letterB t[i] = true:=by
 cases hb : letterB t[i] with
 | true=>rfl
 | false=>have:=(decode_letter t i hi).2 hb;omega
theorem no_name (t : ByteArray) (i : Nat) (hi : i < t.size) (h : ((Utf8.decode t i).1 : Int) < 97 ∨ 122 < ((Utf8.decode t i).1 : Int)) : isNameB t = false:=by
 have h1 : letterB t[i] = false:=by
  cases hb : letterB t[i] with
  | false=>rfl
  | true=>
   have:=(decode_letter t i hi).1 hb
   simp only [letterB,decide_eq_true_eq] at hb
   rw [this] at h;simp only at h;omega
 have h2 : ¬ t.data.toList.all letterB = true:=by
  rw [all_letter];intro h3;rw [h3 i hi] at h1;cases h1
 simp [isNameB,h2]
theorem isName_formula (t : ByteArray) (s : Store) : CallOK Try.prog 30 [.str t] s (.bool (isNameB t)) s:=by
 have _hty:=ty21
 refine CallOK.frame ?_ ?_
 ·refine callOK_of Try.func30 rfl rfl Try.ntmps30 (by simp) ?_
  rw [Try.results30]
  dsimp only [light,regL,dsts,lopsL,lop,nth]
  (have F_:=True.intro);repeat' (first | (with_reducible refine stp ?_) | (with_reducible refine hq _ _ ?_;clear hq q) | (with_reducible refine hk _ _ ?_;clear hk k) | (with_reducible refine EvL.regA (fun k hk=>?_)) | ((with_reducible apply WOps.call);(· fail)) | (with_reducible refine WOps.auto F_ (fun q hq=>?_)) | ((with_reducible refine EvL.condA ?_ ?_);all_goals (intro h <;> (try simp only [hna,hnb,hnc,ne_eq,reduceCtorEq,Int.reduceEq,gt_iff_lt,ge_iff_le] at h) <;> (try (exfalso;omega;done)))) | (with_reducible refine EvL.drawnA (fun k hk=>?_)) | (with_reducible refine EvL.mixA (fun k hk=>?_)) | (with_reducible refine EvL.mix2A (fun k hk=>?_)) | (with_reducible refine WMix.bothA F_ ?_ ?_) | (with_reducible refine WOps.takeA ?_) | (with_reducible refine WOps.passA ?_) | ((with_reducible refine WOps.splitA ?_ ?_);all_goals (intro h <;> simp only [h] <;> (try simp only [hna,hnb,hnc,ne_eq,reduceCtorEq,Int.reduceEq,gt_iff_lt,ge_iff_le] at h) <;> (try (exfalso;omega;done)))) | (with_reducible refine WMix.takeA ?_) | (with_reducible refine WMix.passA ?_) | (with_reducible refine WMix.consA F_ ?_) | (with_reducible refine WMix.makeA F_ ?_) | ((with_reducible refine And.intro ?_ ?_);(· omega)) | ((with_reducible refine And.intro (fun h=>?_) (fun h=>?_)) <;> (try simp only [Decidable.not_not] at h) <;> (try simp only [h])) | (with_reducible intro hl))
  all_goals first | ((refine finA ?_;try exact trivial);simp [isNameB];omega;done) | skip
  ·refine EvL.loop (X := Nat) (fun i => [(0,.str t),(14,.ptr 0 0 0)]) (fun i => [.iter t i]) (fun i => i ≤ t.size ∧ ∀ j (h : j < t.size),j < i → letterB t[j] = true) (fun i => t.size - i) 0 ⟨by omega,fun j _ h => by omega⟩
    (View.of [0] _ (by simp) (by decide) (by (refine vw ?_;try exact trivial)) (by (refine vw ?_;try exact trivial))) (fun i hi=>?_)
   (have F_:=True.intro);repeat' (first | (with_reducible refine stp ?_) | (with_reducible refine hq _ _ ?_;clear hq q) | (with_reducible refine hk _ _ ?_;clear hk k) | (with_reducible refine EvL.regA (fun k hk=>?_)) | ((with_reducible apply WOps.call);(· fail)) | (with_reducible refine WOps.auto F_ (fun q hq=>?_)) | ((with_reducible refine EvL.condA ?_ ?_);all_goals (intro h <;> (try simp only [hna,hnb,hnc,ne_eq,reduceCtorEq,Int.reduceEq,gt_iff_lt,ge_iff_le] at h) <;> (try (exfalso;omega;done)))) | (with_reducible refine EvL.drawnA (fun k hk=>?_)) | (with_reducible refine EvL.mixA (fun k hk=>?_)) | (with_reducible refine EvL.mix2A (fun k hk=>?_)) | (with_reducible refine WMix.bothA F_ ?_ ?_) | (with_reducible refine WOps.takeA ?_) | (with_reducible refine WOps.passA ?_) | ((with_reducible refine WOps.splitA ?_ ?_);all_goals (intro h <;> simp only [h] <;> (try simp only [hna,hnb,hnc,ne_eq,reduceCtorEq,Int.reduceEq,gt_iff_lt,ge_iff_le] at h) <;> (try (exfalso;omega;done)))) | (with_reducible refine WMix.takeA ?_) | (with_reducible refine WMix.passA ?_) | (with_reducible refine WMix.consA F_ ?_) | (with_reducible refine WMix.makeA F_ ?_) | ((with_reducible refine And.intro ?_ ?_);(· omega)) | ((with_reducible refine And.intro (fun h=>?_) (fun h=>?_)) <;> (try simp only [Decidable.not_not] at h) <;> (try simp only [h])) | (with_reducible intro hl))
   all_goals first | ((refine finA ?_;try exact trivial);rw [no_name t i ‹_› (by omega)];done) | skip
   ·have h1 : letterB t[i] = true := letter_of_decode t i ‹_› (by omega) (by omega)
    have h2:=(decode_letter t i ‹_›).1 h1
    rw [h2]
    refine ⟨i + 1,⟨by omega,fun j hj hji=>?_⟩,by omega,View.of [0] _ (by simp) (by decide) (by (refine vw ?_;try exact trivial)) (by (refine vw ?_;try exact trivial))⟩
    by_cases e : j = i
    ·subst e;exact h1
    ·exact hi.2 j hj (by omega)
   ·(refine finA ?_; try exact trivial)
    have h2 : t.data.toList.all letterB = true:=by
     rw [all_letter];intro j hj;exact hi.2 j hj (by omega)
    simp [isNameB,h2];omega
 ·simp [flat_str,Flat.closed]
end Go.Proofs.Ytlcplnafkeklaaa
namespace Go.Proofs.Ytlcplnafkeklaaa
open Go Go.Pv
def rd (t : ByteArray) (i : Nat) : PObj:=.rows 2 [[.str t,.int .i64 (i : Int)]]
attribute [simp] rd
def isBl (c : UInt8) : Bool:=c.toNat == 32 || c.toNat == 10
def blk (t : ByteArray) : Nat → Nat → Nat
 | 0,i=>i
 | n + 1,i=>if h : i < t.size then (if isBl t[i] = true then blk t n (i + 1) else i) else i
def hp (t : ByteArray) (i : Nat) (w : ByteArray) : Bool:=decide (i + w.size ≤ t.size ∧ t.extract i (i + w.size) = w)
end Go.Proofs.Ytlcplnafkeklaaa
