import Derived.Test.YtfhakdonenhnbaaCPvGive
import Derived.Test.YtfhakdonenhnbaaChecked
import Derived.Laws.RangeString
import Derived.Test.YtfhakdonenhnbaaCPvRec
set_option linter.unusedVariables false
set_option linter.unusedSimpArgs false
set_option maxRecDepth 100000
set_option maxHeartbeats 4000000
namespace Go.Proofs.Ytfhakdonenhnbaa
open Go Go.Pv
theorem ty1 : tinfo Try.prog 1 = some ⟨1,false,(some [.nilfn]),.fn,none⟩:=by kernel_rfl
theorem zo1 : zeroOf Try.prog 1 = (some [.nilfn]):=by kernel_rfl
instance : TyT Try.prog 1 ⟨1,false,(some [.nilfn]),.fn,none⟩:=⟨ty1⟩
instance : ZoT Try.prog 1 (some [.nilfn]):=⟨zo1⟩
theorem ty2 : tinfo Try.prog 2 = some ⟨1,false,(some [.int .i64 0]),.int .i64,none⟩:=by kernel_rfl
theorem zo2 : zeroOf Try.prog 2 = (some [.int .i64 0]):=by kernel_rfl
instance : TyT Try.prog 2 ⟨1,false,(some [.int .i64 0]),.int .i64,none⟩:=⟨ty2⟩
instance : ZoT Try.prog 2 (some [.int .i64 0]):=⟨zo2⟩
theorem ty3 : tinfo Try.prog 3 = some ⟨1,false,(some [.int .i64 0]),.int .i64,none⟩:=by kernel_rfl
theorem zo3 : zeroOf Try.prog 3 = (some [.int .i64 0]):=by kernel_rfl
instance : TyT Try.prog 3 ⟨1,false,(some [.int .i64 0]),.int .i64,none⟩:=⟨ty3⟩
instance : ZoT Try.prog 3 (some [.int .i64 0]):=⟨zo3⟩
theorem ty4 : tinfo Try.prog 4 = some ⟨1,false,(some [.bool false]),.bool,none⟩:=by kernel_rfl
theorem zo4 : zeroOf Try.prog 4 = (some [.bool false]):=by kernel_rfl
instance : TyT Try.prog 4 ⟨1,false,(some [.bool false]),.bool,none⟩:=⟨ty4⟩
instance : ZoT Try.prog 4 (some [.bool false]):=⟨zo4⟩
theorem ty5 : tinfo Try.prog 5 = some ⟨1,false,(some [.int .u8 0]),.int .u8,none⟩:=by kernel_rfl
theorem zo5 : zeroOf Try.prog 5 = (some [.int .u8 0]):=by kernel_rfl
instance : TyT Try.prog 5 ⟨1,false,(some [.int .u8 0]),.int .u8,none⟩:=⟨ty5⟩
instance : ZoT Try.prog 5 (some [.int .u8 0]):=⟨zo5⟩
theorem ty9 : tinfo Try.prog 9 = some ⟨1,false,(some [.str ⟨#[]⟩]),.string,none⟩:=by kernel_rfl
theorem zo9 : zeroOf Try.prog 9 = (some [.str ⟨#[]⟩]):=by kernel_rfl
instance : TyT Try.prog 9 ⟨1,false,(some [.str ⟨#[]⟩]),.string,none⟩:=⟨ty9⟩
instance : ZoT Try.prog 9 (some [.str ⟨#[]⟩]):=⟨zo9⟩
theorem ty12 : tinfo Try.prog 12 = some ⟨1,false,(some [.int .u64 0]),.int .u64,none⟩:=by kernel_rfl
theorem zo12 : zeroOf Try.prog 12 = (some [.int .u64 0]):=by kernel_rfl
instance : TyT Try.prog 12 ⟨1,false,(some [.int .u64 0]),.int .u64,none⟩:=⟨ty12⟩
instance : ZoT Try.prog 12 (some [.int .u64 0]):=⟨zo12⟩
theorem ty21 : tinfo Try.prog 21 = some ⟨1,false,(some [.int .i32 0]),.int .i32,none⟩:=by kernel_rfl
theorem zo21 : zeroOf Try.prog 21 = (some [.int .i32 0]):=by kernel_rfl
instance : TyT Try.prog 21 ⟨1,false,(some [.int .i32 0]),.int .i32,none⟩:=⟨ty21⟩
instance : ZoT Try.prog 21 (some [.int .i32 0]):=⟨zo21⟩
theorem ty22 : tinfo Try.prog 22 = some ⟨1,false,(some [.nilsl]),.slice 80 3 48 true (some [.str ⟨#[]⟩,.int .i64 0,.nilsl]),none⟩:=by kernel_rfl
theorem zo22 : zeroOf Try.prog 22 = (some [.nilsl]):=by kernel_rfl
instance : TyT Try.prog 22 ⟨1,false,(some [.nilsl]),.slice 80 3 48 true (some [.str ⟨#[]⟩,.int .i64 0,.nilsl]),none⟩:=⟨ty22⟩
instance : ZoT Try.prog 22 (some [.nilsl]):=⟨zo22⟩
theorem ty23 : tinfo Try.prog 23 = some ⟨1,false,(some [.nilsl]),.slice 64 3 48 true (some [.str ⟨#[]⟩,.int .i64 0,.nilsl]),none⟩:=by kernel_rfl
theorem zo23 : zeroOf Try.prog 23 = (some [.nilsl]):=by kernel_rfl
instance : TyT Try.prog 23 ⟨1,false,(some [.nilsl]),.slice 64 3 48 true (some [.str ⟨#[]⟩,.int .i64 0,.nilsl]),none⟩:=⟨ty23⟩
instance : ZoT Try.prog 23 (some [.nilsl]):=⟨zo23⟩
theorem ty24 : tinfo Try.prog 24 = some ⟨3,true,(some [.int .i64 0,.nilsl,.nilsl]),.struct [(0,3,1,false),(1,22,1,false),(2,23,1,false)],(some [(0,.int .i64),(1,.other),(2,.other)])⟩:=by kernel_rfl
theorem zo24 : zeroOf Try.prog 24 = (some [.int .i64 0,.nilsl,.nilsl]):=by kernel_rfl
instance : TyT Try.prog 24 ⟨3,true,(some [.int .i64 0,.nilsl,.nilsl]),.struct [(0,3,1,false),(1,22,1,false),(2,23,1,false)],(some [(0,.int .i64),(1,.other),(2,.other)])⟩:=⟨ty24⟩
instance : ZoT Try.prog 24 (some [.int .i64 0,.nilsl,.nilsl]):=⟨zo24⟩
theorem ty25 : tinfo Try.prog 25 = some ⟨3,true,(some [.int .i64 0,.nilsl,.nilsl]),.struct [(0,3,1,false),(1,22,1,false),(2,23,1,false)],(some [(0,.int .i64),(1,.other),(2,.other)])⟩:=by kernel_rfl
theorem zo25 : zeroOf Try.prog 25 = (some [.int .i64 0,.nilsl,.nilsl]):=by kernel_rfl
instance : TyT Try.prog 25 ⟨3,true,(some [.int .i64 0,.nilsl,.nilsl]),.struct [(0,3,1,false),(1,22,1,false),(2,23,1,false)],(some [(0,.int .i64),(1,.other),(2,.other)])⟩:=⟨ty25⟩
instance : ZoT Try.prog 25 (some [.int .i64 0,.nilsl,.nilsl]):=⟨zo25⟩
theorem ty26 : tinfo Try.prog 26 = some ⟨1,false,(some [.nilsl]),.slice 61 2 40 true (some [.str ⟨#[]⟩,.nilsl]),none⟩:=by kernel_rfl
theorem zo26 : zeroOf Try.prog 26 = (some [.nilsl]):=by kernel_rfl
instance : TyT Try.prog 26 ⟨1,false,(some [.nilsl]),.slice 61 2 40 true (some [.str ⟨#[]⟩,.nilsl]),none⟩:=⟨ty26⟩
instance : ZoT Try.prog 26 (some [.nilsl]):=⟨zo26⟩
theorem ty27 : tinfo Try.prog 27 = some ⟨1,false,(some [.nilsl]),.slice 29 4 72 true (some [.int .i64 0,.str ⟨#[]⟩,.nilsl,.nilsl]),none⟩:=by kernel_rfl
theorem zo27 : zeroOf Try.prog 27 = (some [.nilsl]):=by kernel_rfl
instance : TyT Try.prog 27 ⟨1,false,(some [.nilsl]),.slice 29 4 72 true (some [.int .i64 0,.str ⟨#[]⟩,.nilsl,.nilsl]),none⟩:=⟨ty27⟩
instance : ZoT Try.prog 27 (some [.nilsl]):=⟨zo27⟩
theorem ty28 : tinfo Try.prog 28 = some ⟨4,true,(some [.int .i64 0,.str ⟨#[]⟩,.nilsl,.nilsl]),.struct [(0,3,1,false),(1,9,1,false),(2,26,1,false),(3,27,1,false)],(some [(0,.int .i64),(1,.string),(2,.other),(3,.other)])⟩:=by kernel_rfl
theorem zo28 : zeroOf Try.prog 28 = (some [.int .i64 0,.str ⟨#[]⟩,.nilsl,.nilsl]):=by kernel_rfl
instance : TyT Try.prog 28 ⟨4,true,(some [.int .i64 0,.str ⟨#[]⟩,.nilsl,.nilsl]),.struct [(0,3,1,false),(1,9,1,false),(2,26,1,false),(3,27,1,false)],(some [(0,.int .i64),(1,.string),(2,.other),(3,.other)])⟩:=⟨ty28⟩
instance : ZoT Try.prog 28 (some [.int .i64 0,.str ⟨#[]⟩,.nilsl,.nilsl]):=⟨zo28⟩
theorem ty29 : tinfo Try.prog 29 = some ⟨4,true,(some [.int .i64 0,.str ⟨#[]⟩,.nilsl,.nilsl]),.struct [(0,3,1,false),(1,9,1,false),(2,26,1,false),(3,27,1,false)],(some [(0,.int .i64),(1,.string),(2,.other),(3,.other)])⟩:=by kernel_rfl
theorem zo29 : zeroOf Try.prog 29 = (some [.int .i64 0,.str ⟨#[]⟩,.nilsl,.nilsl]):=by kernel_rfl
instance : TyT Try.prog 29 ⟨4,true,(some [.int .i64 0,.str ⟨#[]⟩,.nilsl,.nilsl]),.struct [(0,3,1,false),(1,9,1,false),(2,26,1,false),(3,27,1,false)],(some [(0,.int .i64),(1,.string),(2,.other),(3,.other)])⟩:=⟨ty29⟩
instance : ZoT Try.prog 29 (some [.int .i64 0,.str ⟨#[]⟩,.nilsl,.nilsl]):=⟨zo29⟩
theorem ty30 : tinfo Try.prog 30 = some ⟨1,false,(some [.nilfn]),.fn,none⟩:=by kernel_rfl
theorem zo30 : zeroOf Try.prog 30 = (some [.nilfn]):=by kernel_rfl
instance : TyT Try.prog 30 ⟨1,false,(some [.nilfn]),.fn,none⟩:=⟨ty30⟩
instance : ZoT Try.prog 30 (some [.nilfn]):=⟨zo30⟩
theorem ty31 : tinfo Try.prog 31 = some ⟨1,false,(some [.nilfn]),.fn,none⟩:=by kernel_rfl
theorem zo31 : zeroOf Try.prog 31 = (some [.nilfn]):=by kernel_rfl
instance : TyT Try.prog 31 ⟨1,false,(some [.nilfn]),.fn,none⟩:=⟨ty31⟩
instance : ZoT Try.prog 31 (some [.nilfn]):=⟨zo31⟩
theorem ty32 : tinfo Try.prog 32 = some ⟨2,true,(some [.int .i64 0,.int .i64 0]),.struct [(0,3,1,false),(1,3,1,false)],(some [(0,.int .i64),(1,.int .i64)])⟩:=by kernel_rfl
theorem zo32 : zeroOf Try.prog 32 = (some [.int .i64 0,.int .i64 0]):=by kernel_rfl
instance : TyT Try.prog 32 ⟨2,true,(some [.int .i64 0,.int .i64 0]),.struct [(0,3,1,false),(1,3,1,false)],(some [(0,.int .i64),(1,.int .i64)])⟩:=⟨ty32⟩
instance : ZoT Try.prog 32 (some [.int .i64 0,.int .i64 0]):=⟨zo32⟩
theorem ty33 : tinfo Try.prog 33 = some ⟨2,true,(some [.int .i64 0,.int .i64 0]),.struct [(0,3,1,false),(1,3,1,false)],(some [(0,.int .i64),(1,.int .i64)])⟩:=by kernel_rfl
theorem zo33 : zeroOf Try.prog 33 = (some [.int .i64 0,.int .i64 0]):=by kernel_rfl
instance : TyT Try.prog 33 ⟨2,true,(some [.int .i64 0,.int .i64 0]),.struct [(0,3,1,false),(1,3,1,false)],(some [(0,.int .i64),(1,.int .i64)])⟩:=⟨ty33⟩
instance : ZoT Try.prog 33 (some [.int .i64 0,.int .i64 0]):=⟨zo33⟩
theorem ty35 : tinfo Try.prog 35 = some ⟨1,false,(some [.nilfn]),.fn,none⟩:=by kernel_rfl
theorem zo35 : zeroOf Try.prog 35 = (some [.nilfn]):=by kernel_rfl
instance : TyT Try.prog 35 ⟨1,false,(some [.nilfn]),.fn,none⟩:=⟨ty35⟩
instance : ZoT Try.prog 35 (some [.nilfn]):=⟨zo35⟩
theorem ty36 : tinfo Try.prog 36 = some ⟨1,false,(some [.nilfn]),.fn,none⟩:=by kernel_rfl
theorem zo36 : zeroOf Try.prog 36 = (some [.nilfn]):=by kernel_rfl
instance : TyT Try.prog 36 ⟨1,false,(some [.nilfn]),.fn,none⟩:=⟨ty36⟩
instance : ZoT Try.prog 36 (some [.nilfn]):=⟨zo36⟩
theorem ty37 : tinfo Try.prog 37 = some ⟨1,false,(some [.nilfn]),.fn,none⟩:=by kernel_rfl
theorem zo37 : zeroOf Try.prog 37 = (some [.nilfn]):=by kernel_rfl
instance : TyT Try.prog 37 ⟨1,false,(some [.nilfn]),.fn,none⟩:=⟨ty37⟩
instance : ZoT Try.prog 37 (some [.nilfn]):=⟨zo37⟩
theorem ty38 : tinfo Try.prog 38 = some ⟨1,false,(some [.nilfn]),.fn,none⟩:=by kernel_rfl
theorem zo38 : zeroOf Try.prog 38 = (some [.nilfn]):=by kernel_rfl
instance : TyT Try.prog 38 ⟨1,false,(some [.nilfn]),.fn,none⟩:=⟨ty38⟩
instance : ZoT Try.prog 38 (some [.nilfn]):=⟨zo38⟩
theorem ty39 : tinfo Try.prog 39 = some ⟨1,false,(some [.nilfn]),.fn,none⟩:=by kernel_rfl
theorem zo39 : zeroOf Try.prog 39 = (some [.nilfn]):=by kernel_rfl
instance : TyT Try.prog 39 ⟨1,false,(some [.nilfn]),.fn,none⟩:=⟨ty39⟩
instance : ZoT Try.prog 39 (some [.nilfn]):=⟨zo39⟩
theorem ty40 : tinfo Try.prog 40 = some ⟨1,false,(some [.nilfn]),.fn,none⟩:=by kernel_rfl
theorem zo40 : zeroOf Try.prog 40 = (some [.nilfn]):=by kernel_rfl
instance : TyT Try.prog 40 ⟨1,false,(some [.nilfn]),.fn,none⟩:=⟨ty40⟩
instance : ZoT Try.prog 40 (some [.nilfn]):=⟨zo40⟩
theorem ty41 : tinfo Try.prog 41 = some ⟨1,false,(some [.nilfn]),.fn,none⟩:=by kernel_rfl
theorem zo41 : zeroOf Try.prog 41 = (some [.nilfn]):=by kernel_rfl
instance : TyT Try.prog 41 ⟨1,false,(some [.nilfn]),.fn,none⟩:=⟨ty41⟩
instance : ZoT Try.prog 41 (some [.nilfn]):=⟨zo41⟩
theorem ty42 : tinfo Try.prog 42 = some ⟨1,false,(some [.nilfn]),.fn,none⟩:=by kernel_rfl
theorem zo42 : zeroOf Try.prog 42 = (some [.nilfn]):=by kernel_rfl
instance : TyT Try.prog 42 ⟨1,false,(some [.nilfn]),.fn,none⟩:=⟨ty42⟩
instance : ZoT Try.prog 42 (some [.nilfn]):=⟨zo42⟩
theorem ty43 : tinfo Try.prog 43 = some ⟨1,false,(some [.nilfn]),.fn,none⟩:=by kernel_rfl
theorem zo43 : zeroOf Try.prog 43 = (some [.nilfn]):=by kernel_rfl
instance : TyT Try.prog 43 ⟨1,false,(some [.nilfn]),.fn,none⟩:=⟨ty43⟩
instance : ZoT Try.prog 43 (some [.nilfn]):=⟨zo43⟩
theorem ty44 : tinfo Try.prog 44 = some ⟨1,false,(some [.nilfn]),.fn,none⟩:=by kernel_rfl
theorem zo44 : zeroOf Try.prog 44 = (some [.nilfn]):=by kernel_rfl
instance : TyT Try.prog 44 ⟨1,false,(some [.nilfn]),.fn,none⟩:=⟨ty44⟩
instance : ZoT Try.prog 44 (some [.nilfn]):=⟨zo44⟩
theorem ty46 : tinfo Try.prog 46 = some ⟨1,false,(some [.nilptr]),.pointer,none⟩:=by kernel_rfl
theorem zo46 : zeroOf Try.prog 46 = (some [.nilptr]):=by kernel_rfl
instance : TyT Try.prog 46 ⟨1,false,(some [.nilptr]),.pointer,none⟩:=⟨ty46⟩
instance : ZoT Try.prog 46 (some [.nilptr]):=⟨zo46⟩
theorem ty47 : tinfo Try.prog 47 = some ⟨1,false,(some [.nilmap]),.map 69 4,none⟩:=by kernel_rfl
theorem zo47 : zeroOf Try.prog 47 = (some [.nilmap]):=by kernel_rfl
instance : TyT Try.prog 47 ⟨1,false,(some [.nilmap]),.map 69 4,none⟩:=⟨ty47⟩
instance : ZoT Try.prog 47 (some [.nilmap]):=⟨zo47⟩
theorem ty48 : tinfo Try.prog 48 = some ⟨7,true,(some [.int .i64 0,.nilsl,.nilsl,.int .i64 0,.nilsl,.nilsl,.nilmap]),.struct [(0,25,3,true),(3,25,3,true),(6,47,1,false)],(some [(0,.other),(3,.other),(6,.other)])⟩:=by kernel_rfl
theorem zo48 : zeroOf Try.prog 48 = (some [.int .i64 0,.nilsl,.nilsl,.int .i64 0,.nilsl,.nilsl,.nilmap]):=by kernel_rfl
instance : TyT Try.prog 48 ⟨7,true,(some [.int .i64 0,.nilsl,.nilsl,.int .i64 0,.nilsl,.nilsl,.nilmap]),.struct [(0,25,3,true),(3,25,3,true),(6,47,1,false)],(some [(0,.other),(3,.other),(6,.other)])⟩:=⟨ty48⟩
instance : ZoT Try.prog 48 (some [.int .i64 0,.nilsl,.nilsl,.int .i64 0,.nilsl,.nilsl,.nilmap]):=⟨zo48⟩
theorem ty49 : tinfo Try.prog 49 = some ⟨7,true,(some [.int .i64 0,.nilsl,.nilsl,.int .i64 0,.nilsl,.nilsl,.nilmap]),.struct [(0,25,3,true),(3,25,3,true),(6,47,1,false)],(some [(0,.other),(3,.other),(6,.other)])⟩:=by kernel_rfl
theorem zo49 : zeroOf Try.prog 49 = (some [.int .i64 0,.nilsl,.nilsl,.int .i64 0,.nilsl,.nilsl,.nilmap]):=by kernel_rfl
instance : TyT Try.prog 49 ⟨7,true,(some [.int .i64 0,.nilsl,.nilsl,.int .i64 0,.nilsl,.nilsl,.nilmap]),.struct [(0,25,3,true),(3,25,3,true),(6,47,1,false)],(some [(0,.other),(3,.other),(6,.other)])⟩:=⟨ty49⟩
instance : ZoT Try.prog 49 (some [.int .i64 0,.nilsl,.nilsl,.int .i64 0,.nilsl,.nilsl,.nilmap]):=⟨zo49⟩
theorem ty51 : tinfo Try.prog 51 = some ⟨4,true,(some [.int .i64 0,.int .i64 0,.int .i64 0,.int .i64 0]),.array 4 3 1 false,(some [(0,.int .i64),(1,.int .i64),(2,.int .i64),(3,.int .i64)])⟩:=by kernel_rfl
theorem zo51 : zeroOf Try.prog 51 = (some [.int .i64 0,.int .i64 0,.int .i64 0,.int .i64 0]):=by kernel_rfl
instance : TyT Try.prog 51 ⟨4,true,(some [.int .i64 0,.int .i64 0,.int .i64 0,.int .i64 0]),.array 4 3 1 false,(some [(0,.int .i64),(1,.int .i64),(2,.int .i64),(3,.int .i64)])⟩:=⟨ty51⟩
instance : ZoT Try.prog 51 (some [.int .i64 0,.int .i64 0,.int .i64 0,.int .i64 0]):=⟨zo51⟩
theorem ty53 : tinfo Try.prog 53 = some ⟨9,true,(some [.int .i64 0,.int .i64 0,.int .i64 0,.int .i64 0,.int .i64 0,.int .i64 0,.int .i64 0,.int .i64 0,.int .i64 0]),.struct [(0,3,1,false),(1,51,4,true),(5,51,4,true)],(some [(0,.int .i64),(1,.other),(5,.other)])⟩:=by kernel_rfl
theorem zo53 : zeroOf Try.prog 53 = (some [.int .i64 0,.int .i64 0,.int .i64 0,.int .i64 0,.int .i64 0,.int .i64 0,.int .i64 0,.int .i64 0,.int .i64 0]):=by kernel_rfl
instance : TyT Try.prog 53 ⟨9,true,(some [.int .i64 0,.int .i64 0,.int .i64 0,.int .i64 0,.int .i64 0,.int .i64 0,.int .i64 0,.int .i64 0,.int .i64 0]),.struct [(0,3,1,false),(1,51,4,true),(5,51,4,true)],(some [(0,.int .i64),(1,.other),(5,.other)])⟩:=⟨ty53⟩
instance : ZoT Try.prog 53 (some [.int .i64 0,.int .i64 0,.int .i64 0,.int .i64 0,.int .i64 0,.int .i64 0,.int .i64 0,.int .i64 0,.int .i64 0]):=⟨zo53⟩
theorem ty55 : tinfo Try.prog 55 = some ⟨1,false,(some [.nilsl]),.slice 76 7 120 true (some [.int .i64 0,.str ⟨#[]⟩,.nilsl,.nilsl,.str ⟨#[]⟩,.nilsl,.bool false]),none⟩:=by kernel_rfl
theorem zo55 : zeroOf Try.prog 55 = (some [.nilsl]):=by kernel_rfl
instance : TyT Try.prog 55 ⟨1,false,(some [.nilsl]),.slice 76 7 120 true (some [.int .i64 0,.str ⟨#[]⟩,.nilsl,.nilsl,.str ⟨#[]⟩,.nilsl,.bool false]),none⟩:=⟨ty55⟩
instance : ZoT Try.prog 55 (some [.nilsl]):=⟨zo55⟩
theorem ty56 : tinfo Try.prog 56 = some ⟨1,false,(some [.nilfn]),.fn,none⟩:=by kernel_rfl
theorem zo56 : zeroOf Try.prog 56 = (some [.nilfn]):=by kernel_rfl
instance : TyT Try.prog 56 ⟨1,false,(some [.nilfn]),.fn,none⟩:=⟨ty56⟩
instance : ZoT Try.prog 56 (some [.nilfn]):=⟨zo56⟩
theorem ty57 : tinfo Try.prog 57 = some ⟨1,false,(some [.nilsl]),.slice 9 1 16 false (some [.str ⟨#[]⟩]),none⟩:=by kernel_rfl
theorem zo57 : zeroOf Try.prog 57 = (some [.nilsl]):=by kernel_rfl
instance : TyT Try.prog 57 ⟨1,false,(some [.nilsl]),.slice 9 1 16 false (some [.str ⟨#[]⟩]),none⟩:=⟨ty57⟩
instance : ZoT Try.prog 57 (some [.nilsl]):=⟨zo57⟩
theorem ty58 : tinfo Try.prog 58 = some ⟨1,false,(some [.nilsl]),.slice 3 1 8 false (some [.int .i64 0]),none⟩:=by kernel_rfl
theorem zo58 : zeroOf Try.prog 58 = (some [.nilsl]):=by kernel_rfl
instance : TyT Try.prog 58 ⟨1,false,(some [.nilsl]),.slice 3 1 8 false (some [.int .i64 0]),none⟩:=⟨ty58⟩
instance : ZoT Try.prog 58 (some [.nilsl]):=⟨zo58⟩
theorem ty61 : tinfo Try.prog 61 = some ⟨2,true,(some [.str ⟨#[]⟩,.nilsl]),.struct [(0,9,1,false),(1,26,1,false)],(some [(0,.string),(1,.other)])⟩:=by kernel_rfl
theorem zo61 : zeroOf Try.prog 61 = (some [.str ⟨#[]⟩,.nilsl]):=by kernel_rfl
instance : TyT Try.prog 61 ⟨2,true,(some [.str ⟨#[]⟩,.nilsl]),.struct [(0,9,1,false),(1,26,1,false)],(some [(0,.string),(1,.other)])⟩:=⟨ty61⟩
instance : ZoT Try.prog 61 (some [.str ⟨#[]⟩,.nilsl]):=⟨zo61⟩
theorem ty62 : tinfo Try.prog 62 = some ⟨1,false,(some [.nilsl]),.slice 4 1 1 false (some [.bool false]),none⟩:=by kernel_rfl
theorem zo62 : zeroOf Try.prog 62 = (some [.nilsl]):=by kernel_rfl
instance : TyT Try.prog 62 ⟨1,false,(some [.nilsl]),.slice 4 1 1 false (some [.bool false]),none⟩:=⟨ty62⟩
instance : ZoT Try.prog 62 (some [.nilsl]):=⟨zo62⟩
theorem ty64 : tinfo Try.prog 64 = some ⟨3,true,(some [.str ⟨#[]⟩,.int .i64 0,.nilsl]),.struct [(0,9,1,false),(1,3,1,false),(2,62,1,false)],(some [(0,.string),(1,.int .i64),(2,.other)])⟩:=by kernel_rfl
theorem zo64 : zeroOf Try.prog 64 = (some [.str ⟨#[]⟩,.int .i64 0,.nilsl]):=by kernel_rfl
instance : TyT Try.prog 64 ⟨3,true,(some [.str ⟨#[]⟩,.int .i64 0,.nilsl]),.struct [(0,9,1,false),(1,3,1,false),(2,62,1,false)],(some [(0,.string),(1,.int .i64),(2,.other)])⟩:=⟨ty64⟩
instance : ZoT Try.prog 64 (some [.str ⟨#[]⟩,.int .i64 0,.nilsl]):=⟨zo64⟩
theorem ty65 : tinfo Try.prog 65 = some ⟨1,false,(some [.nilfn]),.fn,none⟩:=by kernel_rfl
theorem zo65 : zeroOf Try.prog 65 = (some [.nilfn]):=by kernel_rfl
instance : TyT Try.prog 65 ⟨1,false,(some [.nilfn]),.fn,none⟩:=⟨ty65⟩
instance : ZoT Try.prog 65 (some [.nilfn]):=⟨zo65⟩
theorem ty66 : tinfo Try.prog 66 = some ⟨1,false,(some [.nilsl]),.slice 25 3 56 true (some [.int .i64 0,.nilsl,.nilsl]),none⟩:=by kernel_rfl
theorem zo66 : zeroOf Try.prog 66 = (some [.nilsl]):=by kernel_rfl
instance : TyT Try.prog 66 ⟨1,false,(some [.nilsl]),.slice 25 3 56 true (some [.int .i64 0,.nilsl,.nilsl]),none⟩:=⟨ty66⟩
instance : ZoT Try.prog 66 (some [.nilsl]):=⟨zo66⟩
theorem ty69 : tinfo Try.prog 69 = some ⟨18,true,(some [.int .i64 0,.int .i64 0,.int .i64 0,.int .i64 0,.int .i64 0,.int .i64 0,.int .i64 0,.int .i64 0,.int .i64 0,.int .i64 0,.int .i64 0,.int .i64 0,.int .i64 0,.int .i64 0,.int .i64 0,.int .i64 0,.int .i64 0,.int .i64 0]),.array 2 53 9 true,(some [(0,.other),(9,.other)])⟩:=by kernel_rfl
theorem zo69 : zeroOf Try.prog 69 = (some [.int .i64 0,.int .i64 0,.int .i64 0,.int .i64 0,.int .i64 0,.int .i64 0,.int .i64 0,.int .i64 0,.int .i64 0,.int .i64 0,.int .i64 0,.int .i64 0,.int .i64 0,.int .i64 0,.int .i64 0,.int .i64 0,.int .i64 0,.int .i64 0]):=by kernel_rfl
instance : TyT Try.prog 69 ⟨18,true,(some [.int .i64 0,.int .i64 0,.int .i64 0,.int .i64 0,.int .i64 0,.int .i64 0,.int .i64 0,.int .i64 0,.int .i64 0,.int .i64 0,.int .i64 0,.int .i64 0,.int .i64 0,.int .i64 0,.int .i64 0,.int .i64 0,.int .i64 0,.int .i64 0]),.array 2 53 9 true,(some [(0,.other),(9,.other)])⟩:=⟨ty69⟩
instance : ZoT Try.prog 69 (some [.int .i64 0,.int .i64 0,.int .i64 0,.int .i64 0,.int .i64 0,.int .i64 0,.int .i64 0,.int .i64 0,.int .i64 0,.int .i64 0,.int .i64 0,.int .i64 0,.int .i64 0,.int .i64 0,.int .i64 0,.int .i64 0,.int .i64 0,.int .i64 0]):=⟨zo69⟩
theorem ty72 : tinfo Try.prog 72 = some ⟨1,false,(some [.nilfn]),.fn,none⟩:=by kernel_rfl
theorem zo72 : zeroOf Try.prog 72 = (some [.nilfn]):=by kernel_rfl
instance : TyT Try.prog 72 ⟨1,false,(some [.nilfn]),.fn,none⟩:=⟨ty72⟩
instance : ZoT Try.prog 72 (some [.nilfn]):=⟨zo72⟩
theorem ty76 : tinfo Try.prog 76 = some ⟨7,true,(some [.int .i64 0,.str ⟨#[]⟩,.nilsl,.nilsl,.str ⟨#[]⟩,.nilsl,.bool false]),.struct [(0,29,4,true),(4,61,2,true),(6,4,1,false)],(some [(0,.other),(4,.other),(6,.bool)])⟩:=by kernel_rfl
theorem zo76 : zeroOf Try.prog 76 = (some [.int .i64 0,.str ⟨#[]⟩,.nilsl,.nilsl,.str ⟨#[]⟩,.nilsl,.bool false]):=by kernel_rfl
instance : TyT Try.prog 76 ⟨7,true,(some [.int .i64 0,.str ⟨#[]⟩,.nilsl,.nilsl,.str ⟨#[]⟩,.nilsl,.bool false]),.struct [(0,29,4,true),(4,61,2,true),(6,4,1,false)],(some [(0,.other),(4,.other),(6,.bool)])⟩:=⟨ty76⟩
instance : ZoT Try.prog 76 (some [.int .i64 0,.str ⟨#[]⟩,.nilsl,.nilsl,.str ⟨#[]⟩,.nilsl,.bool false]):=⟨zo76⟩
theorem ty80 : tinfo Try.prog 80 = some ⟨3,true,(some [.str ⟨#[]⟩,.int .i64 0,.nilsl]),.struct [(0,9,1,false),(1,3,1,false),(2,58,1,false)],(some [(0,.string),(1,.int .i64),(2,.other)])⟩:=by kernel_rfl
theorem zo80 : zeroOf Try.prog 80 = (some [.str ⟨#[]⟩,.int .i64 0,.nilsl]):=by kernel_rfl
instance : TyT Try.prog 80 ⟨3,true,(some [.str ⟨#[]⟩,.int .i64 0,.nilsl]),.struct [(0,9,1,false),(1,3,1,false),(2,58,1,false)],(some [(0,.string),(1,.int .i64),(2,.other)])⟩:=⟨ty80⟩
instance : ZoT Try.prog 80 (some [.str ⟨#[]⟩,.int .i64 0,.nilsl]):=⟨zo80⟩
theorem zv4 : zvOf Try.prog 4 = some (.bool false):=by kernel_rfl
instance : ZvT Try.prog 4 (.bool false):=⟨zv4⟩
theorem mixed : Try.prog.follows .mixedOrders = true:=by kernel_rfl
theorem en3 : Enters Try.prog 3:=Try.call3
instance : EnT Try.prog 3:=⟨en3⟩
theorem en4 : Enters Try.prog 4:=Try.call4
instance : EnT Try.prog 4:=⟨en4⟩
theorem en6 : Enters Try.prog 6:=Try.call6
instance : EnT Try.prog 6:=⟨en6⟩
theorem en7 : Enters Try.prog 7:=Try.call7
instance : EnT Try.prog 7:=⟨en7⟩
theorem en8 : Enters Try.prog 8:=Try.call8
instance : EnT Try.prog 8:=⟨en8⟩
theorem en9 : Enters Try.prog 9:=Try.call9
instance : EnT Try.prog 9:=⟨en9⟩
theorem en10 : Enters Try.prog 10:=Try.call10
instance : EnT Try.prog 10:=⟨en10⟩
theorem en11 : Enters Try.prog 11:=Try.call11
instance : EnT Try.prog 11:=⟨en11⟩
theorem en12 : Enters Try.prog 12:=Try.call12
instance : EnT Try.prog 12:=⟨en12⟩
theorem en15 : Enters Try.prog 15:=Try.call15
instance : EnT Try.prog 15:=⟨en15⟩
theorem en16 : Enters Try.prog 16:=Try.call16
instance : EnT Try.prog 16:=⟨en16⟩
theorem en17 : Enters Try.prog 17:=Try.call17
instance : EnT Try.prog 17:=⟨en17⟩
theorem en18 : Enters Try.prog 18:=Try.call18
instance : EnT Try.prog 18:=⟨en18⟩
theorem en19 : Enters Try.prog 19:=Try.call19
instance : EnT Try.prog 19:=⟨en19⟩
theorem en20 : Enters Try.prog 20:=Try.call20
instance : EnT Try.prog 20:=⟨en20⟩
theorem en22 : Enters Try.prog 22:=Try.call22
instance : EnT Try.prog 22:=⟨en22⟩
theorem en23 : Enters Try.prog 23:=Try.call23
instance : EnT Try.prog 23:=⟨en23⟩
theorem en24 : Enters Try.prog 24:=Try.call24
instance : EnT Try.prog 24:=⟨en24⟩
theorem en25 : Enters Try.prog 25:=Try.call25
instance : EnT Try.prog 25:=⟨en25⟩
theorem en26 : Enters Try.prog 26:=Try.call26
instance : EnT Try.prog 26:=⟨en26⟩
theorem en27 : Enters Try.prog 27:=Try.call27
instance : EnT Try.prog 27:=⟨en27⟩
theorem en28 : Enters Try.prog 28:=Try.call28
instance : EnT Try.prog 28:=⟨en28⟩
theorem en29 : Enters Try.prog 29:=Try.call29
instance : EnT Try.prog 29:=⟨en29⟩
theorem en30 : Enters Try.prog 30:=Try.call30
instance : EnT Try.prog 30:=⟨en30⟩
theorem en31 : Enters Try.prog 31:=Try.call31
instance : EnT Try.prog 31:=⟨en31⟩
theorem en32 : Enters Try.prog 32:=Try.call32
instance : EnT Try.prog 32:=⟨en32⟩
theorem en33 : Enters Try.prog 33:=Try.call33
instance : EnT Try.prog 33:=⟨en33⟩
theorem en35 : Enters Try.prog 35:=Try.call35
instance : EnT Try.prog 35:=⟨en35⟩
theorem en36 : Enters Try.prog 36:=Try.call36
instance : EnT Try.prog 36:=⟨en36⟩
theorem en37 : Enters Try.prog 37:=Try.call37
instance : EnT Try.prog 37:=⟨en37⟩
theorem en38 : Enters Try.prog 38:=Try.call38
instance : EnT Try.prog 38:=⟨en38⟩
theorem en39 : Enters Try.prog 39:=Try.call39
instance : EnT Try.prog 39:=⟨en39⟩
theorem en40 : Enters Try.prog 40:=Try.call40
instance : EnT Try.prog 40:=⟨en40⟩
theorem en41 : Enters Try.prog 41:=Try.call41
instance : EnT Try.prog 41:=⟨en41⟩
theorem en42 : Enters Try.prog 42:=Try.call42
instance : EnT Try.prog 42:=⟨en42⟩
theorem en43 : Enters Try.prog 43:=Try.call43
instance : EnT Try.prog 43:=⟨en43⟩
theorem en44 : Enters Try.prog 44:=Try.call44
instance : EnT Try.prog 44:=⟨en44⟩
end Go.Proofs.Ytfhakdonenhnbaa
namespace Go.Proofs.Ytfhakdonenhnbaa
open Go Go.Pv
def kidsN (n : Int) : Int:=if n = 1 ∨ n = 2 ∨ n = 3 then 0 else if n = 4 ∨ n = 8 ∨ n = 9 then 1 else if n = 5 ∨ n = 6 ∨ n = 7 then 2 else -1
def letterB (b : UInt8) : Bool:=decide (97 ≤ b.toNat ∧ b.toNat ≤ 122)
def isNameB (s : ByteArray) : Bool:=decide (1 ≤ s.size ∧ s.size ≤ 8) && s.data.toList.all letterB
theorem all_letter (s : ByteArray) : s.data.toList.all letterB = true ↔ ∀ i (h : i < s.size),letterB s[i] = true:=by
 rw [List.all_eq_true]
 constructor
 ·intro h i hi;exact h _ (by simp [ByteArray.getElem_eq_getElem_data])
 ·intro h b hb
  obtain ⟨i,hi,rfl⟩:=List.mem_iff_getElem.1 hb
  exact h i (by simpa using hi)
end Go.Proofs.Ytfhakdonenhnbaa
namespace Go.Proofs.Ytfhakdonenhnbaa
open Go Go.Pv
def rd (t : ByteArray) (i : Nat) : PObj:=.rows 2 [[.str t,.int .i64 (i : Int)]]
attribute [simp] rd
def isBl (c : UInt8) : Bool:=c.toNat == 32 || c.toNat == 10
def blk (t : ByteArray) : Nat → Nat → Nat
 | 0,i=>i
 | n + 1,i=>if h : i < t.size then (if isBl t[i] = true then blk t n (i + 1) else i) else i
def hp (t : ByteArray) (i : Nat) (w : ByteArray) : Bool:=decide (i + w.size ≤ t.size ∧ t.extract i (i + w.size) = w)
end Go.Proofs.Ytfhakdonenhnbaa
