import Derived.Test.YtfhakdonenhnbaaBPvGive
import Derived.Test.YtfhakdonenhnbaaChecked
import Derived.Laws.RangeString
import Derived.Test.YtfhakdonenhnbaaBPvRec
set_option linter.unusedVariables false
set_option linter.unusedSimpArgs false
set_option maxRecDepth 100000
set_option maxHeartbeats 4000000
namespace Go.Proofs.Ytfhakdonenhnbaa
open Go Go.Pv
theorem ty1 : tinfo Try.prog 1 = some ⟨1,false,(some [.nilfn]),.fn,none⟩:=by kernel_rfl
theorem zo1 : zeroOf Try.prog 1 = (some [.nilfn]):=by kernel_rfl
instance : TyT Try.prog 1 ⟨1,false,(some [.nilfn]),.fn,none⟩:=⟨ty1⟩
instance : ZoT Try.prog 1 (some [.nilfn]):=⟨zo1⟩
theorem ty2 : tinfo Try.prog 2 = some ⟨1,false,(some [.int .i64 0]),.int .i64,none⟩:=by kernel_rfl
theorem zo2 : zeroOf Try.prog 2 = (some [.int .i64 0]):=by kernel_rfl
instance : TyT Try.prog 2 ⟨1,false,(some [.int .i64 0]),.int .i64,none⟩:=⟨ty2⟩
instance : ZoT Try.prog 2 (some [.int .i64 0]):=⟨zo2⟩
theorem ty3 : tinfo Try.prog 3 = some ⟨1,false,(some [.int .i64 0]),.int .i64,none⟩:=by kernel_rfl
theorem zo3 : zeroOf Try.prog 3 = (some [.int .i64 0]):=by kernel_rfl
instance : TyT Try.prog 3 ⟨1,false,(some [.int .i64 0]),.int .i64,none⟩:=⟨ty3⟩
instance : ZoT Try.prog 3 (some [.int .i64 0]):=⟨zo3⟩
theorem ty4 : tinfo Try.prog 4 = some ⟨1,false,(some [.bool false]),.bool,none⟩:=by kernel_rfl
theorem zo4 : zeroOf Try.prog 4 = (some [.bool false]):=by kernel_rfl
instance : TyT Try.prog 4 ⟨1,false,(some [.bool false]),.bool,none⟩:=⟨ty4⟩
instance : ZoT Try.prog 4 (some [.bool false]):=⟨zo4⟩
theorem ty5 : tinfo Try.prog 5 = some ⟨1,false,(some [.int .u8 0]),.int .u8,none⟩:=by kernel_rfl
theorem zo5 : zeroOf Try.prog 5 = (some [.int .u8 0]):=by kernel_rfl
instance : TyT Try.prog 5 ⟨1,false,(some [.int .u8 0]),.int .u8,none⟩:=⟨ty5⟩
instance : ZoT Try.prog 5 (some [.int .u8 0]):=⟨zo5⟩
theorem ty9 : tinfo Try.prog 9 = some ⟨1,false,(some [.str ⟨#[]⟩]),.string,none⟩:=by kernel_rfl
theorem zo9 : zeroOf Try.prog 9 = (some [.str ⟨#[]⟩]):=by kernel_rfl
instance : TyT Try.prog 9 ⟨1,false,(some [.str ⟨#[]⟩]),.string,none⟩:=⟨ty9⟩
instance : ZoT Try.prog 9 (some [.str ⟨#[]⟩]):=⟨zo9⟩
theorem ty22 : tinfo Try.prog 22 = some ⟨1,false,(some [.nilsl]),.slice 80 3 48 true (some [.str ⟨#[]⟩,.int .i64 0,.nilsl]),none⟩:=by kernel_rfl
theorem zo22 : zeroOf Try.prog 22 = (some [.nilsl]):=by kernel_rfl
instance : TyT Try.prog 22 ⟨1,false,(some [.nilsl]),.slice 80 3 48 true (some [.str ⟨#[]⟩,.int .i64 0,.nilsl]),none⟩:=⟨ty22⟩
instance : ZoT Try.prog 22 (some [.nilsl]):=⟨zo22⟩
theorem ty23 : tinfo Try.prog 23 = some ⟨1,false,(some [.nilsl]),.slice 64 3 48 true (some [.str ⟨#[]⟩,.int .i64 0,.nilsl]),none⟩:=by kernel_rfl
theorem zo23 : zeroOf Try.prog 23 = (some [.nilsl]):=by kernel_rfl
instance : TyT Try.prog 23 ⟨1,false,(some [.nilsl]),.slice 64 3 48 true (some [.str ⟨#[]⟩,.int .i64 0,.nilsl]),none⟩:=⟨ty23⟩
instance : ZoT Try.prog 23 (some [.nilsl]):=⟨zo23⟩
theorem ty24 : tinfo Try.prog 24 = some ⟨3,true,(some [.int .i64 0,.nilsl,.nilsl]),.struct [(0,3,1,false),(1,22,1,false),(2,23,1,false)],(some [(0,.int .i64),(1,.other),(2,.other)])⟩:=by kernel_rfl
theorem zo24 : zeroOf Try.prog 24 = (some [.int .i64 0,.nilsl,.nilsl]):=by kernel_rfl
instance : TyT Try.prog 24 ⟨3,true,(some [.int .i64 0,.nilsl,.nilsl]),.struct [(0,3,1,false),(1,22,1,false),(2,23,1,false)],(some [(0,.int .i64),(1,.other),(2,.other)])⟩:=⟨ty24⟩
instance : ZoT Try.prog 24 (some [.int .i64 0,.nilsl,.nilsl]):=⟨zo24⟩
theorem ty25 : tinfo Try.prog 25 = some ⟨3,true,(some [.int .i64 0,.nilsl,.nilsl]),.struct [(0,3,1,false),(1,22,1,false),(2,23,1,false)],(some [(0,.int .i64),(1,.other),(2,.other)])⟩:=by kernel_rfl
theorem zo25 : zeroOf Try.prog 25 = (some [.int .i64 0,.nilsl,.nilsl]):=by kernel_rfl
instance : TyT Try.prog 25 ⟨3,true,(some [.int .i64 0,.nilsl,.nilsl]),.struct [(0,3,1,false),(1,22,1,false),(2,23,1,false)],(some [(0,.int .i64),(1,.other),(2,.other)])⟩:=⟨ty25⟩
instance : ZoT Try.prog 25 (some [.int .i64 0,.nilsl,.nilsl]):=⟨zo25⟩
theorem ty26 : tinfo Try.prog 26 = some ⟨1,false,(some [.nilsl]),.slice 61 2 40 true (some [.str ⟨#[]⟩,.nilsl]),none⟩:=by kernel_rfl
theorem zo26 : zeroOf Try.prog 26 = (some [.nilsl]):=by kernel_rfl
instance : TyT Try.prog 26 ⟨1,false,(some [.nilsl]),.slice 61 2 40 true (some [.str ⟨#[]⟩,.nilsl]),none⟩:=⟨ty26⟩
instance : ZoT Try.prog 26 (some [.nilsl]):=⟨zo26⟩
theorem ty27 : tinfo Try.prog 27 = some ⟨1,false,(some [.nilsl]),.slice 29 4 72 true (some [.int .i64 0,.str ⟨#[]⟩,.nilsl,.nilsl]),none⟩:=by kernel_rfl
theorem zo27 : zeroOf Try.prog 27 = (some [.nilsl]):=by kernel_rfl
instance : TyT Try.prog 27 ⟨1,false,(some [.nilsl]),.slice 29 4 72 true (some [.int .i64 0,.str ⟨#[]⟩,.nilsl,.nilsl]),none⟩:=⟨ty27⟩
instance : ZoT Try.prog 27 (some [.nilsl]):=⟨zo27⟩
theorem ty28 : tinfo Try.prog 28 = some ⟨4,true,(some [.int .i64 0,.str ⟨#[]⟩,.nilsl,.nilsl]),.struct [(0,3,1,false),(1,9,1,false),(2,26,1,false),(3,27,1,false)],(some [(0,.int .i64),(1,.string),(2,.other),(3,.other)])⟩:=by kernel_rfl
theorem zo28 : zeroOf Try.prog 28 = (some [.int .i64 0,.str ⟨#[]⟩,.nilsl,.nilsl]):=by kernel_rfl
instance : TyT Try.prog 28 ⟨4,true,(some [.int .i64 0,.str ⟨#[]⟩,.nilsl,.nilsl]),.struct [(0,3,1,false),(1,9,1,false),(2,26,1,false),(3,27,1,false)],(some [(0,.int .i64),(1,.string),(2,.other),(3,.other)])⟩:=⟨ty28⟩
instance : ZoT Try.prog 28 (some [.int .i64 0,.str ⟨#[]⟩,.nilsl,.nilsl]):=⟨zo28⟩
theorem ty29 : tinfo Try.prog 29 = some ⟨4,true,(some [.int .i64 0,.str ⟨#[]⟩,.nilsl,.nilsl]),.struct [(0,3,1,false),(1,9,1,false),(2,26,1,false),(3,27,1,false)],(some [(0,.int .i64),(1,.string),(2,.other),(3,.other)])⟩:=by kernel_rfl
theorem zo29 : zeroOf Try.prog 29 = (some [.int .i64 0,.str ⟨#[]⟩,.nilsl,.nilsl]):=by kernel_rfl
instance : TyT Try.prog 29 ⟨4,true,(some [.int .i64 0,.str ⟨#[]⟩,.nilsl,.nilsl]),.struct [(0,3,1,false),(1,9,1,false),(2,26,1,false),(3,27,1,false)],(some [(0,.int .i64),(1,.string),(2,.other),(3,.other)])⟩:=⟨ty29⟩
instance : ZoT Try.prog 29 (some [.int .i64 0,.str ⟨#[]⟩,.nilsl,.nilsl]):=⟨zo29⟩
theorem ty30 : tinfo Try.prog 30 = some ⟨1,false,(some [.nilfn]),.fn,none⟩:=by kernel_rfl
theorem zo30 : zeroOf Try.prog 30 = (some [.nilfn]):=by kernel_rfl
instance : TyT Try.prog 30 ⟨1,false,(some [.nilfn]),.fn,none⟩:=⟨ty30⟩
instance : ZoT Try.prog 30 (some [.nilfn]):=⟨zo30⟩
theorem ty32 : tinfo Try.prog 32 = some ⟨2,true,(some [.int .i64 0,.int .i64 0]),.struct [(0,3,1,false),(1,3,1,false)],(some [(0,.int .i64),(1,.int .i64)])⟩:=by kernel_rfl
theorem zo32 : zeroOf Try.prog 32 = (some [.int .i64 0,.int .i64 0]):=by kernel_rfl
instance : TyT Try.prog 32 ⟨2,true,(some [.int .i64 0,.int .i64 0]),.struct [(0,3,1,false),(1,3,1,false)],(some [(0,.int .i64),(1,.int .i64)])⟩:=⟨ty32⟩
instance : ZoT Try.prog 32 (some [.int .i64 0,.int .i64 0]):=⟨zo32⟩
theorem ty33 : tinfo Try.prog 33 = some ⟨2,true,(some [.int .i64 0,.int .i64 0]),.struct [(0,3,1,false),(1,3,1,false)],(some [(0,.int .i64),(1,.int .i64)])⟩:=by kernel_rfl
theorem zo33 : zeroOf Try.prog 33 = (some [.int .i64 0,.int .i64 0]):=by kernel_rfl
instance : TyT Try.prog 33 ⟨2,true,(some [.int .i64 0,.int .i64 0]),.struct [(0,3,1,false),(1,3,1,false)],(some [(0,.int .i64),(1,.int .i64)])⟩:=⟨ty33⟩
instance : ZoT Try.prog 33 (some [.int .i64 0,.int .i64 0]):=⟨zo33⟩
theorem ty35 : tinfo Try.prog 35 = some ⟨1,false,(some [.nilfn]),.fn,none⟩:=by kernel_rfl
theorem zo35 : zeroOf Try.prog 35 = (some [.nilfn]):=by kernel_rfl
instance : TyT Try.prog 35 ⟨1,false,(some [.nilfn]),.fn,none⟩:=⟨ty35⟩
instance : ZoT Try.prog 35 (some [.nilfn]):=⟨zo35⟩
theorem ty36 : tinfo Try.prog 36 = some ⟨1,false,(some [.nilfn]),.fn,none⟩:=by kernel_rfl
theorem zo36 : zeroOf Try.prog 36 = (some [.nilfn]):=by kernel_rfl
instance : TyT Try.prog 36 ⟨1,false,(some [.nilfn]),.fn,none⟩:=⟨ty36⟩
instance : ZoT Try.prog 36 (some [.nilfn]):=⟨zo36⟩
theorem ty37 : tinfo Try.prog 37 = some ⟨1,false,(some [.nilfn]),.fn,none⟩:=by kernel_rfl
theorem zo37 : zeroOf Try.prog 37 = (some [.nilfn]):=by kernel_rfl
instance : TyT Try.prog 37 ⟨1,false,(some [.nilfn]),.fn,none⟩:=⟨ty37⟩
instance : ZoT Try.prog 37 (some [.nilfn]):=⟨zo37⟩
theorem ty38 : tinfo Try.prog 38 = some ⟨1,false,(some [.nilfn]),.fn,none⟩:=by kernel_rfl
theorem zo38 : zeroOf Try.prog 38 = (some [.nilfn]):=by kernel_rfl
instance : TyT Try.prog 38 ⟨1,false,(some [.nilfn]),.fn,none⟩:=⟨ty38⟩
instance : ZoT Try.prog 38 (some [.nilfn]):=⟨zo38⟩
theorem ty39 : tinfo Try.prog 39 = some ⟨1,false,(some [.nilfn]),.fn,none⟩:=by kernel_rfl
theorem zo39 : zeroOf Try.prog 39 = (some [.nilfn]):=by kernel_rfl
instance : TyT Try.prog 39 ⟨1,false,(some [.nilfn]),.fn,none⟩:=⟨ty39⟩
instance : ZoT Try.prog 39 (some [.nilfn]):=⟨zo39⟩
theorem ty40 : tinfo Try.prog 40 = some ⟨1,false,(some [.nilfn]),.fn,none⟩:=by kernel_rfl
theorem zo40 : zeroOf Try.prog 40 = (some [.nilfn]):=by kernel_rfl
instance : TyT Try.prog 40 ⟨1,false,(some [.nilfn]),.fn,none⟩:=⟨ty40⟩
instance : ZoT Try.prog 40 (some [.nilfn]):=⟨zo40⟩
theorem ty41 : tinfo Try.prog 41 = some ⟨1,false,(some [.nilfn]),.fn,none⟩:=by kernel_rfl
theorem zo41 : zeroOf Try.prog 41 = (some [.nilfn]):=by kernel_rfl
instance : TyT Try.prog 41 ⟨1,false,(some [.nilfn]),.fn,none⟩:=⟨ty41⟩
instance : ZoT Try.prog 41 (some [.nilfn]):=⟨zo41⟩
theorem ty42 : tinfo Try.prog 42 = some ⟨1,false,(some [.nilfn]),.fn,none⟩:=by kernel_rfl
theorem zo42 : zeroOf Try.prog 42 = (some [.nilfn]):=by kernel_rfl
instance : TyT Try.prog 42 ⟨1,false,(some [.nilfn]),.fn,none⟩:=⟨ty42⟩
instance : ZoT Try.prog 42 (some [.nilfn]):=⟨zo42⟩
theorem ty43 : tinfo Try.prog 43 = some ⟨1,false,(some [.nilfn]),.fn,none⟩:=by kernel_rfl
theorem zo43 : zeroOf Try.prog 43 = (some [.nilfn]):=by kernel_rfl
instance : TyT Try.prog 43 ⟨1,false,(some [.nilfn]),.fn,none⟩:=⟨ty43⟩
instance : ZoT Try.prog 43 (some [.nilfn]):=⟨zo43⟩
theorem ty44 : tinfo Try.prog 44 = some ⟨1,false,(some [.nilfn]),.fn,none⟩:=by kernel_rfl
theorem zo44 : zeroOf Try.prog 44 = (some [.nilfn]):=by kernel_rfl
instance : TyT Try.prog 44 ⟨1,false,(some [.nilfn]),.fn,none⟩:=⟨ty44⟩
instance : ZoT Try.prog 44 (some [.nilfn]):=⟨zo44⟩
theorem ty46 : tinfo Try.prog 46 = some ⟨1,false,(some [.nilptr]),.pointer,none⟩:=by kernel_rfl
theorem zo46 : zeroOf Try.prog 46 = (some [.nilptr]):=by kernel_rfl
instance : TyT Try.prog 46 ⟨1,false,(some [.nilptr]),.pointer,none⟩:=⟨ty46⟩
instance : ZoT Try.prog 46 (some [.nilptr]):=⟨zo46⟩
theorem ty47 : tinfo Try.prog 47 = some ⟨1,false,(some [.nilmap]),.map 69 4,none⟩:=by kernel_rfl
theorem zo47 : zeroOf Try.prog 47 = (some [.nilmap]):=by kernel_rfl
instance : TyT Try.prog 47 ⟨1,false,(some [.nilmap]),.map 69 4,none⟩:=⟨ty47⟩
instance : ZoT Try.prog 47 (some [.nilmap]):=⟨zo47⟩
theorem ty48 : tinfo Try.prog 48 = some ⟨7,true,(some [.int .i64 0,.nilsl,.nilsl,.int .i64 0,.nilsl,.nilsl,.nilmap]),.struct [(0,25,3,true),(3,25,3,true),(6,47,1,false)],(some [(0,.other),(3,.other),(6,.other)])⟩:=by kernel_rfl
theorem zo48 : zeroOf Try.prog 48 = (some [.int .i64 0,.nilsl,.nilsl,.int .i64 0,.nilsl,.nilsl,.nilmap]):=by kernel_rfl
instance : TyT Try.prog 48 ⟨7,true,(some [.int .i64 0,.nilsl,.nilsl,.int .i64 0,.nilsl,.nilsl,.nilmap]),.struct [(0,25,3,true),(3,25,3,true),(6,47,1,false)],(some [(0,.other),(3,.other),(6,.other)])⟩:=⟨ty48⟩
instance : ZoT Try.prog 48 (some [.int .i64 0,.nilsl,.nilsl,.int .i64 0,.nilsl,.nilsl,.nilmap]):=⟨zo48⟩
theorem ty49 : tinfo Try.prog 49 = some ⟨7,true,(some [.int .i64 0,.nilsl,.nilsl,.int .i64 0,.nilsl,.nilsl,.nilmap]),.struct [(0,25,3,true),(3,25,3,true),(6,47,1,false)],(some [(0,.other),(3,.other),(6,.other)])⟩:=by kernel_rfl
theorem zo49 : zeroOf Try.prog 49 = (some [.int .i64 0,.nilsl,.nilsl,.int .i64 0,.nilsl,.nilsl,.nilmap]):=by kernel_rfl
instance : TyT Try.prog 49 ⟨7,true,(some [.int .i64 0,.nilsl,.nilsl,.int .i64 0,.nilsl,.nilsl,.nilmap]),.struct [(0,25,3,true),(3,25,3,true),(6,47,1,false)],(some [(0,.other),(3,.other),(6,.other)])⟩:=⟨ty49⟩
instance : ZoT Try.prog 49 (some [.int .i64 0,.nilsl,.nilsl,.int .i64 0,.nilsl,.nilsl,.nilmap]):=⟨zo49⟩
theorem ty51 : tinfo Try.prog 51 = some ⟨4,true,(some [.int .i64 0,.int .i64 0,.int .i64 0,.int .i64 0]),.array 4 3 1 false,(some [(0,.int .i64),(1,.int .i64),(2,.int .i64),(3,.int .i64)])⟩:=by kernel_rfl
theorem zo51 : zeroOf Try.prog 51 = (some [.int .i64 0,.int .i64 0,.int .i64 0,.int .i64 0]):=by kernel_rfl
instance : TyT Try.prog 51 ⟨4,true,(some [.int .i64 0,.int .i64 0,.int .i64 0,.int .i64 0]),.array 4 3 1 false,(some [(0,.int .i64),(1,.int .i64),(2,.int .i64),(3,.int .i64)])⟩:=⟨ty51⟩
instance : ZoT Try.prog 51 (some [.int .i64 0,.int .i64 0,.int .i64 0,.int .i64 0]):=⟨zo51⟩
theorem ty53 : tinfo Try.prog 53 = some ⟨9,true,(some [.int .i64 0,.int .i64 0,.int .i64 0,.int .i64 0,.int .i64 0,.int .i64 0,.int .i64 0,.int .i64 0,.int .i64 0]),.struct [(0,3,1,false),(1,51,4,true),(5,51,4,true)],(some [(0,.int .i64),(1,.other),(5,.other)])⟩:=by kernel_rfl
theorem zo53 : zeroOf Try.prog 53 = (some [.int .i64 0,.int .i64 0,.int .i64 0,.int .i64 0,.int .i64 0,.int .i64 0,.int .i64 0,.int .i64 0,.int .i64 0]):=by kernel_rfl
instance : TyT Try.prog 53 ⟨9,true,(some [.int .i64 0,.int .i64 0,.int .i64 0,.int .i64 0,.int .i64 0,.int .i64 0,.int .i64 0,.int .i64 0,.int .i64 0]),.struct [(0,3,1,false),(1,51,4,true),(5,51,4,true)],(some [(0,.int .i64),(1,.other),(5,.other)])⟩:=⟨ty53⟩
instance : ZoT Try.prog 53 (some [.int .i64 0,.int .i64 0,.int .i64 0,.int .i64 0,.int .i64 0,.int .i64 0,.int .i64 0,.int .i64 0,.int .i64 0]):=⟨zo53⟩
theorem ty56 : tinfo Try.prog 56 = some ⟨1,false,(some [.nilfn]),.fn,none⟩:=by kernel_rfl
theorem zo56 : zeroOf Try.prog 56 = (some [.nilfn]):=by kernel_rfl
instance : TyT Try.prog 56 ⟨1,false,(some [.nilfn]),.fn,none⟩:=⟨ty56⟩
instance : ZoT Try.prog 56 (some [.nilfn]):=⟨zo56⟩
theorem ty58 : tinfo Try.prog 58 = some ⟨1,false,(some [.nilsl]),.slice 3 1 8 false (some [.int .i64 0]),none⟩:=by kernel_rfl
theorem zo58 : zeroOf Try.prog 58 = (some [.nilsl]):=by kernel_rfl
instance : TyT Try.prog 58 ⟨1,false,(some [.nilsl]),.slice 3 1 8 false (some [.int .i64 0]),none⟩:=⟨ty58⟩
instance : ZoT Try.prog 58 (some [.nilsl]):=⟨zo58⟩
theorem ty61 : tinfo Try.prog 61 = some ⟨2,true,(some [.str ⟨#[]⟩,.nilsl]),.struct [(0,9,1,false),(1,26,1,false)],(some [(0,.string),(1,.other)])⟩:=by kernel_rfl
theorem zo61 : zeroOf Try.prog 61 = (some [.str ⟨#[]⟩,.nilsl]):=by kernel_rfl
instance : TyT Try.prog 61 ⟨2,true,(some [.str ⟨#[]⟩,.nilsl]),.struct [(0,9,1,false),(1,26,1,false)],(some [(0,.string),(1,.other)])⟩:=⟨ty61⟩
instance : ZoT Try.prog 61 (some [.str ⟨#[]⟩,.nilsl]):=⟨zo61⟩
theorem ty62 : tinfo Try.prog 62 = some ⟨1,false,(some [.nilsl]),.slice 4 1 1 false (some [.bool false]),none⟩:=by kernel_rfl
theorem zo62 : zeroOf Try.prog 62 = (some [.nilsl]):=by kernel_rfl
instance : TyT Try.prog 62 ⟨1,false,(some [.nilsl]),.slice 4 1 1 false (some [.bool false]),none⟩:=⟨ty62⟩
instance : ZoT Try.prog 62 (some [.nilsl]):=⟨zo62⟩
theorem ty64 : tinfo Try.prog 64 = some ⟨3,true,(some [.str ⟨#[]⟩,.int .i64 0,.nilsl]),.struct [(0,9,1,false),(1,3,1,false),(2,62,1,false)],(some [(0,.string),(1,.int .i64),(2,.other)])⟩:=by kernel_rfl
theorem zo64 : zeroOf Try.prog 64 = (some [.str ⟨#[]⟩,.int .i64 0,.nilsl]):=by kernel_rfl
instance : TyT Try.prog 64 ⟨3,true,(some [.str ⟨#[]⟩,.int .i64 0,.nilsl]),.struct [(0,9,1,false),(1,3,1,false),(2,62,1,false)],(some [(0,.string),(1,.int .i64),(2,.other)])⟩:=⟨ty64⟩
instance : ZoT Try.prog 64 (some [.str ⟨#[]⟩,.int .i64 0,.nilsl]):=⟨zo64⟩
theorem ty65 : tinfo Try.prog 65 = some ⟨1,false,(some [.nilfn]),.fn,none⟩:=by kernel_rfl
theorem zo65 : zeroOf Try.prog 65 = (some [.nilfn]):=by kernel_rfl
instance : TyT Try.prog 65 ⟨1,false,(some [.nilfn]),.fn,none⟩:=⟨ty65⟩
instance : ZoT Try.prog 65 (some [.nilfn]):=⟨zo65⟩
theorem ty66 : tinfo Try.prog 66 = some ⟨1,false,(some [.nilsl]),.slice 25 3 56 true (some [.int .i64 0,.nilsl,.nilsl]),none⟩:=by kernel_rfl
theorem zo66 : zeroOf Try.prog 66 = (some [.nilsl]):=by kernel_rfl
instance : TyT Try.prog 66 ⟨1,false,(some [.nilsl]),.slice 25 3 56 true (some [.int .i64 0,.nilsl,.nilsl]),none⟩:=⟨ty66⟩
instance : ZoT Try.prog 66 (some [.nilsl]):=⟨zo66⟩
theorem ty69 : tinfo Try.prog 69 = some ⟨18,true,(some [.int .i64 0,.int .i64 0,.int .i64 0,.int .i64 0,.int .i64 0,.int .i64 0,.int .i64 0,.int .i64 0,.int .i64 0,.int .i64 0,.int .i64 0,.int .i64 0,.int .i64 0,.int .i64 0,.int .i64 0,.int .i64 0,.int .i64 0,.int .i64 0]),.array 2 53 9 true,(some [(0,.other),(9,.other)])⟩:=by kernel_rfl
theorem zo69 : zeroOf Try.prog 69 = (some [.int .i64 0,.int .i64 0,.int .i64 0,.int .i64 0,.int .i64 0,.int .i64 0,.int .i64 0,.int .i64 0,.int .i64 0,.int .i64 0,.int .i64 0,.int .i64 0,.int .i64 0,.int .i64 0,.int .i64 0,.int .i64 0,.int .i64 0,.int .i64 0]):=by kernel_rfl
instance : TyT Try.prog 69 ⟨18,true,(some [.int .i64 0,.int .i64 0,.int .i64 0,.int .i64 0,.int .i64 0,.int .i64 0,.int .i64 0,.int .i64 0,.int .i64 0,.int .i64 0,.int .i64 0,.int .i64 0,.int .i64 0,.int .i64 0,.int .i64 0,.int .i64 0,.int .i64 0,.int .i64 0]),.array 2 53 9 true,(some [(0,.other),(9,.other)])⟩:=⟨ty69⟩
instance : ZoT Try.prog 69 (some [.int .i64 0,.int .i64 0,.int .i64 0,.int .i64 0,.int .i64 0,.int .i64 0,.int .i64 0,.int .i64 0,.int .i64 0,.int .i64 0,.int .i64 0,.int .i64 0,.int .i64 0,.int .i64 0,.int .i64 0,.int .i64 0,.int .i64 0,.int .i64 0]):=⟨zo69⟩
theorem ty72 : tinfo Try.prog 72 = some ⟨1,false,(some [.nilfn]),.fn,none⟩:=by kernel_rfl
theorem zo72 : zeroOf Try.prog 72 = (some [.nilfn]):=by kernel_rfl
instance : TyT Try.prog 72 ⟨1,false,(some [.nilfn]),.fn,none⟩:=⟨ty72⟩
instance : ZoT Try.prog 72 (some [.nilfn]):=⟨zo72⟩
theorem ty80 : tinfo Try.prog 80 = some ⟨3,true,(some [.str ⟨#[]⟩,.int .i64 0,.nilsl]),.struct [(0,9,1,false),(1,3,1,false),(2,58,1,false)],(some [(0,.string),(1,.int .i64),(2,.other)])⟩:=by kernel_rfl
theorem zo80 : zeroOf Try.prog 80 = (some [.str ⟨#[]⟩,.int .i64 0,.nilsl]):=by kernel_rfl
instance : TyT Try.prog 80 ⟨3,true,(some [.str ⟨#[]⟩,.int .i64 0,.nilsl]),.struct [(0,9,1,false),(1,3,1,false),(2,58,1,false)],(some [(0,.string),(1,.int .i64),(2,.other)])⟩:=⟨ty80⟩
instance : ZoT Try.prog 80 (some [.str ⟨#[]⟩,.int .i64 0,.nilsl]):=⟨zo80⟩
theorem ty82 : tinfo Try.prog 82 = some ⟨1,false,(some [.nilfn]),.fn,none⟩:=by kernel_rfl
theorem zo82 : zeroOf Try.prog 82 = (some [.nilfn]):=by kernel_rfl
instance : TyT Try.prog 82 ⟨1,false,(some [.nilfn]),.fn,none⟩:=⟨ty82⟩
instance : ZoT Try.prog 82 (some [.nilfn]):=⟨zo82⟩
theorem zv4 : zvOf Try.prog 4 = some (.bool false):=by kernel_rfl
instance : ZvT Try.prog 4 (.bool false):=⟨zv4⟩
theorem mixed : Try.prog.follows .mixedOrders = true:=by kernel_rfl
theorem en3 : Enters Try.prog 3:=Try.call3
instance : EnT Try.prog 3:=⟨en3⟩
theorem en4 : Enters Try.prog 4:=Try.call4
instance : EnT Try.prog 4:=⟨en4⟩
theorem en6 : Enters Try.prog 6:=Try.call6
instance : EnT Try.prog 6:=⟨en6⟩
theorem en8 : Enters Try.prog 8:=Try.call8
instance : EnT Try.prog 8:=⟨en8⟩
theorem en13 : Enters Try.prog 13:=Try.call13
instance : EnT Try.prog 13:=⟨en13⟩
theorem en16 : Enters Try.prog 16:=Try.call16
instance : EnT Try.prog 16:=⟨en16⟩
theorem en17 : Enters Try.prog 17:=Try.call17
instance : EnT Try.prog 17:=⟨en17⟩
theorem en20 : Enters Try.prog 20:=Try.call20
instance : EnT Try.prog 20:=⟨en20⟩
theorem en23 : Enters Try.prog 23:=Try.call23
instance : EnT Try.prog 23:=⟨en23⟩
theorem en24 : Enters Try.prog 24:=Try.call24
instance : EnT Try.prog 24:=⟨en24⟩
theorem en25 : Enters Try.prog 25:=Try.call25
instance : EnT Try.prog 25:=⟨en25⟩
theorem en26 : Enters Try.prog 26:=Try.call26
instance : EnT Try.prog 26:=⟨en26⟩
theorem en27 : Enters Try.prog 27:=Try.call27
instance : EnT Try.prog 27:=⟨en27⟩
theorem en28 : Enters Try.prog 28:=Try.call28
instance : EnT Try.prog 28:=⟨en28⟩
theorem en29 : Enters Try.prog 29:=Try.call29
instance : EnT Try.prog 29:=⟨en29⟩
theorem en30 : Enters Try.prog 30:=Try.call30
instance : EnT Try.prog 30:=⟨en30⟩
theorem en35 : Enters Try.prog 35:=Try.call35
instance : EnT Try.prog 35:=⟨en35⟩
theorem en36 : Enters Try.prog 36:=Try.call36
instance : EnT Try.prog 36:=⟨en36⟩
theorem en37 : Enters Try.prog 37:=Try.call37
instance : EnT Try.prog 37:=⟨en37⟩
theorem en38 : Enters Try.prog 38:=Try.call38
instance : EnT Try.prog 38:=⟨en38⟩
theorem en39 : Enters Try.prog 39:=Try.call39
instance : EnT Try.prog 39:=⟨en39⟩
theorem en40 : Enters Try.prog 40:=Try.call40
instance : EnT Try.prog 40:=⟨en40⟩
theorem en41 : Enters Try.prog 41:=Try.call41
instance : EnT Try.prog 41:=⟨en41⟩
theorem en42 : Enters Try.prog 42:=Try.call42
instance : EnT Try.prog 42:=⟨en42⟩
theorem en43 : Enters Try.prog 43:=Try.call43
instance : EnT Try.prog 43:=⟨en43⟩
theorem en44 : Enters Try.prog 44:=Try.call44
instance : EnT Try.prog 44:=⟨en44⟩
end Go.Proofs.Ytfhakdonenhnbaa
namespace Go.Proofs.Ytfhakdonenhnbaa
open Go Go.Pv
def kidsN (n : Int) : Int:=if n = 1 ∨ n = 2 ∨ n = 3 then 0 else if n = 4 ∨ n = 8 ∨ n = 9 then 1 else if n = 5 ∨ n = 6 ∨ n = 7 then 2 else -1
def letterB (b : UInt8) : Bool:=decide (97 ≤ b.toNat ∧ b.toNat ≤ 122)
def isNameB (s : ByteArray) : Bool:=decide (1 ≤ s.size ∧ s.size ≤ 8) && s.data.toList.all letterB
end Go.Proofs.Ytfhakdonenhnbaa
namespace Go.Proofs.Ytfhakdonenhnbaa
open Go Go.Pv
def rd (t : ByteArray) (i : Nat) : PObj:=.rows 2 [[.str t,.int .i64 (i : Int)]]
attribute [simp] rd
def isBl (c : UInt8) : Bool:=c.toNat == 32 || c.toNat == 10
def blk (t : ByteArray) : Nat → Nat → Nat
 | 0,i=>i
 | n + 1,i=>if h : i < t.size then (if isBl t[i] = true then blk t n (i + 1) else i) else i
def hp (t : ByteArray) (i : Nat) (w : ByteArray) : Bool:=decide (i + w.size ≤ t.size ∧ t.extract i (i + w.size) = w)
end Go.Proofs.Ytfhakdonenhnbaa
namespace Go.Pv
open Go
theorem tryRecover_normal {fr : Frame} (h : fr.kind = .normal) (cs : List Frame) : tryRecover fr cs = none:=by
 unfold tryRecover
 rw [h]
theorem calls_of_recN {P : Program} {f : FuncId} {fn : Func} {z : Code} {id : Nat} {ops : Array Oper} {o : Oper} {t : Tmp} {args : Array Value} {w : World} {R : Ending → World → Prop}
  (hf : P.funcs[f]? = some fn) (hb : fn.body = some (.seq (.region id ops false) z)) (hops : ops.toList = [o]) (hrun : ∀ a w,(execOp (Act.eval a) o).run P w = .ok .recover w) (hd : o.dst = some t) (hg : o.guard = none)
  (h : z.wp P (bodyPost P fn R) (Act.put { tmps:=args ++ Array.replicate (fn.ntmps - args.size) undef,defers:=[] } (some t) .nilIface) w) : Calls P f args w R:=by
 intro cs
 let b : Frame:={ (default : Frame) with fn:=f,kind:=.normal }
 generalize ha0 : ({ tmps:=args ++ Array.replicate (fn.ntmps - args.size) undef,defers:=[] } : Act) = a0 at *
 have henter : Frame.enter P f args .normal = b.at a0 [.code (.seq (.region id ops false) z)]:=by
  subst ha0
  simp [Frame.enter,Frame.at,hf,hb,b]
 have hsz : ops.size = 1:=by rw [← Array.length_toList,hops];rfl
 have h0 : ops[0]? = some o:=by rw [← Array.getElem?_toList,hops];rfl
 have hw : Region.wanted o (yielded ops a0.tmps) = true:=by simp [Region.wanted,hg]
 have hgo:=stepG_op (P:=P) (b:=b) (k:=[.code z]) (cs:=cs) (w:=w) (rest:=[]) h0 hw
 have hfin : ∀ v,(b.at a0 (.inRegion ops [0] :: [.code z])).finish v = b.at (a0.put o.dst v) (.inRegion ops [] :: [.code z]):=by
  intro v;rw [Frame.finish_at,h0];rfl
 have htr : tryRecover (b.at a0 (.inRegion ops [0] :: [.code z])) cs = none:=tryRecover_normal rfl cs
 have s3 : step P (lone (b.at a0 (.inRegion ops [0] :: [.code z])) cs w) = .next (lone (b.at (a0.put (some t) .nilIface) (.inRegion ops [] :: [.code z])) cs w):=by
  refine step_lone_go ?_
  rw [hgo,← hd,← hfin]
  simp only [Frame.at] at htr ⊢
  simp [stepG.apply,hrun,htr]
 obtain ⟨e,a',w',hq,harr⟩:=h b [] cs
 have hsteps : Steps P (lone (Frame.enter P f args .normal) cs w) (lone (b.at (a0.put (some t) .nilIface) [.code z]) cs w):=by
  rw [henter]
  refine Steps.trans (.one step_seq) (Steps.trans (.one step_region) ?_)
  rw [hsz]
  exact Steps.trans (.one s3) (.one step_region_end)
 replace harr:=Arrives.of_steps hsteps harr
 cases e with
 | normal=>
  obtain ⟨hd,v,hr,hR⟩:=hq
  exact ⟨.returned v,w',_,hR,Steps.trans harr (.one step_end),rfl,rfl,hd,rfl,fn,hf,hr⟩
 | ret=>
  obtain ⟨hd,v,hr,hR⟩:=hq
  obtain ⟨todo,hs⟩:=harr
  exact ⟨.returned v,w',_,hR,hs,rfl,rfl,hd,rfl,fn,hf,hr⟩
 | panic chain=>
  obtain ⟨hd,hR⟩:=hq
  obtain ⟨todo,hs⟩:=harr
  exact ⟨.panicked chain,w',_,hR,hs,rfl,rfl,hd,fn,hf⟩
 | exit id=>exact hq.elim
 | goto l=>exact hq.elim
 | outgrown=>exact ⟨.outgrown,w',b,hq,harr.resolve_left (by simp [b]),rfl,trivial⟩
theorem FR.plain {P : Program} {F : FuncId} {C : Program → Nat → WC} {t : Nat} {x : XC} {rs : List ResultVar} {fn : Func} (i : FR P F C t x rs fn) {args : List PV} {v : PV} {s s' : Store}
  (h : X (C P s.length) x (updA (argsA 0 args) (some t) .niliface) s (.fin rs (gcFin s.length v s'))) (hl : Nat.ble args.length fn.ntmps = true:=by exact rfl) : CallOK P F args s v s':=by
 obtain ⟨⟨A,hA,hc⟩,hf,hx,hrs,hm⟩:=i
 obtain ⟨⟨t',z⟩,hb,hxz⟩:=Option.map_eq_some_iff.1 hx
 simp only [Prod.mk.injEq] at hxz
 obtain ⟨rfl,hxz⟩:=hxz
 rw [hb,Option.map_some,Option.some.injEq,Bool.and_eq_true,decide_eq_true_eq] at hc
 obtain ⟨hc,htn⟩:=hc
 obtain ⟨c,hbody,hsh⟩:=Option.bind_eq_some_iff.1 hb
 unfold recShape at hsh
 split at hsh
 ·rename_i id ops z'
  split at hsh
  ·rename_i o hops
   split at hsh
   ·rename_i cargs0 cT t0 ho hd hg
    cases hsh
    unfold X at h
    rw [hA] at h
    intro pub σ w cargs hbase hargs
    have hER:=er_args (k:=fn.ntmps - cargs.size) hargs (Nat.le_of_ble_eq_true hl) rfl
    have hrun : ∀ a w,(execOp (Act.eval a) o).run P w = .ok .recover w:=fun a w=>by
     simp only [execOp,ho]
     rfl
    refine calls_of_recN hf hbody hops hrun hd hg ?_
    have hput : ER pub σ (frn fn.ntmps) (envOf (updA (argsA 0 args) (some t') .niliface)) (Act.put { tmps:=cargs ++ Array.replicate (fn.ntmps - cargs.size) undef,defers:=[] } (some t') .nilIface):=by
     rw [envOf_updA]
     exact hER.put (some t') (fun u hu=>by cases hu;exact frn_mem htn) .niliface
    refine wp_mono (wexec_ok (N:=frn fn.ntmps) hm z _ s _ hc (hxz ▸ h) ⟨w,pub,σ,dom s σ⟩ pub σ _ w hbase.sig (SR.start hbase) hput) ?_
    rintro x a' w' ⟨E,s0,pub0,σ0,⟨_,e1,s1,hv,hres⟩,hs0,he0⟩
    obtain ⟨pub',σ',hs',he'⟩:=hv _ pub0 σ0 a' w' (frn fn.ntmps) hbase.sig hs0 he0
    have hx : (match x with | .normal | .ret=>True | _=>False) ∧ Sat (xres P (envOf e1) s1 rs) fun vs=>gcFin s.length v s' (retV vs) s1:=by
     cases x <;> first | exact ⟨trivial,hres⟩ | exact hres.elim
    obtain ⟨hx,hres⟩:=hx
    obtain ⟨cv2,hR,p,q,h1,h2⟩:=res_run (m:=s.length) (v:=v) (s':=s') hbase.sig hs' he' (fun v1 s1 h=>gcFin_ret h) (hrs ▸ hres)
    have hgoal : a'.defers = [] ∧ ∃ v0,(results fn a'.tmps).run P w' = .ok v0 w' ∧ ∃ cv pub' σ',Ending.returned v0 = .returned cv ∧ SR ⟨w,pub,σ,dom s σ⟩ pub' σ' s' w' ∧ Rel pub' σ' v cv:=
     ⟨he'.defers,_,hR,_,p,q,rfl,h1,h2⟩
    cases x <;> first | exact hgoal | exact hx.elim
   ·cases hsh
  ·cases hsh
 ·cases hsh
def dnShape : Code → Option (Tmp × FuncId)
 | .region _ ops false=>match ops.toList with
  | [o]=>match o.op,o.dst,o.guard with
   | .defer ⟨.value (.func g),args,_⟩,none,none=>match args.toList with
    | [.tmp t]=>some (t,g)
    | _=>none
   | _,_,_=>none
  | _=>none
 | _=>none
theorem dnShape_some {r : Code} {t : Tmp} {g : FuncId} (h : dnShape r = some (t,g)) : ∃ id ops o T,r = .region id ops false ∧ ops.toList = [o] ∧ o.op = .defer ⟨.value (.func g),#[.tmp t],T⟩ ∧ o.dst = none ∧ o.guard = none:=by
 cases r <;> simp only [dnShape,reduceCtorEq] at h
 rename_i id ops d
 cases d <;> simp only [reduceCtorEq] at h
 split at h
 ·rename_i o hops
  split at h
  ·rename_i g0 dargs dT h1 h2 h3
   split at h
   ·rename_i t0 hargs
    cases h
    exact ⟨id,ops,o,_,rfl,hops,by rw [h1];congr 2;exact Array.toList_inj.1 hargs,h2,h3⟩
   ·cases h
  ·cases h
 ·cases h
def cutN : Code → Option (List Code × Code × Code)
 | .seq x y=>match dnShape x with
  | some _=>some ([],x,y)
  | none=>(cutN y).map fun p=>(x :: p.1,p.2)
 | _=>none
theorem cutN_wp {P : Program} {Q : Exit → Act → World → Prop} : ∀ (c : Code) (pre : List Code) (r z : Code),cutN c = some (pre,r,z) → ∀ (a : Act) (w : World),wpPre P Q pre (fun a w=>r.wp P (Exit.then (fun a w=>z.wp P Q a w) Q) a w) a w → c.wp P Q a w:=by
 intro c
 induction c with
 | seq x y ihx ihy=>
  intro pre r z h a w hw
  unfold cutN at h
  split at h
  ·cases h
   exact wp_seq hw
  ·obtain ⟨⟨p1,p2⟩,h1,h2⟩ := Option.map_eq_some_iff.1 h
   cases h2
   refine wp_seq (wp_mono hw ?_)
   intro e a w hq
   cases e <;> first | exact ihy p1 r z h1 a w hq | exact hq
 | _=>intro pre r z h;simp [cutN] at h
def DRecN (P : Program) (g : FuncId) (y : PV) (r : Option Value) (e : AE) (s : Store) (rs : List ResultVar) (f : PV → Store → Prop) : Prop:=
 ∃ s2,Enters P g ∧ CallRec P g r [y] s s2 ∧ Sat (xres P (envOf e) s2 rs) fun vs=>f (retV vs) s2
def wdn (P : Program) (g : FuncId) (t : Nat) (rs : List ResultVar) (f : PV → Store → Prop) : Exit → AE → Store → Prop:=fun x e s=>match x with
 | .normal | .ret=>DRecN P g (envOf e t) none e s rs f
 | .panic [⟨v,false,false⟩]=>DRecN P g (envOf e t) (some v) e s rs f
 | _=>False
section
variable {P : Program} {g : FuncId} {t : Nat} {rs : List ResultVar} {f : PV → Store → Prop} {e : AE} {s : Store}
@[simp] theorem wdn_normal : wdn P g t rs f .normal e s = DRecN P g (envOf e t) none e s rs f:=rfl
@[simp] theorem wdn_ret : wdn P g t rs f .ret e s = DRecN P g (envOf e t) none e s rs f:=rfl
@[simp] theorem wdn_pan {v : Value} : wdn P g t rs f (pan1 v) e s = DRecN P g (envOf e t) (some v) e s rs f:=rfl
theorem DRecN.sub {y : PV} {r : Option Value} {s2 : Store} [h : EnT P g] (ρ : List Nat) (hc : CallRec P g r [renN ρ 4 y] (liveS ρ s ρ) s2) (hk : FN (xres P (envOf e) (backS ρ s s2) rs) f (backS ρ s s2))
  (hnd : ρ.Nodup:=by simp) (hin : ∀ i ∈ ρ,i < s.length:=by simp) (hlen : ρ.length ≤ s2.length:=by simp) : DRecN P g y r e s rs f:=by
 refine ⟨_,h.h,CallRec.sub ρ hnd hin hlen ?_,hk⟩
 have : ∀ L : List Nat,liveS ρ s L = L.map fun i=>renObj ρ ((s[i]?).getD .dead):=by
  intro L;induction L with
  | nil=>rfl
  | cons t r ih=>rw [List.map_cons,← ih];rfl
 rw [← this];exact hc
end
structure FDN (P : Program) (F : FuncId) (C : Program → Nat → WC) (xs : List XC) (t : Nat) (g : FuncId) (x : XC) (rs : List ResultVar) (fn : Func) : Prop where
 A : ∃ A,(∀ P m,C P m = ⟨P,m,A⟩) ∧ ((fn.body.bind cutN).map fun p=>p.1.all (chkC fn.ntmps A) && chkC ⟨fn.ntmps,[t]⟩ A p.2.2 && decide (t < fn.ntmps)) = some true
 f : P.funcs[F]? = some fn
 x : ((fn.body.bind cutN).bind fun p=>(dnShape p.2.1).map fun q=>(p.1.map lt,q.1,q.2,lt p.2.2)) = some (xs,t,g,x)
 r : fn.results.toList = rs
 m : P.follows .mixedOrders = true
theorem FDN.ops {P : Program} {F : FuncId} {C : Program → Nat → WC} {xs : List XC} {t : Nat} {g : FuncId} {x : XC} {rs : List ResultVar} {fn : Func} (i : FDN P F C xs t g x rs fn) {args : List PV} {v : PV} {s s' : Store} (fin : PV → Store → Prop) (hfin : ∀ v1 s1,fin v1 s1 → RetView s.length v1 s1 v s')
  (h : XL (C P s.length) (.fin rs fin) xs (fun e s1=>X (C P s.length) x e s1 (.fany (wdn P g t rs fin))) (argsA 0 args) s) (hl : Nat.ble args.length fn.ntmps = true:=by exact rfl) : CallOK P F args s v s':=by
 obtain ⟨⟨A,hA,hc⟩,hf,hx,hrs,hm⟩:=i
 obtain ⟨⟨pre,r,z⟩,hb,hx2⟩:=Option.bind_eq_some_iff.1 hx
 obtain ⟨⟨t',g'⟩,hsh,hx3⟩:=Option.map_eq_some_iff.1 hx2
 simp only [Prod.mk.injEq] at hx3
 obtain ⟨hx4,rfl,rfl,hx6⟩:=hx3
 rw [hb,Option.map_some,Option.some.injEq,Bool.and_eq_true,Bool.and_eq_true,decide_eq_true_eq] at hc
 obtain ⟨⟨hpre,hz⟩,htn⟩:=hc
 obtain ⟨c,hbody,hcut⟩:=Option.bind_eq_some_iff.1 hb
 rw [hA] at h
 subst hx4 hx6
 intro pub σ w cargs hbase hargs
 refine calls_of_wp_defers hf hbody ?_
 refine cutN_wp c pre r z hcut _ _ ?_
 have hER:=er_args (k:=fn.ntmps - cargs.size) hargs (Nat.le_of_ble_eq_true hl) rfl
 have leave : ∀ (e : AE) (s1 : Store) (pub' : PHeap) (σ' : Sig) (a' : Act) (w' : World) (N : FrN),(Sat (xres P (envOf e) s1 rs) fun vs => fin (retV vs) s1) → SR ⟨w,pub,σ,dom s σ⟩ pub' σ' s1 w' → ER pub' σ' N (envOf e) a' →
   Leaves P fn a'.tmps (fun e w'=>∃ cv pub' σ',e = .returned cv ∧ SR ⟨w,pub,σ,dom s σ⟩ pub' σ' s' w' ∧ Rel pub' σ' v cv) [] .returning w':=by
  intro e s1 pub' σ' a' w' N hres hs' he'
  obtain ⟨cv2,hR,p,q,h1,h2⟩:=res_run (m:=s.length) (v:=v) (s':=s') hbase.sig hs' he' hfin (hrs ▸ hres)
  exact ⟨cv2,hR,cv2,p,q,rfl,h1,h2⟩
 have key : ∀ (l : List Code) (e : AE) (s0 : Store) (pub0 : PHeap) (σ0 : Sig) (a0 : Act) (w0 : World),l.all (chkC fn.ntmps A) = true →
   XL ⟨P,s.length,A⟩ (.fin rs fin) (l.map lt) (fun e s1=>X ⟨P,s.length,A⟩ (lt z) e s1 (.fany (wdn P g' t' rs fin))) e s0 → SR ⟨w,pub,σ,dom s σ⟩ pub0 σ0 s0 w0 → ER pub0 σ0 (frn fn.ntmps) (envOf e) a0 →
   wpPre P (bodyPostD P fn fun e w'=>∃ cv pub' σ',e = .returned cv ∧ SR ⟨w,pub,σ,dom s σ⟩ pub' σ' s' w' ∧ Rel pub' σ' v cv) l (fun a w_1=>r.wp P (Exit.then (fun a w_2=>z.wp P (bodyPostD P fn fun e w'=>∃ cv pub' σ',e = .returned cv ∧ SR ⟨w,pub,σ,dom s σ⟩ pub' σ' s' w' ∧ Rel pub' σ' v cv) a w_2) (bodyPostD P fn fun e w'=>∃ cv pub' σ',e = .returned cv ∧ SR ⟨w,pub,σ,dom s σ⟩ pub' σ' s' w' ∧ Rel pub' σ' v cv)) a w_1) a0 w0:=by
  intro l
  induction l with
  | nil=>
   intro e s0 pub0 σ0 a0 w0 _ h hs he
   replace h : X ⟨P,s.length,A⟩ (lt z) e s0 (.fany (wdn P g' t' rs fin)):=h
   show r.wp P _ a0 w0
   obtain ⟨id,ops,o1,dT,rfl,hops,h1,h2,h3⟩:=dnShape_some hsh
   refine wp_region ?_
   have hsz : ops.size = 1:=by rw [← Array.length_toList,hops];rfl
   have e0 : ops[0]? = some o1:=by rw [← Array.getElem?_toList,hops];rfl
   rw [hsz]
   simp only [List.range_succ,List.range_zero,List.nil_append,wpOps,e0]
   have hw1 : ∀ y,Region.wanted o1 y = true:=fun y=>by simp [Region.wanted,h3]
   rw [if_pos (hw1 _)]
   refine .inl ?_
   obtain ⟨fv,hfv⟩ : ∃ fv,a0.tmps.getD t' undef = fv:=⟨_,rfl⟩
   have hfr : Rel pub0 σ0 (envOf e t') fv:=hfv ▸ he.rel t'
   have hrun1 : (execOp a0.eval o1).run P w0 = .ok (.defer { target:=.fn (.func g') #[],args:=#[fv] }) w0:=by
    have hev : a0.eval (.tmp t') = fv:=hfv
    simp only [execOp,h1,Go.resolve]
    have : a0.eval (.func g') = .func (.func g') #[] #[]:=rfl
    rw [this]
    simp [Deferred.ofValue,hev]
   unfold Oper.wp
   rw [hrun1]
   simp only [Oper.upon,h2,Act.put]
   show z.wp P _ _ _
   have hdef : a0.defers = []:=he.defers
   have hN : ER pub0 σ0 ⟨fn.ntmps,[{ target:=.fn (.func g') #[],args:=#[fv] }],[(t',fv)]⟩ (envOf e) { a0 with defers:={ target:=.fn (.func g') #[],args:=#[fv] } :: a0.defers }:=
    ⟨he.size,by rw [hdef],fun u v hv=>by simp only [List.mem_singleton,Prod.mk.injEq] at hv;obtain ⟨rfl,rfl⟩:=hv;exact hfv,he.rel⟩
   refine wp_mono (wexec_ok (N:=⟨fn.ntmps,[{ target:=.fn (.func g') #[],args:=#[fv] }],[(t',fv)]⟩) hm z _ s0 _ hz h ⟨w,pub,σ,dom s σ⟩ pub0 σ0 _ w0 hbase.sig hs hN) ?_
   rintro x a' w' ⟨E,s2,pub2,σ2,⟨_,e2,s3,hv,hres⟩,hs2,he2⟩
   obtain ⟨pub',σ',hs',he'⟩:=hv _ pub2 σ2 a' w' _ hbase.sig hs2 he2
   have hrec : ∀ r0,DRecN P g' (envOf e2 t') r0 e2 s3 rs fin → Leaves P fn a'.tmps (fun e w'=>∃ cv pub' σ',e = .returned cv ∧ SR ⟨w,pub,σ,dom s σ⟩ pub' σ' s' w' ∧ Rel pub' σ' v cv) a'.defers (recMode r0) w':=by
    rintro r0 ⟨s4,hen,hcr,hfinal⟩
    rw [he'.defers]
    have hrel:=he'.rel t'
    rw [he'.kept t' fv (by simp)] at hrel
    refine leaves_cons (by cases r0 <;> simp [recMode]) (f:=g') (args:=#[fv]) (by simp only [invoke];rw [Array.append_empty];exact hen _ w') ?_
    refine CallsD.mono (hcr pub' σ' w' _ hs'.toBase ⟨rfl,fun j x y hx hy=>?_⟩) ?_
    ·cases j with
     | zero=>simp at hx hy;subst hx hy;simpa using hrel
     | succ j=>simp at hx
    rintro en u' w5 ⟨⟨cv,rfl⟩,hset,pub5,σ5,hs5⟩
    show Leaves P fn a'.tmps _ [] (settle u') w5
    rw [hset]
    exact leave e2 s4 pub5 σ5 a' w5 _ hfinal (hs'.trans hs5) (he'.mono hs5.ple hs5.sle)
   have hres2 : wdn P g' t' rs fin x e2 s3:=hres
   unfold wdn at hres2
   split at hres2
   ·exact hrec none hres2
   ·exact hrec none hres2
   ·exact hrec (some _) hres2
   ·exact hres2.elim
  | cons x l ih=>
   intro e s0 pub0 σ0 a0 w0 hl h hs he
   rw [List.all_cons,Bool.and_eq_true] at hl
   replace h : X ⟨P,s.length,A⟩ (lt x) e s0 (.andk (XL ⟨P,s.length,A⟩ (.fin rs fin) (l.map lt) (fun e s1=>X ⟨P,s.length,A⟩ (lt z) e s1 (.fany (wdn P g' t' rs fin)))) (.fin rs fin)):=h
   show x.wp P _ a0 w0
   refine wp_mono (wexec_ok (N:=frn fn.ntmps) hm x _ s0 _ hl.1 h ⟨w,pub,σ,dom s σ⟩ pub0 σ0 _ w0 hbase.sig hs he) ?_
   rintro y a' w' ⟨E,s2,pub2,σ2,⟨_,e2,s3,hv,hres⟩,hs2,he2⟩
   obtain ⟨pub',σ',hs',he'⟩:=hv _ pub2 σ2 a' w' _ hbase.sig hs2 he2
   cases y with
   | normal=>exact ih e2 s3 pub' σ' a' w' hl.2 hres hs' he'
   | ret=>
    show Leaves P fn a'.tmps _ a'.defers .returning w'
    rw [he'.defers]
    exact leave e2 s3 pub' σ' a' w' _ hres hs' he'
   | exit i=>exact hres.elim
   | goto l=>exact hres.elim
   | panic ch=>exact hres.elim
   | outgrown=>exact hres.elim
 exact key pre (argsA 0 args) s pub σ _ w hpre h (SR.start hbase) hER
theorem FDN.os {P : Program} {F : FuncId} {C : Program → Nat → WC} {xs : List XC} {t : Nat} {g : FuncId} {x : XC} {rs : List ResultVar} {fn : Func} (i : FDN P F C xs t g x rs fn) {args : List PV} {v : PV}
  (h : XL (C P 0) (.fin rs fun v1 s1=>softV (deref s1 6 v1) = v) xs (fun e s1=>X (C P 0) x e s1 (.fany (wdn P g t rs fun v1 s1=>softV (deref s1 6 v1) = v))) (argsA 0 args) []) (hl : Nat.ble args.length fn.ntmps = true:=by exact rfl) : CallOK P F args [] v []:=
 FDN.ops i _ (fun v1 s1 h=>RetView.softV h) h hl
end Go.Pv
