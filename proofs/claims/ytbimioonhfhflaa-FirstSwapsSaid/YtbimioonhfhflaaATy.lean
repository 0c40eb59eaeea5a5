import Derived.Test.YtbimioonhfhflaaAPvWalk
import Derived.Test.YtbimioonhfhflaaChecked
namespace Go.Proofs.Ytbimioonhfhflaa
open Go Go.Pv
theorem ty1 : tinfo Try.prog 1 = some ⟨1,false,(some [.nilfn]),.fn,none⟩:=by kernel_rfl
theorem zo1 : zeroOf Try.prog 1 = (some [.nilfn]):=by kernel_rfl
instance : TyT Try.prog 1 ⟨1,false,(some [.nilfn]),.fn,none⟩:=⟨ty1⟩
instance : ZoT Try.prog 1 (some [.nilfn]):=⟨zo1⟩
theorem ty2 : tinfo Try.prog 2 = some ⟨1,false,(some [.int .i64 0]),.int .i64,none⟩:=by kernel_rfl
theorem zo2 : zeroOf Try.prog 2 = (some [.int .i64 0]):=by kernel_rfl
instance : TyT Try.prog 2 ⟨1,false,(some [.int .i64 0]),.int .i64,none⟩:=⟨ty2⟩
instance : ZoT Try.prog 2 (some [.int .i64 0]):=⟨zo2⟩
theorem ty3 : tinfo Try.prog 3 = some ⟨1,false,(some [.int .i64 0]),.int .i64,none⟩:=by kernel_rfl
theorem zo3 : zeroOf Try.prog 3 = (some [.int .i64 0]):=by kernel_rfl
instance : TyT Try.prog 3 ⟨1,false,(some [.int .i64 0]),.int .i64,none⟩:=⟨ty3⟩
instance : ZoT Try.prog 3 (some [.int .i64 0]):=⟨zo3⟩
theorem ty4 : tinfo Try.prog 4 = some ⟨1,false,(some [.bool false]),.bool,none⟩:=by kernel_rfl
theorem zo4 : zeroOf Try.prog 4 = (some [.bool false]):=by kernel_rfl
instance : TyT Try.prog 4 ⟨1,false,(some [.bool false]),.bool,none⟩:=⟨ty4⟩
instance : ZoT Try.prog 4 (some [.bool false]):=⟨zo4⟩
theorem ty5 : tinfo Try.prog 5 = some ⟨1,false,(some [.int .u8 0]),.int .u8,none⟩:=by kernel_rfl
theorem zo5 : zeroOf Try.prog 5 = (some [.int .u8 0]):=by kernel_rfl
instance : TyT Try.prog 5 ⟨1,false,(some [.int .u8 0]),.int .u8,none⟩:=⟨ty5⟩
instance : ZoT Try.prog 5 (some [.int .u8 0]):=⟨zo5⟩
theorem ty9 : tinfo Try.prog 9 = some ⟨1,false,(some [.str ⟨#[]⟩]),.string,none⟩:=by kernel_rfl
theorem zo9 : zeroOf Try.prog 9 = (some [.str ⟨#[]⟩]):=by kernel_rfl
instance : TyT Try.prog 9 ⟨1,false,(some [.str ⟨#[]⟩]),.string,none⟩:=⟨ty9⟩
instance : ZoT Try.prog 9 (some [.str ⟨#[]⟩]):=⟨zo9⟩
theorem ty21 : tinfo Try.prog 21 = some ⟨1,false,(some [.int .i32 0]),.int .i32,none⟩:=by kernel_rfl
theorem zo21 : zeroOf Try.prog 21 = (some [.int .i32 0]):=by kernel_rfl
instance : TyT Try.prog 21 ⟨1,false,(some [.int .i32 0]),.int .i32,none⟩:=⟨ty21⟩
instance : ZoT Try.prog 21 (some [.int .i32 0]):=⟨zo21⟩
theorem ty22 : tinfo Try.prog 22 = some ⟨1,false,(some [.nilsl]),.slice 57 3 48 true (some [.str ⟨#[]⟩,.int .i64 0,.nilsl]),none⟩:=by kernel_rfl
theorem zo22 : zeroOf Try.prog 22 = (some [.nilsl]):=by kernel_rfl
instance : TyT Try.prog 22 ⟨1,false,(some [.nilsl]),.slice 57 3 48 true (some [.str ⟨#[]⟩,.int .i64 0,.nilsl]),none⟩:=⟨ty22⟩
instance : ZoT Try.prog 22 (some [.nilsl]):=⟨zo22⟩
theorem ty23 : tinfo Try.prog 23 = some ⟨1,false,(some [.nilsl]),.slice 61 3 48 true (some [.str ⟨#[]⟩,.int .i64 0,.nilsl]),none⟩:=by kernel_rfl
theorem zo23 : zeroOf Try.prog 23 = (some [.nilsl]):=by kernel_rfl
instance : TyT Try.prog 23 ⟨1,false,(some [.nilsl]),.slice 61 3 48 true (some [.str ⟨#[]⟩,.int .i64 0,.nilsl]),none⟩:=⟨ty23⟩
instance : ZoT Try.prog 23 (some [.nilsl]):=⟨zo23⟩
theorem ty24 : tinfo Try.prog 24 = some ⟨3,true,(some [.int .i64 0,.nilsl,.nilsl]),.struct [(0,3,1,false),(1,22,1,false),(2,23,1,false)],(some [(0,.int .i64),(1,.other),(2,.other)])⟩:=by kernel_rfl
theorem zo24 : zeroOf Try.prog 24 = (some [.int .i64 0,.nilsl,.nilsl]):=by kernel_rfl
instance : TyT Try.prog 24 ⟨3,true,(some [.int .i64 0,.nilsl,.nilsl]),.struct [(0,3,1,false),(1,22,1,false),(2,23,1,false)],(some [(0,.int .i64),(1,.other),(2,.other)])⟩:=⟨ty24⟩
instance : ZoT Try.prog 24 (some [.int .i64 0,.nilsl,.nilsl]):=⟨zo24⟩
theorem ty25 : tinfo Try.prog 25 = some ⟨3,true,(some [.int .i64 0,.nilsl,.nilsl]),.struct [(0,3,1,false),(1,22,1,false),(2,23,1,false)],(some [(0,.int .i64),(1,.other),(2,.other)])⟩:=by kernel_rfl
theorem zo25 : zeroOf Try.prog 25 = (some [.int .i64 0,.nilsl,.nilsl]):=by kernel_rfl
instance : TyT Try.prog 25 ⟨3,true,(some [.int .i64 0,.nilsl,.nilsl]),.struct [(0,3,1,false),(1,22,1,false),(2,23,1,false)],(some [(0,.int .i64),(1,.other),(2,.other)])⟩:=⟨ty25⟩
instance : ZoT Try.prog 25 (some [.int .i64 0,.nilsl,.nilsl]):=⟨zo25⟩
theorem ty26 : tinfo Try.prog 26 = some ⟨1,false,(some [.nilsl]),.slice 31 2 40 true (some [.str ⟨#[]⟩,.nilsl]),none⟩:=by kernel_rfl
theorem zo26 : zeroOf Try.prog 26 = (some [.nilsl]):=by kernel_rfl
instance : TyT Try.prog 26 ⟨1,false,(some [.nilsl]),.slice 31 2 40 true (some [.str ⟨#[]⟩,.nilsl]),none⟩:=⟨ty26⟩
instance : ZoT Try.prog 26 (some [.nilsl]):=⟨zo26⟩
theorem ty27 : tinfo Try.prog 27 = some ⟨1,false,(some [.nilsl]),.slice 29 4 72 true (some [.int .i64 0,.str ⟨#[]⟩,.nilsl,.nilsl]),none⟩:=by kernel_rfl
theorem zo27 : zeroOf Try.prog 27 = (some [.nilsl]):=by kernel_rfl
instance : TyT Try.prog 27 ⟨1,false,(some [.nilsl]),.slice 29 4 72 true (some [.int .i64 0,.str ⟨#[]⟩,.nilsl,.nilsl]),none⟩:=⟨ty27⟩
instance : ZoT Try.prog 27 (some [.nilsl]):=⟨zo27⟩
theorem ty28 : tinfo Try.prog 28 = some ⟨4,true,(some [.int .i64 0,.str ⟨#[]⟩,.nilsl,.nilsl]),.struct [(0,3,1,false),(1,9,1,false),(2,26,1,false),(3,27,1,false)],(some [(0,.int .i64),(1,.string),(2,.other),(3,.other)])⟩:=by kernel_rfl
theorem zo28 : zeroOf Try.prog 28 = (some [.int .i64 0,.str ⟨#[]⟩,.nilsl,.nilsl]):=by kernel_rfl
instance : TyT Try.prog 28 ⟨4,true,(some [.int .i64 0,.str ⟨#[]⟩,.nilsl,.nilsl]),.struct [(0,3,1,false),(1,9,1,false),(2,26,1,false),(3,27,1,false)],(some [(0,.int .i64),(1,.string),(2,.other),(3,.other)])⟩:=⟨ty28⟩
instance : ZoT Try.prog 28 (some [.int .i64 0,.str ⟨#[]⟩,.nilsl,.nilsl]):=⟨zo28⟩
theorem ty29 : tinfo Try.prog 29 = some ⟨4,true,(some [.int .i64 0,.str ⟨#[]⟩,.nilsl,.nilsl]),.struct [(0,3,1,false),(1,9,1,false),(2,26,1,false),(3,27,1,false)],(some [(0,.int .i64),(1,.string),(2,.other),(3,.other)])⟩:=by kernel_rfl
theorem zo29 : zeroOf Try.prog 29 = (some [.int .i64 0,.str ⟨#[]⟩,.nilsl,.nilsl]):=by kernel_rfl
instance : TyT Try.prog 29 ⟨4,true,(some [.int .i64 0,.str ⟨#[]⟩,.nilsl,.nilsl]),.struct [(0,3,1,false),(1,9,1,false),(2,26,1,false),(3,27,1,false)],(some [(0,.int .i64),(1,.string),(2,.other),(3,.other)])⟩:=⟨ty29⟩
instance : ZoT Try.prog 29 (some [.int .i64 0,.str ⟨#[]⟩,.nilsl,.nilsl]):=⟨zo29⟩
theorem ty31 : tinfo Try.prog 31 = some ⟨2,true,(some [.str ⟨#[]⟩,.nilsl]),.struct [(0,9,1,false),(1,26,1,false)],(some [(0,.string),(1,.other)])⟩:=by kernel_rfl
theorem zo31 : zeroOf Try.prog 31 = (some [.str ⟨#[]⟩,.nilsl]):=by kernel_rfl
instance : TyT Try.prog 31 ⟨2,true,(some [.str ⟨#[]⟩,.nilsl]),.struct [(0,9,1,false),(1,26,1,false)],(some [(0,.string),(1,.other)])⟩:=⟨ty31⟩
instance : ZoT Try.prog 31 (some [.str ⟨#[]⟩,.nilsl]):=⟨zo31⟩
theorem ty32 : tinfo Try.prog 32 = some ⟨1,false,(some [.nilsl]),.slice 9 1 16 false (some [.str ⟨#[]⟩]),none⟩:=by kernel_rfl
theorem zo32 : zeroOf Try.prog 32 = (some [.nilsl]):=by kernel_rfl
instance : TyT Try.prog 32 ⟨1,false,(some [.nilsl]),.slice 9 1 16 false (some [.str ⟨#[]⟩]),none⟩:=⟨ty32⟩
instance : ZoT Try.prog 32 (some [.nilsl]):=⟨zo32⟩
theorem ty33 : tinfo Try.prog 33 = some ⟨1,false,(some [.nilsl]),.slice 3 1 8 false (some [.int .i64 0]),none⟩:=by kernel_rfl
theorem zo33 : zeroOf Try.prog 33 = (some [.nilsl]):=by kernel_rfl
instance : TyT Try.prog 33 ⟨1,false,(some [.nilsl]),.slice 3 1 8 false (some [.int .i64 0]),none⟩:=⟨ty33⟩
instance : ZoT Try.prog 33 (some [.nilsl]):=⟨zo33⟩
theorem ty36 : tinfo Try.prog 36 = some ⟨1,false,(some [.nilfn]),.fn,none⟩:=by kernel_rfl
theorem zo36 : zeroOf Try.prog 36 = (some [.nilfn]):=by kernel_rfl
instance : TyT Try.prog 36 ⟨1,false,(some [.nilfn]),.fn,none⟩:=⟨ty36⟩
instance : ZoT Try.prog 36 (some [.nilfn]):=⟨zo36⟩
theorem ty37 : tinfo Try.prog 37 = some ⟨1,false,(some [.nilfn]),.fn,none⟩:=by kernel_rfl
theorem zo37 : zeroOf Try.prog 37 = (some [.nilfn]):=by kernel_rfl
instance : TyT Try.prog 37 ⟨1,false,(some [.nilfn]),.fn,none⟩:=⟨ty37⟩
instance : ZoT Try.prog 37 (some [.nilfn]):=⟨zo37⟩
theorem ty38 : tinfo Try.prog 38 = some ⟨2,true,(some [.int .i64 0,.int .i64 0]),.struct [(0,3,1,false),(1,3,1,false)],(some [(0,.int .i64),(1,.int .i64)])⟩:=by kernel_rfl
theorem zo38 : zeroOf Try.prog 38 = (some [.int .i64 0,.int .i64 0]):=by kernel_rfl
instance : TyT Try.prog 38 ⟨2,true,(some [.int .i64 0,.int .i64 0]),.struct [(0,3,1,false),(1,3,1,false)],(some [(0,.int .i64),(1,.int .i64)])⟩:=⟨ty38⟩
instance : ZoT Try.prog 38 (some [.int .i64 0,.int .i64 0]):=⟨zo38⟩
theorem ty39 : tinfo Try.prog 39 = some ⟨2,true,(some [.int .i64 0,.int .i64 0]),.struct [(0,3,1,false),(1,3,1,false)],(some [(0,.int .i64),(1,.int .i64)])⟩:=by kernel_rfl
theorem zo39 : zeroOf Try.prog 39 = (some [.int .i64 0,.int .i64 0]):=by kernel_rfl
instance : TyT Try.prog 39 ⟨2,true,(some [.int .i64 0,.int .i64 0]),.struct [(0,3,1,false),(1,3,1,false)],(some [(0,.int .i64),(1,.int .i64)])⟩:=⟨ty39⟩
instance : ZoT Try.prog 39 (some [.int .i64 0,.int .i64 0]):=⟨zo39⟩
theorem ty40 : tinfo Try.prog 40 = some ⟨1,false,(some [.nilfn]),.fn,none⟩:=by kernel_rfl
theorem zo40 : zeroOf Try.prog 40 = (some [.nilfn]):=by kernel_rfl
instance : TyT Try.prog 40 ⟨1,false,(some [.nilfn]),.fn,none⟩:=⟨ty40⟩
instance : ZoT Try.prog 40 (some [.nilfn]):=⟨zo40⟩
theorem ty42 : tinfo Try.prog 42 = some ⟨1,false,(some [.nilfn]),.fn,none⟩:=by kernel_rfl
theorem zo42 : zeroOf Try.prog 42 = (some [.nilfn]):=by kernel_rfl
instance : TyT Try.prog 42 ⟨1,false,(some [.nilfn]),.fn,none⟩:=⟨ty42⟩
instance : ZoT Try.prog 42 (some [.nilfn]):=⟨zo42⟩
theorem ty43 : tinfo Try.prog 43 = some ⟨1,false,(some [.nilfn]),.fn,none⟩:=by kernel_rfl
theorem zo43 : zeroOf Try.prog 43 = (some [.nilfn]):=by kernel_rfl
instance : TyT Try.prog 43 ⟨1,false,(some [.nilfn]),.fn,none⟩:=⟨ty43⟩
instance : ZoT Try.prog 43 (some [.nilfn]):=⟨zo43⟩
theorem ty45 : tinfo Try.prog 45 = some ⟨1,false,(some [.nilfn]),.fn,none⟩:=by kernel_rfl
theorem zo45 : zeroOf Try.prog 45 = (some [.nilfn]):=by kernel_rfl
instance : TyT Try.prog 45 ⟨1,false,(some [.nilfn]),.fn,none⟩:=⟨ty45⟩
instance : ZoT Try.prog 45 (some [.nilfn]):=⟨zo45⟩
theorem ty46 : tinfo Try.prog 46 = some ⟨1,false,(some [.nilfn]),.fn,none⟩:=by kernel_rfl
theorem zo46 : zeroOf Try.prog 46 = (some [.nilfn]):=by kernel_rfl
instance : TyT Try.prog 46 ⟨1,false,(some [.nilfn]),.fn,none⟩:=⟨ty46⟩
instance : ZoT Try.prog 46 (some [.nilfn]):=⟨zo46⟩
theorem ty47 : tinfo Try.prog 47 = some ⟨1,false,(some [.nilfn]),.fn,none⟩:=by kernel_rfl
theorem zo47 : zeroOf Try.prog 47 = (some [.nilfn]):=by kernel_rfl
instance : TyT Try.prog 47 ⟨1,false,(some [.nilfn]),.fn,none⟩:=⟨ty47⟩
instance : ZoT Try.prog 47 (some [.nilfn]):=⟨zo47⟩
theorem ty49 : tinfo Try.prog 49 = some ⟨1,false,(some [.nilfn]),.fn,none⟩:=by kernel_rfl
theorem zo49 : zeroOf Try.prog 49 = (some [.nilfn]):=by kernel_rfl
instance : TyT Try.prog 49 ⟨1,false,(some [.nilfn]),.fn,none⟩:=⟨ty49⟩
instance : ZoT Try.prog 49 (some [.nilfn]):=⟨zo49⟩
theorem ty53 : tinfo Try.prog 53 = some ⟨1,false,(some [.nilfn]),.fn,none⟩:=by kernel_rfl
theorem zo53 : zeroOf Try.prog 53 = (some [.nilfn]):=by kernel_rfl
instance : TyT Try.prog 53 ⟨1,false,(some [.nilfn]),.fn,none⟩:=⟨ty53⟩
instance : ZoT Try.prog 53 (some [.nilfn]):=⟨zo53⟩
theorem ty55 : tinfo Try.prog 55 = some ⟨1,false,(some [.nilfn]),.fn,none⟩:=by kernel_rfl
theorem zo55 : zeroOf Try.prog 55 = (some [.nilfn]):=by kernel_rfl
instance : TyT Try.prog 55 ⟨1,false,(some [.nilfn]),.fn,none⟩:=⟨ty55⟩
instance : ZoT Try.prog 55 (some [.nilfn]):=⟨zo55⟩
theorem ty57 : tinfo Try.prog 57 = some ⟨3,true,(some [.str ⟨#[]⟩,.int .i64 0,.nilsl]),.struct [(0,9,1,false),(1,3,1,false),(2,33,1,false)],(some [(0,.string),(1,.int .i64),(2,.other)])⟩:=by kernel_rfl
theorem zo57 : zeroOf Try.prog 57 = (some [.str ⟨#[]⟩,.int .i64 0,.nilsl]):=by kernel_rfl
instance : TyT Try.prog 57 ⟨3,true,(some [.str ⟨#[]⟩,.int .i64 0,.nilsl]),.struct [(0,9,1,false),(1,3,1,false),(2,33,1,false)],(some [(0,.string),(1,.int .i64),(2,.other)])⟩:=⟨ty57⟩
instance : ZoT Try.prog 57 (some [.str ⟨#[]⟩,.int .i64 0,.nilsl]):=⟨zo57⟩
theorem ty58 : tinfo Try.prog 58 = some ⟨1,false,(some [.nilfn]),.fn,none⟩:=by kernel_rfl
theorem zo58 : zeroOf Try.prog 58 = (some [.nilfn]):=by kernel_rfl
instance : TyT Try.prog 58 ⟨1,false,(some [.nilfn]),.fn,none⟩:=⟨ty58⟩
instance : ZoT Try.prog 58 (some [.nilfn]):=⟨zo58⟩
theorem ty59 : tinfo Try.prog 59 = some ⟨1,false,(some [.nilsl]),.slice 4 1 1 false (some [.bool false]),none⟩:=by kernel_rfl
theorem zo59 : zeroOf Try.prog 59 = (some [.nilsl]):=by kernel_rfl
instance : TyT Try.prog 59 ⟨1,false,(some [.nilsl]),.slice 4 1 1 false (some [.bool false]),none⟩:=⟨ty59⟩
instance : ZoT Try.prog 59 (some [.nilsl]):=⟨zo59⟩
theorem ty60 : tinfo Try.prog 60 = some ⟨3,true,(some [.str ⟨#[]⟩,.int .i64 0,.nilsl]),.struct [(0,9,1,false),(1,3,1,false),(2,59,1,false)],(some [(0,.string),(1,.int .i64),(2,.other)])⟩:=by kernel_rfl
theorem zo60 : zeroOf Try.prog 60 = (some [.str ⟨#[]⟩,.int .i64 0,.nilsl]):=by kernel_rfl
instance : TyT Try.prog 60 ⟨3,true,(some [.str ⟨#[]⟩,.int .i64 0,.nilsl]),.struct [(0,9,1,false),(1,3,1,false),(2,59,1,false)],(some [(0,.string),(1,.int .i64),(2,.other)])⟩:=⟨ty60⟩
instance : ZoT Try.prog 60 (some [.str ⟨#[]⟩,.int .i64 0,.nilsl]):=⟨zo60⟩
theorem ty61 : tinfo Try.prog 61 = some ⟨3,true,(some [.str ⟨#[]⟩,.int .i64 0,.nilsl]),.struct [(0,9,1,false),(1,3,1,false),(2,59,1,false)],(some [(0,.string),(1,.int .i64),(2,.other)])⟩:=by kernel_rfl
theorem zo61 : zeroOf Try.prog 61 = (some [.str ⟨#[]⟩,.int .i64 0,.nilsl]):=by kernel_rfl
instance : TyT Try.prog 61 ⟨3,true,(some [.str ⟨#[]⟩,.int .i64 0,.nilsl]),.struct [(0,9,1,false),(1,3,1,false),(2,59,1,false)],(some [(0,.string),(1,.int .i64),(2,.other)])⟩:=⟨ty61⟩
instance : ZoT Try.prog 61 (some [.str ⟨#[]⟩,.int .i64 0,.nilsl]):=⟨zo61⟩
theorem ty62 : tinfo Try.prog 62 = some ⟨1,false,(some [.nilfn]),.fn,none⟩:=by kernel_rfl
theorem zo62 : zeroOf Try.prog 62 = (some [.nilfn]):=by kernel_rfl
instance : TyT Try.prog 62 ⟨1,false,(some [.nilfn]),.fn,none⟩:=⟨ty62⟩
instance : ZoT Try.prog 62 (some [.nilfn]):=⟨zo62⟩
theorem ty63 : tinfo Try.prog 63 = some ⟨1,false,(some [.nilfn]),.fn,none⟩:=by kernel_rfl
theorem zo63 : zeroOf Try.prog 63 = (some [.nilfn]):=by kernel_rfl
instance : TyT Try.prog 63 ⟨1,false,(some [.nilfn]),.fn,none⟩:=⟨ty63⟩
instance : ZoT Try.prog 63 (some [.nilfn]):=⟨zo63⟩
theorem ty64 : tinfo Try.prog 64 = some ⟨1,false,(some [.nilfn]),.fn,none⟩:=by kernel_rfl
theorem zo64 : zeroOf Try.prog 64 = (some [.nilfn]):=by kernel_rfl
instance : TyT Try.prog 64 ⟨1,false,(some [.nilfn]),.fn,none⟩:=⟨ty64⟩
instance : ZoT Try.prog 64 (some [.nilfn]):=⟨zo64⟩
theorem ty65 : tinfo Try.prog 65 = some ⟨1,false,(some [.nilmap]),.map 9 31,none⟩:=by kernel_rfl
theorem zo65 : zeroOf Try.prog 65 = (some [.nilmap]):=by kernel_rfl
instance : TyT Try.prog 65 ⟨1,false,(some [.nilmap]),.map 9 31,none⟩:=⟨ty65⟩
instance : ZoT Try.prog 65 (some [.nilmap]):=⟨zo65⟩
theorem ty66 : tinfo Try.prog 66 = some ⟨1,false,(some [.nilfn]),.fn,none⟩:=by kernel_rfl
theorem zo66 : zeroOf Try.prog 66 = (some [.nilfn]):=by kernel_rfl
instance : TyT Try.prog 66 ⟨1,false,(some [.nilfn]),.fn,none⟩:=⟨ty66⟩
instance : ZoT Try.prog 66 (some [.nilfn]):=⟨zo66⟩
theorem ty67 : tinfo Try.prog 67 = some ⟨1,false,(some [.nilmap]),.map 9 3,none⟩:=by kernel_rfl
theorem zo67 : zeroOf Try.prog 67 = (some [.nilmap]):=by kernel_rfl
instance : TyT Try.prog 67 ⟨1,false,(some [.nilmap]),.map 9 3,none⟩:=⟨ty67⟩
instance : ZoT Try.prog 67 (some [.nilmap]):=⟨zo67⟩
theorem ty68 : tinfo Try.prog 68 = some ⟨1,false,(some [.nilptr]),.pointer,none⟩:=by kernel_rfl
theorem zo68 : zeroOf Try.prog 68 = (some [.nilptr]):=by kernel_rfl
instance : TyT Try.prog 68 ⟨1,false,(some [.nilptr]),.pointer,none⟩:=⟨ty68⟩
instance : ZoT Try.prog 68 (some [.nilptr]):=⟨zo68⟩
theorem ty69 : tinfo Try.prog 69 = some ⟨1,false,(some [.nilfn]),.fn,none⟩:=by kernel_rfl
theorem zo69 : zeroOf Try.prog 69 = (some [.nilfn]):=by kernel_rfl
instance : TyT Try.prog 69 ⟨1,false,(some [.nilfn]),.fn,none⟩:=⟨ty69⟩
instance : ZoT Try.prog 69 (some [.nilfn]):=⟨zo69⟩
theorem ty70 : tinfo Try.prog 70 = some ⟨1,false,(some [.nilfn]),.fn,none⟩:=by kernel_rfl
theorem zo70 : zeroOf Try.prog 70 = (some [.nilfn]):=by kernel_rfl
instance : TyT Try.prog 70 ⟨1,false,(some [.nilfn]),.fn,none⟩:=⟨ty70⟩
instance : ZoT Try.prog 70 (some [.nilfn]):=⟨zo70⟩
theorem ty73 : tinfo Try.prog 73 = some ⟨1,false,(some [.nilfn]),.fn,none⟩:=by kernel_rfl
theorem zo73 : zeroOf Try.prog 73 = (some [.nilfn]):=by kernel_rfl
instance : TyT Try.prog 73 ⟨1,false,(some [.nilfn]),.fn,none⟩:=⟨ty73⟩
instance : ZoT Try.prog 73 (some [.nilfn]):=⟨zo73⟩
theorem ty74 : tinfo Try.prog 74 = some ⟨1,false,(some [.nilfn]),.fn,none⟩:=by kernel_rfl
theorem zo74 : zeroOf Try.prog 74 = (some [.nilfn]):=by kernel_rfl
instance : TyT Try.prog 74 ⟨1,false,(some [.nilfn]),.fn,none⟩:=⟨ty74⟩
instance : ZoT Try.prog 74 (some [.nilfn]):=⟨zo74⟩
theorem ty75 : tinfo Try.prog 75 = some ⟨1,false,(some [.nilfn]),.fn,none⟩:=by kernel_rfl
theorem zo75 : zeroOf Try.prog 75 = (some [.nilfn]):=by kernel_rfl
instance : TyT Try.prog 75 ⟨1,false,(some [.nilfn]),.fn,none⟩:=⟨ty75⟩
instance : ZoT Try.prog 75 (some [.nilfn]):=⟨zo75⟩
theorem ty76 : tinfo Try.prog 76 = some ⟨1,false,(some [.nilfn]),.fn,none⟩:=by kernel_rfl
theorem zo76 : zeroOf Try.prog 76 = (some [.nilfn]):=by kernel_rfl
instance : TyT Try.prog 76 ⟨1,false,(some [.nilfn]),.fn,none⟩:=⟨ty76⟩
instance : ZoT Try.prog 76 (some [.nilfn]):=⟨zo76⟩
theorem ty77 : tinfo Try.prog 77 = some ⟨1,false,(some [.nilptr]),.pointer,none⟩:=by kernel_rfl
theorem zo77 : zeroOf Try.prog 77 = (some [.nilptr]):=by kernel_rfl
instance : TyT Try.prog 77 ⟨1,false,(some [.nilptr]),.pointer,none⟩:=⟨ty77⟩
instance : ZoT Try.prog 77 (some [.nilptr]):=⟨zo77⟩
theorem ty78 : tinfo Try.prog 78 = some ⟨1,false,(some [.nilptr]),.pointer,none⟩:=by kernel_rfl
theorem zo78 : zeroOf Try.prog 78 = (some [.nilptr]):=by kernel_rfl
instance : TyT Try.prog 78 ⟨1,false,(some [.nilptr]),.pointer,none⟩:=⟨ty78⟩
instance : ZoT Try.prog 78 (some [.nilptr]):=⟨zo78⟩
theorem ty80 : tinfo Try.prog 80 = some ⟨2,true,(some [.int .i64 0,.nilmap]),.struct [(0,3,1,false),(1,67,1,false)],(some [(0,.int .i64),(1,.other)])⟩:=by kernel_rfl
theorem zo80 : zeroOf Try.prog 80 = (some [.int .i64 0,.nilmap]):=by kernel_rfl
instance : TyT Try.prog 80 ⟨2,true,(some [.int .i64 0,.nilmap]),.struct [(0,3,1,false),(1,67,1,false)],(some [(0,.int .i64),(1,.other)])⟩:=⟨ty80⟩
instance : ZoT Try.prog 80 (some [.int .i64 0,.nilmap]):=⟨zo80⟩
theorem ty81 : tinfo Try.prog 81 = some ⟨1,false,(some [.nilfn]),.fn,none⟩:=by kernel_rfl
theorem zo81 : zeroOf Try.prog 81 = (some [.nilfn]):=by kernel_rfl
instance : TyT Try.prog 81 ⟨1,false,(some [.nilfn]),.fn,none⟩:=⟨ty81⟩
instance : ZoT Try.prog 81 (some [.nilfn]):=⟨zo81⟩
theorem ty82 : tinfo Try.prog 82 = some ⟨1,false,(some [.nilfn]),.fn,none⟩:=by kernel_rfl
theorem zo82 : zeroOf Try.prog 82 = (some [.nilfn]):=by kernel_rfl
instance : TyT Try.prog 82 ⟨1,false,(some [.nilfn]),.fn,none⟩:=⟨ty82⟩
instance : ZoT Try.prog 82 (some [.nilfn]):=⟨zo82⟩
theorem ty83 : tinfo Try.prog 83 = some ⟨1,false,(some [.nilfn]),.fn,none⟩:=by kernel_rfl
theorem zo83 : zeroOf Try.prog 83 = (some [.nilfn]):=by kernel_rfl
instance : TyT Try.prog 83 ⟨1,false,(some [.nilfn]),.fn,none⟩:=⟨ty83⟩
instance : ZoT Try.prog 83 (some [.nilfn]):=⟨zo83⟩
theorem ty85 : tinfo Try.prog 85 = some ⟨1,false,(some [.nilfn]),.fn,none⟩:=by kernel_rfl
theorem zo85 : zeroOf Try.prog 85 = (some [.nilfn]):=by kernel_rfl
instance : TyT Try.prog 85 ⟨1,false,(some [.nilfn]),.fn,none⟩:=⟨ty85⟩
instance : ZoT Try.prog 85 (some [.nilfn]):=⟨zo85⟩
theorem ty86 : tinfo Try.prog 86 = some ⟨1,false,(some [.nilfn]),.fn,none⟩:=by kernel_rfl
theorem zo86 : zeroOf Try.prog 86 = (some [.nilfn]):=by kernel_rfl
instance : TyT Try.prog 86 ⟨1,false,(some [.nilfn]),.fn,none⟩:=⟨ty86⟩
instance : ZoT Try.prog 86 (some [.nilfn]):=⟨zo86⟩
theorem ty90 : tinfo Try.prog 90 = some ⟨1,false,(some [.nilfn]),.fn,none⟩:=by kernel_rfl
theorem zo90 : zeroOf Try.prog 90 = (some [.nilfn]):=by kernel_rfl
instance : TyT Try.prog 90 ⟨1,false,(some [.nilfn]),.fn,none⟩:=⟨ty90⟩
instance : ZoT Try.prog 90 (some [.nilfn]):=⟨zo90⟩
theorem ty99 : tinfo Try.prog 99 = some ⟨1,false,(some [.nilfn]),.fn,none⟩:=by kernel_rfl
theorem zo99 : zeroOf Try.prog 99 = (some [.nilfn]):=by kernel_rfl
instance : TyT Try.prog 99 ⟨1,false,(some [.nilfn]),.fn,none⟩:=⟨ty99⟩
instance : ZoT Try.prog 99 (some [.nilfn]):=⟨zo99⟩
theorem ty102 : tinfo Try.prog 102 = some ⟨1,false,(some [.nilfn]),.fn,none⟩:=by kernel_rfl
theorem zo102 : zeroOf Try.prog 102 = (some [.nilfn]):=by kernel_rfl
instance : TyT Try.prog 102 ⟨1,false,(some [.nilfn]),.fn,none⟩:=⟨ty102⟩
instance : ZoT Try.prog 102 (some [.nilfn]):=⟨zo102⟩
theorem ty107 : tinfo Try.prog 107 = some ⟨1,false,(some [.nilfn]),.fn,none⟩:=by kernel_rfl
theorem zo107 : zeroOf Try.prog 107 = (some [.nilfn]):=by kernel_rfl
instance : TyT Try.prog 107 ⟨1,false,(some [.nilfn]),.fn,none⟩:=⟨ty107⟩
instance : ZoT Try.prog 107 (some [.nilfn]):=⟨zo107⟩
theorem ty108 : tinfo Try.prog 108 = some ⟨2,true,(some [.int .i64 0,.int .i64 0]),.struct [(0,39,2,true)],(some [(0,.other)])⟩:=by kernel_rfl
theorem zo108 : zeroOf Try.prog 108 = (some [.int .i64 0,.int .i64 0]):=by kernel_rfl
instance : TyT Try.prog 108 ⟨2,true,(some [.int .i64 0,.int .i64 0]),.struct [(0,39,2,true)],(some [(0,.other)])⟩:=⟨ty108⟩
instance : ZoT Try.prog 108 (some [.int .i64 0,.int .i64 0]):=⟨zo108⟩
theorem ty109 : tinfo Try.prog 109 = some ⟨2,true,(some [.int .i64 0,.int .i64 0]),.struct [(0,39,2,true)],(some [(0,.other)])⟩:=by kernel_rfl
theorem zo109 : zeroOf Try.prog 109 = (some [.int .i64 0,.int .i64 0]):=by kernel_rfl
instance : TyT Try.prog 109 ⟨2,true,(some [.int .i64 0,.int .i64 0]),.struct [(0,39,2,true)],(some [(0,.other)])⟩:=⟨ty109⟩
instance : ZoT Try.prog 109 (some [.int .i64 0,.int .i64 0]):=⟨zo109⟩
theorem ty112 : tinfo Try.prog 112 = some ⟨1,false,(some [.nilfn]),.fn,none⟩:=by kernel_rfl
theorem zo112 : zeroOf Try.prog 112 = (some [.nilfn]):=by kernel_rfl
instance : TyT Try.prog 112 ⟨1,false,(some [.nilfn]),.fn,none⟩:=⟨ty112⟩
instance : ZoT Try.prog 112 (some [.nilfn]):=⟨zo112⟩
theorem ty113 : tinfo Try.prog 113 = some ⟨1,false,(some [.nilfn]),.fn,none⟩:=by kernel_rfl
theorem zo113 : zeroOf Try.prog 113 = (some [.nilfn]):=by kernel_rfl
instance : TyT Try.prog 113 ⟨1,false,(some [.nilfn]),.fn,none⟩:=⟨ty113⟩
instance : ZoT Try.prog 113 (some [.nilfn]):=⟨zo113⟩
theorem ty114 : tinfo Try.prog 114 = some ⟨1,false,(some [.nilfn]),.fn,none⟩:=by kernel_rfl
theorem zo114 : zeroOf Try.prog 114 = (some [.nilfn]):=by kernel_rfl
instance : TyT Try.prog 114 ⟨1,false,(some [.nilfn]),.fn,none⟩:=⟨ty114⟩
instance : ZoT Try.prog 114 (some [.nilfn]):=⟨zo114⟩
theorem ty115 : tinfo Try.prog 115 = some ⟨1,false,(some [.nilfn]),.fn,none⟩:=by kernel_rfl
theorem zo115 : zeroOf Try.prog 115 = (some [.nilfn]):=by kernel_rfl
instance : TyT Try.prog 115 ⟨1,false,(some [.nilfn]),.fn,none⟩:=⟨ty115⟩
instance : ZoT Try.prog 115 (some [.nilfn]):=⟨zo115⟩
theorem ty118 : tinfo Try.prog 118 = some ⟨1,false,(some [.nilptr]),.pointer,none⟩:=by kernel_rfl
theorem zo118 : zeroOf Try.prog 118 = (some [.nilptr]):=by kernel_rfl
instance : TyT Try.prog 118 ⟨1,false,(some [.nilptr]),.pointer,none⟩:=⟨ty118⟩
instance : ZoT Try.prog 118 (some [.nilptr]):=⟨zo118⟩
theorem ty119 : tinfo Try.prog 119 = some ⟨2,true,(some [.str ⟨#[]⟩,.int .i64 0]),.struct [(0,9,1,false),(1,3,1,false)],(some [(0,.string),(1,.int .i64)])⟩:=by kernel_rfl
theorem zo119 : zeroOf Try.prog 119 = (some [.str ⟨#[]⟩,.int .i64 0]):=by kernel_rfl
instance : TyT Try.prog 119 ⟨2,true,(some [.str ⟨#[]⟩,.int .i64 0]),.struct [(0,9,1,false),(1,3,1,false)],(some [(0,.string),(1,.int .i64)])⟩:=⟨ty119⟩
instance : ZoT Try.prog 119 (some [.str ⟨#[]⟩,.int .i64 0]):=⟨zo119⟩
theorem ty120 : tinfo Try.prog 120 = some ⟨2,true,(some [.str ⟨#[]⟩,.int .i64 0]),.struct [(0,9,1,false),(1,3,1,false)],(some [(0,.string),(1,.int .i64)])⟩:=by kernel_rfl
theorem zo120 : zeroOf Try.prog 120 = (some [.str ⟨#[]⟩,.int .i64 0]):=by kernel_rfl
instance : TyT Try.prog 120 ⟨2,true,(some [.str ⟨#[]⟩,.int .i64 0]),.struct [(0,9,1,false),(1,3,1,false)],(some [(0,.string),(1,.int .i64)])⟩:=⟨ty120⟩
instance : ZoT Try.prog 120 (some [.str ⟨#[]⟩,.int .i64 0]):=⟨zo120⟩
theorem ty121 : tinfo Try.prog 121 = some ⟨1,false,(some [.nilfn]),.fn,none⟩:=by kernel_rfl
theorem zo121 : zeroOf Try.prog 121 = (some [.nilfn]):=by kernel_rfl
instance : TyT Try.prog 121 ⟨1,false,(some [.nilfn]),.fn,none⟩:=⟨ty121⟩
instance : ZoT Try.prog 121 (some [.nilfn]):=⟨zo121⟩
theorem ty122 : tinfo Try.prog 122 = some ⟨1,false,(some [.nilfn]),.fn,none⟩:=by kernel_rfl
theorem zo122 : zeroOf Try.prog 122 = (some [.nilfn]):=by kernel_rfl
instance : TyT Try.prog 122 ⟨1,false,(some [.nilfn]),.fn,none⟩:=⟨ty122⟩
instance : ZoT Try.prog 122 (some [.nilfn]):=⟨zo122⟩
theorem ty124 : tinfo Try.prog 124 = some ⟨1,false,(some [.nilfn]),.fn,none⟩:=by kernel_rfl
theorem zo124 : zeroOf Try.prog 124 = (some [.nilfn]):=by kernel_rfl
instance : TyT Try.prog 124 ⟨1,false,(some [.nilfn]),.fn,none⟩:=⟨ty124⟩
instance : ZoT Try.prog 124 (some [.nilfn]):=⟨zo124⟩
theorem ty126 : tinfo Try.prog 126 = some ⟨1,false,(some [.int .u64 0]),.int .u64,none⟩:=by kernel_rfl
theorem zo126 : zeroOf Try.prog 126 = (some [.int .u64 0]):=by kernel_rfl
instance : TyT Try.prog 126 ⟨1,false,(some [.int .u64 0]),.int .u64,none⟩:=⟨ty126⟩
instance : ZoT Try.prog 126 (some [.int .u64 0]):=⟨zo126⟩
theorem zv3 : zvOf Try.prog 3 = some (.int .i64 0):=by kernel_rfl
instance : ZvT Try.prog 3 (.int .i64 0):=⟨zv3⟩
theorem zv31 : zvOf Try.prog 31 = some (.agg [.str ⟨#[]⟩,.nilsl]):=by kernel_rfl
instance : ZvT Try.prog 31 (.agg [.str ⟨#[]⟩,.nilsl]):=⟨zv31⟩
theorem zv57 : zvOf Try.prog 57 = some (.agg [.str ⟨#[]⟩,.int .i64 0,.nilsl]):=by kernel_rfl
instance : ZvT Try.prog 57 (.agg [.str ⟨#[]⟩,.int .i64 0,.nilsl]):=⟨zv57⟩
theorem zv61 : zvOf Try.prog 61 = some (.agg [.str ⟨#[]⟩,.int .i64 0,.nilsl]):=by kernel_rfl
instance : ZvT Try.prog 61 (.agg [.str ⟨#[]⟩,.int .i64 0,.nilsl]):=⟨zv61⟩
theorem mixed : Try.prog.follows .mixedOrders = true:=by kernel_rfl
instance : MixT Try.prog:=⟨mixed⟩
theorem en3 : Enters Try.prog 3:=Try.call3
instance : EnT Try.prog 3:=⟨en3⟩
theorem en4 : Enters Try.prog 4:=Try.call4
instance : EnT Try.prog 4:=⟨en4⟩
theorem en6 : Enters Try.prog 6:=Try.call6
instance : EnT Try.prog 6:=⟨en6⟩
theorem en7 : Enters Try.prog 7:=Try.call7
instance : EnT Try.prog 7:=⟨en7⟩
theorem en9 : Enters Try.prog 9:=Try.call9
instance : EnT Try.prog 9:=⟨en9⟩
theorem en10 : Enters Try.prog 10:=Try.call10
instance : EnT Try.prog 10:=⟨en10⟩
theorem en13 : Enters Try.prog 13:=Try.call13
instance : EnT Try.prog 13:=⟨en13⟩
theorem en14 : Enters Try.prog 14:=Try.call14
instance : EnT Try.prog 14:=⟨en14⟩
theorem en15 : Enters Try.prog 15:=Try.call15
instance : EnT Try.prog 15:=⟨en15⟩
theorem en16 : Enters Try.prog 16:=Try.call16
instance : EnT Try.prog 16:=⟨en16⟩
theorem en17 : Enters Try.prog 17:=Try.call17
instance : EnT Try.prog 17:=⟨en17⟩
theorem en19 : Enters Try.prog 19:=Try.call19
instance : EnT Try.prog 19:=⟨en19⟩
theorem en20 : Enters Try.prog 20:=Try.call20
instance : EnT Try.prog 20:=⟨en20⟩
theorem en23 : Enters Try.prog 23:=Try.call23
instance : EnT Try.prog 23:=⟨en23⟩
theorem en24 : Enters Try.prog 24:=Try.call24
instance : EnT Try.prog 24:=⟨en24⟩
theorem en25 : Enters Try.prog 25:=Try.call25
instance : EnT Try.prog 25:=⟨en25⟩
theorem en26 : Enters Try.prog 26:=Try.call26
instance : EnT Try.prog 26:=⟨en26⟩
theorem en27 : Enters Try.prog 27:=Try.call27
instance : EnT Try.prog 27:=⟨en27⟩
theorem en28 : Enters Try.prog 28:=Try.call28
instance : EnT Try.prog 28:=⟨en28⟩
theorem en29 : Enters Try.prog 29:=Try.call29
instance : EnT Try.prog 29:=⟨en29⟩
theorem en31 : Enters Try.prog 31:=Try.call31
instance : EnT Try.prog 31:=⟨en31⟩
theorem en36 : Enters Try.prog 36:=Try.call36
instance : EnT Try.prog 36:=⟨en36⟩
theorem en37 : Enters Try.prog 37:=Try.call37
instance : EnT Try.prog 37:=⟨en37⟩
theorem en38 : Enters Try.prog 38:=Try.call38
instance : EnT Try.prog 38:=⟨en38⟩
theorem en39 : Enters Try.prog 39:=Try.call39
instance : EnT Try.prog 39:=⟨en39⟩
theorem en40 : Enters Try.prog 40:=Try.call40
instance : EnT Try.prog 40:=⟨en40⟩
theorem en41 : Enters Try.prog 41:=Try.call41
instance : EnT Try.prog 41:=⟨en41⟩
theorem en42 : Enters Try.prog 42:=Try.call42
instance : EnT Try.prog 42:=⟨en42⟩
theorem en43 : Enters Try.prog 43:=Try.call43
instance : EnT Try.prog 43:=⟨en43⟩
theorem en44 : Enters Try.prog 44:=Try.call44
instance : EnT Try.prog 44:=⟨en44⟩
theorem en45 : Enters Try.prog 45:=Try.call45
instance : EnT Try.prog 45:=⟨en45⟩
theorem en46 : Enters Try.prog 46:=Try.call46
instance : EnT Try.prog 46:=⟨en46⟩
theorem en47 : Enters Try.prog 47:=Try.call47
instance : EnT Try.prog 47:=⟨en47⟩
theorem en53 : Enters Try.prog 53:=Try.call53
instance : EnT Try.prog 53:=⟨en53⟩
theorem en55 : Enters Try.prog 55:=Try.call55
instance : EnT Try.prog 55:=⟨en55⟩
theorem en58 : Enters Try.prog 58:=Try.call58
instance : EnT Try.prog 58:=⟨en58⟩
theorem en59 : Enters Try.prog 59:=Try.call59
instance : EnT Try.prog 59:=⟨en59⟩
theorem en60 : Enters Try.prog 60:=Try.call60
instance : EnT Try.prog 60:=⟨en60⟩
theorem en61 : Enters Try.prog 61:=Try.call61
instance : EnT Try.prog 61:=⟨en61⟩
theorem en62 : Enters Try.prog 62:=Try.call62
instance : EnT Try.prog 62:=⟨en62⟩
theorem en63 : Enters Try.prog 63:=Try.call63
instance : EnT Try.prog 63:=⟨en63⟩
theorem en64 : Enters Try.prog 64:=Try.call64
instance : EnT Try.prog 64:=⟨en64⟩
theorem en65 : Enters Try.prog 65:=Try.call65
instance : EnT Try.prog 65:=⟨en65⟩
theorem en66 : Enters Try.prog 66:=Try.call66
instance : EnT Try.prog 66:=⟨en66⟩
theorem en67 : Enters Try.prog 67:=Try.call67
instance : EnT Try.prog 67:=⟨en67⟩
theorem en68 : Enters Try.prog 68:=Try.call68
instance : EnT Try.prog 68:=⟨en68⟩
theorem en69 : Enters Try.prog 69:=Try.call69
instance : EnT Try.prog 69:=⟨en69⟩
theorem en72 : Enters Try.prog 72:=Try.call72
instance : EnT Try.prog 72:=⟨en72⟩
theorem en73 : Enters Try.prog 73:=Try.call73
instance : EnT Try.prog 73:=⟨en73⟩
theorem en74 : Enters Try.prog 74:=Try.call74
instance : EnT Try.prog 74:=⟨en74⟩
theorem en75 : Enters Try.prog 75:=Try.call75
instance : EnT Try.prog 75:=⟨en75⟩
theorem en76 : Enters Try.prog 76:=Try.call76
instance : EnT Try.prog 76:=⟨en76⟩
theorem en77 : Enters Try.prog 77:=Try.call77
instance : EnT Try.prog 77:=⟨en77⟩
theorem en78 : Enters Try.prog 78:=Try.call78
instance : EnT Try.prog 78:=⟨en78⟩
theorem en81 : Enters Try.prog 81:=Try.call81
instance : EnT Try.prog 81:=⟨en81⟩
theorem en82 : Enters Try.prog 82:=Try.call82
instance : EnT Try.prog 82:=⟨en82⟩
theorem en83 : Enters Try.prog 83:=Try.call83
instance : EnT Try.prog 83:=⟨en83⟩
theorem en84 : Enters Try.prog 84:=Try.call84
instance : EnT Try.prog 84:=⟨en84⟩
theorem en85 : Enters Try.prog 85:=Try.call85
instance : EnT Try.prog 85:=⟨en85⟩
theorem en86 : Enters Try.prog 86:=Try.call86
instance : EnT Try.prog 86:=⟨en86⟩
theorem en98 : Enters Try.prog 98:=Try.call98
instance : EnT Try.prog 98:=⟨en98⟩
theorem en99 : Enters Try.prog 99:=Try.call99
instance : EnT Try.prog 99:=⟨en99⟩
theorem en100 : Enters Try.prog 100:=Try.call100
instance : EnT Try.prog 100:=⟨en100⟩
theorem en107 : Enters Try.prog 107:=Try.call107
instance : EnT Try.prog 107:=⟨en107⟩
theorem en108 : Enters Try.prog 108:=Try.call108
instance : EnT Try.prog 108:=⟨en108⟩
theorem en109 : Enters Try.prog 109:=Try.call109
instance : EnT Try.prog 109:=⟨en109⟩
theorem en113 : Enters Try.prog 113:=Try.call113
instance : EnT Try.prog 113:=⟨en113⟩
theorem en114 : Enters Try.prog 114:=Try.call114
instance : EnT Try.prog 114:=⟨en114⟩
theorem en115 : Enters Try.prog 115:=Try.call115
instance : EnT Try.prog 115:=⟨en115⟩
theorem en118 : Enters Try.prog 118:=Try.call118
instance : EnT Try.prog 118:=⟨en118⟩
theorem en119 : Enters Try.prog 119:=Try.call119
instance : EnT Try.prog 119:=⟨en119⟩
end Go.Proofs.Ytbimioonhfhflaa
