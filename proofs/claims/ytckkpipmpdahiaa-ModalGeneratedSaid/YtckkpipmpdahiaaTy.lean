/-
  Facts on the types and functions of this translation, laid by a program.
-/
import Derived.Test.YtckkpipmpdahiaaPvData
import Derived.Test.YtckkpipmpdahiaaChecked
namespace Go.Proofs.Ytckkpipmpdahiaa
open Go Go.Pv

theorem ty2 : tinfo Try.prog 2 = some ⟨1, false, (some [.int .i64 0]), .int .i64, none⟩ := by kernel_rfl
theorem zo2 : zeroOf Try.prog 2 = (some [.int .i64 0]) := by kernel_rfl
instance : TyT Try.prog 2 ⟨1, false, (some [.int .i64 0]), .int .i64, none⟩ := ⟨ty2⟩
instance : ZoT Try.prog 2 (some [.int .i64 0]) := ⟨zo2⟩
theorem ty3 : tinfo Try.prog 3 = some ⟨1, false, (some [.int .i64 0]), .int .i64, none⟩ := by kernel_rfl
theorem zo3 : zeroOf Try.prog 3 = (some [.int .i64 0]) := by kernel_rfl
instance : TyT Try.prog 3 ⟨1, false, (some [.int .i64 0]), .int .i64, none⟩ := ⟨ty3⟩
instance : ZoT Try.prog 3 (some [.int .i64 0]) := ⟨zo3⟩
theorem ty4 : tinfo Try.prog 4 = some ⟨1, false, (some [.bool false]), .bool, none⟩ := by kernel_rfl
theorem zo4 : zeroOf Try.prog 4 = (some [.bool false]) := by kernel_rfl
instance : TyT Try.prog 4 ⟨1, false, (some [.bool false]), .bool, none⟩ := ⟨ty4⟩
instance : ZoT Try.prog 4 (some [.bool false]) := ⟨zo4⟩
theorem ty5 : tinfo Try.prog 5 = some ⟨1, false, (some [.int .u8 0]), .int .u8, none⟩ := by kernel_rfl
theorem zo5 : zeroOf Try.prog 5 = (some [.int .u8 0]) := by kernel_rfl
instance : TyT Try.prog 5 ⟨1, false, (some [.int .u8 0]), .int .u8, none⟩ := ⟨ty5⟩
instance : ZoT Try.prog 5 (some [.int .u8 0]) := ⟨zo5⟩
theorem ty9 : tinfo Try.prog 9 = some ⟨1, false, (some [.str ⟨#[]⟩]), .string, none⟩ := by kernel_rfl
theorem zo9 : zeroOf Try.prog 9 = (some [.str ⟨#[]⟩]) := by kernel_rfl
instance : TyT Try.prog 9 ⟨1, false, (some [.str ⟨#[]⟩]), .string, none⟩ := ⟨ty9⟩
instance : ZoT Try.prog 9 (some [.str ⟨#[]⟩]) := ⟨zo9⟩
theorem ty12 : tinfo Try.prog 12 = some ⟨1, false, (some [.int .u64 0]), .int .u64, none⟩ := by kernel_rfl
theorem zo12 : zeroOf Try.prog 12 = (some [.int .u64 0]) := by kernel_rfl
instance : TyT Try.prog 12 ⟨1, false, (some [.int .u64 0]), .int .u64, none⟩ := ⟨ty12⟩
instance : ZoT Try.prog 12 (some [.int .u64 0]) := ⟨zo12⟩
theorem ty21 : tinfo Try.prog 21 = some ⟨1, false, (some [.int .i32 0]), .int .i32, none⟩ := by kernel_rfl
theorem zo21 : zeroOf Try.prog 21 = (some [.int .i32 0]) := by kernel_rfl
instance : TyT Try.prog 21 ⟨1, false, (some [.int .i32 0]), .int .i32, none⟩ := ⟨ty21⟩
instance : ZoT Try.prog 21 (some [.int .i32 0]) := ⟨zo21⟩
theorem ty22 : tinfo Try.prog 22 = some ⟨1, false, (some [.nilsl]), .slice 71 2 16 true (some [.int .i64 0, .int .i64 0]), none⟩ := by kernel_rfl
theorem zo22 : zeroOf Try.prog 22 = (some [.nilsl]) := by kernel_rfl
instance : TyT Try.prog 22 ⟨1, false, (some [.nilsl]), .slice 71 2 16 true (some [.int .i64 0, .int .i64 0]), none⟩ := ⟨ty22⟩
instance : ZoT Try.prog 22 (some [.nilsl]) := ⟨zo22⟩
theorem ty23 : tinfo Try.prog 23 = some ⟨1, false, (some [.nilsl]), .slice 56 1 24 false (some [.nilsl]), none⟩ := by kernel_rfl
theorem zo23 : zeroOf Try.prog 23 = (some [.nilsl]) := by kernel_rfl
instance : TyT Try.prog 23 ⟨1, false, (some [.nilsl]), .slice 56 1 24 false (some [.nilsl]), none⟩ := ⟨ty23⟩
instance : ZoT Try.prog 23 (some [.nilsl]) := ⟨zo23⟩
theorem ty24 : tinfo Try.prog 24 = some ⟨3, true, (some [.int .i64 0, .nilsl, .nilsl]), .struct [(0, 3, 1, false), (1, 22, 1, false), (2, 23, 1, false)], (some [(0, .int .i64), (1, .other), (2, .other)])⟩ := by kernel_rfl
theorem zo24 : zeroOf Try.prog 24 = (some [.int .i64 0, .nilsl, .nilsl]) := by kernel_rfl
instance : TyT Try.prog 24 ⟨3, true, (some [.int .i64 0, .nilsl, .nilsl]), .struct [(0, 3, 1, false), (1, 22, 1, false), (2, 23, 1, false)], (some [(0, .int .i64), (1, .other), (2, .other)])⟩ := ⟨ty24⟩
instance : ZoT Try.prog 24 (some [.int .i64 0, .nilsl, .nilsl]) := ⟨zo24⟩
theorem ty25 : tinfo Try.prog 25 = some ⟨3, true, (some [.int .i64 0, .nilsl, .nilsl]), .struct [(0, 3, 1, false), (1, 22, 1, false), (2, 23, 1, false)], (some [(0, .int .i64), (1, .other), (2, .other)])⟩ := by kernel_rfl
theorem zo25 : zeroOf Try.prog 25 = (some [.int .i64 0, .nilsl, .nilsl]) := by kernel_rfl
instance : TyT Try.prog 25 ⟨3, true, (some [.int .i64 0, .nilsl, .nilsl]), .struct [(0, 3, 1, false), (1, 22, 1, false), (2, 23, 1, false)], (some [(0, .int .i64), (1, .other), (2, .other)])⟩ := ⟨ty25⟩
instance : ZoT Try.prog 25 (some [.int .i64 0, .nilsl, .nilsl]) := ⟨zo25⟩
theorem ty26 : tinfo Try.prog 26 = some ⟨1, false, (some [.nilsl]), .slice 28 3 48 true (some [.int .i64 0, .str ⟨#[]⟩, .nilsl]), none⟩ := by kernel_rfl
theorem zo26 : zeroOf Try.prog 26 = (some [.nilsl]) := by kernel_rfl
instance : TyT Try.prog 26 ⟨1, false, (some [.nilsl]), .slice 28 3 48 true (some [.int .i64 0, .str ⟨#[]⟩, .nilsl]), none⟩ := ⟨ty26⟩
instance : ZoT Try.prog 26 (some [.nilsl]) := ⟨zo26⟩
theorem ty27 : tinfo Try.prog 27 = some ⟨3, true, (some [.int .i64 0, .str ⟨#[]⟩, .nilsl]), .struct [(0, 3, 1, false), (1, 9, 1, false), (2, 26, 1, false)], (some [(0, .int .i64), (1, .string), (2, .other)])⟩ := by kernel_rfl
theorem zo27 : zeroOf Try.prog 27 = (some [.int .i64 0, .str ⟨#[]⟩, .nilsl]) := by kernel_rfl
instance : TyT Try.prog 27 ⟨3, true, (some [.int .i64 0, .str ⟨#[]⟩, .nilsl]), .struct [(0, 3, 1, false), (1, 9, 1, false), (2, 26, 1, false)], (some [(0, .int .i64), (1, .string), (2, .other)])⟩ := ⟨ty27⟩
instance : ZoT Try.prog 27 (some [.int .i64 0, .str ⟨#[]⟩, .nilsl]) := ⟨zo27⟩
theorem ty28 : tinfo Try.prog 28 = some ⟨3, true, (some [.int .i64 0, .str ⟨#[]⟩, .nilsl]), .struct [(0, 3, 1, false), (1, 9, 1, false), (2, 26, 1, false)], (some [(0, .int .i64), (1, .string), (2, .other)])⟩ := by kernel_rfl
theorem zo28 : zeroOf Try.prog 28 = (some [.int .i64 0, .str ⟨#[]⟩, .nilsl]) := by kernel_rfl
instance : TyT Try.prog 28 ⟨3, true, (some [.int .i64 0, .str ⟨#[]⟩, .nilsl]), .struct [(0, 3, 1, false), (1, 9, 1, false), (2, 26, 1, false)], (some [(0, .int .i64), (1, .string), (2, .other)])⟩ := ⟨ty28⟩
instance : ZoT Try.prog 28 (some [.int .i64 0, .str ⟨#[]⟩, .nilsl]) := ⟨zo28⟩
theorem ty32 : tinfo Try.prog 32 = some ⟨1, false, (some [.nilsl]), .slice 4 1 1 false (some [.bool false]), none⟩ := by kernel_rfl
theorem zo32 : zeroOf Try.prog 32 = (some [.nilsl]) := by kernel_rfl
instance : TyT Try.prog 32 ⟨1, false, (some [.nilsl]), .slice 4 1 1 false (some [.bool false]), none⟩ := ⟨ty32⟩
instance : ZoT Try.prog 32 (some [.nilsl]) := ⟨zo32⟩
theorem ty33 : tinfo Try.prog 33 = some ⟨2, true, (some [.int .i64 0, .int .i64 0]), .struct [(0, 3, 1, false), (1, 3, 1, false)], (some [(0, .int .i64), (1, .int .i64)])⟩ := by kernel_rfl
theorem zo33 : zeroOf Try.prog 33 = (some [.int .i64 0, .int .i64 0]) := by kernel_rfl
instance : TyT Try.prog 33 ⟨2, true, (some [.int .i64 0, .int .i64 0]), .struct [(0, 3, 1, false), (1, 3, 1, false)], (some [(0, .int .i64), (1, .int .i64)])⟩ := ⟨ty33⟩
instance : ZoT Try.prog 33 (some [.int .i64 0, .int .i64 0]) := ⟨zo33⟩
theorem ty34 : tinfo Try.prog 34 = some ⟨2, true, (some [.int .i64 0, .int .i64 0]), .struct [(0, 3, 1, false), (1, 3, 1, false)], (some [(0, .int .i64), (1, .int .i64)])⟩ := by kernel_rfl
theorem zo34 : zeroOf Try.prog 34 = (some [.int .i64 0, .int .i64 0]) := by kernel_rfl
instance : TyT Try.prog 34 ⟨2, true, (some [.int .i64 0, .int .i64 0]), .struct [(0, 3, 1, false), (1, 3, 1, false)], (some [(0, .int .i64), (1, .int .i64)])⟩ := ⟨ty34⟩
instance : ZoT Try.prog 34 (some [.int .i64 0, .int .i64 0]) := ⟨zo34⟩
theorem ty41 : tinfo Try.prog 41 = some ⟨1, false, (some [.nilsl]), .slice 3 1 8 false (some [.int .i64 0]), none⟩ := by kernel_rfl
theorem zo41 : zeroOf Try.prog 41 = (some [.nilsl]) := by kernel_rfl
instance : TyT Try.prog 41 ⟨1, false, (some [.nilsl]), .slice 3 1 8 false (some [.int .i64 0]), none⟩ := ⟨ty41⟩
instance : ZoT Try.prog 41 (some [.nilsl]) := ⟨zo41⟩
theorem ty48 : tinfo Try.prog 48 = some ⟨6, true, (some [.bool false, .bool false, .bool false, .bool false, .bool false, .bool false]), .array 6 4 1 false, none⟩ := by kernel_rfl
theorem zo48 : zeroOf Try.prog 48 = (some [.bool false, .bool false, .bool false, .bool false, .bool false, .bool false]) := by kernel_rfl
instance : TyT Try.prog 48 ⟨6, true, (some [.bool false, .bool false, .bool false, .bool false, .bool false, .bool false]), .array 6 4 1 false, none⟩ := ⟨ty48⟩
instance : ZoT Try.prog 48 (some [.bool false, .bool false, .bool false, .bool false, .bool false, .bool false]) := ⟨zo48⟩
theorem ty56 : tinfo Try.prog 56 = some ⟨1, false, (some [.nilsl]), .slice 9 1 16 false (some [.str ⟨#[]⟩]), none⟩ := by kernel_rfl
theorem zo56 : zeroOf Try.prog 56 = (some [.nilsl]) := by kernel_rfl
instance : TyT Try.prog 56 ⟨1, false, (some [.nilsl]), .slice 9 1 16 false (some [.str ⟨#[]⟩]), none⟩ := ⟨ty56⟩
instance : ZoT Try.prog 56 (some [.nilsl]) := ⟨zo56⟩
theorem ty63 : tinfo Try.prog 63 = some ⟨1, false, (some [.nilsl]), .slice 32 1 24 false (some [.nilsl]), none⟩ := by kernel_rfl
theorem zo63 : zeroOf Try.prog 63 = (some [.nilsl]) := by kernel_rfl
instance : TyT Try.prog 63 ⟨1, false, (some [.nilsl]), .slice 32 1 24 false (some [.nilsl]), none⟩ := ⟨ty63⟩
instance : ZoT Try.prog 63 (some [.nilsl]) := ⟨zo63⟩
theorem ty64 : tinfo Try.prog 64 = some ⟨1, false, (some [.nilsl]), .slice 32 1 24 false (some [.nilsl]), none⟩ := by kernel_rfl
theorem zo64 : zeroOf Try.prog 64 = (some [.nilsl]) := by kernel_rfl
instance : TyT Try.prog 64 ⟨1, false, (some [.nilsl]), .slice 32 1 24 false (some [.nilsl]), none⟩ := ⟨ty64⟩
instance : ZoT Try.prog 64 (some [.nilsl]) := ⟨zo64⟩
theorem ty69 : tinfo Try.prog 69 = some ⟨1, false, (some [.nilsl]), .slice 41 1 24 false (some [.nilsl]), none⟩ := by kernel_rfl
theorem zo69 : zeroOf Try.prog 69 = (some [.nilsl]) := by kernel_rfl
instance : TyT Try.prog 69 ⟨1, false, (some [.nilsl]), .slice 41 1 24 false (some [.nilsl]), none⟩ := ⟨ty69⟩
instance : ZoT Try.prog 69 (some [.nilsl]) := ⟨zo69⟩
theorem ty71 : tinfo Try.prog 71 = some ⟨2, true, (some [.int .i64 0, .int .i64 0]), .array 2 3 1 false, none⟩ := by kernel_rfl
theorem zo71 : zeroOf Try.prog 71 = (some [.int .i64 0, .int .i64 0]) := by kernel_rfl
instance : TyT Try.prog 71 ⟨2, true, (some [.int .i64 0, .int .i64 0]), .array 2 3 1 false, none⟩ := ⟨ty71⟩
instance : ZoT Try.prog 71 (some [.int .i64 0, .int .i64 0]) := ⟨zo71⟩
theorem ty83 : tinfo Try.prog 83 = some ⟨2, true, (some [.nilsl, .nilsl]), .array 2 32 1 false, none⟩ := by kernel_rfl
theorem zo83 : zeroOf Try.prog 83 = (some [.nilsl, .nilsl]) := by kernel_rfl
instance : TyT Try.prog 83 ⟨2, true, (some [.nilsl, .nilsl]), .array 2 32 1 false, none⟩ := ⟨ty83⟩
instance : ZoT Try.prog 83 (some [.nilsl, .nilsl]) := ⟨zo83⟩
theorem ty89 : tinfo Try.prog 89 = some ⟨1, false, (some [.int .u64 0]), .int .u64, none⟩ := by kernel_rfl
theorem zo89 : zeroOf Try.prog 89 = (some [.int .u64 0]) := by kernel_rfl
instance : TyT Try.prog 89 ⟨1, false, (some [.int .u64 0]), .int .u64, none⟩ := ⟨ty89⟩
instance : ZoT Try.prog 89 (some [.int .u64 0]) := ⟨zo89⟩
theorem ty91 : tinfo Try.prog 91 = some ⟨1, false, (some [.int .i64 0]), .int .i64, none⟩ := by kernel_rfl
theorem zo91 : zeroOf Try.prog 91 = (some [.int .i64 0]) := by kernel_rfl
instance : TyT Try.prog 91 ⟨1, false, (some [.int .i64 0]), .int .i64, none⟩ := ⟨ty91⟩
instance : ZoT Try.prog 91 (some [.int .i64 0]) := ⟨zo91⟩
theorem ty100 : tinfo Try.prog 100 = some ⟨1, false, (some [.int .u32 0]), .int .u32, none⟩ := by kernel_rfl
theorem zo100 : zeroOf Try.prog 100 = (some [.int .u32 0]) := by kernel_rfl
instance : TyT Try.prog 100 ⟨1, false, (some [.int .u32 0]), .int .u32, none⟩ := ⟨ty100⟩
instance : ZoT Try.prog 100 (some [.int .u32 0]) := ⟨zo100⟩
theorem ty102 : tinfo Try.prog 102 = some ⟨1, false, (some [.int .u64 0]), .int .u64, none⟩ := by kernel_rfl
theorem zo102 : zeroOf Try.prog 102 = (some [.int .u64 0]) := by kernel_rfl
instance : TyT Try.prog 102 ⟨1, false, (some [.int .u64 0]), .int .u64, none⟩ := ⟨ty102⟩
instance : ZoT Try.prog 102 (some [.int .u64 0]) := ⟨zo102⟩
theorem ty103 : tinfo Try.prog 103 = some ⟨1, false, (some [.int .u64 0]), .int .u64, none⟩ := by kernel_rfl
theorem zo103 : zeroOf Try.prog 103 = (some [.int .u64 0]) := by kernel_rfl
instance : TyT Try.prog 103 ⟨1, false, (some [.int .u64 0]), .int .u64, none⟩ := ⟨ty103⟩
instance : ZoT Try.prog 103 (some [.int .u64 0]) := ⟨zo103⟩
theorem ty107 : tinfo Try.prog 107 = some ⟨1, false, (some [.nilptr]), .pointer, none⟩ := by kernel_rfl
theorem zo107 : zeroOf Try.prog 107 = (some [.nilptr]) := by kernel_rfl
instance : TyT Try.prog 107 ⟨1, false, (some [.nilptr]), .pointer, none⟩ := ⟨ty107⟩
instance : ZoT Try.prog 107 (some [.nilptr]) := ⟨zo107⟩
theorem ty109 : tinfo Try.prog 109 = some ⟨1, false, (some [.nilptr]), .pointer, none⟩ := by kernel_rfl
theorem zo109 : zeroOf Try.prog 109 = (some [.nilptr]) := by kernel_rfl
instance : TyT Try.prog 109 ⟨1, false, (some [.nilptr]), .pointer, none⟩ := ⟨ty109⟩
instance : ZoT Try.prog 109 (some [.nilptr]) := ⟨zo109⟩
theorem ty122 : tinfo Try.prog 122 = some ⟨1, false, (some [.nilptr]), .pointer, none⟩ := by kernel_rfl
theorem zo122 : zeroOf Try.prog 122 = (some [.nilptr]) := by kernel_rfl
instance : TyT Try.prog 122 ⟨1, false, (some [.nilptr]), .pointer, none⟩ := ⟨ty122⟩
instance : ZoT Try.prog 122 (some [.nilptr]) := ⟨zo122⟩

theorem mixed : Try.prog.follows .mixedOrders = true := by kernel_rfl
theorem en3 : Enters Try.prog 3 := Try.call3
instance : EnT Try.prog 3 := ⟨en3⟩
theorem en4 : Enters Try.prog 4 := Try.call4
instance : EnT Try.prog 4 := ⟨en4⟩
theorem en5 : Enters Try.prog 5 := Try.call5
instance : EnT Try.prog 5 := ⟨en5⟩
theorem en6 : Enters Try.prog 6 := Try.call6
instance : EnT Try.prog 6 := ⟨en6⟩
theorem en7 : Enters Try.prog 7 := Try.call7
instance : EnT Try.prog 7 := ⟨en7⟩
theorem en8 : Enters Try.prog 8 := Try.call8
instance : EnT Try.prog 8 := ⟨en8⟩
theorem en9 : Enters Try.prog 9 := Try.call9
instance : EnT Try.prog 9 := ⟨en9⟩
theorem en10 : Enters Try.prog 10 := Try.call10
instance : EnT Try.prog 10 := ⟨en10⟩
theorem en11 : Enters Try.prog 11 := Try.call11
instance : EnT Try.prog 11 := ⟨en11⟩
theorem en12 : Enters Try.prog 12 := Try.call12
instance : EnT Try.prog 12 := ⟨en12⟩
theorem en13 : Enters Try.prog 13 := Try.call13
instance : EnT Try.prog 13 := ⟨en13⟩
theorem en14 : Enters Try.prog 14 := Try.call14
instance : EnT Try.prog 14 := ⟨en14⟩
theorem en15 : Enters Try.prog 15 := Try.call15
instance : EnT Try.prog 15 := ⟨en15⟩
theorem en16 : Enters Try.prog 16 := Try.call16
instance : EnT Try.prog 16 := ⟨en16⟩
theorem en17 : Enters Try.prog 17 := Try.call17
instance : EnT Try.prog 17 := ⟨en17⟩
theorem en18 : Enters Try.prog 18 := Try.call18
instance : EnT Try.prog 18 := ⟨en18⟩
theorem en19 : Enters Try.prog 19 := Try.call19
instance : EnT Try.prog 19 := ⟨en19⟩
theorem en20 : Enters Try.prog 20 := Try.call20
instance : EnT Try.prog 20 := ⟨en20⟩
theorem en21 : Enters Try.prog 21 := Try.call21
instance : EnT Try.prog 21 := ⟨en21⟩
theorem en22 : Enters Try.prog 22 := Try.call22
instance : EnT Try.prog 22 := ⟨en22⟩
theorem en23 : Enters Try.prog 23 := Try.call23
instance : EnT Try.prog 23 := ⟨en23⟩
theorem en24 : Enters Try.prog 24 := Try.call24
instance : EnT Try.prog 24 := ⟨en24⟩
theorem en25 : Enters Try.prog 25 := Try.call25
instance : EnT Try.prog 25 := ⟨en25⟩
theorem en26 : Enters Try.prog 26 := Try.call26
instance : EnT Try.prog 26 := ⟨en26⟩
theorem en27 : Enters Try.prog 27 := Try.call27
instance : EnT Try.prog 27 := ⟨en27⟩
theorem en28 : Enters Try.prog 28 := Try.call28
instance : EnT Try.prog 28 := ⟨en28⟩
theorem en29 : Enters Try.prog 29 := Try.call29
instance : EnT Try.prog 29 := ⟨en29⟩
theorem en30 : Enters Try.prog 30 := Try.call30
instance : EnT Try.prog 30 := ⟨en30⟩
theorem en31 : Enters Try.prog 31 := Try.call31
instance : EnT Try.prog 31 := ⟨en31⟩
theorem en32 : Enters Try.prog 32 := Try.call32
instance : EnT Try.prog 32 := ⟨en32⟩
theorem en33 : Enters Try.prog 33 := Try.call33
instance : EnT Try.prog 33 := ⟨en33⟩
theorem en34 : Enters Try.prog 34 := Try.call34
instance : EnT Try.prog 34 := ⟨en34⟩
theorem en35 : Enters Try.prog 35 := Try.call35
instance : EnT Try.prog 35 := ⟨en35⟩
theorem en36 : Enters Try.prog 36 := Try.call36
instance : EnT Try.prog 36 := ⟨en36⟩
theorem en37 : Enters Try.prog 37 := Try.call37
instance : EnT Try.prog 37 := ⟨en37⟩
theorem en38 : Enters Try.prog 38 := Try.call38
instance : EnT Try.prog 38 := ⟨en38⟩
theorem en39 : Enters Try.prog 39 := Try.call39
instance : EnT Try.prog 39 := ⟨en39⟩
theorem en40 : Enters Try.prog 40 := Try.call40
instance : EnT Try.prog 40 := ⟨en40⟩
theorem en41 : Enters Try.prog 41 := Try.call41
instance : EnT Try.prog 41 := ⟨en41⟩
theorem en42 : Enters Try.prog 42 := Try.call42
instance : EnT Try.prog 42 := ⟨en42⟩
theorem en43 : Enters Try.prog 43 := Try.call43
instance : EnT Try.prog 43 := ⟨en43⟩
theorem en44 : Enters Try.prog 44 := Try.call44
instance : EnT Try.prog 44 := ⟨en44⟩
theorem en45 : Enters Try.prog 45 := Try.call45
instance : EnT Try.prog 45 := ⟨en45⟩
theorem en46 : Enters Try.prog 46 := Try.call46
instance : EnT Try.prog 46 := ⟨en46⟩
theorem en47 : Enters Try.prog 47 := Try.call47
instance : EnT Try.prog 47 := ⟨en47⟩
theorem en48 : Enters Try.prog 48 := Try.call48
instance : EnT Try.prog 48 := ⟨en48⟩
theorem en49 : Enters Try.prog 49 := Try.call49
instance : EnT Try.prog 49 := ⟨en49⟩
theorem en50 : Enters Try.prog 50 := Try.call50
instance : EnT Try.prog 50 := ⟨en50⟩
theorem en51 : Enters Try.prog 51 := Try.call51
instance : EnT Try.prog 51 := ⟨en51⟩
theorem en52 : Enters Try.prog 52 := Try.call52
instance : EnT Try.prog 52 := ⟨en52⟩
theorem en53 : Enters Try.prog 53 := Try.call53
instance : EnT Try.prog 53 := ⟨en53⟩
theorem en54 : Enters Try.prog 54 := Try.call54
instance : EnT Try.prog 54 := ⟨en54⟩
theorem en55 : Enters Try.prog 55 := Try.call55
instance : EnT Try.prog 55 := ⟨en55⟩
theorem en56 : Enters Try.prog 56 := Try.call56
instance : EnT Try.prog 56 := ⟨en56⟩
theorem en57 : Enters Try.prog 57 := Try.call57
instance : EnT Try.prog 57 := ⟨en57⟩
theorem en58 : Enters Try.prog 58 := Try.call58
instance : EnT Try.prog 58 := ⟨en58⟩
theorem en59 : Enters Try.prog 59 := Try.call59
instance : EnT Try.prog 59 := ⟨en59⟩
theorem en60 : Enters Try.prog 60 := Try.call60
instance : EnT Try.prog 60 := ⟨en60⟩
theorem en61 : Enters Try.prog 61 := Try.call61
instance : EnT Try.prog 61 := ⟨en61⟩
theorem en62 : Enters Try.prog 62 := Try.call62
instance : EnT Try.prog 62 := ⟨en62⟩
theorem en63 : Enters Try.prog 63 := Try.call63
instance : EnT Try.prog 63 := ⟨en63⟩
theorem en64 : Enters Try.prog 64 := Try.call64
instance : EnT Try.prog 64 := ⟨en64⟩
theorem en65 : Enters Try.prog 65 := Try.call65
instance : EnT Try.prog 65 := ⟨en65⟩
theorem en66 : Enters Try.prog 66 := Try.call66
instance : EnT Try.prog 66 := ⟨en66⟩
theorem en67 : Enters Try.prog 67 := Try.call67
instance : EnT Try.prog 67 := ⟨en67⟩
theorem en68 : Enters Try.prog 68 := Try.call68
instance : EnT Try.prog 68 := ⟨en68⟩
theorem en69 : Enters Try.prog 69 := Try.call69
instance : EnT Try.prog 69 := ⟨en69⟩
theorem en70 : Enters Try.prog 70 := Try.call70
instance : EnT Try.prog 70 := ⟨en70⟩
theorem en71 : Enters Try.prog 71 := Try.call71
instance : EnT Try.prog 71 := ⟨en71⟩
theorem en72 : Enters Try.prog 72 := Try.call72
instance : EnT Try.prog 72 := ⟨en72⟩
theorem en73 : Enters Try.prog 73 := Try.call73
instance : EnT Try.prog 73 := ⟨en73⟩
theorem en74 : Enters Try.prog 74 := Try.call74
instance : EnT Try.prog 74 := ⟨en74⟩
theorem en75 : Enters Try.prog 75 := Try.call75
instance : EnT Try.prog 75 := ⟨en75⟩
theorem en76 : Enters Try.prog 76 := Try.call76
instance : EnT Try.prog 76 := ⟨en76⟩
theorem en77 : Enters Try.prog 77 := Try.call77
instance : EnT Try.prog 77 := ⟨en77⟩
theorem en78 : Enters Try.prog 78 := Try.call78
instance : EnT Try.prog 78 := ⟨en78⟩
theorem en79 : Enters Try.prog 79 := Try.call79
instance : EnT Try.prog 79 := ⟨en79⟩
theorem en80 : Enters Try.prog 80 := Try.call80
instance : EnT Try.prog 80 := ⟨en80⟩
theorem en81 : Enters Try.prog 81 := Try.call81
instance : EnT Try.prog 81 := ⟨en81⟩
theorem en82 : Enters Try.prog 82 := Try.call82
instance : EnT Try.prog 82 := ⟨en82⟩
theorem en83 : Enters Try.prog 83 := Try.call83
instance : EnT Try.prog 83 := ⟨en83⟩
theorem en84 : Enters Try.prog 84 := Try.call84
instance : EnT Try.prog 84 := ⟨en84⟩
end Go.Proofs.Ytckkpipmpdahiaa
