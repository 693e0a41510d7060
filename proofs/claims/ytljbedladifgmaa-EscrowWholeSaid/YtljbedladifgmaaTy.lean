/-
  The types of this seat's translation, and the functions that are entered, as instances for the engine. No conditions.
-/
import Derived.Test.YtljbedladifgmaaRows
import Derived.Test.YtljbedladifgmaaRow
namespace Go.Proofs.Ytljbedladifgmaa
open Go Go.RowKit Eng
set_option maxRecDepth 100000

instance : Ty Try.prog 1 false 1 ([.nilFunc]) := ⟨by kernel_rfl, by kernel_rfl, by kernel_rfl⟩
instance : Ty Try.prog 2 false 1 ([.int .i64 0]) := ⟨by kernel_rfl, by kernel_rfl, by kernel_rfl⟩
instance : Ik Try.prog 2 .i64 := ⟨by kernel_rfl⟩
instance : Ty Try.prog 3 false 1 ([.int .i64 0]) := ⟨by kernel_rfl, by kernel_rfl, by kernel_rfl⟩
instance : Ik Try.prog 3 .i64 := ⟨by kernel_rfl⟩
instance : Ty Try.prog 4 false 1 ([.bool false]) := ⟨by kernel_rfl, by kernel_rfl, by kernel_rfl⟩
instance : BoolT Try.prog 4 := ⟨by kernel_rfl⟩
instance : Ty Try.prog 5 false 1 ([.int .u8 0]) := ⟨by kernel_rfl, by kernel_rfl, by kernel_rfl⟩
instance : Ik Try.prog 5 .u8 := ⟨by kernel_rfl⟩
instance : Ty Try.prog 6 false 1 ([.int .u8 0]) := ⟨by kernel_rfl, by kernel_rfl, by kernel_rfl⟩
instance : Ik Try.prog 6 .u8 := ⟨by kernel_rfl⟩
instance : Ty Try.prog 7 true 4 ([.int .i64 0, .int .i64 0, .bool false, .int .u8 0]) := ⟨by kernel_rfl, by kernel_rfl, by kernel_rfl⟩
instance : StP Try.prog 7 [(0, 1), (1, 1), (2, 1), (3, 1)] := ⟨by kernel_rfl⟩
instance : FldT Try.prog 7 0 0 false 1 := ⟨by kernel_rfl, rfl⟩
instance : FldT Try.prog 7 1 1 false 1 := ⟨by kernel_rfl, rfl⟩
instance : FldT Try.prog 7 2 2 false 1 := ⟨by kernel_rfl, rfl⟩
instance : FldT Try.prog 7 3 3 false 1 := ⟨by kernel_rfl, rfl⟩
instance : Ty Try.prog 8 true 4 ([.int .i64 0, .int .i64 0, .bool false, .int .u8 0]) := ⟨by kernel_rfl, by kernel_rfl, by kernel_rfl⟩
instance : StP Try.prog 8 [(0, 1), (1, 1), (2, 1), (3, 1)] := ⟨by kernel_rfl⟩
instance : FldT Try.prog 8 0 0 false 1 := ⟨by kernel_rfl, rfl⟩
instance : FldT Try.prog 8 1 1 false 1 := ⟨by kernel_rfl, rfl⟩
instance : FldT Try.prog 8 2 2 false 1 := ⟨by kernel_rfl, rfl⟩
instance : FldT Try.prog 8 3 3 false 1 := ⟨by kernel_rfl, rfl⟩
instance : Ty Try.prog 9 false 1 ([.string ⟨#[]⟩]) := ⟨by kernel_rfl, by kernel_rfl, by kernel_rfl⟩
instance : StrT Try.prog 9 := ⟨by kernel_rfl⟩
instance : Ty Try.prog 10 false 1 ([.string ⟨#[]⟩]) := ⟨by kernel_rfl, by kernel_rfl, by kernel_rfl⟩
instance : StrT Try.prog 10 := ⟨by kernel_rfl⟩
instance : Ty Try.prog 11 false 1 ([.string ⟨#[]⟩]) := ⟨by kernel_rfl, by kernel_rfl, by kernel_rfl⟩
instance : StrT Try.prog 11 := ⟨by kernel_rfl⟩
instance : Ty Try.prog 12 false 1 ([.int .u64 0]) := ⟨by kernel_rfl, by kernel_rfl, by kernel_rfl⟩
instance : Ik Try.prog 12 .u64 := ⟨by kernel_rfl⟩
instance : Ty Try.prog 13 true 2 ([.string ⟨#[]⟩, .int .u64 0]) := ⟨by kernel_rfl, by kernel_rfl, by kernel_rfl⟩
instance : StP Try.prog 13 [(0, 1), (1, 1)] := ⟨by kernel_rfl⟩
instance : FldT Try.prog 13 0 0 false 1 := ⟨by kernel_rfl, rfl⟩
instance : FldT Try.prog 13 1 1 false 1 := ⟨by kernel_rfl, rfl⟩
instance : Ty Try.prog 14 true 2 ([.string ⟨#[]⟩, .int .u64 0]) := ⟨by kernel_rfl, by kernel_rfl, by kernel_rfl⟩
instance : StP Try.prog 14 [(0, 1), (1, 1)] := ⟨by kernel_rfl⟩
instance : FldT Try.prog 14 0 0 false 1 := ⟨by kernel_rfl, rfl⟩
instance : FldT Try.prog 14 1 1 false 1 := ⟨by kernel_rfl, rfl⟩
instance : Ty Try.prog 15 false 1 ([.pointer none]) := ⟨by kernel_rfl, by kernel_rfl, by kernel_rfl⟩
instance : Pt Try.prog 15 168 := ⟨by kernel_rfl⟩
instance : Ty Try.prog 16 false 1 ([.pointer none]) := ⟨by kernel_rfl, by kernel_rfl, by kernel_rfl⟩
instance : Pt Try.prog 16 171 := ⟨by kernel_rfl⟩
instance : Ty Try.prog 17 false 1 ([.pointer none]) := ⟨by kernel_rfl, by kernel_rfl, by kernel_rfl⟩
instance : Pt Try.prog 17 180 := ⟨by kernel_rfl⟩
instance : Ty Try.prog 18 true 1 ([.pointer none]) := ⟨by kernel_rfl, by kernel_rfl, by kernel_rfl⟩
instance : StP Try.prog 18 [(0, 1)] := ⟨by kernel_rfl⟩
instance : FldT Try.prog 18 0 0 false 1 := ⟨by kernel_rfl, rfl⟩
instance : Ty Try.prog 19 true 1 ([.pointer none]) := ⟨by kernel_rfl, by kernel_rfl, by kernel_rfl⟩
instance : StP Try.prog 19 [(0, 1)] := ⟨by kernel_rfl⟩
instance : FldT Try.prog 19 0 0 false 1 := ⟨by kernel_rfl, rfl⟩
instance : Ty Try.prog 20 false 1 ([.nilIface]) := ⟨by kernel_rfl, by kernel_rfl, by kernel_rfl⟩
instance : Ty Try.prog 21 false 1 ([.int .i32 0]) := ⟨by kernel_rfl, by kernel_rfl, by kernel_rfl⟩
instance : Ik Try.prog 21 .i32 := ⟨by kernel_rfl⟩
instance : Ty Try.prog 22 false 1 ([.int .u64 0]) := ⟨by kernel_rfl, by kernel_rfl, by kernel_rfl⟩
instance : Ik Try.prog 22 .u64 := ⟨by kernel_rfl⟩
instance : Ty Try.prog 23 true 4 ([.int .u64 0, .int .u64 0, .int .u64 0, .int .u64 0]) := ⟨by kernel_rfl, by kernel_rfl, by kernel_rfl⟩
instance : Ar Try.prog 23 4 22 := ⟨by kernel_rfl⟩
instance : Ty Try.prog 24 true 4 ([.int .u64 0, .int .u64 0, .int .u64 0, .int .u64 0]) := ⟨by kernel_rfl, by kernel_rfl, by kernel_rfl⟩
instance : Ar Try.prog 24 4 22 := ⟨by kernel_rfl⟩
instance : Ty Try.prog 25 true 8 ([.int .u64 0, .int .u64 0, .int .u64 0, .int .u64 0, .int .u64 0, .int .u64 0, .int .u64 0, .int .u64 0]) := ⟨by kernel_rfl, by kernel_rfl, by kernel_rfl⟩
instance : Ar Try.prog 25 2 24 := ⟨by kernel_rfl⟩
instance : Ty Try.prog 26 true 64 (rep 16 [.int .u64 0, .int .u64 0, .int .u64 0, .int .u64 0]) := ⟨by kernel_rfl, by kernel_rfl, by kernel_rfl⟩
instance : Ar Try.prog 26 8 25 := ⟨by kernel_rfl⟩
instance : Ty Try.prog 27 true 64 (rep 16 [.int .u64 0, .int .u64 0, .int .u64 0, .int .u64 0]) := ⟨by kernel_rfl, by kernel_rfl, by kernel_rfl⟩
instance : Ar Try.prog 27 8 25 := ⟨by kernel_rfl⟩
instance : Ty Try.prog 28 true 8 ([.int .i64 0, .int .i64 0, .int .i64 0, .int .i64 0, .int .i64 0, .int .i64 0, .int .i64 0, .int .i64 0]) := ⟨by kernel_rfl, by kernel_rfl, by kernel_rfl⟩
instance : Ar Try.prog 28 8 3 := ⟨by kernel_rfl⟩
instance : Ty Try.prog 29 false 1 ([.slice none 0 0]) := ⟨by kernel_rfl, by kernel_rfl, by kernel_rfl⟩
instance : Sl Try.prog 29 56 40 := ⟨by kernel_rfl, by kernel_rfl⟩
instance : Ty Try.prog 30 true 151 ([.int .i64 0, .int .i64 0] ++ rep 16 [.int .u64 0, .int .u64 0, .int .u64 0, .int .u64 0] ++ rep 16 [.int .u64 0, .int .u64 0, .int .u64 0, .int .u64 0] ++ [.int .i64 0, .int .i64 0, .int .i64 0, .int .i64 0, .int .i64 0, .int .i64 0, .int .i64 0, .int .i64 0, .int .u64 0, .int .u64 0, .int .u64 0, .int .u64 0, .int .u64 0, .int .u64 0, .int .u64 0, .int .u64 0, .int .u64 0, .int .u64 0, .int .u64 0, .int .u64 0, .slice none 0 0]) := ⟨by kernel_rfl, by kernel_rfl, by kernel_rfl⟩
instance : StP Try.prog 30 [(0, 1), (1, 1), (2, 64), (66, 64), (130, 8), (138, 8), (146, 4), (150, 1)] := ⟨by kernel_rfl⟩
instance : FldT Try.prog 30 0 0 false 1 := ⟨by kernel_rfl, rfl⟩
instance : FldT Try.prog 30 1 1 false 1 := ⟨by kernel_rfl, rfl⟩
instance : FldT Try.prog 30 2 2 true 64 := ⟨by kernel_rfl, rfl⟩
instance : FldT Try.prog 30 3 66 true 64 := ⟨by kernel_rfl, rfl⟩
instance : FldT Try.prog 30 4 130 true 8 := ⟨by kernel_rfl, rfl⟩
instance : FldT Try.prog 30 5 138 true 8 := ⟨by kernel_rfl, rfl⟩
instance : FldT Try.prog 30 6 146 true 4 := ⟨by kernel_rfl, rfl⟩
instance : FldT Try.prog 30 7 150 false 1 := ⟨by kernel_rfl, rfl⟩
instance : Ty Try.prog 31 true 151 ([.int .i64 0, .int .i64 0] ++ rep 16 [.int .u64 0, .int .u64 0, .int .u64 0, .int .u64 0] ++ rep 16 [.int .u64 0, .int .u64 0, .int .u64 0, .int .u64 0] ++ [.int .i64 0, .int .i64 0, .int .i64 0, .int .i64 0, .int .i64 0, .int .i64 0, .int .i64 0, .int .i64 0, .int .u64 0, .int .u64 0, .int .u64 0, .int .u64 0, .int .u64 0, .int .u64 0, .int .u64 0, .int .u64 0, .int .u64 0, .int .u64 0, .int .u64 0, .int .u64 0, .slice none 0 0]) := ⟨by kernel_rfl, by kernel_rfl, by kernel_rfl⟩
instance : StP Try.prog 31 [(0, 1), (1, 1), (2, 64), (66, 64), (130, 8), (138, 8), (146, 4), (150, 1)] := ⟨by kernel_rfl⟩
instance : FldT Try.prog 31 0 0 false 1 := ⟨by kernel_rfl, rfl⟩
instance : FldT Try.prog 31 1 1 false 1 := ⟨by kernel_rfl, rfl⟩
instance : FldT Try.prog 31 2 2 true 64 := ⟨by kernel_rfl, rfl⟩
instance : FldT Try.prog 31 3 66 true 64 := ⟨by kernel_rfl, rfl⟩
instance : FldT Try.prog 31 4 130 true 8 := ⟨by kernel_rfl, rfl⟩
instance : FldT Try.prog 31 5 138 true 8 := ⟨by kernel_rfl, rfl⟩
instance : FldT Try.prog 31 6 146 true 4 := ⟨by kernel_rfl, rfl⟩
instance : FldT Try.prog 31 7 150 false 1 := ⟨by kernel_rfl, rfl⟩
instance : Ty Try.prog 32 true 7 ([.int .i64 0, .string ⟨#[]⟩, .int .i64 0, .int .i64 0, .int .i64 0, .int .i64 0, .string ⟨#[]⟩]) := ⟨by kernel_rfl, by kernel_rfl, by kernel_rfl⟩
instance : StP Try.prog 32 [(0, 1), (1, 1), (2, 1), (3, 1), (4, 1), (5, 1), (6, 1)] := ⟨by kernel_rfl⟩
instance : FldT Try.prog 32 0 0 false 1 := ⟨by kernel_rfl, rfl⟩
instance : FldT Try.prog 32 1 1 false 1 := ⟨by kernel_rfl, rfl⟩
instance : FldT Try.prog 32 2 2 false 1 := ⟨by kernel_rfl, rfl⟩
instance : FldT Try.prog 32 3 3 false 1 := ⟨by kernel_rfl, rfl⟩
instance : FldT Try.prog 32 4 4 false 1 := ⟨by kernel_rfl, rfl⟩
instance : FldT Try.prog 32 5 5 false 1 := ⟨by kernel_rfl, rfl⟩
instance : FldT Try.prog 32 6 6 false 1 := ⟨by kernel_rfl, rfl⟩
instance : Ty Try.prog 33 true 7 ([.int .i64 0, .string ⟨#[]⟩, .int .i64 0, .int .i64 0, .int .i64 0, .int .i64 0, .string ⟨#[]⟩]) := ⟨by kernel_rfl, by kernel_rfl, by kernel_rfl⟩
instance : StP Try.prog 33 [(0, 1), (1, 1), (2, 1), (3, 1), (4, 1), (5, 1), (6, 1)] := ⟨by kernel_rfl⟩
instance : FldT Try.prog 33 0 0 false 1 := ⟨by kernel_rfl, rfl⟩
instance : FldT Try.prog 33 1 1 false 1 := ⟨by kernel_rfl, rfl⟩
instance : FldT Try.prog 33 2 2 false 1 := ⟨by kernel_rfl, rfl⟩
instance : FldT Try.prog 33 3 3 false 1 := ⟨by kernel_rfl, rfl⟩
instance : FldT Try.prog 33 4 4 false 1 := ⟨by kernel_rfl, rfl⟩
instance : FldT Try.prog 33 5 5 false 1 := ⟨by kernel_rfl, rfl⟩
instance : FldT Try.prog 33 6 6 false 1 := ⟨by kernel_rfl, rfl⟩
instance : Ty Try.prog 34 true 5 ([.int .u64 0, .int .u64 0, .int .u64 0, .int .u64 0, .int .i64 0]) := ⟨by kernel_rfl, by kernel_rfl, by kernel_rfl⟩
instance : StP Try.prog 34 [(0, 4), (4, 1)] := ⟨by kernel_rfl⟩
instance : FldT Try.prog 34 0 0 true 4 := ⟨by kernel_rfl, rfl⟩
instance : FldT Try.prog 34 1 4 false 1 := ⟨by kernel_rfl, rfl⟩
instance : Ty Try.prog 35 true 5 ([.int .u64 0, .int .u64 0, .int .u64 0, .int .u64 0, .int .i64 0]) := ⟨by kernel_rfl, by kernel_rfl, by kernel_rfl⟩
instance : StP Try.prog 35 [(0, 4), (4, 1)] := ⟨by kernel_rfl⟩
instance : FldT Try.prog 35 0 0 true 4 := ⟨by kernel_rfl, rfl⟩
instance : FldT Try.prog 35 1 4 false 1 := ⟨by kernel_rfl, rfl⟩
instance : Ty Try.prog 36 true 25 ([.int .i64 0, .int .i64 0, .int .i64 0, .int .i64 0, .int .u64 0, .int .u64 0, .int .u64 0, .int .u64 0, .int .i64 0, .string ⟨#[]⟩, .int .i64 0, .int .i64 0, .int .i64 0, .int .i64 0, .string ⟨#[]⟩, .int .u64 0, .int .u64 0, .int .u64 0, .int .u64 0, .int .i64 0, .int .u64 0, .int .u64 0, .int .u64 0, .int .u64 0, .string ⟨#[]⟩]) := ⟨by kernel_rfl, by kernel_rfl, by kernel_rfl⟩
instance : StP Try.prog 36 [(0, 1), (1, 1), (2, 1), (3, 1), (4, 4), (8, 7), (15, 5), (20, 4), (24, 1)] := ⟨by kernel_rfl⟩
instance : FldT Try.prog 36 0 0 false 1 := ⟨by kernel_rfl, rfl⟩
instance : FldT Try.prog 36 1 1 false 1 := ⟨by kernel_rfl, rfl⟩
instance : FldT Try.prog 36 2 2 false 1 := ⟨by kernel_rfl, rfl⟩
instance : FldT Try.prog 36 3 3 false 1 := ⟨by kernel_rfl, rfl⟩
instance : FldT Try.prog 36 4 4 true 4 := ⟨by kernel_rfl, rfl⟩
instance : FldT Try.prog 36 5 8 true 7 := ⟨by kernel_rfl, rfl⟩
instance : FldT Try.prog 36 6 15 true 5 := ⟨by kernel_rfl, rfl⟩
instance : FldT Try.prog 36 7 20 true 4 := ⟨by kernel_rfl, rfl⟩
instance : FldT Try.prog 36 8 24 false 1 := ⟨by kernel_rfl, rfl⟩
instance : Ty Try.prog 37 true 25 ([.int .i64 0, .int .i64 0, .int .i64 0, .int .i64 0, .int .u64 0, .int .u64 0, .int .u64 0, .int .u64 0, .int .i64 0, .string ⟨#[]⟩, .int .i64 0, .int .i64 0, .int .i64 0, .int .i64 0, .string ⟨#[]⟩, .int .u64 0, .int .u64 0, .int .u64 0, .int .u64 0, .int .i64 0, .int .u64 0, .int .u64 0, .int .u64 0, .int .u64 0, .string ⟨#[]⟩]) := ⟨by kernel_rfl, by kernel_rfl, by kernel_rfl⟩
instance : StP Try.prog 37 [(0, 1), (1, 1), (2, 1), (3, 1), (4, 4), (8, 7), (15, 5), (20, 4), (24, 1)] := ⟨by kernel_rfl⟩
instance : FldT Try.prog 37 0 0 false 1 := ⟨by kernel_rfl, rfl⟩
instance : FldT Try.prog 37 1 1 false 1 := ⟨by kernel_rfl, rfl⟩
instance : FldT Try.prog 37 2 2 false 1 := ⟨by kernel_rfl, rfl⟩
instance : FldT Try.prog 37 3 3 false 1 := ⟨by kernel_rfl, rfl⟩
instance : FldT Try.prog 37 4 4 true 4 := ⟨by kernel_rfl, rfl⟩
instance : FldT Try.prog 37 5 8 true 7 := ⟨by kernel_rfl, rfl⟩
instance : FldT Try.prog 37 6 15 true 5 := ⟨by kernel_rfl, rfl⟩
instance : FldT Try.prog 37 7 20 true 4 := ⟨by kernel_rfl, rfl⟩
instance : FldT Try.prog 37 8 24 false 1 := ⟨by kernel_rfl, rfl⟩
instance : Ty Try.prog 38 false 1 ([.nilFunc]) := ⟨by kernel_rfl, by kernel_rfl, by kernel_rfl⟩
instance : Ty Try.prog 39 false 1 ([.nilFunc]) := ⟨by kernel_rfl, by kernel_rfl, by kernel_rfl⟩
instance : Ty Try.prog 40 false 1 ([.int .i64 0]) := ⟨by kernel_rfl, by kernel_rfl, by kernel_rfl⟩
instance : Ik Try.prog 40 .i64 := ⟨by kernel_rfl⟩
instance : Ty Try.prog 42 false 1 ([.nilFunc]) := ⟨by kernel_rfl, by kernel_rfl, by kernel_rfl⟩
instance : Ty Try.prog 43 false 1 ([.nilFunc]) := ⟨by kernel_rfl, by kernel_rfl, by kernel_rfl⟩
instance : Ty Try.prog 44 true 64 (rep 16 [.int .u64 0, .int .u64 0, .int .u64 0, .int .u64 0]) := ⟨by kernel_rfl, by kernel_rfl, by kernel_rfl⟩
instance : Ar Try.prog 44 16 24 := ⟨by kernel_rfl⟩
instance : Ty Try.prog 45 false 1 ([.slice none 0 0]) := ⟨by kernel_rfl, by kernel_rfl, by kernel_rfl⟩
instance : Sl Try.prog 45 69 40 := ⟨by kernel_rfl, by kernel_rfl⟩
instance : Ty Try.prog 46 true 151 ([.int .i64 0, .int .i64 0] ++ rep 16 [.int .u64 0, .int .u64 0, .int .u64 0, .int .u64 0] ++ rep 16 [.int .u64 0, .int .u64 0, .int .u64 0, .int .u64 0] ++ [.int .i64 0, .int .i64 0, .int .i64 0, .int .i64 0, .int .i64 0, .int .i64 0, .int .i64 0, .int .i64 0, .int .u64 0, .int .u64 0, .int .u64 0, .int .u64 0, .int .u64 0, .int .u64 0, .int .u64 0, .int .u64 0, .int .u64 0, .int .u64 0, .int .u64 0, .int .u64 0, .slice none 0 0]) := ⟨by kernel_rfl, by kernel_rfl, by kernel_rfl⟩
instance : StP Try.prog 46 [(0, 1), (1, 1), (2, 64), (66, 64), (130, 8), (138, 8), (146, 4), (150, 1)] := ⟨by kernel_rfl⟩
instance : FldT Try.prog 46 0 0 false 1 := ⟨by kernel_rfl, rfl⟩
instance : FldT Try.prog 46 1 1 false 1 := ⟨by kernel_rfl, rfl⟩
instance : FldT Try.prog 46 2 2 true 64 := ⟨by kernel_rfl, rfl⟩
instance : FldT Try.prog 46 3 66 true 64 := ⟨by kernel_rfl, rfl⟩
instance : FldT Try.prog 46 4 130 true 8 := ⟨by kernel_rfl, rfl⟩
instance : FldT Try.prog 46 5 138 true 8 := ⟨by kernel_rfl, rfl⟩
instance : FldT Try.prog 46 6 146 true 4 := ⟨by kernel_rfl, rfl⟩
instance : FldT Try.prog 46 7 150 false 1 := ⟨by kernel_rfl, rfl⟩
instance : Ty Try.prog 47 true 151 ([.int .i64 0, .int .i64 0] ++ rep 16 [.int .u64 0, .int .u64 0, .int .u64 0, .int .u64 0] ++ rep 16 [.int .u64 0, .int .u64 0, .int .u64 0, .int .u64 0] ++ [.int .i64 0, .int .i64 0, .int .i64 0, .int .i64 0, .int .i64 0, .int .i64 0, .int .i64 0, .int .i64 0, .int .u64 0, .int .u64 0, .int .u64 0, .int .u64 0, .int .u64 0, .int .u64 0, .int .u64 0, .int .u64 0, .int .u64 0, .int .u64 0, .int .u64 0, .int .u64 0, .slice none 0 0]) := ⟨by kernel_rfl, by kernel_rfl, by kernel_rfl⟩
instance : StP Try.prog 47 [(0, 1), (1, 1), (2, 64), (66, 64), (130, 8), (138, 8), (146, 4), (150, 1)] := ⟨by kernel_rfl⟩
instance : FldT Try.prog 47 0 0 false 1 := ⟨by kernel_rfl, rfl⟩
instance : FldT Try.prog 47 1 1 false 1 := ⟨by kernel_rfl, rfl⟩
instance : FldT Try.prog 47 2 2 true 64 := ⟨by kernel_rfl, rfl⟩
instance : FldT Try.prog 47 3 66 true 64 := ⟨by kernel_rfl, rfl⟩
instance : FldT Try.prog 47 4 130 true 8 := ⟨by kernel_rfl, rfl⟩
instance : FldT Try.prog 47 5 138 true 8 := ⟨by kernel_rfl, rfl⟩
instance : FldT Try.prog 47 6 146 true 4 := ⟨by kernel_rfl, rfl⟩
instance : FldT Try.prog 47 7 150 false 1 := ⟨by kernel_rfl, rfl⟩
instance : Ty Try.prog 48 false 1 ([.nilFunc]) := ⟨by kernel_rfl, by kernel_rfl, by kernel_rfl⟩
instance : Ty Try.prog 50 false 1 ([.nilFunc]) := ⟨by kernel_rfl, by kernel_rfl, by kernel_rfl⟩
instance : Ty Try.prog 51 false 1 ([.nilFunc]) := ⟨by kernel_rfl, by kernel_rfl, by kernel_rfl⟩
instance : Ty Try.prog 52 false 1 ([.nilFunc]) := ⟨by kernel_rfl, by kernel_rfl, by kernel_rfl⟩
instance : Ty Try.prog 53 false 1 ([.nilFunc]) := ⟨by kernel_rfl, by kernel_rfl, by kernel_rfl⟩
instance : Ty Try.prog 54 false 1 ([.nilFunc]) := ⟨by kernel_rfl, by kernel_rfl, by kernel_rfl⟩
instance : Ty Try.prog 55 true 3 ([.string ⟨#[]⟩, .string ⟨#[]⟩, .int .i64 0]) := ⟨by kernel_rfl, by kernel_rfl, by kernel_rfl⟩
instance : StP Try.prog 55 [(0, 1), (1, 1), (2, 1)] := ⟨by kernel_rfl⟩
instance : FldT Try.prog 55 0 0 false 1 := ⟨by kernel_rfl, rfl⟩
instance : FldT Try.prog 55 1 1 false 1 := ⟨by kernel_rfl, rfl⟩
instance : FldT Try.prog 55 2 2 false 1 := ⟨by kernel_rfl, rfl⟩
instance : Ty Try.prog 56 true 3 ([.string ⟨#[]⟩, .string ⟨#[]⟩, .int .i64 0]) := ⟨by kernel_rfl, by kernel_rfl, by kernel_rfl⟩
instance : StP Try.prog 56 [(0, 1), (1, 1), (2, 1)] := ⟨by kernel_rfl⟩
instance : FldT Try.prog 56 0 0 false 1 := ⟨by kernel_rfl, rfl⟩
instance : FldT Try.prog 56 1 1 false 1 := ⟨by kernel_rfl, rfl⟩
instance : FldT Try.prog 56 2 2 false 1 := ⟨by kernel_rfl, rfl⟩
instance : Ty Try.prog 57 false 1 ([.nilFunc]) := ⟨by kernel_rfl, by kernel_rfl, by kernel_rfl⟩
instance : Ty Try.prog 58 false 1 ([.slice none 0 0]) := ⟨by kernel_rfl, by kernel_rfl, by kernel_rfl⟩
instance : Sl Try.prog 58 37 224 := ⟨by kernel_rfl, by kernel_rfl⟩
instance : Ty Try.prog 59 false 1 ([.nilFunc]) := ⟨by kernel_rfl, by kernel_rfl, by kernel_rfl⟩
instance : Ty Try.prog 60 false 1 ([.nilFunc]) := ⟨by kernel_rfl, by kernel_rfl, by kernel_rfl⟩
instance : Ty Try.prog 61 false 1 ([.nilFunc]) := ⟨by kernel_rfl, by kernel_rfl, by kernel_rfl⟩
instance : Ty Try.prog 62 false 1 ([.nilFunc]) := ⟨by kernel_rfl, by kernel_rfl, by kernel_rfl⟩
instance : Ty Try.prog 63 false 1 ([.nilFunc]) := ⟨by kernel_rfl, by kernel_rfl, by kernel_rfl⟩
instance : Ty Try.prog 65 false 1 ([.nilFunc]) := ⟨by kernel_rfl, by kernel_rfl, by kernel_rfl⟩
instance : Ty Try.prog 66 false 1 ([.nilFunc]) := ⟨by kernel_rfl, by kernel_rfl, by kernel_rfl⟩
instance : Ty Try.prog 68 false 1 ([.nilFunc]) := ⟨by kernel_rfl, by kernel_rfl, by kernel_rfl⟩
instance : Ty Try.prog 69 true 3 ([.string ⟨#[]⟩, .string ⟨#[]⟩, .int .i64 0]) := ⟨by kernel_rfl, by kernel_rfl, by kernel_rfl⟩
instance : StP Try.prog 69 [(0, 1), (1, 1), (2, 1)] := ⟨by kernel_rfl⟩
instance : FldT Try.prog 69 0 0 false 1 := ⟨by kernel_rfl, rfl⟩
instance : FldT Try.prog 69 1 1 false 1 := ⟨by kernel_rfl, rfl⟩
instance : FldT Try.prog 69 2 2 false 1 := ⟨by kernel_rfl, rfl⟩
instance : Ty Try.prog 70 false 1 ([.nilFunc]) := ⟨by kernel_rfl, by kernel_rfl, by kernel_rfl⟩
instance : Ty Try.prog 71 false 1 ([.slice none 0 0]) := ⟨by kernel_rfl, by kernel_rfl, by kernel_rfl⟩
instance : Sl Try.prog 71 3 8 := ⟨by kernel_rfl, by kernel_rfl⟩
instance : Ty Try.prog 72 false 1 ([.nilFunc]) := ⟨by kernel_rfl, by kernel_rfl, by kernel_rfl⟩
instance : Ty Try.prog 73 false 1 ([.nilFunc]) := ⟨by kernel_rfl, by kernel_rfl, by kernel_rfl⟩
instance : Ty Try.prog 74 false 1 ([.nilFunc]) := ⟨by kernel_rfl, by kernel_rfl, by kernel_rfl⟩
instance : Ty Try.prog 75 false 1 ([.slice none 0 0]) := ⟨by kernel_rfl, by kernel_rfl, by kernel_rfl⟩
instance : Sl Try.prog 75 24 32 := ⟨by kernel_rfl, by kernel_rfl⟩
instance : Ty Try.prog 76 false 1 ([.nilFunc]) := ⟨by kernel_rfl, by kernel_rfl, by kernel_rfl⟩
instance : Ty Try.prog 77 false 1 ([.nilFunc]) := ⟨by kernel_rfl, by kernel_rfl, by kernel_rfl⟩
instance : Ty Try.prog 78 false 1 ([.nilFunc]) := ⟨by kernel_rfl, by kernel_rfl, by kernel_rfl⟩
instance : Ty Try.prog 80 false 1 ([.nilFunc]) := ⟨by kernel_rfl, by kernel_rfl, by kernel_rfl⟩
instance : Ty Try.prog 81 true 1 ([.int .i64 0]) := ⟨by kernel_rfl, by kernel_rfl, by kernel_rfl⟩
instance : StP Try.prog 81 [(0, 1)] := ⟨by kernel_rfl⟩
instance : FldT Try.prog 81 0 0 false 1 := ⟨by kernel_rfl, rfl⟩
instance : Ty Try.prog 82 true 1 ([.int .i64 0]) := ⟨by kernel_rfl, by kernel_rfl, by kernel_rfl⟩
instance : StP Try.prog 82 [(0, 1)] := ⟨by kernel_rfl⟩
instance : FldT Try.prog 82 0 0 false 1 := ⟨by kernel_rfl, rfl⟩
instance : Ty Try.prog 84 false 1 ([.nilFunc]) := ⟨by kernel_rfl, by kernel_rfl, by kernel_rfl⟩
instance : Ty Try.prog 85 false 1 ([.nilFunc]) := ⟨by kernel_rfl, by kernel_rfl, by kernel_rfl⟩
instance : Ty Try.prog 86 false 1 ([.pointer none]) := ⟨by kernel_rfl, by kernel_rfl, by kernel_rfl⟩
instance : Pt Try.prog 86 31 := ⟨by kernel_rfl⟩
instance : Ty Try.prog 87 false 1 ([.nilFunc]) := ⟨by kernel_rfl, by kernel_rfl, by kernel_rfl⟩
instance : Ty Try.prog 88 false 1 ([.nilFunc]) := ⟨by kernel_rfl, by kernel_rfl, by kernel_rfl⟩
instance : Ty Try.prog 89 false 1 ([.nilFunc]) := ⟨by kernel_rfl, by kernel_rfl, by kernel_rfl⟩
instance : Ty Try.prog 90 false 1 ([.pointer none]) := ⟨by kernel_rfl, by kernel_rfl, by kernel_rfl⟩
instance : Pt Try.prog 90 27 := ⟨by kernel_rfl⟩
instance : Ty Try.prog 91 false 1 ([.nilFunc]) := ⟨by kernel_rfl, by kernel_rfl, by kernel_rfl⟩
instance : Ty Try.prog 92 false 1 ([.nilFunc]) := ⟨by kernel_rfl, by kernel_rfl, by kernel_rfl⟩
instance : Ty Try.prog 93 false 1 ([.nilFunc]) := ⟨by kernel_rfl, by kernel_rfl, by kernel_rfl⟩
instance : Ty Try.prog 94 false 1 ([.nilFunc]) := ⟨by kernel_rfl, by kernel_rfl, by kernel_rfl⟩
instance : Ty Try.prog 95 false 1 ([.nilFunc]) := ⟨by kernel_rfl, by kernel_rfl, by kernel_rfl⟩
instance : Ty Try.prog 96 false 1 ([.nilFunc]) := ⟨by kernel_rfl, by kernel_rfl, by kernel_rfl⟩
instance : Ty Try.prog 97 false 1 ([.pointer none]) := ⟨by kernel_rfl, by kernel_rfl, by kernel_rfl⟩
instance : Pt Try.prog 97 56 := ⟨by kernel_rfl⟩
instance : Ty Try.prog 98 false 1 ([.nilFunc]) := ⟨by kernel_rfl, by kernel_rfl, by kernel_rfl⟩
instance : Ty Try.prog 99 false 1 ([.nilFunc]) := ⟨by kernel_rfl, by kernel_rfl, by kernel_rfl⟩
instance : Ty Try.prog 100 false 1 ([.pointer none]) := ⟨by kernel_rfl, by kernel_rfl, by kernel_rfl⟩
instance : Pt Try.prog 100 115 := ⟨by kernel_rfl⟩
instance : Ty Try.prog 101 false 1 ([.nilFunc]) := ⟨by kernel_rfl, by kernel_rfl, by kernel_rfl⟩
instance : Ty Try.prog 102 false 1 ([.nilFunc]) := ⟨by kernel_rfl, by kernel_rfl, by kernel_rfl⟩
instance : Ty Try.prog 103 false 1 ([.slice none 0 0]) := ⟨by kernel_rfl, by kernel_rfl, by kernel_rfl⟩
instance : Sl Try.prog 103 5 1 := ⟨by kernel_rfl, by kernel_rfl⟩
instance : Ty Try.prog 105 false 1 ([.nilFunc]) := ⟨by kernel_rfl, by kernel_rfl, by kernel_rfl⟩
instance : Ty Try.prog 106 false 1 ([.nilFunc]) := ⟨by kernel_rfl, by kernel_rfl, by kernel_rfl⟩
instance : Ty Try.prog 107 false 1 ([.nilFunc]) := ⟨by kernel_rfl, by kernel_rfl, by kernel_rfl⟩
instance : Ty Try.prog 108 false 1 ([.nilFunc]) := ⟨by kernel_rfl, by kernel_rfl, by kernel_rfl⟩
instance : Ty Try.prog 109 false 1 ([.nilFunc]) := ⟨by kernel_rfl, by kernel_rfl, by kernel_rfl⟩
instance : Ty Try.prog 110 false 1 ([.nilFunc]) := ⟨by kernel_rfl, by kernel_rfl, by kernel_rfl⟩
instance : Ty Try.prog 112 false 1 ([.nilFunc]) := ⟨by kernel_rfl, by kernel_rfl, by kernel_rfl⟩
instance : Ty Try.prog 113 false 1 ([.nilFunc]) := ⟨by kernel_rfl, by kernel_rfl, by kernel_rfl⟩
instance : Ty Try.prog 114 true 3 ([.slice none 0 0, .int .i64 0, .bool false]) := ⟨by kernel_rfl, by kernel_rfl, by kernel_rfl⟩
instance : StP Try.prog 114 [(0, 1), (1, 1), (2, 1)] := ⟨by kernel_rfl⟩
instance : FldT Try.prog 114 0 0 false 1 := ⟨by kernel_rfl, rfl⟩
instance : FldT Try.prog 114 1 1 false 1 := ⟨by kernel_rfl, rfl⟩
instance : FldT Try.prog 114 2 2 false 1 := ⟨by kernel_rfl, rfl⟩
instance : Ty Try.prog 115 true 3 ([.slice none 0 0, .int .i64 0, .bool false]) := ⟨by kernel_rfl, by kernel_rfl, by kernel_rfl⟩
instance : StP Try.prog 115 [(0, 1), (1, 1), (2, 1)] := ⟨by kernel_rfl⟩
instance : FldT Try.prog 115 0 0 false 1 := ⟨by kernel_rfl, rfl⟩
instance : FldT Try.prog 115 1 1 false 1 := ⟨by kernel_rfl, rfl⟩
instance : FldT Try.prog 115 2 2 false 1 := ⟨by kernel_rfl, rfl⟩
instance : Ty Try.prog 116 false 1 ([.nilFunc]) := ⟨by kernel_rfl, by kernel_rfl, by kernel_rfl⟩
instance : Ty Try.prog 117 true 4 ([.int .i64 0, .int .i64 0, .int .i64 0, .int .i64 0]) := ⟨by kernel_rfl, by kernel_rfl, by kernel_rfl⟩
instance : Ar Try.prog 117 4 3 := ⟨by kernel_rfl⟩
instance : Ty Try.prog 118 false 1 ([.nilFunc]) := ⟨by kernel_rfl, by kernel_rfl, by kernel_rfl⟩
instance : Ty Try.prog 119 false 1 ([.slice none 0 0]) := ⟨by kernel_rfl, by kernel_rfl, by kernel_rfl⟩
instance : Sl Try.prog 119 103 24 := ⟨by kernel_rfl, by kernel_rfl⟩
instance : Ty Try.prog 120 false 1 ([.nilFunc]) := ⟨by kernel_rfl, by kernel_rfl, by kernel_rfl⟩
instance : Ty Try.prog 121 false 1 ([.nilFunc]) := ⟨by kernel_rfl, by kernel_rfl, by kernel_rfl⟩
instance : Ty Try.prog 122 false 1 ([.nilFunc]) := ⟨by kernel_rfl, by kernel_rfl, by kernel_rfl⟩
instance : Ty Try.prog 123 false 1 ([.nilFunc]) := ⟨by kernel_rfl, by kernel_rfl, by kernel_rfl⟩
instance : Ty Try.prog 124 false 1 ([.nilFunc]) := ⟨by kernel_rfl, by kernel_rfl, by kernel_rfl⟩
instance : Ty Try.prog 125 false 1 ([.slice none 0 0]) := ⟨by kernel_rfl, by kernel_rfl, by kernel_rfl⟩
instance : Sl Try.prog 125 9 16 := ⟨by kernel_rfl, by kernel_rfl⟩
instance : Ty Try.prog 126 false 1 ([.nilFunc]) := ⟨by kernel_rfl, by kernel_rfl, by kernel_rfl⟩
instance : Ty Try.prog 127 false 1 ([.nilFunc]) := ⟨by kernel_rfl, by kernel_rfl, by kernel_rfl⟩
instance : Ty Try.prog 128 false 1 ([.int .u32 0]) := ⟨by kernel_rfl, by kernel_rfl, by kernel_rfl⟩
instance : Ik Try.prog 128 .u32 := ⟨by kernel_rfl⟩
instance : Ty Try.prog 129 true 8 ([.int .u32 0, .int .u32 0, .int .u32 0, .int .u32 0, .int .u32 0, .int .u32 0, .int .u32 0, .int .u32 0]) := ⟨by kernel_rfl, by kernel_rfl, by kernel_rfl⟩
instance : Ar Try.prog 129 8 128 := ⟨by kernel_rfl⟩
instance : Ty Try.prog 130 true 8 ([.int .u32 0, .int .u32 0, .int .u32 0, .int .u32 0, .int .u32 0, .int .u32 0, .int .u32 0, .int .u32 0]) := ⟨by kernel_rfl, by kernel_rfl, by kernel_rfl⟩
instance : Ar Try.prog 130 8 128 := ⟨by kernel_rfl⟩
instance : Ty Try.prog 131 false 1 ([.nilFunc]) := ⟨by kernel_rfl, by kernel_rfl, by kernel_rfl⟩
instance : Ty Try.prog 132 true 64 (List.replicate 64 (.int .u32 0)) := ⟨by kernel_rfl, by kernel_rfl, by kernel_rfl⟩
instance : Ar Try.prog 132 64 128 := ⟨by kernel_rfl⟩
instance : Ty Try.prog 133 false 1 ([.nilFunc]) := ⟨by kernel_rfl, by kernel_rfl, by kernel_rfl⟩
instance : Ty Try.prog 134 false 1 ([.nilFunc]) := ⟨by kernel_rfl, by kernel_rfl, by kernel_rfl⟩
instance : Ty Try.prog 135 false 1 ([.nilFunc]) := ⟨by kernel_rfl, by kernel_rfl, by kernel_rfl⟩
instance : Ty Try.prog 136 false 1 ([.nilFunc]) := ⟨by kernel_rfl, by kernel_rfl, by kernel_rfl⟩
instance : Ty Try.prog 137 false 1 ([.nilFunc]) := ⟨by kernel_rfl, by kernel_rfl, by kernel_rfl⟩
instance : Ty Try.prog 138 false 1 ([.nilFunc]) := ⟨by kernel_rfl, by kernel_rfl, by kernel_rfl⟩
instance : Ty Try.prog 139 false 1 ([.nilFunc]) := ⟨by kernel_rfl, by kernel_rfl, by kernel_rfl⟩
instance : Ty Try.prog 140 false 1 ([.nilFunc]) := ⟨by kernel_rfl, by kernel_rfl, by kernel_rfl⟩
instance : Ty Try.prog 141 false 1 ([.nilFunc]) := ⟨by kernel_rfl, by kernel_rfl, by kernel_rfl⟩
instance : Ty Try.prog 142 false 1 ([.int .u64 0]) := ⟨by kernel_rfl, by kernel_rfl, by kernel_rfl⟩
instance : Ik Try.prog 142 .u64 := ⟨by kernel_rfl⟩
instance : Ty Try.prog 143 false 1 ([.nilFunc]) := ⟨by kernel_rfl, by kernel_rfl, by kernel_rfl⟩
instance : Ty Try.prog 144 false 1 ([.nilFunc]) := ⟨by kernel_rfl, by kernel_rfl, by kernel_rfl⟩
instance : Ty Try.prog 145 false 1 ([.nilFunc]) := ⟨by kernel_rfl, by kernel_rfl, by kernel_rfl⟩
instance : Ty Try.prog 146 false 1 ([.nilFunc]) := ⟨by kernel_rfl, by kernel_rfl, by kernel_rfl⟩
instance : Ty Try.prog 147 false 1 ([.nilFunc]) := ⟨by kernel_rfl, by kernel_rfl, by kernel_rfl⟩
instance : Ty Try.prog 148 false 1 ([.nilFunc]) := ⟨by kernel_rfl, by kernel_rfl, by kernel_rfl⟩
instance : Ty Try.prog 149 false 1 ([.nilFunc]) := ⟨by kernel_rfl, by kernel_rfl, by kernel_rfl⟩
instance : Ty Try.prog 150 false 1 ([.nilFunc]) := ⟨by kernel_rfl, by kernel_rfl, by kernel_rfl⟩
instance : Ty Try.prog 151 false 1 ([.nilFunc]) := ⟨by kernel_rfl, by kernel_rfl, by kernel_rfl⟩
instance : Ty Try.prog 152 false 1 ([.nilFunc]) := ⟨by kernel_rfl, by kernel_rfl, by kernel_rfl⟩
instance : Ty Try.prog 153 false 1 ([.nilFunc]) := ⟨by kernel_rfl, by kernel_rfl, by kernel_rfl⟩
instance : Ty Try.prog 154 false 1 ([.nilFunc]) := ⟨by kernel_rfl, by kernel_rfl, by kernel_rfl⟩
instance : Ty Try.prog 155 false 1 ([.nilFunc]) := ⟨by kernel_rfl, by kernel_rfl, by kernel_rfl⟩
instance : Ty Try.prog 156 false 1 ([.nilFunc]) := ⟨by kernel_rfl, by kernel_rfl, by kernel_rfl⟩
instance : Ty Try.prog 157 false 1 ([.slice none 0 0]) := ⟨by kernel_rfl, by kernel_rfl, by kernel_rfl⟩
instance : Sl Try.prog 157 22 8 := ⟨by kernel_rfl, by kernel_rfl⟩
instance : Ty Try.prog 158 false 1 ([.nilFunc]) := ⟨by kernel_rfl, by kernel_rfl, by kernel_rfl⟩
instance : Ty Try.prog 159 false 1 ([.nilFunc]) := ⟨by kernel_rfl, by kernel_rfl, by kernel_rfl⟩
instance : Ty Try.prog 160 false 1 ([.nilFunc]) := ⟨by kernel_rfl, by kernel_rfl, by kernel_rfl⟩
instance : Ty Try.prog 161 false 1 ([.nilFunc]) := ⟨by kernel_rfl, by kernel_rfl, by kernel_rfl⟩
instance : Ty Try.prog 162 false 1 ([.nilFunc]) := ⟨by kernel_rfl, by kernel_rfl, by kernel_rfl⟩
instance : Ty Try.prog 163 false 1 ([.nilFunc]) := ⟨by kernel_rfl, by kernel_rfl, by kernel_rfl⟩
instance : Ty Try.prog 164 false 1 ([.nilFunc]) := ⟨by kernel_rfl, by kernel_rfl, by kernel_rfl⟩
instance : Ty Try.prog 165 false 1 ([.nilFunc]) := ⟨by kernel_rfl, by kernel_rfl, by kernel_rfl⟩
instance : Ty Try.prog 166 false 1 ([.nilFunc]) := ⟨by kernel_rfl, by kernel_rfl, by kernel_rfl⟩
instance : Ty Try.prog 167 true 4 ([.pointer none, .pointer none, .pointer none, .string ⟨#[]⟩]) := ⟨by kernel_rfl, by kernel_rfl, by kernel_rfl⟩
instance : StP Try.prog 167 [(0, 1), (1, 1), (2, 1), (3, 1)] := ⟨by kernel_rfl⟩
instance : FldT Try.prog 167 0 0 false 1 := ⟨by kernel_rfl, rfl⟩
instance : FldT Try.prog 167 1 1 false 1 := ⟨by kernel_rfl, rfl⟩
instance : FldT Try.prog 167 2 2 false 1 := ⟨by kernel_rfl, rfl⟩
instance : FldT Try.prog 167 3 3 false 1 := ⟨by kernel_rfl, rfl⟩
instance : Ty Try.prog 168 true 4 ([.pointer none, .pointer none, .pointer none, .string ⟨#[]⟩]) := ⟨by kernel_rfl, by kernel_rfl, by kernel_rfl⟩
instance : StP Try.prog 168 [(0, 1), (1, 1), (2, 1), (3, 1)] := ⟨by kernel_rfl⟩
instance : FldT Try.prog 168 0 0 false 1 := ⟨by kernel_rfl, rfl⟩
instance : FldT Try.prog 168 1 1 false 1 := ⟨by kernel_rfl, rfl⟩
instance : FldT Try.prog 168 2 2 false 1 := ⟨by kernel_rfl, rfl⟩
instance : FldT Try.prog 168 3 3 false 1 := ⟨by kernel_rfl, rfl⟩
instance : Ty Try.prog 169 true 0 ([]) := ⟨by kernel_rfl, by kernel_rfl, by kernel_rfl⟩
instance : Ar Try.prog 169 0 16 := ⟨by kernel_rfl⟩
instance : Ty Try.prog 170 true 0 ([]) := ⟨by kernel_rfl, by kernel_rfl, by kernel_rfl⟩
instance : StP Try.prog 170 [(0, 0)] := ⟨by kernel_rfl⟩
instance : Ty Try.prog 171 true 0 ([]) := ⟨by kernel_rfl, by kernel_rfl, by kernel_rfl⟩
instance : StP Try.prog 171 [(0, 0)] := ⟨by kernel_rfl⟩
instance : Ty Try.prog 172 false 1 ([.nilFunc]) := ⟨by kernel_rfl, by kernel_rfl, by kernel_rfl⟩
instance : Ty Try.prog 173 false 1 ([.int .u8 0]) := ⟨by kernel_rfl, by kernel_rfl, by kernel_rfl⟩
instance : Ik Try.prog 173 .u8 := ⟨by kernel_rfl⟩
instance : Ty Try.prog 174 false 1 ([.int .u8 0]) := ⟨by kernel_rfl, by kernel_rfl, by kernel_rfl⟩
instance : Ik Try.prog 174 .u8 := ⟨by kernel_rfl⟩
instance : Ty Try.prog 175 false 1 ([.nilFunc]) := ⟨by kernel_rfl, by kernel_rfl, by kernel_rfl⟩
instance : Ty Try.prog 176 false 1 ([.pointer none]) := ⟨by kernel_rfl, by kernel_rfl, by kernel_rfl⟩
instance : Pt Try.prog 176 5 := ⟨by kernel_rfl⟩
instance : Ty Try.prog 177 false 1 ([.int .i32 0]) := ⟨by kernel_rfl, by kernel_rfl, by kernel_rfl⟩
instance : Ik Try.prog 177 .i32 := ⟨by kernel_rfl⟩
instance : Ty Try.prog 178 false 1 ([.int .i32 0]) := ⟨by kernel_rfl, by kernel_rfl, by kernel_rfl⟩
instance : Ik Try.prog 178 .i32 := ⟨by kernel_rfl⟩
instance : Ty Try.prog 179 true 11 ([.int .u64 0, .int .u64 0, .int .u32 0, .int .u8 0, .int .u8 0, .int .u8 0, .int .u8 0, .nilFunc, .pointer none, .int .i32 0, .int .i32 0]) := ⟨by kernel_rfl, by kernel_rfl, by kernel_rfl⟩
instance : StP Try.prog 179 [(0, 1), (1, 1), (2, 1), (3, 1), (4, 1), (5, 1), (6, 1), (7, 1), (8, 1), (9, 1), (10, 1)] := ⟨by kernel_rfl⟩
instance : FldT Try.prog 179 0 0 false 1 := ⟨by kernel_rfl, rfl⟩
instance : FldT Try.prog 179 1 1 false 1 := ⟨by kernel_rfl, rfl⟩
instance : FldT Try.prog 179 2 2 false 1 := ⟨by kernel_rfl, rfl⟩
instance : FldT Try.prog 179 3 3 false 1 := ⟨by kernel_rfl, rfl⟩
instance : FldT Try.prog 179 4 4 false 1 := ⟨by kernel_rfl, rfl⟩
instance : FldT Try.prog 179 5 5 false 1 := ⟨by kernel_rfl, rfl⟩
instance : FldT Try.prog 179 6 6 false 1 := ⟨by kernel_rfl, rfl⟩
instance : FldT Try.prog 179 7 7 false 1 := ⟨by kernel_rfl, rfl⟩
instance : FldT Try.prog 179 8 8 false 1 := ⟨by kernel_rfl, rfl⟩
instance : FldT Try.prog 179 9 9 false 1 := ⟨by kernel_rfl, rfl⟩
instance : FldT Try.prog 179 10 10 false 1 := ⟨by kernel_rfl, rfl⟩
instance : Ty Try.prog 180 true 11 ([.int .u64 0, .int .u64 0, .int .u32 0, .int .u8 0, .int .u8 0, .int .u8 0, .int .u8 0, .nilFunc, .pointer none, .int .i32 0, .int .i32 0]) := ⟨by kernel_rfl, by kernel_rfl, by kernel_rfl⟩
instance : StP Try.prog 180 [(0, 1), (1, 1), (2, 1), (3, 1), (4, 1), (5, 1), (6, 1), (7, 1), (8, 1), (9, 1), (10, 1)] := ⟨by kernel_rfl⟩
instance : FldT Try.prog 180 0 0 false 1 := ⟨by kernel_rfl, rfl⟩
instance : FldT Try.prog 180 1 1 false 1 := ⟨by kernel_rfl, rfl⟩
instance : FldT Try.prog 180 2 2 false 1 := ⟨by kernel_rfl, rfl⟩
instance : FldT Try.prog 180 3 3 false 1 := ⟨by kernel_rfl, rfl⟩
instance : FldT Try.prog 180 4 4 false 1 := ⟨by kernel_rfl, rfl⟩
instance : FldT Try.prog 180 5 5 false 1 := ⟨by kernel_rfl, rfl⟩
instance : FldT Try.prog 180 6 6 false 1 := ⟨by kernel_rfl, rfl⟩
instance : FldT Try.prog 180 7 7 false 1 := ⟨by kernel_rfl, rfl⟩
instance : FldT Try.prog 180 8 8 false 1 := ⟨by kernel_rfl, rfl⟩
instance : FldT Try.prog 180 9 9 false 1 := ⟨by kernel_rfl, rfl⟩
instance : FldT Try.prog 180 10 10 false 1 := ⟨by kernel_rfl, rfl⟩
-- narrows/narrowslaw12.EscrowReverts
instance : Enters Try.prog 3 := enters_of' Try.func3 (by kernel_rfl) (by kernel_rfl)
-- narrows/narrowslaw12.EscrowPlain
instance : Enters Try.prog 4 := enters_of' Try.func4 (by kernel_rfl) (by kernel_rfl)
-- narrows/narrowslaw12.EscrowWhole
instance : Enters Try.prog 5 := enters_of' Try.func5 (by kernel_rfl) (by kernel_rfl)
-- narrows/narrowslaw12.alive
instance : Enters Try.prog 6 := enters_of' Try.func6 (by kernel_rfl) (by kernel_rfl)
-- narrows/narrowslaw12.side
instance : Enters Try.prog 7 := enters_of' Try.func7 (by kernel_rfl) (by kernel_rfl)
-- narrows/escrow.Apply
instance : Enters Try.prog 8 := enters_of' Try.func8 (by kernel_rfl) (by kernel_rfl)
-- narrows/narrowslaw12.same
instance : Enters Try.prog 9 := enters_of' Try.func9 (by kernel_rfl) (by kernel_rfl)
-- narrows/narrowslaw12.plain
instance : Enters Try.prog 10 := enters_of' Try.func10 (by kernel_rfl) (by kernel_rfl)
-- narrows/narrowsref01.Sub
instance : Enters Try.prog 11 := enters_of' Try.func11 (by kernel_rfl) (by kernel_rfl)
-- narrows/narrowsref01.Add
instance : Enters Try.prog 12 := enters_of' Try.func12 (by kernel_rfl) (by kernel_rfl)
-- narrows/escrow.Genesis
instance : Enters Try.prog 13 := enters_of' Try.func13 (by kernel_rfl) (by kernel_rfl)
-- narrows/purse.Even
instance : Enters Try.prog 14 := enters_of' Try.func14 (by kernel_rfl) (by kernel_rfl)
-- narrows/escrow.Rise
instance : Enters Try.prog 15 := enters_of' Try.func15 (by kernel_rfl) (by kernel_rfl)
-- (narrows/purse.Book).Total
instance : Enters Try.prog 16 := enters_of' Try.func16 (by kernel_rfl) (by kernel_rfl)
-- (narrows/purse.Book).Of
instance : Enters Try.prog 17 := enters_of' Try.func17 (by kernel_rfl) (by kernel_rfl)
-- slices.Clone[[]narrows/escrow.Lock,narrows/escrow.Lock]
instance : Enters Try.prog 18 := enters_of' Try.func18 (by kernel_rfl) (by kernel_rfl)
-- narrows/txs.Check
instance : Enters Try.prog 19 := enters_of' Try.func19 (by kernel_rfl) (by kernel_rfl)
-- (narrows/purse.Book).Take
instance : Enters Try.prog 20 := enters_of' Try.func20 (by kernel_rfl) (by kernel_rfl)
-- narrows/wide.Of
instance : Enters Try.prog 21 := enters_of' Try.func21 (by kernel_rfl) (by kernel_rfl)
-- narrows/wide.Add
instance : Enters Try.prog 22 := enters_of' Try.func22 (by kernel_rfl) (by kernel_rfl)
-- (narrows/escrow.State).try
instance : Enters Try.prog 23 := enters_of' Try.func23 (by kernel_rfl) (by kernel_rfl)
-- narrows/narrowsref01.Cmp
instance : Enters Try.prog 24 := enters_of' Try.func24 (by kernel_rfl) (by kernel_rfl)
-- narrows/narrowsref01.Digits
instance : Enters Try.prog 25 := enters_of' Try.func25 (by kernel_rfl) (by kernel_rfl)
-- narrows/narrowsref01.Made
instance : Enters Try.prog 26 := enters_of' Try.func26 (by kernel_rfl) (by kernel_rfl)
-- narrows/purse.at
instance : Enters Try.prog 27 := enters_of' Try.func27 (by kernel_rfl) (by kernel_rfl)
-- narrows/wide.Sum
instance : Enters Try.prog 28 := enters_of' Try.func28 (by kernel_rfl) (by kernel_rfl)
-- narrows/txs.route
instance : Enters Try.prog 29 := enters_of' Try.func29 (by kernel_rfl) (by kernel_rfl)
-- narrows/deal.Check
instance : Enters Try.prog 30 := enters_of' Try.func30 (by kernel_rfl) (by kernel_rfl)
-- narrows/deal.Sound
instance : Enters Try.prog 31 := enters_of' Try.func31 (by kernel_rfl) (by kernel_rfl)
-- narrows/wide.Sub
instance : Enters Try.prog 32 := enters_of' Try.func32 (by kernel_rfl) (by kernel_rfl)
-- (narrows/escrow.State).try$1
instance : Enters Try.prog 34 := enters_of' Try.func34 (by kernel_rfl) (by kernel_rfl)
-- (*narrows/escrow.State).do
instance : Enters Try.prog 35 := enters_of' Try.func35 (by kernel_rfl) (by kernel_rfl)
-- narrows/deal.in
instance : Enters Try.prog 36 := enters_of' Try.func36 (by kernel_rfl) (by kernel_rfl)
-- (narrows/purse.Book).Move
instance : Enters Try.prog 38 := enters_of' Try.func38 (by kernel_rfl) (by kernel_rfl)
-- narrows/escrow.check
instance : Enters Try.prog 39 := enters_of' Try.func39 (by kernel_rfl) (by kernel_rfl)
-- (*narrows/escrow.State).store
instance : Enters Try.prog 40 := enters_of' Try.func40 (by kernel_rfl) (by kernel_rfl)
-- (*narrows/escrow.State).draw
instance : Enters Try.prog 41 := enters_of' Try.func41 (by kernel_rfl) (by kernel_rfl)
-- (*narrows/escrow.State).prepare
instance : Enters Try.prog 42 := enters_of' Try.func42 (by kernel_rfl) (by kernel_rfl)
-- (*narrows/escrow.State).fulfil
instance : Enters Try.prog 43 := enters_of' Try.func43 (by kernel_rfl) (by kernel_rfl)
-- (*narrows/escrow.State).cancel
instance : Enters Try.prog 44 := enters_of' Try.func44 (by kernel_rfl) (by kernel_rfl)
-- (narrows/purse.Book).Give
instance : Enters Try.prog 45 := enters_of' Try.func45 (by kernel_rfl) (by kernel_rfl)
-- narrows/escrow.take
instance : Enters Try.prog 46 := enters_of' Try.func46 (by kernel_rfl) (by kernel_rfl)
-- narrows/escrow.put
instance : Enters Try.prog 47 := enters_of' Try.func47 (by kernel_rfl) (by kernel_rfl)
-- (*narrows/escrow.State).hold
instance : Enters Try.prog 48 := enters_of' Try.func48 (by kernel_rfl) (by kernel_rfl)
-- narrows/escrow.need
instance : Enters Try.prog 49 := enters_of' Try.func49 (by kernel_rfl) (by kernel_rfl)
-- (*narrows/escrow.State).vault
instance : Enters Try.prog 50 := enters_of' Try.func50 (by kernel_rfl) (by kernel_rfl)
-- (*narrows/escrow.State).free
instance : Enters Try.prog 51 := enters_of' Try.func51 (by kernel_rfl) (by kernel_rfl)
-- narrows/deal.Key
instance : Enters Try.prog 52 := enters_of' Try.func52 (by kernel_rfl) (by kernel_rfl)
-- (*narrows/escrow.State).place
instance : Enters Try.prog 53 := enters_of' Try.func53 (by kernel_rfl) (by kernel_rfl)
-- narrows/deal.Digest
instance : Enters Try.prog 54 := enters_of' Try.func54 (by kernel_rfl) (by kernel_rfl)
-- (*narrows/escrow.State).lock
instance : Enters Try.prog 55 := enters_of' Try.func55 (by kernel_rfl) (by kernel_rfl)
-- narrows/escrow.signed
instance : Enters Try.prog 56 := enters_of' Try.func56 (by kernel_rfl) (by kernel_rfl)
-- narrows/field.New
instance : Enters Try.prog 57 := enters_of' Try.func57 (by kernel_rfl) (by kernel_rfl)
-- narrows/deal.Put
instance : Enters Try.prog 58 := enters_of' Try.func58 (by kernel_rfl) (by kernel_rfl)
-- (*narrows/field.Out).Done
instance : Enters Try.prog 59 := enters_of' Try.func59 (by kernel_rfl) (by kernel_rfl)
-- narrows/hash.Text
instance : Enters Try.prog 60 := enters_of' Try.func60 (by kernel_rfl) (by kernel_rfl)
-- slices.IndexFunc[[]narrows/escrow.Lock,narrows/escrow.Lock]
instance : Enters Try.prog 61 := enters_of' Try.func61 (by kernel_rfl) (by kernel_rfl)
-- (*narrows/escrow.State).place$1
instance : Enters Try.prog 62 := enters_of' Try.func62 (by kernel_rfl) (by kernel_rfl)
-- (*narrows/field.Out).Text
instance : Enters Try.prog 63 := enters_of' Try.func63 (by kernel_rfl) (by kernel_rfl)
-- narrows/deal.PutVar
instance : Enters Try.prog 64 := enters_of' Try.func64 (by kernel_rfl) (by kernel_rfl)
-- narrows/mss.Verify
instance : Enters Try.prog 65 := enters_of' Try.func65 (by kernel_rfl) (by kernel_rfl)
-- narrows/deal.Payload
instance : Enters Try.prog 66 := enters_of' Try.func66 (by kernel_rfl) (by kernel_rfl)
-- (*narrows/field.Out).Num
instance : Enters Try.prog 67 := enters_of' Try.func67 (by kernel_rfl) (by kernel_rfl)
-- narrows/blob.Cat
instance : Enters Try.prog 68 := enters_of' Try.func68 (by kernel_rfl) (by kernel_rfl)
-- narrows/hash.Sum
instance : Enters Try.prog 69 := enters_of' Try.func69 (by kernel_rfl) (by kernel_rfl)
-- (*narrows/field.Out).put
instance : Enters Try.prog 70 := enters_of' Try.func70 (by kernel_rfl) (by kernel_rfl)
-- narrows/blob.Num
instance : Enters Try.prog 71 := enters_of' Try.func71 (by kernel_rfl) (by kernel_rfl)
-- (*narrows/field.Out).Wide
instance : Enters Try.prog 72 := enters_of' Try.func72 (by kernel_rfl) (by kernel_rfl)
-- narrows/mss.Leaf
instance : Enters Try.prog 73 := enters_of' Try.func73 (by kernel_rfl) (by kernel_rfl)
-- narrows/blob.Cut
instance : Enters Try.prog 74 := enters_of' Try.func74 (by kernel_rfl) (by kernel_rfl)
-- narrows/mss.climb
instance : Enters Try.prog 75 := enters_of' Try.func75 (by kernel_rfl) (by kernel_rfl)
-- narrows/ots.Open
instance : Enters Try.prog 76 := enters_of' Try.func76 (by kernel_rfl) (by kernel_rfl)
-- slices.Concat[[]byte,byte]
instance : Enters Try.prog 77 := enters_of' Try.func77 (by kernel_rfl) (by kernel_rfl)
-- narrows/hash.begin
instance : Enters Try.prog 78 := enters_of' Try.func78 (by kernel_rfl) (by kernel_rfl)
-- narrows/hash.keys
instance : Enters Try.prog 79 := enters_of' Try.func79 (by kernel_rfl) (by kernel_rfl)
-- slices.Chunk[[]byte,byte]
instance : Enters Try.prog 80 := enters_of' Try.func80 (by kernel_rfl) (by kernel_rfl)
-- narrows/hash.Pad
instance : Enters Try.prog 81 := enters_of' Try.func81 (by kernel_rfl) (by kernel_rfl)
-- narrows/hash.schedule
instance : Enters Try.prog 82 := enters_of' Try.func82 (by kernel_rfl) (by kernel_rfl)
-- (narrows/hash.eight).round
instance : Enters Try.prog 83 := enters_of' Try.func83 (by kernel_rfl) (by kernel_rfl)
-- slices.Backward[[]byte,byte]
instance : Enters Try.prog 84 := enters_of' Try.func84 (by kernel_rfl) (by kernel_rfl)
-- narrows/blob.Wide
instance : Enters Try.prog 85 := enters_of' Try.func85 (by kernel_rfl) (by kernel_rfl)
-- slices.Clone[[]byte,byte]
instance : Enters Try.prog 86 := enters_of' Try.func86 (by kernel_rfl) (by kernel_rfl)
-- narrows/mss.join
instance : Enters Try.prog 87 := enters_of' Try.func87 (by kernel_rfl) (by kernel_rfl)
-- slices.ContainsFunc[[]string,string]
instance : Enters Try.prog 88 := enters_of' Try.func88 (by kernel_rfl) (by kernel_rfl)
-- narrows/ots.Open$1
instance : Enters Try.prog 89 := enters_of' Try.func89 (by kernel_rfl) (by kernel_rfl)
-- narrows/ots.closed
instance : Enters Try.prog 90 := enters_of' Try.func90 (by kernel_rfl) (by kernel_rfl)
-- narrows/ots.Digits
instance : Enters Try.prog 91 := enters_of' Try.func91 (by kernel_rfl) (by kernel_rfl)
-- slices.Grow[[]byte,byte]
instance : Enters Try.prog 92 := enters_of' Try.func92 (by kernel_rfl) (by kernel_rfl)
-- slices.Chunk[[]byte,byte]$1
instance : Enters Try.prog 93 := enters_of' Try.func93 (by kernel_rfl) (by kernel_rfl)
-- narrows/blob.Int
instance : Enters Try.prog 94 := enters_of' Try.func94 (by kernel_rfl) (by kernel_rfl)
-- narrows/hash.three
instance : Enters Try.prog 95 := enters_of' Try.func95 (by kernel_rfl) (by kernel_rfl)
-- slices.Backward[[]byte,byte]$1
instance : Enters Try.prog 96 := enters_of' Try.func96 (by kernel_rfl) (by kernel_rfl)
-- slices.Backward[[]uint64,uint64]
instance : Enters Try.prog 97 := enters_of' Try.func97 (by kernel_rfl) (by kernel_rfl)
-- narrows/hash.Short
instance : Enters Try.prog 98 := enters_of' Try.func98 (by kernel_rfl) (by kernel_rfl)
-- slices.IndexFunc[[]string,string]
instance : Enters Try.prog 99 := enters_of' Try.func99 (by kernel_rfl) (by kernel_rfl)
-- narrows/ots.Walk
instance : Enters Try.prog 100 := enters_of' Try.func100 (by kernel_rfl) (by kernel_rfl)
-- narrows/ots.spread
instance : Enters Try.prog 101 := enters_of' Try.func101 (by kernel_rfl) (by kernel_rfl)
-- narrows/hash.rotr
instance : Enters Try.prog 102 := enters_of' Try.func102 (by kernel_rfl) (by kernel_rfl)
-- slices.Backward[[]uint64,uint64]$1
instance : Enters Try.prog 103 := enters_of' Try.func103 (by kernel_rfl) (by kernel_rfl)
-- slices.Backward[[]int,int]
instance : Enters Try.prog 104 := enters_of' Try.func104 (by kernel_rfl) (by kernel_rfl)
-- math/bits.RotateLeft32
instance : Enters Try.prog 105 := enters_of' Try.func105 (by kernel_rfl) (by kernel_rfl)
-- slices.Backward[[]int,int]$1
instance : Enters Try.prog 106 := enters_of' Try.func106 (by kernel_rfl) (by kernel_rfl)
end Go.Proofs.Ytljbedladifgmaa
