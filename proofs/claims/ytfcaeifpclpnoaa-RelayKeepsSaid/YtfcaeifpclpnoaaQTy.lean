/-
  The types of this seat's translation, and the functions that are entered, as instances for the engine. No conditions.
-/
import Derived.Test.YtfcaeifpclpnoaaRows
import Derived.Test.YtfcaeifpclpnoaaQRow
namespace Go.Proofs.Ytfcaeifpclpnoaa
open Go Go.RowKit Eng
set_option maxRecDepth 100000

instance : Ty Try.prog 1 false 1 ([.nilFunc]) := ⟨by kernel_rfl, by kernel_rfl, by kernel_rfl⟩
instance : Ty Try.prog 2 false 1 ([.int .i64 0]) := ⟨by kernel_rfl, by kernel_rfl, by kernel_rfl⟩
instance : Ik Try.prog 2 .i64 := ⟨by kernel_rfl⟩
instance : Ty Try.prog 3 false 1 ([.int .i64 0]) := ⟨by kernel_rfl, by kernel_rfl, by kernel_rfl⟩
instance : Ik Try.prog 3 .i64 := ⟨by kernel_rfl⟩
instance : Ty Try.prog 4 false 1 ([.bool false]) := ⟨by kernel_rfl, by kernel_rfl, by kernel_rfl⟩
instance : BoolT Try.prog 4 := ⟨by kernel_rfl⟩
instance : Ty Try.prog 5 false 1 ([.int .u8 0]) := ⟨by kernel_rfl, by kernel_rfl, by kernel_rfl⟩
instance : Ik Try.prog 5 .u8 := ⟨by kernel_rfl⟩
instance : Ty Try.prog 6 false 1 ([.int .u8 0]) := ⟨by kernel_rfl, by kernel_rfl, by kernel_rfl⟩
instance : Ik Try.prog 6 .u8 := ⟨by kernel_rfl⟩
instance : Ty Try.prog 7 true 4 ([.int .i64 0, .int .i64 0, .bool false, .int .u8 0]) := ⟨by kernel_rfl, by kernel_rfl, by kernel_rfl⟩
instance : StP Try.prog 7 [(0, 1), (1, 1), (2, 1), (3, 1)] := ⟨by kernel_rfl⟩
instance : FldT Try.prog 7 0 0 false 1 := ⟨by kernel_rfl, rfl⟩
instance : FldT Try.prog 7 1 1 false 1 := ⟨by kernel_rfl, rfl⟩
instance : FldT Try.prog 7 2 2 false 1 := ⟨by kernel_rfl, rfl⟩
instance : FldT Try.prog 7 3 3 false 1 := ⟨by kernel_rfl, rfl⟩
instance : Ty Try.prog 8 true 4 ([.int .i64 0, .int .i64 0, .bool false, .int .u8 0]) := ⟨by kernel_rfl, by kernel_rfl, by kernel_rfl⟩
instance : StP Try.prog 8 [(0, 1), (1, 1), (2, 1), (3, 1)] := ⟨by kernel_rfl⟩
instance : FldT Try.prog 8 0 0 false 1 := ⟨by kernel_rfl, rfl⟩
instance : FldT Try.prog 8 1 1 false 1 := ⟨by kernel_rfl, rfl⟩
instance : FldT Try.prog 8 2 2 false 1 := ⟨by kernel_rfl, rfl⟩
instance : FldT Try.prog 8 3 3 false 1 := ⟨by kernel_rfl, rfl⟩
instance : Ty Try.prog 9 false 1 ([.string ⟨#[]⟩]) := ⟨by kernel_rfl, by kernel_rfl, by kernel_rfl⟩
instance : StrT Try.prog 9 := ⟨by kernel_rfl⟩
instance : Ty Try.prog 10 false 1 ([.string ⟨#[]⟩]) := ⟨by kernel_rfl, by kernel_rfl, by kernel_rfl⟩
instance : StrT Try.prog 10 := ⟨by kernel_rfl⟩
instance : Ty Try.prog 11 false 1 ([.string ⟨#[]⟩]) := ⟨by kernel_rfl, by kernel_rfl, by kernel_rfl⟩
instance : StrT Try.prog 11 := ⟨by kernel_rfl⟩
instance : Ty Try.prog 12 false 1 ([.int .u64 0]) := ⟨by kernel_rfl, by kernel_rfl, by kernel_rfl⟩
instance : Ik Try.prog 12 .u64 := ⟨by kernel_rfl⟩
instance : Ty Try.prog 13 true 2 ([.string ⟨#[]⟩, .int .u64 0]) := ⟨by kernel_rfl, by kernel_rfl, by kernel_rfl⟩
instance : StP Try.prog 13 [(0, 1), (1, 1)] := ⟨by kernel_rfl⟩
instance : FldT Try.prog 13 0 0 false 1 := ⟨by kernel_rfl, rfl⟩
instance : FldT Try.prog 13 1 1 false 1 := ⟨by kernel_rfl, rfl⟩
instance : Ty Try.prog 14 true 2 ([.string ⟨#[]⟩, .int .u64 0]) := ⟨by kernel_rfl, by kernel_rfl, by kernel_rfl⟩
instance : StP Try.prog 14 [(0, 1), (1, 1)] := ⟨by kernel_rfl⟩
instance : FldT Try.prog 14 0 0 false 1 := ⟨by kernel_rfl, rfl⟩
instance : FldT Try.prog 14 1 1 false 1 := ⟨by kernel_rfl, rfl⟩
instance : Ty Try.prog 15 false 1 ([.pointer none]) := ⟨by kernel_rfl, by kernel_rfl, by kernel_rfl⟩
instance : Pt Try.prog 15 218 := ⟨by kernel_rfl⟩
instance : Ty Try.prog 16 false 1 ([.pointer none]) := ⟨by kernel_rfl, by kernel_rfl, by kernel_rfl⟩
instance : Pt Try.prog 16 221 := ⟨by kernel_rfl⟩
instance : Ty Try.prog 17 false 1 ([.pointer none]) := ⟨by kernel_rfl, by kernel_rfl, by kernel_rfl⟩
instance : Pt Try.prog 17 228 := ⟨by kernel_rfl⟩
instance : Ty Try.prog 18 true 1 ([.pointer none]) := ⟨by kernel_rfl, by kernel_rfl, by kernel_rfl⟩
instance : StP Try.prog 18 [(0, 1)] := ⟨by kernel_rfl⟩
instance : FldT Try.prog 18 0 0 false 1 := ⟨by kernel_rfl, rfl⟩
instance : Ty Try.prog 19 true 1 ([.pointer none]) := ⟨by kernel_rfl, by kernel_rfl, by kernel_rfl⟩
instance : StP Try.prog 19 [(0, 1)] := ⟨by kernel_rfl⟩
instance : FldT Try.prog 19 0 0 false 1 := ⟨by kernel_rfl, rfl⟩
instance : Ty Try.prog 20 false 1 ([.nilIface]) := ⟨by kernel_rfl, by kernel_rfl, by kernel_rfl⟩
instance : Ty Try.prog 21 false 1 ([.int .i32 0]) := ⟨by kernel_rfl, by kernel_rfl, by kernel_rfl⟩
instance : Ik Try.prog 21 .i32 := ⟨by kernel_rfl⟩
instance : Ty Try.prog 22 false 1 ([.int .u64 0]) := ⟨by kernel_rfl, by kernel_rfl, by kernel_rfl⟩
instance : Ik Try.prog 22 .u64 := ⟨by kernel_rfl⟩
instance : Ty Try.prog 23 true 4 ([.int .u64 0, .int .u64 0, .int .u64 0, .int .u64 0]) := ⟨by kernel_rfl, by kernel_rfl, by kernel_rfl⟩
instance : Ar Try.prog 23 4 22 := ⟨by kernel_rfl⟩
instance : Ty Try.prog 24 true 4 ([.int .u64 0, .int .u64 0, .int .u64 0, .int .u64 0]) := ⟨by kernel_rfl, by kernel_rfl, by kernel_rfl⟩
instance : Ar Try.prog 24 4 22 := ⟨by kernel_rfl⟩
instance : Ty Try.prog 25 false 1 ([.nilFunc]) := ⟨by kernel_rfl, by kernel_rfl, by kernel_rfl⟩
instance : Ty Try.prog 26 false 1 ([.pointer none]) := ⟨by kernel_rfl, by kernel_rfl, by kernel_rfl⟩
instance : Pt Try.prog 26 76 := ⟨by kernel_rfl⟩
instance : Ty Try.prog 27 false 1 ([.int .i64 0]) := ⟨by kernel_rfl, by kernel_rfl, by kernel_rfl⟩
instance : Ik Try.prog 27 .i64 := ⟨by kernel_rfl⟩
instance : Ty Try.prog 29 false 1 ([.nilFunc]) := ⟨by kernel_rfl, by kernel_rfl, by kernel_rfl⟩
instance : Ty Try.prog 30 false 1 ([.nilFunc]) := ⟨by kernel_rfl, by kernel_rfl, by kernel_rfl⟩
instance : Ty Try.prog 31 false 1 ([.nilFunc]) := ⟨by kernel_rfl, by kernel_rfl, by kernel_rfl⟩
instance : Ty Try.prog 32 false 1 ([.slice none 0 0]) := ⟨by kernel_rfl, by kernel_rfl, by kernel_rfl⟩
instance : Sl Try.prog 32 24 32 := ⟨by kernel_rfl, by kernel_rfl⟩
instance : Ty Try.prog 33 false 1 ([.nilFunc]) := ⟨by kernel_rfl, by kernel_rfl, by kernel_rfl⟩
instance : Ty Try.prog 34 false 1 ([.nilFunc]) := ⟨by kernel_rfl, by kernel_rfl, by kernel_rfl⟩
instance : Ty Try.prog 35 false 1 ([.nilFunc]) := ⟨by kernel_rfl, by kernel_rfl, by kernel_rfl⟩
instance : Ty Try.prog 36 false 1 ([.nilFunc]) := ⟨by kernel_rfl, by kernel_rfl, by kernel_rfl⟩
instance : Ty Try.prog 37 false 1 ([.nilFunc]) := ⟨by kernel_rfl, by kernel_rfl, by kernel_rfl⟩
instance : Ty Try.prog 38 true 9 ([.int .i64 0, .int .i64 0, .int .i64 0, .int .i64 0, .int .u64 0, .int .u64 0, .int .u64 0, .int .u64 0, .string ⟨#[]⟩]) := ⟨by kernel_rfl, by kernel_rfl, by kernel_rfl⟩
instance : StP Try.prog 38 [(0, 1), (1, 1), (2, 1), (3, 1), (4, 4), (8, 1)] := ⟨by kernel_rfl⟩
instance : FldT Try.prog 38 0 0 false 1 := ⟨by kernel_rfl, rfl⟩
instance : FldT Try.prog 38 1 1 false 1 := ⟨by kernel_rfl, rfl⟩
instance : FldT Try.prog 38 2 2 false 1 := ⟨by kernel_rfl, rfl⟩
instance : FldT Try.prog 38 3 3 false 1 := ⟨by kernel_rfl, rfl⟩
instance : FldT Try.prog 38 4 4 true 4 := ⟨by kernel_rfl, rfl⟩
instance : FldT Try.prog 38 5 8 false 1 := ⟨by kernel_rfl, rfl⟩
instance : Ty Try.prog 39 true 9 ([.int .i64 0, .int .i64 0, .int .i64 0, .int .i64 0, .int .u64 0, .int .u64 0, .int .u64 0, .int .u64 0, .string ⟨#[]⟩]) := ⟨by kernel_rfl, by kernel_rfl, by kernel_rfl⟩
instance : StP Try.prog 39 [(0, 1), (1, 1), (2, 1), (3, 1), (4, 4), (8, 1)] := ⟨by kernel_rfl⟩
instance : FldT Try.prog 39 0 0 false 1 := ⟨by kernel_rfl, rfl⟩
instance : FldT Try.prog 39 1 1 false 1 := ⟨by kernel_rfl, rfl⟩
instance : FldT Try.prog 39 2 2 false 1 := ⟨by kernel_rfl, rfl⟩
instance : FldT Try.prog 39 3 3 false 1 := ⟨by kernel_rfl, rfl⟩
instance : FldT Try.prog 39 4 4 true 4 := ⟨by kernel_rfl, rfl⟩
instance : FldT Try.prog 39 5 8 false 1 := ⟨by kernel_rfl, rfl⟩
instance : Ty Try.prog 40 true 16 ([.int .i64 0, .int .i64 0, .int .i64 0, .int .i64 0, .int .i64 0, .int .u64 0, .int .u64 0, .int .u64 0, .int .u64 0, .string ⟨#[]⟩, .int .u64 0, .int .u64 0, .int .u64 0, .int .u64 0, .int .i64 0, .string ⟨#[]⟩]) := ⟨by kernel_rfl, by kernel_rfl, by kernel_rfl⟩
instance : StP Try.prog 40 [(0, 1), (1, 9), (10, 4), (14, 1), (15, 1)] := ⟨by kernel_rfl⟩
instance : FldT Try.prog 40 0 0 false 1 := ⟨by kernel_rfl, rfl⟩
instance : FldT Try.prog 40 1 1 true 9 := ⟨by kernel_rfl, rfl⟩
instance : FldT Try.prog 40 2 10 true 4 := ⟨by kernel_rfl, rfl⟩
instance : FldT Try.prog 40 3 14 false 1 := ⟨by kernel_rfl, rfl⟩
instance : FldT Try.prog 40 4 15 false 1 := ⟨by kernel_rfl, rfl⟩
instance : Ty Try.prog 41 true 16 ([.int .i64 0, .int .i64 0, .int .i64 0, .int .i64 0, .int .i64 0, .int .u64 0, .int .u64 0, .int .u64 0, .int .u64 0, .string ⟨#[]⟩, .int .u64 0, .int .u64 0, .int .u64 0, .int .u64 0, .int .i64 0, .string ⟨#[]⟩]) := ⟨by kernel_rfl, by kernel_rfl, by kernel_rfl⟩
instance : StP Try.prog 41 [(0, 1), (1, 9), (10, 4), (14, 1), (15, 1)] := ⟨by kernel_rfl⟩
instance : FldT Try.prog 41 0 0 false 1 := ⟨by kernel_rfl, rfl⟩
instance : FldT Try.prog 41 1 1 true 9 := ⟨by kernel_rfl, rfl⟩
instance : FldT Try.prog 41 2 10 true 4 := ⟨by kernel_rfl, rfl⟩
instance : FldT Try.prog 41 3 14 false 1 := ⟨by kernel_rfl, rfl⟩
instance : FldT Try.prog 41 4 15 false 1 := ⟨by kernel_rfl, rfl⟩
instance : Ty Try.prog 42 true 7 ([.int .i64 0, .string ⟨#[]⟩, .int .i64 0, .int .i64 0, .int .i64 0, .int .i64 0, .string ⟨#[]⟩]) := ⟨by kernel_rfl, by kernel_rfl, by kernel_rfl⟩
instance : StP Try.prog 42 [(0, 1), (1, 1), (2, 1), (3, 1), (4, 1), (5, 1), (6, 1)] := ⟨by kernel_rfl⟩
instance : FldT Try.prog 42 0 0 false 1 := ⟨by kernel_rfl, rfl⟩
instance : FldT Try.prog 42 1 1 false 1 := ⟨by kernel_rfl, rfl⟩
instance : FldT Try.prog 42 2 2 false 1 := ⟨by kernel_rfl, rfl⟩
instance : FldT Try.prog 42 3 3 false 1 := ⟨by kernel_rfl, rfl⟩
instance : FldT Try.prog 42 4 4 false 1 := ⟨by kernel_rfl, rfl⟩
instance : FldT Try.prog 42 5 5 false 1 := ⟨by kernel_rfl, rfl⟩
instance : FldT Try.prog 42 6 6 false 1 := ⟨by kernel_rfl, rfl⟩
instance : Ty Try.prog 43 true 7 ([.int .i64 0, .string ⟨#[]⟩, .int .i64 0, .int .i64 0, .int .i64 0, .int .i64 0, .string ⟨#[]⟩]) := ⟨by kernel_rfl, by kernel_rfl, by kernel_rfl⟩
instance : StP Try.prog 43 [(0, 1), (1, 1), (2, 1), (3, 1), (4, 1), (5, 1), (6, 1)] := ⟨by kernel_rfl⟩
instance : FldT Try.prog 43 0 0 false 1 := ⟨by kernel_rfl, rfl⟩
instance : FldT Try.prog 43 1 1 false 1 := ⟨by kernel_rfl, rfl⟩
instance : FldT Try.prog 43 2 2 false 1 := ⟨by kernel_rfl, rfl⟩
instance : FldT Try.prog 43 3 3 false 1 := ⟨by kernel_rfl, rfl⟩
instance : FldT Try.prog 43 4 4 false 1 := ⟨by kernel_rfl, rfl⟩
instance : FldT Try.prog 43 5 5 false 1 := ⟨by kernel_rfl, rfl⟩
instance : FldT Try.prog 43 6 6 false 1 := ⟨by kernel_rfl, rfl⟩
instance : Ty Try.prog 44 true 5 ([.int .u64 0, .int .u64 0, .int .u64 0, .int .u64 0, .int .i64 0]) := ⟨by kernel_rfl, by kernel_rfl, by kernel_rfl⟩
instance : StP Try.prog 44 [(0, 4), (4, 1)] := ⟨by kernel_rfl⟩
instance : FldT Try.prog 44 0 0 true 4 := ⟨by kernel_rfl, rfl⟩
instance : FldT Try.prog 44 1 4 false 1 := ⟨by kernel_rfl, rfl⟩
instance : Ty Try.prog 45 true 5 ([.int .u64 0, .int .u64 0, .int .u64 0, .int .u64 0, .int .i64 0]) := ⟨by kernel_rfl, by kernel_rfl, by kernel_rfl⟩
instance : StP Try.prog 45 [(0, 4), (4, 1)] := ⟨by kernel_rfl⟩
instance : FldT Try.prog 45 0 0 true 4 := ⟨by kernel_rfl, rfl⟩
instance : FldT Try.prog 45 1 4 false 1 := ⟨by kernel_rfl, rfl⟩
instance : Ty Try.prog 46 true 43 ([.int .i64 0, .int .i64 0, .int .i64 0, .int .i64 0, .int .i64 0, .int .u64 0, .int .u64 0, .int .u64 0, .int .u64 0, .string ⟨#[]⟩, .int .i64 0, .int .i64 0, .int .i64 0, .int .i64 0, .int .i64 0, .int .u64 0, .int .u64 0, .int .u64 0, .int .u64 0, .string ⟨#[]⟩, .int .u64 0, .int .u64 0, .int .u64 0, .int .u64 0, .int .i64 0, .string ⟨#[]⟩, .int .i64 0, .string ⟨#[]⟩, .int .i64 0, .int .i64 0, .int .i64 0, .int .i64 0, .string ⟨#[]⟩, .int .u64 0, .int .u64 0, .int .u64 0, .int .u64 0, .int .i64 0, .int .u64 0, .int .u64 0, .int .u64 0, .int .u64 0, .string ⟨#[]⟩]) := ⟨by kernel_rfl, by kernel_rfl, by kernel_rfl⟩
instance : StP Try.prog 46 [(0, 1), (1, 9), (10, 16), (26, 7), (33, 5), (38, 4), (42, 1)] := ⟨by kernel_rfl⟩
instance : FldT Try.prog 46 0 0 false 1 := ⟨by kernel_rfl, rfl⟩
instance : FldT Try.prog 46 1 1 true 9 := ⟨by kernel_rfl, rfl⟩
instance : FldT Try.prog 46 2 10 true 16 := ⟨by kernel_rfl, rfl⟩
instance : FldT Try.prog 46 3 26 true 7 := ⟨by kernel_rfl, rfl⟩
instance : FldT Try.prog 46 4 33 true 5 := ⟨by kernel_rfl, rfl⟩
instance : FldT Try.prog 46 5 38 true 4 := ⟨by kernel_rfl, rfl⟩
instance : FldT Try.prog 46 6 42 false 1 := ⟨by kernel_rfl, rfl⟩
instance : Ty Try.prog 47 true 43 ([.int .i64 0, .int .i64 0, .int .i64 0, .int .i64 0, .int .i64 0, .int .u64 0, .int .u64 0, .int .u64 0, .int .u64 0, .string ⟨#[]⟩, .int .i64 0, .int .i64 0, .int .i64 0, .int .i64 0, .int .i64 0, .int .u64 0, .int .u64 0, .int .u64 0, .int .u64 0, .string ⟨#[]⟩, .int .u64 0, .int .u64 0, .int .u64 0, .int .u64 0, .int .i64 0, .string ⟨#[]⟩, .int .i64 0, .string ⟨#[]⟩, .int .i64 0, .int .i64 0, .int .i64 0, .int .i64 0, .string ⟨#[]⟩, .int .u64 0, .int .u64 0, .int .u64 0, .int .u64 0, .int .i64 0, .int .u64 0, .int .u64 0, .int .u64 0, .int .u64 0, .string ⟨#[]⟩]) := ⟨by kernel_rfl, by kernel_rfl, by kernel_rfl⟩
instance : StP Try.prog 47 [(0, 1), (1, 9), (10, 16), (26, 7), (33, 5), (38, 4), (42, 1)] := ⟨by kernel_rfl⟩
instance : FldT Try.prog 47 0 0 false 1 := ⟨by kernel_rfl, rfl⟩
instance : FldT Try.prog 47 1 1 true 9 := ⟨by kernel_rfl, rfl⟩
instance : FldT Try.prog 47 2 10 true 16 := ⟨by kernel_rfl, rfl⟩
instance : FldT Try.prog 47 3 26 true 7 := ⟨by kernel_rfl, rfl⟩
instance : FldT Try.prog 47 4 33 true 5 := ⟨by kernel_rfl, rfl⟩
instance : FldT Try.prog 47 5 38 true 4 := ⟨by kernel_rfl, rfl⟩
instance : FldT Try.prog 47 6 42 false 1 := ⟨by kernel_rfl, rfl⟩
instance : Ty Try.prog 49 false 1 ([.nilFunc]) := ⟨by kernel_rfl, by kernel_rfl, by kernel_rfl⟩
instance : Ty Try.prog 50 false 1 ([.nilFunc]) := ⟨by kernel_rfl, by kernel_rfl, by kernel_rfl⟩
instance : Ty Try.prog 51 false 1 ([.nilFunc]) := ⟨by kernel_rfl, by kernel_rfl, by kernel_rfl⟩
instance : Ty Try.prog 52 false 1 ([.pointer none]) := ⟨by kernel_rfl, by kernel_rfl, by kernel_rfl⟩
instance : Pt Try.prog 52 99 := ⟨by kernel_rfl⟩
instance : Ty Try.prog 53 false 1 ([.nilFunc]) := ⟨by kernel_rfl, by kernel_rfl, by kernel_rfl⟩
instance : Ty Try.prog 54 false 1 ([.slice none 0 0]) := ⟨by kernel_rfl, by kernel_rfl, by kernel_rfl⟩
instance : Sl Try.prog 54 5 1 := ⟨by kernel_rfl, by kernel_rfl⟩
instance : Ty Try.prog 56 false 1 ([.nilFunc]) := ⟨by kernel_rfl, by kernel_rfl, by kernel_rfl⟩
instance : Ty Try.prog 57 false 1 ([.nilFunc]) := ⟨by kernel_rfl, by kernel_rfl, by kernel_rfl⟩
instance : Ty Try.prog 58 false 1 ([.nilFunc]) := ⟨by kernel_rfl, by kernel_rfl, by kernel_rfl⟩
instance : Ty Try.prog 59 false 1 ([.nilFunc]) := ⟨by kernel_rfl, by kernel_rfl, by kernel_rfl⟩
instance : Ty Try.prog 60 false 1 ([.nilFunc]) := ⟨by kernel_rfl, by kernel_rfl, by kernel_rfl⟩
instance : Ty Try.prog 61 false 1 ([.nilFunc]) := ⟨by kernel_rfl, by kernel_rfl, by kernel_rfl⟩
instance : Ty Try.prog 62 false 1 ([.slice none 0 0]) := ⟨by kernel_rfl, by kernel_rfl, by kernel_rfl⟩
instance : Sl Try.prog 62 9 16 := ⟨by kernel_rfl, by kernel_rfl⟩
instance : Ty Try.prog 63 false 1 ([.nilFunc]) := ⟨by kernel_rfl, by kernel_rfl, by kernel_rfl⟩
instance : Ty Try.prog 64 false 1 ([.nilFunc]) := ⟨by kernel_rfl, by kernel_rfl, by kernel_rfl⟩
instance : Ty Try.prog 65 false 1 ([.pointer none]) := ⟨by kernel_rfl, by kernel_rfl, by kernel_rfl⟩
instance : Pt Try.prog 65 116 := ⟨by kernel_rfl⟩
instance : Ty Try.prog 66 false 1 ([.nilFunc]) := ⟨by kernel_rfl, by kernel_rfl, by kernel_rfl⟩
instance : Ty Try.prog 67 false 1 ([.pointer none]) := ⟨by kernel_rfl, by kernel_rfl, by kernel_rfl⟩
instance : Pt Try.prog 67 118 := ⟨by kernel_rfl⟩
instance : Ty Try.prog 68 false 1 ([.nilFunc]) := ⟨by kernel_rfl, by kernel_rfl, by kernel_rfl⟩
instance : Ty Try.prog 69 false 1 ([.slice none 0 0]) := ⟨by kernel_rfl, by kernel_rfl, by kernel_rfl⟩
instance : Sl Try.prog 69 92 8 := ⟨by kernel_rfl, by kernel_rfl⟩
instance : Ty Try.prog 70 false 1 ([.slice none 0 0]) := ⟨by kernel_rfl, by kernel_rfl, by kernel_rfl⟩
instance : Sl Try.prog 70 54 24 := ⟨by kernel_rfl, by kernel_rfl⟩
instance : Ty Try.prog 71 false 1 ([.slice none 0 0]) := ⟨by kernel_rfl, by kernel_rfl, by kernel_rfl⟩
instance : Sl Try.prog 71 47 392 := ⟨by kernel_rfl, by kernel_rfl⟩
instance : Ty Try.prog 72 false 1 ([.slice none 0 0]) := ⟨by kernel_rfl, by kernel_rfl, by kernel_rfl⟩
instance : Sl Try.prog 72 232 232 := ⟨by kernel_rfl, by kernel_rfl⟩
instance : Ty Try.prog 73 true 3 ([.slice none 0 0, .slice none 0 0, .slice none 0 0]) := ⟨by kernel_rfl, by kernel_rfl, by kernel_rfl⟩
instance : StP Try.prog 73 [(0, 1), (1, 1), (2, 1)] := ⟨by kernel_rfl⟩
instance : FldT Try.prog 73 0 0 false 1 := ⟨by kernel_rfl, rfl⟩
instance : FldT Try.prog 73 1 1 false 1 := ⟨by kernel_rfl, rfl⟩
instance : FldT Try.prog 73 2 2 false 1 := ⟨by kernel_rfl, rfl⟩
instance : Ty Try.prog 74 true 3 ([.slice none 0 0, .slice none 0 0, .slice none 0 0]) := ⟨by kernel_rfl, by kernel_rfl, by kernel_rfl⟩
instance : StP Try.prog 74 [(0, 1), (1, 1), (2, 1)] := ⟨by kernel_rfl⟩
instance : FldT Try.prog 74 0 0 false 1 := ⟨by kernel_rfl, rfl⟩
instance : FldT Try.prog 74 1 1 false 1 := ⟨by kernel_rfl, rfl⟩
instance : FldT Try.prog 74 2 2 false 1 := ⟨by kernel_rfl, rfl⟩
instance : Ty Try.prog 75 true 12 ([.int .i64 0, .int .i64 0, .string ⟨#[]⟩, .slice none 0 0, .pointer none, .pointer none, .slice none 0 0, .bool false, .bool false, .slice none 0 0, .slice none 0 0, .slice none 0 0]) := ⟨by kernel_rfl, by kernel_rfl, by kernel_rfl⟩
instance : StP Try.prog 75 [(0, 1), (1, 1), (2, 1), (3, 1), (4, 1), (5, 1), (6, 1), (7, 1), (8, 1), (9, 3)] := ⟨by kernel_rfl⟩
instance : FldT Try.prog 75 0 0 false 1 := ⟨by kernel_rfl, rfl⟩
instance : FldT Try.prog 75 1 1 false 1 := ⟨by kernel_rfl, rfl⟩
instance : FldT Try.prog 75 2 2 false 1 := ⟨by kernel_rfl, rfl⟩
instance : FldT Try.prog 75 3 3 false 1 := ⟨by kernel_rfl, rfl⟩
instance : FldT Try.prog 75 4 4 false 1 := ⟨by kernel_rfl, rfl⟩
instance : FldT Try.prog 75 5 5 false 1 := ⟨by kernel_rfl, rfl⟩
instance : FldT Try.prog 75 6 6 false 1 := ⟨by kernel_rfl, rfl⟩
instance : FldT Try.prog 75 7 7 false 1 := ⟨by kernel_rfl, rfl⟩
instance : FldT Try.prog 75 8 8 false 1 := ⟨by kernel_rfl, rfl⟩
instance : FldT Try.prog 75 9 9 true 3 := ⟨by kernel_rfl, rfl⟩
instance : Ty Try.prog 76 true 12 ([.int .i64 0, .int .i64 0, .string ⟨#[]⟩, .slice none 0 0, .pointer none, .pointer none, .slice none 0 0, .bool false, .bool false, .slice none 0 0, .slice none 0 0, .slice none 0 0]) := ⟨by kernel_rfl, by kernel_rfl, by kernel_rfl⟩
instance : StP Try.prog 76 [(0, 1), (1, 1), (2, 1), (3, 1), (4, 1), (5, 1), (6, 1), (7, 1), (8, 1), (9, 3)] := ⟨by kernel_rfl⟩
instance : FldT Try.prog 76 0 0 false 1 := ⟨by kernel_rfl, rfl⟩
instance : FldT Try.prog 76 1 1 false 1 := ⟨by kernel_rfl, rfl⟩
instance : FldT Try.prog 76 2 2 false 1 := ⟨by kernel_rfl, rfl⟩
instance : FldT Try.prog 76 3 3 false 1 := ⟨by kernel_rfl, rfl⟩
instance : FldT Try.prog 76 4 4 false 1 := ⟨by kernel_rfl, rfl⟩
instance : FldT Try.prog 76 5 5 false 1 := ⟨by kernel_rfl, rfl⟩
instance : FldT Try.prog 76 6 6 false 1 := ⟨by kernel_rfl, rfl⟩
instance : FldT Try.prog 76 7 7 false 1 := ⟨by kernel_rfl, rfl⟩
instance : FldT Try.prog 76 8 8 false 1 := ⟨by kernel_rfl, rfl⟩
instance : FldT Try.prog 76 9 9 true 3 := ⟨by kernel_rfl, rfl⟩
instance : Ty Try.prog 77 false 1 ([.nilFunc]) := ⟨by kernel_rfl, by kernel_rfl, by kernel_rfl⟩
instance : Ty Try.prog 78 false 1 ([.nilFunc]) := ⟨by kernel_rfl, by kernel_rfl, by kernel_rfl⟩
instance : Ty Try.prog 80 false 1 ([.nilFunc]) := ⟨by kernel_rfl, by kernel_rfl, by kernel_rfl⟩
instance : Ty Try.prog 82 false 1 ([.nilFunc]) := ⟨by kernel_rfl, by kernel_rfl, by kernel_rfl⟩
instance : Ty Try.prog 83 false 1 ([.pointer none]) := ⟨by kernel_rfl, by kernel_rfl, by kernel_rfl⟩
instance : Pt Try.prog 83 85 := ⟨by kernel_rfl⟩
instance : Ty Try.prog 84 true 2 ([.pointer none, .slice none 0 0]) := ⟨by kernel_rfl, by kernel_rfl, by kernel_rfl⟩
instance : StP Try.prog 84 [(0, 1), (1, 1)] := ⟨by kernel_rfl⟩
instance : FldT Try.prog 84 0 0 false 1 := ⟨by kernel_rfl, rfl⟩
instance : FldT Try.prog 84 1 1 false 1 := ⟨by kernel_rfl, rfl⟩
instance : Ty Try.prog 85 true 2 ([.pointer none, .slice none 0 0]) := ⟨by kernel_rfl, by kernel_rfl, by kernel_rfl⟩
instance : StP Try.prog 85 [(0, 1), (1, 1)] := ⟨by kernel_rfl⟩
instance : FldT Try.prog 85 0 0 false 1 := ⟨by kernel_rfl, rfl⟩
instance : FldT Try.prog 85 1 1 false 1 := ⟨by kernel_rfl, rfl⟩
instance : Ty Try.prog 86 false 1 ([.nilIface]) := ⟨by kernel_rfl, by kernel_rfl, by kernel_rfl⟩
instance : Ty Try.prog 87 false 1 ([.nilIface]) := ⟨by kernel_rfl, by kernel_rfl, by kernel_rfl⟩
instance : Ty Try.prog 88 false 1 ([.nilFunc]) := ⟨by kernel_rfl, by kernel_rfl, by kernel_rfl⟩
instance : Ty Try.prog 89 false 1 ([.int .u64 0]) := ⟨by kernel_rfl, by kernel_rfl, by kernel_rfl⟩
instance : Ik Try.prog 89 .u64 := ⟨by kernel_rfl⟩
instance : Ty Try.prog 90 false 1 ([.nilFunc]) := ⟨by kernel_rfl, by kernel_rfl, by kernel_rfl⟩
instance : Ty Try.prog 91 false 1 ([.nilFunc]) := ⟨by kernel_rfl, by kernel_rfl, by kernel_rfl⟩
instance : Ty Try.prog 92 false 1 ([.pointer none]) := ⟨by kernel_rfl, by kernel_rfl, by kernel_rfl⟩
instance : Pt Try.prog 92 136 := ⟨by kernel_rfl⟩
instance : Ty Try.prog 93 false 1 ([.nilFunc]) := ⟨by kernel_rfl, by kernel_rfl, by kernel_rfl⟩
instance : Ty Try.prog 94 false 1 ([.nilFunc]) := ⟨by kernel_rfl, by kernel_rfl, by kernel_rfl⟩
instance : Ty Try.prog 95 false 1 ([.nilFunc]) := ⟨by kernel_rfl, by kernel_rfl, by kernel_rfl⟩
instance : Ty Try.prog 96 false 1 ([.nilFunc]) := ⟨by kernel_rfl, by kernel_rfl, by kernel_rfl⟩
instance : Ty Try.prog 97 false 1 ([.nilFunc]) := ⟨by kernel_rfl, by kernel_rfl, by kernel_rfl⟩
instance : Ty Try.prog 98 true 2 ([.slice none 0 0, .bool false]) := ⟨by kernel_rfl, by kernel_rfl, by kernel_rfl⟩
instance : StP Try.prog 98 [(0, 1), (1, 1)] := ⟨by kernel_rfl⟩
instance : FldT Try.prog 98 0 0 false 1 := ⟨by kernel_rfl, rfl⟩
instance : FldT Try.prog 98 1 1 false 1 := ⟨by kernel_rfl, rfl⟩
instance : Ty Try.prog 99 true 2 ([.slice none 0 0, .bool false]) := ⟨by kernel_rfl, by kernel_rfl, by kernel_rfl⟩
instance : StP Try.prog 99 [(0, 1), (1, 1)] := ⟨by kernel_rfl⟩
instance : FldT Try.prog 99 0 0 false 1 := ⟨by kernel_rfl, rfl⟩
instance : FldT Try.prog 99 1 1 false 1 := ⟨by kernel_rfl, rfl⟩
instance : Ty Try.prog 100 false 1 ([.nilFunc]) := ⟨by kernel_rfl, by kernel_rfl, by kernel_rfl⟩
instance : Ty Try.prog 101 false 1 ([.pointer none]) := ⟨by kernel_rfl, by kernel_rfl, by kernel_rfl⟩
instance : Pt Try.prog 101 155 := ⟨by kernel_rfl⟩
instance : Ty Try.prog 102 false 1 ([.nilFunc]) := ⟨by kernel_rfl, by kernel_rfl, by kernel_rfl⟩
instance : Ty Try.prog 103 false 1 ([.nilFunc]) := ⟨by kernel_rfl, by kernel_rfl, by kernel_rfl⟩
instance : Ty Try.prog 104 false 1 ([.nilFunc]) := ⟨by kernel_rfl, by kernel_rfl, by kernel_rfl⟩
instance : Ty Try.prog 105 false 1 ([.nilFunc]) := ⟨by kernel_rfl, by kernel_rfl, by kernel_rfl⟩
instance : Ty Try.prog 106 false 1 ([.nilFunc]) := ⟨by kernel_rfl, by kernel_rfl, by kernel_rfl⟩
instance : Ty Try.prog 107 false 1 ([.nilFunc]) := ⟨by kernel_rfl, by kernel_rfl, by kernel_rfl⟩
instance : Ty Try.prog 108 false 1 ([.nilFunc]) := ⟨by kernel_rfl, by kernel_rfl, by kernel_rfl⟩
instance : Ty Try.prog 109 false 1 ([.nilFunc]) := ⟨by kernel_rfl, by kernel_rfl, by kernel_rfl⟩
instance : Ty Try.prog 110 false 1 ([.nilFunc]) := ⟨by kernel_rfl, by kernel_rfl, by kernel_rfl⟩
instance : Ty Try.prog 111 false 1 ([.nilFunc]) := ⟨by kernel_rfl, by kernel_rfl, by kernel_rfl⟩
instance : Ty Try.prog 112 false 1 ([.nilFunc]) := ⟨by kernel_rfl, by kernel_rfl, by kernel_rfl⟩
instance : Ty Try.prog 113 false 1 ([.nilFunc]) := ⟨by kernel_rfl, by kernel_rfl, by kernel_rfl⟩
instance : Ty Try.prog 114 false 1 ([.slice none 0 0]) := ⟨by kernel_rfl, by kernel_rfl, by kernel_rfl⟩
instance : Sl Try.prog 114 139 8 := ⟨by kernel_rfl, by kernel_rfl⟩
instance : Ty Try.prog 115 true 3 ([.slice none 0 0, .slice none 0 0, .bool false]) := ⟨by kernel_rfl, by kernel_rfl, by kernel_rfl⟩
instance : StP Try.prog 115 [(0, 1), (1, 1), (2, 1)] := ⟨by kernel_rfl⟩
instance : FldT Try.prog 115 0 0 false 1 := ⟨by kernel_rfl, rfl⟩
instance : FldT Try.prog 115 1 1 false 1 := ⟨by kernel_rfl, rfl⟩
instance : FldT Try.prog 115 2 2 false 1 := ⟨by kernel_rfl, rfl⟩
instance : Ty Try.prog 116 true 3 ([.slice none 0 0, .slice none 0 0, .bool false]) := ⟨by kernel_rfl, by kernel_rfl, by kernel_rfl⟩
instance : StP Try.prog 116 [(0, 1), (1, 1), (2, 1)] := ⟨by kernel_rfl⟩
instance : FldT Try.prog 116 0 0 false 1 := ⟨by kernel_rfl, rfl⟩
instance : FldT Try.prog 116 1 1 false 1 := ⟨by kernel_rfl, rfl⟩
instance : FldT Try.prog 116 2 2 false 1 := ⟨by kernel_rfl, rfl⟩
instance : Ty Try.prog 117 true 4 ([.slice none 0 0, .int .i64 0, .int .i64 0, .bool false]) := ⟨by kernel_rfl, by kernel_rfl, by kernel_rfl⟩
instance : StP Try.prog 117 [(0, 1), (1, 1), (2, 1), (3, 1)] := ⟨by kernel_rfl⟩
instance : FldT Try.prog 117 0 0 false 1 := ⟨by kernel_rfl, rfl⟩
instance : FldT Try.prog 117 1 1 false 1 := ⟨by kernel_rfl, rfl⟩
instance : FldT Try.prog 117 2 2 false 1 := ⟨by kernel_rfl, rfl⟩
instance : FldT Try.prog 117 3 3 false 1 := ⟨by kernel_rfl, rfl⟩
instance : Ty Try.prog 118 true 4 ([.slice none 0 0, .int .i64 0, .int .i64 0, .bool false]) := ⟨by kernel_rfl, by kernel_rfl, by kernel_rfl⟩
instance : StP Try.prog 118 [(0, 1), (1, 1), (2, 1), (3, 1)] := ⟨by kernel_rfl⟩
instance : FldT Try.prog 118 0 0 false 1 := ⟨by kernel_rfl, rfl⟩
instance : FldT Try.prog 118 1 1 false 1 := ⟨by kernel_rfl, rfl⟩
instance : FldT Try.prog 118 2 2 false 1 := ⟨by kernel_rfl, rfl⟩
instance : FldT Try.prog 118 3 3 false 1 := ⟨by kernel_rfl, rfl⟩
instance : Ty Try.prog 119 false 1 ([.nilFunc]) := ⟨by kernel_rfl, by kernel_rfl, by kernel_rfl⟩
instance : Ty Try.prog 120 false 1 ([.nilFunc]) := ⟨by kernel_rfl, by kernel_rfl, by kernel_rfl⟩
instance : Ty Try.prog 121 false 1 ([.nilFunc]) := ⟨by kernel_rfl, by kernel_rfl, by kernel_rfl⟩
instance : Ty Try.prog 122 false 1 ([.slice none 0 0]) := ⟨by kernel_rfl, by kernel_rfl, by kernel_rfl⟩
instance : Sl Try.prog 122 22 8 := ⟨by kernel_rfl, by kernel_rfl⟩
instance : Ty Try.prog 123 false 1 ([.nilFunc]) := ⟨by kernel_rfl, by kernel_rfl, by kernel_rfl⟩
instance : Ty Try.prog 125 false 1 ([.nilFunc]) := ⟨by kernel_rfl, by kernel_rfl, by kernel_rfl⟩
instance : Ty Try.prog 126 false 1 ([.nilFunc]) := ⟨by kernel_rfl, by kernel_rfl, by kernel_rfl⟩
instance : Ty Try.prog 128 false 1 ([.nilFunc]) := ⟨by kernel_rfl, by kernel_rfl, by kernel_rfl⟩
instance : Ty Try.prog 129 false 1 ([.pointer none]) := ⟨by kernel_rfl, by kernel_rfl, by kernel_rfl⟩
instance : Pt Try.prog 129 5 := ⟨by kernel_rfl⟩
instance : Ty Try.prog 131 false 1 ([.nilFunc]) := ⟨by kernel_rfl, by kernel_rfl, by kernel_rfl⟩
instance : Ty Try.prog 132 false 1 ([.nilFunc]) := ⟨by kernel_rfl, by kernel_rfl, by kernel_rfl⟩
instance : Ty Try.prog 133 true 27 ([.int .i64 0, .int .i64 0, .int .i64 0, .int .i64 0, .int .u64 0, .int .u64 0, .int .u64 0, .int .u64 0, .string ⟨#[]⟩, .int .u64 0, .int .u64 0, .int .u64 0, .int .u64 0, .int .i64 0, .string ⟨#[]⟩, .int .i64 0, .int .i64 0, .int .i64 0, .int .i64 0, .string ⟨#[]⟩, .int .u64 0, .int .u64 0, .int .u64 0, .int .u64 0, .int .i64 0, .int .i64 0, .int .i64 0]) := ⟨by kernel_rfl, by kernel_rfl, by kernel_rfl⟩
instance : StP Try.prog 133 [(0, 9), (9, 4), (13, 7), (20, 5), (25, 1), (26, 1)] := ⟨by kernel_rfl⟩
instance : FldT Try.prog 133 0 0 true 9 := ⟨by kernel_rfl, rfl⟩
instance : FldT Try.prog 133 1 9 true 4 := ⟨by kernel_rfl, rfl⟩
instance : FldT Try.prog 133 2 13 true 7 := ⟨by kernel_rfl, rfl⟩
instance : FldT Try.prog 133 3 20 true 5 := ⟨by kernel_rfl, rfl⟩
instance : FldT Try.prog 133 4 25 false 1 := ⟨by kernel_rfl, rfl⟩
instance : FldT Try.prog 133 5 26 false 1 := ⟨by kernel_rfl, rfl⟩
instance : Ty Try.prog 134 true 27 ([.int .i64 0, .int .i64 0, .int .i64 0, .int .i64 0, .int .u64 0, .int .u64 0, .int .u64 0, .int .u64 0, .string ⟨#[]⟩, .int .u64 0, .int .u64 0, .int .u64 0, .int .u64 0, .int .i64 0, .string ⟨#[]⟩, .int .i64 0, .int .i64 0, .int .i64 0, .int .i64 0, .string ⟨#[]⟩, .int .u64 0, .int .u64 0, .int .u64 0, .int .u64 0, .int .i64 0, .int .i64 0, .int .i64 0]) := ⟨by kernel_rfl, by kernel_rfl, by kernel_rfl⟩
instance : StP Try.prog 134 [(0, 9), (9, 4), (13, 7), (20, 5), (25, 1), (26, 1)] := ⟨by kernel_rfl⟩
instance : FldT Try.prog 134 0 0 true 9 := ⟨by kernel_rfl, rfl⟩
instance : FldT Try.prog 134 1 9 true 4 := ⟨by kernel_rfl, rfl⟩
instance : FldT Try.prog 134 2 13 true 7 := ⟨by kernel_rfl, rfl⟩
instance : FldT Try.prog 134 3 20 true 5 := ⟨by kernel_rfl, rfl⟩
instance : FldT Try.prog 134 4 25 false 1 := ⟨by kernel_rfl, rfl⟩
instance : FldT Try.prog 134 5 26 false 1 := ⟨by kernel_rfl, rfl⟩
instance : Ty Try.prog 135 true 30 ([.int .i64 0, .int .i64 0, .int .i64 0, .int .i64 0, .int .u64 0, .int .u64 0, .int .u64 0, .int .u64 0, .string ⟨#[]⟩, .int .u64 0, .int .u64 0, .int .u64 0, .int .u64 0, .int .i64 0, .string ⟨#[]⟩, .int .i64 0, .int .i64 0, .int .i64 0, .int .i64 0, .string ⟨#[]⟩, .int .u64 0, .int .u64 0, .int .u64 0, .int .u64 0, .int .i64 0, .int .i64 0, .int .i64 0] ++ [.string ⟨#[]⟩, .int .i64 0, .bool false]) := ⟨by kernel_rfl, by kernel_rfl, by kernel_rfl⟩
instance : StP Try.prog 135 [(0, 27), (27, 1), (28, 1), (29, 1)] := ⟨by kernel_rfl⟩
instance : FldT Try.prog 135 0 0 true 27 := ⟨by kernel_rfl, rfl⟩
instance : FldT Try.prog 135 1 27 false 1 := ⟨by kernel_rfl, rfl⟩
instance : FldT Try.prog 135 2 28 false 1 := ⟨by kernel_rfl, rfl⟩
instance : FldT Try.prog 135 3 29 false 1 := ⟨by kernel_rfl, rfl⟩
instance : Ty Try.prog 136 true 30 ([.int .i64 0, .int .i64 0, .int .i64 0, .int .i64 0, .int .u64 0, .int .u64 0, .int .u64 0, .int .u64 0, .string ⟨#[]⟩, .int .u64 0, .int .u64 0, .int .u64 0, .int .u64 0, .int .i64 0, .string ⟨#[]⟩, .int .i64 0, .int .i64 0, .int .i64 0, .int .i64 0, .string ⟨#[]⟩, .int .u64 0, .int .u64 0, .int .u64 0, .int .u64 0, .int .i64 0, .int .i64 0, .int .i64 0] ++ [.string ⟨#[]⟩, .int .i64 0, .bool false]) := ⟨by kernel_rfl, by kernel_rfl, by kernel_rfl⟩
instance : StP Try.prog 136 [(0, 27), (27, 1), (28, 1), (29, 1)] := ⟨by kernel_rfl⟩
instance : FldT Try.prog 136 0 0 true 27 := ⟨by kernel_rfl, rfl⟩
instance : FldT Try.prog 136 1 27 false 1 := ⟨by kernel_rfl, rfl⟩
instance : FldT Try.prog 136 2 28 false 1 := ⟨by kernel_rfl, rfl⟩
instance : FldT Try.prog 136 3 29 false 1 := ⟨by kernel_rfl, rfl⟩
instance : Ty Try.prog 137 false 1 ([.nilFunc]) := ⟨by kernel_rfl, by kernel_rfl, by kernel_rfl⟩
instance : Ty Try.prog 138 false 1 ([.nilFunc]) := ⟨by kernel_rfl, by kernel_rfl, by kernel_rfl⟩
instance : Ty Try.prog 139 false 1 ([.pointer none]) := ⟨by kernel_rfl, by kernel_rfl, by kernel_rfl⟩
instance : Pt Try.prog 139 143 := ⟨by kernel_rfl⟩
instance : Ty Try.prog 140 false 1 ([.nilFunc]) := ⟨by kernel_rfl, by kernel_rfl, by kernel_rfl⟩
instance : Ty Try.prog 141 false 1 ([.slice none 0 0]) := ⟨by kernel_rfl, by kernel_rfl, by kernel_rfl⟩
instance : Sl Try.prog 141 41 144 := ⟨by kernel_rfl, by kernel_rfl⟩
instance : Ty Try.prog 142 true 11 ([.int .i64 0, .int .i64 0, .int .i64 0, .int .i64 0, .int .u64 0, .int .u64 0, .int .u64 0, .int .u64 0, .string ⟨#[]⟩, .int .i64 0, .slice none 0 0]) := ⟨by kernel_rfl, by kernel_rfl, by kernel_rfl⟩
instance : StP Try.prog 142 [(0, 9), (9, 1), (10, 1)] := ⟨by kernel_rfl⟩
instance : FldT Try.prog 142 0 0 true 9 := ⟨by kernel_rfl, rfl⟩
instance : FldT Try.prog 142 1 9 false 1 := ⟨by kernel_rfl, rfl⟩
instance : FldT Try.prog 142 2 10 false 1 := ⟨by kernel_rfl, rfl⟩
instance : Ty Try.prog 143 true 11 ([.int .i64 0, .int .i64 0, .int .i64 0, .int .i64 0, .int .u64 0, .int .u64 0, .int .u64 0, .int .u64 0, .string ⟨#[]⟩, .int .i64 0, .slice none 0 0]) := ⟨by kernel_rfl, by kernel_rfl, by kernel_rfl⟩
instance : StP Try.prog 143 [(0, 9), (9, 1), (10, 1)] := ⟨by kernel_rfl⟩
instance : FldT Try.prog 143 0 0 true 9 := ⟨by kernel_rfl, rfl⟩
instance : FldT Try.prog 143 1 9 false 1 := ⟨by kernel_rfl, rfl⟩
instance : FldT Try.prog 143 2 10 false 1 := ⟨by kernel_rfl, rfl⟩
instance : Ty Try.prog 144 false 1 ([.nilFunc]) := ⟨by kernel_rfl, by kernel_rfl, by kernel_rfl⟩
instance : Ty Try.prog 145 true 2 ([.string ⟨#[]⟩, .int .i64 0]) := ⟨by kernel_rfl, by kernel_rfl, by kernel_rfl⟩
instance : StP Try.prog 145 [(0, 1), (1, 1)] := ⟨by kernel_rfl⟩
instance : FldT Try.prog 145 0 0 false 1 := ⟨by kernel_rfl, rfl⟩
instance : FldT Try.prog 145 1 1 false 1 := ⟨by kernel_rfl, rfl⟩
instance : Ty Try.prog 146 true 2 ([.string ⟨#[]⟩, .int .i64 0]) := ⟨by kernel_rfl, by kernel_rfl, by kernel_rfl⟩
instance : StP Try.prog 146 [(0, 1), (1, 1)] := ⟨by kernel_rfl⟩
instance : FldT Try.prog 146 0 0 false 1 := ⟨by kernel_rfl, rfl⟩
instance : FldT Try.prog 146 1 1 false 1 := ⟨by kernel_rfl, rfl⟩
instance : Ty Try.prog 148 false 1 ([.nilFunc]) := ⟨by kernel_rfl, by kernel_rfl, by kernel_rfl⟩
instance : Ty Try.prog 149 false 1 ([.nilFunc]) := ⟨by kernel_rfl, by kernel_rfl, by kernel_rfl⟩
instance : Ty Try.prog 150 false 1 ([.nilFunc]) := ⟨by kernel_rfl, by kernel_rfl, by kernel_rfl⟩
instance : Ty Try.prog 151 false 1 ([.nilFunc]) := ⟨by kernel_rfl, by kernel_rfl, by kernel_rfl⟩
instance : Ty Try.prog 152 false 1 ([.nilFunc]) := ⟨by kernel_rfl, by kernel_rfl, by kernel_rfl⟩
instance : Ty Try.prog 153 false 1 ([.nilFunc]) := ⟨by kernel_rfl, by kernel_rfl, by kernel_rfl⟩
instance : Ty Try.prog 154 true 3 ([.slice none 0 0, .int .i64 0, .bool false]) := ⟨by kernel_rfl, by kernel_rfl, by kernel_rfl⟩
instance : StP Try.prog 154 [(0, 1), (1, 1), (2, 1)] := ⟨by kernel_rfl⟩
instance : FldT Try.prog 154 0 0 false 1 := ⟨by kernel_rfl, rfl⟩
instance : FldT Try.prog 154 1 1 false 1 := ⟨by kernel_rfl, rfl⟩
instance : FldT Try.prog 154 2 2 false 1 := ⟨by kernel_rfl, rfl⟩
instance : Ty Try.prog 155 true 3 ([.slice none 0 0, .int .i64 0, .bool false]) := ⟨by kernel_rfl, by kernel_rfl, by kernel_rfl⟩
instance : StP Try.prog 155 [(0, 1), (1, 1), (2, 1)] := ⟨by kernel_rfl⟩
instance : FldT Try.prog 155 0 0 false 1 := ⟨by kernel_rfl, rfl⟩
instance : FldT Try.prog 155 1 1 false 1 := ⟨by kernel_rfl, rfl⟩
instance : FldT Try.prog 155 2 2 false 1 := ⟨by kernel_rfl, rfl⟩
instance : Ty Try.prog 156 false 1 ([.nilFunc]) := ⟨by kernel_rfl, by kernel_rfl, by kernel_rfl⟩
instance : Ty Try.prog 157 false 1 ([.nilFunc]) := ⟨by kernel_rfl, by kernel_rfl, by kernel_rfl⟩
instance : Ty Try.prog 158 true 4 ([.int .i64 0, .int .i64 0, .int .i64 0, .int .i64 0]) := ⟨by kernel_rfl, by kernel_rfl, by kernel_rfl⟩
instance : Ar Try.prog 158 4 3 := ⟨by kernel_rfl⟩
instance : Ty Try.prog 159 false 1 ([.nilFunc]) := ⟨by kernel_rfl, by kernel_rfl, by kernel_rfl⟩
instance : Ty Try.prog 160 false 1 ([.nilFunc]) := ⟨by kernel_rfl, by kernel_rfl, by kernel_rfl⟩
instance : Ty Try.prog 161 false 1 ([.pointer none]) := ⟨by kernel_rfl, by kernel_rfl, by kernel_rfl⟩
instance : Pt Try.prog 161 184 := ⟨by kernel_rfl⟩
instance : Ty Try.prog 162 false 1 ([.nilFunc]) := ⟨by kernel_rfl, by kernel_rfl, by kernel_rfl⟩
instance : Ty Try.prog 163 false 1 ([.nilFunc]) := ⟨by kernel_rfl, by kernel_rfl, by kernel_rfl⟩
instance : Ty Try.prog 164 false 1 ([.nilFunc]) := ⟨by kernel_rfl, by kernel_rfl, by kernel_rfl⟩
instance : Ty Try.prog 165 false 1 ([.nilFunc]) := ⟨by kernel_rfl, by kernel_rfl, by kernel_rfl⟩
instance : Ty Try.prog 166 false 1 ([.nilFunc]) := ⟨by kernel_rfl, by kernel_rfl, by kernel_rfl⟩
instance : Ty Try.prog 167 false 1 ([.nilFunc]) := ⟨by kernel_rfl, by kernel_rfl, by kernel_rfl⟩
instance : Ty Try.prog 168 false 1 ([.nilFunc]) := ⟨by kernel_rfl, by kernel_rfl, by kernel_rfl⟩
instance : Ty Try.prog 169 false 1 ([.nilFunc]) := ⟨by kernel_rfl, by kernel_rfl, by kernel_rfl⟩
instance : Ty Try.prog 170 false 1 ([.nilFunc]) := ⟨by kernel_rfl, by kernel_rfl, by kernel_rfl⟩
instance : Ty Try.prog 171 false 1 ([.nilFunc]) := ⟨by kernel_rfl, by kernel_rfl, by kernel_rfl⟩
instance : Ty Try.prog 172 false 1 ([.nilFunc]) := ⟨by kernel_rfl, by kernel_rfl, by kernel_rfl⟩
instance : Ty Try.prog 174 false 1 ([.nilFunc]) := ⟨by kernel_rfl, by kernel_rfl, by kernel_rfl⟩
instance : Ty Try.prog 175 false 1 ([.nilFunc]) := ⟨by kernel_rfl, by kernel_rfl, by kernel_rfl⟩
instance : Ty Try.prog 176 false 1 ([.nilFunc]) := ⟨by kernel_rfl, by kernel_rfl, by kernel_rfl⟩
instance : Ty Try.prog 177 false 1 ([.nilFunc]) := ⟨by kernel_rfl, by kernel_rfl, by kernel_rfl⟩
instance : Ty Try.prog 178 false 1 ([.nilFunc]) := ⟨by kernel_rfl, by kernel_rfl, by kernel_rfl⟩
instance : Ty Try.prog 179 false 1 ([.nilFunc]) := ⟨by kernel_rfl, by kernel_rfl, by kernel_rfl⟩
instance : Ty Try.prog 180 false 1 ([.nilFunc]) := ⟨by kernel_rfl, by kernel_rfl, by kernel_rfl⟩
instance : Ty Try.prog 181 false 1 ([.nilFunc]) := ⟨by kernel_rfl, by kernel_rfl, by kernel_rfl⟩
instance : Ty Try.prog 182 false 1 ([.nilFunc]) := ⟨by kernel_rfl, by kernel_rfl, by kernel_rfl⟩
instance : Ty Try.prog 183 false 1 ([.nilFunc]) := ⟨by kernel_rfl, by kernel_rfl, by kernel_rfl⟩
instance : Ty Try.prog 184 true 3 ([.slice none 0 0, .int .i64 0, .bool false]) := ⟨by kernel_rfl, by kernel_rfl, by kernel_rfl⟩
instance : StP Try.prog 184 [(0, 1), (1, 1), (2, 1)] := ⟨by kernel_rfl⟩
instance : FldT Try.prog 184 0 0 false 1 := ⟨by kernel_rfl, rfl⟩
instance : FldT Try.prog 184 1 1 false 1 := ⟨by kernel_rfl, rfl⟩
instance : FldT Try.prog 184 2 2 false 1 := ⟨by kernel_rfl, rfl⟩
instance : Ty Try.prog 185 false 1 ([.nilFunc]) := ⟨by kernel_rfl, by kernel_rfl, by kernel_rfl⟩
instance : Ty Try.prog 186 false 1 ([.nilFunc]) := ⟨by kernel_rfl, by kernel_rfl, by kernel_rfl⟩
instance : Ty Try.prog 187 false 1 ([.nilFunc]) := ⟨by kernel_rfl, by kernel_rfl, by kernel_rfl⟩
instance : Ty Try.prog 188 false 1 ([.nilFunc]) := ⟨by kernel_rfl, by kernel_rfl, by kernel_rfl⟩
instance : Ty Try.prog 189 false 1 ([.nilFunc]) := ⟨by kernel_rfl, by kernel_rfl, by kernel_rfl⟩
instance : Ty Try.prog 190 false 1 ([.nilFunc]) := ⟨by kernel_rfl, by kernel_rfl, by kernel_rfl⟩
instance : Ty Try.prog 191 false 1 ([.slice none 0 0]) := ⟨by kernel_rfl, by kernel_rfl, by kernel_rfl⟩
instance : Sl Try.prog 191 3 8 := ⟨by kernel_rfl, by kernel_rfl⟩
instance : Ty Try.prog 192 false 1 ([.nilFunc]) := ⟨by kernel_rfl, by kernel_rfl, by kernel_rfl⟩
instance : Ty Try.prog 193 false 1 ([.nilFunc]) := ⟨by kernel_rfl, by kernel_rfl, by kernel_rfl⟩
instance : Ty Try.prog 194 false 1 ([.nilFunc]) := ⟨by kernel_rfl, by kernel_rfl, by kernel_rfl⟩
instance : Ty Try.prog 195 false 1 ([.nilFunc]) := ⟨by kernel_rfl, by kernel_rfl, by kernel_rfl⟩
instance : Ty Try.prog 196 false 1 ([.int .u32 0]) := ⟨by kernel_rfl, by kernel_rfl, by kernel_rfl⟩
instance : Ik Try.prog 196 .u32 := ⟨by kernel_rfl⟩
instance : Ty Try.prog 197 true 8 ([.int .u32 0, .int .u32 0, .int .u32 0, .int .u32 0, .int .u32 0, .int .u32 0, .int .u32 0, .int .u32 0]) := ⟨by kernel_rfl, by kernel_rfl, by kernel_rfl⟩
instance : Ar Try.prog 197 8 196 := ⟨by kernel_rfl⟩
instance : Ty Try.prog 198 true 64 (List.replicate 64 (.int .u32 0)) := ⟨by kernel_rfl, by kernel_rfl, by kernel_rfl⟩
instance : Ar Try.prog 198 64 196 := ⟨by kernel_rfl⟩
instance : Ty Try.prog 199 false 1 ([.nilFunc]) := ⟨by kernel_rfl, by kernel_rfl, by kernel_rfl⟩
instance : Ty Try.prog 200 false 1 ([.nilFunc]) := ⟨by kernel_rfl, by kernel_rfl, by kernel_rfl⟩
instance : Ty Try.prog 201 true 8 ([.int .u32 0, .int .u32 0, .int .u32 0, .int .u32 0, .int .u32 0, .int .u32 0, .int .u32 0, .int .u32 0]) := ⟨by kernel_rfl, by kernel_rfl, by kernel_rfl⟩
instance : Ar Try.prog 201 8 196 := ⟨by kernel_rfl⟩
instance : Ty Try.prog 202 false 1 ([.nilFunc]) := ⟨by kernel_rfl, by kernel_rfl, by kernel_rfl⟩
instance : Ty Try.prog 203 false 1 ([.nilFunc]) := ⟨by kernel_rfl, by kernel_rfl, by kernel_rfl⟩
instance : Ty Try.prog 204 false 1 ([.nilFunc]) := ⟨by kernel_rfl, by kernel_rfl, by kernel_rfl⟩
instance : Ty Try.prog 205 false 1 ([.nilFunc]) := ⟨by kernel_rfl, by kernel_rfl, by kernel_rfl⟩
instance : Ty Try.prog 206 false 1 ([.nilFunc]) := ⟨by kernel_rfl, by kernel_rfl, by kernel_rfl⟩
instance : Ty Try.prog 207 false 1 ([.nilFunc]) := ⟨by kernel_rfl, by kernel_rfl, by kernel_rfl⟩
instance : Ty Try.prog 208 false 1 ([.nilFunc]) := ⟨by kernel_rfl, by kernel_rfl, by kernel_rfl⟩
instance : Ty Try.prog 209 false 1 ([.nilFunc]) := ⟨by kernel_rfl, by kernel_rfl, by kernel_rfl⟩
instance : Ty Try.prog 210 false 1 ([.nilFunc]) := ⟨by kernel_rfl, by kernel_rfl, by kernel_rfl⟩
instance : Ty Try.prog 211 false 1 ([.nilFunc]) := ⟨by kernel_rfl, by kernel_rfl, by kernel_rfl⟩
instance : Ty Try.prog 212 false 1 ([.nilFunc]) := ⟨by kernel_rfl, by kernel_rfl, by kernel_rfl⟩
instance : Ty Try.prog 213 false 1 ([.nilFunc]) := ⟨by kernel_rfl, by kernel_rfl, by kernel_rfl⟩
instance : Ty Try.prog 214 false 1 ([.nilFunc]) := ⟨by kernel_rfl, by kernel_rfl, by kernel_rfl⟩
instance : Ty Try.prog 215 false 1 ([.nilFunc]) := ⟨by kernel_rfl, by kernel_rfl, by kernel_rfl⟩
instance : Ty Try.prog 216 false 1 ([.pointer none]) := ⟨by kernel_rfl, by kernel_rfl, by kernel_rfl⟩
instance : Pt Try.prog 216 234 := ⟨by kernel_rfl⟩
instance : Ty Try.prog 217 true 4 ([.pointer none, .pointer none, .pointer none, .string ⟨#[]⟩]) := ⟨by kernel_rfl, by kernel_rfl, by kernel_rfl⟩
instance : StP Try.prog 217 [(0, 1), (1, 1), (2, 1), (3, 1)] := ⟨by kernel_rfl⟩
instance : FldT Try.prog 217 0 0 false 1 := ⟨by kernel_rfl, rfl⟩
instance : FldT Try.prog 217 1 1 false 1 := ⟨by kernel_rfl, rfl⟩
instance : FldT Try.prog 217 2 2 false 1 := ⟨by kernel_rfl, rfl⟩
instance : FldT Try.prog 217 3 3 false 1 := ⟨by kernel_rfl, rfl⟩
instance : Ty Try.prog 218 true 4 ([.pointer none, .pointer none, .pointer none, .string ⟨#[]⟩]) := ⟨by kernel_rfl, by kernel_rfl, by kernel_rfl⟩
instance : StP Try.prog 218 [(0, 1), (1, 1), (2, 1), (3, 1)] := ⟨by kernel_rfl⟩
instance : FldT Try.prog 218 0 0 false 1 := ⟨by kernel_rfl, rfl⟩
instance : FldT Try.prog 218 1 1 false 1 := ⟨by kernel_rfl, rfl⟩
instance : FldT Try.prog 218 2 2 false 1 := ⟨by kernel_rfl, rfl⟩
instance : FldT Try.prog 218 3 3 false 1 := ⟨by kernel_rfl, rfl⟩
instance : Ty Try.prog 219 true 0 ([]) := ⟨by kernel_rfl, by kernel_rfl, by kernel_rfl⟩
instance : Ar Try.prog 219 0 16 := ⟨by kernel_rfl⟩
instance : Ty Try.prog 220 true 0 ([]) := ⟨by kernel_rfl, by kernel_rfl, by kernel_rfl⟩
instance : StP Try.prog 220 [(0, 0)] := ⟨by kernel_rfl⟩
instance : Ty Try.prog 221 true 0 ([]) := ⟨by kernel_rfl, by kernel_rfl, by kernel_rfl⟩
instance : StP Try.prog 221 [(0, 0)] := ⟨by kernel_rfl⟩
instance : Ty Try.prog 222 false 1 ([.int .u8 0]) := ⟨by kernel_rfl, by kernel_rfl, by kernel_rfl⟩
instance : Ik Try.prog 222 .u8 := ⟨by kernel_rfl⟩
instance : Ty Try.prog 223 false 1 ([.int .u8 0]) := ⟨by kernel_rfl, by kernel_rfl, by kernel_rfl⟩
instance : Ik Try.prog 223 .u8 := ⟨by kernel_rfl⟩
instance : Ty Try.prog 224 false 1 ([.nilFunc]) := ⟨by kernel_rfl, by kernel_rfl, by kernel_rfl⟩
instance : Ty Try.prog 225 false 1 ([.int .i32 0]) := ⟨by kernel_rfl, by kernel_rfl, by kernel_rfl⟩
instance : Ik Try.prog 225 .i32 := ⟨by kernel_rfl⟩
instance : Ty Try.prog 226 false 1 ([.int .i32 0]) := ⟨by kernel_rfl, by kernel_rfl, by kernel_rfl⟩
instance : Ik Try.prog 226 .i32 := ⟨by kernel_rfl⟩
instance : Ty Try.prog 227 true 11 ([.int .u64 0, .int .u64 0, .int .u32 0, .int .u8 0, .int .u8 0, .int .u8 0, .int .u8 0, .nilFunc, .pointer none, .int .i32 0, .int .i32 0]) := ⟨by kernel_rfl, by kernel_rfl, by kernel_rfl⟩
instance : StP Try.prog 227 [(0, 1), (1, 1), (2, 1), (3, 1), (4, 1), (5, 1), (6, 1), (7, 1), (8, 1), (9, 1), (10, 1)] := ⟨by kernel_rfl⟩
instance : FldT Try.prog 227 0 0 false 1 := ⟨by kernel_rfl, rfl⟩
instance : FldT Try.prog 227 1 1 false 1 := ⟨by kernel_rfl, rfl⟩
instance : FldT Try.prog 227 2 2 false 1 := ⟨by kernel_rfl, rfl⟩
instance : FldT Try.prog 227 3 3 false 1 := ⟨by kernel_rfl, rfl⟩
instance : FldT Try.prog 227 4 4 false 1 := ⟨by kernel_rfl, rfl⟩
instance : FldT Try.prog 227 5 5 false 1 := ⟨by kernel_rfl, rfl⟩
instance : FldT Try.prog 227 6 6 false 1 := ⟨by kernel_rfl, rfl⟩
instance : FldT Try.prog 227 7 7 false 1 := ⟨by kernel_rfl, rfl⟩
instance : FldT Try.prog 227 8 8 false 1 := ⟨by kernel_rfl, rfl⟩
instance : FldT Try.prog 227 9 9 false 1 := ⟨by kernel_rfl, rfl⟩
instance : FldT Try.prog 227 10 10 false 1 := ⟨by kernel_rfl, rfl⟩
instance : Ty Try.prog 228 true 11 ([.int .u64 0, .int .u64 0, .int .u32 0, .int .u8 0, .int .u8 0, .int .u8 0, .int .u8 0, .nilFunc, .pointer none, .int .i32 0, .int .i32 0]) := ⟨by kernel_rfl, by kernel_rfl, by kernel_rfl⟩
instance : StP Try.prog 228 [(0, 1), (1, 1), (2, 1), (3, 1), (4, 1), (5, 1), (6, 1), (7, 1), (8, 1), (9, 1), (10, 1)] := ⟨by kernel_rfl⟩
instance : FldT Try.prog 228 0 0 false 1 := ⟨by kernel_rfl, rfl⟩
instance : FldT Try.prog 228 1 1 false 1 := ⟨by kernel_rfl, rfl⟩
instance : FldT Try.prog 228 2 2 false 1 := ⟨by kernel_rfl, rfl⟩
instance : FldT Try.prog 228 3 3 false 1 := ⟨by kernel_rfl, rfl⟩
instance : FldT Try.prog 228 4 4 false 1 := ⟨by kernel_rfl, rfl⟩
instance : FldT Try.prog 228 5 5 false 1 := ⟨by kernel_rfl, rfl⟩
instance : FldT Try.prog 228 6 6 false 1 := ⟨by kernel_rfl, rfl⟩
instance : FldT Try.prog 228 7 7 false 1 := ⟨by kernel_rfl, rfl⟩
instance : FldT Try.prog 228 8 8 false 1 := ⟨by kernel_rfl, rfl⟩
instance : FldT Try.prog 228 9 9 false 1 := ⟨by kernel_rfl, rfl⟩
instance : FldT Try.prog 228 10 10 false 1 := ⟨by kernel_rfl, rfl⟩
instance : Ty Try.prog 229 true 25 ([.int .i64 0, .int .i64 0, .int .i64 0, .int .i64 0, .int .u64 0, .int .u64 0, .int .u64 0, .int .u64 0, .int .i64 0, .string ⟨#[]⟩, .int .i64 0, .int .i64 0, .int .i64 0, .int .i64 0, .string ⟨#[]⟩, .int .u64 0, .int .u64 0, .int .u64 0, .int .u64 0, .int .i64 0, .int .u64 0, .int .u64 0, .int .u64 0, .int .u64 0, .string ⟨#[]⟩]) := ⟨by kernel_rfl, by kernel_rfl, by kernel_rfl⟩
instance : StP Try.prog 229 [(0, 1), (1, 1), (2, 1), (3, 1), (4, 4), (8, 7), (15, 5), (20, 4), (24, 1)] := ⟨by kernel_rfl⟩
instance : FldT Try.prog 229 0 0 false 1 := ⟨by kernel_rfl, rfl⟩
instance : FldT Try.prog 229 1 1 false 1 := ⟨by kernel_rfl, rfl⟩
instance : FldT Try.prog 229 2 2 false 1 := ⟨by kernel_rfl, rfl⟩
instance : FldT Try.prog 229 3 3 false 1 := ⟨by kernel_rfl, rfl⟩
instance : FldT Try.prog 229 4 4 true 4 := ⟨by kernel_rfl, rfl⟩
instance : FldT Try.prog 229 5 8 true 7 := ⟨by kernel_rfl, rfl⟩
instance : FldT Try.prog 229 6 15 true 5 := ⟨by kernel_rfl, rfl⟩
instance : FldT Try.prog 229 7 20 true 4 := ⟨by kernel_rfl, rfl⟩
instance : FldT Try.prog 229 8 24 false 1 := ⟨by kernel_rfl, rfl⟩
instance : Ty Try.prog 230 true 25 ([.int .i64 0, .int .i64 0, .int .i64 0, .int .i64 0, .int .u64 0, .int .u64 0, .int .u64 0, .int .u64 0, .int .i64 0, .string ⟨#[]⟩, .int .i64 0, .int .i64 0, .int .i64 0, .int .i64 0, .string ⟨#[]⟩, .int .u64 0, .int .u64 0, .int .u64 0, .int .u64 0, .int .i64 0, .int .u64 0, .int .u64 0, .int .u64 0, .int .u64 0, .string ⟨#[]⟩]) := ⟨by kernel_rfl, by kernel_rfl, by kernel_rfl⟩
instance : StP Try.prog 230 [(0, 1), (1, 1), (2, 1), (3, 1), (4, 4), (8, 7), (15, 5), (20, 4), (24, 1)] := ⟨by kernel_rfl⟩
instance : FldT Try.prog 230 0 0 false 1 := ⟨by kernel_rfl, rfl⟩
instance : FldT Try.prog 230 1 1 false 1 := ⟨by kernel_rfl, rfl⟩
instance : FldT Try.prog 230 2 2 false 1 := ⟨by kernel_rfl, rfl⟩
instance : FldT Try.prog 230 3 3 false 1 := ⟨by kernel_rfl, rfl⟩
instance : FldT Try.prog 230 4 4 true 4 := ⟨by kernel_rfl, rfl⟩
instance : FldT Try.prog 230 5 8 true 7 := ⟨by kernel_rfl, rfl⟩
instance : FldT Try.prog 230 6 15 true 5 := ⟨by kernel_rfl, rfl⟩
instance : FldT Try.prog 230 7 20 true 4 := ⟨by kernel_rfl, rfl⟩
instance : FldT Try.prog 230 8 24 false 1 := ⟨by kernel_rfl, rfl⟩
instance : Ty Try.prog 231 true 26 ([.int .i64 0] ++ [.int .i64 0, .int .i64 0, .int .i64 0, .int .i64 0, .int .u64 0, .int .u64 0, .int .u64 0, .int .u64 0, .int .i64 0, .string ⟨#[]⟩, .int .i64 0, .int .i64 0, .int .i64 0, .int .i64 0, .string ⟨#[]⟩, .int .u64 0, .int .u64 0, .int .u64 0, .int .u64 0, .int .i64 0, .int .u64 0, .int .u64 0, .int .u64 0, .int .u64 0, .string ⟨#[]⟩]) := ⟨by kernel_rfl, by kernel_rfl, by kernel_rfl⟩
instance : StP Try.prog 231 [(0, 1), (1, 25)] := ⟨by kernel_rfl⟩
instance : FldT Try.prog 231 0 0 false 1 := ⟨by kernel_rfl, rfl⟩
instance : FldT Try.prog 231 1 1 true 25 := ⟨by kernel_rfl, rfl⟩
instance : Ty Try.prog 232 true 26 ([.int .i64 0] ++ [.int .i64 0, .int .i64 0, .int .i64 0, .int .i64 0, .int .u64 0, .int .u64 0, .int .u64 0, .int .u64 0, .int .i64 0, .string ⟨#[]⟩, .int .i64 0, .int .i64 0, .int .i64 0, .int .i64 0, .string ⟨#[]⟩, .int .u64 0, .int .u64 0, .int .u64 0, .int .u64 0, .int .i64 0, .int .u64 0, .int .u64 0, .int .u64 0, .int .u64 0, .string ⟨#[]⟩]) := ⟨by kernel_rfl, by kernel_rfl, by kernel_rfl⟩
instance : StP Try.prog 232 [(0, 1), (1, 25)] := ⟨by kernel_rfl⟩
instance : FldT Try.prog 232 0 0 false 1 := ⟨by kernel_rfl, rfl⟩
instance : FldT Try.prog 232 1 1 true 25 := ⟨by kernel_rfl, rfl⟩
instance : Ty Try.prog 233 true 1 ([.string ⟨#[]⟩]) := ⟨by kernel_rfl, by kernel_rfl, by kernel_rfl⟩
instance : StP Try.prog 233 [(0, 1)] := ⟨by kernel_rfl⟩
instance : FldT Try.prog 233 0 0 false 1 := ⟨by kernel_rfl, rfl⟩
instance : Ty Try.prog 234 true 1 ([.string ⟨#[]⟩]) := ⟨by kernel_rfl, by kernel_rfl, by kernel_rfl⟩
instance : StP Try.prog 234 [(0, 1)] := ⟨by kernel_rfl⟩
instance : FldT Try.prog 234 0 0 false 1 := ⟨by kernel_rfl, rfl⟩
-- narrows/narrowslaw20.ClientFees
instance : Enters Try.prog 3 := enters_of' Try.func3 (by kernel_rfl) (by kernel_rfl)
-- narrows/narrowslaw32.TextLines
instance : Enters Try.prog 4 := enters_of' Try.func4 (by kernel_rfl) (by kernel_rfl)
-- narrows/narrowslaw20.ClientAsks
instance : Enters Try.prog 5 := enters_of' Try.func5 (by kernel_rfl) (by kernel_rfl)
-- narrows/narrowslaw22.RelayKeeps
instance : Enters Try.prog 6 := enters_of' Try.func6 (by kernel_rfl) (by kernel_rfl)
-- narrows/narrowslaw20.alive
instance : Enters Try.prog 7 := enters_of' Try.func7 (by kernel_rfl) (by kernel_rfl)
-- narrows/client.New
instance : Enters Try.prog 8 := enters_of' Try.func8 (by kernel_rfl) (by kernel_rfl)
-- (*narrows/client.Client).Fee
instance : Enters Try.prog 9 := enters_of' Try.func9 (by kernel_rfl) (by kernel_rfl)
-- narrows/narrowslaw32.alive
instance : Enters Try.prog 10 := enters_of' Try.func10 (by kernel_rfl) (by kernel_rfl)
-- narrows/text.Put
instance : Enters Try.prog 11 := enters_of' Try.func11 (by kernel_rfl) (by kernel_rfl)
-- narrows/text.Hex
instance : Enters Try.prog 12 := enters_of' Try.func12 (by kernel_rfl) (by kernel_rfl)
-- narrows/text.Line
instance : Enters Try.prog 13 := enters_of' Try.func13 (by kernel_rfl) (by kernel_rfl)
-- narrows/narrowslaw32.digit
instance : Enters Try.prog 14 := enters_of' Try.func14 (by kernel_rfl) (by kernel_rfl)
-- (*narrows/client.Client).Ask
instance : Enters Try.prog 15 := enters_of' Try.func15 (by kernel_rfl) (by kernel_rfl)
-- narrows/narrowsref06.Ask
instance : Enters Try.prog 16 := enters_of' Try.func16 (by kernel_rfl) (by kernel_rfl)
-- narrows/narrowslaw22.alive
instance : Enters Try.prog 17 := enters_of' Try.func17 (by kernel_rfl) (by kernel_rfl)
-- narrows/relay.New
instance : Enters Try.prog 18 := enters_of' Try.func18 (by kernel_rfl) (by kernel_rfl)
-- narrows/mail.Put
instance : Enters Try.prog 19 := enters_of' Try.func19 (by kernel_rfl) (by kernel_rfl)
-- (*narrows/relay.Relay).Hear
instance : Enters Try.prog 20 := enters_of' Try.func20 (by kernel_rfl) (by kernel_rfl)
-- (*narrows/relay.Relay).Count
instance : Enters Try.prog 21 := enters_of' Try.func21 (by kernel_rfl) (by kernel_rfl)
-- (*narrows/client.Client).Down
instance : Enters Try.prog 22 := enters_of' Try.func22 (by kernel_rfl) (by kernel_rfl)
-- (*narrows/client.Client).Root
instance : Enters Try.prog 23 := enters_of' Try.func23 (by kernel_rfl) (by kernel_rfl)
-- narrows/narrowsref04.Root
instance : Enters Try.prog 24 := enters_of' Try.func24 (by kernel_rfl) (by kernel_rfl)
-- narrows/client.Seed
instance : Enters Try.prog 25 := enters_of' Try.func25 (by kernel_rfl) (by kernel_rfl)
-- narrows/plan.Delay
instance : Enters Try.prog 26 := enters_of' Try.func26 (by kernel_rfl) (by kernel_rfl)
-- narrows/mss.Root
instance : Enters Try.prog 27 := enters_of' Try.func27 (by kernel_rfl) (by kernel_rfl)
-- slices.Clone[[]string,string]
instance : Enters Try.prog 28 := enters_of' Try.func28 (by kernel_rfl) (by kernel_rfl)
-- narrows/auction.New
instance : Enters Try.prog 29 := enters_of' Try.func29 (by kernel_rfl) (by kernel_rfl)
-- narrows/disk.New
instance : Enters Try.prog 30 := enters_of' Try.func30 (by kernel_rfl) (by kernel_rfl)
-- narrows/wide.Cmp
instance : Enters Try.prog 31 := enters_of' Try.func31 (by kernel_rfl) (by kernel_rfl)
-- narrows/wide.Of
instance : Enters Try.prog 32 := enters_of' Try.func32 (by kernel_rfl) (by kernel_rfl)
-- narrows/text.Read
instance : Enters Try.prog 33 := enters_of' Try.func33 (by kernel_rfl) (by kernel_rfl)
-- narrows/wide.Div
instance : Enters Try.prog 34 := enters_of' Try.func34 (by kernel_rfl) (by kernel_rfl)
-- (*strings.Builder).WriteByte
instance : Enters Try.prog 35 := enters_of' Try.func35 (by kernel_rfl) (by kernel_rfl)
-- (*strings.Builder).String
instance : Enters Try.prog 36 := enters_of' Try.func36 (by kernel_rfl) (by kernel_rfl)
-- strings.Join
instance : Enters Try.prog 37 := enters_of' Try.func37 (by kernel_rfl) (by kernel_rfl)
-- (*narrows/client.Client).up
instance : Enters Try.prog 38 := enters_of' Try.func38 (by kernel_rfl) (by kernel_rfl)
-- (*narrows/client.Client).find
instance : Enters Try.prog 39 := enters_of' Try.func39 (by kernel_rfl) (by kernel_rfl)
-- (*narrows/auction.Room).Open
instance : Enters Try.prog 40 := enters_of' Try.func40 (by kernel_rfl) (by kernel_rfl)
-- narrows/narrowsref06.Inv
instance : Enters Try.prog 41 := enters_of' Try.func41 (by kernel_rfl) (by kernel_rfl)
-- narrows/narrowsref06.stand
instance : Enters Try.prog 42 := enters_of' Try.func42 (by kernel_rfl) (by kernel_rfl)
-- narrows/narrowslaw22.release
instance : Enters Try.prog 43 := enters_of' Try.func43 (by kernel_rfl) (by kernel_rfl)
-- narrows/mail.Check
instance : Enters Try.prog 44 := enters_of' Try.func44 (by kernel_rfl) (by kernel_rfl)
-- narrows/field.New
instance : Enters Try.prog 45 := enters_of' Try.func45 (by kernel_rfl) (by kernel_rfl)
-- (*narrows/field.Out).Num
instance : Enters Try.prog 46 := enters_of' Try.func46 (by kernel_rfl) (by kernel_rfl)
-- narrows/bid.PutAsk
instance : Enters Try.prog 47 := enters_of' Try.func47 (by kernel_rfl) (by kernel_rfl)
-- (*narrows/field.Out).Wide
instance : Enters Try.prog 48 := enters_of' Try.func48 (by kernel_rfl) (by kernel_rfl)
-- (*narrows/field.Out).Text
instance : Enters Try.prog 49 := enters_of' Try.func49 (by kernel_rfl) (by kernel_rfl)
-- narrows/deal.Put
instance : Enters Try.prog 50 := enters_of' Try.func50 (by kernel_rfl) (by kernel_rfl)
-- narrows/deal.PutVar
instance : Enters Try.prog 51 := enters_of' Try.func51 (by kernel_rfl) (by kernel_rfl)
-- (*narrows/field.Out).Done
instance : Enters Try.prog 52 := enters_of' Try.func52 (by kernel_rfl) (by kernel_rfl)
-- narrows/mail.Read
instance : Enters Try.prog 53 := enters_of' Try.func53 (by kernel_rfl) (by kernel_rfl)
-- slices.Contains[[]narrows/api.Message,narrows/api.Message]
instance : Enters Try.prog 54 := enters_of' Try.func54 (by kernel_rfl) (by kernel_rfl)
-- narrows/narrowsref04.row
instance : Enters Try.prog 55 := enters_of' Try.func55 (by kernel_rfl) (by kernel_rfl)
-- narrows/mss.row
instance : Enters Try.prog 56 := enters_of' Try.func56 (by kernel_rfl) (by kernel_rfl)
-- narrows/mss.above
instance : Enters Try.prog 57 := enters_of' Try.func57 (by kernel_rfl) (by kernel_rfl)
-- slices.Backward[[]uint64,uint64]
instance : Enters Try.prog 58 := enters_of' Try.func58 (by kernel_rfl) (by kernel_rfl)
-- narrows/text.digits
instance : Enters Try.prog 59 := enters_of' Try.func59 (by kernel_rfl) (by kernel_rfl)
-- narrows/wide.Mul
instance : Enters Try.prog 60 := enters_of' Try.func60 (by kernel_rfl) (by kernel_rfl)
-- narrows/wide.Add
instance : Enters Try.prog 61 := enters_of' Try.func61 (by kernel_rfl) (by kernel_rfl)
-- math/bits.Div64
instance : Enters Try.prog 62 := enters_of' Try.func62 (by kernel_rfl) (by kernel_rfl)
-- (*strings.Builder).copyCheck
instance : Enters Try.prog 63 := enters_of' Try.func63 (by kernel_rfl) (by kernel_rfl)
-- (*strings.Builder).Grow
instance : Enters Try.prog 64 := enters_of' Try.func64 (by kernel_rfl) (by kernel_rfl)
-- (*strings.Builder).WriteString
instance : Enters Try.prog 65 := enters_of' Try.func65 (by kernel_rfl) (by kernel_rfl)
-- slices.IndexFunc[[]*narrows/client.entry,*narrows/client.entry]
instance : Enters Try.prog 66 := enters_of' Try.func66 (by kernel_rfl) (by kernel_rfl)
-- (*narrows/client.Client).find$1
instance : Enters Try.prog 67 := enters_of' Try.func67 (by kernel_rfl) (by kernel_rfl)
-- narrows/bid.CheckAsk
instance : Enters Try.prog 68 := enters_of' Try.func68 (by kernel_rfl) (by kernel_rfl)
-- (*narrows/auction.Room).find
instance : Enters Try.prog 69 := enters_of' Try.func69 (by kernel_rfl) (by kernel_rfl)
-- narrows/narrowslaw22.deals
instance : Enters Try.prog 70 := enters_of' Try.func70 (by kernel_rfl) (by kernel_rfl)
-- narrows/mss.Sign
instance : Enters Try.prog 71 := enters_of' Try.func71 (by kernel_rfl) (by kernel_rfl)
-- narrows/deal.Payload
instance : Enters Try.prog 72 := enters_of' Try.func72 (by kernel_rfl) (by kernel_rfl)
-- narrows/deal.Key
instance : Enters Try.prog 73 := enters_of' Try.func73 (by kernel_rfl) (by kernel_rfl)
-- narrows/bid.Check
instance : Enters Try.prog 74 := enters_of' Try.func74 (by kernel_rfl) (by kernel_rfl)
-- narrows/deal.Check
instance : Enters Try.prog 75 := enters_of' Try.func75 (by kernel_rfl) (by kernel_rfl)
-- narrows/deal.Sound
instance : Enters Try.prog 76 := enters_of' Try.func76 (by kernel_rfl) (by kernel_rfl)
-- (*narrows/field.Out).put
instance : Enters Try.prog 77 := enters_of' Try.func77 (by kernel_rfl) (by kernel_rfl)
-- narrows/blob.Num
instance : Enters Try.prog 78 := enters_of' Try.func78 (by kernel_rfl) (by kernel_rfl)
-- narrows/blob.Wide
instance : Enters Try.prog 79 := enters_of' Try.func79 (by kernel_rfl) (by kernel_rfl)
-- narrows/blob.Cat
instance : Enters Try.prog 80 := enters_of' Try.func80 (by kernel_rfl) (by kernel_rfl)
-- narrows/field.Open
instance : Enters Try.prog 81 := enters_of' Try.func81 (by kernel_rfl) (by kernel_rfl)
-- (*narrows/field.In).Num
instance : Enters Try.prog 82 := enters_of' Try.func82 (by kernel_rfl) (by kernel_rfl)
-- narrows/bid.GetAsk
instance : Enters Try.prog 83 := enters_of' Try.func83 (by kernel_rfl) (by kernel_rfl)
-- (*narrows/field.In).Wide
instance : Enters Try.prog 84 := enters_of' Try.func84 (by kernel_rfl) (by kernel_rfl)
-- (*narrows/field.In).Text
instance : Enters Try.prog 85 := enters_of' Try.func85 (by kernel_rfl) (by kernel_rfl)
-- narrows/deal.Get
instance : Enters Try.prog 86 := enters_of' Try.func86 (by kernel_rfl) (by kernel_rfl)
-- narrows/deal.GetVar
instance : Enters Try.prog 87 := enters_of' Try.func87 (by kernel_rfl) (by kernel_rfl)
-- (*narrows/field.In).Err
instance : Enters Try.prog 88 := enters_of' Try.func88 (by kernel_rfl) (by kernel_rfl)
-- (*narrows/field.In).Left
instance : Enters Try.prog 89 := enters_of' Try.func89 (by kernel_rfl) (by kernel_rfl)
-- slices.Index[[]narrows/api.Message,narrows/api.Message]
instance : Enters Try.prog 90 := enters_of' Try.func90 (by kernel_rfl) (by kernel_rfl)
-- narrows/narrowsref04.Public
instance : Enters Try.prog 91 := enters_of' Try.func91 (by kernel_rfl) (by kernel_rfl)
-- narrows/narrowsref01.Short
instance : Enters Try.prog 92 := enters_of' Try.func92 (by kernel_rfl) (by kernel_rfl)
-- narrows/ots.Public
instance : Enters Try.prog 93 := enters_of' Try.func93 (by kernel_rfl) (by kernel_rfl)
-- narrows/mss.join
instance : Enters Try.prog 94 := enters_of' Try.func94 (by kernel_rfl) (by kernel_rfl)
-- slices.Backward[[]uint64,uint64]$1
instance : Enters Try.prog 95 := enters_of' Try.func95 (by kernel_rfl) (by kernel_rfl)
-- math/bits.Mul64
instance : Enters Try.prog 96 := enters_of' Try.func96 (by kernel_rfl) (by kernel_rfl)
-- math/bits.LeadingZeros64
instance : Enters Try.prog 98 := enters_of' Try.func98 (by kernel_rfl) (by kernel_rfl)
-- (*strings.Builder).grow
instance : Enters Try.prog 100 := enters_of' Try.func100 (by kernel_rfl) (by kernel_rfl)
-- narrows/bid.stand
instance : Enters Try.prog 101 := enters_of' Try.func101 (by kernel_rfl) (by kernel_rfl)
-- slices.IndexFunc[[]*narrows/auction.entry,*narrows/auction.entry]
instance : Enters Try.prog 102 := enters_of' Try.func102 (by kernel_rfl) (by kernel_rfl)
-- (*narrows/auction.Room).find$1
instance : Enters Try.prog 103 := enters_of' Try.func103 (by kernel_rfl) (by kernel_rfl)
-- narrows/ots.Sign
instance : Enters Try.prog 104 := enters_of' Try.func104 (by kernel_rfl) (by kernel_rfl)
-- narrows/mss.Path
instance : Enters Try.prog 105 := enters_of' Try.func105 (by kernel_rfl) (by kernel_rfl)
-- narrows/deal.in
instance : Enters Try.prog 106 := enters_of' Try.func106 (by kernel_rfl) (by kernel_rfl)
-- narrows/hash.Text
instance : Enters Try.prog 107 := enters_of' Try.func107 (by kernel_rfl) (by kernel_rfl)
-- slices.Backward[[]byte,byte]
instance : Enters Try.prog 108 := enters_of' Try.func108 (by kernel_rfl) (by kernel_rfl)
-- slices.Concat[[]byte,byte]
instance : Enters Try.prog 109 := enters_of' Try.func109 (by kernel_rfl) (by kernel_rfl)
-- narrows/blob.Int
instance : Enters Try.prog 110 := enters_of' Try.func110 (by kernel_rfl) (by kernel_rfl)
-- (*narrows/field.In).take
instance : Enters Try.prog 111 := enters_of' Try.func111 (by kernel_rfl) (by kernel_rfl)
-- (*narrows/field.In).ok
instance : Enters Try.prog 112 := enters_of' Try.func112 (by kernel_rfl) (by kernel_rfl)
-- (*narrows/field.In).fail
instance : Enters Try.prog 113 := enters_of' Try.func113 (by kernel_rfl) (by kernel_rfl)
-- (*narrows/field.In).Spoil
instance : Enters Try.prog 114 := enters_of' Try.func114 (by kernel_rfl) (by kernel_rfl)
-- narrows/blob.Unwide
instance : Enters Try.prog 115 := enters_of' Try.func115 (by kernel_rfl) (by kernel_rfl)
-- narrows/narrowsref04.Begin
instance : Enters Try.prog 116 := enters_of' Try.func116 (by kernel_rfl) (by kernel_rfl)
-- narrows/narrowsref04.Walk
instance : Enters Try.prog 117 := enters_of' Try.func117 (by kernel_rfl) (by kernel_rfl)
-- narrows/narrowsref01.Sum
instance : Enters Try.prog 118 := enters_of' Try.func118 (by kernel_rfl) (by kernel_rfl)
-- narrows/ots.closed
instance : Enters Try.prog 119 := enters_of' Try.func119 (by kernel_rfl) (by kernel_rfl)
-- narrows/ots.Begin
instance : Enters Try.prog 120 := enters_of' Try.func120 (by kernel_rfl) (by kernel_rfl)
-- narrows/hash.Short
instance : Enters Try.prog 121 := enters_of' Try.func121 (by kernel_rfl) (by kernel_rfl)
-- math/bits.Len64
instance : Enters Try.prog 122 := enters_of' Try.func122 (by kernel_rfl) (by kernel_rfl)
-- narrows/ots.Digits
instance : Enters Try.prog 124 := enters_of' Try.func124 (by kernel_rfl) (by kernel_rfl)
-- narrows/ots.Walk
instance : Enters Try.prog 125 := enters_of' Try.func125 (by kernel_rfl) (by kernel_rfl)
-- narrows/hash.Sum
instance : Enters Try.prog 126 := enters_of' Try.func126 (by kernel_rfl) (by kernel_rfl)
-- slices.Backward[[]byte,byte]$1
instance : Enters Try.prog 127 := enters_of' Try.func127 (by kernel_rfl) (by kernel_rfl)
-- slices.Grow[[]byte,byte]
instance : Enters Try.prog 128 := enters_of' Try.func128 (by kernel_rfl) (by kernel_rfl)
-- narrows/narrowsref01.Num
instance : Enters Try.prog 129 := enters_of' Try.func129 (by kernel_rfl) (by kernel_rfl)
-- narrows/narrowsref01.Over
instance : Enters Try.prog 130 := enters_of' Try.func130 (by kernel_rfl) (by kernel_rfl)
-- narrows/narrowsref01.table
instance : Enters Try.prog 131 := enters_of' Try.func131 (by kernel_rfl) (by kernel_rfl)
-- narrows/ots.spread
instance : Enters Try.prog 132 := enters_of' Try.func132 (by kernel_rfl) (by kernel_rfl)
-- narrows/hash.begin
instance : Enters Try.prog 133 := enters_of' Try.func133 (by kernel_rfl) (by kernel_rfl)
-- narrows/hash.keys
instance : Enters Try.prog 134 := enters_of' Try.func134 (by kernel_rfl) (by kernel_rfl)
-- slices.Chunk[[]byte,byte]
instance : Enters Try.prog 135 := enters_of' Try.func135 (by kernel_rfl) (by kernel_rfl)
-- narrows/hash.Pad
instance : Enters Try.prog 136 := enters_of' Try.func136 (by kernel_rfl) (by kernel_rfl)
-- narrows/hash.schedule
instance : Enters Try.prog 137 := enters_of' Try.func137 (by kernel_rfl) (by kernel_rfl)
-- (narrows/hash.eight).round
instance : Enters Try.prog 138 := enters_of' Try.func138 (by kernel_rfl) (by kernel_rfl)
-- narrows/narrowsref01.Pad
instance : Enters Try.prog 139 := enters_of' Try.func139 (by kernel_rfl) (by kernel_rfl)
-- narrows/narrowsref01.block
instance : Enters Try.prog 140 := enters_of' Try.func140 (by kernel_rfl) (by kernel_rfl)
-- narrows/narrowsref01.Cat
instance : Enters Try.prog 141 := enters_of' Try.func141 (by kernel_rfl) (by kernel_rfl)
-- slices.Backward[[]int,int]
instance : Enters Try.prog 142 := enters_of' Try.func142 (by kernel_rfl) (by kernel_rfl)
-- slices.Chunk[[]byte,byte]$1
instance : Enters Try.prog 143 := enters_of' Try.func143 (by kernel_rfl) (by kernel_rfl)
-- slices.Clone[[]byte,byte]
instance : Enters Try.prog 144 := enters_of' Try.func144 (by kernel_rfl) (by kernel_rfl)
-- narrows/hash.three
instance : Enters Try.prog 145 := enters_of' Try.func145 (by kernel_rfl) (by kernel_rfl)
-- narrows/narrowsref01.Int
instance : Enters Try.prog 146 := enters_of' Try.func146 (by kernel_rfl) (by kernel_rfl)
-- narrows/narrowsref01.turn
instance : Enters Try.prog 147 := enters_of' Try.func147 (by kernel_rfl) (by kernel_rfl)
-- slices.Backward[[]int,int]$1
instance : Enters Try.prog 148 := enters_of' Try.func148 (by kernel_rfl) (by kernel_rfl)
-- narrows/hash.rotr
instance : Enters Try.prog 149 := enters_of' Try.func149 (by kernel_rfl) (by kernel_rfl)
-- math/bits.RotateLeft32
instance : Enters Try.prog 150 := enters_of' Try.func150 (by kernel_rfl) (by kernel_rfl)
end Go.Proofs.Ytfcaeifpclpnoaa
