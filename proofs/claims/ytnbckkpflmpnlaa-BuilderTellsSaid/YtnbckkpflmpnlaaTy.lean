/-
  The types of this seat's translation, and the functions that are entered, as instances for the engine. No conditions.
-/
import Derived.Test.YtnbckkpflmpnlaaRows
import Derived.Test.YtnbckkpflmpnlaaRow
namespace Go.Proofs.Ytnbckkpflmpnlaa
open Go Go.RowKit Eng
set_option maxRecDepth 100000

instance : Ty Try.prog 1 false 1 [.nilFunc] := ⟨by kernel_rfl, by kernel_rfl, by kernel_rfl⟩
instance : Ty Try.prog 2 false 1 [.int .i64 0] := ⟨by kernel_rfl, by kernel_rfl, by kernel_rfl⟩
instance : Ik Try.prog 2 .i64 := ⟨by kernel_rfl⟩
instance : Ty Try.prog 3 false 1 [.int .i64 0] := ⟨by kernel_rfl, by kernel_rfl, by kernel_rfl⟩
instance : Ik Try.prog 3 .i64 := ⟨by kernel_rfl⟩
instance : Ty Try.prog 4 false 1 [.bool false] := ⟨by kernel_rfl, by kernel_rfl, by kernel_rfl⟩
instance : BoolT Try.prog 4 := ⟨by kernel_rfl⟩
instance : Ty Try.prog 5 false 1 [.int .u8 0] := ⟨by kernel_rfl, by kernel_rfl, by kernel_rfl⟩
instance : Ik Try.prog 5 .u8 := ⟨by kernel_rfl⟩
instance : Ty Try.prog 6 false 1 [.int .u8 0] := ⟨by kernel_rfl, by kernel_rfl, by kernel_rfl⟩
instance : Ik Try.prog 6 .u8 := ⟨by kernel_rfl⟩
instance : Ty Try.prog 7 true 4 [.int .i64 0, .int .i64 0, .bool false, .int .u8 0] := ⟨by kernel_rfl, by kernel_rfl, by kernel_rfl⟩
instance : StP Try.prog 7 [(0, 1), (1, 1), (2, 1), (3, 1)] := ⟨by kernel_rfl⟩
instance : FldT Try.prog 7 0 0 false 1 := ⟨by kernel_rfl, rfl⟩
instance : FldT Try.prog 7 1 1 false 1 := ⟨by kernel_rfl, rfl⟩
instance : FldT Try.prog 7 2 2 false 1 := ⟨by kernel_rfl, rfl⟩
instance : FldT Try.prog 7 3 3 false 1 := ⟨by kernel_rfl, rfl⟩
instance : Ty Try.prog 8 true 4 [.int .i64 0, .int .i64 0, .bool false, .int .u8 0] := ⟨by kernel_rfl, by kernel_rfl, by kernel_rfl⟩
instance : StP Try.prog 8 [(0, 1), (1, 1), (2, 1), (3, 1)] := ⟨by kernel_rfl⟩
instance : FldT Try.prog 8 0 0 false 1 := ⟨by kernel_rfl, rfl⟩
instance : FldT Try.prog 8 1 1 false 1 := ⟨by kernel_rfl, rfl⟩
instance : FldT Try.prog 8 2 2 false 1 := ⟨by kernel_rfl, rfl⟩
instance : FldT Try.prog 8 3 3 false 1 := ⟨by kernel_rfl, rfl⟩
instance : Ty Try.prog 9 false 1 [.string ⟨#[]⟩] := ⟨by kernel_rfl, by kernel_rfl, by kernel_rfl⟩
instance : StrT Try.prog 9 := ⟨by kernel_rfl⟩
instance : Ty Try.prog 10 false 1 [.string ⟨#[]⟩] := ⟨by kernel_rfl, by kernel_rfl, by kernel_rfl⟩
instance : StrT Try.prog 10 := ⟨by kernel_rfl⟩
instance : Ty Try.prog 11 false 1 [.string ⟨#[]⟩] := ⟨by kernel_rfl, by kernel_rfl, by kernel_rfl⟩
instance : StrT Try.prog 11 := ⟨by kernel_rfl⟩
instance : Ty Try.prog 12 false 1 [.int .u64 0] := ⟨by kernel_rfl, by kernel_rfl, by kernel_rfl⟩
instance : Ik Try.prog 12 .u64 := ⟨by kernel_rfl⟩
instance : Ty Try.prog 13 true 2 [.string ⟨#[]⟩, .int .u64 0] := ⟨by kernel_rfl, by kernel_rfl, by kernel_rfl⟩
instance : StP Try.prog 13 [(0, 1), (1, 1)] := ⟨by kernel_rfl⟩
instance : FldT Try.prog 13 0 0 false 1 := ⟨by kernel_rfl, rfl⟩
instance : FldT Try.prog 13 1 1 false 1 := ⟨by kernel_rfl, rfl⟩
instance : Ty Try.prog 14 true 2 [.string ⟨#[]⟩, .int .u64 0] := ⟨by kernel_rfl, by kernel_rfl, by kernel_rfl⟩
instance : StP Try.prog 14 [(0, 1), (1, 1)] := ⟨by kernel_rfl⟩
instance : FldT Try.prog 14 0 0 false 1 := ⟨by kernel_rfl, rfl⟩
instance : FldT Try.prog 14 1 1 false 1 := ⟨by kernel_rfl, rfl⟩
instance : Ty Try.prog 15 false 1 [.pointer none] := ⟨by kernel_rfl, by kernel_rfl, by kernel_rfl⟩
instance : Pt Try.prog 15 144 := ⟨by kernel_rfl⟩
instance : Ty Try.prog 16 false 1 [.pointer none] := ⟨by kernel_rfl, by kernel_rfl, by kernel_rfl⟩
instance : Pt Try.prog 16 147 := ⟨by kernel_rfl⟩
instance : Ty Try.prog 17 false 1 [.pointer none] := ⟨by kernel_rfl, by kernel_rfl, by kernel_rfl⟩
instance : Pt Try.prog 17 155 := ⟨by kernel_rfl⟩
instance : Ty Try.prog 18 true 1 [.pointer none] := ⟨by kernel_rfl, by kernel_rfl, by kernel_rfl⟩
instance : StP Try.prog 18 [(0, 1)] := ⟨by kernel_rfl⟩
instance : FldT Try.prog 18 0 0 false 1 := ⟨by kernel_rfl, rfl⟩
instance : Ty Try.prog 19 true 1 [.pointer none] := ⟨by kernel_rfl, by kernel_rfl, by kernel_rfl⟩
instance : StP Try.prog 19 [(0, 1)] := ⟨by kernel_rfl⟩
instance : FldT Try.prog 19 0 0 false 1 := ⟨by kernel_rfl, rfl⟩
instance : Ty Try.prog 20 false 1 [.nilIface] := ⟨by kernel_rfl, by kernel_rfl, by kernel_rfl⟩
instance : Ty Try.prog 21 false 1 [.int .i32 0] := ⟨by kernel_rfl, by kernel_rfl, by kernel_rfl⟩
instance : Ik Try.prog 21 .i32 := ⟨by kernel_rfl⟩
instance : Ty Try.prog 22 false 1 [.nilFunc] := ⟨by kernel_rfl, by kernel_rfl, by kernel_rfl⟩
instance : Ty Try.prog 23 false 1 [.nilFunc] := ⟨by kernel_rfl, by kernel_rfl, by kernel_rfl⟩
instance : Ty Try.prog 24 false 1 [.nilFunc] := ⟨by kernel_rfl, by kernel_rfl, by kernel_rfl⟩
instance : Ty Try.prog 25 false 1 [.nilFunc] := ⟨by kernel_rfl, by kernel_rfl, by kernel_rfl⟩
instance : Ty Try.prog 26 false 1 [.slice none 0 0] := ⟨by kernel_rfl, by kernel_rfl, by kernel_rfl⟩
instance : Sl Try.prog 26 41 240 := ⟨by kernel_rfl, by kernel_rfl⟩
instance : Ty Try.prog 27 false 1 [.slice none 0 0] := ⟨by kernel_rfl, by kernel_rfl, by kernel_rfl⟩
instance : Sl Try.prog 27 28 16 := ⟨by kernel_rfl, by kernel_rfl⟩
instance : Ty Try.prog 28 false 1 [.complex .f64 0 0] := ⟨by kernel_rfl, by kernel_rfl, by kernel_rfl⟩
instance : Ty Try.prog 29 false 1 [.nilFunc] := ⟨by kernel_rfl, by kernel_rfl, by kernel_rfl⟩
instance : Ty Try.prog 30 false 1 [.int .u64 0] := ⟨by kernel_rfl, by kernel_rfl, by kernel_rfl⟩
instance : Ik Try.prog 30 .u64 := ⟨by kernel_rfl⟩
instance : Ty Try.prog 31 true 4 [.int .u64 0, .int .u64 0, .int .u64 0, .int .u64 0] := ⟨by kernel_rfl, by kernel_rfl, by kernel_rfl⟩
instance : Ar Try.prog 31 4 30 := ⟨by kernel_rfl⟩
instance : Ty Try.prog 32 true 4 [.int .u64 0, .int .u64 0, .int .u64 0, .int .u64 0] := ⟨by kernel_rfl, by kernel_rfl, by kernel_rfl⟩
instance : Ar Try.prog 32 4 30 := ⟨by kernel_rfl⟩
instance : Ty Try.prog 33 true 7 [.int .i64 0, .string ⟨#[]⟩, .int .i64 0, .int .i64 0, .int .i64 0, .int .i64 0, .string ⟨#[]⟩] := ⟨by kernel_rfl, by kernel_rfl, by kernel_rfl⟩
instance : StP Try.prog 33 [(0, 1), (1, 1), (2, 1), (3, 1), (4, 1), (5, 1), (6, 1)] := ⟨by kernel_rfl⟩
instance : FldT Try.prog 33 0 0 false 1 := ⟨by kernel_rfl, rfl⟩
instance : FldT Try.prog 33 1 1 false 1 := ⟨by kernel_rfl, rfl⟩
instance : FldT Try.prog 33 2 2 false 1 := ⟨by kernel_rfl, rfl⟩
instance : FldT Try.prog 33 3 3 false 1 := ⟨by kernel_rfl, rfl⟩
instance : FldT Try.prog 33 4 4 false 1 := ⟨by kernel_rfl, rfl⟩
instance : FldT Try.prog 33 5 5 false 1 := ⟨by kernel_rfl, rfl⟩
instance : FldT Try.prog 33 6 6 false 1 := ⟨by kernel_rfl, rfl⟩
instance : Ty Try.prog 34 true 7 [.int .i64 0, .string ⟨#[]⟩, .int .i64 0, .int .i64 0, .int .i64 0, .int .i64 0, .string ⟨#[]⟩] := ⟨by kernel_rfl, by kernel_rfl, by kernel_rfl⟩
instance : StP Try.prog 34 [(0, 1), (1, 1), (2, 1), (3, 1), (4, 1), (5, 1), (6, 1)] := ⟨by kernel_rfl⟩
instance : FldT Try.prog 34 0 0 false 1 := ⟨by kernel_rfl, rfl⟩
instance : FldT Try.prog 34 1 1 false 1 := ⟨by kernel_rfl, rfl⟩
instance : FldT Try.prog 34 2 2 false 1 := ⟨by kernel_rfl, rfl⟩
instance : FldT Try.prog 34 3 3 false 1 := ⟨by kernel_rfl, rfl⟩
instance : FldT Try.prog 34 4 4 false 1 := ⟨by kernel_rfl, rfl⟩
instance : FldT Try.prog 34 5 5 false 1 := ⟨by kernel_rfl, rfl⟩
instance : FldT Try.prog 34 6 6 false 1 := ⟨by kernel_rfl, rfl⟩
instance : Ty Try.prog 35 true 5 [.int .u64 0, .int .u64 0, .int .u64 0, .int .u64 0, .int .i64 0] := ⟨by kernel_rfl, by kernel_rfl, by kernel_rfl⟩
instance : StP Try.prog 35 [(0, 4), (4, 1)] := ⟨by kernel_rfl⟩
instance : FldT Try.prog 35 0 0 true 4 := ⟨by kernel_rfl, rfl⟩
instance : FldT Try.prog 35 1 4 false 1 := ⟨by kernel_rfl, rfl⟩
instance : Ty Try.prog 36 true 5 [.int .u64 0, .int .u64 0, .int .u64 0, .int .u64 0, .int .i64 0] := ⟨by kernel_rfl, by kernel_rfl, by kernel_rfl⟩
instance : StP Try.prog 36 [(0, 4), (4, 1)] := ⟨by kernel_rfl⟩
instance : FldT Try.prog 36 0 0 true 4 := ⟨by kernel_rfl, rfl⟩
instance : FldT Try.prog 36 1 4 false 1 := ⟨by kernel_rfl, rfl⟩
instance : Ty Try.prog 37 true 25 [.int .i64 0, .int .i64 0, .int .i64 0, .int .i64 0, .int .u64 0, .int .u64 0, .int .u64 0, .int .u64 0, .int .i64 0, .string ⟨#[]⟩, .int .i64 0, .int .i64 0, .int .i64 0, .int .i64 0, .string ⟨#[]⟩, .int .u64 0, .int .u64 0, .int .u64 0, .int .u64 0, .int .i64 0, .int .u64 0, .int .u64 0, .int .u64 0, .int .u64 0, .string ⟨#[]⟩] := ⟨by kernel_rfl, by kernel_rfl, by kernel_rfl⟩
instance : StP Try.prog 37 [(0, 1), (1, 1), (2, 1), (3, 1), (4, 4), (8, 7), (15, 5), (20, 4), (24, 1)] := ⟨by kernel_rfl⟩
instance : FldT Try.prog 37 0 0 false 1 := ⟨by kernel_rfl, rfl⟩
instance : FldT Try.prog 37 1 1 false 1 := ⟨by kernel_rfl, rfl⟩
instance : FldT Try.prog 37 2 2 false 1 := ⟨by kernel_rfl, rfl⟩
instance : FldT Try.prog 37 3 3 false 1 := ⟨by kernel_rfl, rfl⟩
instance : FldT Try.prog 37 4 4 true 4 := ⟨by kernel_rfl, rfl⟩
instance : FldT Try.prog 37 5 8 true 7 := ⟨by kernel_rfl, rfl⟩
instance : FldT Try.prog 37 6 15 true 5 := ⟨by kernel_rfl, rfl⟩
instance : FldT Try.prog 37 7 20 true 4 := ⟨by kernel_rfl, rfl⟩
instance : FldT Try.prog 37 8 24 false 1 := ⟨by kernel_rfl, rfl⟩
instance : Ty Try.prog 38 true 25 [.int .i64 0, .int .i64 0, .int .i64 0, .int .i64 0, .int .u64 0, .int .u64 0, .int .u64 0, .int .u64 0, .int .i64 0, .string ⟨#[]⟩, .int .i64 0, .int .i64 0, .int .i64 0, .int .i64 0, .string ⟨#[]⟩, .int .u64 0, .int .u64 0, .int .u64 0, .int .u64 0, .int .i64 0, .int .u64 0, .int .u64 0, .int .u64 0, .int .u64 0, .string ⟨#[]⟩] := ⟨by kernel_rfl, by kernel_rfl, by kernel_rfl⟩
instance : StP Try.prog 38 [(0, 1), (1, 1), (2, 1), (3, 1), (4, 4), (8, 7), (15, 5), (20, 4), (24, 1)] := ⟨by kernel_rfl⟩
instance : FldT Try.prog 38 0 0 false 1 := ⟨by kernel_rfl, rfl⟩
instance : FldT Try.prog 38 1 1 false 1 := ⟨by kernel_rfl, rfl⟩
instance : FldT Try.prog 38 2 2 false 1 := ⟨by kernel_rfl, rfl⟩
instance : FldT Try.prog 38 3 3 false 1 := ⟨by kernel_rfl, rfl⟩
instance : FldT Try.prog 38 4 4 true 4 := ⟨by kernel_rfl, rfl⟩
instance : FldT Try.prog 38 5 8 true 7 := ⟨by kernel_rfl, rfl⟩
instance : FldT Try.prog 38 6 15 true 5 := ⟨by kernel_rfl, rfl⟩
instance : FldT Try.prog 38 7 20 true 4 := ⟨by kernel_rfl, rfl⟩
instance : FldT Try.prog 38 8 24 false 1 := ⟨by kernel_rfl, rfl⟩
instance : Ty Try.prog 39 false 1 [.int .i64 0] := ⟨by kernel_rfl, by kernel_rfl, by kernel_rfl⟩
instance : Ik Try.prog 39 .i64 := ⟨by kernel_rfl⟩
instance : Ty Try.prog 40 true 27 [.int .i64 0, .int .i64 0, .int .i64 0, .int .i64 0, .int .i64 0, .int .i64 0, .int .u64 0, .int .u64 0, .int .u64 0, .int .u64 0, .int .i64 0, .string ⟨#[]⟩, .int .i64 0, .int .i64 0, .int .i64 0, .int .i64 0, .string ⟨#[]⟩, .int .u64 0, .int .u64 0, .int .u64 0, .int .u64 0, .int .i64 0, .int .u64 0, .int .u64 0, .int .u64 0, .int .u64 0, .string ⟨#[]⟩] := ⟨by kernel_rfl, by kernel_rfl, by kernel_rfl⟩
instance : StP Try.prog 40 [(0, 1), (1, 1), (2, 25)] := ⟨by kernel_rfl⟩
instance : FldT Try.prog 40 0 0 false 1 := ⟨by kernel_rfl, rfl⟩
instance : FldT Try.prog 40 1 1 false 1 := ⟨by kernel_rfl, rfl⟩
instance : FldT Try.prog 40 2 2 true 25 := ⟨by kernel_rfl, rfl⟩
instance : Ty Try.prog 41 true 27 [.int .i64 0, .int .i64 0, .int .i64 0, .int .i64 0, .int .i64 0, .int .i64 0, .int .u64 0, .int .u64 0, .int .u64 0, .int .u64 0, .int .i64 0, .string ⟨#[]⟩, .int .i64 0, .int .i64 0, .int .i64 0, .int .i64 0, .string ⟨#[]⟩, .int .u64 0, .int .u64 0, .int .u64 0, .int .u64 0, .int .i64 0, .int .u64 0, .int .u64 0, .int .u64 0, .int .u64 0, .string ⟨#[]⟩] := ⟨by kernel_rfl, by kernel_rfl, by kernel_rfl⟩
instance : StP Try.prog 41 [(0, 1), (1, 1), (2, 25)] := ⟨by kernel_rfl⟩
instance : FldT Try.prog 41 0 0 false 1 := ⟨by kernel_rfl, rfl⟩
instance : FldT Try.prog 41 1 1 false 1 := ⟨by kernel_rfl, rfl⟩
instance : FldT Try.prog 41 2 2 true 25 := ⟨by kernel_rfl, rfl⟩
instance : Ty Try.prog 42 false 1 [.nilFunc] := ⟨by kernel_rfl, by kernel_rfl, by kernel_rfl⟩
instance : Ty Try.prog 43 false 1 [.nilFunc] := ⟨by kernel_rfl, by kernel_rfl, by kernel_rfl⟩
instance : Ty Try.prog 44 false 1 [.nilFunc] := ⟨by kernel_rfl, by kernel_rfl, by kernel_rfl⟩
instance : Ty Try.prog 45 false 1 [.int .u32 0] := ⟨by kernel_rfl, by kernel_rfl, by kernel_rfl⟩
instance : Ik Try.prog 45 .u32 := ⟨by kernel_rfl⟩
instance : Ty Try.prog 46 false 1 [.float .f64 0] := ⟨by kernel_rfl, by kernel_rfl, by kernel_rfl⟩
instance : Ty Try.prog 47 false 1 [.nilFunc] := ⟨by kernel_rfl, by kernel_rfl, by kernel_rfl⟩
instance : Ty Try.prog 48 true 8 [.int .i64 0, .int .i64 0, .int .i64 0, .int .i64 0, .int .i64 0, .int .i64 0, .int .i64 0, .int .i64 0] := ⟨by kernel_rfl, by kernel_rfl, by kernel_rfl⟩
instance : Ar Try.prog 48 8 3 := ⟨by kernel_rfl⟩
instance : Ty Try.prog 49 false 1 [.nilFunc] := ⟨by kernel_rfl, by kernel_rfl, by kernel_rfl⟩
instance : Ty Try.prog 50 false 1 [.nilFunc] := ⟨by kernel_rfl, by kernel_rfl, by kernel_rfl⟩
instance : Ty Try.prog 52 false 1 [.nilFunc] := ⟨by kernel_rfl, by kernel_rfl, by kernel_rfl⟩
instance : Ty Try.prog 53 false 1 [.nilFunc] := ⟨by kernel_rfl, by kernel_rfl, by kernel_rfl⟩
instance : Ty Try.prog 54 false 1 [.slice none 0 0] := ⟨by kernel_rfl, by kernel_rfl, by kernel_rfl⟩
instance : Sl Try.prog 54 32 32 := ⟨by kernel_rfl, by kernel_rfl⟩
instance : Ty Try.prog 55 false 1 [.nilFunc] := ⟨by kernel_rfl, by kernel_rfl, by kernel_rfl⟩
instance : Ty Try.prog 57 false 1 [.nilFunc] := ⟨by kernel_rfl, by kernel_rfl, by kernel_rfl⟩
instance : Ty Try.prog 58 false 1 [.nilFunc] := ⟨by kernel_rfl, by kernel_rfl, by kernel_rfl⟩
instance : Ty Try.prog 59 true 8 [.int .u64 0, .int .u64 0, .int .u64 0, .int .u64 0, .int .u64 0, .int .u64 0, .int .u64 0, .int .u64 0] := ⟨by kernel_rfl, by kernel_rfl, by kernel_rfl⟩
instance : Ar Try.prog 59 2 32 := ⟨by kernel_rfl⟩
instance : Ty Try.prog 60 true 64 [.int .u64 0, .int .u64 0, .int .u64 0, .int .u64 0, .int .u64 0, .int .u64 0, .int .u64 0, .int .u64 0, .int .u64 0, .int .u64 0, .int .u64 0, .int .u64 0, .int .u64 0, .int .u64 0, .int .u64 0, .int .u64 0, .int .u64 0, .int .u64 0, .int .u64 0, .int .u64 0, .int .u64 0, .int .u64 0, .int .u64 0, .int .u64 0, .int .u64 0, .int .u64 0, .int .u64 0, .int .u64 0, .int .u64 0, .int .u64 0, .int .u64 0, .int .u64 0, .int .u64 0, .int .u64 0, .int .u64 0, .int .u64 0, .int .u64 0, .int .u64 0, .int .u64 0, .int .u64 0, .int .u64 0, .int .u64 0, .int .u64 0, .int .u64 0, .int .u64 0, .int .u64 0, .int .u64 0, .int .u64 0, .int .u64 0, .int .u64 0, .int .u64 0, .int .u64 0, .int .u64 0, .int .u64 0, .int .u64 0, .int .u64 0, .int .u64 0, .int .u64 0, .int .u64 0, .int .u64 0, .int .u64 0, .int .u64 0, .int .u64 0, .int .u64 0] := ⟨by kernel_rfl, by kernel_rfl, by kernel_rfl⟩
instance : Ar Try.prog 60 8 59 := ⟨by kernel_rfl⟩
instance : Ty Try.prog 61 true 64 [.int .u64 0, .int .u64 0, .int .u64 0, .int .u64 0, .int .u64 0, .int .u64 0, .int .u64 0, .int .u64 0, .int .u64 0, .int .u64 0, .int .u64 0, .int .u64 0, .int .u64 0, .int .u64 0, .int .u64 0, .int .u64 0, .int .u64 0, .int .u64 0, .int .u64 0, .int .u64 0, .int .u64 0, .int .u64 0, .int .u64 0, .int .u64 0, .int .u64 0, .int .u64 0, .int .u64 0, .int .u64 0, .int .u64 0, .int .u64 0, .int .u64 0, .int .u64 0, .int .u64 0, .int .u64 0, .int .u64 0, .int .u64 0, .int .u64 0, .int .u64 0, .int .u64 0, .int .u64 0, .int .u64 0, .int .u64 0, .int .u64 0, .int .u64 0, .int .u64 0, .int .u64 0, .int .u64 0, .int .u64 0, .int .u64 0, .int .u64 0, .int .u64 0, .int .u64 0, .int .u64 0, .int .u64 0, .int .u64 0, .int .u64 0, .int .u64 0, .int .u64 0, .int .u64 0, .int .u64 0, .int .u64 0, .int .u64 0, .int .u64 0, .int .u64 0] := ⟨by kernel_rfl, by kernel_rfl, by kernel_rfl⟩
instance : Ar Try.prog 61 8 59 := ⟨by kernel_rfl⟩
instance : Ty Try.prog 62 false 1 [.nilFunc] := ⟨by kernel_rfl, by kernel_rfl, by kernel_rfl⟩
instance : Ty Try.prog 63 false 1 [.nilFunc] := ⟨by kernel_rfl, by kernel_rfl, by kernel_rfl⟩
instance : Ty Try.prog 65 false 1 [.nilFunc] := ⟨by kernel_rfl, by kernel_rfl, by kernel_rfl⟩
instance : Ty Try.prog 66 false 1 [.nilFunc] := ⟨by kernel_rfl, by kernel_rfl, by kernel_rfl⟩
instance : Ty Try.prog 67 false 1 [.nilFunc] := ⟨by kernel_rfl, by kernel_rfl, by kernel_rfl⟩
instance : Ty Try.prog 68 false 1 [.nilFunc] := ⟨by kernel_rfl, by kernel_rfl, by kernel_rfl⟩
instance : Ty Try.prog 69 false 1 [.slice none 0 0] := ⟨by kernel_rfl, by kernel_rfl, by kernel_rfl⟩
instance : Sl Try.prog 69 157 40 := ⟨by kernel_rfl, by kernel_rfl⟩
instance : Ty Try.prog 70 true 151 [.int .i64 0, .int .i64 0, .int .u64 0, .int .u64 0, .int .u64 0, .int .u64 0, .int .u64 0, .int .u64 0, .int .u64 0, .int .u64 0, .int .u64 0, .int .u64 0, .int .u64 0, .int .u64 0, .int .u64 0, .int .u64 0, .int .u64 0, .int .u64 0, .int .u64 0, .int .u64 0, .int .u64 0, .int .u64 0, .int .u64 0, .int .u64 0, .int .u64 0, .int .u64 0, .int .u64 0, .int .u64 0, .int .u64 0, .int .u64 0, .int .u64 0, .int .u64 0, .int .u64 0, .int .u64 0, .int .u64 0, .int .u64 0, .int .u64 0, .int .u64 0, .int .u64 0, .int .u64 0, .int .u64 0, .int .u64 0, .int .u64 0, .int .u64 0, .int .u64 0, .int .u64 0, .int .u64 0, .int .u64 0, .int .u64 0, .int .u64 0, .int .u64 0, .int .u64 0, .int .u64 0, .int .u64 0, .int .u64 0, .int .u64 0, .int .u64 0, .int .u64 0, .int .u64 0, .int .u64 0, .int .u64 0, .int .u64 0, .int .u64 0, .int .u64 0, .int .u64 0, .int .u64 0, .int .u64 0, .int .u64 0, .int .u64 0, .int .u64 0, .int .u64 0, .int .u64 0, .int .u64 0, .int .u64 0, .int .u64 0, .int .u64 0, .int .u64 0, .int .u64 0, .int .u64 0, .int .u64 0, .int .u64 0, .int .u64 0, .int .u64 0, .int .u64 0, .int .u64 0, .int .u64 0, .int .u64 0, .int .u64 0, .int .u64 0, .int .u64 0, .int .u64 0, .int .u64 0, .int .u64 0, .int .u64 0, .int .u64 0, .int .u64 0, .int .u64 0, .int .u64 0, .int .u64 0, .int .u64 0, .int .u64 0, .int .u64 0, .int .u64 0, .int .u64 0, .int .u64 0, .int .u64 0, .int .u64 0, .int .u64 0, .int .u64 0, .int .u64 0, .int .u64 0, .int .u64 0, .int .u64 0, .int .u64 0, .int .u64 0, .int .u64 0, .int .u64 0, .int .u64 0, .int .u64 0, .int .u64 0, .int .u64 0, .int .u64 0, .int .u64 0, .int .u64 0, .int .u64 0, .int .u64 0, .int .u64 0, .int .u64 0, .int .u64 0, .int .u64 0, .int .i64 0, .int .i64 0, .int .i64 0, .int .i64 0, .int .i64 0, .int .i64 0, .int .i64 0, .int .i64 0, .int .u64 0, .int .u64 0, .int .u64 0, .int .u64 0, .int .u64 0, .int .u64 0, .int .u64 0, .int .u64 0, .int .u64 0, .int .u64 0, .int .u64 0, .int .u64 0, .slice none 0 0] := ⟨by kernel_rfl, by kernel_rfl, by kernel_rfl⟩
instance : StP Try.prog 70 [(0, 1), (1, 1), (2, 64), (66, 64), (130, 8), (138, 8), (146, 4), (150, 1)] := ⟨by kernel_rfl⟩
instance : FldT Try.prog 70 0 0 false 1 := ⟨by kernel_rfl, rfl⟩
instance : FldT Try.prog 70 1 1 false 1 := ⟨by kernel_rfl, rfl⟩
instance : FldT Try.prog 70 2 2 true 64 := ⟨by kernel_rfl, rfl⟩
instance : FldT Try.prog 70 3 66 true 64 := ⟨by kernel_rfl, rfl⟩
instance : FldT Try.prog 70 4 130 true 8 := ⟨by kernel_rfl, rfl⟩
instance : FldT Try.prog 70 5 138 true 8 := ⟨by kernel_rfl, rfl⟩
instance : FldT Try.prog 70 6 146 true 4 := ⟨by kernel_rfl, rfl⟩
instance : FldT Try.prog 70 7 150 false 1 := ⟨by kernel_rfl, rfl⟩
instance : Ty Try.prog 71 true 151 [.int .i64 0, .int .i64 0, .int .u64 0, .int .u64 0, .int .u64 0, .int .u64 0, .int .u64 0, .int .u64 0, .int .u64 0, .int .u64 0, .int .u64 0, .int .u64 0, .int .u64 0, .int .u64 0, .int .u64 0, .int .u64 0, .int .u64 0, .int .u64 0, .int .u64 0, .int .u64 0, .int .u64 0, .int .u64 0, .int .u64 0, .int .u64 0, .int .u64 0, .int .u64 0, .int .u64 0, .int .u64 0, .int .u64 0, .int .u64 0, .int .u64 0, .int .u64 0, .int .u64 0, .int .u64 0, .int .u64 0, .int .u64 0, .int .u64 0, .int .u64 0, .int .u64 0, .int .u64 0, .int .u64 0, .int .u64 0, .int .u64 0, .int .u64 0, .int .u64 0, .int .u64 0, .int .u64 0, .int .u64 0, .int .u64 0, .int .u64 0, .int .u64 0, .int .u64 0, .int .u64 0, .int .u64 0, .int .u64 0, .int .u64 0, .int .u64 0, .int .u64 0, .int .u64 0, .int .u64 0, .int .u64 0, .int .u64 0, .int .u64 0, .int .u64 0, .int .u64 0, .int .u64 0, .int .u64 0, .int .u64 0, .int .u64 0, .int .u64 0, .int .u64 0, .int .u64 0, .int .u64 0, .int .u64 0, .int .u64 0, .int .u64 0, .int .u64 0, .int .u64 0, .int .u64 0, .int .u64 0, .int .u64 0, .int .u64 0, .int .u64 0, .int .u64 0, .int .u64 0, .int .u64 0, .int .u64 0, .int .u64 0, .int .u64 0, .int .u64 0, .int .u64 0, .int .u64 0, .int .u64 0, .int .u64 0, .int .u64 0, .int .u64 0, .int .u64 0, .int .u64 0, .int .u64 0, .int .u64 0, .int .u64 0, .int .u64 0, .int .u64 0, .int .u64 0, .int .u64 0, .int .u64 0, .int .u64 0, .int .u64 0, .int .u64 0, .int .u64 0, .int .u64 0, .int .u64 0, .int .u64 0, .int .u64 0, .int .u64 0, .int .u64 0, .int .u64 0, .int .u64 0, .int .u64 0, .int .u64 0, .int .u64 0, .int .u64 0, .int .u64 0, .int .u64 0, .int .u64 0, .int .u64 0, .int .u64 0, .int .u64 0, .int .u64 0, .int .u64 0, .int .i64 0, .int .i64 0, .int .i64 0, .int .i64 0, .int .i64 0, .int .i64 0, .int .i64 0, .int .i64 0, .int .u64 0, .int .u64 0, .int .u64 0, .int .u64 0, .int .u64 0, .int .u64 0, .int .u64 0, .int .u64 0, .int .u64 0, .int .u64 0, .int .u64 0, .int .u64 0, .slice none 0 0] := ⟨by kernel_rfl, by kernel_rfl, by kernel_rfl⟩
instance : StP Try.prog 71 [(0, 1), (1, 1), (2, 64), (66, 64), (130, 8), (138, 8), (146, 4), (150, 1)] := ⟨by kernel_rfl⟩
instance : FldT Try.prog 71 0 0 false 1 := ⟨by kernel_rfl, rfl⟩
instance : FldT Try.prog 71 1 1 false 1 := ⟨by kernel_rfl, rfl⟩
instance : FldT Try.prog 71 2 2 true 64 := ⟨by kernel_rfl, rfl⟩
instance : FldT Try.prog 71 3 66 true 64 := ⟨by kernel_rfl, rfl⟩
instance : FldT Try.prog 71 4 130 true 8 := ⟨by kernel_rfl, rfl⟩
instance : FldT Try.prog 71 5 138 true 8 := ⟨by kernel_rfl, rfl⟩
instance : FldT Try.prog 71 6 146 true 4 := ⟨by kernel_rfl, rfl⟩
instance : FldT Try.prog 71 7 150 false 1 := ⟨by kernel_rfl, rfl⟩
instance : Ty Try.prog 72 false 1 [.slice none 0 0] := ⟨by kernel_rfl, by kernel_rfl, by kernel_rfl⟩
instance : Sl Try.prog 72 38 224 := ⟨by kernel_rfl, by kernel_rfl⟩
instance : Ty Try.prog 73 false 1 [.slice none 0 0] := ⟨by kernel_rfl, by kernel_rfl, by kernel_rfl⟩
instance : Sl Try.prog 73 3 8 := ⟨by kernel_rfl, by kernel_rfl⟩
instance : Ty Try.prog 74 false 1 [.nilFunc] := ⟨by kernel_rfl, by kernel_rfl, by kernel_rfl⟩
instance : Ty Try.prog 75 false 1 [.nilFunc] := ⟨by kernel_rfl, by kernel_rfl, by kernel_rfl⟩
instance : Ty Try.prog 76 false 1 [.nilFunc] := ⟨by kernel_rfl, by kernel_rfl, by kernel_rfl⟩
instance : Ty Try.prog 77 false 1 [.nilFunc] := ⟨by kernel_rfl, by kernel_rfl, by kernel_rfl⟩
instance : Ty Try.prog 78 false 1 [.nilFunc] := ⟨by kernel_rfl, by kernel_rfl, by kernel_rfl⟩
instance : Ty Try.prog 79 false 1 [.nilFunc] := ⟨by kernel_rfl, by kernel_rfl, by kernel_rfl⟩
instance : Ty Try.prog 80 false 1 [.nilFunc] := ⟨by kernel_rfl, by kernel_rfl, by kernel_rfl⟩
instance : Ty Try.prog 81 false 1 [.nilFunc] := ⟨by kernel_rfl, by kernel_rfl, by kernel_rfl⟩
instance : Ty Try.prog 82 false 1 [.nilFunc] := ⟨by kernel_rfl, by kernel_rfl, by kernel_rfl⟩
instance : Ty Try.prog 83 false 1 [.nilFunc] := ⟨by kernel_rfl, by kernel_rfl, by kernel_rfl⟩
instance : Ty Try.prog 84 false 1 [.nilFunc] := ⟨by kernel_rfl, by kernel_rfl, by kernel_rfl⟩
instance : Ty Try.prog 86 false 1 [.nilFunc] := ⟨by kernel_rfl, by kernel_rfl, by kernel_rfl⟩
instance : Ty Try.prog 87 false 1 [.nilFunc] := ⟨by kernel_rfl, by kernel_rfl, by kernel_rfl⟩
instance : Ty Try.prog 88 false 1 [.nilFunc] := ⟨by kernel_rfl, by kernel_rfl, by kernel_rfl⟩
instance : Ty Try.prog 89 false 1 [.nilFunc] := ⟨by kernel_rfl, by kernel_rfl, by kernel_rfl⟩
instance : Ty Try.prog 91 false 1 [.nilFunc] := ⟨by kernel_rfl, by kernel_rfl, by kernel_rfl⟩
instance : Ty Try.prog 92 false 1 [.nilFunc] := ⟨by kernel_rfl, by kernel_rfl, by kernel_rfl⟩
instance : Ty Try.prog 93 false 1 [.nilFunc] := ⟨by kernel_rfl, by kernel_rfl, by kernel_rfl⟩
instance : Ty Try.prog 94 false 1 [.nilFunc] := ⟨by kernel_rfl, by kernel_rfl, by kernel_rfl⟩
instance : Ty Try.prog 95 false 1 [.nilFunc] := ⟨by kernel_rfl, by kernel_rfl, by kernel_rfl⟩
instance : Ty Try.prog 96 false 1 [.nilFunc] := ⟨by kernel_rfl, by kernel_rfl, by kernel_rfl⟩
instance : Ty Try.prog 97 false 1 [.nilFunc] := ⟨by kernel_rfl, by kernel_rfl, by kernel_rfl⟩
instance : Ty Try.prog 98 false 1 [.nilFunc] := ⟨by kernel_rfl, by kernel_rfl, by kernel_rfl⟩
instance : Ty Try.prog 99 false 1 [.nilFunc] := ⟨by kernel_rfl, by kernel_rfl, by kernel_rfl⟩
instance : Ty Try.prog 100 false 1 [.nilFunc] := ⟨by kernel_rfl, by kernel_rfl, by kernel_rfl⟩
instance : Ty Try.prog 101 false 1 [.nilFunc] := ⟨by kernel_rfl, by kernel_rfl, by kernel_rfl⟩
instance : Ty Try.prog 102 false 1 [.nilFunc] := ⟨by kernel_rfl, by kernel_rfl, by kernel_rfl⟩
instance : Ty Try.prog 104 false 1 [.nilFunc] := ⟨by kernel_rfl, by kernel_rfl, by kernel_rfl⟩
instance : Ty Try.prog 105 false 1 [.nilFunc] := ⟨by kernel_rfl, by kernel_rfl, by kernel_rfl⟩
instance : Ty Try.prog 106 false 1 [.nilFunc] := ⟨by kernel_rfl, by kernel_rfl, by kernel_rfl⟩
instance : Ty Try.prog 107 false 1 [.nilFunc] := ⟨by kernel_rfl, by kernel_rfl, by kernel_rfl⟩
instance : Ty Try.prog 108 false 1 [.slice none 0 0] := ⟨by kernel_rfl, by kernel_rfl, by kernel_rfl⟩
instance : Sl Try.prog 108 4 1 := ⟨by kernel_rfl, by kernel_rfl⟩
instance : Ty Try.prog 109 false 1 [.nilFunc] := ⟨by kernel_rfl, by kernel_rfl, by kernel_rfl⟩
instance : Ty Try.prog 110 false 1 [.nilFunc] := ⟨by kernel_rfl, by kernel_rfl, by kernel_rfl⟩
instance : Ty Try.prog 111 false 1 [.nilFunc] := ⟨by kernel_rfl, by kernel_rfl, by kernel_rfl⟩
instance : Ty Try.prog 112 false 1 [.nilFunc] := ⟨by kernel_rfl, by kernel_rfl, by kernel_rfl⟩
instance : Ty Try.prog 113 false 1 [.nilFunc] := ⟨by kernel_rfl, by kernel_rfl, by kernel_rfl⟩
instance : Ty Try.prog 114 false 1 [.nilFunc] := ⟨by kernel_rfl, by kernel_rfl, by kernel_rfl⟩
instance : Ty Try.prog 115 false 1 [.nilFunc] := ⟨by kernel_rfl, by kernel_rfl, by kernel_rfl⟩
instance : Ty Try.prog 116 false 1 [.slice none 0 0] := ⟨by kernel_rfl, by kernel_rfl, by kernel_rfl⟩
instance : Sl Try.prog 116 30 8 := ⟨by kernel_rfl, by kernel_rfl⟩
instance : Ty Try.prog 117 false 1 [.nilFunc] := ⟨by kernel_rfl, by kernel_rfl, by kernel_rfl⟩
instance : Ty Try.prog 118 true 2 [.int .i64 0, .int .i64 0] := ⟨by kernel_rfl, by kernel_rfl, by kernel_rfl⟩
instance : Ar Try.prog 118 2 3 := ⟨by kernel_rfl⟩
instance : Ty Try.prog 119 false 1 [.pointer none] := ⟨by kernel_rfl, by kernel_rfl, by kernel_rfl⟩
instance : Pt Try.prog 119 122 := ⟨by kernel_rfl⟩
instance : Ty Try.prog 120 false 1 [.slice none 0 0] := ⟨by kernel_rfl, by kernel_rfl, by kernel_rfl⟩
instance : Sl Try.prog 120 5 1 := ⟨by kernel_rfl, by kernel_rfl⟩
instance : Ty Try.prog 121 true 2 [.pointer none, .slice none 0 0] := ⟨by kernel_rfl, by kernel_rfl, by kernel_rfl⟩
instance : StP Try.prog 121 [(0, 1), (1, 1)] := ⟨by kernel_rfl⟩
instance : FldT Try.prog 121 0 0 false 1 := ⟨by kernel_rfl, rfl⟩
instance : FldT Try.prog 121 1 1 false 1 := ⟨by kernel_rfl, rfl⟩
instance : Ty Try.prog 122 true 2 [.pointer none, .slice none 0 0] := ⟨by kernel_rfl, by kernel_rfl, by kernel_rfl⟩
instance : StP Try.prog 122 [(0, 1), (1, 1)] := ⟨by kernel_rfl⟩
instance : FldT Try.prog 122 0 0 false 1 := ⟨by kernel_rfl, rfl⟩
instance : FldT Try.prog 122 1 1 false 1 := ⟨by kernel_rfl, rfl⟩
instance : Ty Try.prog 123 false 1 [.nilIface] := ⟨by kernel_rfl, by kernel_rfl, by kernel_rfl⟩
instance : Ty Try.prog 124 false 1 [.nilIface] := ⟨by kernel_rfl, by kernel_rfl, by kernel_rfl⟩
instance : Ty Try.prog 125 false 1 [.nilFunc] := ⟨by kernel_rfl, by kernel_rfl, by kernel_rfl⟩
instance : Ty Try.prog 126 false 1 [.int .u64 0] := ⟨by kernel_rfl, by kernel_rfl, by kernel_rfl⟩
instance : Ik Try.prog 126 .u64 := ⟨by kernel_rfl⟩
instance : Ty Try.prog 127 false 1 [.nilFunc] := ⟨by kernel_rfl, by kernel_rfl, by kernel_rfl⟩
instance : Ty Try.prog 128 false 1 [.slice none 0 0] := ⟨by kernel_rfl, by kernel_rfl, by kernel_rfl⟩
instance : Sl Try.prog 128 9 16 := ⟨by kernel_rfl, by kernel_rfl⟩
instance : Ty Try.prog 129 false 1 [.nilFunc] := ⟨by kernel_rfl, by kernel_rfl, by kernel_rfl⟩
instance : Ty Try.prog 130 false 1 [.nilFunc] := ⟨by kernel_rfl, by kernel_rfl, by kernel_rfl⟩
instance : Ty Try.prog 131 false 1 [.nilFunc] := ⟨by kernel_rfl, by kernel_rfl, by kernel_rfl⟩
instance : Ty Try.prog 132 false 1 [.nilFunc] := ⟨by kernel_rfl, by kernel_rfl, by kernel_rfl⟩
instance : Ty Try.prog 133 false 1 [.nilFunc] := ⟨by kernel_rfl, by kernel_rfl, by kernel_rfl⟩
instance : Ty Try.prog 134 false 1 [.nilFunc] := ⟨by kernel_rfl, by kernel_rfl, by kernel_rfl⟩
instance : Ty Try.prog 135 false 1 [.pointer none] := ⟨by kernel_rfl, by kernel_rfl, by kernel_rfl⟩
instance : Pt Try.prog 135 5 := ⟨by kernel_rfl⟩
instance : Ty Try.prog 136 false 1 [.nilFunc] := ⟨by kernel_rfl, by kernel_rfl, by kernel_rfl⟩
instance : Ty Try.prog 138 false 1 [.nilFunc] := ⟨by kernel_rfl, by kernel_rfl, by kernel_rfl⟩
instance : Ty Try.prog 140 false 1 [.nilFunc] := ⟨by kernel_rfl, by kernel_rfl, by kernel_rfl⟩
instance : Ty Try.prog 141 false 1 [.nilFunc] := ⟨by kernel_rfl, by kernel_rfl, by kernel_rfl⟩
instance : Ty Try.prog 142 false 1 [.pointer none] := ⟨by kernel_rfl, by kernel_rfl, by kernel_rfl⟩
instance : Pt Try.prog 142 160 := ⟨by kernel_rfl⟩
instance : Ty Try.prog 143 true 4 [.pointer none, .pointer none, .pointer none, .string ⟨#[]⟩] := ⟨by kernel_rfl, by kernel_rfl, by kernel_rfl⟩
instance : StP Try.prog 143 [(0, 1), (1, 1), (2, 1), (3, 1)] := ⟨by kernel_rfl⟩
instance : FldT Try.prog 143 0 0 false 1 := ⟨by kernel_rfl, rfl⟩
instance : FldT Try.prog 143 1 1 false 1 := ⟨by kernel_rfl, rfl⟩
instance : FldT Try.prog 143 2 2 false 1 := ⟨by kernel_rfl, rfl⟩
instance : FldT Try.prog 143 3 3 false 1 := ⟨by kernel_rfl, rfl⟩
instance : Ty Try.prog 144 true 4 [.pointer none, .pointer none, .pointer none, .string ⟨#[]⟩] := ⟨by kernel_rfl, by kernel_rfl, by kernel_rfl⟩
instance : StP Try.prog 144 [(0, 1), (1, 1), (2, 1), (3, 1)] := ⟨by kernel_rfl⟩
instance : FldT Try.prog 144 0 0 false 1 := ⟨by kernel_rfl, rfl⟩
instance : FldT Try.prog 144 1 1 false 1 := ⟨by kernel_rfl, rfl⟩
instance : FldT Try.prog 144 2 2 false 1 := ⟨by kernel_rfl, rfl⟩
instance : FldT Try.prog 144 3 3 false 1 := ⟨by kernel_rfl, rfl⟩
instance : Ty Try.prog 145 true 0 [] := ⟨by kernel_rfl, by kernel_rfl, by kernel_rfl⟩
instance : Ar Try.prog 145 0 16 := ⟨by kernel_rfl⟩
instance : Ty Try.prog 146 true 0 [] := ⟨by kernel_rfl, by kernel_rfl, by kernel_rfl⟩
instance : StP Try.prog 146 [(0, 0)] := ⟨by kernel_rfl⟩
instance : Ty Try.prog 147 true 0 [] := ⟨by kernel_rfl, by kernel_rfl, by kernel_rfl⟩
instance : StP Try.prog 147 [(0, 0)] := ⟨by kernel_rfl⟩
instance : Ty Try.prog 148 false 1 [.nilFunc] := ⟨by kernel_rfl, by kernel_rfl, by kernel_rfl⟩
instance : Ty Try.prog 149 false 1 [.int .u8 0] := ⟨by kernel_rfl, by kernel_rfl, by kernel_rfl⟩
instance : Ik Try.prog 149 .u8 := ⟨by kernel_rfl⟩
instance : Ty Try.prog 150 false 1 [.int .u8 0] := ⟨by kernel_rfl, by kernel_rfl, by kernel_rfl⟩
instance : Ik Try.prog 150 .u8 := ⟨by kernel_rfl⟩
instance : Ty Try.prog 151 false 1 [.nilFunc] := ⟨by kernel_rfl, by kernel_rfl, by kernel_rfl⟩
instance : Ty Try.prog 152 false 1 [.int .i32 0] := ⟨by kernel_rfl, by kernel_rfl, by kernel_rfl⟩
instance : Ik Try.prog 152 .i32 := ⟨by kernel_rfl⟩
instance : Ty Try.prog 153 false 1 [.int .i32 0] := ⟨by kernel_rfl, by kernel_rfl, by kernel_rfl⟩
instance : Ik Try.prog 153 .i32 := ⟨by kernel_rfl⟩
instance : Ty Try.prog 154 true 11 [.int .u64 0, .int .u64 0, .int .u32 0, .int .u8 0, .int .u8 0, .int .u8 0, .int .u8 0, .nilFunc, .pointer none, .int .i32 0, .int .i32 0] := ⟨by kernel_rfl, by kernel_rfl, by kernel_rfl⟩
instance : StP Try.prog 154 [(0, 1), (1, 1), (2, 1), (3, 1), (4, 1), (5, 1), (6, 1), (7, 1), (8, 1), (9, 1), (10, 1)] := ⟨by kernel_rfl⟩
instance : FldT Try.prog 154 0 0 false 1 := ⟨by kernel_rfl, rfl⟩
instance : FldT Try.prog 154 1 1 false 1 := ⟨by kernel_rfl, rfl⟩
instance : FldT Try.prog 154 2 2 false 1 := ⟨by kernel_rfl, rfl⟩
instance : FldT Try.prog 154 3 3 false 1 := ⟨by kernel_rfl, rfl⟩
instance : FldT Try.prog 154 4 4 false 1 := ⟨by kernel_rfl, rfl⟩
instance : FldT Try.prog 154 5 5 false 1 := ⟨by kernel_rfl, rfl⟩
instance : FldT Try.prog 154 6 6 false 1 := ⟨by kernel_rfl, rfl⟩
instance : FldT Try.prog 154 7 7 false 1 := ⟨by kernel_rfl, rfl⟩
instance : FldT Try.prog 154 8 8 false 1 := ⟨by kernel_rfl, rfl⟩
instance : FldT Try.prog 154 9 9 false 1 := ⟨by kernel_rfl, rfl⟩
instance : FldT Try.prog 154 10 10 false 1 := ⟨by kernel_rfl, rfl⟩
instance : Ty Try.prog 155 true 11 [.int .u64 0, .int .u64 0, .int .u32 0, .int .u8 0, .int .u8 0, .int .u8 0, .int .u8 0, .nilFunc, .pointer none, .int .i32 0, .int .i32 0] := ⟨by kernel_rfl, by kernel_rfl, by kernel_rfl⟩
instance : StP Try.prog 155 [(0, 1), (1, 1), (2, 1), (3, 1), (4, 1), (5, 1), (6, 1), (7, 1), (8, 1), (9, 1), (10, 1)] := ⟨by kernel_rfl⟩
instance : FldT Try.prog 155 0 0 false 1 := ⟨by kernel_rfl, rfl⟩
instance : FldT Try.prog 155 1 1 false 1 := ⟨by kernel_rfl, rfl⟩
instance : FldT Try.prog 155 2 2 false 1 := ⟨by kernel_rfl, rfl⟩
instance : FldT Try.prog 155 3 3 false 1 := ⟨by kernel_rfl, rfl⟩
instance : FldT Try.prog 155 4 4 false 1 := ⟨by kernel_rfl, rfl⟩
instance : FldT Try.prog 155 5 5 false 1 := ⟨by kernel_rfl, rfl⟩
instance : FldT Try.prog 155 6 6 false 1 := ⟨by kernel_rfl, rfl⟩
instance : FldT Try.prog 155 7 7 false 1 := ⟨by kernel_rfl, rfl⟩
instance : FldT Try.prog 155 8 8 false 1 := ⟨by kernel_rfl, rfl⟩
instance : FldT Try.prog 155 9 9 false 1 := ⟨by kernel_rfl, rfl⟩
instance : FldT Try.prog 155 10 10 false 1 := ⟨by kernel_rfl, rfl⟩
instance : Ty Try.prog 156 true 3 [.string ⟨#[]⟩, .string ⟨#[]⟩, .int .i64 0] := ⟨by kernel_rfl, by kernel_rfl, by kernel_rfl⟩
instance : StP Try.prog 156 [(0, 1), (1, 1), (2, 1)] := ⟨by kernel_rfl⟩
instance : FldT Try.prog 156 0 0 false 1 := ⟨by kernel_rfl, rfl⟩
instance : FldT Try.prog 156 1 1 false 1 := ⟨by kernel_rfl, rfl⟩
instance : FldT Try.prog 156 2 2 false 1 := ⟨by kernel_rfl, rfl⟩
instance : Ty Try.prog 157 true 3 [.string ⟨#[]⟩, .string ⟨#[]⟩, .int .i64 0] := ⟨by kernel_rfl, by kernel_rfl, by kernel_rfl⟩
instance : StP Try.prog 157 [(0, 1), (1, 1), (2, 1)] := ⟨by kernel_rfl⟩
instance : FldT Try.prog 157 0 0 false 1 := ⟨by kernel_rfl, rfl⟩
instance : FldT Try.prog 157 1 1 false 1 := ⟨by kernel_rfl, rfl⟩
instance : FldT Try.prog 157 2 2 false 1 := ⟨by kernel_rfl, rfl⟩
instance : Ty Try.prog 158 false 1 [.nilFunc] := ⟨by kernel_rfl, by kernel_rfl, by kernel_rfl⟩
instance : Ty Try.prog 159 true 1 [.string ⟨#[]⟩] := ⟨by kernel_rfl, by kernel_rfl, by kernel_rfl⟩
instance : StP Try.prog 159 [(0, 1)] := ⟨by kernel_rfl⟩
instance : FldT Try.prog 159 0 0 false 1 := ⟨by kernel_rfl, rfl⟩
instance : Ty Try.prog 160 true 1 [.string ⟨#[]⟩] := ⟨by kernel_rfl, by kernel_rfl, by kernel_rfl⟩
instance : StP Try.prog 160 [(0, 1)] := ⟨by kernel_rfl⟩
instance : FldT Try.prog 160 0 0 false 1 := ⟨by kernel_rfl, rfl⟩
-- narrows/narrowslaw17.PlanFits
instance : Enters Try.prog 3 := enters_of' Try.func3 (by kernel_rfl) (by kernel_rfl)
-- narrows/narrowslaw17.PlanTells
instance : Enters Try.prog 4 := enters_of' Try.func4 (by kernel_rfl) (by kernel_rfl)
-- narrows/narrowslaw17.PlanRises
instance : Enters Try.prog 5 := enters_of' Try.func5 (by kernel_rfl) (by kernel_rfl)
-- narrows/narrowslaw29.TallyAll
instance : Enters Try.prog 6 := enters_of' Try.func6 (by kernel_rfl) (by kernel_rfl)
-- narrows/narrowslaw29.TallySums
instance : Enters Try.prog 7 := enters_of' Try.func7 (by kernel_rfl) (by kernel_rfl)
-- narrows/narrowslaw29.TallyTells
instance : Enters Try.prog 8 := enters_of' Try.func8 (by kernel_rfl) (by kernel_rfl)
-- narrows/narrowslaw01.WideBack
instance : Enters Try.prog 9 := enters_of' Try.func9 (by kernel_rfl) (by kernel_rfl)
-- narrows/narrowslaw01.WideSums
instance : Enters Try.prog 10 := enters_of' Try.func10 (by kernel_rfl) (by kernel_rfl)
-- narrows/narrowslaw11.PurseTotals
instance : Enters Try.prog 11 := enters_of' Try.func11 (by kernel_rfl) (by kernel_rfl)
-- narrows/narrowslaw11.PurseTells
instance : Enters Try.prog 12 := enters_of' Try.func12 (by kernel_rfl) (by kernel_rfl)
-- narrows/narrowslaw40.BuilderTells
instance : Enters Try.prog 13 := enters_of' Try.func13 (by kernel_rfl) (by kernel_rfl)
-- narrows/narrowslaw11.PurseMoves
instance : Enters Try.prog 14 := enters_of' Try.func14 (by kernel_rfl) (by kernel_rfl)
-- narrows/narrowslaw01.WideTells
instance : Enters Try.prog 15 := enters_of' Try.func15 (by kernel_rfl) (by kernel_rfl)
-- narrows/narrowslaw01.WideDivides
instance : Enters Try.prog 16 := enters_of' Try.func16 (by kernel_rfl) (by kernel_rfl)
-- narrows/narrowslaw18.QuoteBelow
instance : Enters Try.prog 17 := enters_of' Try.func17 (by kernel_rfl) (by kernel_rfl)
-- narrows/narrowslaw32.TextBack
instance : Enters Try.prog 18 := enters_of' Try.func18 (by kernel_rfl) (by kernel_rfl)
-- narrows/narrowslaw32.TextReads
instance : Enters Try.prog 19 := enters_of' Try.func19 (by kernel_rfl) (by kernel_rfl)
-- narrows/narrowslaw32.TextOrder
instance : Enters Try.prog 20 := enters_of' Try.func20 (by kernel_rfl) (by kernel_rfl)
-- narrows/narrowslaw18.QuoteCovers
instance : Enters Try.prog 21 := enters_of' Try.func21 (by kernel_rfl) (by kernel_rfl)
-- narrows/narrowslaw18.QuoteTells
instance : Enters Try.prog 22 := enters_of' Try.func22 (by kernel_rfl) (by kernel_rfl)
-- narrows/narrowslaw32.TextLines
instance : Enters Try.prog 23 := enters_of' Try.func23 (by kernel_rfl) (by kernel_rfl)
-- narrows/narrowslaw17.alive
instance : Enters Try.prog 24 := enters_of' Try.func24 (by kernel_rfl) (by kernel_rfl)
-- narrows/plan.Delay
instance : Enters Try.prog 25 := enters_of' Try.func25 (by kernel_rfl) (by kernel_rfl)
-- narrows/plan.Mirror
instance : Enters Try.prog 26 := enters_of' Try.func26 (by kernel_rfl) (by kernel_rfl)
-- narrows/plan.Long
instance : Enters Try.prog 27 := enters_of' Try.func27 (by kernel_rfl) (by kernel_rfl)
-- narrows/plan.Release
instance : Enters Try.prog 28 := enters_of' Try.func28 (by kernel_rfl) (by kernel_rfl)
-- narrows/plan.Short
instance : Enters Try.prog 29 := enters_of' Try.func29 (by kernel_rfl) (by kernel_rfl)
-- narrows/plan.Window
instance : Enters Try.prog 30 := enters_of' Try.func30 (by kernel_rfl) (by kernel_rfl)
-- narrows/plan.Due
instance : Enters Try.prog 31 := enters_of' Try.func31 (by kernel_rfl) (by kernel_rfl)
-- narrows/narrowslaw29.alive
instance : Enters Try.prog 32 := enters_of' Try.func32 (by kernel_rfl) (by kernel_rfl)
-- narrows/tally.Of
instance : Enters Try.prog 33 := enters_of' Try.func33 (by kernel_rfl) (by kernel_rfl)
-- narrows/tally.Sum
instance : Enters Try.prog 34 := enters_of' Try.func34 (by kernel_rfl) (by kernel_rfl)
-- narrows/tally.Done
instance : Enters Try.prog 35 := enters_of' Try.func35 (by kernel_rfl) (by kernel_rfl)
-- narrows/tally.Failed
instance : Enters Try.prog 36 := enters_of' Try.func36 (by kernel_rfl) (by kernel_rfl)
-- narrows/tally.Best
instance : Enters Try.prog 37 := enters_of' Try.func37 (by kernel_rfl) (by kernel_rfl)
-- narrows/narrowslaw01.alive
instance : Enters Try.prog 38 := enters_of' Try.func38 (by kernel_rfl) (by kernel_rfl)
-- narrows/wide.Add
instance : Enters Try.prog 39 := enters_of' Try.func39 (by kernel_rfl) (by kernel_rfl)
-- narrows/wide.Sub
instance : Enters Try.prog 40 := enters_of' Try.func40 (by kernel_rfl) (by kernel_rfl)
-- narrows/narrowsref01.Add
instance : Enters Try.prog 41 := enters_of' Try.func41 (by kernel_rfl) (by kernel_rfl)
-- narrows/wide.Sum
instance : Enters Try.prog 42 := enters_of' Try.func42 (by kernel_rfl) (by kernel_rfl)
-- narrows/wide.Small
instance : Enters Try.prog 43 := enters_of' Try.func43 (by kernel_rfl) (by kernel_rfl)
-- narrows/narrowslaw11.alive
instance : Enters Try.prog 44 := enters_of' Try.func44 (by kernel_rfl) (by kernel_rfl)
-- (narrows/purse.Book).Total
instance : Enters Try.prog 45 := enters_of' Try.func45 (by kernel_rfl) (by kernel_rfl)
-- (narrows/purse.Book).Give
instance : Enters Try.prog 46 := enters_of' Try.func46 (by kernel_rfl) (by kernel_rfl)
-- (narrows/purse.Book).Take
instance : Enters Try.prog 47 := enters_of' Try.func47 (by kernel_rfl) (by kernel_rfl)
-- narrows/narrowslaw11.at
instance : Enters Try.prog 48 := enters_of' Try.func48 (by kernel_rfl) (by kernel_rfl)
-- narrows/narrowsref01.Sub
instance : Enters Try.prog 49 := enters_of' Try.func49 (by kernel_rfl) (by kernel_rfl)
-- narrows/purse.Even
instance : Enters Try.prog 50 := enters_of' Try.func50 (by kernel_rfl) (by kernel_rfl)
-- (narrows/purse.Book).Of
instance : Enters Try.prog 51 := enters_of' Try.func51 (by kernel_rfl) (by kernel_rfl)
-- narrows/narrowslaw40.alive
instance : Enters Try.prog 52 := enters_of' Try.func52 (by kernel_rfl) (by kernel_rfl)
-- narrows/narrowslaw40.order
instance : Enters Try.prog 53 := enters_of' Try.func53 (by kernel_rfl) (by kernel_rfl)
-- narrows/builder.Order
instance : Enters Try.prog 54 := enters_of' Try.func54 (by kernel_rfl) (by kernel_rfl)
-- narrows/narrowsplain.Ints
instance : Enters Try.prog 55 := enters_of' Try.func55 (by kernel_rfl) (by kernel_rfl)
-- narrows/builder.Stuck
instance : Enters Try.prog 56 := enters_of' Try.func56 (by kernel_rfl) (by kernel_rfl)
-- (narrows/purse.Book).Move
instance : Enters Try.prog 57 := enters_of' Try.func57 (by kernel_rfl) (by kernel_rfl)
-- narrows/wide.Mul
instance : Enters Try.prog 58 := enters_of' Try.func58 (by kernel_rfl) (by kernel_rfl)
-- narrows/narrowsref01.Mul
instance : Enters Try.prog 59 := enters_of' Try.func59 (by kernel_rfl) (by kernel_rfl)
-- narrows/wide.Cmp
instance : Enters Try.prog 60 := enters_of' Try.func60 (by kernel_rfl) (by kernel_rfl)
-- narrows/narrowsref01.Cmp
instance : Enters Try.prog 61 := enters_of' Try.func61 (by kernel_rfl) (by kernel_rfl)
-- narrows/wide.Bits
instance : Enters Try.prog 62 := enters_of' Try.func62 (by kernel_rfl) (by kernel_rfl)
-- narrows/narrowsref01.Bits
instance : Enters Try.prog 63 := enters_of' Try.func63 (by kernel_rfl) (by kernel_rfl)
-- narrows/wide.Of
instance : Enters Try.prog 64 := enters_of' Try.func64 (by kernel_rfl) (by kernel_rfl)
-- narrows/wide.Div
instance : Enters Try.prog 65 := enters_of' Try.func65 (by kernel_rfl) (by kernel_rfl)
-- narrows/narrowslaw18.alive
instance : Enters Try.prog 66 := enters_of' Try.func66 (by kernel_rfl) (by kernel_rfl)
-- narrows/quote.Offer
instance : Enters Try.prog 67 := enters_of' Try.func67 (by kernel_rfl) (by kernel_rfl)
-- narrows/narrowslaw32.alive
instance : Enters Try.prog 68 := enters_of' Try.func68 (by kernel_rfl) (by kernel_rfl)
-- narrows/text.Read
instance : Enters Try.prog 69 := enters_of' Try.func69 (by kernel_rfl) (by kernel_rfl)
-- narrows/text.Put
instance : Enters Try.prog 70 := enters_of' Try.func70 (by kernel_rfl) (by kernel_rfl)
-- narrows/quote.Covers
instance : Enters Try.prog 71 := enters_of' Try.func71 (by kernel_rfl) (by kernel_rfl)
-- narrows/quote.Spread
instance : Enters Try.prog 72 := enters_of' Try.func72 (by kernel_rfl) (by kernel_rfl)
-- narrows/quote.Points
instance : Enters Try.prog 73 := enters_of' Try.func73 (by kernel_rfl) (by kernel_rfl)
-- narrows/text.Hex
instance : Enters Try.prog 74 := enters_of' Try.func74 (by kernel_rfl) (by kernel_rfl)
-- narrows/text.Line
instance : Enters Try.prog 75 := enters_of' Try.func75 (by kernel_rfl) (by kernel_rfl)
-- narrows/narrowslaw32.digit
instance : Enters Try.prog 76 := enters_of' Try.func76 (by kernel_rfl) (by kernel_rfl)
-- narrows/plan.far
instance : Enters Try.prog 77 := enters_of' Try.func77 (by kernel_rfl) (by kernel_rfl)
-- narrows/tally.whole
instance : Enters Try.prog 78 := enters_of' Try.func78 (by kernel_rfl) (by kernel_rfl)
-- narrows/narrowsref01.Digits
instance : Enters Try.prog 81 := enters_of' Try.func81 (by kernel_rfl) (by kernel_rfl)
-- narrows/narrowsref01.Made
instance : Enters Try.prog 82 := enters_of' Try.func82 (by kernel_rfl) (by kernel_rfl)
-- narrows/purse.at
instance : Enters Try.prog 83 := enters_of' Try.func83 (by kernel_rfl) (by kernel_rfl)
-- narrows/escrow.Genesis
instance : Enters Try.prog 84 := enters_of' Try.func84 (by kernel_rfl) (by kernel_rfl)
-- narrows/txs.Check
instance : Enters Try.prog 85 := enters_of' Try.func85 (by kernel_rfl) (by kernel_rfl)
-- narrows/builder.ready
instance : Enters Try.prog 86 := enters_of' Try.func86 (by kernel_rfl) (by kernel_rfl)
-- slices.Contains[[]int,int]
instance : Enters Try.prog 87 := enters_of' Try.func87 (by kernel_rfl) (by kernel_rfl)
-- math/bits.Mul64
instance : Enters Try.prog 88 := enters_of' Try.func88 (by kernel_rfl) (by kernel_rfl)
-- slices.Backward[[]uint64,uint64]
instance : Enters Try.prog 89 := enters_of' Try.func89 (by kernel_rfl) (by kernel_rfl)
-- math/bits.Len64
instance : Enters Try.prog 90 := enters_of' Try.func90 (by kernel_rfl) (by kernel_rfl)
-- math/bits.Div64
instance : Enters Try.prog 91 := enters_of' Try.func91 (by kernel_rfl) (by kernel_rfl)
-- narrows/text.digits
instance : Enters Try.prog 92 := enters_of' Try.func92 (by kernel_rfl) (by kernel_rfl)
-- (*strings.Builder).WriteByte
instance : Enters Try.prog 93 := enters_of' Try.func93 (by kernel_rfl) (by kernel_rfl)
-- (*strings.Builder).String
instance : Enters Try.prog 94 := enters_of' Try.func94 (by kernel_rfl) (by kernel_rfl)
-- strings.Join
instance : Enters Try.prog 95 := enters_of' Try.func95 (by kernel_rfl) (by kernel_rfl)
-- narrows/plan.times
instance : Enters Try.prog 96 := enters_of' Try.func96 (by kernel_rfl) (by kernel_rfl)
-- narrows/txs.route
instance : Enters Try.prog 97 := enters_of' Try.func97 (by kernel_rfl) (by kernel_rfl)
-- narrows/deal.Check
instance : Enters Try.prog 98 := enters_of' Try.func98 (by kernel_rfl) (by kernel_rfl)
-- narrows/deal.Sound
instance : Enters Try.prog 99 := enters_of' Try.func99 (by kernel_rfl) (by kernel_rfl)
-- slices.Index[[]int,int]
instance : Enters Try.prog 100 := enters_of' Try.func100 (by kernel_rfl) (by kernel_rfl)
-- slices.Backward[[]uint64,uint64]$1
instance : Enters Try.prog 101 := enters_of' Try.func101 (by kernel_rfl) (by kernel_rfl)
-- math/bits.LeadingZeros64
instance : Enters Try.prog 102 := enters_of' Try.func102 (by kernel_rfl) (by kernel_rfl)
-- (*strings.Builder).copyCheck
instance : Enters Try.prog 103 := enters_of' Try.func103 (by kernel_rfl) (by kernel_rfl)
-- (*strings.Builder).Grow
instance : Enters Try.prog 104 := enters_of' Try.func104 (by kernel_rfl) (by kernel_rfl)
-- (*strings.Builder).WriteString
instance : Enters Try.prog 105 := enters_of' Try.func105 (by kernel_rfl) (by kernel_rfl)
-- narrows/deal.in
instance : Enters Try.prog 106 := enters_of' Try.func106 (by kernel_rfl) (by kernel_rfl)
-- (*strings.Builder).grow
instance : Enters Try.prog 108 := enters_of' Try.func108 (by kernel_rfl) (by kernel_rfl)
end Go.Proofs.Ytnbckkpflmpnlaa
