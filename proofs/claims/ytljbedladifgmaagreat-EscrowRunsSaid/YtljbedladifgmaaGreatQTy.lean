/-
  The types of this seat's translation, and the functions that are entered, as instances for the engine. No conditions.
-/
import Derived.Test.YtljbedladifgmaaGreatRows
import Derived.Test.YtljbedladifgmaaGreatQRow
namespace Go.Proofs.YtljbedladifgmaaGreat
open Go Go.RowKit Eng
set_option maxRecDepth 100000

instance : Ty Tryz.prog 1 false 1 ([.nilFunc]) := ⟨by kernel_rfl, by kernel_rfl, by kernel_rfl⟩
instance : Ty Tryz.prog 2 false 1 ([.int .i64 0]) := ⟨by kernel_rfl, by kernel_rfl, by kernel_rfl⟩
instance : Ik Tryz.prog 2 .i64 := ⟨by kernel_rfl⟩
instance : Ty Tryz.prog 3 false 1 ([.int .i64 0]) := ⟨by kernel_rfl, by kernel_rfl, by kernel_rfl⟩
instance : Ik Tryz.prog 3 .i64 := ⟨by kernel_rfl⟩
instance : Ty Tryz.prog 4 false 1 ([.bool false]) := ⟨by kernel_rfl, by kernel_rfl, by kernel_rfl⟩
instance : BoolT Tryz.prog 4 := ⟨by kernel_rfl⟩
instance : Ty Tryz.prog 5 false 1 ([.int .u8 0]) := ⟨by kernel_rfl, by kernel_rfl, by kernel_rfl⟩
instance : Ik Tryz.prog 5 .u8 := ⟨by kernel_rfl⟩
instance : Ty Tryz.prog 6 false 1 ([.int .u8 0]) := ⟨by kernel_rfl, by kernel_rfl, by kernel_rfl⟩
instance : Ik Tryz.prog 6 .u8 := ⟨by kernel_rfl⟩
instance : Ty Tryz.prog 7 true 4 ([.int .i64 0, .int .i64 0, .bool false, .int .u8 0]) := ⟨by kernel_rfl, by kernel_rfl, by kernel_rfl⟩
instance : StP Tryz.prog 7 [(0, 1), (1, 1), (2, 1), (3, 1)] := ⟨by kernel_rfl⟩
instance : FldT Tryz.prog 7 0 0 false 1 := ⟨by kernel_rfl, rfl⟩
instance : FldT Tryz.prog 7 1 1 false 1 := ⟨by kernel_rfl, rfl⟩
instance : FldT Tryz.prog 7 2 2 false 1 := ⟨by kernel_rfl, rfl⟩
instance : FldT Tryz.prog 7 3 3 false 1 := ⟨by kernel_rfl, rfl⟩
instance : Ty Tryz.prog 8 true 4 ([.int .i64 0, .int .i64 0, .bool false, .int .u8 0]) := ⟨by kernel_rfl, by kernel_rfl, by kernel_rfl⟩
instance : StP Tryz.prog 8 [(0, 1), (1, 1), (2, 1), (3, 1)] := ⟨by kernel_rfl⟩
instance : FldT Tryz.prog 8 0 0 false 1 := ⟨by kernel_rfl, rfl⟩
instance : FldT Tryz.prog 8 1 1 false 1 := ⟨by kernel_rfl, rfl⟩
instance : FldT Tryz.prog 8 2 2 false 1 := ⟨by kernel_rfl, rfl⟩
instance : FldT Tryz.prog 8 3 3 false 1 := ⟨by kernel_rfl, rfl⟩
instance : Ty Tryz.prog 9 false 1 ([.string ⟨#[]⟩]) := ⟨by kernel_rfl, by kernel_rfl, by kernel_rfl⟩
instance : StrT Tryz.prog 9 := ⟨by kernel_rfl⟩
instance : Ty Tryz.prog 10 false 1 ([.string ⟨#[]⟩]) := ⟨by kernel_rfl, by kernel_rfl, by kernel_rfl⟩
instance : StrT Tryz.prog 10 := ⟨by kernel_rfl⟩
instance : Ty Tryz.prog 11 false 1 ([.string ⟨#[]⟩]) := ⟨by kernel_rfl, by kernel_rfl, by kernel_rfl⟩
instance : StrT Tryz.prog 11 := ⟨by kernel_rfl⟩
instance : Ty Tryz.prog 12 false 1 ([.int .u64 0]) := ⟨by kernel_rfl, by kernel_rfl, by kernel_rfl⟩
instance : Ik Tryz.prog 12 .u64 := ⟨by kernel_rfl⟩
instance : Ty Tryz.prog 13 true 2 ([.string ⟨#[]⟩, .int .u64 0]) := ⟨by kernel_rfl, by kernel_rfl, by kernel_rfl⟩
instance : StP Tryz.prog 13 [(0, 1), (1, 1)] := ⟨by kernel_rfl⟩
instance : FldT Tryz.prog 13 0 0 false 1 := ⟨by kernel_rfl, rfl⟩
instance : FldT Tryz.prog 13 1 1 false 1 := ⟨by kernel_rfl, rfl⟩
instance : Ty Tryz.prog 14 true 2 ([.string ⟨#[]⟩, .int .u64 0]) := ⟨by kernel_rfl, by kernel_rfl, by kernel_rfl⟩
instance : StP Tryz.prog 14 [(0, 1), (1, 1)] := ⟨by kernel_rfl⟩
instance : FldT Tryz.prog 14 0 0 false 1 := ⟨by kernel_rfl, rfl⟩
instance : FldT Tryz.prog 14 1 1 false 1 := ⟨by kernel_rfl, rfl⟩
instance : Ty Tryz.prog 15 false 1 ([.pointer none]) := ⟨by kernel_rfl, by kernel_rfl, by kernel_rfl⟩
instance : Pt Tryz.prog 15 235 := ⟨by kernel_rfl⟩
instance : Ty Tryz.prog 16 false 1 ([.pointer none]) := ⟨by kernel_rfl, by kernel_rfl, by kernel_rfl⟩
instance : Pt Tryz.prog 16 238 := ⟨by kernel_rfl⟩
instance : Ty Tryz.prog 17 false 1 ([.pointer none]) := ⟨by kernel_rfl, by kernel_rfl, by kernel_rfl⟩
instance : Pt Tryz.prog 17 246 := ⟨by kernel_rfl⟩
instance : Ty Tryz.prog 18 true 1 ([.pointer none]) := ⟨by kernel_rfl, by kernel_rfl, by kernel_rfl⟩
instance : StP Tryz.prog 18 [(0, 1)] := ⟨by kernel_rfl⟩
instance : FldT Tryz.prog 18 0 0 false 1 := ⟨by kernel_rfl, rfl⟩
instance : Ty Tryz.prog 19 true 1 ([.pointer none]) := ⟨by kernel_rfl, by kernel_rfl, by kernel_rfl⟩
instance : StP Tryz.prog 19 [(0, 1)] := ⟨by kernel_rfl⟩
instance : FldT Tryz.prog 19 0 0 false 1 := ⟨by kernel_rfl, rfl⟩
instance : Ty Tryz.prog 20 false 1 ([.nilIface]) := ⟨by kernel_rfl, by kernel_rfl, by kernel_rfl⟩
instance : Ty Tryz.prog 21 false 1 ([.int .i32 0]) := ⟨by kernel_rfl, by kernel_rfl, by kernel_rfl⟩
instance : Ik Tryz.prog 21 .i32 := ⟨by kernel_rfl⟩
instance : Ty Tryz.prog 22 false 1 ([.slice none 0 0]) := ⟨by kernel_rfl, by kernel_rfl, by kernel_rfl⟩
instance : Sl Tryz.prog 22 50 224 := ⟨by kernel_rfl, by kernel_rfl⟩
instance : Ty Tryz.prog 23 false 1 ([.slice none 0 0]) := ⟨by kernel_rfl, by kernel_rfl, by kernel_rfl⟩
instance : Sl Tryz.prog 23 3 8 := ⟨by kernel_rfl, by kernel_rfl⟩
instance : Ty Tryz.prog 24 false 1 ([.nilFunc]) := ⟨by kernel_rfl, by kernel_rfl, by kernel_rfl⟩
instance : Ty Tryz.prog 25 false 1 ([.int .u64 0]) := ⟨by kernel_rfl, by kernel_rfl, by kernel_rfl⟩
instance : Ik Tryz.prog 25 .u64 := ⟨by kernel_rfl⟩
instance : Ty Tryz.prog 26 true 4 ([.int .u64 0, .int .u64 0, .int .u64 0, .int .u64 0]) := ⟨by kernel_rfl, by kernel_rfl, by kernel_rfl⟩
instance : Ar Tryz.prog 26 4 25 := ⟨by kernel_rfl⟩
instance : Ty Tryz.prog 27 true 4 ([.int .u64 0, .int .u64 0, .int .u64 0, .int .u64 0]) := ⟨by kernel_rfl, by kernel_rfl, by kernel_rfl⟩
instance : Ar Tryz.prog 27 4 25 := ⟨by kernel_rfl⟩
instance : Ty Tryz.prog 28 true 8 ([.int .u64 0, .int .u64 0, .int .u64 0, .int .u64 0, .int .u64 0, .int .u64 0, .int .u64 0, .int .u64 0]) := ⟨by kernel_rfl, by kernel_rfl, by kernel_rfl⟩
instance : Ar Tryz.prog 28 2 27 := ⟨by kernel_rfl⟩
instance : Ty Tryz.prog 29 true 64 (rep 16 [.int .u64 0, .int .u64 0, .int .u64 0, .int .u64 0]) := ⟨by kernel_rfl, by kernel_rfl, by kernel_rfl⟩
instance : Ar Tryz.prog 29 8 28 := ⟨by kernel_rfl⟩
instance : Ty Tryz.prog 30 true 64 (rep 16 [.int .u64 0, .int .u64 0, .int .u64 0, .int .u64 0]) := ⟨by kernel_rfl, by kernel_rfl, by kernel_rfl⟩
instance : Ar Tryz.prog 30 8 28 := ⟨by kernel_rfl⟩
instance : Ty Tryz.prog 31 true 8 ([.int .i64 0, .int .i64 0, .int .i64 0, .int .i64 0, .int .i64 0, .int .i64 0, .int .i64 0, .int .i64 0]) := ⟨by kernel_rfl, by kernel_rfl, by kernel_rfl⟩
instance : Ar Tryz.prog 31 8 3 := ⟨by kernel_rfl⟩
instance : Ty Tryz.prog 32 false 1 ([.slice none 0 0]) := ⟨by kernel_rfl, by kernel_rfl, by kernel_rfl⟩
instance : Sl Tryz.prog 32 58 40 := ⟨by kernel_rfl, by kernel_rfl⟩
instance : Ty Tryz.prog 33 true 151 ([.int .i64 0, .int .i64 0] ++ rep 16 [.int .u64 0, .int .u64 0, .int .u64 0, .int .u64 0] ++ rep 16 [.int .u64 0, .int .u64 0, .int .u64 0, .int .u64 0] ++ [.int .i64 0, .int .i64 0, .int .i64 0, .int .i64 0, .int .i64 0, .int .i64 0, .int .i64 0, .int .i64 0, .int .u64 0, .int .u64 0, .int .u64 0, .int .u64 0, .int .u64 0, .int .u64 0, .int .u64 0, .int .u64 0, .int .u64 0, .int .u64 0, .int .u64 0, .int .u64 0, .slice none 0 0]) := ⟨by kernel_rfl, by kernel_rfl, by kernel_rfl⟩
instance : StP Tryz.prog 33 [(0, 1), (1, 1), (2, 64), (66, 64), (130, 8), (138, 8), (146, 4), (150, 1)] := ⟨by kernel_rfl⟩
instance : FldT Tryz.prog 33 0 0 false 1 := ⟨by kernel_rfl, rfl⟩
instance : FldT Tryz.prog 33 1 1 false 1 := ⟨by kernel_rfl, rfl⟩
instance : FldT Tryz.prog 33 2 2 true 64 := ⟨by kernel_rfl, rfl⟩
instance : FldT Tryz.prog 33 3 66 true 64 := ⟨by kernel_rfl, rfl⟩
instance : FldT Tryz.prog 33 4 130 true 8 := ⟨by kernel_rfl, rfl⟩
instance : FldT Tryz.prog 33 5 138 true 8 := ⟨by kernel_rfl, rfl⟩
instance : FldT Tryz.prog 33 6 146 true 4 := ⟨by kernel_rfl, rfl⟩
instance : FldT Tryz.prog 33 7 150 false 1 := ⟨by kernel_rfl, rfl⟩
instance : Ty Tryz.prog 34 true 151 ([.int .i64 0, .int .i64 0] ++ rep 16 [.int .u64 0, .int .u64 0, .int .u64 0, .int .u64 0] ++ rep 16 [.int .u64 0, .int .u64 0, .int .u64 0, .int .u64 0] ++ [.int .i64 0, .int .i64 0, .int .i64 0, .int .i64 0, .int .i64 0, .int .i64 0, .int .i64 0, .int .i64 0, .int .u64 0, .int .u64 0, .int .u64 0, .int .u64 0, .int .u64 0, .int .u64 0, .int .u64 0, .int .u64 0, .int .u64 0, .int .u64 0, .int .u64 0, .int .u64 0, .slice none 0 0]) := ⟨by kernel_rfl, by kernel_rfl, by kernel_rfl⟩
instance : StP Tryz.prog 34 [(0, 1), (1, 1), (2, 64), (66, 64), (130, 8), (138, 8), (146, 4), (150, 1)] := ⟨by kernel_rfl⟩
instance : FldT Tryz.prog 34 0 0 false 1 := ⟨by kernel_rfl, rfl⟩
instance : FldT Tryz.prog 34 1 1 false 1 := ⟨by kernel_rfl, rfl⟩
instance : FldT Tryz.prog 34 2 2 true 64 := ⟨by kernel_rfl, rfl⟩
instance : FldT Tryz.prog 34 3 66 true 64 := ⟨by kernel_rfl, rfl⟩
instance : FldT Tryz.prog 34 4 130 true 8 := ⟨by kernel_rfl, rfl⟩
instance : FldT Tryz.prog 34 5 138 true 8 := ⟨by kernel_rfl, rfl⟩
instance : FldT Tryz.prog 34 6 146 true 4 := ⟨by kernel_rfl, rfl⟩
instance : FldT Tryz.prog 34 7 150 false 1 := ⟨by kernel_rfl, rfl⟩
instance : Ty Tryz.prog 35 false 1 ([.nilFunc]) := ⟨by kernel_rfl, by kernel_rfl, by kernel_rfl⟩
instance : Ty Tryz.prog 36 true 64 (rep 16 [.int .u64 0, .int .u64 0, .int .u64 0, .int .u64 0]) := ⟨by kernel_rfl, by kernel_rfl, by kernel_rfl⟩
instance : Ar Tryz.prog 36 16 27 := ⟨by kernel_rfl⟩
instance : Ty Tryz.prog 37 false 1 ([.slice none 0 0]) := ⟨by kernel_rfl, by kernel_rfl, by kernel_rfl⟩
instance : Sl Tryz.prog 37 99 40 := ⟨by kernel_rfl, by kernel_rfl⟩
instance : Ty Tryz.prog 38 true 151 ([.int .i64 0, .int .i64 0] ++ rep 16 [.int .u64 0, .int .u64 0, .int .u64 0, .int .u64 0] ++ rep 16 [.int .u64 0, .int .u64 0, .int .u64 0, .int .u64 0] ++ [.int .i64 0, .int .i64 0, .int .i64 0, .int .i64 0, .int .i64 0, .int .i64 0, .int .i64 0, .int .i64 0, .int .u64 0, .int .u64 0, .int .u64 0, .int .u64 0, .int .u64 0, .int .u64 0, .int .u64 0, .int .u64 0, .int .u64 0, .int .u64 0, .int .u64 0, .int .u64 0, .slice none 0 0]) := ⟨by kernel_rfl, by kernel_rfl, by kernel_rfl⟩
instance : StP Tryz.prog 38 [(0, 1), (1, 1), (2, 64), (66, 64), (130, 8), (138, 8), (146, 4), (150, 1)] := ⟨by kernel_rfl⟩
instance : FldT Tryz.prog 38 0 0 false 1 := ⟨by kernel_rfl, rfl⟩
instance : FldT Tryz.prog 38 1 1 false 1 := ⟨by kernel_rfl, rfl⟩
instance : FldT Tryz.prog 38 2 2 true 64 := ⟨by kernel_rfl, rfl⟩
instance : FldT Tryz.prog 38 3 66 true 64 := ⟨by kernel_rfl, rfl⟩
instance : FldT Tryz.prog 38 4 130 true 8 := ⟨by kernel_rfl, rfl⟩
instance : FldT Tryz.prog 38 5 138 true 8 := ⟨by kernel_rfl, rfl⟩
instance : FldT Tryz.prog 38 6 146 true 4 := ⟨by kernel_rfl, rfl⟩
instance : FldT Tryz.prog 38 7 150 false 1 := ⟨by kernel_rfl, rfl⟩
instance : Ty Tryz.prog 39 true 151 ([.int .i64 0, .int .i64 0] ++ rep 16 [.int .u64 0, .int .u64 0, .int .u64 0, .int .u64 0] ++ rep 16 [.int .u64 0, .int .u64 0, .int .u64 0, .int .u64 0] ++ [.int .i64 0, .int .i64 0, .int .i64 0, .int .i64 0, .int .i64 0, .int .i64 0, .int .i64 0, .int .i64 0, .int .u64 0, .int .u64 0, .int .u64 0, .int .u64 0, .int .u64 0, .int .u64 0, .int .u64 0, .int .u64 0, .int .u64 0, .int .u64 0, .int .u64 0, .int .u64 0, .slice none 0 0]) := ⟨by kernel_rfl, by kernel_rfl, by kernel_rfl⟩
instance : StP Tryz.prog 39 [(0, 1), (1, 1), (2, 64), (66, 64), (130, 8), (138, 8), (146, 4), (150, 1)] := ⟨by kernel_rfl⟩
instance : FldT Tryz.prog 39 0 0 false 1 := ⟨by kernel_rfl, rfl⟩
instance : FldT Tryz.prog 39 1 1 false 1 := ⟨by kernel_rfl, rfl⟩
instance : FldT Tryz.prog 39 2 2 true 64 := ⟨by kernel_rfl, rfl⟩
instance : FldT Tryz.prog 39 3 66 true 64 := ⟨by kernel_rfl, rfl⟩
instance : FldT Tryz.prog 39 4 130 true 8 := ⟨by kernel_rfl, rfl⟩
instance : FldT Tryz.prog 39 5 138 true 8 := ⟨by kernel_rfl, rfl⟩
instance : FldT Tryz.prog 39 6 146 true 4 := ⟨by kernel_rfl, rfl⟩
instance : FldT Tryz.prog 39 7 150 false 1 := ⟨by kernel_rfl, rfl⟩
instance : Ty Tryz.prog 40 false 1 ([.nilFunc]) := ⟨by kernel_rfl, by kernel_rfl, by kernel_rfl⟩
instance : Ty Tryz.prog 41 false 1 ([.nilFunc]) := ⟨by kernel_rfl, by kernel_rfl, by kernel_rfl⟩
instance : Ty Tryz.prog 42 false 1 ([.int .i64 0]) := ⟨by kernel_rfl, by kernel_rfl, by kernel_rfl⟩
instance : Ik Tryz.prog 42 .i64 := ⟨by kernel_rfl⟩
instance : Ty Tryz.prog 44 false 1 ([.nilFunc]) := ⟨by kernel_rfl, by kernel_rfl, by kernel_rfl⟩
instance : Ty Tryz.prog 45 true 7 ([.int .i64 0, .string ⟨#[]⟩, .int .i64 0, .int .i64 0, .int .i64 0, .int .i64 0, .string ⟨#[]⟩]) := ⟨by kernel_rfl, by kernel_rfl, by kernel_rfl⟩
instance : StP Tryz.prog 45 [(0, 1), (1, 1), (2, 1), (3, 1), (4, 1), (5, 1), (6, 1)] := ⟨by kernel_rfl⟩
instance : FldT Tryz.prog 45 0 0 false 1 := ⟨by kernel_rfl, rfl⟩
instance : FldT Tryz.prog 45 1 1 false 1 := ⟨by kernel_rfl, rfl⟩
instance : FldT Tryz.prog 45 2 2 false 1 := ⟨by kernel_rfl, rfl⟩
instance : FldT Tryz.prog 45 3 3 false 1 := ⟨by kernel_rfl, rfl⟩
instance : FldT Tryz.prog 45 4 4 false 1 := ⟨by kernel_rfl, rfl⟩
instance : FldT Tryz.prog 45 5 5 false 1 := ⟨by kernel_rfl, rfl⟩
instance : FldT Tryz.prog 45 6 6 false 1 := ⟨by kernel_rfl, rfl⟩
instance : Ty Tryz.prog 46 true 7 ([.int .i64 0, .string ⟨#[]⟩, .int .i64 0, .int .i64 0, .int .i64 0, .int .i64 0, .string ⟨#[]⟩]) := ⟨by kernel_rfl, by kernel_rfl, by kernel_rfl⟩
instance : StP Tryz.prog 46 [(0, 1), (1, 1), (2, 1), (3, 1), (4, 1), (5, 1), (6, 1)] := ⟨by kernel_rfl⟩
instance : FldT Tryz.prog 46 0 0 false 1 := ⟨by kernel_rfl, rfl⟩
instance : FldT Tryz.prog 46 1 1 false 1 := ⟨by kernel_rfl, rfl⟩
instance : FldT Tryz.prog 46 2 2 false 1 := ⟨by kernel_rfl, rfl⟩
instance : FldT Tryz.prog 46 3 3 false 1 := ⟨by kernel_rfl, rfl⟩
instance : FldT Tryz.prog 46 4 4 false 1 := ⟨by kernel_rfl, rfl⟩
instance : FldT Tryz.prog 46 5 5 false 1 := ⟨by kernel_rfl, rfl⟩
instance : FldT Tryz.prog 46 6 6 false 1 := ⟨by kernel_rfl, rfl⟩
instance : Ty Tryz.prog 47 true 5 ([.int .u64 0, .int .u64 0, .int .u64 0, .int .u64 0, .int .i64 0]) := ⟨by kernel_rfl, by kernel_rfl, by kernel_rfl⟩
instance : StP Tryz.prog 47 [(0, 4), (4, 1)] := ⟨by kernel_rfl⟩
instance : FldT Tryz.prog 47 0 0 true 4 := ⟨by kernel_rfl, rfl⟩
instance : FldT Tryz.prog 47 1 4 false 1 := ⟨by kernel_rfl, rfl⟩
instance : Ty Tryz.prog 48 true 5 ([.int .u64 0, .int .u64 0, .int .u64 0, .int .u64 0, .int .i64 0]) := ⟨by kernel_rfl, by kernel_rfl, by kernel_rfl⟩
instance : StP Tryz.prog 48 [(0, 4), (4, 1)] := ⟨by kernel_rfl⟩
instance : FldT Tryz.prog 48 0 0 true 4 := ⟨by kernel_rfl, rfl⟩
instance : FldT Tryz.prog 48 1 4 false 1 := ⟨by kernel_rfl, rfl⟩
instance : Ty Tryz.prog 49 true 25 ([.int .i64 0, .int .i64 0, .int .i64 0, .int .i64 0, .int .u64 0, .int .u64 0, .int .u64 0, .int .u64 0, .int .i64 0, .string ⟨#[]⟩, .int .i64 0, .int .i64 0, .int .i64 0, .int .i64 0, .string ⟨#[]⟩, .int .u64 0, .int .u64 0, .int .u64 0, .int .u64 0, .int .i64 0, .int .u64 0, .int .u64 0, .int .u64 0, .int .u64 0, .string ⟨#[]⟩]) := ⟨by kernel_rfl, by kernel_rfl, by kernel_rfl⟩
instance : StP Tryz.prog 49 [(0, 1), (1, 1), (2, 1), (3, 1), (4, 4), (8, 7), (15, 5), (20, 4), (24, 1)] := ⟨by kernel_rfl⟩
instance : FldT Tryz.prog 49 0 0 false 1 := ⟨by kernel_rfl, rfl⟩
instance : FldT Tryz.prog 49 1 1 false 1 := ⟨by kernel_rfl, rfl⟩
instance : FldT Tryz.prog 49 2 2 false 1 := ⟨by kernel_rfl, rfl⟩
instance : FldT Tryz.prog 49 3 3 false 1 := ⟨by kernel_rfl, rfl⟩
instance : FldT Tryz.prog 49 4 4 true 4 := ⟨by kernel_rfl, rfl⟩
instance : FldT Tryz.prog 49 5 8 true 7 := ⟨by kernel_rfl, rfl⟩
instance : FldT Tryz.prog 49 6 15 true 5 := ⟨by kernel_rfl, rfl⟩
instance : FldT Tryz.prog 49 7 20 true 4 := ⟨by kernel_rfl, rfl⟩
instance : FldT Tryz.prog 49 8 24 false 1 := ⟨by kernel_rfl, rfl⟩
instance : Ty Tryz.prog 50 true 25 ([.int .i64 0, .int .i64 0, .int .i64 0, .int .i64 0, .int .u64 0, .int .u64 0, .int .u64 0, .int .u64 0, .int .i64 0, .string ⟨#[]⟩, .int .i64 0, .int .i64 0, .int .i64 0, .int .i64 0, .string ⟨#[]⟩, .int .u64 0, .int .u64 0, .int .u64 0, .int .u64 0, .int .i64 0, .int .u64 0, .int .u64 0, .int .u64 0, .int .u64 0, .string ⟨#[]⟩]) := ⟨by kernel_rfl, by kernel_rfl, by kernel_rfl⟩
instance : StP Tryz.prog 50 [(0, 1), (1, 1), (2, 1), (3, 1), (4, 4), (8, 7), (15, 5), (20, 4), (24, 1)] := ⟨by kernel_rfl⟩
instance : FldT Tryz.prog 50 0 0 false 1 := ⟨by kernel_rfl, rfl⟩
instance : FldT Tryz.prog 50 1 1 false 1 := ⟨by kernel_rfl, rfl⟩
instance : FldT Tryz.prog 50 2 2 false 1 := ⟨by kernel_rfl, rfl⟩
instance : FldT Tryz.prog 50 3 3 false 1 := ⟨by kernel_rfl, rfl⟩
instance : FldT Tryz.prog 50 4 4 true 4 := ⟨by kernel_rfl, rfl⟩
instance : FldT Tryz.prog 50 5 8 true 7 := ⟨by kernel_rfl, rfl⟩
instance : FldT Tryz.prog 50 6 15 true 5 := ⟨by kernel_rfl, rfl⟩
instance : FldT Tryz.prog 50 7 20 true 4 := ⟨by kernel_rfl, rfl⟩
instance : FldT Tryz.prog 50 8 24 false 1 := ⟨by kernel_rfl, rfl⟩
instance : Ty Tryz.prog 52 false 1 ([.nilFunc]) := ⟨by kernel_rfl, by kernel_rfl, by kernel_rfl⟩
instance : Ty Tryz.prog 53 false 1 ([.nilFunc]) := ⟨by kernel_rfl, by kernel_rfl, by kernel_rfl⟩
instance : Ty Tryz.prog 54 false 1 ([.nilFunc]) := ⟨by kernel_rfl, by kernel_rfl, by kernel_rfl⟩
instance : Ty Tryz.prog 55 false 1 ([.nilFunc]) := ⟨by kernel_rfl, by kernel_rfl, by kernel_rfl⟩
instance : Ty Tryz.prog 56 false 1 ([.nilFunc]) := ⟨by kernel_rfl, by kernel_rfl, by kernel_rfl⟩
instance : Ty Tryz.prog 57 true 3 ([.string ⟨#[]⟩, .string ⟨#[]⟩, .int .i64 0]) := ⟨by kernel_rfl, by kernel_rfl, by kernel_rfl⟩
instance : StP Tryz.prog 57 [(0, 1), (1, 1), (2, 1)] := ⟨by kernel_rfl⟩
instance : FldT Tryz.prog 57 0 0 false 1 := ⟨by kernel_rfl, rfl⟩
instance : FldT Tryz.prog 57 1 1 false 1 := ⟨by kernel_rfl, rfl⟩
instance : FldT Tryz.prog 57 2 2 false 1 := ⟨by kernel_rfl, rfl⟩
instance : Ty Tryz.prog 58 true 3 ([.string ⟨#[]⟩, .string ⟨#[]⟩, .int .i64 0]) := ⟨by kernel_rfl, by kernel_rfl, by kernel_rfl⟩
instance : StP Tryz.prog 58 [(0, 1), (1, 1), (2, 1)] := ⟨by kernel_rfl⟩
instance : FldT Tryz.prog 58 0 0 false 1 := ⟨by kernel_rfl, rfl⟩
instance : FldT Tryz.prog 58 1 1 false 1 := ⟨by kernel_rfl, rfl⟩
instance : FldT Tryz.prog 58 2 2 false 1 := ⟨by kernel_rfl, rfl⟩
instance : Ty Tryz.prog 59 false 1 ([.nilFunc]) := ⟨by kernel_rfl, by kernel_rfl, by kernel_rfl⟩
instance : Ty Tryz.prog 60 false 1 ([.nilFunc]) := ⟨by kernel_rfl, by kernel_rfl, by kernel_rfl⟩
instance : Ty Tryz.prog 61 false 1 ([.nilFunc]) := ⟨by kernel_rfl, by kernel_rfl, by kernel_rfl⟩
instance : Ty Tryz.prog 62 false 1 ([.nilFunc]) := ⟨by kernel_rfl, by kernel_rfl, by kernel_rfl⟩
instance : Ty Tryz.prog 63 false 1 ([.pointer none]) := ⟨by kernel_rfl, by kernel_rfl, by kernel_rfl⟩
instance : Pt Tryz.prog 63 88 := ⟨by kernel_rfl⟩
instance : Ty Tryz.prog 64 false 1 ([.nilFunc]) := ⟨by kernel_rfl, by kernel_rfl, by kernel_rfl⟩
instance : Ty Tryz.prog 65 false 1 ([.nilFunc]) := ⟨by kernel_rfl, by kernel_rfl, by kernel_rfl⟩
instance : Ty Tryz.prog 66 false 1 ([.nilFunc]) := ⟨by kernel_rfl, by kernel_rfl, by kernel_rfl⟩
instance : Ty Tryz.prog 67 false 1 ([.nilFunc]) := ⟨by kernel_rfl, by kernel_rfl, by kernel_rfl⟩
instance : Ty Tryz.prog 68 false 1 ([.slice none 0 0]) := ⟨by kernel_rfl, by kernel_rfl, by kernel_rfl⟩
instance : Sl Tryz.prog 68 72 240 := ⟨by kernel_rfl, by kernel_rfl⟩
instance : Ty Tryz.prog 69 false 1 ([.nilFunc]) := ⟨by kernel_rfl, by kernel_rfl, by kernel_rfl⟩
instance : Ty Tryz.prog 70 false 1 ([.nilFunc]) := ⟨by kernel_rfl, by kernel_rfl, by kernel_rfl⟩
instance : Ty Tryz.prog 71 true 27 ([.int .i64 0, .int .i64 0] ++ [.int .i64 0, .int .i64 0, .int .i64 0, .int .i64 0, .int .u64 0, .int .u64 0, .int .u64 0, .int .u64 0, .int .i64 0, .string ⟨#[]⟩, .int .i64 0, .int .i64 0, .int .i64 0, .int .i64 0, .string ⟨#[]⟩, .int .u64 0, .int .u64 0, .int .u64 0, .int .u64 0, .int .i64 0, .int .u64 0, .int .u64 0, .int .u64 0, .int .u64 0, .string ⟨#[]⟩]) := ⟨by kernel_rfl, by kernel_rfl, by kernel_rfl⟩
instance : StP Tryz.prog 71 [(0, 1), (1, 1), (2, 25)] := ⟨by kernel_rfl⟩
instance : FldT Tryz.prog 71 0 0 false 1 := ⟨by kernel_rfl, rfl⟩
instance : FldT Tryz.prog 71 1 1 false 1 := ⟨by kernel_rfl, rfl⟩
instance : FldT Tryz.prog 71 2 2 true 25 := ⟨by kernel_rfl, rfl⟩
instance : Ty Tryz.prog 72 true 27 ([.int .i64 0, .int .i64 0] ++ [.int .i64 0, .int .i64 0, .int .i64 0, .int .i64 0, .int .u64 0, .int .u64 0, .int .u64 0, .int .u64 0, .int .i64 0, .string ⟨#[]⟩, .int .i64 0, .int .i64 0, .int .i64 0, .int .i64 0, .string ⟨#[]⟩, .int .u64 0, .int .u64 0, .int .u64 0, .int .u64 0, .int .i64 0, .int .u64 0, .int .u64 0, .int .u64 0, .int .u64 0, .string ⟨#[]⟩]) := ⟨by kernel_rfl, by kernel_rfl, by kernel_rfl⟩
instance : StP Tryz.prog 72 [(0, 1), (1, 1), (2, 25)] := ⟨by kernel_rfl⟩
instance : FldT Tryz.prog 72 0 0 false 1 := ⟨by kernel_rfl, rfl⟩
instance : FldT Tryz.prog 72 1 1 false 1 := ⟨by kernel_rfl, rfl⟩
instance : FldT Tryz.prog 72 2 2 true 25 := ⟨by kernel_rfl, rfl⟩
instance : Ty Tryz.prog 73 false 1 ([.nilFunc]) := ⟨by kernel_rfl, by kernel_rfl, by kernel_rfl⟩
instance : Ty Tryz.prog 74 false 1 ([.slice none 0 0]) := ⟨by kernel_rfl, by kernel_rfl, by kernel_rfl⟩
instance : Sl Tryz.prog 74 77 240 := ⟨by kernel_rfl, by kernel_rfl⟩
instance : Ty Tryz.prog 75 false 1 ([.nilFunc]) := ⟨by kernel_rfl, by kernel_rfl, by kernel_rfl⟩
instance : Ty Tryz.prog 76 true 27 ([.int .i64 0, .int .i64 0] ++ [.int .i64 0, .int .i64 0, .int .i64 0, .int .i64 0, .int .u64 0, .int .u64 0, .int .u64 0, .int .u64 0, .int .i64 0, .string ⟨#[]⟩, .int .i64 0, .int .i64 0, .int .i64 0, .int .i64 0, .string ⟨#[]⟩, .int .u64 0, .int .u64 0, .int .u64 0, .int .u64 0, .int .i64 0, .int .u64 0, .int .u64 0, .int .u64 0, .int .u64 0, .string ⟨#[]⟩]) := ⟨by kernel_rfl, by kernel_rfl, by kernel_rfl⟩
instance : StP Tryz.prog 76 [(0, 1), (1, 1), (2, 25)] := ⟨by kernel_rfl⟩
instance : FldT Tryz.prog 76 0 0 false 1 := ⟨by kernel_rfl, rfl⟩
instance : FldT Tryz.prog 76 1 1 false 1 := ⟨by kernel_rfl, rfl⟩
instance : FldT Tryz.prog 76 2 2 true 25 := ⟨by kernel_rfl, rfl⟩
instance : Ty Tryz.prog 77 true 27 ([.int .i64 0, .int .i64 0] ++ [.int .i64 0, .int .i64 0, .int .i64 0, .int .i64 0, .int .u64 0, .int .u64 0, .int .u64 0, .int .u64 0, .int .i64 0, .string ⟨#[]⟩, .int .i64 0, .int .i64 0, .int .i64 0, .int .i64 0, .string ⟨#[]⟩, .int .u64 0, .int .u64 0, .int .u64 0, .int .u64 0, .int .i64 0, .int .u64 0, .int .u64 0, .int .u64 0, .int .u64 0, .string ⟨#[]⟩]) := ⟨by kernel_rfl, by kernel_rfl, by kernel_rfl⟩
instance : StP Tryz.prog 77 [(0, 1), (1, 1), (2, 25)] := ⟨by kernel_rfl⟩
instance : FldT Tryz.prog 77 0 0 false 1 := ⟨by kernel_rfl, rfl⟩
instance : FldT Tryz.prog 77 1 1 false 1 := ⟨by kernel_rfl, rfl⟩
instance : FldT Tryz.prog 77 2 2 true 25 := ⟨by kernel_rfl, rfl⟩
instance : Ty Tryz.prog 78 false 1 ([.nilFunc]) := ⟨by kernel_rfl, by kernel_rfl, by kernel_rfl⟩
instance : Ty Tryz.prog 79 false 1 ([.nilFunc]) := ⟨by kernel_rfl, by kernel_rfl, by kernel_rfl⟩
instance : Ty Tryz.prog 80 false 1 ([.nilFunc]) := ⟨by kernel_rfl, by kernel_rfl, by kernel_rfl⟩
instance : Ty Tryz.prog 81 false 1 ([.nilFunc]) := ⟨by kernel_rfl, by kernel_rfl, by kernel_rfl⟩
instance : Ty Tryz.prog 82 false 1 ([.nilFunc]) := ⟨by kernel_rfl, by kernel_rfl, by kernel_rfl⟩
instance : Ty Tryz.prog 83 false 1 ([.nilFunc]) := ⟨by kernel_rfl, by kernel_rfl, by kernel_rfl⟩
instance : Ty Tryz.prog 84 false 1 ([.nilFunc]) := ⟨by kernel_rfl, by kernel_rfl, by kernel_rfl⟩
instance : Ty Tryz.prog 85 false 1 ([.nilFunc]) := ⟨by kernel_rfl, by kernel_rfl, by kernel_rfl⟩
instance : Ty Tryz.prog 86 false 1 ([.nilFunc]) := ⟨by kernel_rfl, by kernel_rfl, by kernel_rfl⟩
instance : Ty Tryz.prog 87 true 154 ([.int .i64 0, .int .i64 0] ++ rep 16 [.int .u64 0, .int .u64 0, .int .u64 0, .int .u64 0] ++ rep 16 [.int .u64 0, .int .u64 0, .int .u64 0, .int .u64 0] ++ [.int .i64 0, .int .i64 0, .int .i64 0, .int .i64 0, .int .i64 0, .int .i64 0, .int .i64 0, .int .i64 0, .int .u64 0, .int .u64 0, .int .u64 0, .int .u64 0, .int .u64 0, .int .u64 0, .int .u64 0, .int .u64 0, .int .u64 0, .int .u64 0, .int .u64 0, .int .u64 0, .slice none 0 0] ++ [.slice none 0 0, .slice none 0 0, .bool false]) := ⟨by kernel_rfl, by kernel_rfl, by kernel_rfl⟩
instance : StP Tryz.prog 87 [(0, 151), (151, 1), (152, 1), (153, 1)] := ⟨by kernel_rfl⟩
instance : FldT Tryz.prog 87 0 0 true 151 := ⟨by kernel_rfl, rfl⟩
instance : FldT Tryz.prog 87 1 151 false 1 := ⟨by kernel_rfl, rfl⟩
instance : FldT Tryz.prog 87 2 152 false 1 := ⟨by kernel_rfl, rfl⟩
instance : FldT Tryz.prog 87 3 153 false 1 := ⟨by kernel_rfl, rfl⟩
instance : Ty Tryz.prog 88 true 154 ([.int .i64 0, .int .i64 0] ++ rep 16 [.int .u64 0, .int .u64 0, .int .u64 0, .int .u64 0] ++ rep 16 [.int .u64 0, .int .u64 0, .int .u64 0, .int .u64 0] ++ [.int .i64 0, .int .i64 0, .int .i64 0, .int .i64 0, .int .i64 0, .int .i64 0, .int .i64 0, .int .i64 0, .int .u64 0, .int .u64 0, .int .u64 0, .int .u64 0, .int .u64 0, .int .u64 0, .int .u64 0, .int .u64 0, .int .u64 0, .int .u64 0, .int .u64 0, .int .u64 0, .slice none 0 0] ++ [.slice none 0 0, .slice none 0 0, .bool false]) := ⟨by kernel_rfl, by kernel_rfl, by kernel_rfl⟩
instance : StP Tryz.prog 88 [(0, 151), (151, 1), (152, 1), (153, 1)] := ⟨by kernel_rfl⟩
instance : FldT Tryz.prog 88 0 0 true 151 := ⟨by kernel_rfl, rfl⟩
instance : FldT Tryz.prog 88 1 151 false 1 := ⟨by kernel_rfl, rfl⟩
instance : FldT Tryz.prog 88 2 152 false 1 := ⟨by kernel_rfl, rfl⟩
instance : FldT Tryz.prog 88 3 153 false 1 := ⟨by kernel_rfl, rfl⟩
instance : Ty Tryz.prog 89 false 1 ([.slice none 0 0]) := ⟨by kernel_rfl, by kernel_rfl, by kernel_rfl⟩
instance : Sl Tryz.prog 89 63 8 := ⟨by kernel_rfl, by kernel_rfl⟩
instance : Ty Tryz.prog 90 false 1 ([.nilFunc]) := ⟨by kernel_rfl, by kernel_rfl, by kernel_rfl⟩
instance : Ty Tryz.prog 91 false 1 ([.nilFunc]) := ⟨by kernel_rfl, by kernel_rfl, by kernel_rfl⟩
instance : Ty Tryz.prog 92 false 1 ([.nilFunc]) := ⟨by kernel_rfl, by kernel_rfl, by kernel_rfl⟩
instance : Ty Tryz.prog 93 false 1 ([.slice none 0 0]) := ⟨by kernel_rfl, by kernel_rfl, by kernel_rfl⟩
instance : Sl Tryz.prog 93 5 1 := ⟨by kernel_rfl, by kernel_rfl⟩
instance : Ty Tryz.prog 94 false 1 ([.slice none 0 0]) := ⟨by kernel_rfl, by kernel_rfl, by kernel_rfl⟩
instance : Sl Tryz.prog 94 4 1 := ⟨by kernel_rfl, by kernel_rfl⟩
instance : Ty Tryz.prog 95 false 1 ([.nilFunc]) := ⟨by kernel_rfl, by kernel_rfl, by kernel_rfl⟩
instance : Ty Tryz.prog 96 false 1 ([.nilFunc]) := ⟨by kernel_rfl, by kernel_rfl, by kernel_rfl⟩
instance : Ty Tryz.prog 97 false 1 ([.nilFunc]) := ⟨by kernel_rfl, by kernel_rfl, by kernel_rfl⟩
instance : Ty Tryz.prog 98 false 1 ([.nilFunc]) := ⟨by kernel_rfl, by kernel_rfl, by kernel_rfl⟩
instance : Ty Tryz.prog 99 true 3 ([.string ⟨#[]⟩, .string ⟨#[]⟩, .int .i64 0]) := ⟨by kernel_rfl, by kernel_rfl, by kernel_rfl⟩
instance : StP Tryz.prog 99 [(0, 1), (1, 1), (2, 1)] := ⟨by kernel_rfl⟩
instance : FldT Tryz.prog 99 0 0 false 1 := ⟨by kernel_rfl, rfl⟩
instance : FldT Tryz.prog 99 1 1 false 1 := ⟨by kernel_rfl, rfl⟩
instance : FldT Tryz.prog 99 2 2 false 1 := ⟨by kernel_rfl, rfl⟩
instance : Ty Tryz.prog 100 false 1 ([.nilFunc]) := ⟨by kernel_rfl, by kernel_rfl, by kernel_rfl⟩
instance : Ty Tryz.prog 102 false 1 ([.nilFunc]) := ⟨by kernel_rfl, by kernel_rfl, by kernel_rfl⟩
instance : Ty Tryz.prog 103 false 1 ([.nilFunc]) := ⟨by kernel_rfl, by kernel_rfl, by kernel_rfl⟩
instance : Ty Tryz.prog 105 false 1 ([.nilFunc]) := ⟨by kernel_rfl, by kernel_rfl, by kernel_rfl⟩
instance : Ty Tryz.prog 107 false 1 ([.nilFunc]) := ⟨by kernel_rfl, by kernel_rfl, by kernel_rfl⟩
instance : Ty Tryz.prog 108 false 1 ([.nilFunc]) := ⟨by kernel_rfl, by kernel_rfl, by kernel_rfl⟩
instance : Ty Tryz.prog 110 false 1 ([.nilFunc]) := ⟨by kernel_rfl, by kernel_rfl, by kernel_rfl⟩
instance : Ty Tryz.prog 112 false 1 ([.nilFunc]) := ⟨by kernel_rfl, by kernel_rfl, by kernel_rfl⟩
instance : Ty Tryz.prog 113 false 1 ([.nilFunc]) := ⟨by kernel_rfl, by kernel_rfl, by kernel_rfl⟩
instance : Ty Tryz.prog 114 false 1 ([.nilFunc]) := ⟨by kernel_rfl, by kernel_rfl, by kernel_rfl⟩
instance : Ty Tryz.prog 115 false 1 ([.pointer none]) := ⟨by kernel_rfl, by kernel_rfl, by kernel_rfl⟩
instance : Pt Tryz.prog 115 157 := ⟨by kernel_rfl⟩
instance : Ty Tryz.prog 116 false 1 ([.nilFunc]) := ⟨by kernel_rfl, by kernel_rfl, by kernel_rfl⟩
instance : Ty Tryz.prog 117 false 1 ([.nilFunc]) := ⟨by kernel_rfl, by kernel_rfl, by kernel_rfl⟩
instance : Ty Tryz.prog 119 false 1 ([.nilFunc]) := ⟨by kernel_rfl, by kernel_rfl, by kernel_rfl⟩
instance : Ty Tryz.prog 120 false 1 ([.nilFunc]) := ⟨by kernel_rfl, by kernel_rfl, by kernel_rfl⟩
instance : Ty Tryz.prog 121 false 1 ([.nilFunc]) := ⟨by kernel_rfl, by kernel_rfl, by kernel_rfl⟩
instance : Ty Tryz.prog 122 false 1 ([.nilFunc]) := ⟨by kernel_rfl, by kernel_rfl, by kernel_rfl⟩
instance : Ty Tryz.prog 123 false 1 ([.nilFunc]) := ⟨by kernel_rfl, by kernel_rfl, by kernel_rfl⟩
instance : Ty Tryz.prog 124 true 2 ([.slice none 0 0, .int .i64 0]) := ⟨by kernel_rfl, by kernel_rfl, by kernel_rfl⟩
instance : StP Tryz.prog 124 [(0, 1), (1, 1)] := ⟨by kernel_rfl⟩
instance : FldT Tryz.prog 124 0 0 false 1 := ⟨by kernel_rfl, rfl⟩
instance : FldT Tryz.prog 124 1 1 false 1 := ⟨by kernel_rfl, rfl⟩
instance : Ty Tryz.prog 125 true 2 ([.slice none 0 0, .int .i64 0]) := ⟨by kernel_rfl, by kernel_rfl, by kernel_rfl⟩
instance : StP Tryz.prog 125 [(0, 1), (1, 1)] := ⟨by kernel_rfl⟩
instance : FldT Tryz.prog 125 0 0 false 1 := ⟨by kernel_rfl, rfl⟩
instance : FldT Tryz.prog 125 1 1 false 1 := ⟨by kernel_rfl, rfl⟩
instance : Ty Tryz.prog 126 false 1 ([.nilFunc]) := ⟨by kernel_rfl, by kernel_rfl, by kernel_rfl⟩
instance : Ty Tryz.prog 127 false 1 ([.nilFunc]) := ⟨by kernel_rfl, by kernel_rfl, by kernel_rfl⟩
instance : Ty Tryz.prog 128 false 1 ([.nilFunc]) := ⟨by kernel_rfl, by kernel_rfl, by kernel_rfl⟩
instance : Ty Tryz.prog 129 false 1 ([.nilFunc]) := ⟨by kernel_rfl, by kernel_rfl, by kernel_rfl⟩
instance : Ty Tryz.prog 130 false 1 ([.nilFunc]) := ⟨by kernel_rfl, by kernel_rfl, by kernel_rfl⟩
instance : Ty Tryz.prog 131 false 1 ([.nilFunc]) := ⟨by kernel_rfl, by kernel_rfl, by kernel_rfl⟩
instance : Ty Tryz.prog 132 false 1 ([.nilFunc]) := ⟨by kernel_rfl, by kernel_rfl, by kernel_rfl⟩
instance : Ty Tryz.prog 133 false 1 ([.nilFunc]) := ⟨by kernel_rfl, by kernel_rfl, by kernel_rfl⟩
instance : Ty Tryz.prog 134 false 1 ([.nilFunc]) := ⟨by kernel_rfl, by kernel_rfl, by kernel_rfl⟩
instance : Ty Tryz.prog 135 false 1 ([.nilFunc]) := ⟨by kernel_rfl, by kernel_rfl, by kernel_rfl⟩
instance : Ty Tryz.prog 137 false 1 ([.nilFunc]) := ⟨by kernel_rfl, by kernel_rfl, by kernel_rfl⟩
instance : Ty Tryz.prog 138 true 1 ([.int .i64 0]) := ⟨by kernel_rfl, by kernel_rfl, by kernel_rfl⟩
instance : StP Tryz.prog 138 [(0, 1)] := ⟨by kernel_rfl⟩
instance : FldT Tryz.prog 138 0 0 false 1 := ⟨by kernel_rfl, rfl⟩
instance : Ty Tryz.prog 139 true 1 ([.int .i64 0]) := ⟨by kernel_rfl, by kernel_rfl, by kernel_rfl⟩
instance : StP Tryz.prog 139 [(0, 1)] := ⟨by kernel_rfl⟩
instance : FldT Tryz.prog 139 0 0 false 1 := ⟨by kernel_rfl, rfl⟩
instance : Ty Tryz.prog 141 false 1 ([.nilFunc]) := ⟨by kernel_rfl, by kernel_rfl, by kernel_rfl⟩
instance : Ty Tryz.prog 142 false 1 ([.nilFunc]) := ⟨by kernel_rfl, by kernel_rfl, by kernel_rfl⟩
instance : Ty Tryz.prog 143 false 1 ([.nilFunc]) := ⟨by kernel_rfl, by kernel_rfl, by kernel_rfl⟩
instance : Ty Tryz.prog 144 false 1 ([.nilFunc]) := ⟨by kernel_rfl, by kernel_rfl, by kernel_rfl⟩
instance : Ty Tryz.prog 146 false 1 ([.nilFunc]) := ⟨by kernel_rfl, by kernel_rfl, by kernel_rfl⟩
instance : Ty Tryz.prog 147 false 1 ([.nilFunc]) := ⟨by kernel_rfl, by kernel_rfl, by kernel_rfl⟩
instance : Ty Tryz.prog 149 false 1 ([.nilFunc]) := ⟨by kernel_rfl, by kernel_rfl, by kernel_rfl⟩
instance : Ty Tryz.prog 150 false 1 ([.nilFunc]) := ⟨by kernel_rfl, by kernel_rfl, by kernel_rfl⟩
instance : Ty Tryz.prog 151 false 1 ([.nilFunc]) := ⟨by kernel_rfl, by kernel_rfl, by kernel_rfl⟩
instance : Ty Tryz.prog 152 false 1 ([.pointer none]) := ⟨by kernel_rfl, by kernel_rfl, by kernel_rfl⟩
instance : Pt Tryz.prog 152 34 := ⟨by kernel_rfl⟩
instance : Ty Tryz.prog 153 false 1 ([.nilFunc]) := ⟨by kernel_rfl, by kernel_rfl, by kernel_rfl⟩
instance : Ty Tryz.prog 154 false 1 ([.nilFunc]) := ⟨by kernel_rfl, by kernel_rfl, by kernel_rfl⟩
instance : Ty Tryz.prog 155 false 1 ([.nilFunc]) := ⟨by kernel_rfl, by kernel_rfl, by kernel_rfl⟩
instance : Ty Tryz.prog 156 true 3 ([.slice none 0 0, .int .i64 0, .bool false]) := ⟨by kernel_rfl, by kernel_rfl, by kernel_rfl⟩
instance : StP Tryz.prog 156 [(0, 1), (1, 1), (2, 1)] := ⟨by kernel_rfl⟩
instance : FldT Tryz.prog 156 0 0 false 1 := ⟨by kernel_rfl, rfl⟩
instance : FldT Tryz.prog 156 1 1 false 1 := ⟨by kernel_rfl, rfl⟩
instance : FldT Tryz.prog 156 2 2 false 1 := ⟨by kernel_rfl, rfl⟩
instance : Ty Tryz.prog 157 true 3 ([.slice none 0 0, .int .i64 0, .bool false]) := ⟨by kernel_rfl, by kernel_rfl, by kernel_rfl⟩
instance : StP Tryz.prog 157 [(0, 1), (1, 1), (2, 1)] := ⟨by kernel_rfl⟩
instance : FldT Tryz.prog 157 0 0 false 1 := ⟨by kernel_rfl, rfl⟩
instance : FldT Tryz.prog 157 1 1 false 1 := ⟨by kernel_rfl, rfl⟩
instance : FldT Tryz.prog 157 2 2 false 1 := ⟨by kernel_rfl, rfl⟩
instance : Ty Tryz.prog 158 false 1 ([.nilFunc]) := ⟨by kernel_rfl, by kernel_rfl, by kernel_rfl⟩
instance : Ty Tryz.prog 159 true 4 ([.int .i64 0, .int .i64 0, .int .i64 0, .int .i64 0]) := ⟨by kernel_rfl, by kernel_rfl, by kernel_rfl⟩
instance : Ar Tryz.prog 159 4 3 := ⟨by kernel_rfl⟩
instance : Ty Tryz.prog 160 false 1 ([.nilFunc]) := ⟨by kernel_rfl, by kernel_rfl, by kernel_rfl⟩
instance : Ty Tryz.prog 161 false 1 ([.slice none 0 0]) := ⟨by kernel_rfl, by kernel_rfl, by kernel_rfl⟩
instance : Sl Tryz.prog 161 93 24 := ⟨by kernel_rfl, by kernel_rfl⟩
instance : Ty Tryz.prog 162 false 1 ([.nilFunc]) := ⟨by kernel_rfl, by kernel_rfl, by kernel_rfl⟩
instance : Ty Tryz.prog 163 false 1 ([.int .u32 0]) := ⟨by kernel_rfl, by kernel_rfl, by kernel_rfl⟩
instance : Ik Tryz.prog 163 .u32 := ⟨by kernel_rfl⟩
instance : Ty Tryz.prog 164 true 8 ([.int .u32 0, .int .u32 0, .int .u32 0, .int .u32 0, .int .u32 0, .int .u32 0, .int .u32 0, .int .u32 0]) := ⟨by kernel_rfl, by kernel_rfl, by kernel_rfl⟩
instance : Ar Tryz.prog 164 8 163 := ⟨by kernel_rfl⟩
instance : Ty Tryz.prog 165 true 64 (List.replicate 64 (.int .u32 0)) := ⟨by kernel_rfl, by kernel_rfl, by kernel_rfl⟩
instance : Ar Tryz.prog 165 64 163 := ⟨by kernel_rfl⟩
instance : Ty Tryz.prog 166 false 1 ([.nilFunc]) := ⟨by kernel_rfl, by kernel_rfl, by kernel_rfl⟩
instance : Ty Tryz.prog 167 false 1 ([.nilFunc]) := ⟨by kernel_rfl, by kernel_rfl, by kernel_rfl⟩
instance : Ty Tryz.prog 168 false 1 ([.nilFunc]) := ⟨by kernel_rfl, by kernel_rfl, by kernel_rfl⟩
instance : Ty Tryz.prog 169 false 1 ([.nilFunc]) := ⟨by kernel_rfl, by kernel_rfl, by kernel_rfl⟩
instance : Ty Tryz.prog 170 false 1 ([.nilFunc]) := ⟨by kernel_rfl, by kernel_rfl, by kernel_rfl⟩
instance : Ty Tryz.prog 171 false 1 ([.nilFunc]) := ⟨by kernel_rfl, by kernel_rfl, by kernel_rfl⟩
instance : Ty Tryz.prog 172 false 1 ([.nilFunc]) := ⟨by kernel_rfl, by kernel_rfl, by kernel_rfl⟩
instance : Ty Tryz.prog 173 false 1 ([.nilFunc]) := ⟨by kernel_rfl, by kernel_rfl, by kernel_rfl⟩
instance : Ty Tryz.prog 174 false 1 ([.nilFunc]) := ⟨by kernel_rfl, by kernel_rfl, by kernel_rfl⟩
instance : Ty Tryz.prog 175 false 1 ([.nilFunc]) := ⟨by kernel_rfl, by kernel_rfl, by kernel_rfl⟩
instance : Ty Tryz.prog 177 false 1 ([.nilFunc]) := ⟨by kernel_rfl, by kernel_rfl, by kernel_rfl⟩
instance : Ty Tryz.prog 178 false 1 ([.nilFunc]) := ⟨by kernel_rfl, by kernel_rfl, by kernel_rfl⟩
instance : Ty Tryz.prog 179 false 1 ([.nilFunc]) := ⟨by kernel_rfl, by kernel_rfl, by kernel_rfl⟩
instance : Ty Tryz.prog 180 false 1 ([.nilFunc]) := ⟨by kernel_rfl, by kernel_rfl, by kernel_rfl⟩
instance : Ty Tryz.prog 181 true 8 ([.int .u32 0, .int .u32 0, .int .u32 0, .int .u32 0, .int .u32 0, .int .u32 0, .int .u32 0, .int .u32 0]) := ⟨by kernel_rfl, by kernel_rfl, by kernel_rfl⟩
instance : Ar Tryz.prog 181 8 163 := ⟨by kernel_rfl⟩
instance : Ty Tryz.prog 182 false 1 ([.nilFunc]) := ⟨by kernel_rfl, by kernel_rfl, by kernel_rfl⟩
instance : Ty Tryz.prog 183 false 1 ([.nilFunc]) := ⟨by kernel_rfl, by kernel_rfl, by kernel_rfl⟩
instance : Ty Tryz.prog 184 false 1 ([.nilFunc]) := ⟨by kernel_rfl, by kernel_rfl, by kernel_rfl⟩
instance : Ty Tryz.prog 185 false 1 ([.nilFunc]) := ⟨by kernel_rfl, by kernel_rfl, by kernel_rfl⟩
instance : Ty Tryz.prog 186 false 1 ([.nilFunc]) := ⟨by kernel_rfl, by kernel_rfl, by kernel_rfl⟩
instance : Ty Tryz.prog 187 false 1 ([.nilFunc]) := ⟨by kernel_rfl, by kernel_rfl, by kernel_rfl⟩
instance : Ty Tryz.prog 188 false 1 ([.nilFunc]) := ⟨by kernel_rfl, by kernel_rfl, by kernel_rfl⟩
instance : Ty Tryz.prog 189 false 1 ([.nilFunc]) := ⟨by kernel_rfl, by kernel_rfl, by kernel_rfl⟩
instance : Ty Tryz.prog 190 false 1 ([.nilFunc]) := ⟨by kernel_rfl, by kernel_rfl, by kernel_rfl⟩
instance : Ty Tryz.prog 191 false 1 ([.nilFunc]) := ⟨by kernel_rfl, by kernel_rfl, by kernel_rfl⟩
instance : Ty Tryz.prog 192 false 1 ([.pointer none]) := ⟨by kernel_rfl, by kernel_rfl, by kernel_rfl⟩
instance : Pt Tryz.prog 192 30 := ⟨by kernel_rfl⟩
instance : Ty Tryz.prog 193 false 1 ([.nilFunc]) := ⟨by kernel_rfl, by kernel_rfl, by kernel_rfl⟩
instance : Ty Tryz.prog 194 false 1 ([.nilFunc]) := ⟨by kernel_rfl, by kernel_rfl, by kernel_rfl⟩
instance : Ty Tryz.prog 195 false 1 ([.nilFunc]) := ⟨by kernel_rfl, by kernel_rfl, by kernel_rfl⟩
instance : Ty Tryz.prog 196 false 1 ([.pointer none]) := ⟨by kernel_rfl, by kernel_rfl, by kernel_rfl⟩
instance : Pt Tryz.prog 196 58 := ⟨by kernel_rfl⟩
instance : Ty Tryz.prog 197 false 1 ([.nilFunc]) := ⟨by kernel_rfl, by kernel_rfl, by kernel_rfl⟩
instance : Ty Tryz.prog 198 false 1 ([.nilFunc]) := ⟨by kernel_rfl, by kernel_rfl, by kernel_rfl⟩
instance : Ty Tryz.prog 199 false 1 ([.slice none 0 0]) := ⟨by kernel_rfl, by kernel_rfl, by kernel_rfl⟩
instance : Sl Tryz.prog 199 9 16 := ⟨by kernel_rfl, by kernel_rfl⟩
instance : Ty Tryz.prog 200 false 1 ([.nilFunc]) := ⟨by kernel_rfl, by kernel_rfl, by kernel_rfl⟩
instance : Ty Tryz.prog 201 false 1 ([.nilFunc]) := ⟨by kernel_rfl, by kernel_rfl, by kernel_rfl⟩
instance : Ty Tryz.prog 202 false 1 ([.nilFunc]) := ⟨by kernel_rfl, by kernel_rfl, by kernel_rfl⟩
instance : Ty Tryz.prog 203 false 1 ([.nilFunc]) := ⟨by kernel_rfl, by kernel_rfl, by kernel_rfl⟩
instance : Ty Tryz.prog 204 false 1 ([.nilFunc]) := ⟨by kernel_rfl, by kernel_rfl, by kernel_rfl⟩
instance : Ty Tryz.prog 205 false 1 ([.int .u64 0]) := ⟨by kernel_rfl, by kernel_rfl, by kernel_rfl⟩
instance : Ik Tryz.prog 205 .u64 := ⟨by kernel_rfl⟩
instance : Ty Tryz.prog 206 false 1 ([.nilFunc]) := ⟨by kernel_rfl, by kernel_rfl, by kernel_rfl⟩
instance : Ty Tryz.prog 207 false 1 ([.nilFunc]) := ⟨by kernel_rfl, by kernel_rfl, by kernel_rfl⟩
instance : Ty Tryz.prog 208 false 1 ([.nilFunc]) := ⟨by kernel_rfl, by kernel_rfl, by kernel_rfl⟩
instance : Ty Tryz.prog 209 false 1 ([.nilFunc]) := ⟨by kernel_rfl, by kernel_rfl, by kernel_rfl⟩
instance : Ty Tryz.prog 210 false 1 ([.nilFunc]) := ⟨by kernel_rfl, by kernel_rfl, by kernel_rfl⟩
instance : Ty Tryz.prog 211 false 1 ([.nilFunc]) := ⟨by kernel_rfl, by kernel_rfl, by kernel_rfl⟩
instance : Ty Tryz.prog 212 false 1 ([.nilFunc]) := ⟨by kernel_rfl, by kernel_rfl, by kernel_rfl⟩
instance : Ty Tryz.prog 213 false 1 ([.nilFunc]) := ⟨by kernel_rfl, by kernel_rfl, by kernel_rfl⟩
instance : Ty Tryz.prog 214 false 1 ([.nilFunc]) := ⟨by kernel_rfl, by kernel_rfl, by kernel_rfl⟩
instance : Ty Tryz.prog 215 false 1 ([.nilFunc]) := ⟨by kernel_rfl, by kernel_rfl, by kernel_rfl⟩
instance : Ty Tryz.prog 216 false 1 ([.nilFunc]) := ⟨by kernel_rfl, by kernel_rfl, by kernel_rfl⟩
instance : Ty Tryz.prog 217 false 1 ([.nilFunc]) := ⟨by kernel_rfl, by kernel_rfl, by kernel_rfl⟩
instance : Ty Tryz.prog 218 false 1 ([.nilFunc]) := ⟨by kernel_rfl, by kernel_rfl, by kernel_rfl⟩
instance : Ty Tryz.prog 219 false 1 ([.nilFunc]) := ⟨by kernel_rfl, by kernel_rfl, by kernel_rfl⟩
instance : Ty Tryz.prog 220 false 1 ([.nilFunc]) := ⟨by kernel_rfl, by kernel_rfl, by kernel_rfl⟩
instance : Ty Tryz.prog 221 false 1 ([.nilFunc]) := ⟨by kernel_rfl, by kernel_rfl, by kernel_rfl⟩
instance : Ty Tryz.prog 222 false 1 ([.nilFunc]) := ⟨by kernel_rfl, by kernel_rfl, by kernel_rfl⟩
instance : Ty Tryz.prog 223 false 1 ([.nilFunc]) := ⟨by kernel_rfl, by kernel_rfl, by kernel_rfl⟩
instance : Ty Tryz.prog 224 false 1 ([.nilFunc]) := ⟨by kernel_rfl, by kernel_rfl, by kernel_rfl⟩
instance : Ty Tryz.prog 225 false 1 ([.nilFunc]) := ⟨by kernel_rfl, by kernel_rfl, by kernel_rfl⟩
instance : Ty Tryz.prog 226 false 1 ([.slice none 0 0]) := ⟨by kernel_rfl, by kernel_rfl, by kernel_rfl⟩
instance : Sl Tryz.prog 226 25 8 := ⟨by kernel_rfl, by kernel_rfl⟩
instance : Ty Tryz.prog 227 false 1 ([.nilFunc]) := ⟨by kernel_rfl, by kernel_rfl, by kernel_rfl⟩
instance : Ty Tryz.prog 228 false 1 ([.nilFunc]) := ⟨by kernel_rfl, by kernel_rfl, by kernel_rfl⟩
instance : Ty Tryz.prog 229 false 1 ([.nilFunc]) := ⟨by kernel_rfl, by kernel_rfl, by kernel_rfl⟩
instance : Ty Tryz.prog 230 false 1 ([.nilFunc]) := ⟨by kernel_rfl, by kernel_rfl, by kernel_rfl⟩
instance : Ty Tryz.prog 231 false 1 ([.nilFunc]) := ⟨by kernel_rfl, by kernel_rfl, by kernel_rfl⟩
instance : Ty Tryz.prog 232 false 1 ([.nilFunc]) := ⟨by kernel_rfl, by kernel_rfl, by kernel_rfl⟩
instance : Ty Tryz.prog 233 false 1 ([.nilFunc]) := ⟨by kernel_rfl, by kernel_rfl, by kernel_rfl⟩
instance : Ty Tryz.prog 234 true 4 ([.pointer none, .pointer none, .pointer none, .string ⟨#[]⟩]) := ⟨by kernel_rfl, by kernel_rfl, by kernel_rfl⟩
instance : StP Tryz.prog 234 [(0, 1), (1, 1), (2, 1), (3, 1)] := ⟨by kernel_rfl⟩
instance : FldT Tryz.prog 234 0 0 false 1 := ⟨by kernel_rfl, rfl⟩
instance : FldT Tryz.prog 234 1 1 false 1 := ⟨by kernel_rfl, rfl⟩
instance : FldT Tryz.prog 234 2 2 false 1 := ⟨by kernel_rfl, rfl⟩
instance : FldT Tryz.prog 234 3 3 false 1 := ⟨by kernel_rfl, rfl⟩
instance : Ty Tryz.prog 235 true 4 ([.pointer none, .pointer none, .pointer none, .string ⟨#[]⟩]) := ⟨by kernel_rfl, by kernel_rfl, by kernel_rfl⟩
instance : StP Tryz.prog 235 [(0, 1), (1, 1), (2, 1), (3, 1)] := ⟨by kernel_rfl⟩
instance : FldT Tryz.prog 235 0 0 false 1 := ⟨by kernel_rfl, rfl⟩
instance : FldT Tryz.prog 235 1 1 false 1 := ⟨by kernel_rfl, rfl⟩
instance : FldT Tryz.prog 235 2 2 false 1 := ⟨by kernel_rfl, rfl⟩
instance : FldT Tryz.prog 235 3 3 false 1 := ⟨by kernel_rfl, rfl⟩
instance : Ty Tryz.prog 236 true 0 ([]) := ⟨by kernel_rfl, by kernel_rfl, by kernel_rfl⟩
instance : Ar Tryz.prog 236 0 16 := ⟨by kernel_rfl⟩
instance : Ty Tryz.prog 237 true 0 ([]) := ⟨by kernel_rfl, by kernel_rfl, by kernel_rfl⟩
instance : StP Tryz.prog 237 [(0, 0)] := ⟨by kernel_rfl⟩
instance : Ty Tryz.prog 238 true 0 ([]) := ⟨by kernel_rfl, by kernel_rfl, by kernel_rfl⟩
instance : StP Tryz.prog 238 [(0, 0)] := ⟨by kernel_rfl⟩
instance : Ty Tryz.prog 239 false 1 ([.int .u8 0]) := ⟨by kernel_rfl, by kernel_rfl, by kernel_rfl⟩
instance : Ik Tryz.prog 239 .u8 := ⟨by kernel_rfl⟩
instance : Ty Tryz.prog 240 false 1 ([.int .u8 0]) := ⟨by kernel_rfl, by kernel_rfl, by kernel_rfl⟩
instance : Ik Tryz.prog 240 .u8 := ⟨by kernel_rfl⟩
instance : Ty Tryz.prog 241 false 1 ([.nilFunc]) := ⟨by kernel_rfl, by kernel_rfl, by kernel_rfl⟩
instance : Ty Tryz.prog 242 false 1 ([.pointer none]) := ⟨by kernel_rfl, by kernel_rfl, by kernel_rfl⟩
instance : Pt Tryz.prog 242 5 := ⟨by kernel_rfl⟩
instance : Ty Tryz.prog 243 false 1 ([.int .i32 0]) := ⟨by kernel_rfl, by kernel_rfl, by kernel_rfl⟩
instance : Ik Tryz.prog 243 .i32 := ⟨by kernel_rfl⟩
instance : Ty Tryz.prog 244 false 1 ([.int .i32 0]) := ⟨by kernel_rfl, by kernel_rfl, by kernel_rfl⟩
instance : Ik Tryz.prog 244 .i32 := ⟨by kernel_rfl⟩
instance : Ty Tryz.prog 245 true 11 ([.int .u64 0, .int .u64 0, .int .u32 0, .int .u8 0, .int .u8 0, .int .u8 0, .int .u8 0, .nilFunc, .pointer none, .int .i32 0, .int .i32 0]) := ⟨by kernel_rfl, by kernel_rfl, by kernel_rfl⟩
instance : StP Tryz.prog 245 [(0, 1), (1, 1), (2, 1), (3, 1), (4, 1), (5, 1), (6, 1), (7, 1), (8, 1), (9, 1), (10, 1)] := ⟨by kernel_rfl⟩
instance : FldT Tryz.prog 245 0 0 false 1 := ⟨by kernel_rfl, rfl⟩
instance : FldT Tryz.prog 245 1 1 false 1 := ⟨by kernel_rfl, rfl⟩
instance : FldT Tryz.prog 245 2 2 false 1 := ⟨by kernel_rfl, rfl⟩
instance : FldT Tryz.prog 245 3 3 false 1 := ⟨by kernel_rfl, rfl⟩
instance : FldT Tryz.prog 245 4 4 false 1 := ⟨by kernel_rfl, rfl⟩
instance : FldT Tryz.prog 245 5 5 false 1 := ⟨by kernel_rfl, rfl⟩
instance : FldT Tryz.prog 245 6 6 false 1 := ⟨by kernel_rfl, rfl⟩
instance : FldT Tryz.prog 245 7 7 false 1 := ⟨by kernel_rfl, rfl⟩
instance : FldT Tryz.prog 245 8 8 false 1 := ⟨by kernel_rfl, rfl⟩
instance : FldT Tryz.prog 245 9 9 false 1 := ⟨by kernel_rfl, rfl⟩
instance : FldT Tryz.prog 245 10 10 false 1 := ⟨by kernel_rfl, rfl⟩
instance : Ty Tryz.prog 246 true 11 ([.int .u64 0, .int .u64 0, .int .u32 0, .int .u8 0, .int .u8 0, .int .u8 0, .int .u8 0, .nilFunc, .pointer none, .int .i32 0, .int .i32 0]) := ⟨by kernel_rfl, by kernel_rfl, by kernel_rfl⟩
instance : StP Tryz.prog 246 [(0, 1), (1, 1), (2, 1), (3, 1), (4, 1), (5, 1), (6, 1), (7, 1), (8, 1), (9, 1), (10, 1)] := ⟨by kernel_rfl⟩
instance : FldT Tryz.prog 246 0 0 false 1 := ⟨by kernel_rfl, rfl⟩
instance : FldT Tryz.prog 246 1 1 false 1 := ⟨by kernel_rfl, rfl⟩
instance : FldT Tryz.prog 246 2 2 false 1 := ⟨by kernel_rfl, rfl⟩
instance : FldT Tryz.prog 246 3 3 false 1 := ⟨by kernel_rfl, rfl⟩
instance : FldT Tryz.prog 246 4 4 false 1 := ⟨by kernel_rfl, rfl⟩
instance : FldT Tryz.prog 246 5 5 false 1 := ⟨by kernel_rfl, rfl⟩
instance : FldT Tryz.prog 246 6 6 false 1 := ⟨by kernel_rfl, rfl⟩
instance : FldT Tryz.prog 246 7 7 false 1 := ⟨by kernel_rfl, rfl⟩
instance : FldT Tryz.prog 246 8 8 false 1 := ⟨by kernel_rfl, rfl⟩
instance : FldT Tryz.prog 246 9 9 false 1 := ⟨by kernel_rfl, rfl⟩
instance : FldT Tryz.prog 246 10 10 false 1 := ⟨by kernel_rfl, rfl⟩
-- narrows/narrowslaw12.EscrowRuns
instance : Enters Tryz.prog 3 := enters_of' Tryz.func3 (by kernel_rfl) (by kernel_rfl)
-- narrows/narrowslaw12.EscrowLocks
instance : Enters Tryz.prog 4 := enters_of' Tryz.func4 (by kernel_rfl) (by kernel_rfl)
-- narrows/narrowslaw13.ChainWaits
instance : Enters Tryz.prog 5 := enters_of' Tryz.func5 (by kernel_rfl) (by kernel_rfl)
-- narrows/narrowslaw13.ChainStays
instance : Enters Tryz.prog 6 := enters_of' Tryz.func6 (by kernel_rfl) (by kernel_rfl)
-- narrows/narrowslaw13.ChainRuns
instance : Enters Tryz.prog 7 := enters_of' Tryz.func7 (by kernel_rfl) (by kernel_rfl)
-- narrows/narrowslaw13.ChainNobody
instance : Enters Tryz.prog 8 := enters_of' Tryz.func8 (by kernel_rfl) (by kernel_rfl)
-- narrows/narrowslaw40.BuilderBuilds
instance : Enters Tryz.prog 9 := enters_of' Tryz.func9 (by kernel_rfl) (by kernel_rfl)
-- narrows/narrowslaw40.BuilderAll
instance : Enters Tryz.prog 10 := enters_of' Tryz.func10 (by kernel_rfl) (by kernel_rfl)
-- narrows/narrowslaw12.alive
instance : Enters Tryz.prog 11 := enters_of' Tryz.func11 (by kernel_rfl) (by kernel_rfl)
-- narrows/escrow.Genesis
instance : Enters Tryz.prog 12 := enters_of' Tryz.func12 (by kernel_rfl) (by kernel_rfl)
-- narrows/narrowslaw12.plain
instance : Enters Tryz.prog 13 := enters_of' Tryz.func13 (by kernel_rfl) (by kernel_rfl)
-- narrows/escrow.Rise
instance : Enters Tryz.prog 14 := enters_of' Tryz.func14 (by kernel_rfl) (by kernel_rfl)
-- narrows/escrow.Apply
instance : Enters Tryz.prog 15 := enters_of' Tryz.func15 (by kernel_rfl) (by kernel_rfl)
-- narrows/narrowsref12.Apply
instance : Enters Tryz.prog 16 := enters_of' Tryz.func16 (by kernel_rfl) (by kernel_rfl)
-- narrows/narrowslaw12.same
instance : Enters Tryz.prog 17 := enters_of' Tryz.func17 (by kernel_rfl) (by kernel_rfl)
-- narrows/narrowslaw12.num
instance : Enters Tryz.prog 18 := enters_of' Tryz.func18 (by kernel_rfl) (by kernel_rfl)
-- narrows/narrowslaw12.side
instance : Enters Tryz.prog 19 := enters_of' Tryz.func19 (by kernel_rfl) (by kernel_rfl)
-- narrows/escrow.Status
instance : Enters Tryz.prog 20 := enters_of' Tryz.func20 (by kernel_rfl) (by kernel_rfl)
-- narrows/deal.Key
instance : Enters Tryz.prog 21 := enters_of' Tryz.func21 (by kernel_rfl) (by kernel_rfl)
-- narrows/narrowsref12.Status
instance : Enters Tryz.prog 22 := enters_of' Tryz.func22 (by kernel_rfl) (by kernel_rfl)
-- narrows/narrowsref06.Key
instance : Enters Tryz.prog 23 := enters_of' Tryz.func23 (by kernel_rfl) (by kernel_rfl)
-- narrows/narrowslaw13.alive
instance : Enters Tryz.prog 24 := enters_of' Tryz.func24 (by kernel_rfl) (by kernel_rfl)
-- narrows/chain.New
instance : Enters Tryz.prog 25 := enters_of' Tryz.func25 (by kernel_rfl) (by kernel_rfl)
-- (*narrows/chain.Chain).Submit
instance : Enters Tryz.prog 26 := enters_of' Tryz.func26 (by kernel_rfl) (by kernel_rfl)
-- (*narrows/chain.Chain).Include
instance : Enters Tryz.prog 27 := enters_of' Tryz.func27 (by kernel_rfl) (by kernel_rfl)
-- (*narrows/chain.Chain).Pool
instance : Enters Tryz.prog 28 := enters_of' Tryz.func28 (by kernel_rfl) (by kernel_rfl)
-- (*narrows/chain.Chain).Events
instance : Enters Tryz.prog 29 := enters_of' Tryz.func29 (by kernel_rfl) (by kernel_rfl)
-- (*narrows/chain.Chain).Waits
instance : Enters Tryz.prog 30 := enters_of' Tryz.func30 (by kernel_rfl) (by kernel_rfl)
-- (*narrows/chain.Chain).Time
instance : Enters Tryz.prog 31 := enters_of' Tryz.func31 (by kernel_rfl) (by kernel_rfl)
-- (*narrows/chain.Chain).Rise
instance : Enters Tryz.prog 32 := enters_of' Tryz.func32 (by kernel_rfl) (by kernel_rfl)
-- (*narrows/chain.Chain).State
instance : Enters Tryz.prog 33 := enters_of' Tryz.func33 (by kernel_rfl) (by kernel_rfl)
-- narrows/txs.Check
instance : Enters Tryz.prog 34 := enters_of' Tryz.func34 (by kernel_rfl) (by kernel_rfl)
-- narrows/narrowslaw13.has
instance : Enters Tryz.prog 35 := enters_of' Tryz.func35 (by kernel_rfl) (by kernel_rfl)
-- narrows/narrowslaw13.same
instance : Enters Tryz.prog 36 := enters_of' Tryz.func36 (by kernel_rfl) (by kernel_rfl)
-- (*narrows/chain.Chain).Next
instance : Enters Tryz.prog 37 := enters_of' Tryz.func37 (by kernel_rfl) (by kernel_rfl)
-- narrows/narrowslaw13.next
instance : Enters Tryz.prog 38 := enters_of' Tryz.func38 (by kernel_rfl) (by kernel_rfl)
-- narrows/narrowslaw40.alive
instance : Enters Tryz.prog 39 := enters_of' Tryz.func39 (by kernel_rfl) (by kernel_rfl)
-- narrows/builder.Build
instance : Enters Tryz.prog 40 := enters_of' Tryz.func40 (by kernel_rfl) (by kernel_rfl)
-- narrows/builder.Order
instance : Enters Tryz.prog 41 := enters_of' Tryz.func41 (by kernel_rfl) (by kernel_rfl)
-- narrows/builder.Stuck
instance : Enters Tryz.prog 42 := enters_of' Tryz.func42 (by kernel_rfl) (by kernel_rfl)
-- (narrows/purse.Book).Of
instance : Enters Tryz.prog 43 := enters_of' Tryz.func43 (by kernel_rfl) (by kernel_rfl)
-- narrows/purse.Even
instance : Enters Tryz.prog 44 := enters_of' Tryz.func44 (by kernel_rfl) (by kernel_rfl)
-- slices.Clone[[]narrows/escrow.Lock,narrows/escrow.Lock]
instance : Enters Tryz.prog 45 := enters_of' Tryz.func45 (by kernel_rfl) (by kernel_rfl)
-- (narrows/purse.Book).Take
instance : Enters Tryz.prog 46 := enters_of' Tryz.func46 (by kernel_rfl) (by kernel_rfl)
-- narrows/wide.Of
instance : Enters Tryz.prog 47 := enters_of' Tryz.func47 (by kernel_rfl) (by kernel_rfl)
-- narrows/wide.Add
instance : Enters Tryz.prog 48 := enters_of' Tryz.func48 (by kernel_rfl) (by kernel_rfl)
-- (narrows/escrow.State).try
instance : Enters Tryz.prog 49 := enters_of' Tryz.func49 (by kernel_rfl) (by kernel_rfl)
-- narrows/narrowsref06.Tx
instance : Enters Tryz.prog 50 := enters_of' Tryz.func50 (by kernel_rfl) (by kernel_rfl)
-- narrows/narrowsref12.less
instance : Enters Tryz.prog 51 := enters_of' Tryz.func51 (by kernel_rfl) (by kernel_rfl)
-- narrows/narrowsref01.Add
instance : Enters Tryz.prog 52 := enters_of' Tryz.func52 (by kernel_rfl) (by kernel_rfl)
-- narrows/narrowsref12.prepare
instance : Enters Tryz.prog 53 := enters_of' Tryz.func53 (by kernel_rfl) (by kernel_rfl)
-- narrows/narrowsref12.fulfil
instance : Enters Tryz.prog 54 := enters_of' Tryz.func54 (by kernel_rfl) (by kernel_rfl)
-- narrows/narrowsref12.cancel
instance : Enters Tryz.prog 55 := enters_of' Tryz.func55 (by kernel_rfl) (by kernel_rfl)
-- narrows/narrowsref12.plain
instance : Enters Tryz.prog 56 := enters_of' Tryz.func56 (by kernel_rfl) (by kernel_rfl)
-- (*narrows/escrow.State).place
instance : Enters Tryz.prog 57 := enters_of' Tryz.func57 (by kernel_rfl) (by kernel_rfl)
-- narrows/deal.Check
instance : Enters Tryz.prog 58 := enters_of' Tryz.func58 (by kernel_rfl) (by kernel_rfl)
-- narrows/field.New
instance : Enters Tryz.prog 59 := enters_of' Tryz.func59 (by kernel_rfl) (by kernel_rfl)
-- narrows/deal.Put
instance : Enters Tryz.prog 60 := enters_of' Tryz.func60 (by kernel_rfl) (by kernel_rfl)
-- (*narrows/field.Out).Done
instance : Enters Tryz.prog 61 := enters_of' Tryz.func61 (by kernel_rfl) (by kernel_rfl)
-- narrows/hash.Text
instance : Enters Tryz.prog 62 := enters_of' Tryz.func62 (by kernel_rfl) (by kernel_rfl)
-- narrows/narrowsref12.place
instance : Enters Tryz.prog 63 := enters_of' Tryz.func63 (by kernel_rfl) (by kernel_rfl)
-- narrows/narrowsref06.Inv
instance : Enters Tryz.prog 64 := enters_of' Tryz.func64 (by kernel_rfl) (by kernel_rfl)
-- narrows/narrowsref01.Sum
instance : Enters Tryz.prog 65 := enters_of' Tryz.func65 (by kernel_rfl) (by kernel_rfl)
-- narrows/narrowsref06.PutInv
instance : Enters Tryz.prog 66 := enters_of' Tryz.func66 (by kernel_rfl) (by kernel_rfl)
-- (*narrows/chain.Chain).is
instance : Enters Tryz.prog 67 := enters_of' Tryz.func67 (by kernel_rfl) (by kernel_rfl)
-- slices.Contains[[]narrows/api.Tx,narrows/api.Tx]
instance : Enters Tryz.prog 68 := enters_of' Tryz.func68 (by kernel_rfl) (by kernel_rfl)
-- slices.Delete[[]narrows/api.Tx,narrows/api.Tx]
instance : Enters Tryz.prog 69 := enters_of' Tryz.func69 (by kernel_rfl) (by kernel_rfl)
-- slices.Clone[[]narrows/api.Tx,narrows/api.Tx]
instance : Enters Tryz.prog 70 := enters_of' Tryz.func70 (by kernel_rfl) (by kernel_rfl)
-- slices.Clone[[]narrows/api.Event,narrows/api.Event]
instance : Enters Tryz.prog 71 := enters_of' Tryz.func71 (by kernel_rfl) (by kernel_rfl)
-- slices.ContainsFunc[[]narrows/api.Tx,narrows/api.Tx]
instance : Enters Tryz.prog 72 := enters_of' Tryz.func72 (by kernel_rfl) (by kernel_rfl)
-- (*narrows/chain.Chain).Waits$1
instance : Enters Tryz.prog 73 := enters_of' Tryz.func73 (by kernel_rfl) (by kernel_rfl)
-- narrows/txs.route
instance : Enters Tryz.prog 74 := enters_of' Tryz.func74 (by kernel_rfl) (by kernel_rfl)
-- narrows/deal.Sound
instance : Enters Tryz.prog 75 := enters_of' Tryz.func75 (by kernel_rfl) (by kernel_rfl)
-- (*narrows/chain.Chain).Next$1
instance : Enters Tryz.prog 76 := enters_of' Tryz.func76 (by kernel_rfl) (by kernel_rfl)
-- narrows/builder.one
instance : Enters Tryz.prog 77 := enters_of' Tryz.func77 (by kernel_rfl) (by kernel_rfl)
-- narrows/builder.ready
instance : Enters Tryz.prog 78 := enters_of' Tryz.func78 (by kernel_rfl) (by kernel_rfl)
-- slices.Contains[[]int,int]
instance : Enters Tryz.prog 79 := enters_of' Tryz.func79 (by kernel_rfl) (by kernel_rfl)
-- narrows/purse.at
instance : Enters Tryz.prog 80 := enters_of' Tryz.func80 (by kernel_rfl) (by kernel_rfl)
-- narrows/wide.Sub
instance : Enters Tryz.prog 81 := enters_of' Tryz.func81 (by kernel_rfl) (by kernel_rfl)
-- (narrows/escrow.State).try$1
instance : Enters Tryz.prog 83 := enters_of' Tryz.func83 (by kernel_rfl) (by kernel_rfl)
-- (*narrows/escrow.State).do
instance : Enters Tryz.prog 84 := enters_of' Tryz.func84 (by kernel_rfl) (by kernel_rfl)
-- narrows/narrowsref06.Var
instance : Enters Tryz.prog 85 := enters_of' Tryz.func85 (by kernel_rfl) (by kernel_rfl)
-- narrows/narrowsref01.Sub
instance : Enters Tryz.prog 86 := enters_of' Tryz.func86 (by kernel_rfl) (by kernel_rfl)
-- narrows/narrowsref01.Digits
instance : Enters Tryz.prog 87 := enters_of' Tryz.func87 (by kernel_rfl) (by kernel_rfl)
-- narrows/narrowsref01.Made
instance : Enters Tryz.prog 88 := enters_of' Tryz.func88 (by kernel_rfl) (by kernel_rfl)
-- narrows/narrowsref12.held
instance : Enters Tryz.prog 89 := enters_of' Tryz.func89 (by kernel_rfl) (by kernel_rfl)
-- narrows/narrowsref06.Digest
instance : Enters Tryz.prog 90 := enters_of' Tryz.func90 (by kernel_rfl) (by kernel_rfl)
-- narrows/narrowsref12.open
instance : Enters Tryz.prog 91 := enters_of' Tryz.func91 (by kernel_rfl) (by kernel_rfl)
-- narrows/narrowsref12.signed
instance : Enters Tryz.prog 92 := enters_of' Tryz.func92 (by kernel_rfl) (by kernel_rfl)
-- narrows/narrowsref12.more
instance : Enters Tryz.prog 93 := enters_of' Tryz.func93 (by kernel_rfl) (by kernel_rfl)
-- narrows/narrowsref12.ended
instance : Enters Tryz.prog 94 := enters_of' Tryz.func94 (by kernel_rfl) (by kernel_rfl)
-- slices.IndexFunc[[]narrows/escrow.Lock,narrows/escrow.Lock]
instance : Enters Tryz.prog 95 := enters_of' Tryz.func95 (by kernel_rfl) (by kernel_rfl)
-- (*narrows/escrow.State).place$1
instance : Enters Tryz.prog 96 := enters_of' Tryz.func96 (by kernel_rfl) (by kernel_rfl)
-- narrows/deal.in
instance : Enters Tryz.prog 97 := enters_of' Tryz.func97 (by kernel_rfl) (by kernel_rfl)
-- (*narrows/field.Out).Text
instance : Enters Tryz.prog 98 := enters_of' Tryz.func98 (by kernel_rfl) (by kernel_rfl)
-- (*narrows/field.Out).Num
instance : Enters Tryz.prog 99 := enters_of' Tryz.func99 (by kernel_rfl) (by kernel_rfl)
-- narrows/blob.Cat
instance : Enters Tryz.prog 100 := enters_of' Tryz.func100 (by kernel_rfl) (by kernel_rfl)
-- narrows/hash.Sum
instance : Enters Tryz.prog 101 := enters_of' Tryz.func101 (by kernel_rfl) (by kernel_rfl)
-- narrows/narrowsref01.Over
instance : Enters Tryz.prog 102 := enters_of' Tryz.func102 (by kernel_rfl) (by kernel_rfl)
-- narrows/narrowsref01.table
instance : Enters Tryz.prog 103 := enters_of' Tryz.func103 (by kernel_rfl) (by kernel_rfl)
-- narrows/narrowsref06.Text
instance : Enters Tryz.prog 104 := enters_of' Tryz.func104 (by kernel_rfl) (by kernel_rfl)
-- narrows/narrowsref06.Num
instance : Enters Tryz.prog 105 := enters_of' Tryz.func105 (by kernel_rfl) (by kernel_rfl)
-- slices.Index[[]narrows/api.Tx,narrows/api.Tx]
instance : Enters Tryz.prog 106 := enters_of' Tryz.func106 (by kernel_rfl) (by kernel_rfl)
-- slices.IndexFunc[[]narrows/api.Tx,narrows/api.Tx]
instance : Enters Tryz.prog 107 := enters_of' Tryz.func107 (by kernel_rfl) (by kernel_rfl)
-- slices.Index[[]int,int]
instance : Enters Tryz.prog 108 := enters_of' Tryz.func108 (by kernel_rfl) (by kernel_rfl)
-- (narrows/purse.Book).Move
instance : Enters Tryz.prog 110 := enters_of' Tryz.func110 (by kernel_rfl) (by kernel_rfl)
-- narrows/escrow.check
instance : Enters Tryz.prog 111 := enters_of' Tryz.func111 (by kernel_rfl) (by kernel_rfl)
-- (*narrows/escrow.State).store
instance : Enters Tryz.prog 112 := enters_of' Tryz.func112 (by kernel_rfl) (by kernel_rfl)
-- (*narrows/escrow.State).draw
instance : Enters Tryz.prog 113 := enters_of' Tryz.func113 (by kernel_rfl) (by kernel_rfl)
-- (*narrows/escrow.State).prepare
instance : Enters Tryz.prog 114 := enters_of' Tryz.func114 (by kernel_rfl) (by kernel_rfl)
-- (*narrows/escrow.State).fulfil
instance : Enters Tryz.prog 115 := enters_of' Tryz.func115 (by kernel_rfl) (by kernel_rfl)
-- (*narrows/escrow.State).cancel
instance : Enters Tryz.prog 116 := enters_of' Tryz.func116 (by kernel_rfl) (by kernel_rfl)
-- narrows/narrowsref01.Cmp
instance : Enters Tryz.prog 117 := enters_of' Tryz.func117 (by kernel_rfl) (by kernel_rfl)
-- narrows/narrowsref06.PutVar
instance : Enters Tryz.prog 118 := enters_of' Tryz.func118 (by kernel_rfl) (by kernel_rfl)
-- narrows/narrowsref04.Verify
instance : Enters Tryz.prog 119 := enters_of' Tryz.func119 (by kernel_rfl) (by kernel_rfl)
-- narrows/narrowsref06.Payload
instance : Enters Tryz.prog 120 := enters_of' Tryz.func120 (by kernel_rfl) (by kernel_rfl)
-- (*narrows/field.Out).put
instance : Enters Tryz.prog 121 := enters_of' Tryz.func121 (by kernel_rfl) (by kernel_rfl)
-- narrows/blob.Num
instance : Enters Tryz.prog 122 := enters_of' Tryz.func122 (by kernel_rfl) (by kernel_rfl)
-- slices.Concat[[]byte,byte]
instance : Enters Tryz.prog 123 := enters_of' Tryz.func123 (by kernel_rfl) (by kernel_rfl)
-- narrows/hash.begin
instance : Enters Tryz.prog 124 := enters_of' Tryz.func124 (by kernel_rfl) (by kernel_rfl)
-- narrows/hash.keys
instance : Enters Tryz.prog 125 := enters_of' Tryz.func125 (by kernel_rfl) (by kernel_rfl)
-- slices.Chunk[[]byte,byte]
instance : Enters Tryz.prog 126 := enters_of' Tryz.func126 (by kernel_rfl) (by kernel_rfl)
-- narrows/hash.Pad
instance : Enters Tryz.prog 127 := enters_of' Tryz.func127 (by kernel_rfl) (by kernel_rfl)
-- narrows/hash.schedule
instance : Enters Tryz.prog 128 := enters_of' Tryz.func128 (by kernel_rfl) (by kernel_rfl)
-- (narrows/hash.eight).round
instance : Enters Tryz.prog 129 := enters_of' Tryz.func129 (by kernel_rfl) (by kernel_rfl)
-- narrows/narrowsref01.Pad
instance : Enters Tryz.prog 130 := enters_of' Tryz.func130 (by kernel_rfl) (by kernel_rfl)
-- narrows/narrowsref01.block
instance : Enters Tryz.prog 131 := enters_of' Tryz.func131 (by kernel_rfl) (by kernel_rfl)
-- narrows/narrowsref01.Cat
instance : Enters Tryz.prog 132 := enters_of' Tryz.func132 (by kernel_rfl) (by kernel_rfl)
-- narrows/narrowsref01.Num
instance : Enters Tryz.prog 133 := enters_of' Tryz.func133 (by kernel_rfl) (by kernel_rfl)
-- narrows/narrowsref06.put
instance : Enters Tryz.prog 134 := enters_of' Tryz.func134 (by kernel_rfl) (by kernel_rfl)
-- (narrows/purse.Book).Give
instance : Enters Tryz.prog 135 := enters_of' Tryz.func135 (by kernel_rfl) (by kernel_rfl)
-- narrows/escrow.take
instance : Enters Tryz.prog 136 := enters_of' Tryz.func136 (by kernel_rfl) (by kernel_rfl)
-- narrows/escrow.put
instance : Enters Tryz.prog 137 := enters_of' Tryz.func137 (by kernel_rfl) (by kernel_rfl)
-- (*narrows/escrow.State).hold
instance : Enters Tryz.prog 138 := enters_of' Tryz.func138 (by kernel_rfl) (by kernel_rfl)
-- narrows/escrow.need
instance : Enters Tryz.prog 139 := enters_of' Tryz.func139 (by kernel_rfl) (by kernel_rfl)
-- (*narrows/escrow.State).vault
instance : Enters Tryz.prog 140 := enters_of' Tryz.func140 (by kernel_rfl) (by kernel_rfl)
-- (*narrows/escrow.State).free
instance : Enters Tryz.prog 141 := enters_of' Tryz.func141 (by kernel_rfl) (by kernel_rfl)
-- narrows/deal.Digest
instance : Enters Tryz.prog 142 := enters_of' Tryz.func142 (by kernel_rfl) (by kernel_rfl)
-- (*narrows/escrow.State).lock
instance : Enters Tryz.prog 143 := enters_of' Tryz.func143 (by kernel_rfl) (by kernel_rfl)
-- narrows/escrow.signed
instance : Enters Tryz.prog 144 := enters_of' Tryz.func144 (by kernel_rfl) (by kernel_rfl)
-- narrows/narrowsref06.Wide
instance : Enters Tryz.prog 145 := enters_of' Tryz.func145 (by kernel_rfl) (by kernel_rfl)
-- narrows/narrowsref04.Open
instance : Enters Tryz.prog 146 := enters_of' Tryz.func146 (by kernel_rfl) (by kernel_rfl)
-- narrows/narrowsref01.Short
instance : Enters Tryz.prog 147 := enters_of' Tryz.func147 (by kernel_rfl) (by kernel_rfl)
-- slices.Backward[[]byte,byte]
instance : Enters Tryz.prog 148 := enters_of' Tryz.func148 (by kernel_rfl) (by kernel_rfl)
-- slices.Grow[[]byte,byte]
instance : Enters Tryz.prog 149 := enters_of' Tryz.func149 (by kernel_rfl) (by kernel_rfl)
-- slices.Chunk[[]byte,byte]$1
instance : Enters Tryz.prog 150 := enters_of' Tryz.func150 (by kernel_rfl) (by kernel_rfl)
-- slices.Clone[[]byte,byte]
instance : Enters Tryz.prog 151 := enters_of' Tryz.func151 (by kernel_rfl) (by kernel_rfl)
-- narrows/blob.Int
instance : Enters Tryz.prog 152 := enters_of' Tryz.func152 (by kernel_rfl) (by kernel_rfl)
-- narrows/hash.three
instance : Enters Tryz.prog 153 := enters_of' Tryz.func153 (by kernel_rfl) (by kernel_rfl)
-- narrows/narrowsref01.Int
instance : Enters Tryz.prog 154 := enters_of' Tryz.func154 (by kernel_rfl) (by kernel_rfl)
-- narrows/narrowsref01.turn
instance : Enters Tryz.prog 155 := enters_of' Tryz.func155 (by kernel_rfl) (by kernel_rfl)
-- narrows/deal.PutVar
instance : Enters Tryz.prog 156 := enters_of' Tryz.func156 (by kernel_rfl) (by kernel_rfl)
-- narrows/mss.Verify
instance : Enters Tryz.prog 157 := enters_of' Tryz.func157 (by kernel_rfl) (by kernel_rfl)
-- narrows/deal.Payload
instance : Enters Tryz.prog 158 := enters_of' Tryz.func158 (by kernel_rfl) (by kernel_rfl)
-- narrows/narrowsref01.Wide
instance : Enters Tryz.prog 159 := enters_of' Tryz.func159 (by kernel_rfl) (by kernel_rfl)
-- narrows/narrowsref04.Digits
instance : Enters Tryz.prog 160 := enters_of' Tryz.func160 (by kernel_rfl) (by kernel_rfl)
-- narrows/narrowsref04.Walk
instance : Enters Tryz.prog 161 := enters_of' Tryz.func161 (by kernel_rfl) (by kernel_rfl)
-- slices.Backward[[]byte,byte]$1
instance : Enters Tryz.prog 162 := enters_of' Tryz.func162 (by kernel_rfl) (by kernel_rfl)
-- narrows/hash.rotr
instance : Enters Tryz.prog 163 := enters_of' Tryz.func163 (by kernel_rfl) (by kernel_rfl)
-- (*narrows/field.Out).Wide
instance : Enters Tryz.prog 164 := enters_of' Tryz.func164 (by kernel_rfl) (by kernel_rfl)
-- narrows/mss.Leaf
instance : Enters Tryz.prog 165 := enters_of' Tryz.func165 (by kernel_rfl) (by kernel_rfl)
-- narrows/blob.Cut
instance : Enters Tryz.prog 166 := enters_of' Tryz.func166 (by kernel_rfl) (by kernel_rfl)
-- narrows/mss.climb
instance : Enters Tryz.prog 167 := enters_of' Tryz.func167 (by kernel_rfl) (by kernel_rfl)
-- narrows/ots.Open
instance : Enters Tryz.prog 168 := enters_of' Tryz.func168 (by kernel_rfl) (by kernel_rfl)
-- math/bits.RotateLeft32
instance : Enters Tryz.prog 169 := enters_of' Tryz.func169 (by kernel_rfl) (by kernel_rfl)
-- narrows/blob.Wide
instance : Enters Tryz.prog 170 := enters_of' Tryz.func170 (by kernel_rfl) (by kernel_rfl)
-- narrows/mss.join
instance : Enters Tryz.prog 171 := enters_of' Tryz.func171 (by kernel_rfl) (by kernel_rfl)
-- slices.ContainsFunc[[]string,string]
instance : Enters Tryz.prog 172 := enters_of' Tryz.func172 (by kernel_rfl) (by kernel_rfl)
-- narrows/ots.Open$1
instance : Enters Tryz.prog 173 := enters_of' Tryz.func173 (by kernel_rfl) (by kernel_rfl)
-- narrows/ots.closed
instance : Enters Tryz.prog 174 := enters_of' Tryz.func174 (by kernel_rfl) (by kernel_rfl)
-- narrows/ots.Digits
instance : Enters Tryz.prog 175 := enters_of' Tryz.func175 (by kernel_rfl) (by kernel_rfl)
-- slices.Backward[[]uint64,uint64]
instance : Enters Tryz.prog 176 := enters_of' Tryz.func176 (by kernel_rfl) (by kernel_rfl)
-- narrows/hash.Short
instance : Enters Tryz.prog 177 := enters_of' Tryz.func177 (by kernel_rfl) (by kernel_rfl)
-- slices.IndexFunc[[]string,string]
instance : Enters Tryz.prog 178 := enters_of' Tryz.func178 (by kernel_rfl) (by kernel_rfl)
-- narrows/ots.Walk
instance : Enters Tryz.prog 179 := enters_of' Tryz.func179 (by kernel_rfl) (by kernel_rfl)
-- narrows/ots.spread
instance : Enters Tryz.prog 180 := enters_of' Tryz.func180 (by kernel_rfl) (by kernel_rfl)
-- slices.Backward[[]uint64,uint64]$1
instance : Enters Tryz.prog 181 := enters_of' Tryz.func181 (by kernel_rfl) (by kernel_rfl)
-- slices.Backward[[]int,int]
instance : Enters Tryz.prog 182 := enters_of' Tryz.func182 (by kernel_rfl) (by kernel_rfl)
-- slices.Backward[[]int,int]$1
instance : Enters Tryz.prog 183 := enters_of' Tryz.func183 (by kernel_rfl) (by kernel_rfl)
end Go.Proofs.YtljbedladifgmaaGreat
