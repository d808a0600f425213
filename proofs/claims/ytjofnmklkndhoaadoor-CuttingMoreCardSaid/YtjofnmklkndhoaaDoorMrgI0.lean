/- EvInst: texts laid together. -/
import Derived.Test.YtjofnmklkndhoaaDoorProg
import Derived.Test.YtjofnmklkndhoaaDoorMrgE3
/- Facts on the types of the program, each by the kernel. -/
namespace Go.Proofs.YtjofnmklkndhoaaDoor.Ev
open Go.RowKit
instance : Mixed Tryd.prog := ⟨by kernel_rfl⟩
instance : TyC Tryd.prog 1 false 1 := ⟨by kernel_rfl⟩
instance : ZeroT Tryd.prog 1 [.nilFunc] := ⟨by kernel_rfl⟩
instance : TyC Tryd.prog 2 false 1 := ⟨by kernel_rfl⟩
instance : ZeroT Tryd.prog 2 [.int .i64 0] := ⟨by kernel_rfl⟩
instance : IntT Tryd.prog 2 .i64 := ⟨by kernel_rfl⟩
instance : TyC Tryd.prog 3 false 1 := ⟨by kernel_rfl⟩
instance : ZeroT Tryd.prog 3 [.int .i64 0] := ⟨by kernel_rfl⟩
instance : IntT Tryd.prog 3 .i64 := ⟨by kernel_rfl⟩
instance : TyC Tryd.prog 4 false 1 := ⟨by kernel_rfl⟩
instance : ZeroT Tryd.prog 4 [.bool false] := ⟨by kernel_rfl⟩
instance : TyC Tryd.prog 5 false 1 := ⟨by kernel_rfl⟩
instance : ZeroT Tryd.prog 5 [.int .u8 0] := ⟨by kernel_rfl⟩
instance : IntT Tryd.prog 5 .u8 := ⟨by kernel_rfl⟩
instance : TyC Tryd.prog 9 false 1 := ⟨by kernel_rfl⟩
instance : ZeroT Tryd.prog 9 [.string ByteArray.empty] := ⟨by kernel_rfl⟩
instance : TyC Tryd.prog 12 false 1 := ⟨by kernel_rfl⟩
instance : ZeroT Tryd.prog 12 [.int .u64 0] := ⟨by kernel_rfl⟩
instance : IntT Tryd.prog 12 .u64 := ⟨by kernel_rfl⟩
instance : TyC Tryd.prog 13 true 2 := ⟨by kernel_rfl⟩
instance : ZeroT Tryd.prog 13 [.string ByteArray.empty, .int .u64 0] := ⟨by kernel_rfl⟩
instance : FieldAt Tryd.prog 13 0 0 := ⟨by kernel_rfl⟩
instance : FieldV Tryd.prog 13 0 0 false 1 := ⟨by kernel_rfl⟩
instance : FieldAt Tryd.prog 13 1 1 := ⟨by kernel_rfl⟩
instance : FieldV Tryd.prog 13 1 1 false 1 := ⟨by kernel_rfl⟩
instance : StrT Tryd.prog 13 [(0, 1), (1, 1)] [.string ByteArray.empty, .int .u64 0] := ⟨by kernel_rfl⟩
instance : TyC Tryd.prog 20 false 1 := ⟨by kernel_rfl⟩
instance : ZeroT Tryd.prog 20 [.nilIface] := ⟨by kernel_rfl⟩
instance : TyC Tryd.prog 21 false 1 := ⟨by kernel_rfl⟩
instance : ZeroT Tryd.prog 21 [.int .i32 0] := ⟨by kernel_rfl⟩
instance : IntT Tryd.prog 21 .i32 := ⟨by kernel_rfl⟩
instance : TyC Tryd.prog 22 false 1 := ⟨by kernel_rfl⟩
instance : ZeroT Tryd.prog 22 [.slice none 0 0] := ⟨by kernel_rfl⟩
instance : SlT Tryd.prog 22 3 1 8 := ⟨by kernel_rfl, by decide⟩
instance : TyC Tryd.prog 23 false 1 := ⟨by kernel_rfl⟩
instance : ZeroT Tryd.prog 23 [.slice none 0 0] := ⟨by kernel_rfl⟩
instance : SlT Tryd.prog 23 22 1 24 := ⟨by kernel_rfl, by decide⟩
instance : TyC Tryd.prog 24 true 7 := ⟨by kernel_rfl⟩
instance : ZeroT Tryd.prog 24 [.int .i64 0, .int .i64 0, .int .i64 0, .slice none 0 0, .slice none 0 0, .slice none 0 0, .slice none 0 0] := ⟨by kernel_rfl⟩
instance : FieldAt Tryd.prog 24 0 0 := ⟨by kernel_rfl⟩
instance : FieldV Tryd.prog 24 0 0 false 1 := ⟨by kernel_rfl⟩
instance : FieldAt Tryd.prog 24 1 1 := ⟨by kernel_rfl⟩
instance : FieldV Tryd.prog 24 1 1 false 1 := ⟨by kernel_rfl⟩
instance : FieldAt Tryd.prog 24 2 2 := ⟨by kernel_rfl⟩
instance : FieldV Tryd.prog 24 2 2 false 1 := ⟨by kernel_rfl⟩
instance : FieldAt Tryd.prog 24 3 3 := ⟨by kernel_rfl⟩
instance : FieldV Tryd.prog 24 3 3 false 1 := ⟨by kernel_rfl⟩
instance : FieldAt Tryd.prog 24 4 4 := ⟨by kernel_rfl⟩
instance : FieldV Tryd.prog 24 4 4 false 1 := ⟨by kernel_rfl⟩
instance : FieldAt Tryd.prog 24 5 5 := ⟨by kernel_rfl⟩
instance : FieldV Tryd.prog 24 5 5 false 1 := ⟨by kernel_rfl⟩
instance : FieldAt Tryd.prog 24 6 6 := ⟨by kernel_rfl⟩
instance : FieldV Tryd.prog 24 6 6 false 1 := ⟨by kernel_rfl⟩
instance : StrT Tryd.prog 24 [(0, 1), (1, 1), (2, 1), (3, 1), (4, 1), (5, 1), (6, 1)] [.int .i64 0, .int .i64 0, .int .i64 0, .slice none 0 0, .slice none 0 0, .slice none 0 0, .slice none 0 0] := ⟨by kernel_rfl⟩
instance : TyC Tryd.prog 25 true 7 := ⟨by kernel_rfl⟩
instance : ZeroT Tryd.prog 25 [.int .i64 0, .int .i64 0, .int .i64 0, .slice none 0 0, .slice none 0 0, .slice none 0 0, .slice none 0 0] := ⟨by kernel_rfl⟩
instance : FieldAt Tryd.prog 25 0 0 := ⟨by kernel_rfl⟩
instance : FieldV Tryd.prog 25 0 0 false 1 := ⟨by kernel_rfl⟩
instance : FieldAt Tryd.prog 25 1 1 := ⟨by kernel_rfl⟩
instance : FieldV Tryd.prog 25 1 1 false 1 := ⟨by kernel_rfl⟩
instance : FieldAt Tryd.prog 25 2 2 := ⟨by kernel_rfl⟩
instance : FieldV Tryd.prog 25 2 2 false 1 := ⟨by kernel_rfl⟩
instance : FieldAt Tryd.prog 25 3 3 := ⟨by kernel_rfl⟩
instance : FieldV Tryd.prog 25 3 3 false 1 := ⟨by kernel_rfl⟩
instance : FieldAt Tryd.prog 25 4 4 := ⟨by kernel_rfl⟩
instance : FieldV Tryd.prog 25 4 4 false 1 := ⟨by kernel_rfl⟩
instance : FieldAt Tryd.prog 25 5 5 := ⟨by kernel_rfl⟩
instance : FieldV Tryd.prog 25 5 5 false 1 := ⟨by kernel_rfl⟩
instance : FieldAt Tryd.prog 25 6 6 := ⟨by kernel_rfl⟩
instance : FieldV Tryd.prog 25 6 6 false 1 := ⟨by kernel_rfl⟩
instance : StrT Tryd.prog 25 [(0, 1), (1, 1), (2, 1), (3, 1), (4, 1), (5, 1), (6, 1)] [.int .i64 0, .int .i64 0, .int .i64 0, .slice none 0 0, .slice none 0 0, .slice none 0 0, .slice none 0 0] := ⟨by kernel_rfl⟩
instance : TyC Tryd.prog 26 false 1 := ⟨by kernel_rfl⟩
instance : ZeroT Tryd.prog 26 [.nilFunc] := ⟨by kernel_rfl⟩
instance : TyC Tryd.prog 27 false 1 := ⟨by kernel_rfl⟩
instance : ZeroT Tryd.prog 27 [.nilFunc] := ⟨by kernel_rfl⟩
instance : TyC Tryd.prog 28 false 1 := ⟨by kernel_rfl⟩
instance : ZeroT Tryd.prog 28 [.int .i64 0] := ⟨by kernel_rfl⟩
instance : IntT Tryd.prog 28 .i64 := ⟨by kernel_rfl⟩
instance : TyC Tryd.prog 29 false 1 := ⟨by kernel_rfl⟩
instance : ZeroT Tryd.prog 29 [.nilFunc] := ⟨by kernel_rfl⟩
instance : TyC Tryd.prog 30 false 1 := ⟨by kernel_rfl⟩
instance : ZeroT Tryd.prog 30 [.slice none 0 0] := ⟨by kernel_rfl⟩
instance : SlT Tryd.prog 30 52 2 16 := ⟨by kernel_rfl, by decide⟩
instance : TyC Tryd.prog 31 false 1 := ⟨by kernel_rfl⟩
instance : ZeroT Tryd.prog 31 [.slice none 0 0] := ⟨by kernel_rfl⟩
instance : SlT Tryd.prog 31 50 2 16 := ⟨by kernel_rfl, by decide⟩
instance : TyC Tryd.prog 33 false 1 := ⟨by kernel_rfl⟩
instance : ZeroT Tryd.prog 33 [.nilFunc] := ⟨by kernel_rfl⟩
instance : TyC Tryd.prog 35 false 1 := ⟨by kernel_rfl⟩
instance : ZeroT Tryd.prog 35 [.nilFunc] := ⟨by kernel_rfl⟩
instance : TyC Tryd.prog 36 false 1 := ⟨by kernel_rfl⟩
instance : ZeroT Tryd.prog 36 [.nilFunc] := ⟨by kernel_rfl⟩
instance : TyC Tryd.prog 37 false 1 := ⟨by kernel_rfl⟩
instance : ZeroT Tryd.prog 37 [.nilFunc] := ⟨by kernel_rfl⟩
instance : TyC Tryd.prog 39 false 1 := ⟨by kernel_rfl⟩
instance : ZeroT Tryd.prog 39 [.nilFunc] := ⟨by kernel_rfl⟩
instance : TyC Tryd.prog 40 false 1 := ⟨by kernel_rfl⟩
instance : ZeroT Tryd.prog 40 [.nilFunc] := ⟨by kernel_rfl⟩
instance : TyC Tryd.prog 41 true 7 := ⟨by kernel_rfl⟩
instance : ZeroT Tryd.prog 41 [.int .i64 0, .int .i64 0, .int .i64 0, .slice none 0 0, .slice none 0 0, .int .i64 0, .int .i64 0] := ⟨by kernel_rfl⟩
instance : FieldAt Tryd.prog 41 0 0 := ⟨by kernel_rfl⟩
instance : FieldV Tryd.prog 41 0 0 false 1 := ⟨by kernel_rfl⟩
instance : FieldAt Tryd.prog 41 1 1 := ⟨by kernel_rfl⟩
instance : FieldV Tryd.prog 41 1 1 false 1 := ⟨by kernel_rfl⟩
instance : FieldAt Tryd.prog 41 2 2 := ⟨by kernel_rfl⟩
instance : FieldV Tryd.prog 41 2 2 false 1 := ⟨by kernel_rfl⟩
instance : FieldAt Tryd.prog 41 3 3 := ⟨by kernel_rfl⟩
instance : FieldV Tryd.prog 41 3 3 false 1 := ⟨by kernel_rfl⟩
instance : FieldAt Tryd.prog 41 4 4 := ⟨by kernel_rfl⟩
instance : FieldV Tryd.prog 41 4 4 false 1 := ⟨by kernel_rfl⟩
instance : FieldAt Tryd.prog 41 5 5 := ⟨by kernel_rfl⟩
instance : FieldV Tryd.prog 41 5 5 false 1 := ⟨by kernel_rfl⟩
instance : FieldAt Tryd.prog 41 6 6 := ⟨by kernel_rfl⟩
instance : FieldV Tryd.prog 41 6 6 false 1 := ⟨by kernel_rfl⟩
instance : StrT Tryd.prog 41 [(0, 1), (1, 1), (2, 1), (3, 1), (4, 1), (5, 1), (6, 1)] [.int .i64 0, .int .i64 0, .int .i64 0, .slice none 0 0, .slice none 0 0, .int .i64 0, .int .i64 0] := ⟨by kernel_rfl⟩
instance : TyC Tryd.prog 42 true 7 := ⟨by kernel_rfl⟩
instance : ZeroT Tryd.prog 42 [.int .i64 0, .int .i64 0, .int .i64 0, .slice none 0 0, .slice none 0 0, .int .i64 0, .int .i64 0] := ⟨by kernel_rfl⟩
instance : FieldAt Tryd.prog 42 0 0 := ⟨by kernel_rfl⟩
instance : FieldV Tryd.prog 42 0 0 false 1 := ⟨by kernel_rfl⟩
instance : FieldAt Tryd.prog 42 1 1 := ⟨by kernel_rfl⟩
instance : FieldV Tryd.prog 42 1 1 false 1 := ⟨by kernel_rfl⟩
instance : FieldAt Tryd.prog 42 2 2 := ⟨by kernel_rfl⟩
instance : FieldV Tryd.prog 42 2 2 false 1 := ⟨by kernel_rfl⟩
instance : FieldAt Tryd.prog 42 3 3 := ⟨by kernel_rfl⟩
instance : FieldV Tryd.prog 42 3 3 false 1 := ⟨by kernel_rfl⟩
instance : FieldAt Tryd.prog 42 4 4 := ⟨by kernel_rfl⟩
instance : FieldV Tryd.prog 42 4 4 false 1 := ⟨by kernel_rfl⟩
instance : FieldAt Tryd.prog 42 5 5 := ⟨by kernel_rfl⟩
instance : FieldV Tryd.prog 42 5 5 false 1 := ⟨by kernel_rfl⟩
instance : FieldAt Tryd.prog 42 6 6 := ⟨by kernel_rfl⟩
instance : FieldV Tryd.prog 42 6 6 false 1 := ⟨by kernel_rfl⟩
instance : StrT Tryd.prog 42 [(0, 1), (1, 1), (2, 1), (3, 1), (4, 1), (5, 1), (6, 1)] [.int .i64 0, .int .i64 0, .int .i64 0, .slice none 0 0, .slice none 0 0, .int .i64 0, .int .i64 0] := ⟨by kernel_rfl⟩
instance : TyC Tryd.prog 44 false 1 := ⟨by kernel_rfl⟩
instance : ZeroT Tryd.prog 44 [.nilFunc] := ⟨by kernel_rfl⟩
instance : TyC Tryd.prog 45 false 1 := ⟨by kernel_rfl⟩
instance : ZeroT Tryd.prog 45 [.nilFunc] := ⟨by kernel_rfl⟩
instance : TyC Tryd.prog 46 false 1 := ⟨by kernel_rfl⟩
instance : ZeroT Tryd.prog 46 [.nilFunc] := ⟨by kernel_rfl⟩
instance : TyC Tryd.prog 47 false 1 := ⟨by kernel_rfl⟩
instance : ZeroT Tryd.prog 47 [.nilFunc] := ⟨by kernel_rfl⟩
instance : TyC Tryd.prog 48 false 1 := ⟨by kernel_rfl⟩
instance : ZeroT Tryd.prog 48 [.nilFunc] := ⟨by kernel_rfl⟩
instance : TyC Tryd.prog 49 true 2 := ⟨by kernel_rfl⟩
instance : ZeroT Tryd.prog 49 [.int .i64 0, .int .i64 0] := ⟨by kernel_rfl⟩
instance : FieldAt Tryd.prog 49 0 0 := ⟨by kernel_rfl⟩
instance : FieldV Tryd.prog 49 0 0 false 1 := ⟨by kernel_rfl⟩
instance : FieldAt Tryd.prog 49 1 1 := ⟨by kernel_rfl⟩
instance : FieldV Tryd.prog 49 1 1 false 1 := ⟨by kernel_rfl⟩
instance : StrT Tryd.prog 49 [(0, 1), (1, 1)] [.int .i64 0, .int .i64 0] := ⟨by kernel_rfl⟩
instance : TyC Tryd.prog 50 true 2 := ⟨by kernel_rfl⟩
instance : ZeroT Tryd.prog 50 [.int .i64 0, .int .i64 0] := ⟨by kernel_rfl⟩
instance : FieldAt Tryd.prog 50 0 0 := ⟨by kernel_rfl⟩
instance : FieldV Tryd.prog 50 0 0 false 1 := ⟨by kernel_rfl⟩
instance : FieldAt Tryd.prog 50 1 1 := ⟨by kernel_rfl⟩
instance : FieldV Tryd.prog 50 1 1 false 1 := ⟨by kernel_rfl⟩
instance : StrT Tryd.prog 50 [(0, 1), (1, 1)] [.int .i64 0, .int .i64 0] := ⟨by kernel_rfl⟩
instance : TyC Tryd.prog 51 true 2 := ⟨by kernel_rfl⟩
instance : ZeroT Tryd.prog 51 [.int .i64 0, .int .i64 0] := ⟨by kernel_rfl⟩
instance : FieldAt Tryd.prog 51 0 0 := ⟨by kernel_rfl⟩
instance : FieldV Tryd.prog 51 0 0 false 1 := ⟨by kernel_rfl⟩
instance : FieldAt Tryd.prog 51 1 1 := ⟨by kernel_rfl⟩
instance : FieldV Tryd.prog 51 1 1 false 1 := ⟨by kernel_rfl⟩
instance : StrT Tryd.prog 51 [(0, 1), (1, 1)] [.int .i64 0, .int .i64 0] := ⟨by kernel_rfl⟩
instance : TyC Tryd.prog 52 true 2 := ⟨by kernel_rfl⟩
instance : ZeroT Tryd.prog 52 [.int .i64 0, .int .i64 0] := ⟨by kernel_rfl⟩
instance : FieldAt Tryd.prog 52 0 0 := ⟨by kernel_rfl⟩
instance : FieldV Tryd.prog 52 0 0 false 1 := ⟨by kernel_rfl⟩
instance : FieldAt Tryd.prog 52 1 1 := ⟨by kernel_rfl⟩
instance : FieldV Tryd.prog 52 1 1 false 1 := ⟨by kernel_rfl⟩
instance : StrT Tryd.prog 52 [(0, 1), (1, 1)] [.int .i64 0, .int .i64 0] := ⟨by kernel_rfl⟩
instance : TyC Tryd.prog 53 true 3 := ⟨by kernel_rfl⟩
instance : ZeroT Tryd.prog 53 [.int .i64 0, .int .i64 0, .int .i64 0] := ⟨by kernel_rfl⟩
instance : TyC Tryd.prog 54 false 1 := ⟨by kernel_rfl⟩
instance : ZeroT Tryd.prog 54 [.nilFunc] := ⟨by kernel_rfl⟩
instance : TyC Tryd.prog 55 false 1 := ⟨by kernel_rfl⟩
instance : ZeroT Tryd.prog 55 [.int .u64 0] := ⟨by kernel_rfl⟩
instance : IntT Tryd.prog 55 .u64 := ⟨by kernel_rfl⟩
instance : TyC Tryd.prog 56 false 1 := ⟨by kernel_rfl⟩
instance : ZeroT Tryd.prog 56 [.nilFunc] := ⟨by kernel_rfl⟩
instance : TyC Tryd.prog 57 false 1 := ⟨by kernel_rfl⟩
instance : ZeroT Tryd.prog 57 [.nilFunc] := ⟨by kernel_rfl⟩
instance : TyC Tryd.prog 58 false 1 := ⟨by kernel_rfl⟩
instance : ZeroT Tryd.prog 58 [.nilFunc] := ⟨by kernel_rfl⟩
instance : TyC Tryd.prog 59 false 1 := ⟨by kernel_rfl⟩
instance : ZeroT Tryd.prog 59 [.nilFunc] := ⟨by kernel_rfl⟩
instance : TyC Tryd.prog 60 false 1 := ⟨by kernel_rfl⟩
instance : ZeroT Tryd.prog 60 [.nilFunc] := ⟨by kernel_rfl⟩
instance : TyC Tryd.prog 61 false 1 := ⟨by kernel_rfl⟩
instance : ZeroT Tryd.prog 61 [.nilFunc] := ⟨by kernel_rfl⟩
instance : TyC Tryd.prog 62 false 1 := ⟨by kernel_rfl⟩
instance : ZeroT Tryd.prog 62 [.nilFunc] := ⟨by kernel_rfl⟩
instance : TyC Tryd.prog 63 false 1 := ⟨by kernel_rfl⟩
instance : ZeroT Tryd.prog 63 [.nilFunc] := ⟨by kernel_rfl⟩
instance : TyC Tryd.prog 64 false 1 := ⟨by kernel_rfl⟩
instance : ZeroT Tryd.prog 64 [.nilFunc] := ⟨by kernel_rfl⟩
instance : TyC Tryd.prog 65 false 1 := ⟨by kernel_rfl⟩
instance : ZeroT Tryd.prog 65 [.slice none 0 0] := ⟨by kernel_rfl⟩
instance : SlT Tryd.prog 65 68 3 24 := ⟨by kernel_rfl, by decide⟩
instance : TyC Tryd.prog 66 false 1 := ⟨by kernel_rfl⟩
instance : ZeroT Tryd.prog 66 [.nilFunc] := ⟨by kernel_rfl⟩
instance : TyC Tryd.prog 67 true 3 := ⟨by kernel_rfl⟩
instance : ZeroT Tryd.prog 67 [.int .i64 0, .int .i64 0, .int .i64 0] := ⟨by kernel_rfl⟩
instance : FieldAt Tryd.prog 67 0 0 := ⟨by kernel_rfl⟩
instance : FieldV Tryd.prog 67 0 0 true 2 := ⟨by kernel_rfl⟩
instance : FieldAt Tryd.prog 67 1 2 := ⟨by kernel_rfl⟩
instance : FieldV Tryd.prog 67 1 2 false 1 := ⟨by kernel_rfl⟩
instance : StrT Tryd.prog 67 [(0, 2), (2, 1)] [.int .i64 0, .int .i64 0, .int .i64 0] := ⟨by kernel_rfl⟩
instance : TyC Tryd.prog 68 true 3 := ⟨by kernel_rfl⟩
instance : ZeroT Tryd.prog 68 [.int .i64 0, .int .i64 0, .int .i64 0] := ⟨by kernel_rfl⟩
instance : FieldAt Tryd.prog 68 0 0 := ⟨by kernel_rfl⟩
instance : FieldV Tryd.prog 68 0 0 true 2 := ⟨by kernel_rfl⟩
instance : FieldAt Tryd.prog 68 1 2 := ⟨by kernel_rfl⟩
instance : FieldV Tryd.prog 68 1 2 false 1 := ⟨by kernel_rfl⟩
instance : StrT Tryd.prog 68 [(0, 2), (2, 1)] [.int .i64 0, .int .i64 0, .int .i64 0] := ⟨by kernel_rfl⟩
instance : TyC Tryd.prog 69 false 1 := ⟨by kernel_rfl⟩
instance : ZeroT Tryd.prog 69 [.nilFunc] := ⟨by kernel_rfl⟩
instance : TyC Tryd.prog 70 false 1 := ⟨by kernel_rfl⟩
instance : ZeroT Tryd.prog 70 [.slice none 0 0] := ⟨by kernel_rfl⟩
instance : SlT Tryd.prog 70 72 3 24 := ⟨by kernel_rfl, by decide⟩
instance : TyC Tryd.prog 71 true 3 := ⟨by kernel_rfl⟩
instance : ZeroT Tryd.prog 71 [.int .i64 0, .int .i64 0, .int .i64 0] := ⟨by kernel_rfl⟩
instance : FieldAt Tryd.prog 71 0 0 := ⟨by kernel_rfl⟩
instance : FieldV Tryd.prog 71 0 0 false 1 := ⟨by kernel_rfl⟩
instance : FieldAt Tryd.prog 71 1 1 := ⟨by kernel_rfl⟩
instance : FieldV Tryd.prog 71 1 1 true 2 := ⟨by kernel_rfl⟩
instance : StrT Tryd.prog 71 [(0, 1), (1, 2)] [.int .i64 0, .int .i64 0, .int .i64 0] := ⟨by kernel_rfl⟩
instance : TyC Tryd.prog 72 true 3 := ⟨by kernel_rfl⟩
instance : ZeroT Tryd.prog 72 [.int .i64 0, .int .i64 0, .int .i64 0] := ⟨by kernel_rfl⟩
instance : FieldAt Tryd.prog 72 0 0 := ⟨by kernel_rfl⟩
instance : FieldV Tryd.prog 72 0 0 false 1 := ⟨by kernel_rfl⟩
instance : FieldAt Tryd.prog 72 1 1 := ⟨by kernel_rfl⟩
instance : FieldV Tryd.prog 72 1 1 true 2 := ⟨by kernel_rfl⟩
instance : StrT Tryd.prog 72 [(0, 1), (1, 2)] [.int .i64 0, .int .i64 0, .int .i64 0] := ⟨by kernel_rfl⟩
instance : TyC Tryd.prog 73 false 1 := ⟨by kernel_rfl⟩
instance : ZeroT Tryd.prog 73 [.nilFunc] := ⟨by kernel_rfl⟩
instance : TyC Tryd.prog 74 false 1 := ⟨by kernel_rfl⟩
instance : ZeroT Tryd.prog 74 [.nilFunc] := ⟨by kernel_rfl⟩
instance : TyC Tryd.prog 75 false 1 := ⟨by kernel_rfl⟩
instance : ZeroT Tryd.prog 75 [.nilFunc] := ⟨by kernel_rfl⟩
instance : TyC Tryd.prog 76 false 1 := ⟨by kernel_rfl⟩
instance : ZeroT Tryd.prog 76 [.nilFunc] := ⟨by kernel_rfl⟩
instance : TyC Tryd.prog 77 false 1 := ⟨by kernel_rfl⟩
instance : ZeroT Tryd.prog 77 [.nilFunc] := ⟨by kernel_rfl⟩
instance : TyC Tryd.prog 78 false 1 := ⟨by kernel_rfl⟩
instance : ZeroT Tryd.prog 78 [.nilFunc] := ⟨by kernel_rfl⟩
instance : TyC Tryd.prog 84 false 1 := ⟨by kernel_rfl⟩
instance : ZeroT Tryd.prog 84 [.nilFunc] := ⟨by kernel_rfl⟩
instance : TyC Tryd.prog 85 false 1 := ⟨by kernel_rfl⟩
instance : ZeroT Tryd.prog 85 [.int .u32 0] := ⟨by kernel_rfl⟩
instance : IntT Tryd.prog 85 .u32 := ⟨by kernel_rfl⟩
instance : TyC Tryd.prog 88 false 1 := ⟨by kernel_rfl⟩
instance : ZeroT Tryd.prog 88 [.nilFunc] := ⟨by kernel_rfl⟩
instance : TyC Tryd.prog 89 false 1 := ⟨by kernel_rfl⟩
instance : ZeroT Tryd.prog 89 [.pointer none] := ⟨by kernel_rfl⟩
instance : EqInts Tryd.prog 49 2 := ⟨fun w x y p q ha hb => by
  match p, q, ha, hb with
  | [a0, a1], [b0, b1], _, _ =>
    constructor <;> (simp [go_sem, Sem.run_bind]; (repeat split) <;> simp_all)⟩
instance : EqInts Tryd.prog 50 2 := ⟨fun w x y p q ha hb => by
  match p, q, ha, hb with
  | [a0, a1], [b0, b1], _, _ =>
    constructor <;> (simp [go_sem, Sem.run_bind]; (repeat split) <;> simp_all)⟩
instance : EqInts Tryd.prog 51 2 := ⟨fun w x y p q ha hb => by
  match p, q, ha, hb with
  | [a0, a1], [b0, b1], _, _ =>
    constructor <;> (simp [go_sem, Sem.run_bind]; (repeat split) <;> simp_all)⟩
instance : EqInts Tryd.prog 52 2 := ⟨fun w x y p q ha hb => by
  match p, q, ha, hb with
  | [a0, a1], [b0, b1], _, _ =>
    constructor <;> (simp [go_sem, Sem.run_bind]; (repeat split) <;> simp_all)⟩
instance : EqInts Tryd.prog 67 3 := ⟨fun w x y p q ha hb => by
  match p, q, ha, hb with
  | [a0, a1, a2], [b0, b1, b2], _, _ =>
    constructor <;> (simp [go_sem, Sem.run_bind]; (repeat split) <;> simp_all)⟩
instance : EqInts Tryd.prog 68 3 := ⟨fun w x y p q ha hb => by
  match p, q, ha, hb with
  | [a0, a1, a2], [b0, b1, b2], _, _ =>
    constructor <;> (simp [go_sem, Sem.run_bind]; (repeat split) <;> simp_all)⟩
instance : EqInts Tryd.prog 71 3 := ⟨fun w x y p q ha hb => by
  match p, q, ha, hb with
  | [a0, a1, a2], [b0, b1, b2], _, _ =>
    constructor <;> (simp [go_sem, Sem.run_bind]; (repeat split) <;> simp_all)⟩
instance : EqInts Tryd.prog 72 3 := ⟨fun w x y p q ha hb => by
  match p, q, ha, hb with
  | [a0, a1, a2], [b0, b1, b2], _, _ =>
    constructor <;> (simp [go_sem, Sem.run_bind]; (repeat split) <;> simp_all)⟩
end Go.Proofs.YtjofnmklkndhoaaDoor.Ev
