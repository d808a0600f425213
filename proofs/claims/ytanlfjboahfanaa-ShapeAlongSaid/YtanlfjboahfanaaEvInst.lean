/- Facts on the types of the program, each by the kernel. -/
import Derived.Test.YtanlfjboahfanaaProg
import Derived.Test.YtanlfjboahfanaaEv18
namespace Go.Proofs.Ytanlfjboahfanaa.Ev
open Go.RowKit
instance : Mixed Try.prog := ⟨by kernel_rfl⟩
instance : TyC Try.prog 1 false 1 := ⟨by kernel_rfl⟩
instance : ZeroT Try.prog 1 [.nilFunc] := ⟨by kernel_rfl⟩
instance : TyC Try.prog 2 false 1 := ⟨by kernel_rfl⟩
instance : ZeroT Try.prog 2 [.int .i64 0] := ⟨by kernel_rfl⟩
instance : IntT Try.prog 2 .i64 := ⟨by kernel_rfl⟩
instance : TyC Try.prog 3 false 1 := ⟨by kernel_rfl⟩
instance : ZeroT Try.prog 3 [.int .i64 0] := ⟨by kernel_rfl⟩
instance : IntT Try.prog 3 .i64 := ⟨by kernel_rfl⟩
instance : TyC Try.prog 4 false 1 := ⟨by kernel_rfl⟩
instance : ZeroT Try.prog 4 [.bool false] := ⟨by kernel_rfl⟩
instance : TyC Try.prog 5 false 1 := ⟨by kernel_rfl⟩
instance : ZeroT Try.prog 5 [.int .u8 0] := ⟨by kernel_rfl⟩
instance : IntT Try.prog 5 .u8 := ⟨by kernel_rfl⟩
instance : TyC Try.prog 9 false 1 := ⟨by kernel_rfl⟩
instance : ZeroT Try.prog 9 [.string ByteArray.empty] := ⟨by kernel_rfl⟩
instance : TyC Try.prog 12 false 1 := ⟨by kernel_rfl⟩
instance : ZeroT Try.prog 12 [.int .u64 0] := ⟨by kernel_rfl⟩
instance : IntT Try.prog 12 .u64 := ⟨by kernel_rfl⟩
instance : TyC Try.prog 13 true 2 := ⟨by kernel_rfl⟩
instance : ZeroT Try.prog 13 [.string ByteArray.empty, .int .u64 0] := ⟨by kernel_rfl⟩
instance : FieldAt Try.prog 13 0 0 := ⟨by kernel_rfl⟩
instance : FieldV Try.prog 13 0 0 false 1 := ⟨by kernel_rfl⟩
instance : FieldAt Try.prog 13 1 1 := ⟨by kernel_rfl⟩
instance : FieldV Try.prog 13 1 1 false 1 := ⟨by kernel_rfl⟩
instance : StrT Try.prog 13 [(0, 1), (1, 1)] [.string ByteArray.empty, .int .u64 0] := ⟨by kernel_rfl⟩
instance : TyC Try.prog 20 false 1 := ⟨by kernel_rfl⟩
instance : ZeroT Try.prog 20 [.nilIface] := ⟨by kernel_rfl⟩
instance : TyC Try.prog 21 false 1 := ⟨by kernel_rfl⟩
instance : ZeroT Try.prog 21 [.int .i32 0] := ⟨by kernel_rfl⟩
instance : IntT Try.prog 21 .i32 := ⟨by kernel_rfl⟩
instance : TyC Try.prog 22 false 1 := ⟨by kernel_rfl⟩
instance : ZeroT Try.prog 22 [.slice none 0 0] := ⟨by kernel_rfl⟩
instance : SlT Try.prog 22 49 2 16 := ⟨by kernel_rfl, by decide⟩
instance : TyC Try.prog 23 true 2 := ⟨by kernel_rfl⟩
instance : ZeroT Try.prog 23 [.int .i64 0, .slice none 0 0] := ⟨by kernel_rfl⟩
instance : FieldAt Try.prog 23 0 0 := ⟨by kernel_rfl⟩
instance : FieldV Try.prog 23 0 0 false 1 := ⟨by kernel_rfl⟩
instance : FieldAt Try.prog 23 1 1 := ⟨by kernel_rfl⟩
instance : FieldV Try.prog 23 1 1 false 1 := ⟨by kernel_rfl⟩
instance : StrT Try.prog 23 [(0, 1), (1, 1)] [.int .i64 0, .slice none 0 0] := ⟨by kernel_rfl⟩
instance : TyC Try.prog 24 true 2 := ⟨by kernel_rfl⟩
instance : ZeroT Try.prog 24 [.int .i64 0, .slice none 0 0] := ⟨by kernel_rfl⟩
instance : FieldAt Try.prog 24 0 0 := ⟨by kernel_rfl⟩
instance : FieldV Try.prog 24 0 0 false 1 := ⟨by kernel_rfl⟩
instance : FieldAt Try.prog 24 1 1 := ⟨by kernel_rfl⟩
instance : FieldV Try.prog 24 1 1 false 1 := ⟨by kernel_rfl⟩
instance : StrT Try.prog 24 [(0, 1), (1, 1)] [.int .i64 0, .slice none 0 0] := ⟨by kernel_rfl⟩
instance : TyC Try.prog 25 false 1 := ⟨by kernel_rfl⟩
instance : ZeroT Try.prog 25 [.nilFunc] := ⟨by kernel_rfl⟩
instance : TyC Try.prog 26 false 1 := ⟨by kernel_rfl⟩
instance : ZeroT Try.prog 26 [.nilFunc] := ⟨by kernel_rfl⟩
instance : TyC Try.prog 27 true 2 := ⟨by kernel_rfl⟩
instance : ZeroT Try.prog 27 [.int .i64 0, .int .i64 0] := ⟨by kernel_rfl⟩
instance : FieldAt Try.prog 27 0 0 := ⟨by kernel_rfl⟩
instance : FieldV Try.prog 27 0 0 false 1 := ⟨by kernel_rfl⟩
instance : FieldAt Try.prog 27 1 1 := ⟨by kernel_rfl⟩
instance : FieldV Try.prog 27 1 1 false 1 := ⟨by kernel_rfl⟩
instance : StrT Try.prog 27 [(0, 1), (1, 1)] [.int .i64 0, .int .i64 0] := ⟨by kernel_rfl⟩
instance : TyC Try.prog 28 true 2 := ⟨by kernel_rfl⟩
instance : ZeroT Try.prog 28 [.int .i64 0, .int .i64 0] := ⟨by kernel_rfl⟩
instance : FieldAt Try.prog 28 0 0 := ⟨by kernel_rfl⟩
instance : FieldV Try.prog 28 0 0 false 1 := ⟨by kernel_rfl⟩
instance : FieldAt Try.prog 28 1 1 := ⟨by kernel_rfl⟩
instance : FieldV Try.prog 28 1 1 false 1 := ⟨by kernel_rfl⟩
instance : StrT Try.prog 28 [(0, 1), (1, 1)] [.int .i64 0, .int .i64 0] := ⟨by kernel_rfl⟩
instance : TyC Try.prog 29 false 1 := ⟨by kernel_rfl⟩
instance : ZeroT Try.prog 29 [.nilFunc] := ⟨by kernel_rfl⟩
instance : TyC Try.prog 30 false 1 := ⟨by kernel_rfl⟩
instance : ZeroT Try.prog 30 [.nilFunc] := ⟨by kernel_rfl⟩
instance : TyC Try.prog 31 false 1 := ⟨by kernel_rfl⟩
instance : ZeroT Try.prog 31 [.slice none 0 0] := ⟨by kernel_rfl⟩
instance : SlT Try.prog 31 36 3 40 := ⟨by kernel_rfl, by decide⟩
instance : TyC Try.prog 32 false 1 := ⟨by kernel_rfl⟩
instance : ZeroT Try.prog 32 [.nilFunc] := ⟨by kernel_rfl⟩
instance : TyC Try.prog 33 false 1 := ⟨by kernel_rfl⟩
instance : ZeroT Try.prog 33 [.nilFunc] := ⟨by kernel_rfl⟩
instance : TyC Try.prog 34 false 1 := ⟨by kernel_rfl⟩
instance : ZeroT Try.prog 34 [.slice none 0 0] := ⟨by kernel_rfl⟩
instance : SlT Try.prog 34 3 1 8 := ⟨by kernel_rfl, by decide⟩
instance : TyC Try.prog 35 true 3 := ⟨by kernel_rfl⟩
instance : ZeroT Try.prog 35 [.int .i64 0, .int .i64 0, .slice none 0 0] := ⟨by kernel_rfl⟩
instance : FieldAt Try.prog 35 0 0 := ⟨by kernel_rfl⟩
instance : FieldV Try.prog 35 0 0 false 1 := ⟨by kernel_rfl⟩
instance : FieldAt Try.prog 35 1 1 := ⟨by kernel_rfl⟩
instance : FieldV Try.prog 35 1 1 true 2 := ⟨by kernel_rfl⟩
instance : StrT Try.prog 35 [(0, 1), (1, 2)] [.int .i64 0, .int .i64 0, .slice none 0 0] := ⟨by kernel_rfl⟩
instance : TyC Try.prog 36 true 3 := ⟨by kernel_rfl⟩
instance : ZeroT Try.prog 36 [.int .i64 0, .int .i64 0, .slice none 0 0] := ⟨by kernel_rfl⟩
instance : FieldAt Try.prog 36 0 0 := ⟨by kernel_rfl⟩
instance : FieldV Try.prog 36 0 0 false 1 := ⟨by kernel_rfl⟩
instance : FieldAt Try.prog 36 1 1 := ⟨by kernel_rfl⟩
instance : FieldV Try.prog 36 1 1 true 2 := ⟨by kernel_rfl⟩
instance : StrT Try.prog 36 [(0, 1), (1, 2)] [.int .i64 0, .int .i64 0, .slice none 0 0] := ⟨by kernel_rfl⟩
instance : TyC Try.prog 37 false 1 := ⟨by kernel_rfl⟩
instance : ZeroT Try.prog 37 [.int .i64 0] := ⟨by kernel_rfl⟩
instance : IntT Try.prog 37 .i64 := ⟨by kernel_rfl⟩
instance : TyC Try.prog 38 false 1 := ⟨by kernel_rfl⟩
instance : ZeroT Try.prog 38 [.nilFunc] := ⟨by kernel_rfl⟩
instance : TyC Try.prog 39 false 1 := ⟨by kernel_rfl⟩
instance : ZeroT Try.prog 39 [.nilFunc] := ⟨by kernel_rfl⟩
instance : TyC Try.prog 40 false 1 := ⟨by kernel_rfl⟩
instance : ZeroT Try.prog 40 [.nilFunc] := ⟨by kernel_rfl⟩
instance : TyC Try.prog 41 false 1 := ⟨by kernel_rfl⟩
instance : ZeroT Try.prog 41 [.nilFunc] := ⟨by kernel_rfl⟩
instance : TyC Try.prog 42 false 1 := ⟨by kernel_rfl⟩
instance : ZeroT Try.prog 42 [.nilFunc] := ⟨by kernel_rfl⟩
instance : TyC Try.prog 43 false 1 := ⟨by kernel_rfl⟩
instance : ZeroT Try.prog 43 [.nilFunc] := ⟨by kernel_rfl⟩
instance : TyC Try.prog 44 false 1 := ⟨by kernel_rfl⟩
instance : ZeroT Try.prog 44 [.nilFunc] := ⟨by kernel_rfl⟩
instance : TyC Try.prog 45 false 1 := ⟨by kernel_rfl⟩
instance : ZeroT Try.prog 45 [.nilFunc] := ⟨by kernel_rfl⟩
instance : TyC Try.prog 46 false 1 := ⟨by kernel_rfl⟩
instance : ZeroT Try.prog 46 [.nilFunc] := ⟨by kernel_rfl⟩
instance : TyC Try.prog 47 false 1 := ⟨by kernel_rfl⟩
instance : ZeroT Try.prog 47 [.nilFunc] := ⟨by kernel_rfl⟩
instance : TyC Try.prog 48 true 2 := ⟨by kernel_rfl⟩
instance : ZeroT Try.prog 48 [.int .i64 0, .int .i64 0] := ⟨by kernel_rfl⟩
instance : FieldAt Try.prog 48 0 0 := ⟨by kernel_rfl⟩
instance : FieldV Try.prog 48 0 0 false 1 := ⟨by kernel_rfl⟩
instance : FieldAt Try.prog 48 1 1 := ⟨by kernel_rfl⟩
instance : FieldV Try.prog 48 1 1 false 1 := ⟨by kernel_rfl⟩
instance : StrT Try.prog 48 [(0, 1), (1, 1)] [.int .i64 0, .int .i64 0] := ⟨by kernel_rfl⟩
instance : TyC Try.prog 49 true 2 := ⟨by kernel_rfl⟩
instance : ZeroT Try.prog 49 [.int .i64 0, .int .i64 0] := ⟨by kernel_rfl⟩
instance : FieldAt Try.prog 49 0 0 := ⟨by kernel_rfl⟩
instance : FieldV Try.prog 49 0 0 false 1 := ⟨by kernel_rfl⟩
instance : FieldAt Try.prog 49 1 1 := ⟨by kernel_rfl⟩
instance : FieldV Try.prog 49 1 1 false 1 := ⟨by kernel_rfl⟩
instance : StrT Try.prog 49 [(0, 1), (1, 1)] [.int .i64 0, .int .i64 0] := ⟨by kernel_rfl⟩
instance : TyC Try.prog 50 false 1 := ⟨by kernel_rfl⟩
instance : ZeroT Try.prog 50 [.nilFunc] := ⟨by kernel_rfl⟩
instance : TyC Try.prog 51 false 1 := ⟨by kernel_rfl⟩
instance : ZeroT Try.prog 51 [.nilFunc] := ⟨by kernel_rfl⟩
instance : TyC Try.prog 52 false 1 := ⟨by kernel_rfl⟩
instance : ZeroT Try.prog 52 [.nilFunc] := ⟨by kernel_rfl⟩
instance : TyC Try.prog 53 true 4 := ⟨by kernel_rfl⟩
instance : ZeroT Try.prog 53 [.int .i64 0, .int .i64 0, .int .i64 0, .int .i64 0] := ⟨by kernel_rfl⟩
instance : FieldAt Try.prog 53 0 0 := ⟨by kernel_rfl⟩
instance : FieldV Try.prog 53 0 0 true 2 := ⟨by kernel_rfl⟩
instance : FieldAt Try.prog 53 1 2 := ⟨by kernel_rfl⟩
instance : FieldV Try.prog 53 1 2 true 2 := ⟨by kernel_rfl⟩
instance : StrT Try.prog 53 [(0, 2), (2, 2)] [.int .i64 0, .int .i64 0, .int .i64 0, .int .i64 0] := ⟨by kernel_rfl⟩
instance : TyC Try.prog 54 true 4 := ⟨by kernel_rfl⟩
instance : ZeroT Try.prog 54 [.int .i64 0, .int .i64 0, .int .i64 0, .int .i64 0] := ⟨by kernel_rfl⟩
instance : FieldAt Try.prog 54 0 0 := ⟨by kernel_rfl⟩
instance : FieldV Try.prog 54 0 0 true 2 := ⟨by kernel_rfl⟩
instance : FieldAt Try.prog 54 1 2 := ⟨by kernel_rfl⟩
instance : FieldV Try.prog 54 1 2 true 2 := ⟨by kernel_rfl⟩
instance : StrT Try.prog 54 [(0, 2), (2, 2)] [.int .i64 0, .int .i64 0, .int .i64 0, .int .i64 0] := ⟨by kernel_rfl⟩
instance : TyC Try.prog 55 false 1 := ⟨by kernel_rfl⟩
instance : ZeroT Try.prog 55 [.nilFunc] := ⟨by kernel_rfl⟩
instance : TyC Try.prog 56 false 1 := ⟨by kernel_rfl⟩
instance : ZeroT Try.prog 56 [.nilFunc] := ⟨by kernel_rfl⟩
instance : TyC Try.prog 57 false 1 := ⟨by kernel_rfl⟩
instance : ZeroT Try.prog 57 [.nilFunc] := ⟨by kernel_rfl⟩
instance : TyC Try.prog 58 false 1 := ⟨by kernel_rfl⟩
instance : ZeroT Try.prog 58 [.nilFunc] := ⟨by kernel_rfl⟩
instance : TyC Try.prog 59 false 1 := ⟨by kernel_rfl⟩
instance : ZeroT Try.prog 59 [.nilFunc] := ⟨by kernel_rfl⟩
instance : TyC Try.prog 60 false 1 := ⟨by kernel_rfl⟩
instance : ZeroT Try.prog 60 [.nilFunc] := ⟨by kernel_rfl⟩
instance : TyC Try.prog 61 false 1 := ⟨by kernel_rfl⟩
instance : ZeroT Try.prog 61 [.nilFunc] := ⟨by kernel_rfl⟩
instance : TyC Try.prog 62 false 1 := ⟨by kernel_rfl⟩
instance : ZeroT Try.prog 62 [.nilFunc] := ⟨by kernel_rfl⟩
instance : TyC Try.prog 63 false 1 := ⟨by kernel_rfl⟩
instance : ZeroT Try.prog 63 [.nilFunc] := ⟨by kernel_rfl⟩
instance : TyC Try.prog 64 false 1 := ⟨by kernel_rfl⟩
instance : ZeroT Try.prog 64 [.nilFunc] := ⟨by kernel_rfl⟩
instance : TyC Try.prog 65 false 1 := ⟨by kernel_rfl⟩
instance : ZeroT Try.prog 65 [.nilFunc] := ⟨by kernel_rfl⟩
instance : TyC Try.prog 66 false 1 := ⟨by kernel_rfl⟩
instance : ZeroT Try.prog 66 [.nilFunc] := ⟨by kernel_rfl⟩
instance : TyC Try.prog 67 false 1 := ⟨by kernel_rfl⟩
instance : ZeroT Try.prog 67 [.nilFunc] := ⟨by kernel_rfl⟩
instance : TyC Try.prog 68 false 1 := ⟨by kernel_rfl⟩
instance : ZeroT Try.prog 68 [.int .u64 0] := ⟨by kernel_rfl⟩
instance : IntT Try.prog 68 .u64 := ⟨by kernel_rfl⟩
instance : TyC Try.prog 69 false 1 := ⟨by kernel_rfl⟩
instance : ZeroT Try.prog 69 [.int .u64 0] := ⟨by kernel_rfl⟩
instance : IntT Try.prog 69 .u64 := ⟨by kernel_rfl⟩
instance : TyC Try.prog 70 false 1 := ⟨by kernel_rfl⟩
instance : ZeroT Try.prog 70 [.nilFunc] := ⟨by kernel_rfl⟩
instance : TyC Try.prog 71 false 1 := ⟨by kernel_rfl⟩
instance : ZeroT Try.prog 71 [.nilFunc] := ⟨by kernel_rfl⟩
instance : TyC Try.prog 73 false 1 := ⟨by kernel_rfl⟩
instance : ZeroT Try.prog 73 [.nilFunc] := ⟨by kernel_rfl⟩
instance : TyC Try.prog 74 false 1 := ⟨by kernel_rfl⟩
instance : ZeroT Try.prog 74 [.nilFunc] := ⟨by kernel_rfl⟩
instance : TyC Try.prog 75 false 1 := ⟨by kernel_rfl⟩
instance : ZeroT Try.prog 75 [.nilFunc] := ⟨by kernel_rfl⟩
instance : TyC Try.prog 76 false 1 := ⟨by kernel_rfl⟩
instance : ZeroT Try.prog 76 [.nilFunc] := ⟨by kernel_rfl⟩
instance : TyC Try.prog 77 true 1 := ⟨by kernel_rfl⟩
instance : ZeroT Try.prog 77 [.nilFunc] := ⟨by kernel_rfl⟩
instance : FieldAt Try.prog 77 0 0 := ⟨by kernel_rfl⟩
instance : FieldV Try.prog 77 0 0 false 1 := ⟨by kernel_rfl⟩
instance : StrT Try.prog 77 [(0, 1)] [.nilFunc] := ⟨by kernel_rfl⟩
instance : TyC Try.prog 78 true 1 := ⟨by kernel_rfl⟩
instance : ZeroT Try.prog 78 [.nilFunc] := ⟨by kernel_rfl⟩
instance : FieldAt Try.prog 78 0 0 := ⟨by kernel_rfl⟩
instance : FieldV Try.prog 78 0 0 false 1 := ⟨by kernel_rfl⟩
instance : StrT Try.prog 78 [(0, 1)] [.nilFunc] := ⟨by kernel_rfl⟩
instance : TyC Try.prog 79 false 1 := ⟨by kernel_rfl⟩
instance : ZeroT Try.prog 79 [.nilFunc] := ⟨by kernel_rfl⟩
instance : TyC Try.prog 80 false 1 := ⟨by kernel_rfl⟩
instance : ZeroT Try.prog 80 [.nilFunc] := ⟨by kernel_rfl⟩
instance : TyC Try.prog 86 false 1 := ⟨by kernel_rfl⟩
instance : ZeroT Try.prog 86 [.nilFunc] := ⟨by kernel_rfl⟩
instance : TyC Try.prog 87 false 1 := ⟨by kernel_rfl⟩
instance : ZeroT Try.prog 87 [.int .u32 0] := ⟨by kernel_rfl⟩
instance : IntT Try.prog 87 .u32 := ⟨by kernel_rfl⟩
instance : TyC Try.prog 90 false 1 := ⟨by kernel_rfl⟩
instance : ZeroT Try.prog 90 [.nilFunc] := ⟨by kernel_rfl⟩
instance : TyC Try.prog 91 false 1 := ⟨by kernel_rfl⟩
instance : ZeroT Try.prog 91 [.pointer none] := ⟨by kernel_rfl⟩
instance : EqInts Try.prog 27 2 := ⟨fun w x y p q ha hb => by
  match p, q, ha, hb with
  | [a0, a1], [b0, b1], _, _ =>
    constructor <;> (simp [go_sem, Sem.run_bind]; (repeat split) <;> simp_all)⟩
instance : EqInts Try.prog 28 2 := ⟨fun w x y p q ha hb => by
  match p, q, ha, hb with
  | [a0, a1], [b0, b1], _, _ =>
    constructor <;> (simp [go_sem, Sem.run_bind]; (repeat split) <;> simp_all)⟩
instance : EqInts Try.prog 48 2 := ⟨fun w x y p q ha hb => by
  match p, q, ha, hb with
  | [a0, a1], [b0, b1], _, _ =>
    constructor <;> (simp [go_sem, Sem.run_bind]; (repeat split) <;> simp_all)⟩
instance : EqInts Try.prog 49 2 := ⟨fun w x y p q ha hb => by
  match p, q, ha, hb with
  | [a0, a1], [b0, b1], _, _ =>
    constructor <;> (simp [go_sem, Sem.run_bind]; (repeat split) <;> simp_all)⟩
instance : EqInts Try.prog 53 4 := ⟨fun w x y p q ha hb => by
  match p, q, ha, hb with
  | [a0, a1, a2, a3], [b0, b1, b2, b3], _, _ =>
    constructor <;> (simp [go_sem, Sem.run_bind]; (repeat split) <;> simp_all)⟩
instance : EqInts Try.prog 54 4 := ⟨fun w x y p q ha hb => by
  match p, q, ha, hb with
  | [a0, a1, a2, a3], [b0, b1, b2, b3], _, _ =>
    constructor <;> (simp [go_sem, Sem.run_bind]; (repeat split) <;> simp_all)⟩
end Go.Proofs.Ytanlfjboahfanaa.Ev
