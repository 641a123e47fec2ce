/-
  PRINTED by my sx.py: the types' and functions' facts as instances.
-/
import Derived.Test.YtcjijappnefgaaaSxS
import Derived.Test.YtcjijappnefgaaaRows
namespace Go.Sx
open Go.Proofs
instance : Mix Try.prog := ⟨by kernel_rfl⟩
instance : Und Try.prog 2 (.int .i64) := ⟨Try.underlying2⟩
instance : Inf Try.prog 2 1 8 (.int .i64 0) := Inf.of (by kernel_rfl)
instance : Und Try.prog 3 (.int .i64) := ⟨Try.underlying3⟩
instance : Inf Try.prog 3 1 8 (.int .i64 0) := Inf.of (by kernel_rfl)
instance : Und Try.prog 4 (.bool) := ⟨Try.underlying4⟩
instance : Inf Try.prog 4 1 1 (.bool false) := Inf.of (by kernel_rfl)
instance : Und Try.prog 5 (.int .u8) := ⟨Try.underlying5⟩
instance : Inf Try.prog 5 1 1 (.int .u8 0) := Inf.of (by kernel_rfl)
instance : Und Try.prog 9 (.string) := ⟨Try.underlying9⟩
instance : Inf Try.prog 9 1 16 (.string ⟨#[]⟩) := Inf.of (by kernel_rfl)
instance : Und Try.prog 12 (.int .u64) := ⟨Try.underlying12⟩
instance : Inf Try.prog 12 1 8 (.int .u64 0) := Inf.of (by kernel_rfl)
instance : Und Try.prog 13 (.struct #[{ name := "msg", type := 9, offset := 0, embedded := false, tag := "", pkgPath := "runtime", byteOffset := 0 }, { name := "addr", type := 12, offset := 1, embedded := false, tag := "", pkgPath := "runtime", byteOffset := 16 }]) := ⟨Try.underlying13⟩
instance : Inf Try.prog 13 2 24 (.agg #[.string ⟨#[]⟩, .int .u64 0]) := Inf.of (by kernel_rfl)
instance : Und Try.prog 19 (.struct #[{ name := "typ", type := 17, offset := 0, embedded := false, tag := "", pkgPath := "internal/runtime/maps", byteOffset := 0 }]) := ⟨Try.underlying19⟩
instance : Inf Try.prog 19 1 8 (.agg #[.pointer none]) := Inf.of (by kernel_rfl)
instance : Und Try.prog 21 (.int .i32) := ⟨Try.underlying21⟩
instance : Inf Try.prog 21 1 4 (.int .i32 0) := Inf.of (by kernel_rfl)
instance : Und Try.prog 22 (.slice 27) := ⟨Try.underlying22⟩
instance : Inf Try.prog 22 1 24 (.slice none 0 0) := Inf.of (by kernel_rfl)
instance : Und Try.prog 24 (.int .u64) := ⟨Try.underlying24⟩
instance : Inf Try.prog 24 1 8 (.int .u64 0) := Inf.of (by kernel_rfl)
instance : Und Try.prog 25 (.slice 5) := ⟨Try.underlying25⟩
instance : Inf Try.prog 25 1 24 (.slice none 0 0) := Inf.of (by kernel_rfl)
instance : Und Try.prog 26 (.struct #[{ name := "Kind", type := 3, offset := 0, embedded := false, tag := "", pkgPath := "", byteOffset := 0 }, { name := "Term", type := 24, offset := 1, embedded := false, tag := "", pkgPath := "", byteOffset := 8 }, { name := "Index", type := 24, offset := 2, embedded := false, tag := "", pkgPath := "", byteOffset := 16 }, { name := "Data", type := 25, offset := 3, embedded := false, tag := "", pkgPath := "", byteOffset := 24 }, { name := "Conf", type := 3, offset := 4, embedded := false, tag := "", pkgPath := "", byteOffset := 48 }]) := ⟨Try.underlying26⟩
instance : Inf Try.prog 26 5 56 (.agg #[.int .i64 0, .int .u64 0, .int .u64 0, .slice none 0 0, .int .i64 0]) := Inf.of (by kernel_rfl)
instance : Und Try.prog 27 (.struct #[{ name := "Kind", type := 3, offset := 0, embedded := false, tag := "", pkgPath := "", byteOffset := 0 }, { name := "Term", type := 24, offset := 1, embedded := false, tag := "", pkgPath := "", byteOffset := 8 }, { name := "Index", type := 24, offset := 2, embedded := false, tag := "", pkgPath := "", byteOffset := 16 }, { name := "Data", type := 25, offset := 3, embedded := false, tag := "", pkgPath := "", byteOffset := 24 }, { name := "Conf", type := 3, offset := 4, embedded := false, tag := "", pkgPath := "", byteOffset := 48 }]) := ⟨Try.underlying27⟩
instance : Inf Try.prog 27 5 56 (.agg #[.int .i64 0, .int .u64 0, .int .u64 0, .slice none 0 0, .int .i64 0]) := Inf.of (by kernel_rfl)
instance : Und Try.prog 29 (.pointer 67) := ⟨Try.underlying29⟩
instance : Inf Try.prog 29 1 8 (.pointer none) := Inf.of (by kernel_rfl)
instance : Und Try.prog 30 (.int .i64) := ⟨Try.underlying30⟩
instance : Inf Try.prog 30 1 8 (.int .i64 0) := Inf.of (by kernel_rfl)
instance : Und Try.prog 33 (.struct #[{ name := "Index", type := 24, offset := 0, embedded := false, tag := "", pkgPath := "", byteOffset := 0 }, { name := "Term", type := 24, offset := 1, embedded := false, tag := "", pkgPath := "", byteOffset := 8 }, { name := "Conf", type := 3, offset := 2, embedded := false, tag := "", pkgPath := "", byteOffset := 16 }]) := ⟨Try.underlying33⟩
instance : Inf Try.prog 33 3 24 (.agg #[.int .u64 0, .int .u64 0, .int .i64 0]) := Inf.of (by kernel_rfl)
instance : Und Try.prog 34 (.struct #[{ name := "Index", type := 24, offset := 0, embedded := false, tag := "", pkgPath := "", byteOffset := 0 }, { name := "Term", type := 24, offset := 1, embedded := false, tag := "", pkgPath := "", byteOffset := 8 }, { name := "Conf", type := 3, offset := 2, embedded := false, tag := "", pkgPath := "", byteOffset := 16 }]) := ⟨Try.underlying34⟩
instance : Inf Try.prog 34 3 24 (.agg #[.int .u64 0, .int .u64 0, .int .i64 0]) := Inf.of (by kernel_rfl)
instance : Und Try.prog 48 (.pointer 74) := ⟨Try.underlying48⟩
instance : Inf Try.prog 48 1 8 (.pointer none) := Inf.of (by kernel_rfl)
instance : Und Try.prog 51 (.struct #[{ name := "What", type := 3, offset := 0, embedded := false, tag := "", pkgPath := "", byteOffset := 0 }, { name := "Index", type := 24, offset := 1, embedded := false, tag := "", pkgPath := "", byteOffset := 8 }, { name := "Term", type := 24, offset := 2, embedded := false, tag := "", pkgPath := "", byteOffset := 16 }, { name := "L", type := 22, offset := 3, embedded := false, tag := "", pkgPath := "", byteOffset := 24 }, { name := "B", type := 34, offset := 4, embedded := false, tag := "", pkgPath := "", byteOffset := 48 }, { name := "Near", type := 4, offset := 7, embedded := false, tag := "", pkgPath := "", byteOffset := 72 }, { name := "Off", type := 3, offset := 8, embedded := false, tag := "", pkgPath := "", byteOffset := 80 }]) := ⟨Try.underlying51⟩
instance : Inf Try.prog 51 9 88 (.agg #[.int .i64 0, .int .u64 0, .int .u64 0, .slice none 0 0, .int .u64 0, .int .u64 0, .int .i64 0, .bool false, .int .i64 0]) := Inf.of (by kernel_rfl)
instance : Und Try.prog 52 (.struct #[{ name := "What", type := 3, offset := 0, embedded := false, tag := "", pkgPath := "", byteOffset := 0 }, { name := "Index", type := 24, offset := 1, embedded := false, tag := "", pkgPath := "", byteOffset := 8 }, { name := "Term", type := 24, offset := 2, embedded := false, tag := "", pkgPath := "", byteOffset := 16 }, { name := "L", type := 22, offset := 3, embedded := false, tag := "", pkgPath := "", byteOffset := 24 }, { name := "B", type := 34, offset := 4, embedded := false, tag := "", pkgPath := "", byteOffset := 48 }, { name := "Near", type := 4, offset := 7, embedded := false, tag := "", pkgPath := "", byteOffset := 72 }, { name := "Off", type := 3, offset := 8, embedded := false, tag := "", pkgPath := "", byteOffset := 80 }]) := ⟨Try.underlying52⟩
instance : Inf Try.prog 52 9 88 (.agg #[.int .i64 0, .int .u64 0, .int .u64 0, .slice none 0 0, .int .u64 0, .int .u64 0, .int .i64 0, .bool false, .int .i64 0]) := Inf.of (by kernel_rfl)
instance : Und Try.prog 61 (.slice 52) := ⟨Try.underlying61⟩
instance : Inf Try.prog 61 1 24 (.slice none 0 0) := Inf.of (by kernel_rfl)
instance : Und Try.prog 64 (.struct #[{ name := "ahead", type := 24, offset := 0, embedded := false, tag := "", pkgPath := "bursar/rlog", byteOffset := 0 }, { name := "list", type := 22, offset := 1, embedded := false, tag := "", pkgPath := "bursar/rlog", byteOffset := 8 }]) := ⟨Try.underlying64⟩
instance : Inf Try.prog 64 2 32 (.agg #[.int .u64 0, .slice none 0 0]) := Inf.of (by kernel_rfl)
instance : Und Try.prog 65 (.struct #[{ name := "ahead", type := 24, offset := 0, embedded := false, tag := "", pkgPath := "bursar/rlog", byteOffset := 0 }, { name := "list", type := 22, offset := 1, embedded := false, tag := "", pkgPath := "bursar/rlog", byteOffset := 8 }]) := ⟨Try.underlying65⟩
instance : Inf Try.prog 65 2 32 (.agg #[.int .u64 0, .slice none 0 0]) := Inf.of (by kernel_rfl)
instance : Und Try.prog 66 (.struct #[{ name := "base", type := 34, offset := 0, embedded := false, tag := "", pkgPath := "bursar/rlog", byteOffset := 0 }, { name := "row", type := 65, offset := 3, embedded := false, tag := "", pkgPath := "bursar/rlog", byteOffset := 24 }]) := ⟨Try.underlying66⟩
instance : Inf Try.prog 66 5 56 (.agg #[.int .u64 0, .int .u64 0, .int .i64 0, .int .u64 0, .slice none 0 0]) := Inf.of (by kernel_rfl)
instance : Und Try.prog 67 (.struct #[{ name := "base", type := 34, offset := 0, embedded := false, tag := "", pkgPath := "bursar/rlog", byteOffset := 0 }, { name := "row", type := 65, offset := 3, embedded := false, tag := "", pkgPath := "bursar/rlog", byteOffset := 24 }]) := ⟨Try.underlying67⟩
instance : Inf Try.prog 67 5 56 (.agg #[.int .u64 0, .int .u64 0, .int .i64 0, .int .u64 0, .slice none 0 0]) := Inf.of (by kernel_rfl)
instance : Und Try.prog 73 (.struct #[{ name := "B", type := 34, offset := 0, embedded := false, tag := "", pkgPath := "", byteOffset := 0 }, { name := "L", type := 22, offset := 3, embedded := false, tag := "", pkgPath := "", byteOffset := 24 }]) := ⟨Try.underlying73⟩
instance : Inf Try.prog 73 4 48 (.agg #[.int .u64 0, .int .u64 0, .int .i64 0, .slice none 0 0]) := Inf.of (by kernel_rfl)
instance : Und Try.prog 74 (.struct #[{ name := "B", type := 34, offset := 0, embedded := false, tag := "", pkgPath := "", byteOffset := 0 }, { name := "L", type := 22, offset := 3, embedded := false, tag := "", pkgPath := "", byteOffset := 24 }]) := ⟨Try.underlying74⟩
instance : Inf Try.prog 74 4 48 (.agg #[.int .u64 0, .int .u64 0, .int .i64 0, .slice none 0 0]) := Inf.of (by kernel_rfl)
instance : Und Try.prog 85 (.pointer 65) := ⟨Try.underlying85⟩
instance : Inf Try.prog 85 1 8 (.pointer none) := Inf.of (by kernel_rfl)
instance : Und Try.prog 93 (.int .u32) := ⟨Try.underlying93⟩
instance : Inf Try.prog 93 1 4 (.int .u32 0) := Inf.of (by kernel_rfl)
instance : Und Try.prog 97 (.pointer 5) := ⟨Try.underlying97⟩
instance : Inf Try.prog 97 1 8 (.pointer none) := Inf.of (by kernel_rfl)
instance : Und Try.prog 102 (.unsafePointer) := ⟨Try.underlying102⟩
instance : Inf Try.prog 102 1 8 (.pointer none) := Inf.of (by kernel_rfl)
instance : Fld Try.prog 13 0 0 := ⟨fun _ _ _ => by kernel_rfl⟩
instance : FldV Try.prog 13 0 0 1 false := FldV.of 9 rfl rfl rfl rfl
instance : Fld Try.prog 13 1 1 := ⟨fun _ _ _ => by kernel_rfl⟩
instance : FldV Try.prog 13 1 1 1 false := FldV.of 12 rfl rfl rfl rfl
instance : Bld Try.prog 13 [(0, 1), (1, 1)] [.string ⟨#[]⟩, .int .u64 0] := Bld.of rfl (fun _ => by kernel_rfl)
instance : Fld Try.prog 19 0 0 := ⟨fun _ _ _ => by kernel_rfl⟩
instance : Fld Try.prog 26 0 0 := ⟨fun _ _ _ => by kernel_rfl⟩
instance : FldV Try.prog 26 0 0 1 false := FldV.of 3 rfl rfl rfl rfl
instance : Fld Try.prog 26 1 1 := ⟨fun _ _ _ => by kernel_rfl⟩
instance : FldV Try.prog 26 1 1 1 false := FldV.of 24 rfl rfl rfl rfl
instance : Fld Try.prog 26 2 2 := ⟨fun _ _ _ => by kernel_rfl⟩
instance : FldV Try.prog 26 2 2 1 false := FldV.of 24 rfl rfl rfl rfl
instance : Fld Try.prog 26 3 3 := ⟨fun _ _ _ => by kernel_rfl⟩
instance : FldV Try.prog 26 3 3 1 false := FldV.of 25 rfl rfl rfl rfl
instance : Fld Try.prog 26 4 4 := ⟨fun _ _ _ => by kernel_rfl⟩
instance : FldV Try.prog 26 4 4 1 false := FldV.of 3 rfl rfl rfl rfl
instance : Bld Try.prog 26 [(0, 1), (1, 1), (2, 1), (3, 1), (4, 1)] [.int .i64 0, .int .u64 0, .int .u64 0, .slice none 0 0, .int .i64 0] := Bld.of rfl (fun _ => by kernel_rfl)
instance : Fld Try.prog 27 0 0 := ⟨fun _ _ _ => by kernel_rfl⟩
instance : FldV Try.prog 27 0 0 1 false := FldV.of 3 rfl rfl rfl rfl
instance : Fld Try.prog 27 1 1 := ⟨fun _ _ _ => by kernel_rfl⟩
instance : FldV Try.prog 27 1 1 1 false := FldV.of 24 rfl rfl rfl rfl
instance : Fld Try.prog 27 2 2 := ⟨fun _ _ _ => by kernel_rfl⟩
instance : FldV Try.prog 27 2 2 1 false := FldV.of 24 rfl rfl rfl rfl
instance : Fld Try.prog 27 3 3 := ⟨fun _ _ _ => by kernel_rfl⟩
instance : FldV Try.prog 27 3 3 1 false := FldV.of 25 rfl rfl rfl rfl
instance : Fld Try.prog 27 4 4 := ⟨fun _ _ _ => by kernel_rfl⟩
instance : FldV Try.prog 27 4 4 1 false := FldV.of 3 rfl rfl rfl rfl
instance : Bld Try.prog 27 [(0, 1), (1, 1), (2, 1), (3, 1), (4, 1)] [.int .i64 0, .int .u64 0, .int .u64 0, .slice none 0 0, .int .i64 0] := Bld.of rfl (fun _ => by kernel_rfl)
instance : Fld Try.prog 33 0 0 := ⟨fun _ _ _ => by kernel_rfl⟩
instance : FldV Try.prog 33 0 0 1 false := FldV.of 24 rfl rfl rfl rfl
instance : Fld Try.prog 33 1 1 := ⟨fun _ _ _ => by kernel_rfl⟩
instance : FldV Try.prog 33 1 1 1 false := FldV.of 24 rfl rfl rfl rfl
instance : Fld Try.prog 33 2 2 := ⟨fun _ _ _ => by kernel_rfl⟩
instance : FldV Try.prog 33 2 2 1 false := FldV.of 3 rfl rfl rfl rfl
instance : Bld Try.prog 33 [(0, 1), (1, 1), (2, 1)] [.int .u64 0, .int .u64 0, .int .i64 0] := Bld.of rfl (fun _ => by kernel_rfl)
instance : Fld Try.prog 34 0 0 := ⟨fun _ _ _ => by kernel_rfl⟩
instance : FldV Try.prog 34 0 0 1 false := FldV.of 24 rfl rfl rfl rfl
instance : Fld Try.prog 34 1 1 := ⟨fun _ _ _ => by kernel_rfl⟩
instance : FldV Try.prog 34 1 1 1 false := FldV.of 24 rfl rfl rfl rfl
instance : Fld Try.prog 34 2 2 := ⟨fun _ _ _ => by kernel_rfl⟩
instance : FldV Try.prog 34 2 2 1 false := FldV.of 3 rfl rfl rfl rfl
instance : Bld Try.prog 34 [(0, 1), (1, 1), (2, 1)] [.int .u64 0, .int .u64 0, .int .i64 0] := Bld.of rfl (fun _ => by kernel_rfl)
instance : Fld Try.prog 51 0 0 := ⟨fun _ _ _ => by kernel_rfl⟩
instance : FldV Try.prog 51 0 0 1 false := FldV.of 3 rfl rfl rfl rfl
instance : Fld Try.prog 51 1 1 := ⟨fun _ _ _ => by kernel_rfl⟩
instance : FldV Try.prog 51 1 1 1 false := FldV.of 24 rfl rfl rfl rfl
instance : Fld Try.prog 51 2 2 := ⟨fun _ _ _ => by kernel_rfl⟩
instance : FldV Try.prog 51 2 2 1 false := FldV.of 24 rfl rfl rfl rfl
instance : Fld Try.prog 51 3 3 := ⟨fun _ _ _ => by kernel_rfl⟩
instance : FldV Try.prog 51 3 3 1 false := FldV.of 22 rfl rfl rfl rfl
instance : Fld Try.prog 51 4 4 := ⟨fun _ _ _ => by kernel_rfl⟩
instance : FldV Try.prog 51 4 4 3 true := FldV.of 34 rfl rfl rfl rfl
instance : Fld Try.prog 51 5 7 := ⟨fun _ _ _ => by kernel_rfl⟩
instance : FldV Try.prog 51 5 7 1 false := FldV.of 4 rfl rfl rfl rfl
instance : Fld Try.prog 51 6 8 := ⟨fun _ _ _ => by kernel_rfl⟩
instance : FldV Try.prog 51 6 8 1 false := FldV.of 3 rfl rfl rfl rfl
instance : Bld Try.prog 51 [(0, 1), (1, 1), (2, 1), (3, 1), (4, 3), (7, 1), (8, 1)] [.int .i64 0, .int .u64 0, .int .u64 0, .slice none 0 0, .int .u64 0, .int .u64 0, .int .i64 0, .bool false, .int .i64 0] := Bld.of rfl (fun _ => by kernel_rfl)
instance : Fld Try.prog 52 0 0 := ⟨fun _ _ _ => by kernel_rfl⟩
instance : FldV Try.prog 52 0 0 1 false := FldV.of 3 rfl rfl rfl rfl
instance : Fld Try.prog 52 1 1 := ⟨fun _ _ _ => by kernel_rfl⟩
instance : FldV Try.prog 52 1 1 1 false := FldV.of 24 rfl rfl rfl rfl
instance : Fld Try.prog 52 2 2 := ⟨fun _ _ _ => by kernel_rfl⟩
instance : FldV Try.prog 52 2 2 1 false := FldV.of 24 rfl rfl rfl rfl
instance : Fld Try.prog 52 3 3 := ⟨fun _ _ _ => by kernel_rfl⟩
instance : FldV Try.prog 52 3 3 1 false := FldV.of 22 rfl rfl rfl rfl
instance : Fld Try.prog 52 4 4 := ⟨fun _ _ _ => by kernel_rfl⟩
instance : FldV Try.prog 52 4 4 3 true := FldV.of 34 rfl rfl rfl rfl
instance : Fld Try.prog 52 5 7 := ⟨fun _ _ _ => by kernel_rfl⟩
instance : FldV Try.prog 52 5 7 1 false := FldV.of 4 rfl rfl rfl rfl
instance : Fld Try.prog 52 6 8 := ⟨fun _ _ _ => by kernel_rfl⟩
instance : FldV Try.prog 52 6 8 1 false := FldV.of 3 rfl rfl rfl rfl
instance : Bld Try.prog 52 [(0, 1), (1, 1), (2, 1), (3, 1), (4, 3), (7, 1), (8, 1)] [.int .i64 0, .int .u64 0, .int .u64 0, .slice none 0 0, .int .u64 0, .int .u64 0, .int .i64 0, .bool false, .int .i64 0] := Bld.of rfl (fun _ => by kernel_rfl)
instance : Fld Try.prog 64 0 0 := ⟨fun _ _ _ => by kernel_rfl⟩
instance : FldV Try.prog 64 0 0 1 false := FldV.of 24 rfl rfl rfl rfl
instance : Fld Try.prog 64 1 1 := ⟨fun _ _ _ => by kernel_rfl⟩
instance : FldV Try.prog 64 1 1 1 false := FldV.of 22 rfl rfl rfl rfl
instance : Bld Try.prog 64 [(0, 1), (1, 1)] [.int .u64 0, .slice none 0 0] := Bld.of rfl (fun _ => by kernel_rfl)
instance : Fld Try.prog 65 0 0 := ⟨fun _ _ _ => by kernel_rfl⟩
instance : FldV Try.prog 65 0 0 1 false := FldV.of 24 rfl rfl rfl rfl
instance : Fld Try.prog 65 1 1 := ⟨fun _ _ _ => by kernel_rfl⟩
instance : FldV Try.prog 65 1 1 1 false := FldV.of 22 rfl rfl rfl rfl
instance : Bld Try.prog 65 [(0, 1), (1, 1)] [.int .u64 0, .slice none 0 0] := Bld.of rfl (fun _ => by kernel_rfl)
instance : Fld Try.prog 66 0 0 := ⟨fun _ _ _ => by kernel_rfl⟩
instance : FldV Try.prog 66 0 0 3 true := FldV.of 34 rfl rfl rfl rfl
instance : Fld Try.prog 66 1 3 := ⟨fun _ _ _ => by kernel_rfl⟩
instance : FldV Try.prog 66 1 3 2 true := FldV.of 65 rfl rfl rfl rfl
instance : Bld Try.prog 66 [(0, 3), (3, 2)] [.int .u64 0, .int .u64 0, .int .i64 0, .int .u64 0, .slice none 0 0] := Bld.of rfl (fun _ => by kernel_rfl)
instance : Fld Try.prog 67 0 0 := ⟨fun _ _ _ => by kernel_rfl⟩
instance : FldV Try.prog 67 0 0 3 true := FldV.of 34 rfl rfl rfl rfl
instance : Fld Try.prog 67 1 3 := ⟨fun _ _ _ => by kernel_rfl⟩
instance : FldV Try.prog 67 1 3 2 true := FldV.of 65 rfl rfl rfl rfl
instance : Bld Try.prog 67 [(0, 3), (3, 2)] [.int .u64 0, .int .u64 0, .int .i64 0, .int .u64 0, .slice none 0 0] := Bld.of rfl (fun _ => by kernel_rfl)
instance : Fld Try.prog 73 0 0 := ⟨fun _ _ _ => by kernel_rfl⟩
instance : FldV Try.prog 73 0 0 3 true := FldV.of 34 rfl rfl rfl rfl
instance : Fld Try.prog 73 1 3 := ⟨fun _ _ _ => by kernel_rfl⟩
instance : FldV Try.prog 73 1 3 1 false := FldV.of 22 rfl rfl rfl rfl
instance : Bld Try.prog 73 [(0, 3), (3, 1)] [.int .u64 0, .int .u64 0, .int .i64 0, .slice none 0 0] := Bld.of rfl (fun _ => by kernel_rfl)
instance : Fld Try.prog 74 0 0 := ⟨fun _ _ _ => by kernel_rfl⟩
instance : FldV Try.prog 74 0 0 3 true := FldV.of 34 rfl rfl rfl rfl
instance : Fld Try.prog 74 1 3 := ⟨fun _ _ _ => by kernel_rfl⟩
instance : FldV Try.prog 74 1 3 1 false := FldV.of 22 rfl rfl rfl rfl
instance : Bld Try.prog 74 [(0, 3), (3, 1)] [.int .u64 0, .int .u64 0, .int .i64 0, .slice none 0 0] := Bld.of rfl (fun _ => by kernel_rfl)
instance : Ent Try.prog 3 := Ent.of Try.func3 (by kernel_rfl) (by kernel_rfl)
instance : Ent Try.prog 4 := Ent.of Try.func4 (by kernel_rfl) (by kernel_rfl)
instance : Ent Try.prog 5 := Ent.of Try.func5 (by kernel_rfl) (by kernel_rfl)
instance : Ent Try.prog 6 := Ent.of Try.func6 (by kernel_rfl) (by kernel_rfl)
instance : Ent Try.prog 7 := Ent.of Try.func7 (by kernel_rfl) (by kernel_rfl)
instance : Ent Try.prog 8 := Ent.of Try.func8 (by kernel_rfl) (by kernel_rfl)
instance : Ent Try.prog 9 := Ent.of Try.func9 (by kernel_rfl) (by kernel_rfl)
instance : Ent Try.prog 10 := Ent.of Try.func10 (by kernel_rfl) (by kernel_rfl)
instance : Ent Try.prog 11 := Ent.of Try.func11 (by kernel_rfl) (by kernel_rfl)
instance : Ent Try.prog 12 := Ent.of Try.func12 (by kernel_rfl) (by kernel_rfl)
instance : Ent Try.prog 13 := Ent.of Try.func13 (by kernel_rfl) (by kernel_rfl)
instance : Ent Try.prog 14 := Ent.of Try.func14 (by kernel_rfl) (by kernel_rfl)
instance : Ent Try.prog 15 := Ent.of Try.func15 (by kernel_rfl) (by kernel_rfl)
instance : Ent Try.prog 16 := Ent.of Try.func16 (by kernel_rfl) (by kernel_rfl)
instance : Ent Try.prog 17 := Ent.of Try.func17 (by kernel_rfl) (by kernel_rfl)
instance : Ent Try.prog 18 := Ent.of Try.func18 (by kernel_rfl) (by kernel_rfl)
instance : Ent Try.prog 19 := Ent.of Try.func19 (by kernel_rfl) (by kernel_rfl)
instance : Ent Try.prog 20 := Ent.of Try.func20 (by kernel_rfl) (by kernel_rfl)
instance : Ent Try.prog 21 := Ent.of Try.func21 (by kernel_rfl) (by kernel_rfl)
instance : Ent Try.prog 22 := Ent.of Try.func22 (by kernel_rfl) (by kernel_rfl)
instance : Ent Try.prog 23 := Ent.of Try.func23 (by kernel_rfl) (by kernel_rfl)
instance : Ent Try.prog 24 := Ent.of Try.func24 (by kernel_rfl) (by kernel_rfl)
instance : Ent Try.prog 25 := Ent.of Try.func25 (by kernel_rfl) (by kernel_rfl)
instance : Ent Try.prog 26 := Ent.of Try.func26 (by kernel_rfl) (by kernel_rfl)
instance : Ent Try.prog 27 := Ent.of Try.func27 (by kernel_rfl) (by kernel_rfl)
instance : Ent Try.prog 28 := Ent.of Try.func28 (by kernel_rfl) (by kernel_rfl)
instance : Ent Try.prog 29 := Ent.of Try.func29 (by kernel_rfl) (by kernel_rfl)
instance : Ent Try.prog 30 := Ent.of Try.func30 (by kernel_rfl) (by kernel_rfl)
instance : Ent Try.prog 31 := Ent.of Try.func31 (by kernel_rfl) (by kernel_rfl)
instance : Ent Try.prog 32 := Ent.of Try.func32 (by kernel_rfl) (by kernel_rfl)
instance : Ent Try.prog 33 := Ent.of Try.func33 (by kernel_rfl) (by kernel_rfl)
instance : Ent Try.prog 34 := Ent.of Try.func34 (by kernel_rfl) (by kernel_rfl)
instance : Ent Try.prog 35 := Ent.of Try.func35 (by kernel_rfl) (by kernel_rfl)
instance : Ent Try.prog 36 := Ent.of Try.func36 (by kernel_rfl) (by kernel_rfl)
instance : Ent Try.prog 37 := Ent.of Try.func37 (by kernel_rfl) (by kernel_rfl)
instance : Ent Try.prog 38 := Ent.of Try.func38 (by kernel_rfl) (by kernel_rfl)
instance : Ent Try.prog 39 := Ent.of Try.func39 (by kernel_rfl) (by kernel_rfl)
instance : Ent Try.prog 40 := Ent.of Try.func40 (by kernel_rfl) (by kernel_rfl)
instance : Ent Try.prog 41 := Ent.of Try.func41 (by kernel_rfl) (by kernel_rfl)
instance : Ent Try.prog 42 := Ent.of Try.func42 (by kernel_rfl) (by kernel_rfl)
instance : Ent Try.prog 43 := Ent.of Try.func43 (by kernel_rfl) (by kernel_rfl)
instance : Ent Try.prog 44 := Ent.of Try.func44 (by kernel_rfl) (by kernel_rfl)
instance : Ent Try.prog 45 := Ent.of Try.func45 (by kernel_rfl) (by kernel_rfl)
instance : Ent Try.prog 46 := Ent.of Try.func46 (by kernel_rfl) (by kernel_rfl)
instance : Ent Try.prog 47 := Ent.of Try.func47 (by kernel_rfl) (by kernel_rfl)
instance : Ent Try.prog 48 := Ent.of Try.func48 (by kernel_rfl) (by kernel_rfl)
instance : Ent Try.prog 49 := Ent.of Try.func49 (by kernel_rfl) (by kernel_rfl)
instance : Ent Try.prog 50 := Ent.of Try.func50 (by kernel_rfl) (by kernel_rfl)
instance : Ent Try.prog 51 := Ent.of Try.func51 (by kernel_rfl) (by kernel_rfl)
instance : Ent Try.prog 52 := Ent.of Try.func52 (by kernel_rfl) (by kernel_rfl)
instance : Ent Try.prog 53 := Ent.of Try.func53 (by kernel_rfl) (by kernel_rfl)
instance : Ent Try.prog 54 := Ent.of Try.func54 (by kernel_rfl) (by kernel_rfl)
instance : Ent Try.prog 55 := Ent.of Try.func55 (by kernel_rfl) (by kernel_rfl)
instance : Ent Try.prog 56 := Ent.of Try.func56 (by kernel_rfl) (by kernel_rfl)
instance : Ent Try.prog 57 := Ent.of Try.func57 (by kernel_rfl) (by kernel_rfl)
instance : Ent Try.prog 58 := Ent.of Try.func58 (by kernel_rfl) (by kernel_rfl)
instance : Ent Try.prog 59 := Ent.of Try.func59 (by kernel_rfl) (by kernel_rfl)
instance : Ent Try.prog 60 := Ent.of Try.func60 (by kernel_rfl) (by kernel_rfl)
instance : Ent Try.prog 61 := Ent.of Try.func61 (by kernel_rfl) (by kernel_rfl)
instance : Ent Try.prog 62 := Ent.of Try.func62 (by kernel_rfl) (by kernel_rfl)
instance : Ent Try.prog 63 := Ent.of Try.func63 (by kernel_rfl) (by kernel_rfl)
instance : Ent Try.prog 64 := Ent.of Try.func64 (by kernel_rfl) (by kernel_rfl)
instance : Ent Try.prog 65 := Ent.of Try.func65 (by kernel_rfl) (by kernel_rfl)
end Go.Sx
