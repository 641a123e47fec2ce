/-
  PRINTED by my sx.py: the types' and functions' facts as instances.
-/
import Derived.Test.YtohdhkddnnokfaaSxU
import Derived.Test.YtohdhkddnnokfaaRows
namespace Go.Sx
open Go.Proofs
instance : Mix Try.prog := ⟨by kernel_rfl⟩
instance : Und Try.prog 2 (.int .i64) := ⟨Try.underlying2⟩
instance : Inf Try.prog 2 1 8 (.int .i64 0) := Inf.of (by kernel_rfl)
instance : Und Try.prog 3 (.int .i64) := ⟨Try.underlying3⟩
instance : Inf Try.prog 3 1 8 (.int .i64 0) := Inf.of (by kernel_rfl)
instance : Und Try.prog 4 (.bool) := ⟨Try.underlying4⟩
instance : Inf Try.prog 4 1 1 (.bool false) := Inf.of (by kernel_rfl)
instance : Und Try.prog 5 (.int .u8) := ⟨Try.underlying5⟩
instance : Inf Try.prog 5 1 1 (.int .u8 0) := Inf.of (by kernel_rfl)
instance : Und Try.prog 9 (.string) := ⟨Try.underlying9⟩
instance : Inf Try.prog 9 1 16 (.string ⟨#[]⟩) := Inf.of (by kernel_rfl)
instance : Und Try.prog 12 (.int .u64) := ⟨Try.underlying12⟩
instance : Inf Try.prog 12 1 8 (.int .u64 0) := Inf.of (by kernel_rfl)
instance : Und Try.prog 13 (.struct #[{ name := "msg", type := 9, offset := 0, embedded := false, tag := "", pkgPath := "runtime", byteOffset := 0 }, { name := "addr", type := 12, offset := 1, embedded := false, tag := "", pkgPath := "runtime", byteOffset := 16 }]) := ⟨Try.underlying13⟩
instance : Inf Try.prog 13 2 24 (.agg #[.string ⟨#[]⟩, .int .u64 0]) := Inf.of (by kernel_rfl)
instance : Und Try.prog 19 (.struct #[{ name := "typ", type := 17, offset := 0, embedded := false, tag := "", pkgPath := "internal/runtime/maps", byteOffset := 0 }]) := ⟨Try.underlying19⟩
instance : Inf Try.prog 19 1 8 (.agg #[.pointer none]) := Inf.of (by kernel_rfl)
instance : Und Try.prog 21 (.int .i32) := ⟨Try.underlying21⟩
instance : Inf Try.prog 21 1 4 (.int .i32 0) := Inf.of (by kernel_rfl)
instance : Und Try.prog 22 (.pointer 72) := ⟨Try.underlying22⟩
instance : Inf Try.prog 22 1 8 (.pointer none) := Inf.of (by kernel_rfl)
instance : Und Try.prog 23 (.int .i64) := ⟨Try.underlying23⟩
instance : Inf Try.prog 23 1 8 (.int .i64 0) := Inf.of (by kernel_rfl)
instance : Und Try.prog 26 (.int .u64) := ⟨Try.underlying26⟩
instance : Inf Try.prog 26 1 8 (.int .u64 0) := Inf.of (by kernel_rfl)
instance : Und Try.prog 29 (.slice 26) := ⟨Try.underlying29⟩
instance : Inf Try.prog 29 1 24 (.slice none 0 0) := Inf.of (by kernel_rfl)
instance : Und Try.prog 31 (.struct #[{ name := "Hi", type := 2, offset := 0, embedded := false, tag := "", pkgPath := "", byteOffset := 0 }, { name := "Lo", type := 26, offset := 1, embedded := false, tag := "", pkgPath := "", byteOffset := 8 }]) := ⟨Try.underlying31⟩
instance : Inf Try.prog 31 2 16 (.agg #[.int .i64 0, .int .u64 0]) := Inf.of (by kernel_rfl)
instance : Und Try.prog 32 (.struct #[{ name := "Hi", type := 2, offset := 0, embedded := false, tag := "", pkgPath := "", byteOffset := 0 }, { name := "Lo", type := 26, offset := 1, embedded := false, tag := "", pkgPath := "", byteOffset := 8 }]) := ⟨Try.underlying32⟩
instance : Inf Try.prog 32 2 16 (.agg #[.int .i64 0, .int .u64 0]) := Inf.of (by kernel_rfl)
instance : Und Try.prog 33 (.struct #[{ name := "C", type := 32, offset := 0, embedded := false, tag := "", pkgPath := "", byteOffset := 0 }, { name := "Scale", type := 3, offset := 2, embedded := false, tag := "", pkgPath := "", byteOffset := 16 }]) := ⟨Try.underlying33⟩
instance : Inf Try.prog 33 3 24 (.agg #[.int .i64 0, .int .u64 0, .int .i64 0]) := Inf.of (by kernel_rfl)
instance : Und Try.prog 34 (.struct #[{ name := "C", type := 32, offset := 0, embedded := false, tag := "", pkgPath := "", byteOffset := 0 }, { name := "Scale", type := 3, offset := 2, embedded := false, tag := "", pkgPath := "", byteOffset := 16 }]) := ⟨Try.underlying34⟩
instance : Inf Try.prog 34 3 24 (.agg #[.int .i64 0, .int .u64 0, .int .i64 0]) := Inf.of (by kernel_rfl)
instance : Und Try.prog 35 (.struct #[{ name := "Code", type := 23, offset := 0, embedded := false, tag := "", pkgPath := "", byteOffset := 0 }, { name := "Value", type := 26, offset := 1, embedded := false, tag := "", pkgPath := "", byteOffset := 8 }, { name := "Amount", type := 34, offset := 2, embedded := false, tag := "", pkgPath := "", byteOffset := 16 }]) := ⟨Try.underlying35⟩
instance : Inf Try.prog 35 5 40 (.agg #[.int .i64 0, .int .u64 0, .int .i64 0, .int .u64 0, .int .i64 0]) := Inf.of (by kernel_rfl)
instance : Und Try.prog 36 (.struct #[{ name := "Code", type := 23, offset := 0, embedded := false, tag := "", pkgPath := "", byteOffset := 0 }, { name := "Value", type := 26, offset := 1, embedded := false, tag := "", pkgPath := "", byteOffset := 8 }, { name := "Amount", type := 34, offset := 2, embedded := false, tag := "", pkgPath := "", byteOffset := 16 }]) := ⟨Try.underlying36⟩
instance : Inf Try.prog 36 5 40 (.agg #[.int .i64 0, .int .u64 0, .int .i64 0, .int .u64 0, .int .i64 0]) := Inf.of (by kernel_rfl)
instance : Und Try.prog 39 (.slice 43) := ⟨Try.underlying39⟩
instance : Inf Try.prog 39 1 24 (.slice none 0 0) := Inf.of (by kernel_rfl)
instance : Und Try.prog 41 (.slice 62) := ⟨Try.underlying41⟩
instance : Inf Try.prog 41 1 24 (.slice none 0 0) := Inf.of (by kernel_rfl)
instance : Und Try.prog 42 (.struct #[{ name := "ID", type := 26, offset := 0, embedded := false, tag := "", pkgPath := "", byteOffset := 0 }, { name := "Seq", type := 26, offset := 1, embedded := false, tag := "", pkgPath := "", byteOffset := 8 }, { name := "Used", type := 26, offset := 2, embedded := false, tag := "", pkgPath := "", byteOffset := 16 }, { name := "Kept", type := 41, offset := 3, embedded := false, tag := "", pkgPath := "", byteOffset := 24 }]) := ⟨Try.underlying42⟩
instance : Inf Try.prog 42 4 48 (.agg #[.int .u64 0, .int .u64 0, .int .u64 0, .slice none 0 0]) := Inf.of (by kernel_rfl)
instance : Und Try.prog 43 (.struct #[{ name := "ID", type := 26, offset := 0, embedded := false, tag := "", pkgPath := "", byteOffset := 0 }, { name := "Seq", type := 26, offset := 1, embedded := false, tag := "", pkgPath := "", byteOffset := 8 }, { name := "Used", type := 26, offset := 2, embedded := false, tag := "", pkgPath := "", byteOffset := 16 }, { name := "Kept", type := 41, offset := 3, embedded := false, tag := "", pkgPath := "", byteOffset := 24 }]) := ⟨Try.underlying43⟩
instance : Inf Try.prog 43 4 48 (.agg #[.int .u64 0, .int .u64 0, .int .u64 0, .slice none 0 0]) := Inf.of (by kernel_rfl)
instance : Und Try.prog 44 (.slice 48) := ⟨Try.underlying44⟩
instance : Inf Try.prog 44 1 24 (.slice none 0 0) := Inf.of (by kernel_rfl)
instance : Und Try.prog 47 (.struct #[{ name := "What", type := 3, offset := 0, embedded := false, tag := "", pkgPath := "", byteOffset := 0 }, { name := "ID", type := 26, offset := 1, embedded := false, tag := "", pkgPath := "", byteOffset := 8 }, { name := "Seq", type := 26, offset := 2, embedded := false, tag := "", pkgPath := "", byteOffset := 16 }, { name := "Now", type := 26, offset := 3, embedded := false, tag := "", pkgPath := "", byteOffset := 24 }, { name := "R", type := 36, offset := 4, embedded := false, tag := "", pkgPath := "", byteOffset := 32 }, { name := "Near", type := 4, offset := 9, embedded := false, tag := "", pkgPath := "", byteOffset := 72 }]) := ⟨Try.underlying47⟩
instance : Inf Try.prog 47 10 80 (.agg #[.int .i64 0, .int .u64 0, .int .u64 0, .int .u64 0, .int .i64 0, .int .u64 0, .int .i64 0, .int .u64 0, .int .i64 0, .bool false]) := Inf.of (by kernel_rfl)
instance : Und Try.prog 48 (.struct #[{ name := "What", type := 3, offset := 0, embedded := false, tag := "", pkgPath := "", byteOffset := 0 }, { name := "ID", type := 26, offset := 1, embedded := false, tag := "", pkgPath := "", byteOffset := 8 }, { name := "Seq", type := 26, offset := 2, embedded := false, tag := "", pkgPath := "", byteOffset := 16 }, { name := "Now", type := 26, offset := 3, embedded := false, tag := "", pkgPath := "", byteOffset := 24 }, { name := "R", type := 36, offset := 4, embedded := false, tag := "", pkgPath := "", byteOffset := 32 }, { name := "Near", type := 4, offset := 9, embedded := false, tag := "", pkgPath := "", byteOffset := 72 }]) := ⟨Try.underlying48⟩
instance : Inf Try.prog 48 10 80 (.agg #[.int .i64 0, .int .u64 0, .int .u64 0, .int .u64 0, .int .i64 0, .int .u64 0, .int .i64 0, .int .u64 0, .int .i64 0, .bool false]) := Inf.of (by kernel_rfl)
instance : Und Try.prog 56 (.pointer 58) := ⟨Try.underlying56⟩
instance : Inf Try.prog 56 1 8 (.pointer none) := Inf.of (by kernel_rfl)
instance : Und Try.prog 57 (.struct #[{ name := "L", type := 39, offset := 0, embedded := false, tag := "", pkgPath := "", byteOffset := 0 }, { name := "Most", type := 3, offset := 1, embedded := false, tag := "", pkgPath := "", byteOffset := 24 }, { name := "Life", type := 26, offset := 2, embedded := false, tag := "", pkgPath := "", byteOffset := 32 }]) := ⟨Try.underlying57⟩
instance : Inf Try.prog 57 3 40 (.agg #[.slice none 0 0, .int .i64 0, .int .u64 0]) := Inf.of (by kernel_rfl)
instance : Und Try.prog 58 (.struct #[{ name := "L", type := 39, offset := 0, embedded := false, tag := "", pkgPath := "", byteOffset := 0 }, { name := "Most", type := 3, offset := 1, embedded := false, tag := "", pkgPath := "", byteOffset := 24 }, { name := "Life", type := 26, offset := 2, embedded := false, tag := "", pkgPath := "", byteOffset := 32 }]) := ⟨Try.underlying58⟩
instance : Inf Try.prog 58 3 40 (.agg #[.slice none 0 0, .int .i64 0, .int .u64 0]) := Inf.of (by kernel_rfl)
instance : Und Try.prog 61 (.struct #[{ name := "Seq", type := 26, offset := 0, embedded := false, tag := "", pkgPath := "", byteOffset := 0 }, { name := "Reply", type := 36, offset := 1, embedded := false, tag := "", pkgPath := "", byteOffset := 8 }]) := ⟨Try.underlying61⟩
instance : Inf Try.prog 61 6 48 (.agg #[.int .u64 0, .int .i64 0, .int .u64 0, .int .i64 0, .int .u64 0, .int .i64 0]) := Inf.of (by kernel_rfl)
instance : Und Try.prog 62 (.struct #[{ name := "Seq", type := 26, offset := 0, embedded := false, tag := "", pkgPath := "", byteOffset := 0 }, { name := "Reply", type := 36, offset := 1, embedded := false, tag := "", pkgPath := "", byteOffset := 8 }]) := ⟨Try.underlying62⟩
instance : Inf Try.prog 62 6 48 (.agg #[.int .u64 0, .int .i64 0, .int .u64 0, .int .i64 0, .int .u64 0, .int .i64 0]) := Inf.of (by kernel_rfl)
instance : Und Try.prog 68 (.pointer 87) := ⟨Try.underlying68⟩
instance : Inf Try.prog 68 1 8 (.pointer none) := Inf.of (by kernel_rfl)
instance : Und Try.prog 71 (.struct #[{ name := "life", type := 26, offset := 0, embedded := false, tag := "", pkgPath := "bursar/session", byteOffset := 0 }, { name := "rows", type := 68, offset := 1, embedded := false, tag := "", pkgPath := "bursar/session", byteOffset := 8 }, { name := "most", type := 3, offset := 2, embedded := false, tag := "", pkgPath := "bursar/session", byteOffset := 16 }]) := ⟨Try.underlying71⟩
instance : Inf Try.prog 71 3 24 (.agg #[.int .u64 0, .pointer none, .int .i64 0]) := Inf.of (by kernel_rfl)
instance : Und Try.prog 72 (.struct #[{ name := "life", type := 26, offset := 0, embedded := false, tag := "", pkgPath := "bursar/session", byteOffset := 0 }, { name := "rows", type := 68, offset := 1, embedded := false, tag := "", pkgPath := "bursar/session", byteOffset := 8 }, { name := "most", type := 3, offset := 2, embedded := false, tag := "", pkgPath := "bursar/session", byteOffset := 16 }]) := ⟨Try.underlying72⟩
instance : Inf Try.prog 72 3 24 (.agg #[.int .u64 0, .pointer none, .int .i64 0]) := Inf.of (by kernel_rfl)
instance : Und Try.prog 84 (.pointer 43) := ⟨Try.underlying84⟩
instance : Inf Try.prog 84 1 8 (.pointer none) := Inf.of (by kernel_rfl)
instance : Und Try.prog 86 (.struct #[{ name := "keys", type := 29, offset := 0, embedded := false, tag := "", pkgPath := "bursar/table", byteOffset := 0 }, { name := "vals", type := 39, offset := 1, embedded := false, tag := "", pkgPath := "bursar/table", byteOffset := 24 }, { name := "most", type := 3, offset := 2, embedded := false, tag := "", pkgPath := "bursar/table", byteOffset := 48 }]) := ⟨Try.underlying86⟩
instance : Inf Try.prog 86 3 56 (.agg #[.slice none 0 0, .slice none 0 0, .int .i64 0]) := Inf.of (by kernel_rfl)
instance : Und Try.prog 87 (.struct #[{ name := "keys", type := 29, offset := 0, embedded := false, tag := "", pkgPath := "bursar/table", byteOffset := 0 }, { name := "vals", type := 39, offset := 1, embedded := false, tag := "", pkgPath := "bursar/table", byteOffset := 24 }, { name := "most", type := 3, offset := 2, embedded := false, tag := "", pkgPath := "bursar/table", byteOffset := 48 }]) := ⟨Try.underlying87⟩
instance : Inf Try.prog 87 3 56 (.agg #[.slice none 0 0, .slice none 0 0, .int .i64 0]) := Inf.of (by kernel_rfl)
instance : Und Try.prog 96 (.int .u64) := ⟨Try.underlying96⟩
instance : Inf Try.prog 96 1 8 (.int .u64 0) := Inf.of (by kernel_rfl)
instance : Und Try.prog 108 (.int .u32) := ⟨Try.underlying108⟩
instance : Inf Try.prog 108 1 4 (.int .u32 0) := Inf.of (by kernel_rfl)
instance : Und Try.prog 112 (.pointer 5) := ⟨Try.underlying112⟩
instance : Inf Try.prog 112 1 8 (.pointer none) := Inf.of (by kernel_rfl)
instance : Und Try.prog 117 (.unsafePointer) := ⟨Try.underlying117⟩
instance : Inf Try.prog 117 1 8 (.pointer none) := Inf.of (by kernel_rfl)
instance : Fld Try.prog 13 0 0 := ⟨fun _ _ _ => by kernel_rfl⟩
instance : FldV Try.prog 13 0 0 1 false := FldV.of 9 rfl rfl rfl rfl
instance : Fld Try.prog 13 1 1 := ⟨fun _ _ _ => by kernel_rfl⟩
instance : FldV Try.prog 13 1 1 1 false := FldV.of 12 rfl rfl rfl rfl
instance : Bld Try.prog 13 [(0, 1), (1, 1)] [.string ⟨#[]⟩, .int .u64 0] := Bld.of rfl (fun _ => by kernel_rfl)
instance : Fld Try.prog 19 0 0 := ⟨fun _ _ _ => by kernel_rfl⟩
instance : Fld Try.prog 31 0 0 := ⟨fun _ _ _ => by kernel_rfl⟩
instance : FldV Try.prog 31 0 0 1 false := FldV.of 2 rfl rfl rfl rfl
instance : Fld Try.prog 31 1 1 := ⟨fun _ _ _ => by kernel_rfl⟩
instance : FldV Try.prog 31 1 1 1 false := FldV.of 26 rfl rfl rfl rfl
instance : Bld Try.prog 31 [(0, 1), (1, 1)] [.int .i64 0, .int .u64 0] := Bld.of rfl (fun _ => by kernel_rfl)
instance : Fld Try.prog 32 0 0 := ⟨fun _ _ _ => by kernel_rfl⟩
instance : FldV Try.prog 32 0 0 1 false := FldV.of 2 rfl rfl rfl rfl
instance : Fld Try.prog 32 1 1 := ⟨fun _ _ _ => by kernel_rfl⟩
instance : FldV Try.prog 32 1 1 1 false := FldV.of 26 rfl rfl rfl rfl
instance : Bld Try.prog 32 [(0, 1), (1, 1)] [.int .i64 0, .int .u64 0] := Bld.of rfl (fun _ => by kernel_rfl)
instance : Fld Try.prog 33 0 0 := ⟨fun _ _ _ => by kernel_rfl⟩
instance : FldV Try.prog 33 0 0 2 true := FldV.of 32 rfl rfl rfl rfl
instance : Fld Try.prog 33 1 2 := ⟨fun _ _ _ => by kernel_rfl⟩
instance : FldV Try.prog 33 1 2 1 false := FldV.of 3 rfl rfl rfl rfl
instance : Bld Try.prog 33 [(0, 2), (2, 1)] [.int .i64 0, .int .u64 0, .int .i64 0] := Bld.of rfl (fun _ => by kernel_rfl)
instance : Fld Try.prog 34 0 0 := ⟨fun _ _ _ => by kernel_rfl⟩
instance : FldV Try.prog 34 0 0 2 true := FldV.of 32 rfl rfl rfl rfl
instance : Fld Try.prog 34 1 2 := ⟨fun _ _ _ => by kernel_rfl⟩
instance : FldV Try.prog 34 1 2 1 false := FldV.of 3 rfl rfl rfl rfl
instance : Bld Try.prog 34 [(0, 2), (2, 1)] [.int .i64 0, .int .u64 0, .int .i64 0] := Bld.of rfl (fun _ => by kernel_rfl)
instance : Fld Try.prog 35 0 0 := ⟨fun _ _ _ => by kernel_rfl⟩
instance : FldV Try.prog 35 0 0 1 false := FldV.of 23 rfl rfl rfl rfl
instance : Fld Try.prog 35 1 1 := ⟨fun _ _ _ => by kernel_rfl⟩
instance : FldV Try.prog 35 1 1 1 false := FldV.of 26 rfl rfl rfl rfl
instance : Fld Try.prog 35 2 2 := ⟨fun _ _ _ => by kernel_rfl⟩
instance : FldV Try.prog 35 2 2 3 true := FldV.of 34 rfl rfl rfl rfl
instance : Bld Try.prog 35 [(0, 1), (1, 1), (2, 3)] [.int .i64 0, .int .u64 0, .int .i64 0, .int .u64 0, .int .i64 0] := Bld.of rfl (fun _ => by kernel_rfl)
instance : Fld Try.prog 36 0 0 := ⟨fun _ _ _ => by kernel_rfl⟩
instance : FldV Try.prog 36 0 0 1 false := FldV.of 23 rfl rfl rfl rfl
instance : Fld Try.prog 36 1 1 := ⟨fun _ _ _ => by kernel_rfl⟩
instance : FldV Try.prog 36 1 1 1 false := FldV.of 26 rfl rfl rfl rfl
instance : Fld Try.prog 36 2 2 := ⟨fun _ _ _ => by kernel_rfl⟩
instance : FldV Try.prog 36 2 2 3 true := FldV.of 34 rfl rfl rfl rfl
instance : Bld Try.prog 36 [(0, 1), (1, 1), (2, 3)] [.int .i64 0, .int .u64 0, .int .i64 0, .int .u64 0, .int .i64 0] := Bld.of rfl (fun _ => by kernel_rfl)
instance : Fld Try.prog 42 0 0 := ⟨fun _ _ _ => by kernel_rfl⟩
instance : FldV Try.prog 42 0 0 1 false := FldV.of 26 rfl rfl rfl rfl
instance : Fld Try.prog 42 1 1 := ⟨fun _ _ _ => by kernel_rfl⟩
instance : FldV Try.prog 42 1 1 1 false := FldV.of 26 rfl rfl rfl rfl
instance : Fld Try.prog 42 2 2 := ⟨fun _ _ _ => by kernel_rfl⟩
instance : FldV Try.prog 42 2 2 1 false := FldV.of 26 rfl rfl rfl rfl
instance : Fld Try.prog 42 3 3 := ⟨fun _ _ _ => by kernel_rfl⟩
instance : FldV Try.prog 42 3 3 1 false := FldV.of 41 rfl rfl rfl rfl
instance : Bld Try.prog 42 [(0, 1), (1, 1), (2, 1), (3, 1)] [.int .u64 0, .int .u64 0, .int .u64 0, .slice none 0 0] := Bld.of rfl (fun _ => by kernel_rfl)
instance : Fld Try.prog 43 0 0 := ⟨fun _ _ _ => by kernel_rfl⟩
instance : FldV Try.prog 43 0 0 1 false := FldV.of 26 rfl rfl rfl rfl
instance : Fld Try.prog 43 1 1 := ⟨fun _ _ _ => by kernel_rfl⟩
instance : FldV Try.prog 43 1 1 1 false := FldV.of 26 rfl rfl rfl rfl
instance : Fld Try.prog 43 2 2 := ⟨fun _ _ _ => by kernel_rfl⟩
instance : FldV Try.prog 43 2 2 1 false := FldV.of 26 rfl rfl rfl rfl
instance : Fld Try.prog 43 3 3 := ⟨fun _ _ _ => by kernel_rfl⟩
instance : FldV Try.prog 43 3 3 1 false := FldV.of 41 rfl rfl rfl rfl
instance : Bld Try.prog 43 [(0, 1), (1, 1), (2, 1), (3, 1)] [.int .u64 0, .int .u64 0, .int .u64 0, .slice none 0 0] := Bld.of rfl (fun _ => by kernel_rfl)
instance : Fld Try.prog 47 0 0 := ⟨fun _ _ _ => by kernel_rfl⟩
instance : FldV Try.prog 47 0 0 1 false := FldV.of 3 rfl rfl rfl rfl
instance : Fld Try.prog 47 1 1 := ⟨fun _ _ _ => by kernel_rfl⟩
instance : FldV Try.prog 47 1 1 1 false := FldV.of 26 rfl rfl rfl rfl
instance : Fld Try.prog 47 2 2 := ⟨fun _ _ _ => by kernel_rfl⟩
instance : FldV Try.prog 47 2 2 1 false := FldV.of 26 rfl rfl rfl rfl
instance : Fld Try.prog 47 3 3 := ⟨fun _ _ _ => by kernel_rfl⟩
instance : FldV Try.prog 47 3 3 1 false := FldV.of 26 rfl rfl rfl rfl
instance : Fld Try.prog 47 4 4 := ⟨fun _ _ _ => by kernel_rfl⟩
instance : FldV Try.prog 47 4 4 5 true := FldV.of 36 rfl rfl rfl rfl
instance : Fld Try.prog 47 5 9 := ⟨fun _ _ _ => by kernel_rfl⟩
instance : FldV Try.prog 47 5 9 1 false := FldV.of 4 rfl rfl rfl rfl
instance : Bld Try.prog 47 [(0, 1), (1, 1), (2, 1), (3, 1), (4, 5), (9, 1)] [.int .i64 0, .int .u64 0, .int .u64 0, .int .u64 0, .int .i64 0, .int .u64 0, .int .i64 0, .int .u64 0, .int .i64 0, .bool false] := Bld.of rfl (fun _ => by kernel_rfl)
instance : Fld Try.prog 48 0 0 := ⟨fun _ _ _ => by kernel_rfl⟩
instance : FldV Try.prog 48 0 0 1 false := FldV.of 3 rfl rfl rfl rfl
instance : Fld Try.prog 48 1 1 := ⟨fun _ _ _ => by kernel_rfl⟩
instance : FldV Try.prog 48 1 1 1 false := FldV.of 26 rfl rfl rfl rfl
instance : Fld Try.prog 48 2 2 := ⟨fun _ _ _ => by kernel_rfl⟩
instance : FldV Try.prog 48 2 2 1 false := FldV.of 26 rfl rfl rfl rfl
instance : Fld Try.prog 48 3 3 := ⟨fun _ _ _ => by kernel_rfl⟩
instance : FldV Try.prog 48 3 3 1 false := FldV.of 26 rfl rfl rfl rfl
instance : Fld Try.prog 48 4 4 := ⟨fun _ _ _ => by kernel_rfl⟩
instance : FldV Try.prog 48 4 4 5 true := FldV.of 36 rfl rfl rfl rfl
instance : Fld Try.prog 48 5 9 := ⟨fun _ _ _ => by kernel_rfl⟩
instance : FldV Try.prog 48 5 9 1 false := FldV.of 4 rfl rfl rfl rfl
instance : Bld Try.prog 48 [(0, 1), (1, 1), (2, 1), (3, 1), (4, 5), (9, 1)] [.int .i64 0, .int .u64 0, .int .u64 0, .int .u64 0, .int .i64 0, .int .u64 0, .int .i64 0, .int .u64 0, .int .i64 0, .bool false] := Bld.of rfl (fun _ => by kernel_rfl)
instance : Fld Try.prog 57 0 0 := ⟨fun _ _ _ => by kernel_rfl⟩
instance : FldV Try.prog 57 0 0 1 false := FldV.of 39 rfl rfl rfl rfl
instance : Fld Try.prog 57 1 1 := ⟨fun _ _ _ => by kernel_rfl⟩
instance : FldV Try.prog 57 1 1 1 false := FldV.of 3 rfl rfl rfl rfl
instance : Fld Try.prog 57 2 2 := ⟨fun _ _ _ => by kernel_rfl⟩
instance : FldV Try.prog 57 2 2 1 false := FldV.of 26 rfl rfl rfl rfl
instance : Bld Try.prog 57 [(0, 1), (1, 1), (2, 1)] [.slice none 0 0, .int .i64 0, .int .u64 0] := Bld.of rfl (fun _ => by kernel_rfl)
instance : Fld Try.prog 58 0 0 := ⟨fun _ _ _ => by kernel_rfl⟩
instance : FldV Try.prog 58 0 0 1 false := FldV.of 39 rfl rfl rfl rfl
instance : Fld Try.prog 58 1 1 := ⟨fun _ _ _ => by kernel_rfl⟩
instance : FldV Try.prog 58 1 1 1 false := FldV.of 3 rfl rfl rfl rfl
instance : Fld Try.prog 58 2 2 := ⟨fun _ _ _ => by kernel_rfl⟩
instance : FldV Try.prog 58 2 2 1 false := FldV.of 26 rfl rfl rfl rfl
instance : Bld Try.prog 58 [(0, 1), (1, 1), (2, 1)] [.slice none 0 0, .int .i64 0, .int .u64 0] := Bld.of rfl (fun _ => by kernel_rfl)
instance : Fld Try.prog 61 0 0 := ⟨fun _ _ _ => by kernel_rfl⟩
instance : FldV Try.prog 61 0 0 1 false := FldV.of 26 rfl rfl rfl rfl
instance : Fld Try.prog 61 1 1 := ⟨fun _ _ _ => by kernel_rfl⟩
instance : FldV Try.prog 61 1 1 5 true := FldV.of 36 rfl rfl rfl rfl
instance : Bld Try.prog 61 [(0, 1), (1, 5)] [.int .u64 0, .int .i64 0, .int .u64 0, .int .i64 0, .int .u64 0, .int .i64 0] := Bld.of rfl (fun _ => by kernel_rfl)
instance : Fld Try.prog 62 0 0 := ⟨fun _ _ _ => by kernel_rfl⟩
instance : FldV Try.prog 62 0 0 1 false := FldV.of 26 rfl rfl rfl rfl
instance : Fld Try.prog 62 1 1 := ⟨fun _ _ _ => by kernel_rfl⟩
instance : FldV Try.prog 62 1 1 5 true := FldV.of 36 rfl rfl rfl rfl
instance : Bld Try.prog 62 [(0, 1), (1, 5)] [.int .u64 0, .int .i64 0, .int .u64 0, .int .i64 0, .int .u64 0, .int .i64 0] := Bld.of rfl (fun _ => by kernel_rfl)
instance : Fld Try.prog 71 0 0 := ⟨fun _ _ _ => by kernel_rfl⟩
instance : FldV Try.prog 71 0 0 1 false := FldV.of 26 rfl rfl rfl rfl
instance : Fld Try.prog 71 1 1 := ⟨fun _ _ _ => by kernel_rfl⟩
instance : FldV Try.prog 71 1 1 1 false := FldV.of 68 rfl rfl rfl rfl
instance : Fld Try.prog 71 2 2 := ⟨fun _ _ _ => by kernel_rfl⟩
instance : FldV Try.prog 71 2 2 1 false := FldV.of 3 rfl rfl rfl rfl
instance : Bld Try.prog 71 [(0, 1), (1, 1), (2, 1)] [.int .u64 0, .pointer none, .int .i64 0] := Bld.of rfl (fun _ => by kernel_rfl)
instance : Fld Try.prog 72 0 0 := ⟨fun _ _ _ => by kernel_rfl⟩
instance : FldV Try.prog 72 0 0 1 false := FldV.of 26 rfl rfl rfl rfl
instance : Fld Try.prog 72 1 1 := ⟨fun _ _ _ => by kernel_rfl⟩
instance : FldV Try.prog 72 1 1 1 false := FldV.of 68 rfl rfl rfl rfl
instance : Fld Try.prog 72 2 2 := ⟨fun _ _ _ => by kernel_rfl⟩
instance : FldV Try.prog 72 2 2 1 false := FldV.of 3 rfl rfl rfl rfl
instance : Bld Try.prog 72 [(0, 1), (1, 1), (2, 1)] [.int .u64 0, .pointer none, .int .i64 0] := Bld.of rfl (fun _ => by kernel_rfl)
instance : Fld Try.prog 86 0 0 := ⟨fun _ _ _ => by kernel_rfl⟩
instance : FldV Try.prog 86 0 0 1 false := FldV.of 29 rfl rfl rfl rfl
instance : Fld Try.prog 86 1 1 := ⟨fun _ _ _ => by kernel_rfl⟩
instance : FldV Try.prog 86 1 1 1 false := FldV.of 39 rfl rfl rfl rfl
instance : Fld Try.prog 86 2 2 := ⟨fun _ _ _ => by kernel_rfl⟩
instance : FldV Try.prog 86 2 2 1 false := FldV.of 3 rfl rfl rfl rfl
instance : Bld Try.prog 86 [(0, 1), (1, 1), (2, 1)] [.slice none 0 0, .slice none 0 0, .int .i64 0] := Bld.of rfl (fun _ => by kernel_rfl)
instance : Fld Try.prog 87 0 0 := ⟨fun _ _ _ => by kernel_rfl⟩
instance : FldV Try.prog 87 0 0 1 false := FldV.of 29 rfl rfl rfl rfl
instance : Fld Try.prog 87 1 1 := ⟨fun _ _ _ => by kernel_rfl⟩
instance : FldV Try.prog 87 1 1 1 false := FldV.of 39 rfl rfl rfl rfl
instance : Fld Try.prog 87 2 2 := ⟨fun _ _ _ => by kernel_rfl⟩
instance : FldV Try.prog 87 2 2 1 false := FldV.of 3 rfl rfl rfl rfl
instance : Bld Try.prog 87 [(0, 1), (1, 1), (2, 1)] [.slice none 0 0, .slice none 0 0, .int .i64 0] := Bld.of rfl (fun _ => by kernel_rfl)
instance : Ent Try.prog 3 := Ent.of Try.func3 (by kernel_rfl) (by kernel_rfl)
instance : Ent Try.prog 4 := Ent.of Try.func4 (by kernel_rfl) (by kernel_rfl)
instance : Ent Try.prog 5 := Ent.of Try.func5 (by kernel_rfl) (by kernel_rfl)
instance : Ent Try.prog 6 := Ent.of Try.func6 (by kernel_rfl) (by kernel_rfl)
instance : Ent Try.prog 7 := Ent.of Try.func7 (by kernel_rfl) (by kernel_rfl)
instance : Ent Try.prog 8 := Ent.of Try.func8 (by kernel_rfl) (by kernel_rfl)
instance : Ent Try.prog 9 := Ent.of Try.func9 (by kernel_rfl) (by kernel_rfl)
instance : Ent Try.prog 10 := Ent.of Try.func10 (by kernel_rfl) (by kernel_rfl)
instance : Ent Try.prog 11 := Ent.of Try.func11 (by kernel_rfl) (by kernel_rfl)
instance : Ent Try.prog 12 := Ent.of Try.func12 (by kernel_rfl) (by kernel_rfl)
instance : Ent Try.prog 13 := Ent.of Try.func13 (by kernel_rfl) (by kernel_rfl)
instance : Ent Try.prog 14 := Ent.of Try.func14 (by kernel_rfl) (by kernel_rfl)
instance : Ent Try.prog 15 := Ent.of Try.func15 (by kernel_rfl) (by kernel_rfl)
instance : Ent Try.prog 16 := Ent.of Try.func16 (by kernel_rfl) (by kernel_rfl)
instance : Ent Try.prog 17 := Ent.of Try.func17 (by kernel_rfl) (by kernel_rfl)
instance : Ent Try.prog 18 := Ent.of Try.func18 (by kernel_rfl) (by kernel_rfl)
instance : Ent Try.prog 19 := Ent.of Try.func19 (by kernel_rfl) (by kernel_rfl)
instance : Ent Try.prog 20 := Ent.of Try.func20 (by kernel_rfl) (by kernel_rfl)
instance : Ent Try.prog 21 := Ent.of Try.func21 (by kernel_rfl) (by kernel_rfl)
instance : Ent Try.prog 22 := Ent.of Try.func22 (by kernel_rfl) (by kernel_rfl)
instance : Ent Try.prog 23 := Ent.of Try.func23 (by kernel_rfl) (by kernel_rfl)
instance : Ent Try.prog 24 := Ent.of Try.func24 (by kernel_rfl) (by kernel_rfl)
instance : Ent Try.prog 25 := Ent.of Try.func25 (by kernel_rfl) (by kernel_rfl)
instance : Ent Try.prog 26 := Ent.of Try.func26 (by kernel_rfl) (by kernel_rfl)
instance : Ent Try.prog 27 := Ent.of Try.func27 (by kernel_rfl) (by kernel_rfl)
instance : Ent Try.prog 28 := Ent.of Try.func28 (by kernel_rfl) (by kernel_rfl)
instance : Ent Try.prog 29 := Ent.of Try.func29 (by kernel_rfl) (by kernel_rfl)
instance : Ent Try.prog 30 := Ent.of Try.func30 (by kernel_rfl) (by kernel_rfl)
instance : Ent Try.prog 31 := Ent.of Try.func31 (by kernel_rfl) (by kernel_rfl)
instance : Ent Try.prog 32 := Ent.of Try.func32 (by kernel_rfl) (by kernel_rfl)
instance : Ent Try.prog 33 := Ent.of Try.func33 (by kernel_rfl) (by kernel_rfl)
instance : Ent Try.prog 34 := Ent.of Try.func34 (by kernel_rfl) (by kernel_rfl)
instance : Ent Try.prog 35 := Ent.of Try.func35 (by kernel_rfl) (by kernel_rfl)
instance : Ent Try.prog 36 := Ent.of Try.func36 (by kernel_rfl) (by kernel_rfl)
instance : Ent Try.prog 37 := Ent.of Try.func37 (by kernel_rfl) (by kernel_rfl)
instance : Ent Try.prog 38 := Ent.of Try.func38 (by kernel_rfl) (by kernel_rfl)
instance : Ent Try.prog 39 := Ent.of Try.func39 (by kernel_rfl) (by kernel_rfl)
instance : Ent Try.prog 40 := Ent.of Try.func40 (by kernel_rfl) (by kernel_rfl)
instance : Ent Try.prog 41 := Ent.of Try.func41 (by kernel_rfl) (by kernel_rfl)
instance : Ent Try.prog 42 := Ent.of Try.func42 (by kernel_rfl) (by kernel_rfl)
instance : Ent Try.prog 43 := Ent.of Try.func43 (by kernel_rfl) (by kernel_rfl)
instance : Ent Try.prog 44 := Ent.of Try.func44 (by kernel_rfl) (by kernel_rfl)
instance : Ent Try.prog 45 := Ent.of Try.func45 (by kernel_rfl) (by kernel_rfl)
instance : Ent Try.prog 46 := Ent.of Try.func46 (by kernel_rfl) (by kernel_rfl)
instance : Ent Try.prog 47 := Ent.of Try.func47 (by kernel_rfl) (by kernel_rfl)
instance : Ent Try.prog 48 := Ent.of Try.func48 (by kernel_rfl) (by kernel_rfl)
instance : Ent Try.prog 49 := Ent.of Try.func49 (by kernel_rfl) (by kernel_rfl)
instance : Ent Try.prog 50 := Ent.of Try.func50 (by kernel_rfl) (by kernel_rfl)
instance : Ent Try.prog 51 := Ent.of Try.func51 (by kernel_rfl) (by kernel_rfl)
instance : Ent Try.prog 52 := Ent.of Try.func52 (by kernel_rfl) (by kernel_rfl)
instance : Ent Try.prog 54 := Ent.of Try.func54 (by kernel_rfl) (by kernel_rfl)
instance : Ent Try.prog 56 := Ent.of Try.func56 (by kernel_rfl) (by kernel_rfl)
instance : Ent Try.prog 57 := Ent.of Try.func57 (by kernel_rfl) (by kernel_rfl)
instance : Ent Try.prog 58 := Ent.of Try.func58 (by kernel_rfl) (by kernel_rfl)
instance : Ent Try.prog 59 := Ent.of Try.func59 (by kernel_rfl) (by kernel_rfl)
instance : Ent Try.prog 60 := Ent.of Try.func60 (by kernel_rfl) (by kernel_rfl)
instance : Ent Try.prog 61 := Ent.of Try.func61 (by kernel_rfl) (by kernel_rfl)
end Go.Sx
