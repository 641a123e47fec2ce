/-
  PRINTED by my sx.py: the types' and functions' facts as instances.
-/
import Derived.Test.YtdhgjihimjibdaaSxL
import Derived.Test.YtdhgjihimjibdaaRows
namespace Go.Sx
open Go.Proofs
instance : Mix Try.prog := ⟨by kernel_rfl⟩
instance : Und Try.prog 2 (.int .i64) := ⟨Try.underlying2⟩
instance : Inf Try.prog 2 1 8 (.int .i64 0) := Inf.of (by kernel_rfl)
instance : Und Try.prog 3 (.int .i64) := ⟨Try.underlying3⟩
instance : Inf Try.prog 3 1 8 (.int .i64 0) := Inf.of (by kernel_rfl)
instance : Und Try.prog 4 (.bool) := ⟨Try.underlying4⟩
instance : Inf Try.prog 4 1 1 (.bool false) := Inf.of (by kernel_rfl)
instance : Und Try.prog 5 (.int .u8) := ⟨Try.underlying5⟩
instance : Inf Try.prog 5 1 1 (.int .u8 0) := Inf.of (by kernel_rfl)
instance : Und Try.prog 9 (.string) := ⟨Try.underlying9⟩
instance : Inf Try.prog 9 1 16 (.string ⟨#[]⟩) := Inf.of (by kernel_rfl)
instance : Und Try.prog 12 (.int .u64) := ⟨Try.underlying12⟩
instance : Inf Try.prog 12 1 8 (.int .u64 0) := Inf.of (by kernel_rfl)
instance : Und Try.prog 13 (.struct #[{ name := "msg", type := 9, offset := 0, embedded := false, tag := "", pkgPath := "runtime", byteOffset := 0 }, { name := "addr", type := 12, offset := 1, embedded := false, tag := "", pkgPath := "runtime", byteOffset := 16 }]) := ⟨Try.underlying13⟩
instance : Inf Try.prog 13 2 24 (.agg #[.string ⟨#[]⟩, .int .u64 0]) := Inf.of (by kernel_rfl)
instance : Und Try.prog 19 (.struct #[{ name := "typ", type := 17, offset := 0, embedded := false, tag := "", pkgPath := "internal/runtime/maps", byteOffset := 0 }]) := ⟨Try.underlying19⟩
instance : Inf Try.prog 19 1 8 (.agg #[.pointer none]) := Inf.of (by kernel_rfl)
instance : Und Try.prog 21 (.int .i32) := ⟨Try.underlying21⟩
instance : Inf Try.prog 21 1 4 (.int .i32 0) := Inf.of (by kernel_rfl)
instance : Und Try.prog 22 (.slice 5) := ⟨Try.underlying22⟩
instance : Inf Try.prog 22 1 24 (.slice none 0 0) := Inf.of (by kernel_rfl)
instance : Und Try.prog 23 (.pointer 64) := ⟨Try.underlying23⟩
instance : Inf Try.prog 23 1 8 (.pointer none) := Inf.of (by kernel_rfl)
instance : Und Try.prog 28 (.int .u64) := ⟨Try.underlying28⟩
instance : Inf Try.prog 28 1 8 (.int .u64 0) := Inf.of (by kernel_rfl)
instance : Und Try.prog 29 (.struct #[{ name := "Index", type := 28, offset := 0, embedded := false, tag := "", pkgPath := "", byteOffset := 0 }, { name := "Term", type := 28, offset := 1, embedded := false, tag := "", pkgPath := "", byteOffset := 8 }, { name := "Conf", type := 3, offset := 2, embedded := false, tag := "", pkgPath := "", byteOffset := 16 }]) := ⟨Try.underlying29⟩
instance : Inf Try.prog 29 3 24 (.agg #[.int .u64 0, .int .u64 0, .int .i64 0]) := Inf.of (by kernel_rfl)
instance : Und Try.prog 30 (.struct #[{ name := "Index", type := 28, offset := 0, embedded := false, tag := "", pkgPath := "", byteOffset := 0 }, { name := "Term", type := 28, offset := 1, embedded := false, tag := "", pkgPath := "", byteOffset := 8 }, { name := "Conf", type := 3, offset := 2, embedded := false, tag := "", pkgPath := "", byteOffset := 16 }]) := ⟨Try.underlying30⟩
instance : Inf Try.prog 30 3 24 (.agg #[.int .u64 0, .int .u64 0, .int .i64 0]) := Inf.of (by kernel_rfl)
instance : Und Try.prog 33 (.slice 38) := ⟨Try.underlying33⟩
instance : Inf Try.prog 33 1 24 (.slice none 0 0) := Inf.of (by kernel_rfl)
instance : Und Try.prog 34 (.pointer 36) := ⟨Try.underlying34⟩
instance : Inf Try.prog 34 1 8 (.pointer none) := Inf.of (by kernel_rfl)
instance : Und Try.prog 35 (.struct #[{ name := "B", type := 30, offset := 0, embedded := false, tag := "", pkgPath := "", byteOffset := 0 }, { name := "Data", type := 22, offset := 3, embedded := false, tag := "", pkgPath := "", byteOffset := 24 }]) := ⟨Try.underlying35⟩
instance : Inf Try.prog 35 4 48 (.agg #[.int .u64 0, .int .u64 0, .int .i64 0, .slice none 0 0]) := Inf.of (by kernel_rfl)
instance : Und Try.prog 36 (.struct #[{ name := "B", type := 30, offset := 0, embedded := false, tag := "", pkgPath := "", byteOffset := 0 }, { name := "Data", type := 22, offset := 3, embedded := false, tag := "", pkgPath := "", byteOffset := 24 }]) := ⟨Try.underlying36⟩
instance : Inf Try.prog 36 4 48 (.agg #[.int .u64 0, .int .u64 0, .int .i64 0, .slice none 0 0]) := Inf.of (by kernel_rfl)
instance : Und Try.prog 37 (.struct #[{ name := "B", type := 28, offset := 0, embedded := false, tag := "", pkgPath := "", byteOffset := 0 }, { name := "Offset", type := 3, offset := 1, embedded := false, tag := "", pkgPath := "", byteOffset := 8 }, { name := "Part", type := 22, offset := 2, embedded := false, tag := "", pkgPath := "", byteOffset := 16 }, { name := "Last", type := 4, offset := 3, embedded := false, tag := "", pkgPath := "", byteOffset := 40 }, { name := "Near", type := 4, offset := 4, embedded := false, tag := "", pkgPath := "", byteOffset := 41 }, { name := "What", type := 3, offset := 5, embedded := false, tag := "", pkgPath := "", byteOffset := 48 }]) := ⟨Try.underlying37⟩
instance : Inf Try.prog 37 6 56 (.agg #[.int .u64 0, .int .i64 0, .slice none 0 0, .bool false, .bool false, .int .i64 0]) := Inf.of (by kernel_rfl)
instance : Und Try.prog 38 (.struct #[{ name := "B", type := 28, offset := 0, embedded := false, tag := "", pkgPath := "", byteOffset := 0 }, { name := "Offset", type := 3, offset := 1, embedded := false, tag := "", pkgPath := "", byteOffset := 8 }, { name := "Part", type := 22, offset := 2, embedded := false, tag := "", pkgPath := "", byteOffset := 16 }, { name := "Last", type := 4, offset := 3, embedded := false, tag := "", pkgPath := "", byteOffset := 40 }, { name := "Near", type := 4, offset := 4, embedded := false, tag := "", pkgPath := "", byteOffset := 41 }, { name := "What", type := 3, offset := 5, embedded := false, tag := "", pkgPath := "", byteOffset := 48 }]) := ⟨Try.underlying38⟩
instance : Inf Try.prog 38 6 56 (.agg #[.int .u64 0, .int .i64 0, .slice none 0 0, .bool false, .bool false, .int .i64 0]) := Inf.of (by kernel_rfl)
instance : Und Try.prog 49 (.slice 22) := ⟨Try.underlying49⟩
instance : Inf Try.prog 49 1 24 (.slice none 0 0) := Inf.of (by kernel_rfl)
instance : Und Try.prog 56 (.slice 3) := ⟨Try.underlying56⟩
instance : Inf Try.prog 56 1 24 (.slice none 0 0) := Inf.of (by kernel_rfl)
instance : Und Try.prog 63 (.struct #[{ name := "base", type := 30, offset := 0, embedded := false, tag := "", pkgPath := "bursar/chunk", byteOffset := 0 }, { name := "data", type := 22, offset := 3, embedded := false, tag := "", pkgPath := "bursar/chunk", byteOffset := 24 }]) := ⟨Try.underlying63⟩
instance : Inf Try.prog 63 4 48 (.agg #[.int .u64 0, .int .u64 0, .int .i64 0, .slice none 0 0]) := Inf.of (by kernel_rfl)
instance : Und Try.prog 64 (.struct #[{ name := "base", type := 30, offset := 0, embedded := false, tag := "", pkgPath := "bursar/chunk", byteOffset := 0 }, { name := "data", type := 22, offset := 3, embedded := false, tag := "", pkgPath := "bursar/chunk", byteOffset := 24 }]) := ⟨Try.underlying64⟩
instance : Inf Try.prog 64 4 48 (.agg #[.int .u64 0, .int .u64 0, .int .i64 0, .slice none 0 0]) := Inf.of (by kernel_rfl)
instance : Und Try.prog 66 (.int .u32) := ⟨Try.underlying66⟩
instance : Inf Try.prog 66 1 4 (.int .u32 0) := Inf.of (by kernel_rfl)
instance : Und Try.prog 68 (.int .u64) := ⟨Try.underlying68⟩
instance : Inf Try.prog 68 1 8 (.int .u64 0) := Inf.of (by kernel_rfl)
instance : Und Try.prog 81 (.pointer 5) := ⟨Try.underlying81⟩
instance : Inf Try.prog 81 1 8 (.pointer none) := Inf.of (by kernel_rfl)
instance : Und Try.prog 86 (.unsafePointer) := ⟨Try.underlying86⟩
instance : Inf Try.prog 86 1 8 (.pointer none) := Inf.of (by kernel_rfl)
instance : Fld Try.prog 13 0 0 := ⟨fun _ _ _ => by kernel_rfl⟩
instance : FldV Try.prog 13 0 0 1 false := FldV.of 9 rfl rfl rfl rfl
instance : Fld Try.prog 13 1 1 := ⟨fun _ _ _ => by kernel_rfl⟩
instance : FldV Try.prog 13 1 1 1 false := FldV.of 12 rfl rfl rfl rfl
instance : Bld Try.prog 13 [(0, 1), (1, 1)] [.string ⟨#[]⟩, .int .u64 0] := Bld.of rfl (fun _ => by kernel_rfl)
instance : Fld Try.prog 19 0 0 := ⟨fun _ _ _ => by kernel_rfl⟩
instance : Fld Try.prog 29 0 0 := ⟨fun _ _ _ => by kernel_rfl⟩
instance : FldV Try.prog 29 0 0 1 false := FldV.of 28 rfl rfl rfl rfl
instance : Fld Try.prog 29 1 1 := ⟨fun _ _ _ => by kernel_rfl⟩
instance : FldV Try.prog 29 1 1 1 false := FldV.of 28 rfl rfl rfl rfl
instance : Fld Try.prog 29 2 2 := ⟨fun _ _ _ => by kernel_rfl⟩
instance : FldV Try.prog 29 2 2 1 false := FldV.of 3 rfl rfl rfl rfl
instance : Bld Try.prog 29 [(0, 1), (1, 1), (2, 1)] [.int .u64 0, .int .u64 0, .int .i64 0] := Bld.of rfl (fun _ => by kernel_rfl)
instance : Fld Try.prog 30 0 0 := ⟨fun _ _ _ => by kernel_rfl⟩
instance : FldV Try.prog 30 0 0 1 false := FldV.of 28 rfl rfl rfl rfl
instance : Fld Try.prog 30 1 1 := ⟨fun _ _ _ => by kernel_rfl⟩
instance : FldV Try.prog 30 1 1 1 false := FldV.of 28 rfl rfl rfl rfl
instance : Fld Try.prog 30 2 2 := ⟨fun _ _ _ => by kernel_rfl⟩
instance : FldV Try.prog 30 2 2 1 false := FldV.of 3 rfl rfl rfl rfl
instance : Bld Try.prog 30 [(0, 1), (1, 1), (2, 1)] [.int .u64 0, .int .u64 0, .int .i64 0] := Bld.of rfl (fun _ => by kernel_rfl)
instance : Fld Try.prog 35 0 0 := ⟨fun _ _ _ => by kernel_rfl⟩
instance : FldV Try.prog 35 0 0 3 true := FldV.of 30 rfl rfl rfl rfl
instance : Fld Try.prog 35 1 3 := ⟨fun _ _ _ => by kernel_rfl⟩
instance : FldV Try.prog 35 1 3 1 false := FldV.of 22 rfl rfl rfl rfl
instance : Bld Try.prog 35 [(0, 3), (3, 1)] [.int .u64 0, .int .u64 0, .int .i64 0, .slice none 0 0] := Bld.of rfl (fun _ => by kernel_rfl)
instance : Fld Try.prog 36 0 0 := ⟨fun _ _ _ => by kernel_rfl⟩
instance : FldV Try.prog 36 0 0 3 true := FldV.of 30 rfl rfl rfl rfl
instance : Fld Try.prog 36 1 3 := ⟨fun _ _ _ => by kernel_rfl⟩
instance : FldV Try.prog 36 1 3 1 false := FldV.of 22 rfl rfl rfl rfl
instance : Bld Try.prog 36 [(0, 3), (3, 1)] [.int .u64 0, .int .u64 0, .int .i64 0, .slice none 0 0] := Bld.of rfl (fun _ => by kernel_rfl)
instance : Fld Try.prog 37 0 0 := ⟨fun _ _ _ => by kernel_rfl⟩
instance : FldV Try.prog 37 0 0 1 false := FldV.of 28 rfl rfl rfl rfl
instance : Fld Try.prog 37 1 1 := ⟨fun _ _ _ => by kernel_rfl⟩
instance : FldV Try.prog 37 1 1 1 false := FldV.of 3 rfl rfl rfl rfl
instance : Fld Try.prog 37 2 2 := ⟨fun _ _ _ => by kernel_rfl⟩
instance : FldV Try.prog 37 2 2 1 false := FldV.of 22 rfl rfl rfl rfl
instance : Fld Try.prog 37 3 3 := ⟨fun _ _ _ => by kernel_rfl⟩
instance : FldV Try.prog 37 3 3 1 false := FldV.of 4 rfl rfl rfl rfl
instance : Fld Try.prog 37 4 4 := ⟨fun _ _ _ => by kernel_rfl⟩
instance : FldV Try.prog 37 4 4 1 false := FldV.of 4 rfl rfl rfl rfl
instance : Fld Try.prog 37 5 5 := ⟨fun _ _ _ => by kernel_rfl⟩
instance : FldV Try.prog 37 5 5 1 false := FldV.of 3 rfl rfl rfl rfl
instance : Bld Try.prog 37 [(0, 1), (1, 1), (2, 1), (3, 1), (4, 1), (5, 1)] [.int .u64 0, .int .i64 0, .slice none 0 0, .bool false, .bool false, .int .i64 0] := Bld.of rfl (fun _ => by kernel_rfl)
instance : Fld Try.prog 38 0 0 := ⟨fun _ _ _ => by kernel_rfl⟩
instance : FldV Try.prog 38 0 0 1 false := FldV.of 28 rfl rfl rfl rfl
instance : Fld Try.prog 38 1 1 := ⟨fun _ _ _ => by kernel_rfl⟩
instance : FldV Try.prog 38 1 1 1 false := FldV.of 3 rfl rfl rfl rfl
instance : Fld Try.prog 38 2 2 := ⟨fun _ _ _ => by kernel_rfl⟩
instance : FldV Try.prog 38 2 2 1 false := FldV.of 22 rfl rfl rfl rfl
instance : Fld Try.prog 38 3 3 := ⟨fun _ _ _ => by kernel_rfl⟩
instance : FldV Try.prog 38 3 3 1 false := FldV.of 4 rfl rfl rfl rfl
instance : Fld Try.prog 38 4 4 := ⟨fun _ _ _ => by kernel_rfl⟩
instance : FldV Try.prog 38 4 4 1 false := FldV.of 4 rfl rfl rfl rfl
instance : Fld Try.prog 38 5 5 := ⟨fun _ _ _ => by kernel_rfl⟩
instance : FldV Try.prog 38 5 5 1 false := FldV.of 3 rfl rfl rfl rfl
instance : Bld Try.prog 38 [(0, 1), (1, 1), (2, 1), (3, 1), (4, 1), (5, 1)] [.int .u64 0, .int .i64 0, .slice none 0 0, .bool false, .bool false, .int .i64 0] := Bld.of rfl (fun _ => by kernel_rfl)
instance : Fld Try.prog 63 0 0 := ⟨fun _ _ _ => by kernel_rfl⟩
instance : FldV Try.prog 63 0 0 3 true := FldV.of 30 rfl rfl rfl rfl
instance : Fld Try.prog 63 1 3 := ⟨fun _ _ _ => by kernel_rfl⟩
instance : FldV Try.prog 63 1 3 1 false := FldV.of 22 rfl rfl rfl rfl
instance : Bld Try.prog 63 [(0, 3), (3, 1)] [.int .u64 0, .int .u64 0, .int .i64 0, .slice none 0 0] := Bld.of rfl (fun _ => by kernel_rfl)
instance : Fld Try.prog 64 0 0 := ⟨fun _ _ _ => by kernel_rfl⟩
instance : FldV Try.prog 64 0 0 3 true := FldV.of 30 rfl rfl rfl rfl
instance : Fld Try.prog 64 1 3 := ⟨fun _ _ _ => by kernel_rfl⟩
instance : FldV Try.prog 64 1 3 1 false := FldV.of 22 rfl rfl rfl rfl
instance : Bld Try.prog 64 [(0, 3), (3, 1)] [.int .u64 0, .int .u64 0, .int .i64 0, .slice none 0 0] := Bld.of rfl (fun _ => by kernel_rfl)
instance : Ent Try.prog 3 := Ent.of Try.func3 (by kernel_rfl) (by kernel_rfl)
instance : Ent Try.prog 4 := Ent.of Try.func4 (by kernel_rfl) (by kernel_rfl)
instance : Ent Try.prog 5 := Ent.of Try.func5 (by kernel_rfl) (by kernel_rfl)
instance : Ent Try.prog 6 := Ent.of Try.func6 (by kernel_rfl) (by kernel_rfl)
instance : Ent Try.prog 7 := Ent.of Try.func7 (by kernel_rfl) (by kernel_rfl)
instance : Ent Try.prog 8 := Ent.of Try.func8 (by kernel_rfl) (by kernel_rfl)
instance : Ent Try.prog 9 := Ent.of Try.func9 (by kernel_rfl) (by kernel_rfl)
instance : Ent Try.prog 10 := Ent.of Try.func10 (by kernel_rfl) (by kernel_rfl)
instance : Ent Try.prog 11 := Ent.of Try.func11 (by kernel_rfl) (by kernel_rfl)
instance : Ent Try.prog 12 := Ent.of Try.func12 (by kernel_rfl) (by kernel_rfl)
instance : Ent Try.prog 13 := Ent.of Try.func13 (by kernel_rfl) (by kernel_rfl)
instance : Ent Try.prog 14 := Ent.of Try.func14 (by kernel_rfl) (by kernel_rfl)
instance : Ent Try.prog 15 := Ent.of Try.func15 (by kernel_rfl) (by kernel_rfl)
instance : Ent Try.prog 16 := Ent.of Try.func16 (by kernel_rfl) (by kernel_rfl)
instance : Ent Try.prog 17 := Ent.of Try.func17 (by kernel_rfl) (by kernel_rfl)
instance : Ent Try.prog 18 := Ent.of Try.func18 (by kernel_rfl) (by kernel_rfl)
instance : Ent Try.prog 19 := Ent.of Try.func19 (by kernel_rfl) (by kernel_rfl)
instance : Ent Try.prog 20 := Ent.of Try.func20 (by kernel_rfl) (by kernel_rfl)
instance : Ent Try.prog 21 := Ent.of Try.func21 (by kernel_rfl) (by kernel_rfl)
instance : Ent Try.prog 22 := Ent.of Try.func22 (by kernel_rfl) (by kernel_rfl)
instance : Ent Try.prog 23 := Ent.of Try.func23 (by kernel_rfl) (by kernel_rfl)
instance : Ent Try.prog 24 := Ent.of Try.func24 (by kernel_rfl) (by kernel_rfl)
instance : Ent Try.prog 25 := Ent.of Try.func25 (by kernel_rfl) (by kernel_rfl)
instance : Ent Try.prog 26 := Ent.of Try.func26 (by kernel_rfl) (by kernel_rfl)
instance : Ent Try.prog 27 := Ent.of Try.func27 (by kernel_rfl) (by kernel_rfl)
instance : Ent Try.prog 28 := Ent.of Try.func28 (by kernel_rfl) (by kernel_rfl)
instance : Ent Try.prog 29 := Ent.of Try.func29 (by kernel_rfl) (by kernel_rfl)
instance : Ent Try.prog 30 := Ent.of Try.func30 (by kernel_rfl) (by kernel_rfl)
instance : Ent Try.prog 31 := Ent.of Try.func31 (by kernel_rfl) (by kernel_rfl)
instance : Ent Try.prog 32 := Ent.of Try.func32 (by kernel_rfl) (by kernel_rfl)
instance : Ent Try.prog 33 := Ent.of Try.func33 (by kernel_rfl) (by kernel_rfl)
instance : Ent Try.prog 34 := Ent.of Try.func34 (by kernel_rfl) (by kernel_rfl)
instance : Ent Try.prog 35 := Ent.of Try.func35 (by kernel_rfl) (by kernel_rfl)
instance : Ent Try.prog 36 := Ent.of Try.func36 (by kernel_rfl) (by kernel_rfl)
instance : Ent Try.prog 37 := Ent.of Try.func37 (by kernel_rfl) (by kernel_rfl)
instance : Ent Try.prog 38 := Ent.of Try.func38 (by kernel_rfl) (by kernel_rfl)
instance : Ent Try.prog 39 := Ent.of Try.func39 (by kernel_rfl) (by kernel_rfl)
end Go.Sx
