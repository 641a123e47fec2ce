/-
  PRINTED by my sx.py: the types' and functions' facts as instances.
-/
import Derived.Test.YtmimdoggljemjaaDoorSxU
import Derived.Test.YtmimdoggljemjaaDoorRows
namespace Go.Sx
open Go.Proofs
instance : Mix Tryd.prog := ⟨by kernel_rfl⟩
instance : Und Tryd.prog 2 (.int .i64) := ⟨Tryd.underlying2⟩
instance : Inf Tryd.prog 2 1 8 (.int .i64 0) := Inf.of (by kernel_rfl)
instance : Und Tryd.prog 3 (.int .i64) := ⟨Tryd.underlying3⟩
instance : Inf Tryd.prog 3 1 8 (.int .i64 0) := Inf.of (by kernel_rfl)
instance : Und Tryd.prog 4 (.bool) := ⟨Tryd.underlying4⟩
instance : Inf Tryd.prog 4 1 1 (.bool false) := Inf.of (by kernel_rfl)
instance : Und Tryd.prog 5 (.int .u8) := ⟨Tryd.underlying5⟩
instance : Inf Tryd.prog 5 1 1 (.int .u8 0) := Inf.of (by kernel_rfl)
instance : Und Tryd.prog 9 (.string) := ⟨Tryd.underlying9⟩
instance : Inf Tryd.prog 9 1 16 (.string ⟨#[]⟩) := Inf.of (by kernel_rfl)
instance : Und Tryd.prog 12 (.int .u64) := ⟨Tryd.underlying12⟩
instance : Inf Tryd.prog 12 1 8 (.int .u64 0) := Inf.of (by kernel_rfl)
instance : Und Tryd.prog 13 (.struct #[{ name := "msg", type := 9, offset := 0, embedded := false, tag := "", pkgPath := "runtime", byteOffset := 0 }, { name := "addr", type := 12, offset := 1, embedded := false, tag := "", pkgPath := "runtime", byteOffset := 16 }]) := ⟨Tryd.underlying13⟩
instance : Inf Tryd.prog 13 2 24 (.agg #[.string ⟨#[]⟩, .int .u64 0]) := Inf.of (by kernel_rfl)
instance : Und Tryd.prog 19 (.struct #[{ name := "typ", type := 17, offset := 0, embedded := false, tag := "", pkgPath := "internal/runtime/maps", byteOffset := 0 }]) := ⟨Tryd.underlying19⟩
instance : Inf Tryd.prog 19 1 8 (.agg #[.pointer none]) := Inf.of (by kernel_rfl)
instance : Und Tryd.prog 21 (.int .i32) := ⟨Tryd.underlying21⟩
instance : Inf Tryd.prog 21 1 4 (.int .i32 0) := Inf.of (by kernel_rfl)
instance : Und Tryd.prog 22 (.slice 34) := ⟨Tryd.underlying22⟩
instance : Inf Tryd.prog 22 1 24 (.slice none 0 0) := Inf.of (by kernel_rfl)
instance : Und Tryd.prog 24 (.pointer 40) := ⟨Tryd.underlying24⟩
instance : Inf Tryd.prog 24 1 8 (.pointer none) := Inf.of (by kernel_rfl)
instance : Und Tryd.prog 25 (.int .i64) := ⟨Tryd.underlying25⟩
instance : Inf Tryd.prog 25 1 8 (.int .i64 0) := Inf.of (by kernel_rfl)
instance : Und Tryd.prog 32 (.slice 5) := ⟨Tryd.underlying32⟩
instance : Inf Tryd.prog 32 1 24 (.slice none 0 0) := Inf.of (by kernel_rfl)
instance : Und Tryd.prog 33 (.struct #[{ name := "What", type := 3, offset := 0, embedded := false, tag := "", pkgPath := "", byteOffset := 0 }, { name := "A", type := 3, offset := 1, embedded := false, tag := "", pkgPath := "", byteOffset := 8 }, { name := "B", type := 3, offset := 2, embedded := false, tag := "", pkgPath := "", byteOffset := 16 }, { name := "Name", type := 9, offset := 3, embedded := false, tag := "", pkgPath := "", byteOffset := 24 }, { name := "To", type := 9, offset := 4, embedded := false, tag := "", pkgPath := "", byteOffset := 40 }, { name := "Bytes", type := 32, offset := 5, embedded := false, tag := "", pkgPath := "", byteOffset := 56 }, { name := "Near", type := 4, offset := 6, embedded := false, tag := "", pkgPath := "", byteOffset := 80 }]) := ⟨Tryd.underlying33⟩
instance : Inf Tryd.prog 33 7 88 (.agg #[.int .i64 0, .int .i64 0, .int .i64 0, .string ⟨#[]⟩, .string ⟨#[]⟩, .slice none 0 0, .bool false]) := Inf.of (by kernel_rfl)
instance : Und Tryd.prog 34 (.struct #[{ name := "What", type := 3, offset := 0, embedded := false, tag := "", pkgPath := "", byteOffset := 0 }, { name := "A", type := 3, offset := 1, embedded := false, tag := "", pkgPath := "", byteOffset := 8 }, { name := "B", type := 3, offset := 2, embedded := false, tag := "", pkgPath := "", byteOffset := 16 }, { name := "Name", type := 9, offset := 3, embedded := false, tag := "", pkgPath := "", byteOffset := 24 }, { name := "To", type := 9, offset := 4, embedded := false, tag := "", pkgPath := "", byteOffset := 40 }, { name := "Bytes", type := 32, offset := 5, embedded := false, tag := "", pkgPath := "", byteOffset := 56 }, { name := "Near", type := 4, offset := 6, embedded := false, tag := "", pkgPath := "", byteOffset := 80 }]) := ⟨Tryd.underlying34⟩
instance : Inf Tryd.prog 34 7 88 (.agg #[.int .i64 0, .int .i64 0, .int .i64 0, .string ⟨#[]⟩, .string ⟨#[]⟩, .slice none 0 0, .bool false]) := Inf.of (by kernel_rfl)
instance : Und Tryd.prog 37 (.map 9 32) := ⟨Tryd.underlying37⟩
instance : Inf Tryd.prog 37 1 8 (.map none) := Inf.of (by kernel_rfl)
instance : Und Tryd.prog 38 (.slice 47) := ⟨Tryd.underlying38⟩
instance : Inf Tryd.prog 38 1 24 (.slice none 0 0) := Inf.of (by kernel_rfl)
instance : Und Tryd.prog 39 (.struct #[{ name := "room", type := 3, offset := 0, embedded := false, tag := "", pkgPath := "bursar/disk", byteOffset := 0 }, { name := "synced", type := 37, offset := 1, embedded := false, tag := "", pkgPath := "bursar/disk", byteOffset := 8 }, { name := "now", type := 37, offset := 2, embedded := false, tag := "", pkgPath := "bursar/disk", byteOffset := 16 }, { name := "pending", type := 38, offset := 3, embedded := false, tag := "", pkgPath := "bursar/disk", byteOffset := 24 }, { name := "fuse", type := 3, offset := 4, embedded := false, tag := "", pkgPath := "bursar/disk", byteOffset := 48 }, { name := "down", type := 4, offset := 5, embedded := false, tag := "", pkgPath := "bursar/disk", byteOffset := 56 }]) := ⟨Tryd.underlying39⟩
instance : Inf Tryd.prog 39 6 64 (.agg #[.int .i64 0, .map none, .map none, .slice none 0 0, .int .i64 0, .bool false]) := Inf.of (by kernel_rfl)
instance : Und Tryd.prog 40 (.struct #[{ name := "room", type := 3, offset := 0, embedded := false, tag := "", pkgPath := "bursar/disk", byteOffset := 0 }, { name := "synced", type := 37, offset := 1, embedded := false, tag := "", pkgPath := "bursar/disk", byteOffset := 8 }, { name := "now", type := 37, offset := 2, embedded := false, tag := "", pkgPath := "bursar/disk", byteOffset := 16 }, { name := "pending", type := 38, offset := 3, embedded := false, tag := "", pkgPath := "bursar/disk", byteOffset := 24 }, { name := "fuse", type := 3, offset := 4, embedded := false, tag := "", pkgPath := "bursar/disk", byteOffset := 48 }, { name := "down", type := 4, offset := 5, embedded := false, tag := "", pkgPath := "bursar/disk", byteOffset := 56 }]) := ⟨Tryd.underlying40⟩
instance : Inf Tryd.prog 40 6 64 (.agg #[.int .i64 0, .map none, .map none, .slice none 0 0, .int .i64 0, .bool false]) := Inf.of (by kernel_rfl)
instance : Und Tryd.prog 46 (.struct #[{ name := "kind", type := 3, offset := 0, embedded := false, tag := "", pkgPath := "bursar/disk", byteOffset := 0 }, { name := "name", type := 9, offset := 1, embedded := false, tag := "", pkgPath := "bursar/disk", byteOffset := 8 }, { name := "to", type := 9, offset := 2, embedded := false, tag := "", pkgPath := "bursar/disk", byteOffset := 24 }, { name := "bytes", type := 32, offset := 3, embedded := false, tag := "", pkgPath := "bursar/disk", byteOffset := 40 }, { name := "size", type := 3, offset := 4, embedded := false, tag := "", pkgPath := "bursar/disk", byteOffset := 64 }]) := ⟨Tryd.underlying46⟩
instance : Inf Tryd.prog 46 5 72 (.agg #[.int .i64 0, .string ⟨#[]⟩, .string ⟨#[]⟩, .slice none 0 0, .int .i64 0]) := Inf.of (by kernel_rfl)
instance : Und Tryd.prog 47 (.struct #[{ name := "kind", type := 3, offset := 0, embedded := false, tag := "", pkgPath := "bursar/disk", byteOffset := 0 }, { name := "name", type := 9, offset := 1, embedded := false, tag := "", pkgPath := "bursar/disk", byteOffset := 8 }, { name := "to", type := 9, offset := 2, embedded := false, tag := "", pkgPath := "bursar/disk", byteOffset := 24 }, { name := "bytes", type := 32, offset := 3, embedded := false, tag := "", pkgPath := "bursar/disk", byteOffset := 40 }, { name := "size", type := 3, offset := 4, embedded := false, tag := "", pkgPath := "bursar/disk", byteOffset := 64 }]) := ⟨Tryd.underlying47⟩
instance : Inf Tryd.prog 47 5 72 (.agg #[.int .i64 0, .string ⟨#[]⟩, .string ⟨#[]⟩, .slice none 0 0, .int .i64 0]) := Inf.of (by kernel_rfl)
instance : Und Tryd.prog 55 (.int .u32) := ⟨Tryd.underlying55⟩
instance : Inf Tryd.prog 55 1 4 (.int .u32 0) := Inf.of (by kernel_rfl)
instance : Und Tryd.prog 59 (.pointer 5) := ⟨Tryd.underlying59⟩
instance : Inf Tryd.prog 59 1 8 (.pointer none) := Inf.of (by kernel_rfl)
instance : Und Tryd.prog 64 (.unsafePointer) := ⟨Tryd.underlying64⟩
instance : Inf Tryd.prog 64 1 8 (.pointer none) := Inf.of (by kernel_rfl)
instance : Fld Tryd.prog 13 0 0 := ⟨fun _ _ _ => by kernel_rfl⟩
instance : FldV Tryd.prog 13 0 0 1 false := FldV.of 9 rfl rfl rfl rfl
instance : Fld Tryd.prog 13 1 1 := ⟨fun _ _ _ => by kernel_rfl⟩
instance : FldV Tryd.prog 13 1 1 1 false := FldV.of 12 rfl rfl rfl rfl
instance : Bld Tryd.prog 13 [(0, 1), (1, 1)] [.string ⟨#[]⟩, .int .u64 0] := Bld.of rfl (fun _ => by kernel_rfl)
instance : Fld Tryd.prog 19 0 0 := ⟨fun _ _ _ => by kernel_rfl⟩
instance : Fld Tryd.prog 33 0 0 := ⟨fun _ _ _ => by kernel_rfl⟩
instance : FldV Tryd.prog 33 0 0 1 false := FldV.of 3 rfl rfl rfl rfl
instance : Fld Tryd.prog 33 1 1 := ⟨fun _ _ _ => by kernel_rfl⟩
instance : FldV Tryd.prog 33 1 1 1 false := FldV.of 3 rfl rfl rfl rfl
instance : Fld Tryd.prog 33 2 2 := ⟨fun _ _ _ => by kernel_rfl⟩
instance : FldV Tryd.prog 33 2 2 1 false := FldV.of 3 rfl rfl rfl rfl
instance : Fld Tryd.prog 33 3 3 := ⟨fun _ _ _ => by kernel_rfl⟩
instance : FldV Tryd.prog 33 3 3 1 false := FldV.of 9 rfl rfl rfl rfl
instance : Fld Tryd.prog 33 4 4 := ⟨fun _ _ _ => by kernel_rfl⟩
instance : FldV Tryd.prog 33 4 4 1 false := FldV.of 9 rfl rfl rfl rfl
instance : Fld Tryd.prog 33 5 5 := ⟨fun _ _ _ => by kernel_rfl⟩
instance : FldV Tryd.prog 33 5 5 1 false := FldV.of 32 rfl rfl rfl rfl
instance : Fld Tryd.prog 33 6 6 := ⟨fun _ _ _ => by kernel_rfl⟩
instance : FldV Tryd.prog 33 6 6 1 false := FldV.of 4 rfl rfl rfl rfl
instance : Bld Tryd.prog 33 [(0, 1), (1, 1), (2, 1), (3, 1), (4, 1), (5, 1), (6, 1)] [.int .i64 0, .int .i64 0, .int .i64 0, .string ⟨#[]⟩, .string ⟨#[]⟩, .slice none 0 0, .bool false] := Bld.of rfl (fun _ => by kernel_rfl)
instance : Fld Tryd.prog 34 0 0 := ⟨fun _ _ _ => by kernel_rfl⟩
instance : FldV Tryd.prog 34 0 0 1 false := FldV.of 3 rfl rfl rfl rfl
instance : Fld Tryd.prog 34 1 1 := ⟨fun _ _ _ => by kernel_rfl⟩
instance : FldV Tryd.prog 34 1 1 1 false := FldV.of 3 rfl rfl rfl rfl
instance : Fld Tryd.prog 34 2 2 := ⟨fun _ _ _ => by kernel_rfl⟩
instance : FldV Tryd.prog 34 2 2 1 false := FldV.of 3 rfl rfl rfl rfl
instance : Fld Tryd.prog 34 3 3 := ⟨fun _ _ _ => by kernel_rfl⟩
instance : FldV Tryd.prog 34 3 3 1 false := FldV.of 9 rfl rfl rfl rfl
instance : Fld Tryd.prog 34 4 4 := ⟨fun _ _ _ => by kernel_rfl⟩
instance : FldV Tryd.prog 34 4 4 1 false := FldV.of 9 rfl rfl rfl rfl
instance : Fld Tryd.prog 34 5 5 := ⟨fun _ _ _ => by kernel_rfl⟩
instance : FldV Tryd.prog 34 5 5 1 false := FldV.of 32 rfl rfl rfl rfl
instance : Fld Tryd.prog 34 6 6 := ⟨fun _ _ _ => by kernel_rfl⟩
instance : FldV Tryd.prog 34 6 6 1 false := FldV.of 4 rfl rfl rfl rfl
instance : Bld Tryd.prog 34 [(0, 1), (1, 1), (2, 1), (3, 1), (4, 1), (5, 1), (6, 1)] [.int .i64 0, .int .i64 0, .int .i64 0, .string ⟨#[]⟩, .string ⟨#[]⟩, .slice none 0 0, .bool false] := Bld.of rfl (fun _ => by kernel_rfl)
instance : Fld Tryd.prog 39 0 0 := ⟨fun _ _ _ => by kernel_rfl⟩
instance : FldV Tryd.prog 39 0 0 1 false := FldV.of 3 rfl rfl rfl rfl
instance : Fld Tryd.prog 39 1 1 := ⟨fun _ _ _ => by kernel_rfl⟩
instance : FldV Tryd.prog 39 1 1 1 false := FldV.of 37 rfl rfl rfl rfl
instance : Fld Tryd.prog 39 2 2 := ⟨fun _ _ _ => by kernel_rfl⟩
instance : FldV Tryd.prog 39 2 2 1 false := FldV.of 37 rfl rfl rfl rfl
instance : Fld Tryd.prog 39 3 3 := ⟨fun _ _ _ => by kernel_rfl⟩
instance : FldV Tryd.prog 39 3 3 1 false := FldV.of 38 rfl rfl rfl rfl
instance : Fld Tryd.prog 39 4 4 := ⟨fun _ _ _ => by kernel_rfl⟩
instance : FldV Tryd.prog 39 4 4 1 false := FldV.of 3 rfl rfl rfl rfl
instance : Fld Tryd.prog 39 5 5 := ⟨fun _ _ _ => by kernel_rfl⟩
instance : FldV Tryd.prog 39 5 5 1 false := FldV.of 4 rfl rfl rfl rfl
instance : Bld Tryd.prog 39 [(0, 1), (1, 1), (2, 1), (3, 1), (4, 1), (5, 1)] [.int .i64 0, .map none, .map none, .slice none 0 0, .int .i64 0, .bool false] := Bld.of rfl (fun _ => by kernel_rfl)
instance : Fld Tryd.prog 40 0 0 := ⟨fun _ _ _ => by kernel_rfl⟩
instance : FldV Tryd.prog 40 0 0 1 false := FldV.of 3 rfl rfl rfl rfl
instance : Fld Tryd.prog 40 1 1 := ⟨fun _ _ _ => by kernel_rfl⟩
instance : FldV Tryd.prog 40 1 1 1 false := FldV.of 37 rfl rfl rfl rfl
instance : Fld Tryd.prog 40 2 2 := ⟨fun _ _ _ => by kernel_rfl⟩
instance : FldV Tryd.prog 40 2 2 1 false := FldV.of 37 rfl rfl rfl rfl
instance : Fld Tryd.prog 40 3 3 := ⟨fun _ _ _ => by kernel_rfl⟩
instance : FldV Tryd.prog 40 3 3 1 false := FldV.of 38 rfl rfl rfl rfl
instance : Fld Tryd.prog 40 4 4 := ⟨fun _ _ _ => by kernel_rfl⟩
instance : FldV Tryd.prog 40 4 4 1 false := FldV.of 3 rfl rfl rfl rfl
instance : Fld Tryd.prog 40 5 5 := ⟨fun _ _ _ => by kernel_rfl⟩
instance : FldV Tryd.prog 40 5 5 1 false := FldV.of 4 rfl rfl rfl rfl
instance : Bld Tryd.prog 40 [(0, 1), (1, 1), (2, 1), (3, 1), (4, 1), (5, 1)] [.int .i64 0, .map none, .map none, .slice none 0 0, .int .i64 0, .bool false] := Bld.of rfl (fun _ => by kernel_rfl)
instance : Fld Tryd.prog 46 0 0 := ⟨fun _ _ _ => by kernel_rfl⟩
instance : FldV Tryd.prog 46 0 0 1 false := FldV.of 3 rfl rfl rfl rfl
instance : Fld Tryd.prog 46 1 1 := ⟨fun _ _ _ => by kernel_rfl⟩
instance : FldV Tryd.prog 46 1 1 1 false := FldV.of 9 rfl rfl rfl rfl
instance : Fld Tryd.prog 46 2 2 := ⟨fun _ _ _ => by kernel_rfl⟩
instance : FldV Tryd.prog 46 2 2 1 false := FldV.of 9 rfl rfl rfl rfl
instance : Fld Tryd.prog 46 3 3 := ⟨fun _ _ _ => by kernel_rfl⟩
instance : FldV Tryd.prog 46 3 3 1 false := FldV.of 32 rfl rfl rfl rfl
instance : Fld Tryd.prog 46 4 4 := ⟨fun _ _ _ => by kernel_rfl⟩
instance : FldV Tryd.prog 46 4 4 1 false := FldV.of 3 rfl rfl rfl rfl
instance : Bld Tryd.prog 46 [(0, 1), (1, 1), (2, 1), (3, 1), (4, 1)] [.int .i64 0, .string ⟨#[]⟩, .string ⟨#[]⟩, .slice none 0 0, .int .i64 0] := Bld.of rfl (fun _ => by kernel_rfl)
instance : Fld Tryd.prog 47 0 0 := ⟨fun _ _ _ => by kernel_rfl⟩
instance : FldV Tryd.prog 47 0 0 1 false := FldV.of 3 rfl rfl rfl rfl
instance : Fld Tryd.prog 47 1 1 := ⟨fun _ _ _ => by kernel_rfl⟩
instance : FldV Tryd.prog 47 1 1 1 false := FldV.of 9 rfl rfl rfl rfl
instance : Fld Tryd.prog 47 2 2 := ⟨fun _ _ _ => by kernel_rfl⟩
instance : FldV Tryd.prog 47 2 2 1 false := FldV.of 9 rfl rfl rfl rfl
instance : Fld Tryd.prog 47 3 3 := ⟨fun _ _ _ => by kernel_rfl⟩
instance : FldV Tryd.prog 47 3 3 1 false := FldV.of 32 rfl rfl rfl rfl
instance : Fld Tryd.prog 47 4 4 := ⟨fun _ _ _ => by kernel_rfl⟩
instance : FldV Tryd.prog 47 4 4 1 false := FldV.of 3 rfl rfl rfl rfl
instance : Bld Tryd.prog 47 [(0, 1), (1, 1), (2, 1), (3, 1), (4, 1)] [.int .i64 0, .string ⟨#[]⟩, .string ⟨#[]⟩, .slice none 0 0, .int .i64 0] := Bld.of rfl (fun _ => by kernel_rfl)
instance : Ent Tryd.prog 3 := Ent.of Tryd.func3 (by kernel_rfl) (by kernel_rfl)
instance : Ent Tryd.prog 4 := Ent.of Tryd.func4 (by kernel_rfl) (by kernel_rfl)
instance : Ent Tryd.prog 5 := Ent.of Tryd.func5 (by kernel_rfl) (by kernel_rfl)
instance : Ent Tryd.prog 6 := Ent.of Tryd.func6 (by kernel_rfl) (by kernel_rfl)
instance : Ent Tryd.prog 7 := Ent.of Tryd.func7 (by kernel_rfl) (by kernel_rfl)
instance : Ent Tryd.prog 8 := Ent.of Tryd.func8 (by kernel_rfl) (by kernel_rfl)
instance : Ent Tryd.prog 9 := Ent.of Tryd.func9 (by kernel_rfl) (by kernel_rfl)
instance : Ent Tryd.prog 10 := Ent.of Tryd.func10 (by kernel_rfl) (by kernel_rfl)
instance : Ent Tryd.prog 11 := Ent.of Tryd.func11 (by kernel_rfl) (by kernel_rfl)
instance : Ent Tryd.prog 12 := Ent.of Tryd.func12 (by kernel_rfl) (by kernel_rfl)
instance : Ent Tryd.prog 13 := Ent.of Tryd.func13 (by kernel_rfl) (by kernel_rfl)
instance : Ent Tryd.prog 14 := Ent.of Tryd.func14 (by kernel_rfl) (by kernel_rfl)
instance : Ent Tryd.prog 15 := Ent.of Tryd.func15 (by kernel_rfl) (by kernel_rfl)
instance : Ent Tryd.prog 16 := Ent.of Tryd.func16 (by kernel_rfl) (by kernel_rfl)
instance : Ent Tryd.prog 17 := Ent.of Tryd.func17 (by kernel_rfl) (by kernel_rfl)
instance : Ent Tryd.prog 18 := Ent.of Tryd.func18 (by kernel_rfl) (by kernel_rfl)
instance : Ent Tryd.prog 19 := Ent.of Tryd.func19 (by kernel_rfl) (by kernel_rfl)
end Go.Sx
