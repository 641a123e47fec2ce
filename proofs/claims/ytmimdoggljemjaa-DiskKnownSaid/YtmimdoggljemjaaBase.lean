/-
  PRINTED by my sx.py: the types' and functions' facts as instances.
-/
import Derived.Test.YtmimdoggljemjaaSxU
import Derived.Test.YtmimdoggljemjaaRows
namespace Go.Sx
open Go.Proofs
instance : Mix Try.prog := ⟨by kernel_rfl⟩
instance : Und Try.prog 2 (.int .i64) := ⟨Try.underlying2⟩
instance : Inf Try.prog 2 1 8 (.int .i64 0) := Inf.of (by kernel_rfl)
instance : Und Try.prog 3 (.int .i64) := ⟨Try.underlying3⟩
instance : Inf Try.prog 3 1 8 (.int .i64 0) := Inf.of (by kernel_rfl)
instance : Und Try.prog 4 (.bool) := ⟨Try.underlying4⟩
instance : Inf Try.prog 4 1 1 (.bool false) := Inf.of (by kernel_rfl)
instance : Und Try.prog 5 (.int .u8) := ⟨Try.underlying5⟩
instance : Inf Try.prog 5 1 1 (.int .u8 0) := Inf.of (by kernel_rfl)
instance : Und Try.prog 9 (.string) := ⟨Try.underlying9⟩
instance : Inf Try.prog 9 1 16 (.string ⟨#[]⟩) := Inf.of (by kernel_rfl)
instance : Und Try.prog 12 (.int .u64) := ⟨Try.underlying12⟩
instance : Inf Try.prog 12 1 8 (.int .u64 0) := Inf.of (by kernel_rfl)
instance : Und Try.prog 13 (.struct #[{ name := "msg", type := 9, offset := 0, embedded := false, tag := "", pkgPath := "runtime", byteOffset := 0 }, { name := "addr", type := 12, offset := 1, embedded := false, tag := "", pkgPath := "runtime", byteOffset := 16 }]) := ⟨Try.underlying13⟩
instance : Inf Try.prog 13 2 24 (.agg #[.string ⟨#[]⟩, .int .u64 0]) := Inf.of (by kernel_rfl)
instance : Und Try.prog 19 (.struct #[{ name := "typ", type := 17, offset := 0, embedded := false, tag := "", pkgPath := "internal/runtime/maps", byteOffset := 0 }]) := ⟨Try.underlying19⟩
instance : Inf Try.prog 19 1 8 (.agg #[.pointer none]) := Inf.of (by kernel_rfl)
instance : Und Try.prog 21 (.int .i32) := ⟨Try.underlying21⟩
instance : Inf Try.prog 21 1 4 (.int .i32 0) := Inf.of (by kernel_rfl)
instance : Und Try.prog 22 (.slice 25) := ⟨Try.underlying22⟩
instance : Inf Try.prog 22 1 24 (.slice none 0 0) := Inf.of (by kernel_rfl)
instance : Und Try.prog 24 (.slice 3) := ⟨Try.underlying24⟩
instance : Inf Try.prog 24 1 24 (.slice none 0 0) := Inf.of (by kernel_rfl)
instance : Und Try.prog 25 (.slice 5) := ⟨Try.underlying25⟩
instance : Inf Try.prog 25 1 24 (.slice none 0 0) := Inf.of (by kernel_rfl)
instance : Und Try.prog 27 (.pointer 76) := ⟨Try.underlying27⟩
instance : Inf Try.prog 27 1 8 (.pointer none) := Inf.of (by kernel_rfl)
instance : Und Try.prog 28 (.int .i64) := ⟨Try.underlying28⟩
instance : Inf Try.prog 28 1 8 (.int .i64 0) := Inf.of (by kernel_rfl)
instance : Und Try.prog 42 (.int .u64) := ⟨Try.underlying42⟩
instance : Inf Try.prog 42 1 8 (.int .u64 0) := Inf.of (by kernel_rfl)
instance : Und Try.prog 43 (.struct #[{ name := "Term", type := 42, offset := 0, embedded := false, tag := "", pkgPath := "", byteOffset := 0 }, { name := "Vote", type := 3, offset := 1, embedded := false, tag := "", pkgPath := "", byteOffset := 8 }]) := ⟨Try.underlying43⟩
instance : Inf Try.prog 43 2 16 (.agg #[.int .u64 0, .int .i64 0]) := Inf.of (by kernel_rfl)
instance : Und Try.prog 44 (.struct #[{ name := "Term", type := 42, offset := 0, embedded := false, tag := "", pkgPath := "", byteOffset := 0 }, { name := "Vote", type := 3, offset := 1, embedded := false, tag := "", pkgPath := "", byteOffset := 8 }]) := ⟨Try.underlying44⟩
instance : Inf Try.prog 44 2 16 (.agg #[.int .u64 0, .int .i64 0]) := Inf.of (by kernel_rfl)
instance : Und Try.prog 49 (.slice 44) := ⟨Try.underlying49⟩
instance : Inf Try.prog 49 1 24 (.slice none 0 0) := Inf.of (by kernel_rfl)
instance : Und Try.prog 51 (.struct #[{ name := "What", type := 3, offset := 0, embedded := false, tag := "", pkgPath := "", byteOffset := 0 }, { name := "A", type := 3, offset := 1, embedded := false, tag := "", pkgPath := "", byteOffset := 8 }, { name := "B", type := 3, offset := 2, embedded := false, tag := "", pkgPath := "", byteOffset := 16 }]) := ⟨Try.underlying51⟩
instance : Inf Try.prog 51 3 24 (.agg #[.int .i64 0, .int .i64 0, .int .i64 0]) := Inf.of (by kernel_rfl)
instance : Und Try.prog 52 (.struct #[{ name := "What", type := 3, offset := 0, embedded := false, tag := "", pkgPath := "", byteOffset := 0 }, { name := "A", type := 3, offset := 1, embedded := false, tag := "", pkgPath := "", byteOffset := 8 }, { name := "B", type := 3, offset := 2, embedded := false, tag := "", pkgPath := "", byteOffset := 16 }]) := ⟨Try.underlying52⟩
instance : Inf Try.prog 52 3 24 (.agg #[.int .i64 0, .int .i64 0, .int .i64 0]) := Inf.of (by kernel_rfl)
instance : Und Try.prog 53 (.struct #[{ name := "What", type := 3, offset := 0, embedded := false, tag := "", pkgPath := "", byteOffset := 0 }, { name := "H", type := 44, offset := 1, embedded := false, tag := "", pkgPath := "", byteOffset := 8 }, { name := "Near", type := 4, offset := 3, embedded := false, tag := "", pkgPath := "", byteOffset := 24 }, { name := "Harm", type := 52, offset := 4, embedded := false, tag := "", pkgPath := "", byteOffset := 32 }]) := ⟨Try.underlying53⟩
instance : Inf Try.prog 53 7 56 (.agg #[.int .i64 0, .int .u64 0, .int .i64 0, .bool false, .int .i64 0, .int .i64 0, .int .i64 0]) := Inf.of (by kernel_rfl)
instance : Und Try.prog 54 (.struct #[{ name := "What", type := 3, offset := 0, embedded := false, tag := "", pkgPath := "", byteOffset := 0 }, { name := "H", type := 44, offset := 1, embedded := false, tag := "", pkgPath := "", byteOffset := 8 }, { name := "Near", type := 4, offset := 3, embedded := false, tag := "", pkgPath := "", byteOffset := 24 }, { name := "Harm", type := 52, offset := 4, embedded := false, tag := "", pkgPath := "", byteOffset := 32 }]) := ⟨Try.underlying54⟩
instance : Inf Try.prog 54 7 56 (.agg #[.int .i64 0, .int .u64 0, .int .i64 0, .bool false, .int .i64 0, .int .i64 0, .int .i64 0]) := Inf.of (by kernel_rfl)
instance : Und Try.prog 57 (.slice 9) := ⟨Try.underlying57⟩
instance : Inf Try.prog 57 1 24 (.slice none 0 0) := Inf.of (by kernel_rfl)
instance : Und Try.prog 60 (.struct #[{ name := "Name", type := 9, offset := 0, embedded := false, tag := "", pkgPath := "", byteOffset := 0 }, { name := "Bytes", type := 25, offset := 1, embedded := false, tag := "", pkgPath := "", byteOffset := 16 }]) := ⟨Try.underlying60⟩
instance : Inf Try.prog 60 2 40 (.agg #[.string ⟨#[]⟩, .slice none 0 0]) := Inf.of (by kernel_rfl)
instance : Und Try.prog 61 (.struct #[{ name := "Name", type := 9, offset := 0, embedded := false, tag := "", pkgPath := "", byteOffset := 0 }, { name := "Bytes", type := 25, offset := 1, embedded := false, tag := "", pkgPath := "", byteOffset := 16 }]) := ⟨Try.underlying61⟩
instance : Inf Try.prog 61 2 40 (.agg #[.string ⟨#[]⟩, .slice none 0 0]) := Inf.of (by kernel_rfl)
instance : Und Try.prog 62 (.slice 61) := ⟨Try.underlying62⟩
instance : Inf Try.prog 62 1 24 (.slice none 0 0) := Inf.of (by kernel_rfl)
instance : Und Try.prog 63 (.pointer 103) := ⟨Try.underlying63⟩
instance : Inf Try.prog 63 1 8 (.pointer none) := Inf.of (by kernel_rfl)
instance : Und Try.prog 69 (.slice 54) := ⟨Try.underlying69⟩
instance : Inf Try.prog 69 1 24 (.slice none 0 0) := Inf.of (by kernel_rfl)
instance : Und Try.prog 73 (.map 9 25) := ⟨Try.underlying73⟩
instance : Inf Try.prog 73 1 8 (.map none) := Inf.of (by kernel_rfl)
instance : Und Try.prog 74 (.slice 80) := ⟨Try.underlying74⟩
instance : Inf Try.prog 74 1 24 (.slice none 0 0) := Inf.of (by kernel_rfl)
instance : Und Try.prog 75 (.struct #[{ name := "room", type := 3, offset := 0, embedded := false, tag := "", pkgPath := "bursar/disk", byteOffset := 0 }, { name := "synced", type := 73, offset := 1, embedded := false, tag := "", pkgPath := "bursar/disk", byteOffset := 8 }, { name := "now", type := 73, offset := 2, embedded := false, tag := "", pkgPath := "bursar/disk", byteOffset := 16 }, { name := "pending", type := 74, offset := 3, embedded := false, tag := "", pkgPath := "bursar/disk", byteOffset := 24 }, { name := "fuse", type := 3, offset := 4, embedded := false, tag := "", pkgPath := "bursar/disk", byteOffset := 48 }, { name := "down", type := 4, offset := 5, embedded := false, tag := "", pkgPath := "bursar/disk", byteOffset := 56 }]) := ⟨Try.underlying75⟩
instance : Inf Try.prog 75 6 64 (.agg #[.int .i64 0, .map none, .map none, .slice none 0 0, .int .i64 0, .bool false]) := Inf.of (by kernel_rfl)
instance : Und Try.prog 76 (.struct #[{ name := "room", type := 3, offset := 0, embedded := false, tag := "", pkgPath := "bursar/disk", byteOffset := 0 }, { name := "synced", type := 73, offset := 1, embedded := false, tag := "", pkgPath := "bursar/disk", byteOffset := 8 }, { name := "now", type := 73, offset := 2, embedded := false, tag := "", pkgPath := "bursar/disk", byteOffset := 16 }, { name := "pending", type := 74, offset := 3, embedded := false, tag := "", pkgPath := "bursar/disk", byteOffset := 24 }, { name := "fuse", type := 3, offset := 4, embedded := false, tag := "", pkgPath := "bursar/disk", byteOffset := 48 }, { name := "down", type := 4, offset := 5, embedded := false, tag := "", pkgPath := "bursar/disk", byteOffset := 56 }]) := ⟨Try.underlying76⟩
instance : Inf Try.prog 76 6 64 (.agg #[.int .i64 0, .map none, .map none, .slice none 0 0, .int .i64 0, .bool false]) := Inf.of (by kernel_rfl)
instance : Und Try.prog 79 (.struct #[{ name := "kind", type := 3, offset := 0, embedded := false, tag := "", pkgPath := "bursar/disk", byteOffset := 0 }, { name := "name", type := 9, offset := 1, embedded := false, tag := "", pkgPath := "bursar/disk", byteOffset := 8 }, { name := "to", type := 9, offset := 2, embedded := false, tag := "", pkgPath := "bursar/disk", byteOffset := 24 }, { name := "bytes", type := 25, offset := 3, embedded := false, tag := "", pkgPath := "bursar/disk", byteOffset := 40 }, { name := "size", type := 3, offset := 4, embedded := false, tag := "", pkgPath := "bursar/disk", byteOffset := 64 }]) := ⟨Try.underlying79⟩
instance : Inf Try.prog 79 5 72 (.agg #[.int .i64 0, .string ⟨#[]⟩, .string ⟨#[]⟩, .slice none 0 0, .int .i64 0]) := Inf.of (by kernel_rfl)
instance : Und Try.prog 80 (.struct #[{ name := "kind", type := 3, offset := 0, embedded := false, tag := "", pkgPath := "bursar/disk", byteOffset := 0 }, { name := "name", type := 9, offset := 1, embedded := false, tag := "", pkgPath := "bursar/disk", byteOffset := 8 }, { name := "to", type := 9, offset := 2, embedded := false, tag := "", pkgPath := "bursar/disk", byteOffset := 24 }, { name := "bytes", type := 25, offset := 3, embedded := false, tag := "", pkgPath := "bursar/disk", byteOffset := 40 }, { name := "size", type := 3, offset := 4, embedded := false, tag := "", pkgPath := "bursar/disk", byteOffset := 64 }]) := ⟨Try.underlying80⟩
instance : Inf Try.prog 80 5 72 (.agg #[.int .i64 0, .string ⟨#[]⟩, .string ⟨#[]⟩, .slice none 0 0, .int .i64 0]) := Inf.of (by kernel_rfl)
instance : Und Try.prog 86 (.pointer 115) := ⟨Try.underlying86⟩
instance : Inf Try.prog 86 1 8 (.pointer none) := Inf.of (by kernel_rfl)
instance : Und Try.prog 91 (.pointer 121) := ⟨Try.underlying91⟩
instance : Inf Try.prog 91 1 8 (.pointer none) := Inf.of (by kernel_rfl)
instance : Und Try.prog 98 (.int .u32) := ⟨Try.underlying98⟩
instance : Inf Try.prog 98 1 4 (.int .u32 0) := Inf.of (by kernel_rfl)
instance : Und Try.prog 100 (.int .u64) := ⟨Try.underlying100⟩
instance : Inf Try.prog 100 1 8 (.int .u64 0) := Inf.of (by kernel_rfl)
instance : Und Try.prog 101 (.slice 127) := ⟨Try.underlying101⟩
instance : Inf Try.prog 101 1 24 (.slice none 0 0) := Inf.of (by kernel_rfl)
instance : Und Try.prog 102 (.struct #[{ name := "Space", type := 3, offset := 0, embedded := false, tag := "", pkgPath := "", byteOffset := 0 }, { name := "synced", type := 62, offset := 1, embedded := false, tag := "", pkgPath := "bursar/bursarref7", byteOffset := 8 }, { name := "now", type := 62, offset := 2, embedded := false, tag := "", pkgPath := "bursar/bursarref7", byteOffset := 32 }, { name := "Wait", type := 101, offset := 3, embedded := false, tag := "", pkgPath := "", byteOffset := 56 }, { name := "fused", type := 4, offset := 4, embedded := false, tag := "", pkgPath := "bursar/bursarref7", byteOffset := 80 }, { name := "fuse", type := 3, offset := 5, embedded := false, tag := "", pkgPath := "bursar/bursarref7", byteOffset := 88 }, { name := "IsDown", type := 4, offset := 6, embedded := false, tag := "", pkgPath := "", byteOffset := 96 }]) := ⟨Try.underlying102⟩
instance : Inf Try.prog 102 7 104 (.agg #[.int .i64 0, .slice none 0 0, .slice none 0 0, .slice none 0 0, .bool false, .int .i64 0, .bool false]) := Inf.of (by kernel_rfl)
instance : Und Try.prog 103 (.struct #[{ name := "Space", type := 3, offset := 0, embedded := false, tag := "", pkgPath := "", byteOffset := 0 }, { name := "synced", type := 62, offset := 1, embedded := false, tag := "", pkgPath := "bursar/bursarref7", byteOffset := 8 }, { name := "now", type := 62, offset := 2, embedded := false, tag := "", pkgPath := "bursar/bursarref7", byteOffset := 32 }, { name := "Wait", type := 101, offset := 3, embedded := false, tag := "", pkgPath := "", byteOffset := 56 }, { name := "fused", type := 4, offset := 4, embedded := false, tag := "", pkgPath := "bursar/bursarref7", byteOffset := 80 }, { name := "fuse", type := 3, offset := 5, embedded := false, tag := "", pkgPath := "bursar/bursarref7", byteOffset := 88 }, { name := "IsDown", type := 4, offset := 6, embedded := false, tag := "", pkgPath := "", byteOffset := 96 }]) := ⟨Try.underlying103⟩
instance : Inf Try.prog 103 7 104 (.agg #[.int .i64 0, .slice none 0 0, .slice none 0 0, .slice none 0 0, .bool false, .int .i64 0, .bool false]) := Inf.of (by kernel_rfl)
instance : Und Try.prog 107 (.pointer 109) := ⟨Try.underlying107⟩
instance : Inf Try.prog 107 1 8 (.pointer none) := Inf.of (by kernel_rfl)
instance : Und Try.prog 108 (.struct #[{ name := "B", type := 25, offset := 0, embedded := false, tag := "", pkgPath := "", byteOffset := 0 }, { name := "At", type := 3, offset := 1, embedded := false, tag := "", pkgPath := "", byteOffset := 24 }, { name := "Bad", type := 28, offset := 2, embedded := false, tag := "", pkgPath := "", byteOffset := 32 }]) := ⟨Try.underlying108⟩
instance : Inf Try.prog 108 3 40 (.agg #[.slice none 0 0, .int .i64 0, .int .i64 0]) := Inf.of (by kernel_rfl)
instance : Und Try.prog 109 (.struct #[{ name := "B", type := 25, offset := 0, embedded := false, tag := "", pkgPath := "", byteOffset := 0 }, { name := "At", type := 3, offset := 1, embedded := false, tag := "", pkgPath := "", byteOffset := 24 }, { name := "Bad", type := 28, offset := 2, embedded := false, tag := "", pkgPath := "", byteOffset := 32 }]) := ⟨Try.underlying109⟩
instance : Inf Try.prog 109 3 40 (.agg #[.slice none 0 0, .int .i64 0, .int .i64 0]) := Inf.of (by kernel_rfl)
instance : Und Try.prog 114 (.struct #[{ name := "b", type := 25, offset := 0, embedded := false, tag := "", pkgPath := "bursar/pack", byteOffset := 0 }, { name := "at", type := 3, offset := 1, embedded := false, tag := "", pkgPath := "bursar/pack", byteOffset := 24 }, { name := "bad", type := 28, offset := 2, embedded := false, tag := "", pkgPath := "bursar/pack", byteOffset := 32 }]) := ⟨Try.underlying114⟩
instance : Inf Try.prog 114 3 40 (.agg #[.slice none 0 0, .int .i64 0, .int .i64 0]) := Inf.of (by kernel_rfl)
instance : Und Try.prog 115 (.struct #[{ name := "b", type := 25, offset := 0, embedded := false, tag := "", pkgPath := "bursar/pack", byteOffset := 0 }, { name := "at", type := 3, offset := 1, embedded := false, tag := "", pkgPath := "bursar/pack", byteOffset := 24 }, { name := "bad", type := 28, offset := 2, embedded := false, tag := "", pkgPath := "bursar/pack", byteOffset := 32 }]) := ⟨Try.underlying115⟩
instance : Inf Try.prog 115 3 40 (.agg #[.slice none 0 0, .int .i64 0, .int .i64 0]) := Inf.of (by kernel_rfl)
instance : Und Try.prog 120 (.struct #[{ name := "b", type := 25, offset := 0, embedded := false, tag := "", pkgPath := "bursar/pack", byteOffset := 0 }]) := ⟨Try.underlying120⟩
instance : Inf Try.prog 120 1 24 (.agg #[.slice none 0 0]) := Inf.of (by kernel_rfl)
instance : Und Try.prog 121 (.struct #[{ name := "b", type := 25, offset := 0, embedded := false, tag := "", pkgPath := "bursar/pack", byteOffset := 0 }]) := ⟨Try.underlying121⟩
instance : Inf Try.prog 121 1 24 (.agg #[.slice none 0 0]) := Inf.of (by kernel_rfl)
instance : Und Try.prog 126 (.struct #[{ name := "what", type := 3, offset := 0, embedded := false, tag := "", pkgPath := "bursar/bursarref7", byteOffset := 0 }, { name := "name", type := 9, offset := 1, embedded := false, tag := "", pkgPath := "bursar/bursarref7", byteOffset := 8 }, { name := "to", type := 9, offset := 2, embedded := false, tag := "", pkgPath := "bursar/bursarref7", byteOffset := 24 }, { name := "b", type := 25, offset := 3, embedded := false, tag := "", pkgPath := "bursar/bursarref7", byteOffset := 40 }, { name := "size", type := 3, offset := 4, embedded := false, tag := "", pkgPath := "bursar/bursarref7", byteOffset := 64 }]) := ⟨Try.underlying126⟩
instance : Inf Try.prog 126 5 72 (.agg #[.int .i64 0, .string ⟨#[]⟩, .string ⟨#[]⟩, .slice none 0 0, .int .i64 0]) := Inf.of (by kernel_rfl)
instance : Und Try.prog 127 (.struct #[{ name := "what", type := 3, offset := 0, embedded := false, tag := "", pkgPath := "bursar/bursarref7", byteOffset := 0 }, { name := "name", type := 9, offset := 1, embedded := false, tag := "", pkgPath := "bursar/bursarref7", byteOffset := 8 }, { name := "to", type := 9, offset := 2, embedded := false, tag := "", pkgPath := "bursar/bursarref7", byteOffset := 24 }, { name := "b", type := 25, offset := 3, embedded := false, tag := "", pkgPath := "bursar/bursarref7", byteOffset := 40 }, { name := "size", type := 3, offset := 4, embedded := false, tag := "", pkgPath := "bursar/bursarref7", byteOffset := 64 }]) := ⟨Try.underlying127⟩
instance : Inf Try.prog 127 5 72 (.agg #[.int .i64 0, .string ⟨#[]⟩, .string ⟨#[]⟩, .slice none 0 0, .int .i64 0]) := Inf.of (by kernel_rfl)
instance : Und Try.prog 131 (.int .i64) := ⟨Try.underlying131⟩
instance : Inf Try.prog 131 1 8 (.int .i64 0) := Inf.of (by kernel_rfl)
instance : Und Try.prog 143 (.int .u64) := ⟨Try.underlying143⟩
instance : Inf Try.prog 143 1 8 (.int .u64 0) := Inf.of (by kernel_rfl)
instance : Und Try.prog 147 (.pointer 3) := ⟨Try.underlying147⟩
instance : Inf Try.prog 147 1 8 (.pointer none) := Inf.of (by kernel_rfl)
instance : Und Try.prog 149 (.pointer 143) := ⟨Try.underlying149⟩
instance : Inf Try.prog 149 1 8 (.pointer none) := Inf.of (by kernel_rfl)
instance : Und Try.prog 161 (.pointer 5) := ⟨Try.underlying161⟩
instance : Inf Try.prog 161 1 8 (.pointer none) := Inf.of (by kernel_rfl)
instance : Und Try.prog 167 (.unsafePointer) := ⟨Try.underlying167⟩
instance : Inf Try.prog 167 1 8 (.pointer none) := Inf.of (by kernel_rfl)
instance : Fld Try.prog 13 0 0 := ⟨fun _ _ _ => by kernel_rfl⟩
instance : FldV Try.prog 13 0 0 1 false := FldV.of 9 rfl rfl rfl rfl
instance : Fld Try.prog 13 1 1 := ⟨fun _ _ _ => by kernel_rfl⟩
instance : FldV Try.prog 13 1 1 1 false := FldV.of 12 rfl rfl rfl rfl
instance : Bld Try.prog 13 [(0, 1), (1, 1)] [.string ⟨#[]⟩, .int .u64 0] := Bld.of rfl (fun _ => by kernel_rfl)
instance : Fld Try.prog 19 0 0 := ⟨fun _ _ _ => by kernel_rfl⟩
instance : Fld Try.prog 43 0 0 := ⟨fun _ _ _ => by kernel_rfl⟩
instance : FldV Try.prog 43 0 0 1 false := FldV.of 42 rfl rfl rfl rfl
instance : Fld Try.prog 43 1 1 := ⟨fun _ _ _ => by kernel_rfl⟩
instance : FldV Try.prog 43 1 1 1 false := FldV.of 3 rfl rfl rfl rfl
instance : Bld Try.prog 43 [(0, 1), (1, 1)] [.int .u64 0, .int .i64 0] := Bld.of rfl (fun _ => by kernel_rfl)
instance : Fld Try.prog 44 0 0 := ⟨fun _ _ _ => by kernel_rfl⟩
instance : FldV Try.prog 44 0 0 1 false := FldV.of 42 rfl rfl rfl rfl
instance : Fld Try.prog 44 1 1 := ⟨fun _ _ _ => by kernel_rfl⟩
instance : FldV Try.prog 44 1 1 1 false := FldV.of 3 rfl rfl rfl rfl
instance : Bld Try.prog 44 [(0, 1), (1, 1)] [.int .u64 0, .int .i64 0] := Bld.of rfl (fun _ => by kernel_rfl)
instance : Fld Try.prog 51 0 0 := ⟨fun _ _ _ => by kernel_rfl⟩
instance : FldV Try.prog 51 0 0 1 false := FldV.of 3 rfl rfl rfl rfl
instance : Fld Try.prog 51 1 1 := ⟨fun _ _ _ => by kernel_rfl⟩
instance : FldV Try.prog 51 1 1 1 false := FldV.of 3 rfl rfl rfl rfl
instance : Fld Try.prog 51 2 2 := ⟨fun _ _ _ => by kernel_rfl⟩
instance : FldV Try.prog 51 2 2 1 false := FldV.of 3 rfl rfl rfl rfl
instance : Bld Try.prog 51 [(0, 1), (1, 1), (2, 1)] [.int .i64 0, .int .i64 0, .int .i64 0] := Bld.of rfl (fun _ => by kernel_rfl)
instance : Fld Try.prog 52 0 0 := ⟨fun _ _ _ => by kernel_rfl⟩
instance : FldV Try.prog 52 0 0 1 false := FldV.of 3 rfl rfl rfl rfl
instance : Fld Try.prog 52 1 1 := ⟨fun _ _ _ => by kernel_rfl⟩
instance : FldV Try.prog 52 1 1 1 false := FldV.of 3 rfl rfl rfl rfl
instance : Fld Try.prog 52 2 2 := ⟨fun _ _ _ => by kernel_rfl⟩
instance : FldV Try.prog 52 2 2 1 false := FldV.of 3 rfl rfl rfl rfl
instance : Bld Try.prog 52 [(0, 1), (1, 1), (2, 1)] [.int .i64 0, .int .i64 0, .int .i64 0] := Bld.of rfl (fun _ => by kernel_rfl)
instance : Fld Try.prog 53 0 0 := ⟨fun _ _ _ => by kernel_rfl⟩
instance : FldV Try.prog 53 0 0 1 false := FldV.of 3 rfl rfl rfl rfl
instance : Fld Try.prog 53 1 1 := ⟨fun _ _ _ => by kernel_rfl⟩
instance : FldV Try.prog 53 1 1 2 true := FldV.of 44 rfl rfl rfl rfl
instance : Fld Try.prog 53 2 3 := ⟨fun _ _ _ => by kernel_rfl⟩
instance : FldV Try.prog 53 2 3 1 false := FldV.of 4 rfl rfl rfl rfl
instance : Fld Try.prog 53 3 4 := ⟨fun _ _ _ => by kernel_rfl⟩
instance : FldV Try.prog 53 3 4 3 true := FldV.of 52 rfl rfl rfl rfl
instance : Bld Try.prog 53 [(0, 1), (1, 2), (3, 1), (4, 3)] [.int .i64 0, .int .u64 0, .int .i64 0, .bool false, .int .i64 0, .int .i64 0, .int .i64 0] := Bld.of rfl (fun _ => by kernel_rfl)
instance : Fld Try.prog 54 0 0 := ⟨fun _ _ _ => by kernel_rfl⟩
instance : FldV Try.prog 54 0 0 1 false := FldV.of 3 rfl rfl rfl rfl
instance : Fld Try.prog 54 1 1 := ⟨fun _ _ _ => by kernel_rfl⟩
instance : FldV Try.prog 54 1 1 2 true := FldV.of 44 rfl rfl rfl rfl
instance : Fld Try.prog 54 2 3 := ⟨fun _ _ _ => by kernel_rfl⟩
instance : FldV Try.prog 54 2 3 1 false := FldV.of 4 rfl rfl rfl rfl
instance : Fld Try.prog 54 3 4 := ⟨fun _ _ _ => by kernel_rfl⟩
instance : FldV Try.prog 54 3 4 3 true := FldV.of 52 rfl rfl rfl rfl
instance : Bld Try.prog 54 [(0, 1), (1, 2), (3, 1), (4, 3)] [.int .i64 0, .int .u64 0, .int .i64 0, .bool false, .int .i64 0, .int .i64 0, .int .i64 0] := Bld.of rfl (fun _ => by kernel_rfl)
instance : Fld Try.prog 60 0 0 := ⟨fun _ _ _ => by kernel_rfl⟩
instance : FldV Try.prog 60 0 0 1 false := FldV.of 9 rfl rfl rfl rfl
instance : Fld Try.prog 60 1 1 := ⟨fun _ _ _ => by kernel_rfl⟩
instance : FldV Try.prog 60 1 1 1 false := FldV.of 25 rfl rfl rfl rfl
instance : Bld Try.prog 60 [(0, 1), (1, 1)] [.string ⟨#[]⟩, .slice none 0 0] := Bld.of rfl (fun _ => by kernel_rfl)
instance : Fld Try.prog 61 0 0 := ⟨fun _ _ _ => by kernel_rfl⟩
instance : FldV Try.prog 61 0 0 1 false := FldV.of 9 rfl rfl rfl rfl
instance : Fld Try.prog 61 1 1 := ⟨fun _ _ _ => by kernel_rfl⟩
instance : FldV Try.prog 61 1 1 1 false := FldV.of 25 rfl rfl rfl rfl
instance : Bld Try.prog 61 [(0, 1), (1, 1)] [.string ⟨#[]⟩, .slice none 0 0] := Bld.of rfl (fun _ => by kernel_rfl)
instance : Fld Try.prog 75 0 0 := ⟨fun _ _ _ => by kernel_rfl⟩
instance : FldV Try.prog 75 0 0 1 false := FldV.of 3 rfl rfl rfl rfl
instance : Fld Try.prog 75 1 1 := ⟨fun _ _ _ => by kernel_rfl⟩
instance : FldV Try.prog 75 1 1 1 false := FldV.of 73 rfl rfl rfl rfl
instance : Fld Try.prog 75 2 2 := ⟨fun _ _ _ => by kernel_rfl⟩
instance : FldV Try.prog 75 2 2 1 false := FldV.of 73 rfl rfl rfl rfl
instance : Fld Try.prog 75 3 3 := ⟨fun _ _ _ => by kernel_rfl⟩
instance : FldV Try.prog 75 3 3 1 false := FldV.of 74 rfl rfl rfl rfl
instance : Fld Try.prog 75 4 4 := ⟨fun _ _ _ => by kernel_rfl⟩
instance : FldV Try.prog 75 4 4 1 false := FldV.of 3 rfl rfl rfl rfl
instance : Fld Try.prog 75 5 5 := ⟨fun _ _ _ => by kernel_rfl⟩
instance : FldV Try.prog 75 5 5 1 false := FldV.of 4 rfl rfl rfl rfl
instance : Bld Try.prog 75 [(0, 1), (1, 1), (2, 1), (3, 1), (4, 1), (5, 1)] [.int .i64 0, .map none, .map none, .slice none 0 0, .int .i64 0, .bool false] := Bld.of rfl (fun _ => by kernel_rfl)
instance : Fld Try.prog 76 0 0 := ⟨fun _ _ _ => by kernel_rfl⟩
instance : FldV Try.prog 76 0 0 1 false := FldV.of 3 rfl rfl rfl rfl
instance : Fld Try.prog 76 1 1 := ⟨fun _ _ _ => by kernel_rfl⟩
instance : FldV Try.prog 76 1 1 1 false := FldV.of 73 rfl rfl rfl rfl
instance : Fld Try.prog 76 2 2 := ⟨fun _ _ _ => by kernel_rfl⟩
instance : FldV Try.prog 76 2 2 1 false := FldV.of 73 rfl rfl rfl rfl
instance : Fld Try.prog 76 3 3 := ⟨fun _ _ _ => by kernel_rfl⟩
instance : FldV Try.prog 76 3 3 1 false := FldV.of 74 rfl rfl rfl rfl
instance : Fld Try.prog 76 4 4 := ⟨fun _ _ _ => by kernel_rfl⟩
instance : FldV Try.prog 76 4 4 1 false := FldV.of 3 rfl rfl rfl rfl
instance : Fld Try.prog 76 5 5 := ⟨fun _ _ _ => by kernel_rfl⟩
instance : FldV Try.prog 76 5 5 1 false := FldV.of 4 rfl rfl rfl rfl
instance : Bld Try.prog 76 [(0, 1), (1, 1), (2, 1), (3, 1), (4, 1), (5, 1)] [.int .i64 0, .map none, .map none, .slice none 0 0, .int .i64 0, .bool false] := Bld.of rfl (fun _ => by kernel_rfl)
instance : Fld Try.prog 79 0 0 := ⟨fun _ _ _ => by kernel_rfl⟩
instance : FldV Try.prog 79 0 0 1 false := FldV.of 3 rfl rfl rfl rfl
instance : Fld Try.prog 79 1 1 := ⟨fun _ _ _ => by kernel_rfl⟩
instance : FldV Try.prog 79 1 1 1 false := FldV.of 9 rfl rfl rfl rfl
instance : Fld Try.prog 79 2 2 := ⟨fun _ _ _ => by kernel_rfl⟩
instance : FldV Try.prog 79 2 2 1 false := FldV.of 9 rfl rfl rfl rfl
instance : Fld Try.prog 79 3 3 := ⟨fun _ _ _ => by kernel_rfl⟩
instance : FldV Try.prog 79 3 3 1 false := FldV.of 25 rfl rfl rfl rfl
instance : Fld Try.prog 79 4 4 := ⟨fun _ _ _ => by kernel_rfl⟩
instance : FldV Try.prog 79 4 4 1 false := FldV.of 3 rfl rfl rfl rfl
instance : Bld Try.prog 79 [(0, 1), (1, 1), (2, 1), (3, 1), (4, 1)] [.int .i64 0, .string ⟨#[]⟩, .string ⟨#[]⟩, .slice none 0 0, .int .i64 0] := Bld.of rfl (fun _ => by kernel_rfl)
instance : Fld Try.prog 80 0 0 := ⟨fun _ _ _ => by kernel_rfl⟩
instance : FldV Try.prog 80 0 0 1 false := FldV.of 3 rfl rfl rfl rfl
instance : Fld Try.prog 80 1 1 := ⟨fun _ _ _ => by kernel_rfl⟩
instance : FldV Try.prog 80 1 1 1 false := FldV.of 9 rfl rfl rfl rfl
instance : Fld Try.prog 80 2 2 := ⟨fun _ _ _ => by kernel_rfl⟩
instance : FldV Try.prog 80 2 2 1 false := FldV.of 9 rfl rfl rfl rfl
instance : Fld Try.prog 80 3 3 := ⟨fun _ _ _ => by kernel_rfl⟩
instance : FldV Try.prog 80 3 3 1 false := FldV.of 25 rfl rfl rfl rfl
instance : Fld Try.prog 80 4 4 := ⟨fun _ _ _ => by kernel_rfl⟩
instance : FldV Try.prog 80 4 4 1 false := FldV.of 3 rfl rfl rfl rfl
instance : Bld Try.prog 80 [(0, 1), (1, 1), (2, 1), (3, 1), (4, 1)] [.int .i64 0, .string ⟨#[]⟩, .string ⟨#[]⟩, .slice none 0 0, .int .i64 0] := Bld.of rfl (fun _ => by kernel_rfl)
instance : Fld Try.prog 102 0 0 := ⟨fun _ _ _ => by kernel_rfl⟩
instance : FldV Try.prog 102 0 0 1 false := FldV.of 3 rfl rfl rfl rfl
instance : Fld Try.prog 102 1 1 := ⟨fun _ _ _ => by kernel_rfl⟩
instance : FldV Try.prog 102 1 1 1 false := FldV.of 62 rfl rfl rfl rfl
instance : Fld Try.prog 102 2 2 := ⟨fun _ _ _ => by kernel_rfl⟩
instance : FldV Try.prog 102 2 2 1 false := FldV.of 62 rfl rfl rfl rfl
instance : Fld Try.prog 102 3 3 := ⟨fun _ _ _ => by kernel_rfl⟩
instance : FldV Try.prog 102 3 3 1 false := FldV.of 101 rfl rfl rfl rfl
instance : Fld Try.prog 102 4 4 := ⟨fun _ _ _ => by kernel_rfl⟩
instance : FldV Try.prog 102 4 4 1 false := FldV.of 4 rfl rfl rfl rfl
instance : Fld Try.prog 102 5 5 := ⟨fun _ _ _ => by kernel_rfl⟩
instance : FldV Try.prog 102 5 5 1 false := FldV.of 3 rfl rfl rfl rfl
instance : Fld Try.prog 102 6 6 := ⟨fun _ _ _ => by kernel_rfl⟩
instance : FldV Try.prog 102 6 6 1 false := FldV.of 4 rfl rfl rfl rfl
instance : Bld Try.prog 102 [(0, 1), (1, 1), (2, 1), (3, 1), (4, 1), (5, 1), (6, 1)] [.int .i64 0, .slice none 0 0, .slice none 0 0, .slice none 0 0, .bool false, .int .i64 0, .bool false] := Bld.of rfl (fun _ => by kernel_rfl)
instance : Fld Try.prog 103 0 0 := ⟨fun _ _ _ => by kernel_rfl⟩
instance : FldV Try.prog 103 0 0 1 false := FldV.of 3 rfl rfl rfl rfl
instance : Fld Try.prog 103 1 1 := ⟨fun _ _ _ => by kernel_rfl⟩
instance : FldV Try.prog 103 1 1 1 false := FldV.of 62 rfl rfl rfl rfl
instance : Fld Try.prog 103 2 2 := ⟨fun _ _ _ => by kernel_rfl⟩
instance : FldV Try.prog 103 2 2 1 false := FldV.of 62 rfl rfl rfl rfl
instance : Fld Try.prog 103 3 3 := ⟨fun _ _ _ => by kernel_rfl⟩
instance : FldV Try.prog 103 3 3 1 false := FldV.of 101 rfl rfl rfl rfl
instance : Fld Try.prog 103 4 4 := ⟨fun _ _ _ => by kernel_rfl⟩
instance : FldV Try.prog 103 4 4 1 false := FldV.of 4 rfl rfl rfl rfl
instance : Fld Try.prog 103 5 5 := ⟨fun _ _ _ => by kernel_rfl⟩
instance : FldV Try.prog 103 5 5 1 false := FldV.of 3 rfl rfl rfl rfl
instance : Fld Try.prog 103 6 6 := ⟨fun _ _ _ => by kernel_rfl⟩
instance : FldV Try.prog 103 6 6 1 false := FldV.of 4 rfl rfl rfl rfl
instance : Bld Try.prog 103 [(0, 1), (1, 1), (2, 1), (3, 1), (4, 1), (5, 1), (6, 1)] [.int .i64 0, .slice none 0 0, .slice none 0 0, .slice none 0 0, .bool false, .int .i64 0, .bool false] := Bld.of rfl (fun _ => by kernel_rfl)
instance : Fld Try.prog 108 0 0 := ⟨fun _ _ _ => by kernel_rfl⟩
instance : FldV Try.prog 108 0 0 1 false := FldV.of 25 rfl rfl rfl rfl
instance : Fld Try.prog 108 1 1 := ⟨fun _ _ _ => by kernel_rfl⟩
instance : FldV Try.prog 108 1 1 1 false := FldV.of 3 rfl rfl rfl rfl
instance : Fld Try.prog 108 2 2 := ⟨fun _ _ _ => by kernel_rfl⟩
instance : FldV Try.prog 108 2 2 1 false := FldV.of 28 rfl rfl rfl rfl
instance : Bld Try.prog 108 [(0, 1), (1, 1), (2, 1)] [.slice none 0 0, .int .i64 0, .int .i64 0] := Bld.of rfl (fun _ => by kernel_rfl)
instance : Fld Try.prog 109 0 0 := ⟨fun _ _ _ => by kernel_rfl⟩
instance : FldV Try.prog 109 0 0 1 false := FldV.of 25 rfl rfl rfl rfl
instance : Fld Try.prog 109 1 1 := ⟨fun _ _ _ => by kernel_rfl⟩
instance : FldV Try.prog 109 1 1 1 false := FldV.of 3 rfl rfl rfl rfl
instance : Fld Try.prog 109 2 2 := ⟨fun _ _ _ => by kernel_rfl⟩
instance : FldV Try.prog 109 2 2 1 false := FldV.of 28 rfl rfl rfl rfl
instance : Bld Try.prog 109 [(0, 1), (1, 1), (2, 1)] [.slice none 0 0, .int .i64 0, .int .i64 0] := Bld.of rfl (fun _ => by kernel_rfl)
instance : Fld Try.prog 114 0 0 := ⟨fun _ _ _ => by kernel_rfl⟩
instance : FldV Try.prog 114 0 0 1 false := FldV.of 25 rfl rfl rfl rfl
instance : Fld Try.prog 114 1 1 := ⟨fun _ _ _ => by kernel_rfl⟩
instance : FldV Try.prog 114 1 1 1 false := FldV.of 3 rfl rfl rfl rfl
instance : Fld Try.prog 114 2 2 := ⟨fun _ _ _ => by kernel_rfl⟩
instance : FldV Try.prog 114 2 2 1 false := FldV.of 28 rfl rfl rfl rfl
instance : Bld Try.prog 114 [(0, 1), (1, 1), (2, 1)] [.slice none 0 0, .int .i64 0, .int .i64 0] := Bld.of rfl (fun _ => by kernel_rfl)
instance : Fld Try.prog 115 0 0 := ⟨fun _ _ _ => by kernel_rfl⟩
instance : FldV Try.prog 115 0 0 1 false := FldV.of 25 rfl rfl rfl rfl
instance : Fld Try.prog 115 1 1 := ⟨fun _ _ _ => by kernel_rfl⟩
instance : FldV Try.prog 115 1 1 1 false := FldV.of 3 rfl rfl rfl rfl
instance : Fld Try.prog 115 2 2 := ⟨fun _ _ _ => by kernel_rfl⟩
instance : FldV Try.prog 115 2 2 1 false := FldV.of 28 rfl rfl rfl rfl
instance : Bld Try.prog 115 [(0, 1), (1, 1), (2, 1)] [.slice none 0 0, .int .i64 0, .int .i64 0] := Bld.of rfl (fun _ => by kernel_rfl)
instance : Fld Try.prog 120 0 0 := ⟨fun _ _ _ => by kernel_rfl⟩
instance : FldV Try.prog 120 0 0 1 false := FldV.of 25 rfl rfl rfl rfl
instance : Bld Try.prog 120 [(0, 1)] [.slice none 0 0] := Bld.of rfl (fun _ => by kernel_rfl)
instance : Fld Try.prog 121 0 0 := ⟨fun _ _ _ => by kernel_rfl⟩
instance : FldV Try.prog 121 0 0 1 false := FldV.of 25 rfl rfl rfl rfl
instance : Bld Try.prog 121 [(0, 1)] [.slice none 0 0] := Bld.of rfl (fun _ => by kernel_rfl)
instance : Fld Try.prog 126 0 0 := ⟨fun _ _ _ => by kernel_rfl⟩
instance : FldV Try.prog 126 0 0 1 false := FldV.of 3 rfl rfl rfl rfl
instance : Fld Try.prog 126 1 1 := ⟨fun _ _ _ => by kernel_rfl⟩
instance : FldV Try.prog 126 1 1 1 false := FldV.of 9 rfl rfl rfl rfl
instance : Fld Try.prog 126 2 2 := ⟨fun _ _ _ => by kernel_rfl⟩
instance : FldV Try.prog 126 2 2 1 false := FldV.of 9 rfl rfl rfl rfl
instance : Fld Try.prog 126 3 3 := ⟨fun _ _ _ => by kernel_rfl⟩
instance : FldV Try.prog 126 3 3 1 false := FldV.of 25 rfl rfl rfl rfl
instance : Fld Try.prog 126 4 4 := ⟨fun _ _ _ => by kernel_rfl⟩
instance : FldV Try.prog 126 4 4 1 false := FldV.of 3 rfl rfl rfl rfl
instance : Bld Try.prog 126 [(0, 1), (1, 1), (2, 1), (3, 1), (4, 1)] [.int .i64 0, .string ⟨#[]⟩, .string ⟨#[]⟩, .slice none 0 0, .int .i64 0] := Bld.of rfl (fun _ => by kernel_rfl)
instance : Fld Try.prog 127 0 0 := ⟨fun _ _ _ => by kernel_rfl⟩
instance : FldV Try.prog 127 0 0 1 false := FldV.of 3 rfl rfl rfl rfl
instance : Fld Try.prog 127 1 1 := ⟨fun _ _ _ => by kernel_rfl⟩
instance : FldV Try.prog 127 1 1 1 false := FldV.of 9 rfl rfl rfl rfl
instance : Fld Try.prog 127 2 2 := ⟨fun _ _ _ => by kernel_rfl⟩
instance : FldV Try.prog 127 2 2 1 false := FldV.of 9 rfl rfl rfl rfl
instance : Fld Try.prog 127 3 3 := ⟨fun _ _ _ => by kernel_rfl⟩
instance : FldV Try.prog 127 3 3 1 false := FldV.of 25 rfl rfl rfl rfl
instance : Fld Try.prog 127 4 4 := ⟨fun _ _ _ => by kernel_rfl⟩
instance : FldV Try.prog 127 4 4 1 false := FldV.of 3 rfl rfl rfl rfl
instance : Bld Try.prog 127 [(0, 1), (1, 1), (2, 1), (3, 1), (4, 1)] [.int .i64 0, .string ⟨#[]⟩, .string ⟨#[]⟩, .slice none 0 0, .int .i64 0] := Bld.of rfl (fun _ => by kernel_rfl)
instance : Ent Try.prog 3 := Ent.of Try.func3 (by kernel_rfl) (by kernel_rfl)
instance : Ent Try.prog 4 := Ent.of Try.func4 (by kernel_rfl) (by kernel_rfl)
instance : Ent Try.prog 5 := Ent.of Try.func5 (by kernel_rfl) (by kernel_rfl)
instance : Ent Try.prog 6 := Ent.of Try.func6 (by kernel_rfl) (by kernel_rfl)
instance : Ent Try.prog 7 := Ent.of Try.func7 (by kernel_rfl) (by kernel_rfl)
instance : Ent Try.prog 8 := Ent.of Try.func8 (by kernel_rfl) (by kernel_rfl)
instance : Ent Try.prog 9 := Ent.of Try.func9 (by kernel_rfl) (by kernel_rfl)
instance : Ent Try.prog 10 := Ent.of Try.func10 (by kernel_rfl) (by kernel_rfl)
instance : Ent Try.prog 11 := Ent.of Try.func11 (by kernel_rfl) (by kernel_rfl)
instance : Ent Try.prog 12 := Ent.of Try.func12 (by kernel_rfl) (by kernel_rfl)
instance : Ent Try.prog 13 := Ent.of Try.func13 (by kernel_rfl) (by kernel_rfl)
instance : Ent Try.prog 14 := Ent.of Try.func14 (by kernel_rfl) (by kernel_rfl)
instance : Ent Try.prog 15 := Ent.of Try.func15 (by kernel_rfl) (by kernel_rfl)
instance : Ent Try.prog 16 := Ent.of Try.func16 (by kernel_rfl) (by kernel_rfl)
instance : Ent Try.prog 17 := Ent.of Try.func17 (by kernel_rfl) (by kernel_rfl)
instance : Ent Try.prog 18 := Ent.of Try.func18 (by kernel_rfl) (by kernel_rfl)
instance : Ent Try.prog 19 := Ent.of Try.func19 (by kernel_rfl) (by kernel_rfl)
instance : Ent Try.prog 20 := Ent.of Try.func20 (by kernel_rfl) (by kernel_rfl)
instance : Ent Try.prog 21 := Ent.of Try.func21 (by kernel_rfl) (by kernel_rfl)
instance : Ent Try.prog 22 := Ent.of Try.func22 (by kernel_rfl) (by kernel_rfl)
instance : Ent Try.prog 23 := Ent.of Try.func23 (by kernel_rfl) (by kernel_rfl)
instance : Ent Try.prog 24 := Ent.of Try.func24 (by kernel_rfl) (by kernel_rfl)
instance : Ent Try.prog 25 := Ent.of Try.func25 (by kernel_rfl) (by kernel_rfl)
instance : Ent Try.prog 26 := Ent.of Try.func26 (by kernel_rfl) (by kernel_rfl)
instance : Ent Try.prog 27 := Ent.of Try.func27 (by kernel_rfl) (by kernel_rfl)
instance : Ent Try.prog 28 := Ent.of Try.func28 (by kernel_rfl) (by kernel_rfl)
instance : Ent Try.prog 29 := Ent.of Try.func29 (by kernel_rfl) (by kernel_rfl)
instance : Ent Try.prog 30 := Ent.of Try.func30 (by kernel_rfl) (by kernel_rfl)
instance : Ent Try.prog 31 := Ent.of Try.func31 (by kernel_rfl) (by kernel_rfl)
instance : Ent Try.prog 32 := Ent.of Try.func32 (by kernel_rfl) (by kernel_rfl)
instance : Ent Try.prog 33 := Ent.of Try.func33 (by kernel_rfl) (by kernel_rfl)
instance : Ent Try.prog 34 := Ent.of Try.func34 (by kernel_rfl) (by kernel_rfl)
instance : Ent Try.prog 35 := Ent.of Try.func35 (by kernel_rfl) (by kernel_rfl)
instance : Ent Try.prog 36 := Ent.of Try.func36 (by kernel_rfl) (by kernel_rfl)
instance : Ent Try.prog 37 := Ent.of Try.func37 (by kernel_rfl) (by kernel_rfl)
instance : Ent Try.prog 38 := Ent.of Try.func38 (by kernel_rfl) (by kernel_rfl)
instance : Ent Try.prog 39 := Ent.of Try.func39 (by kernel_rfl) (by kernel_rfl)
instance : Ent Try.prog 40 := Ent.of Try.func40 (by kernel_rfl) (by kernel_rfl)
instance : Ent Try.prog 41 := Ent.of Try.func41 (by kernel_rfl) (by kernel_rfl)
instance : Ent Try.prog 42 := Ent.of Try.func42 (by kernel_rfl) (by kernel_rfl)
instance : Ent Try.prog 43 := Ent.of Try.func43 (by kernel_rfl) (by kernel_rfl)
instance : Ent Try.prog 44 := Ent.of Try.func44 (by kernel_rfl) (by kernel_rfl)
instance : Ent Try.prog 45 := Ent.of Try.func45 (by kernel_rfl) (by kernel_rfl)
instance : Ent Try.prog 46 := Ent.of Try.func46 (by kernel_rfl) (by kernel_rfl)
instance : Ent Try.prog 47 := Ent.of Try.func47 (by kernel_rfl) (by kernel_rfl)
instance : Ent Try.prog 48 := Ent.of Try.func48 (by kernel_rfl) (by kernel_rfl)
instance : Ent Try.prog 49 := Ent.of Try.func49 (by kernel_rfl) (by kernel_rfl)
instance : Ent Try.prog 50 := Ent.of Try.func50 (by kernel_rfl) (by kernel_rfl)
instance : Ent Try.prog 51 := Ent.of Try.func51 (by kernel_rfl) (by kernel_rfl)
instance : Ent Try.prog 52 := Ent.of Try.func52 (by kernel_rfl) (by kernel_rfl)
instance : Ent Try.prog 53 := Ent.of Try.func53 (by kernel_rfl) (by kernel_rfl)
instance : Ent Try.prog 54 := Ent.of Try.func54 (by kernel_rfl) (by kernel_rfl)
instance : Ent Try.prog 55 := Ent.of Try.func55 (by kernel_rfl) (by kernel_rfl)
instance : Ent Try.prog 56 := Ent.of Try.func56 (by kernel_rfl) (by kernel_rfl)
instance : Ent Try.prog 57 := Ent.of Try.func57 (by kernel_rfl) (by kernel_rfl)
instance : Ent Try.prog 58 := Ent.of Try.func58 (by kernel_rfl) (by kernel_rfl)
instance : Ent Try.prog 59 := Ent.of Try.func59 (by kernel_rfl) (by kernel_rfl)
instance : Ent Try.prog 60 := Ent.of Try.func60 (by kernel_rfl) (by kernel_rfl)
instance : Ent Try.prog 61 := Ent.of Try.func61 (by kernel_rfl) (by kernel_rfl)
instance : Ent Try.prog 62 := Ent.of Try.func62 (by kernel_rfl) (by kernel_rfl)
instance : Ent Try.prog 63 := Ent.of Try.func63 (by kernel_rfl) (by kernel_rfl)
instance : Ent Try.prog 64 := Ent.of Try.func64 (by kernel_rfl) (by kernel_rfl)
instance : Ent Try.prog 65 := Ent.of Try.func65 (by kernel_rfl) (by kernel_rfl)
instance : Ent Try.prog 66 := Ent.of Try.func66 (by kernel_rfl) (by kernel_rfl)
instance : Ent Try.prog 67 := Ent.of Try.func67 (by kernel_rfl) (by kernel_rfl)
instance : Ent Try.prog 68 := Ent.of Try.func68 (by kernel_rfl) (by kernel_rfl)
instance : Ent Try.prog 69 := Ent.of Try.func69 (by kernel_rfl) (by kernel_rfl)
instance : Ent Try.prog 70 := Ent.of Try.func70 (by kernel_rfl) (by kernel_rfl)
instance : Ent Try.prog 71 := Ent.of Try.func71 (by kernel_rfl) (by kernel_rfl)
instance : Ent Try.prog 72 := Ent.of Try.func72 (by kernel_rfl) (by kernel_rfl)
instance : Ent Try.prog 73 := Ent.of Try.func73 (by kernel_rfl) (by kernel_rfl)
instance : Ent Try.prog 74 := Ent.of Try.func74 (by kernel_rfl) (by kernel_rfl)
instance : Ent Try.prog 75 := Ent.of Try.func75 (by kernel_rfl) (by kernel_rfl)
instance : Ent Try.prog 76 := Ent.of Try.func76 (by kernel_rfl) (by kernel_rfl)
instance : Ent Try.prog 77 := Ent.of Try.func77 (by kernel_rfl) (by kernel_rfl)
instance : Ent Try.prog 78 := Ent.of Try.func78 (by kernel_rfl) (by kernel_rfl)
instance : Ent Try.prog 79 := Ent.of Try.func79 (by kernel_rfl) (by kernel_rfl)
instance : Ent Try.prog 80 := Ent.of Try.func80 (by kernel_rfl) (by kernel_rfl)
instance : Ent Try.prog 81 := Ent.of Try.func81 (by kernel_rfl) (by kernel_rfl)
instance : Ent Try.prog 82 := Ent.of Try.func82 (by kernel_rfl) (by kernel_rfl)
instance : Ent Try.prog 83 := Ent.of Try.func83 (by kernel_rfl) (by kernel_rfl)
instance : Ent Try.prog 84 := Ent.of Try.func84 (by kernel_rfl) (by kernel_rfl)
instance : Ent Try.prog 85 := Ent.of Try.func85 (by kernel_rfl) (by kernel_rfl)
instance : Ent Try.prog 86 := Ent.of Try.func86 (by kernel_rfl) (by kernel_rfl)
instance : Ent Try.prog 87 := Ent.of Try.func87 (by kernel_rfl) (by kernel_rfl)
instance : Ent Try.prog 88 := Ent.of Try.func88 (by kernel_rfl) (by kernel_rfl)
instance : Ent Try.prog 89 := Ent.of Try.func89 (by kernel_rfl) (by kernel_rfl)
instance : Ent Try.prog 90 := Ent.of Try.func90 (by kernel_rfl) (by kernel_rfl)
instance : Ent Try.prog 91 := Ent.of Try.func91 (by kernel_rfl) (by kernel_rfl)
instance : Ent Try.prog 92 := Ent.of Try.func92 (by kernel_rfl) (by kernel_rfl)
instance : Ent Try.prog 93 := Ent.of Try.func93 (by kernel_rfl) (by kernel_rfl)
instance : Ent Try.prog 94 := Ent.of Try.func94 (by kernel_rfl) (by kernel_rfl)
instance : Ent Try.prog 95 := Ent.of Try.func95 (by kernel_rfl) (by kernel_rfl)
instance : Ent Try.prog 96 := Ent.of Try.func96 (by kernel_rfl) (by kernel_rfl)
instance : Ent Try.prog 97 := Ent.of Try.func97 (by kernel_rfl) (by kernel_rfl)
instance : Ent Try.prog 98 := Ent.of Try.func98 (by kernel_rfl) (by kernel_rfl)
instance : Ent Try.prog 99 := Ent.of Try.func99 (by kernel_rfl) (by kernel_rfl)
instance : Ent Try.prog 100 := Ent.of Try.func100 (by kernel_rfl) (by kernel_rfl)
instance : Ent Try.prog 101 := Ent.of Try.func101 (by kernel_rfl) (by kernel_rfl)
instance : Ent Try.prog 102 := Ent.of Try.func102 (by kernel_rfl) (by kernel_rfl)
instance : Ent Try.prog 103 := Ent.of Try.func103 (by kernel_rfl) (by kernel_rfl)
instance : Ent Try.prog 104 := Ent.of Try.func104 (by kernel_rfl) (by kernel_rfl)
instance : Ent Try.prog 105 := Ent.of Try.func105 (by kernel_rfl) (by kernel_rfl)
instance : Ent Try.prog 106 := Ent.of Try.func106 (by kernel_rfl) (by kernel_rfl)
instance : Ent Try.prog 107 := Ent.of Try.func107 (by kernel_rfl) (by kernel_rfl)
instance : Ent Try.prog 108 := Ent.of Try.func108 (by kernel_rfl) (by kernel_rfl)
instance : Ent Try.prog 109 := Ent.of Try.func109 (by kernel_rfl) (by kernel_rfl)
instance : Ent Try.prog 110 := Ent.of Try.func110 (by kernel_rfl) (by kernel_rfl)
instance : Ent Try.prog 111 := Ent.of Try.func111 (by kernel_rfl) (by kernel_rfl)
end Go.Sx
