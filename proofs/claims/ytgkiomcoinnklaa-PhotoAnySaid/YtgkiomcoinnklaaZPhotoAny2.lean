import Derived.Test.YtgkiomcoinnklaaRows
import Derived.Maps.RangeRun
import Derived.MapKept
import Derived.Test.YtgkiomcoinnklaaZPhotoAny1
section
namespace Go.Sx
open Go.Proofs
instance : Mix Try.prog := ⟨by kernel_rfl⟩
instance : Und Try.prog 2 (.int .i64) := ⟨Try.underlying2⟩
instance : Inf Try.prog 2 1 8 (.int .i64 0) := Inf.of (by kernel_rfl)
instance : Und Try.prog 3 (.int .i64) := ⟨Try.underlying3⟩
instance : Inf Try.prog 3 1 8 (.int .i64 0) := Inf.of (by kernel_rfl)
instance : Und Try.prog 4 (.bool) := ⟨Try.underlying4⟩
instance : Inf Try.prog 4 1 1 (.bool false) := Inf.of (by kernel_rfl)
instance : Und Try.prog 5 (.int .u8) := ⟨Try.underlying5⟩
instance : Inf Try.prog 5 1 1 (.int .u8 0) := Inf.of (by kernel_rfl)
instance : Und Try.prog 9 (.string) := ⟨Try.underlying9⟩
instance : Inf Try.prog 9 1 16 (.string ⟨#[]⟩) := Inf.of (by kernel_rfl)
instance : Und Try.prog 12 (.int .u64) := ⟨Try.underlying12⟩
instance : Inf Try.prog 12 1 8 (.int .u64 0) := Inf.of (by kernel_rfl)
instance : Und Try.prog 13 (.struct #[{ name := "msg", type := 9, offset := 0, embedded := false, tag := "", pkgPath := "runtime", byteOffset := 0 }, { name := "addr", type := 12, offset := 1, embedded := false, tag := "", pkgPath := "runtime", byteOffset := 16 }]) := ⟨Try.underlying13⟩
instance : Inf Try.prog 13 2 24 (.agg #[.string ⟨#[]⟩, .int .u64 0]) := Inf.of (by kernel_rfl)
instance : Und Try.prog 19 (.struct #[{ name := "typ", type := 17, offset := 0, embedded := false, tag := "", pkgPath := "internal/runtime/maps", byteOffset := 0 }]) := ⟨Try.underlying19⟩
instance : Inf Try.prog 19 1 8 (.agg #[.pointer none]) := Inf.of (by kernel_rfl)
instance : Und Try.prog 21 (.int .i32) := ⟨Try.underlying21⟩
instance : Inf Try.prog 21 1 4 (.int .i32 0) := Inf.of (by kernel_rfl)
instance : Und Try.prog 22 (.pointer 61) := ⟨Try.underlying22⟩
instance : Inf Try.prog 22 1 8 (.pointer none) := Inf.of (by kernel_rfl)
instance : Und Try.prog 23 (.int .i64) := ⟨Try.underlying23⟩
instance : Inf Try.prog 23 1 8 (.int .i64 0) := Inf.of (by kernel_rfl)
instance : Und Try.prog 26 (.int .u64) := ⟨Try.underlying26⟩
instance : Inf Try.prog 26 1 8 (.int .u64 0) := Inf.of (by kernel_rfl)
instance : Und Try.prog 27 (.struct #[{ name := "Index", type := 26, offset := 0, embedded := false, tag := "", pkgPath := "", byteOffset := 0 }, { name := "Term", type := 26, offset := 1, embedded := false, tag := "", pkgPath := "", byteOffset := 8 }, { name := "Conf", type := 3, offset := 2, embedded := false, tag := "", pkgPath := "", byteOffset := 16 }]) := ⟨Try.underlying27⟩
instance : Inf Try.prog 27 3 24 (.agg #[.int .u64 0, .int .u64 0, .int .i64 0]) := Inf.of (by kernel_rfl)
instance : Und Try.prog 28 (.struct #[{ name := "Index", type := 26, offset := 0, embedded := false, tag := "", pkgPath := "", byteOffset := 0 }, { name := "Term", type := 26, offset := 1, embedded := false, tag := "", pkgPath := "", byteOffset := 8 }, { name := "Conf", type := 3, offset := 2, embedded := false, tag := "", pkgPath := "", byteOffset := 16 }]) := ⟨Try.underlying28⟩
instance : Inf Try.prog 28 3 24 (.agg #[.int .u64 0, .int .u64 0, .int .i64 0]) := Inf.of (by kernel_rfl)
instance : Und Try.prog 29 (.slice 5) := ⟨Try.underlying29⟩
instance : Inf Try.prog 29 1 24 (.slice none 0 0) := Inf.of (by kernel_rfl)
instance : Und Try.prog 30 (.struct #[{ name := "Base", type := 28, offset := 0, embedded := false, tag := "", pkgPath := "", byteOffset := 0 }, { name := "Data", type := 29, offset := 3, embedded := false, tag := "", pkgPath := "", byteOffset := 24 }]) := ⟨Try.underlying30⟩
instance : Inf Try.prog 30 4 48 (.agg #[.int .u64 0, .int .u64 0, .int .i64 0, .slice none 0 0]) := Inf.of (by kernel_rfl)
instance : Und Try.prog 31 (.struct #[{ name := "Base", type := 28, offset := 0, embedded := false, tag := "", pkgPath := "", byteOffset := 0 }, { name := "Data", type := 29, offset := 3, embedded := false, tag := "", pkgPath := "", byteOffset := 24 }]) := ⟨Try.underlying31⟩
instance : Inf Try.prog 31 4 48 (.agg #[.int .u64 0, .int .u64 0, .int .i64 0, .slice none 0 0]) := Inf.of (by kernel_rfl)
instance : Und Try.prog 38 (.slice 31) := ⟨Try.underlying38⟩
instance : Inf Try.prog 38 1 24 (.slice none 0 0) := Inf.of (by kernel_rfl)
instance : Und Try.prog 42 (.struct #[{ name := "What", type := 3, offset := 0, embedded := false, tag := "", pkgPath := "", byteOffset := 0 }, { name := "A", type := 3, offset := 1, embedded := false, tag := "", pkgPath := "", byteOffset := 8 }, { name := "B", type := 3, offset := 2, embedded := false, tag := "", pkgPath := "", byteOffset := 16 }]) := ⟨Try.underlying42⟩
instance : Inf Try.prog 42 3 24 (.agg #[.int .i64 0, .int .i64 0, .int .i64 0]) := Inf.of (by kernel_rfl)
instance : Und Try.prog 43 (.struct #[{ name := "What", type := 3, offset := 0, embedded := false, tag := "", pkgPath := "", byteOffset := 0 }, { name := "A", type := 3, offset := 1, embedded := false, tag := "", pkgPath := "", byteOffset := 8 }, { name := "B", type := 3, offset := 2, embedded := false, tag := "", pkgPath := "", byteOffset := 16 }]) := ⟨Try.underlying43⟩
instance : Inf Try.prog 43 3 24 (.agg #[.int .i64 0, .int .i64 0, .int .i64 0]) := Inf.of (by kernel_rfl)
instance : Und Try.prog 44 (.struct #[{ name := "What", type := 3, offset := 0, embedded := false, tag := "", pkgPath := "", byteOffset := 0 }, { name := "S", type := 31, offset := 1, embedded := false, tag := "", pkgPath := "", byteOffset := 8 }, { name := "Near", type := 4, offset := 5, embedded := false, tag := "", pkgPath := "", byteOffset := 56 }, { name := "Harm", type := 43, offset := 6, embedded := false, tag := "", pkgPath := "", byteOffset := 64 }]) := ⟨Try.underlying44⟩
instance : Inf Try.prog 44 9 88 (.agg #[.int .i64 0, .int .u64 0, .int .u64 0, .int .i64 0, .slice none 0 0, .bool false, .int .i64 0, .int .i64 0, .int .i64 0]) := Inf.of (by kernel_rfl)
instance : Und Try.prog 45 (.struct #[{ name := "What", type := 3, offset := 0, embedded := false, tag := "", pkgPath := "", byteOffset := 0 }, { name := "S", type := 31, offset := 1, embedded := false, tag := "", pkgPath := "", byteOffset := 8 }, { name := "Near", type := 4, offset := 5, embedded := false, tag := "", pkgPath := "", byteOffset := 56 }, { name := "Harm", type := 43, offset := 6, embedded := false, tag := "", pkgPath := "", byteOffset := 64 }]) := ⟨Try.underlying45⟩
instance : Inf Try.prog 45 9 88 (.agg #[.int .i64 0, .int .u64 0, .int .u64 0, .int .i64 0, .slice none 0 0, .bool false, .int .i64 0, .int .i64 0, .int .i64 0]) := Inf.of (by kernel_rfl)
instance : Und Try.prog 49 (.struct #[{ name := "Name", type := 9, offset := 0, embedded := false, tag := "", pkgPath := "", byteOffset := 0 }, { name := "Bytes", type := 29, offset := 1, embedded := false, tag := "", pkgPath := "", byteOffset := 16 }]) := ⟨Try.underlying49⟩
instance : Inf Try.prog 49 2 40 (.agg #[.string ⟨#[]⟩, .slice none 0 0]) := Inf.of (by kernel_rfl)
instance : Und Try.prog 50 (.struct #[{ name := "Name", type := 9, offset := 0, embedded := false, tag := "", pkgPath := "", byteOffset := 0 }, { name := "Bytes", type := 29, offset := 1, embedded := false, tag := "", pkgPath := "", byteOffset := 16 }]) := ⟨Try.underlying50⟩
instance : Inf Try.prog 50 2 40 (.agg #[.string ⟨#[]⟩, .slice none 0 0]) := Inf.of (by kernel_rfl)
instance : Und Try.prog 51 (.slice 50) := ⟨Try.underlying51⟩
instance : Inf Try.prog 51 1 24 (.slice none 0 0) := Inf.of (by kernel_rfl)
instance : Und Try.prog 52 (.pointer 90) := ⟨Try.underlying52⟩
instance : Inf Try.prog 52 1 8 (.pointer none) := Inf.of (by kernel_rfl)
instance : Und Try.prog 58 (.map 9 29) := ⟨Try.underlying58⟩
instance : Inf Try.prog 58 1 8 (.map none) := Inf.of (by kernel_rfl)
instance : Und Try.prog 59 (.slice 83) := ⟨Try.underlying59⟩
instance : Inf Try.prog 59 1 24 (.slice none 0 0) := Inf.of (by kernel_rfl)
instance : Und Try.prog 60 (.struct #[{ name := "room", type := 3, offset := 0, embedded := false, tag := "", pkgPath := "bursar/disk", byteOffset := 0 }, { name := "synced", type := 58, offset := 1, embedded := false, tag := "", pkgPath := "bursar/disk", byteOffset := 8 }, { name := "now", type := 58, offset := 2, embedded := false, tag := "", pkgPath := "bursar/disk", byteOffset := 16 }, { name := "pending", type := 59, offset := 3, embedded := false, tag := "", pkgPath := "bursar/disk", byteOffset := 24 }, { name := "fuse", type := 3, offset := 4, embedded := false, tag := "", pkgPath := "bursar/disk", byteOffset := 48 }, { name := "down", type := 4, offset := 5, embedded := false, tag := "", pkgPath := "bursar/disk", byteOffset := 56 }]) := ⟨Try.underlying60⟩
instance : Inf Try.prog 60 6 64 (.agg #[.int .i64 0, .map none, .map none, .slice none 0 0, .int .i64 0, .bool false]) := Inf.of (by kernel_rfl)
instance : Und Try.prog 61 (.struct #[{ name := "room", type := 3, offset := 0, embedded := false, tag := "", pkgPath := "bursar/disk", byteOffset := 0 }, { name := "synced", type := 58, offset := 1, embedded := false, tag := "", pkgPath := "bursar/disk", byteOffset := 8 }, { name := "now", type := 58, offset := 2, embedded := false, tag := "", pkgPath := "bursar/disk", byteOffset := 16 }, { name := "pending", type := 59, offset := 3, embedded := false, tag := "", pkgPath := "bursar/disk", byteOffset := 24 }, { name := "fuse", type := 3, offset := 4, embedded := false, tag := "", pkgPath := "bursar/disk", byteOffset := 48 }, { name := "down", type := 4, offset := 5, embedded := false, tag := "", pkgPath := "bursar/disk", byteOffset := 56 }]) := ⟨Try.underlying61⟩
instance : Inf Try.prog 61 6 64 (.agg #[.int .i64 0, .map none, .map none, .slice none 0 0, .int .i64 0, .bool false]) := Inf.of (by kernel_rfl)
instance : Und Try.prog 65 (.slice 29) := ⟨Try.underlying65⟩
instance : Inf Try.prog 65 1 24 (.slice none 0 0) := Inf.of (by kernel_rfl)
instance : Und Try.prog 68 (.pointer 103) := ⟨Try.underlying68⟩
instance : Inf Try.prog 68 1 8 (.pointer none) := Inf.of (by kernel_rfl)
instance : Und Try.prog 73 (.pointer 108) := ⟨Try.underlying73⟩
instance : Inf Try.prog 73 1 8 (.pointer none) := Inf.of (by kernel_rfl)
instance : Und Try.prog 82 (.struct #[{ name := "kind", type := 3, offset := 0, embedded := false, tag := "", pkgPath := "bursar/disk", byteOffset := 0 }, { name := "name", type := 9, offset := 1, embedded := false, tag := "", pkgPath := "bursar/disk", byteOffset := 8 }, { name := "to", type := 9, offset := 2, embedded := false, tag := "", pkgPath := "bursar/disk", byteOffset := 24 }, { name := "bytes", type := 29, offset := 3, embedded := false, tag := "", pkgPath := "bursar/disk", byteOffset := 40 }, { name := "size", type := 3, offset := 4, embedded := false, tag := "", pkgPath := "bursar/disk", byteOffset := 64 }]) := ⟨Try.underlying82⟩
instance : Inf Try.prog 82 5 72 (.agg #[.int .i64 0, .string ⟨#[]⟩, .string ⟨#[]⟩, .slice none 0 0, .int .i64 0]) := Inf.of (by kernel_rfl)
instance : Und Try.prog 83 (.struct #[{ name := "kind", type := 3, offset := 0, embedded := false, tag := "", pkgPath := "bursar/disk", byteOffset := 0 }, { name := "name", type := 9, offset := 1, embedded := false, tag := "", pkgPath := "bursar/disk", byteOffset := 8 }, { name := "to", type := 9, offset := 2, embedded := false, tag := "", pkgPath := "bursar/disk", byteOffset := 24 }, { name := "bytes", type := 29, offset := 3, embedded := false, tag := "", pkgPath := "bursar/disk", byteOffset := 40 }, { name := "size", type := 3, offset := 4, embedded := false, tag := "", pkgPath := "bursar/disk", byteOffset := 64 }]) := ⟨Try.underlying83⟩
instance : Inf Try.prog 83 5 72 (.agg #[.int .i64 0, .string ⟨#[]⟩, .string ⟨#[]⟩, .slice none 0 0, .int .i64 0]) := Inf.of (by kernel_rfl)
instance : Und Try.prog 85 (.int .u32) := ⟨Try.underlying85⟩
instance : Inf Try.prog 85 1 4 (.int .u32 0) := Inf.of (by kernel_rfl)
instance : Und Try.prog 87 (.int .u64) := ⟨Try.underlying87⟩
instance : Inf Try.prog 87 1 8 (.int .u64 0) := Inf.of (by kernel_rfl)
instance : Und Try.prog 88 (.slice 115) := ⟨Try.underlying88⟩
instance : Inf Try.prog 88 1 24 (.slice none 0 0) := Inf.of (by kernel_rfl)
instance : Und Try.prog 89 (.struct #[{ name := "Space", type := 3, offset := 0, embedded := false, tag := "", pkgPath := "", byteOffset := 0 }, { name := "synced", type := 51, offset := 1, embedded := false, tag := "", pkgPath := "bursar/bursarref7", byteOffset := 8 }, { name := "now", type := 51, offset := 2, embedded := false, tag := "", pkgPath := "bursar/bursarref7", byteOffset := 32 }, { name := "Wait", type := 88, offset := 3, embedded := false, tag := "", pkgPath := "", byteOffset := 56 }, { name := "fused", type := 4, offset := 4, embedded := false, tag := "", pkgPath := "bursar/bursarref7", byteOffset := 80 }, { name := "fuse", type := 3, offset := 5, embedded := false, tag := "", pkgPath := "bursar/bursarref7", byteOffset := 88 }, { name := "IsDown", type := 4, offset := 6, embedded := false, tag := "", pkgPath := "", byteOffset := 96 }]) := ⟨Try.underlying89⟩
instance : Inf Try.prog 89 7 104 (.agg #[.int .i64 0, .slice none 0 0, .slice none 0 0, .slice none 0 0, .bool false, .int .i64 0, .bool false]) := Inf.of (by kernel_rfl)
instance : Und Try.prog 90 (.struct #[{ name := "Space", type := 3, offset := 0, embedded := false, tag := "", pkgPath := "", byteOffset := 0 }, { name := "synced", type := 51, offset := 1, embedded := false, tag := "", pkgPath := "bursar/bursarref7", byteOffset := 8 }, { name := "now", type := 51, offset := 2, embedded := false, tag := "", pkgPath := "bursar/bursarref7", byteOffset := 32 }, { name := "Wait", type := 88, offset := 3, embedded := false, tag := "", pkgPath := "", byteOffset := 56 }, { name := "fused", type := 4, offset := 4, embedded := false, tag := "", pkgPath := "bursar/bursarref7", byteOffset := 80 }, { name := "fuse", type := 3, offset := 5, embedded := false, tag := "", pkgPath := "bursar/bursarref7", byteOffset := 88 }, { name := "IsDown", type := 4, offset := 6, embedded := false, tag := "", pkgPath := "", byteOffset := 96 }]) := ⟨Try.underlying90⟩
instance : Inf Try.prog 90 7 104 (.agg #[.int .i64 0, .slice none 0 0, .slice none 0 0, .slice none 0 0, .bool false, .int .i64 0, .bool false]) := Inf.of (by kernel_rfl)
instance : Und Try.prog 93 (.pointer 95) := ⟨Try.underlying93⟩
instance : Inf Try.prog 93 1 8 (.pointer none) := Inf.of (by kernel_rfl)
instance : Und Try.prog 94 (.struct #[{ name := "B", type := 29, offset := 0, embedded := false, tag := "", pkgPath := "", byteOffset := 0 }, { name := "At", type := 3, offset := 1, embedded := false, tag := "", pkgPath := "", byteOffset := 24 }, { name := "Bad", type := 23, offset := 2, embedded := false, tag := "", pkgPath := "", byteOffset := 32 }]) := ⟨Try.underlying94⟩
instance : Inf Try.prog 94 3 40 (.agg #[.slice none 0 0, .int .i64 0, .int .i64 0]) := Inf.of (by kernel_rfl)
instance : Und Try.prog 95 (.struct #[{ name := "B", type := 29, offset := 0, embedded := false, tag := "", pkgPath := "", byteOffset := 0 }, { name := "At", type := 3, offset := 1, embedded := false, tag := "", pkgPath := "", byteOffset := 24 }, { name := "Bad", type := 23, offset := 2, embedded := false, tag := "", pkgPath := "", byteOffset := 32 }]) := ⟨Try.underlying95⟩
instance : Inf Try.prog 95 3 40 (.agg #[.slice none 0 0, .int .i64 0, .int .i64 0]) := Inf.of (by kernel_rfl)
instance : Und Try.prog 96 (.slice 9) := ⟨Try.underlying96⟩
instance : Inf Try.prog 96 1 24 (.slice none 0 0) := Inf.of (by kernel_rfl)
instance : Und Try.prog 102 (.struct #[{ name := "b", type := 29, offset := 0, embedded := false, tag := "", pkgPath := "bursar/pack", byteOffset := 0 }, { name := "at", type := 3, offset := 1, embedded := false, tag := "", pkgPath := "bursar/pack", byteOffset := 24 }, { name := "bad", type := 23, offset := 2, embedded := false, tag := "", pkgPath := "bursar/pack", byteOffset := 32 }]) := ⟨Try.underlying102⟩
instance : Inf Try.prog 102 3 40 (.agg #[.slice none 0 0, .int .i64 0, .int .i64 0]) := Inf.of (by kernel_rfl)
instance : Und Try.prog 103 (.struct #[{ name := "b", type := 29, offset := 0, embedded := false, tag := "", pkgPath := "bursar/pack", byteOffset := 0 }, { name := "at", type := 3, offset := 1, embedded := false, tag := "", pkgPath := "bursar/pack", byteOffset := 24 }, { name := "bad", type := 23, offset := 2, embedded := false, tag := "", pkgPath := "bursar/pack", byteOffset := 32 }]) := ⟨Try.underlying103⟩
instance : Inf Try.prog 103 3 40 (.agg #[.slice none 0 0, .int .i64 0, .int .i64 0]) := Inf.of (by kernel_rfl)
instance : Und Try.prog 107 (.struct #[{ name := "b", type := 29, offset := 0, embedded := false, tag := "", pkgPath := "bursar/pack", byteOffset := 0 }]) := ⟨Try.underlying107⟩
instance : Inf Try.prog 107 1 24 (.agg #[.slice none 0 0]) := Inf.of (by kernel_rfl)
instance : Und Try.prog 108 (.struct #[{ name := "b", type := 29, offset := 0, embedded := false, tag := "", pkgPath := "bursar/pack", byteOffset := 0 }]) := ⟨Try.underlying108⟩
instance : Inf Try.prog 108 1 24 (.agg #[.slice none 0 0]) := Inf.of (by kernel_rfl)
instance : Und Try.prog 114 (.struct #[{ name := "what", type := 3, offset := 0, embedded := false, tag := "", pkgPath := "bursar/bursarref7", byteOffset := 0 }, { name := "name", type := 9, offset := 1, embedded := false, tag := "", pkgPath := "bursar/bursarref7", byteOffset := 8 }, { name := "to", type := 9, offset := 2, embedded := false, tag := "", pkgPath := "bursar/bursarref7", byteOffset := 24 }, { name := "b", type := 29, offset := 3, embedded := false, tag := "", pkgPath := "bursar/bursarref7", byteOffset := 40 }, { name := "size", type := 3, offset := 4, embedded := false, tag := "", pkgPath := "bursar/bursarref7", byteOffset := 64 }]) := ⟨Try.underlying114⟩
instance : Inf Try.prog 114 5 72 (.agg #[.int .i64 0, .string ⟨#[]⟩, .string ⟨#[]⟩, .slice none 0 0, .int .i64 0]) := Inf.of (by kernel_rfl)
instance : Und Try.prog 115 (.struct #[{ name := "what", type := 3, offset := 0, embedded := false, tag := "", pkgPath := "bursar/bursarref7", byteOffset := 0 }, { name := "name", type := 9, offset := 1, embedded := false, tag := "", pkgPath := "bursar/bursarref7", byteOffset := 8 }, { name := "to", type := 9, offset := 2, embedded := false, tag := "", pkgPath := "bursar/bursarref7", byteOffset := 24 }, { name := "b", type := 29, offset := 3, embedded := false, tag := "", pkgPath := "bursar/bursarref7", byteOffset := 40 }, { name := "size", type := 3, offset := 4, embedded := false, tag := "", pkgPath := "bursar/bursarref7", byteOffset := 64 }]) := ⟨Try.underlying115⟩
instance : Inf Try.prog 115 5 72 (.agg #[.int .i64 0, .string ⟨#[]⟩, .string ⟨#[]⟩, .slice none 0 0, .int .i64 0]) := Inf.of (by kernel_rfl)
instance : Und Try.prog 129 (.int .i64) := ⟨Try.underlying129⟩
instance : Inf Try.prog 129 1 8 (.int .i64 0) := Inf.of (by kernel_rfl)
instance : Und Try.prog 139 (.int .u64) := ⟨Try.underlying139⟩
instance : Inf Try.prog 139 1 8 (.int .u64 0) := Inf.of (by kernel_rfl)
instance : Und Try.prog 143 (.pointer 3) := ⟨Try.underlying143⟩
instance : Inf Try.prog 143 1 8 (.pointer none) := Inf.of (by kernel_rfl)
instance : Und Try.prog 145 (.pointer 139) := ⟨Try.underlying145⟩
instance : Inf Try.prog 145 1 8 (.pointer none) := Inf.of (by kernel_rfl)
instance : Und Try.prog 157 (.pointer 5) := ⟨Try.underlying157⟩
instance : Inf Try.prog 157 1 8 (.pointer none) := Inf.of (by kernel_rfl)
instance : Und Try.prog 164 (.unsafePointer) := ⟨Try.underlying164⟩
instance : Inf Try.prog 164 1 8 (.pointer none) := Inf.of (by kernel_rfl)
instance : Fld Try.prog 13 0 0 := ⟨fun _ _ _ => by kernel_rfl⟩
instance : FldV Try.prog 13 0 0 1 false := FldV.of 9 rfl rfl rfl rfl
instance : Fld Try.prog 13 1 1 := ⟨fun _ _ _ => by kernel_rfl⟩
instance : FldV Try.prog 13 1 1 1 false := FldV.of 12 rfl rfl rfl rfl
instance : Bld Try.prog 13 [(0, 1), (1, 1)] [.string ⟨#[]⟩, .int .u64 0] := Bld.of rfl (fun _ => by kernel_rfl)
instance : Fld Try.prog 19 0 0 := ⟨fun _ _ _ => by kernel_rfl⟩
instance : Fld Try.prog 27 0 0 := ⟨fun _ _ _ => by kernel_rfl⟩
instance : FldV Try.prog 27 0 0 1 false := FldV.of 26 rfl rfl rfl rfl
instance : Fld Try.prog 27 1 1 := ⟨fun _ _ _ => by kernel_rfl⟩
instance : FldV Try.prog 27 1 1 1 false := FldV.of 26 rfl rfl rfl rfl
instance : Fld Try.prog 27 2 2 := ⟨fun _ _ _ => by kernel_rfl⟩
instance : FldV Try.prog 27 2 2 1 false := FldV.of 3 rfl rfl rfl rfl
instance : Bld Try.prog 27 [(0, 1), (1, 1), (2, 1)] [.int .u64 0, .int .u64 0, .int .i64 0] := Bld.of rfl (fun _ => by kernel_rfl)
instance : Fld Try.prog 28 0 0 := ⟨fun _ _ _ => by kernel_rfl⟩
instance : FldV Try.prog 28 0 0 1 false := FldV.of 26 rfl rfl rfl rfl
instance : Fld Try.prog 28 1 1 := ⟨fun _ _ _ => by kernel_rfl⟩
instance : FldV Try.prog 28 1 1 1 false := FldV.of 26 rfl rfl rfl rfl
instance : Fld Try.prog 28 2 2 := ⟨fun _ _ _ => by kernel_rfl⟩
instance : FldV Try.prog 28 2 2 1 false := FldV.of 3 rfl rfl rfl rfl
instance : Bld Try.prog 28 [(0, 1), (1, 1), (2, 1)] [.int .u64 0, .int .u64 0, .int .i64 0] := Bld.of rfl (fun _ => by kernel_rfl)
instance : Fld Try.prog 30 0 0 := ⟨fun _ _ _ => by kernel_rfl⟩
instance : FldV Try.prog 30 0 0 3 true := FldV.of 28 rfl rfl rfl rfl
instance : Fld Try.prog 30 1 3 := ⟨fun _ _ _ => by kernel_rfl⟩
instance : FldV Try.prog 30 1 3 1 false := FldV.of 29 rfl rfl rfl rfl
instance : Bld Try.prog 30 [(0, 3), (3, 1)] [.int .u64 0, .int .u64 0, .int .i64 0, .slice none 0 0] := Bld.of rfl (fun _ => by kernel_rfl)
instance : Fld Try.prog 31 0 0 := ⟨fun _ _ _ => by kernel_rfl⟩
instance : FldV Try.prog 31 0 0 3 true := FldV.of 28 rfl rfl rfl rfl
instance : Fld Try.prog 31 1 3 := ⟨fun _ _ _ => by kernel_rfl⟩
instance : FldV Try.prog 31 1 3 1 false := FldV.of 29 rfl rfl rfl rfl
instance : Bld Try.prog 31 [(0, 3), (3, 1)] [.int .u64 0, .int .u64 0, .int .i64 0, .slice none 0 0] := Bld.of rfl (fun _ => by kernel_rfl)
instance : Fld Try.prog 42 0 0 := ⟨fun _ _ _ => by kernel_rfl⟩
instance : FldV Try.prog 42 0 0 1 false := FldV.of 3 rfl rfl rfl rfl
instance : Fld Try.prog 42 1 1 := ⟨fun _ _ _ => by kernel_rfl⟩
instance : FldV Try.prog 42 1 1 1 false := FldV.of 3 rfl rfl rfl rfl
instance : Fld Try.prog 42 2 2 := ⟨fun _ _ _ => by kernel_rfl⟩
instance : FldV Try.prog 42 2 2 1 false := FldV.of 3 rfl rfl rfl rfl
instance : Bld Try.prog 42 [(0, 1), (1, 1), (2, 1)] [.int .i64 0, .int .i64 0, .int .i64 0] := Bld.of rfl (fun _ => by kernel_rfl)
instance : Fld Try.prog 43 0 0 := ⟨fun _ _ _ => by kernel_rfl⟩
instance : FldV Try.prog 43 0 0 1 false := FldV.of 3 rfl rfl rfl rfl
instance : Fld Try.prog 43 1 1 := ⟨fun _ _ _ => by kernel_rfl⟩
instance : FldV Try.prog 43 1 1 1 false := FldV.of 3 rfl rfl rfl rfl
instance : Fld Try.prog 43 2 2 := ⟨fun _ _ _ => by kernel_rfl⟩
instance : FldV Try.prog 43 2 2 1 false := FldV.of 3 rfl rfl rfl rfl
instance : Bld Try.prog 43 [(0, 1), (1, 1), (2, 1)] [.int .i64 0, .int .i64 0, .int .i64 0] := Bld.of rfl (fun _ => by kernel_rfl)
instance : Fld Try.prog 44 0 0 := ⟨fun _ _ _ => by kernel_rfl⟩
instance : FldV Try.prog 44 0 0 1 false := FldV.of 3 rfl rfl rfl rfl
instance : Fld Try.prog 44 1 1 := ⟨fun _ _ _ => by kernel_rfl⟩
instance : FldV Try.prog 44 1 1 4 true := FldV.of 31 rfl rfl rfl rfl
instance : Fld Try.prog 44 2 5 := ⟨fun _ _ _ => by kernel_rfl⟩
instance : FldV Try.prog 44 2 5 1 false := FldV.of 4 rfl rfl rfl rfl
instance : Fld Try.prog 44 3 6 := ⟨fun _ _ _ => by kernel_rfl⟩
instance : FldV Try.prog 44 3 6 3 true := FldV.of 43 rfl rfl rfl rfl
instance : Bld Try.prog 44 [(0, 1), (1, 4), (5, 1), (6, 3)] [.int .i64 0, .int .u64 0, .int .u64 0, .int .i64 0, .slice none 0 0, .bool false, .int .i64 0, .int .i64 0, .int .i64 0] := Bld.of rfl (fun _ => by kernel_rfl)
instance : Fld Try.prog 45 0 0 := ⟨fun _ _ _ => by kernel_rfl⟩
instance : FldV Try.prog 45 0 0 1 false := FldV.of 3 rfl rfl rfl rfl
instance : Fld Try.prog 45 1 1 := ⟨fun _ _ _ => by kernel_rfl⟩
instance : FldV Try.prog 45 1 1 4 true := FldV.of 31 rfl rfl rfl rfl
instance : Fld Try.prog 45 2 5 := ⟨fun _ _ _ => by kernel_rfl⟩
instance : FldV Try.prog 45 2 5 1 false := FldV.of 4 rfl rfl rfl rfl
instance : Fld Try.prog 45 3 6 := ⟨fun _ _ _ => by kernel_rfl⟩
instance : FldV Try.prog 45 3 6 3 true := FldV.of 43 rfl rfl rfl rfl
instance : Bld Try.prog 45 [(0, 1), (1, 4), (5, 1), (6, 3)] [.int .i64 0, .int .u64 0, .int .u64 0, .int .i64 0, .slice none 0 0, .bool false, .int .i64 0, .int .i64 0, .int .i64 0] := Bld.of rfl (fun _ => by kernel_rfl)
instance : Fld Try.prog 49 0 0 := ⟨fun _ _ _ => by kernel_rfl⟩
instance : FldV Try.prog 49 0 0 1 false := FldV.of 9 rfl rfl rfl rfl
instance : Fld Try.prog 49 1 1 := ⟨fun _ _ _ => by kernel_rfl⟩
instance : FldV Try.prog 49 1 1 1 false := FldV.of 29 rfl rfl rfl rfl
instance : Bld Try.prog 49 [(0, 1), (1, 1)] [.string ⟨#[]⟩, .slice none 0 0] := Bld.of rfl (fun _ => by kernel_rfl)
instance : Fld Try.prog 50 0 0 := ⟨fun _ _ _ => by kernel_rfl⟩
instance : FldV Try.prog 50 0 0 1 false := FldV.of 9 rfl rfl rfl rfl
instance : Fld Try.prog 50 1 1 := ⟨fun _ _ _ => by kernel_rfl⟩
instance : FldV Try.prog 50 1 1 1 false := FldV.of 29 rfl rfl rfl rfl
instance : Bld Try.prog 50 [(0, 1), (1, 1)] [.string ⟨#[]⟩, .slice none 0 0] := Bld.of rfl (fun _ => by kernel_rfl)
instance : Fld Try.prog 60 0 0 := ⟨fun _ _ _ => by kernel_rfl⟩
instance : FldV Try.prog 60 0 0 1 false := FldV.of 3 rfl rfl rfl rfl
instance : Fld Try.prog 60 1 1 := ⟨fun _ _ _ => by kernel_rfl⟩
instance : FldV Try.prog 60 1 1 1 false := FldV.of 58 rfl rfl rfl rfl
instance : Fld Try.prog 60 2 2 := ⟨fun _ _ _ => by kernel_rfl⟩
instance : FldV Try.prog 60 2 2 1 false := FldV.of 58 rfl rfl rfl rfl
instance : Fld Try.prog 60 3 3 := ⟨fun _ _ _ => by kernel_rfl⟩
instance : FldV Try.prog 60 3 3 1 false := FldV.of 59 rfl rfl rfl rfl
instance : Fld Try.prog 60 4 4 := ⟨fun _ _ _ => by kernel_rfl⟩
instance : FldV Try.prog 60 4 4 1 false := FldV.of 3 rfl rfl rfl rfl
instance : Fld Try.prog 60 5 5 := ⟨fun _ _ _ => by kernel_rfl⟩
instance : FldV Try.prog 60 5 5 1 false := FldV.of 4 rfl rfl rfl rfl
instance : Bld Try.prog 60 [(0, 1), (1, 1), (2, 1), (3, 1), (4, 1), (5, 1)] [.int .i64 0, .map none, .map none, .slice none 0 0, .int .i64 0, .bool false] := Bld.of rfl (fun _ => by kernel_rfl)
instance : Fld Try.prog 61 0 0 := ⟨fun _ _ _ => by kernel_rfl⟩
instance : FldV Try.prog 61 0 0 1 false := FldV.of 3 rfl rfl rfl rfl
instance : Fld Try.prog 61 1 1 := ⟨fun _ _ _ => by kernel_rfl⟩
instance : FldV Try.prog 61 1 1 1 false := FldV.of 58 rfl rfl rfl rfl
instance : Fld Try.prog 61 2 2 := ⟨fun _ _ _ => by kernel_rfl⟩
instance : FldV Try.prog 61 2 2 1 false := FldV.of 58 rfl rfl rfl rfl
instance : Fld Try.prog 61 3 3 := ⟨fun _ _ _ => by kernel_rfl⟩
instance : FldV Try.prog 61 3 3 1 false := FldV.of 59 rfl rfl rfl rfl
instance : Fld Try.prog 61 4 4 := ⟨fun _ _ _ => by kernel_rfl⟩
instance : FldV Try.prog 61 4 4 1 false := FldV.of 3 rfl rfl rfl rfl
instance : Fld Try.prog 61 5 5 := ⟨fun _ _ _ => by kernel_rfl⟩
instance : FldV Try.prog 61 5 5 1 false := FldV.of 4 rfl rfl rfl rfl
instance : Bld Try.prog 61 [(0, 1), (1, 1), (2, 1), (3, 1), (4, 1), (5, 1)] [.int .i64 0, .map none, .map none, .slice none 0 0, .int .i64 0, .bool false] := Bld.of rfl (fun _ => by kernel_rfl)
instance : Fld Try.prog 82 0 0 := ⟨fun _ _ _ => by kernel_rfl⟩
instance : FldV Try.prog 82 0 0 1 false := FldV.of 3 rfl rfl rfl rfl
instance : Fld Try.prog 82 1 1 := ⟨fun _ _ _ => by kernel_rfl⟩
instance : FldV Try.prog 82 1 1 1 false := FldV.of 9 rfl rfl rfl rfl
instance : Fld Try.prog 82 2 2 := ⟨fun _ _ _ => by kernel_rfl⟩
instance : FldV Try.prog 82 2 2 1 false := FldV.of 9 rfl rfl rfl rfl
instance : Fld Try.prog 82 3 3 := ⟨fun _ _ _ => by kernel_rfl⟩
instance : FldV Try.prog 82 3 3 1 false := FldV.of 29 rfl rfl rfl rfl
instance : Fld Try.prog 82 4 4 := ⟨fun _ _ _ => by kernel_rfl⟩
instance : FldV Try.prog 82 4 4 1 false := FldV.of 3 rfl rfl rfl rfl
instance : Bld Try.prog 82 [(0, 1), (1, 1), (2, 1), (3, 1), (4, 1)] [.int .i64 0, .string ⟨#[]⟩, .string ⟨#[]⟩, .slice none 0 0, .int .i64 0] := Bld.of rfl (fun _ => by kernel_rfl)
instance : Fld Try.prog 83 0 0 := ⟨fun _ _ _ => by kernel_rfl⟩
instance : FldV Try.prog 83 0 0 1 false := FldV.of 3 rfl rfl rfl rfl
instance : Fld Try.prog 83 1 1 := ⟨fun _ _ _ => by kernel_rfl⟩
instance : FldV Try.prog 83 1 1 1 false := FldV.of 9 rfl rfl rfl rfl
instance : Fld Try.prog 83 2 2 := ⟨fun _ _ _ => by kernel_rfl⟩
instance : FldV Try.prog 83 2 2 1 false := FldV.of 9 rfl rfl rfl rfl
instance : Fld Try.prog 83 3 3 := ⟨fun _ _ _ => by kernel_rfl⟩
instance : FldV Try.prog 83 3 3 1 false := FldV.of 29 rfl rfl rfl rfl
instance : Fld Try.prog 83 4 4 := ⟨fun _ _ _ => by kernel_rfl⟩
instance : FldV Try.prog 83 4 4 1 false := FldV.of 3 rfl rfl rfl rfl
instance : Bld Try.prog 83 [(0, 1), (1, 1), (2, 1), (3, 1), (4, 1)] [.int .i64 0, .string ⟨#[]⟩, .string ⟨#[]⟩, .slice none 0 0, .int .i64 0] := Bld.of rfl (fun _ => by kernel_rfl)
instance : Fld Try.prog 89 0 0 := ⟨fun _ _ _ => by kernel_rfl⟩
instance : FldV Try.prog 89 0 0 1 false := FldV.of 3 rfl rfl rfl rfl
instance : Fld Try.prog 89 1 1 := ⟨fun _ _ _ => by kernel_rfl⟩
instance : FldV Try.prog 89 1 1 1 false := FldV.of 51 rfl rfl rfl rfl
instance : Fld Try.prog 89 2 2 := ⟨fun _ _ _ => by kernel_rfl⟩
instance : FldV Try.prog 89 2 2 1 false := FldV.of 51 rfl rfl rfl rfl
instance : Fld Try.prog 89 3 3 := ⟨fun _ _ _ => by kernel_rfl⟩
instance : FldV Try.prog 89 3 3 1 false := FldV.of 88 rfl rfl rfl rfl
instance : Fld Try.prog 89 4 4 := ⟨fun _ _ _ => by kernel_rfl⟩
instance : FldV Try.prog 89 4 4 1 false := FldV.of 4 rfl rfl rfl rfl
instance : Fld Try.prog 89 5 5 := ⟨fun _ _ _ => by kernel_rfl⟩
instance : FldV Try.prog 89 5 5 1 false := FldV.of 3 rfl rfl rfl rfl
instance : Fld Try.prog 89 6 6 := ⟨fun _ _ _ => by kernel_rfl⟩
instance : FldV Try.prog 89 6 6 1 false := FldV.of 4 rfl rfl rfl rfl
instance : Bld Try.prog 89 [(0, 1), (1, 1), (2, 1), (3, 1), (4, 1), (5, 1), (6, 1)] [.int .i64 0, .slice none 0 0, .slice none 0 0, .slice none 0 0, .bool false, .int .i64 0, .bool false] := Bld.of rfl (fun _ => by kernel_rfl)
instance : Fld Try.prog 90 0 0 := ⟨fun _ _ _ => by kernel_rfl⟩
instance : FldV Try.prog 90 0 0 1 false := FldV.of 3 rfl rfl rfl rfl
instance : Fld Try.prog 90 1 1 := ⟨fun _ _ _ => by kernel_rfl⟩
instance : FldV Try.prog 90 1 1 1 false := FldV.of 51 rfl rfl rfl rfl
instance : Fld Try.prog 90 2 2 := ⟨fun _ _ _ => by kernel_rfl⟩
instance : FldV Try.prog 90 2 2 1 false := FldV.of 51 rfl rfl rfl rfl
instance : Fld Try.prog 90 3 3 := ⟨fun _ _ _ => by kernel_rfl⟩
instance : FldV Try.prog 90 3 3 1 false := FldV.of 88 rfl rfl rfl rfl
instance : Fld Try.prog 90 4 4 := ⟨fun _ _ _ => by kernel_rfl⟩
instance : FldV Try.prog 90 4 4 1 false := FldV.of 4 rfl rfl rfl rfl
instance : Fld Try.prog 90 5 5 := ⟨fun _ _ _ => by kernel_rfl⟩
instance : FldV Try.prog 90 5 5 1 false := FldV.of 3 rfl rfl rfl rfl
instance : Fld Try.prog 90 6 6 := ⟨fun _ _ _ => by kernel_rfl⟩
instance : FldV Try.prog 90 6 6 1 false := FldV.of 4 rfl rfl rfl rfl
instance : Bld Try.prog 90 [(0, 1), (1, 1), (2, 1), (3, 1), (4, 1), (5, 1), (6, 1)] [.int .i64 0, .slice none 0 0, .slice none 0 0, .slice none 0 0, .bool false, .int .i64 0, .bool false] := Bld.of rfl (fun _ => by kernel_rfl)
instance : Fld Try.prog 94 0 0 := ⟨fun _ _ _ => by kernel_rfl⟩
instance : FldV Try.prog 94 0 0 1 false := FldV.of 29 rfl rfl rfl rfl
instance : Fld Try.prog 94 1 1 := ⟨fun _ _ _ => by kernel_rfl⟩
instance : FldV Try.prog 94 1 1 1 false := FldV.of 3 rfl rfl rfl rfl
instance : Fld Try.prog 94 2 2 := ⟨fun _ _ _ => by kernel_rfl⟩
instance : FldV Try.prog 94 2 2 1 false := FldV.of 23 rfl rfl rfl rfl
instance : Bld Try.prog 94 [(0, 1), (1, 1), (2, 1)] [.slice none 0 0, .int .i64 0, .int .i64 0] := Bld.of rfl (fun _ => by kernel_rfl)
instance : Fld Try.prog 95 0 0 := ⟨fun _ _ _ => by kernel_rfl⟩
instance : FldV Try.prog 95 0 0 1 false := FldV.of 29 rfl rfl rfl rfl
instance : Fld Try.prog 95 1 1 := ⟨fun _ _ _ => by kernel_rfl⟩
instance : FldV Try.prog 95 1 1 1 false := FldV.of 3 rfl rfl rfl rfl
instance : Fld Try.prog 95 2 2 := ⟨fun _ _ _ => by kernel_rfl⟩
instance : FldV Try.prog 95 2 2 1 false := FldV.of 23 rfl rfl rfl rfl
instance : Bld Try.prog 95 [(0, 1), (1, 1), (2, 1)] [.slice none 0 0, .int .i64 0, .int .i64 0] := Bld.of rfl (fun _ => by kernel_rfl)
instance : Fld Try.prog 102 0 0 := ⟨fun _ _ _ => by kernel_rfl⟩
instance : FldV Try.prog 102 0 0 1 false := FldV.of 29 rfl rfl rfl rfl
instance : Fld Try.prog 102 1 1 := ⟨fun _ _ _ => by kernel_rfl⟩
instance : FldV Try.prog 102 1 1 1 false := FldV.of 3 rfl rfl rfl rfl
instance : Fld Try.prog 102 2 2 := ⟨fun _ _ _ => by kernel_rfl⟩
instance : FldV Try.prog 102 2 2 1 false := FldV.of 23 rfl rfl rfl rfl
instance : Bld Try.prog 102 [(0, 1), (1, 1), (2, 1)] [.slice none 0 0, .int .i64 0, .int .i64 0] := Bld.of rfl (fun _ => by kernel_rfl)
instance : Fld Try.prog 103 0 0 := ⟨fun _ _ _ => by kernel_rfl⟩
instance : FldV Try.prog 103 0 0 1 false := FldV.of 29 rfl rfl rfl rfl
instance : Fld Try.prog 103 1 1 := ⟨fun _ _ _ => by kernel_rfl⟩
instance : FldV Try.prog 103 1 1 1 false := FldV.of 3 rfl rfl rfl rfl
instance : Fld Try.prog 103 2 2 := ⟨fun _ _ _ => by kernel_rfl⟩
instance : FldV Try.prog 103 2 2 1 false := FldV.of 23 rfl rfl rfl rfl
instance : Bld Try.prog 103 [(0, 1), (1, 1), (2, 1)] [.slice none 0 0, .int .i64 0, .int .i64 0] := Bld.of rfl (fun _ => by kernel_rfl)
instance : Fld Try.prog 107 0 0 := ⟨fun _ _ _ => by kernel_rfl⟩
instance : FldV Try.prog 107 0 0 1 false := FldV.of 29 rfl rfl rfl rfl
instance : Bld Try.prog 107 [(0, 1)] [.slice none 0 0] := Bld.of rfl (fun _ => by kernel_rfl)
instance : Fld Try.prog 108 0 0 := ⟨fun _ _ _ => by kernel_rfl⟩
instance : FldV Try.prog 108 0 0 1 false := FldV.of 29 rfl rfl rfl rfl
instance : Bld Try.prog 108 [(0, 1)] [.slice none 0 0] := Bld.of rfl (fun _ => by kernel_rfl)
instance : Fld Try.prog 114 0 0 := ⟨fun _ _ _ => by kernel_rfl⟩
instance : FldV Try.prog 114 0 0 1 false := FldV.of 3 rfl rfl rfl rfl
instance : Fld Try.prog 114 1 1 := ⟨fun _ _ _ => by kernel_rfl⟩
instance : FldV Try.prog 114 1 1 1 false := FldV.of 9 rfl rfl rfl rfl
instance : Fld Try.prog 114 2 2 := ⟨fun _ _ _ => by kernel_rfl⟩
instance : FldV Try.prog 114 2 2 1 false := FldV.of 9 rfl rfl rfl rfl
instance : Fld Try.prog 114 3 3 := ⟨fun _ _ _ => by kernel_rfl⟩
instance : FldV Try.prog 114 3 3 1 false := FldV.of 29 rfl rfl rfl rfl
instance : Fld Try.prog 114 4 4 := ⟨fun _ _ _ => by kernel_rfl⟩
instance : FldV Try.prog 114 4 4 1 false := FldV.of 3 rfl rfl rfl rfl
instance : Bld Try.prog 114 [(0, 1), (1, 1), (2, 1), (3, 1), (4, 1)] [.int .i64 0, .string ⟨#[]⟩, .string ⟨#[]⟩, .slice none 0 0, .int .i64 0] := Bld.of rfl (fun _ => by kernel_rfl)
instance : Fld Try.prog 115 0 0 := ⟨fun _ _ _ => by kernel_rfl⟩
instance : FldV Try.prog 115 0 0 1 false := FldV.of 3 rfl rfl rfl rfl
instance : Fld Try.prog 115 1 1 := ⟨fun _ _ _ => by kernel_rfl⟩
instance : FldV Try.prog 115 1 1 1 false := FldV.of 9 rfl rfl rfl rfl
instance : Fld Try.prog 115 2 2 := ⟨fun _ _ _ => by kernel_rfl⟩
instance : FldV Try.prog 115 2 2 1 false := FldV.of 9 rfl rfl rfl rfl
instance : Fld Try.prog 115 3 3 := ⟨fun _ _ _ => by kernel_rfl⟩
instance : FldV Try.prog 115 3 3 1 false := FldV.of 29 rfl rfl rfl rfl
instance : Fld Try.prog 115 4 4 := ⟨fun _ _ _ => by kernel_rfl⟩
instance : FldV Try.prog 115 4 4 1 false := FldV.of 3 rfl rfl rfl rfl
instance : Bld Try.prog 115 [(0, 1), (1, 1), (2, 1), (3, 1), (4, 1)] [.int .i64 0, .string ⟨#[]⟩, .string ⟨#[]⟩, .slice none 0 0, .int .i64 0] := Bld.of rfl (fun _ => by kernel_rfl)
instance : Ent Try.prog 3 := Ent.of Try.func3 (by kernel_rfl) (by kernel_rfl)
instance : Ent Try.prog 4 := Ent.of Try.func4 (by kernel_rfl) (by kernel_rfl)
instance : Ent Try.prog 5 := Ent.of Try.func5 (by kernel_rfl) (by kernel_rfl)
instance : Ent Try.prog 6 := Ent.of Try.func6 (by kernel_rfl) (by kernel_rfl)
instance : Ent Try.prog 7 := Ent.of Try.func7 (by kernel_rfl) (by kernel_rfl)
instance : Ent Try.prog 8 := Ent.of Try.func8 (by kernel_rfl) (by kernel_rfl)
instance : Ent Try.prog 9 := Ent.of Try.func9 (by kernel_rfl) (by kernel_rfl)
instance : Ent Try.prog 10 := Ent.of Try.func10 (by kernel_rfl) (by kernel_rfl)
instance : Ent Try.prog 11 := Ent.of Try.func11 (by kernel_rfl) (by kernel_rfl)
instance : Ent Try.prog 12 := Ent.of Try.func12 (by kernel_rfl) (by kernel_rfl)
instance : Ent Try.prog 13 := Ent.of Try.func13 (by kernel_rfl) (by kernel_rfl)
instance : Ent Try.prog 14 := Ent.of Try.func14 (by kernel_rfl) (by kernel_rfl)
instance : Ent Try.prog 15 := Ent.of Try.func15 (by kernel_rfl) (by kernel_rfl)
instance : Ent Try.prog 16 := Ent.of Try.func16 (by kernel_rfl) (by kernel_rfl)
instance : Ent Try.prog 17 := Ent.of Try.func17 (by kernel_rfl) (by kernel_rfl)
instance : Ent Try.prog 18 := Ent.of Try.func18 (by kernel_rfl) (by kernel_rfl)
instance : Ent Try.prog 19 := Ent.of Try.func19 (by kernel_rfl) (by kernel_rfl)
instance : Ent Try.prog 20 := Ent.of Try.func20 (by kernel_rfl) (by kernel_rfl)
instance : Ent Try.prog 21 := Ent.of Try.func21 (by kernel_rfl) (by kernel_rfl)
instance : Ent Try.prog 22 := Ent.of Try.func22 (by kernel_rfl) (by kernel_rfl)
instance : Ent Try.prog 23 := Ent.of Try.func23 (by kernel_rfl) (by kernel_rfl)
instance : Ent Try.prog 24 := Ent.of Try.func24 (by kernel_rfl) (by kernel_rfl)
instance : Ent Try.prog 25 := Ent.of Try.func25 (by kernel_rfl) (by kernel_rfl)
instance : Ent Try.prog 26 := Ent.of Try.func26 (by kernel_rfl) (by kernel_rfl)
instance : Ent Try.prog 27 := Ent.of Try.func27 (by kernel_rfl) (by kernel_rfl)
instance : Ent Try.prog 28 := Ent.of Try.func28 (by kernel_rfl) (by kernel_rfl)
instance : Ent Try.prog 29 := Ent.of Try.func29 (by kernel_rfl) (by kernel_rfl)
instance : Ent Try.prog 30 := Ent.of Try.func30 (by kernel_rfl) (by kernel_rfl)
instance : Ent Try.prog 31 := Ent.of Try.func31 (by kernel_rfl) (by kernel_rfl)
instance : Ent Try.prog 32 := Ent.of Try.func32 (by kernel_rfl) (by kernel_rfl)
instance : Ent Try.prog 33 := Ent.of Try.func33 (by kernel_rfl) (by kernel_rfl)
instance : Ent Try.prog 34 := Ent.of Try.func34 (by kernel_rfl) (by kernel_rfl)
instance : Ent Try.prog 35 := Ent.of Try.func35 (by kernel_rfl) (by kernel_rfl)
instance : Ent Try.prog 36 := Ent.of Try.func36 (by kernel_rfl) (by kernel_rfl)
instance : Ent Try.prog 37 := Ent.of Try.func37 (by kernel_rfl) (by kernel_rfl)
instance : Ent Try.prog 38 := Ent.of Try.func38 (by kernel_rfl) (by kernel_rfl)
instance : Ent Try.prog 39 := Ent.of Try.func39 (by kernel_rfl) (by kernel_rfl)
instance : Ent Try.prog 40 := Ent.of Try.func40 (by kernel_rfl) (by kernel_rfl)
instance : Ent Try.prog 41 := Ent.of Try.func41 (by kernel_rfl) (by kernel_rfl)
instance : Ent Try.prog 42 := Ent.of Try.func42 (by kernel_rfl) (by kernel_rfl)
instance : Ent Try.prog 43 := Ent.of Try.func43 (by kernel_rfl) (by kernel_rfl)
instance : Ent Try.prog 44 := Ent.of Try.func44 (by kernel_rfl) (by kernel_rfl)
instance : Ent Try.prog 45 := Ent.of Try.func45 (by kernel_rfl) (by kernel_rfl)
instance : Ent Try.prog 46 := Ent.of Try.func46 (by kernel_rfl) (by kernel_rfl)
instance : Ent Try.prog 47 := Ent.of Try.func47 (by kernel_rfl) (by kernel_rfl)
instance : Ent Try.prog 48 := Ent.of Try.func48 (by kernel_rfl) (by kernel_rfl)
instance : Ent Try.prog 49 := Ent.of Try.func49 (by kernel_rfl) (by kernel_rfl)
instance : Ent Try.prog 50 := Ent.of Try.func50 (by kernel_rfl) (by kernel_rfl)
instance : Ent Try.prog 51 := Ent.of Try.func51 (by kernel_rfl) (by kernel_rfl)
instance : Ent Try.prog 52 := Ent.of Try.func52 (by kernel_rfl) (by kernel_rfl)
instance : Ent Try.prog 53 := Ent.of Try.func53 (by kernel_rfl) (by kernel_rfl)
instance : Ent Try.prog 54 := Ent.of Try.func54 (by kernel_rfl) (by kernel_rfl)
instance : Ent Try.prog 55 := Ent.of Try.func55 (by kernel_rfl) (by kernel_rfl)
instance : Ent Try.prog 56 := Ent.of Try.func56 (by kernel_rfl) (by kernel_rfl)
instance : Ent Try.prog 57 := Ent.of Try.func57 (by kernel_rfl) (by kernel_rfl)
instance : Ent Try.prog 58 := Ent.of Try.func58 (by kernel_rfl) (by kernel_rfl)
instance : Ent Try.prog 59 := Ent.of Try.func59 (by kernel_rfl) (by kernel_rfl)
instance : Ent Try.prog 60 := Ent.of Try.func60 (by kernel_rfl) (by kernel_rfl)
instance : Ent Try.prog 61 := Ent.of Try.func61 (by kernel_rfl) (by kernel_rfl)
instance : Ent Try.prog 62 := Ent.of Try.func62 (by kernel_rfl) (by kernel_rfl)
instance : Ent Try.prog 63 := Ent.of Try.func63 (by kernel_rfl) (by kernel_rfl)
instance : Ent Try.prog 64 := Ent.of Try.func64 (by kernel_rfl) (by kernel_rfl)
instance : Ent Try.prog 65 := Ent.of Try.func65 (by kernel_rfl) (by kernel_rfl)
instance : Ent Try.prog 66 := Ent.of Try.func66 (by kernel_rfl) (by kernel_rfl)
instance : Ent Try.prog 67 := Ent.of Try.func67 (by kernel_rfl) (by kernel_rfl)
instance : Ent Try.prog 68 := Ent.of Try.func68 (by kernel_rfl) (by kernel_rfl)
instance : Ent Try.prog 69 := Ent.of Try.func69 (by kernel_rfl) (by kernel_rfl)
instance : Ent Try.prog 70 := Ent.of Try.func70 (by kernel_rfl) (by kernel_rfl)
instance : Ent Try.prog 71 := Ent.of Try.func71 (by kernel_rfl) (by kernel_rfl)
instance : Ent Try.prog 72 := Ent.of Try.func72 (by kernel_rfl) (by kernel_rfl)
instance : Ent Try.prog 73 := Ent.of Try.func73 (by kernel_rfl) (by kernel_rfl)
instance : Ent Try.prog 74 := Ent.of Try.func74 (by kernel_rfl) (by kernel_rfl)
instance : Ent Try.prog 75 := Ent.of Try.func75 (by kernel_rfl) (by kernel_rfl)
instance : Ent Try.prog 76 := Ent.of Try.func76 (by kernel_rfl) (by kernel_rfl)
instance : Ent Try.prog 77 := Ent.of Try.func77 (by kernel_rfl) (by kernel_rfl)
instance : Ent Try.prog 78 := Ent.of Try.func78 (by kernel_rfl) (by kernel_rfl)
instance : Ent Try.prog 79 := Ent.of Try.func79 (by kernel_rfl) (by kernel_rfl)
instance : Ent Try.prog 80 := Ent.of Try.func80 (by kernel_rfl) (by kernel_rfl)
instance : Ent Try.prog 81 := Ent.of Try.func81 (by kernel_rfl) (by kernel_rfl)
instance : Ent Try.prog 82 := Ent.of Try.func82 (by kernel_rfl) (by kernel_rfl)
instance : Ent Try.prog 83 := Ent.of Try.func83 (by kernel_rfl) (by kernel_rfl)
instance : Ent Try.prog 84 := Ent.of Try.func84 (by kernel_rfl) (by kernel_rfl)
instance : Ent Try.prog 85 := Ent.of Try.func85 (by kernel_rfl) (by kernel_rfl)
instance : Ent Try.prog 86 := Ent.of Try.func86 (by kernel_rfl) (by kernel_rfl)
instance : Ent Try.prog 87 := Ent.of Try.func87 (by kernel_rfl) (by kernel_rfl)
instance : Ent Try.prog 88 := Ent.of Try.func88 (by kernel_rfl) (by kernel_rfl)
instance : Ent Try.prog 89 := Ent.of Try.func89 (by kernel_rfl) (by kernel_rfl)
instance : Ent Try.prog 90 := Ent.of Try.func90 (by kernel_rfl) (by kernel_rfl)
instance : Ent Try.prog 91 := Ent.of Try.func91 (by kernel_rfl) (by kernel_rfl)
instance : Ent Try.prog 92 := Ent.of Try.func92 (by kernel_rfl) (by kernel_rfl)
instance : Ent Try.prog 93 := Ent.of Try.func93 (by kernel_rfl) (by kernel_rfl)
instance : Ent Try.prog 94 := Ent.of Try.func94 (by kernel_rfl) (by kernel_rfl)
instance : Ent Try.prog 95 := Ent.of Try.func95 (by kernel_rfl) (by kernel_rfl)
instance : Ent Try.prog 96 := Ent.of Try.func96 (by kernel_rfl) (by kernel_rfl)
instance : Ent Try.prog 97 := Ent.of Try.func97 (by kernel_rfl) (by kernel_rfl)
instance : Ent Try.prog 98 := Ent.of Try.func98 (by kernel_rfl) (by kernel_rfl)
instance : Ent Try.prog 99 := Ent.of Try.func99 (by kernel_rfl) (by kernel_rfl)
instance : Ent Try.prog 100 := Ent.of Try.func100 (by kernel_rfl) (by kernel_rfl)
instance : Ent Try.prog 101 := Ent.of Try.func101 (by kernel_rfl) (by kernel_rfl)
instance : Ent Try.prog 102 := Ent.of Try.func102 (by kernel_rfl) (by kernel_rfl)
end Go.Sx
end
section
namespace Go.Sx
open Go.Proofs Go.RowKit
attribute [local irreducible] C R Fin K Own Rd Pl Ok KOf RetOk OpsOf RP KP Res NoPanic
variable {M : Mem} {H : Hp}
def bitS (h : Nat) : Nat := if h % 2 = 1 then (h / 2) ^^^ 2197175160 else h / 2
def bitsS : Nat → Nat → Nat
  | 0, h => h
  | k + 1, h => bitsS k (bitS h)
def byteS (h : Nat) (b : UInt8) : Nat := bitsS 8 (h ^^^ b.toNat)
def sumS (bs : List UInt8) : Nat := 4294967295 ^^^ bs.foldl byteS 4294967295
theorem bitS_lt {h : Nat} (hh : h < 4294967296) : bitS h < 4294967296 := by
  unfold bitS
  split
  · exact Nat.xor_lt_two_pow (n := 32) (by omega) (by decide)
  · omega
theorem bitsS_lt : ∀ (k : Nat) {h : Nat}, h < 4294967296 → bitsS k h < 4294967296
  | 0, _, hh => hh
  | k + 1, _, hh => bitsS_lt k (bitS_lt hh)
theorem xor_lt {a b : Nat} (ha : a < 4294967296) (hb : b < 4294967296) : a ^^^ b < 4294967296 := Nat.xor_lt_two_pow (n := 32) ha hb
theorem sumS_lt (bs : List UInt8) : sumS bs < 4294967296 := by
  have h : ∀ (l : List UInt8) (h : Nat), h < 4294967296 → l.foldl byteS h < 4294967296 := by
    intro l
    induction l with
    | nil => exact fun h hh => hh
    | cons b l ih => exact fun h hh => ih _ (bitsS_lt 8 (xor_lt hh (by have := b.toNat_lt; omega)))
  exact xor_lt (by decide) (h bs _ (by decide))
structure SumL where
  i : Int
  h : Nat
theorem sum_K {A : Option Addr} {cap : Nat} {bs : List UInt8} (hpl : Pl M A (bs.map bv)) (hb : bs.length ≤ 140737488351232) : K Try.prog 67 [.slice A bs.length cap] M H fun v M' H' => v = wv (sumS bs) ∧ M' = M ∧ H' = H := by
  refine K.enterK Try.func67 rfl rfl rfl ?_
  intro Q hNP hQ
  (repeat' (first | refine a_go ?_ | (with_reducible apply Fin.thenK; assumption) | (with_reducible (first | apply C.seqK | apply C.regionK); intro _ _) | (apply R.buildSlice0; exact rfl; intro bz) | (apply R.box; exact rfl; (simp only [Value.cells]; rfl); exact rfl; intro bx) | (apply R.alloc; (simp only [Value.cells]; rfl); exact rfl; intro ba) | (apply R.buildSlice; (exact a_prt); exact rfl; exact rfl; (exact a_fills); exact rfl; intro bl) | (refine a_sp ?_ ?_; (intro h; skip; rotate_left; intro h; skip; rotate_left)) | fail))
  apply C.loop (fun x : SumL => 0 ≤ x.i ∧ x.i ≤ bs.length ∧ x.h < 4294967296 ∧ (bs.drop x.i.toNat).foldl byteS x.h = bs.foldl byteS 4294967295)
    (fun x => [(3, wv x.h), (8, .slice A bs.length cap), (9, .int .i64 bs.length), (10, .int .i64 x.i)]) (fun _ => M) (fun _ => H) (fun x => (bs.length - x.i).toNat) ⟨0, 4294967295⟩
  · exact ⟨Int.le_refl 0, Int.natCast_nonneg _, by decide, rfl⟩
  · (exact a_subs)
  · exact rfl
  · exact rfl
  rintro ⟨i, z⟩ ⟨hi, hi2, hh, hs⟩
  dsimp only at hi hi2 hh hs ⊢
  (repeat' (first | refine a_go ?_ | (with_reducible apply Fin.thenK; assumption) | (with_reducible (first | apply C.seqK | apply C.regionK); intro _ _) | (apply R.buildSlice0; exact rfl; intro bz) | (apply R.box; exact rfl; (simp only [Value.cells]; rfl); exact rfl; intro bx) | (apply R.alloc; (simp only [Value.cells]; rfl); exact rfl; intro ba) | (apply R.buildSlice; (exact a_prt); exact rfl; exact rfl; (exact a_fills); exact rfl; intro bl) | (refine a_sp ?_ ?_; (intro h; skip; rotate_left; intro h; skip; rotate_left)) | fail))
  · have hlt : i < bs.length := by assumption
    obtain ⟨b0, o0, c0, e0, f0, rfl, hat, hcell⟩ := hpl.cell (by simp; omega)
    (apply R.step; (apply Ok.indexAddr; exact rfl; exact rfl; omega; omega); exact rfl)
    (apply R.step; (apply Ok.loadP; exact rfl; exact rfl; exact hat; rw [Nat.mul_one]; exact hcell _ _ (bv_at (o := i.toNat) (by omega))); exact rfl)
    have hbl : bs[i.toNat].toNat < 256 := bs[i.toNat].toNat_lt
    have hdrop : bs.drop i.toNat = bs[i.toNat] :: bs.drop (i.toNat + 1) := List.drop_eq_getElem_cons (by omega)
    rw [hdrop, List.foldl_cons] at hs
    generalize bs[i.toNat] = b at hbl hs
    (repeat' (first | refine a_go ?_ | (with_reducible apply Fin.thenK; assumption) | (with_reducible (first | apply C.seqK | apply C.regionK); intro _ _) | (apply R.buildSlice0; exact rfl; intro bz) | (apply R.box; exact rfl; (simp only [Value.cells]; rfl); exact rfl; intro bx) | (apply R.alloc; (simp only [Value.cells]; rfl); exact rfl; intro ba) | (apply R.buildSlice; (exact a_prt); exact rfl; exact rfl; (exact a_fills); exact rfl; intro bl) | (refine a_sp ?_ ?_; (intro h; skip; rotate_left; intro h; skip; rotate_left)) | fail))
    apply C.loop (fun y : SumL => 0 ≤ y.i ∧ y.i ≤ 8 ∧ y.h < 4294967296 ∧ bitsS (8 - y.i.toNat) y.h = byteS z b)
      (fun y => [(3, wv y.h), (6, .int .i64 y.i), (8, .slice (some ⟨b0, o0, none⟩) bs.length cap), (9, .int .i64 bs.length), (10, .int .i64 i)]) (fun _ => M) (fun _ => H) (fun y => (8 - y.i).toNat) ⟨0, z ^^^ b.toNat⟩
    · exact ⟨Int.le_refl 0, by dsimp only; omega, xor_lt hh (by omega), rfl⟩
    · (exact a_subs)
    · exact rfl
    · exact rfl
    rintro ⟨j, g⟩ ⟨hj, hj2, hg, hb3⟩
    dsimp only at hj hj2 hg hb3 ⊢
    (repeat' (first | refine a_go ?_ | (with_reducible apply Fin.thenK; assumption) | (with_reducible (first | apply C.seqK | apply C.regionK); intro _ _) | (apply R.buildSlice0; exact rfl; intro bz) | (apply R.box; exact rfl; (simp only [Value.cells]; rfl); exact rfl; intro bx) | (apply R.alloc; (simp only [Value.cells]; rfl); exact rfl; intro ba) | (apply R.buildSlice; (exact a_prt); exact rfl; exact rfl; (exact a_fills); exact rfl; intro bl) | (refine a_sp ?_ ?_; (intro h; skip; rotate_left; intro h; skip; rotate_left)) | fail))
    · refine Fin.again (⟨j + 1, g / 2 ^^^ 2197175160⟩ : SumL) ⟨by dsimp only; omega, by dsimp only; omega, xor_lt (by omega) (by decide), ?_⟩ (by dsimp only; omega) ?_ rfl rfl
      · dsimp only
        have h1 : ((g &&& 1 : Nat) : Int) = 1 := by assumption
        rw [← hb3, show 8 - j.toNat = (8 - (j + 1).toNat) + 1 by omega, bitsS]
        unfold bitS
        rw [if_pos (by rw [Nat.and_one_is_mod] at h1; omega)]
      · dsimp only
        (exact a_subs)
    · refine Fin.again (⟨j + 1, g / 2⟩ : SumL) ⟨by dsimp only; omega, by dsimp only; omega, by dsimp only; omega, ?_⟩ (by dsimp only; omega) ?_ rfl rfl
      · dsimp only
        have h1 : ((g &&& 1 : Nat) : Int) ≠ 1 := by assumption
        rw [← hb3, show 8 - j.toNat = (8 - (j + 1).toNat) + 1 by omega, bitsS]
        unfold bitS
        rw [if_neg (by rw [Nat.and_one_is_mod] at h1; omega)]
      · dsimp only
        (exact a_subs)
    · refine Fin.again (⟨i + 1, g⟩ : SumL) ⟨by dsimp only; omega, by dsimp only; omega, hg, ?_⟩ (by dsimp only; omega) ?_ rfl rfl
      · dsimp only
        have h1 : ¬ j < 8 := by assumption
        have h8 : j = 8 := by omega
        subst h8
        have h9 : g = byteS z b := hb3
        rw [h9, show (i + 1).toNat = i.toNat + 1 by omega]
        exact hs
      · dsimp only
        (exact a_subs)
  · (refine Fin.rt ?_)
    refine ⟨?_, rfl, rfl⟩
    have h1 : ¬ i < bs.length := by assumption
    rw [List.drop_of_length_le (by omega)] at hs
    unfold sumS
    rw [← hs]
    rfl
end Go.Sx
end
section
namespace Go.Sx
open Go.Proofs Go.RowKit
attribute [local irreducible] C R Fin K Own Rd Pl Ok KOf RetOk OpsOf RP KP Res NoPanic
variable {M : Mem} {H : Hp}
def layS (p : Nat) : List UInt8 := [UInt8.ofNat p, UInt8.ofNat (p / 256), UInt8.ofNat (p / 65536), UInt8.ofNat (p / 16777216)]
def frameS (bs : List UInt8) : List UInt8 := if bs.length > 65536 then [] else layS bs.length ++ layS (sumS bs) ++ bs
theorem lay_K {p : Nat} : K Try.prog 66 [wv p] M H fun v M' H' => ∃ hp, Own 5 1 v 4 ((layS p).map bv) hp ∧ M' = M ∧ H' = hp ++ H := by
  refine K.enterK Try.func66 rfl rfl rfl ?_
  intro Q hNP hQ
  (repeat' (first | refine a_go ?_ | (with_reducible apply Fin.thenK; assumption) | (with_reducible (first | apply C.seqK | apply C.regionK); intro _ _) | (apply R.buildSlice0; exact rfl; intro bz) | (apply R.box; exact rfl; (simp only [Value.cells]; rfl); exact rfl; intro bx) | (apply R.alloc; (simp only [Value.cells]; rfl); exact rfl; intro ba) | (apply R.buildSlice; (exact a_prt); exact rfl; exact rfl; (exact a_fills); exact rfl; intro bl) | (refine a_sp ?_ ?_; (intro h; skip; rotate_left; intro h; skip; rotate_left)) | fail))
  (refine Fin.rt ?_)
  exact ⟨[_], Own.of_cells (xs := (layS p).map bv) (by show 4 ≤ maxLen; unfold maxLen; omega), rfl, rfl⟩
theorem frame_K {A : Option Addr} {cap : Nat} {bs : List UInt8} (hpl : Pl M A (bs.map bv)) (hb : bs.length ≤ 140737488351232) : K Try.prog 34 [.slice A bs.length cap] M H fun v M' H' =>
    ∃ hp, Own 5 1 v (frameS bs).length ((frameS bs).map bv) hp ∧ M' = M ∧ H' = hp ++ H := by
  refine K.enterK Try.func34 rfl rfl rfl ?_
  intro Q hNP hQ
  (repeat' (first | refine a_go ?_ | (with_reducible apply Fin.thenK; assumption) | (with_reducible (first | apply C.seqK | apply C.regionK); intro _ _) | (apply R.buildSlice0; exact rfl; intro bz) | (apply R.box; exact rfl; (simp only [Value.cells]; rfl); exact rfl; intro bx) | (apply R.alloc; (simp only [Value.cells]; rfl); exact rfl; intro ba) | (apply R.buildSlice; (exact a_prt); exact rfl; exact rfl; (exact a_fills); exact rfl; intro bl) | (refine a_sp ?_ ?_; (intro h; skip; rotate_left; intro h; skip; rotate_left)) | fail))
  · have h1 : 65536 < (bs.length : Int) := by assumption
    (apply Fin.returnA (H2 := [] ++ H); assumption; (first | exact .inl rfl | exact .inr rfl); exact rfl; (exact a_res); (simp only [retv]; rfl); (exact a_arr))
    have e : frameS bs = [] := if_pos (by omega)
    rw [e]
    exact ⟨[], Own.nil _ 1, rfl, rfl⟩
  have hle : ¬ 65536 < (bs.length : Int) := by assumption
  (apply R.call; (exact a_evs); exact rfl); exact lay_K (p := bs.length); rintro v1 M _ ⟨hp1, hown1, rfl, rfl⟩
  obtain ⟨A1, cap1, rfl, _, _⟩ := hown1.form
  (repeat' (first | refine a_go ?_ | (with_reducible apply Fin.thenK; assumption) | (with_reducible (first | apply C.seqK | apply C.regionK); intro _ _) | (apply R.buildSlice0; exact rfl; intro bz) | (apply R.box; exact rfl; (simp only [Value.cells]; rfl); exact rfl; intro bx) | (apply R.alloc; (simp only [Value.cells]; rfl); exact rfl; intro ba) | (apply R.buildSlice; (exact a_prt); exact rfl; exact rfl; (exact a_fills); exact rfl; intro bl) | (refine a_sp ?_ ?_; (intro h; skip; rotate_left; intro h; skip; rotate_left)) | fail))
  (apply R.call; (exact a_evs); exact rfl); exact sum_K hpl hb; rintro _ M _ ⟨rfl, rfl, rfl⟩
  (repeat' (first | refine a_go ?_ | (with_reducible apply Fin.thenK; assumption) | (with_reducible (first | apply C.seqK | apply C.regionK); intro _ _) | (apply R.buildSlice0; exact rfl; intro bz) | (apply R.box; exact rfl; (simp only [Value.cells]; rfl); exact rfl; intro bx) | (apply R.alloc; (simp only [Value.cells]; rfl); exact rfl; intro ba) | (apply R.buildSlice; (exact a_prt); exact rfl; exact rfl; (exact a_fills); exact rfl; intro bl) | (refine a_sp ?_ ?_; (intro h; skip; rotate_left; intro h; skip; rotate_left)) | fail))
  (apply R.call; (exact a_evs); exact rfl); exact lay_K; rintro v2 M _ ⟨hp2, hown2, rfl, rfl⟩
  obtain ⟨A2, cap2, rfl, _, _⟩ := hown2.form
  (repeat' (first | refine a_go ?_ | (with_reducible apply Fin.thenK; assumption) | (with_reducible (first | apply C.seqK | apply C.regionK); intro _ _) | (apply R.buildSlice0; exact rfl; intro bz) | (apply R.box; exact rfl; (simp only [Value.cells]; rfl); exact rfl; intro bx) | (apply R.alloc; (simp only [Value.cells]; rfl); exact rfl; intro ba) | (apply R.buildSlice; (exact a_prt); exact rfl; exact rfl; (exact a_fills); exact rfl; intro bl) | (refine a_sp ?_ ?_; (intro h; skip; rotate_left; intro h; skip; rotate_left)) | fail))
  (apply R.append; exact rfl; exact rfl; exact hown1; (exact a_tk); exact hown2.rd (by (exact a_tk)); exact rfl; exact bv_one _; omega; exact rfl; decide; decide; exact rfl; rintro v3 hp3 hown3)
  obtain ⟨A3, cap3, rfl, _, _⟩ := hown3.form
  (repeat' (first | refine a_go ?_ | (with_reducible apply Fin.thenK; assumption) | (with_reducible (first | apply C.seqK | apply C.regionK); intro _ _) | (apply R.buildSlice0; exact rfl; intro bz) | (apply R.box; exact rfl; (simp only [Value.cells]; rfl); exact rfl; intro bx) | (apply R.alloc; (simp only [Value.cells]; rfl); exact rfl; intro ba) | (apply R.buildSlice; (exact a_prt); exact rfl; exact rfl; (exact a_fills); exact rfl; intro bl) | (refine a_sp ?_ ?_; (intro h; skip; rotate_left; intro h; skip; rotate_left)) | fail))
  (apply R.append; exact rfl; exact rfl; exact hown3; (exact a_tk); exact hpl.rd; (focus (simp; done)); exact bv_one _; omega; exact rfl; decide; decide; exact rfl; rintro v4 hp4 hown4)
  obtain ⟨A4, cap4, rfl, _, _⟩ := hown4.form
  (repeat' (first | refine a_go ?_ | (with_reducible apply Fin.thenK; assumption) | (with_reducible (first | apply C.seqK | apply C.regionK); intro _ _) | (apply R.buildSlice0; exact rfl; intro bz) | (apply R.box; exact rfl; (simp only [Value.cells]; rfl); exact rfl; intro bx) | (apply R.alloc; (simp only [Value.cells]; rfl); exact rfl; intro ba) | (apply R.buildSlice; (exact a_prt); exact rfl; exact rfl; (exact a_fills); exact rfl; intro bl) | (refine a_sp ?_ ?_; (intro h; skip; rotate_left; intro h; skip; rotate_left)) | fail))
  (apply Fin.returnA (H2 := hp4 ++ H); assumption; (first | exact .inl rfl | exact .inr rfl); exact rfl; (exact a_res); (simp only [retv]; rfl); (exact a_arr))
  have e : frameS bs = layS bs.length ++ layS (sumS bs) ++ bs := if_neg (by omega)
  rw [e]
  refine ⟨hp4, ?_, rfl, rfl⟩
  rw [show (layS bs.length ++ layS (sumS bs) ++ bs).length = 4 + 4 + bs.length by simp [layS]; omega, List.map_append, List.map_append]
  exact hown4
end Go.Sx
end
section
namespace Go.Sx
open Go.Proofs Go.RowKit
attribute [local irreducible] C R Fin K Own Rd Pl Ok KOf RetOk OpsOf RP KP Res NoPanic
variable {M : Mem} {H : Hp}
def readS (bs : List UInt8) : Nat := (bs[0]?.getD 0).toNat + (bs[1]?.getD 0).toNat * 256 + (bs[2]?.getD 0).toNat * 65536 + (bs[3]?.getD 0).toNat * 16777216
theorem readS_lt (bs : List UInt8) : readS bs < 4294967296 := by
  have h0 := (bs[0]?.getD 0).toNat_lt
  have h1 := (bs[1]?.getD 0).toNat_lt
  have h2 := (bs[2]?.getD 0).toNat_lt
  have h3 := (bs[3]?.getD 0).toNat_lt
  unfold readS
  omega
theorem read_K {A : Option Addr} {cap : Nat} {bs : List UInt8} (hpl : Pl M A (bs.map bv)) (h4 : 4 ≤ bs.length) : K Try.prog 82 [.slice A bs.length cap] M H fun v M' H' => v = wv (readS bs) ∧ M' = M ∧ H' = H := by
  refine K.enterK Try.func82 rfl rfl rfl ?_
  intro Q hNP hQ
  obtain ⟨b0, o0, c0, e0, f0, rfl, hat, hcell⟩ := hpl.cell (by simp; omega)
  obtain ⟨x0, x1, x2, x3, rest, rfl⟩ : ∃ x0 x1 x2 x3 rest, bs = x0 :: x1 :: x2 :: x3 :: rest := by
    match bs, h4 with
    | x0 :: x1 :: x2 :: x3 :: rest, _ => exact ⟨x0, x1, x2, x3, rest, rfl⟩
  have g0 := hcell 0 (bv x0) rfl
  have g1 := hcell 1 (bv x1) rfl
  have g2 := hcell 2 (bv x2) rfl
  have g3 := hcell 3 (bv x3) rfl
  have l0 : x0.toNat < 256 := x0.toNat_lt
  have l1 : x1.toNat < 256 := x1.toNat_lt
  have l2 : x2.toNat < 256 := x2.toNat_lt
  have l3 : x3.toNat < 256 := x3.toNat_lt
  have o2 : (x0.toNat ||| x1.toNat * 2 ^ 8) < 4294967296 := Nat.or_lt_two_pow (n := 32) (by omega) (by omega)
  have o3 : ((x0.toNat ||| x1.toNat * 2 ^ 8) ||| x2.toNat * 2 ^ 16) < 4294967296 := Nat.or_lt_two_pow (n := 32) o2 (by omega)
  have hlen : (x0 :: x1 :: x2 :: x3 :: rest).length = rest.length + 4 := rfl
  rw [hlen]
  (repeat' (first | (apply R.step; (apply Ok.indexAddr; exact rfl; exact rfl; omega; omega); exact rfl) | (apply R.step; (apply Ok.loadP; exact rfl; exact rfl; exact hat; (first | exact g0 | exact g1 | exact g2 | exact g3)); exact rfl) | (apply R.step; (first | (apply Ok.shlN (s := 8); exact rfl; exact rfl; decide; omega) | (apply Ok.shlN (s := 16); exact rfl; exact rfl; decide; omega) | (apply Ok.shlN (s := 24); exact rfl; exact rfl; decide; omega)); exact rfl) | (apply R.step; (apply Ok.orN; exact rfl; exact rfl; omega; omega); exact rfl) | (apply R.step; (exact a_ok); exact rfl) | (first | (with_reducible first | apply R.nil | apply C.ret | apply C.block | apply C.skip | apply C.exit | apply Fin.thenRet | apply Fin.thenExit | apply Fin.blockNormal | apply Fin.blockRet | apply Fin.blockExit) | (with_reducible apply Fin.thenK; assumption) | (with_reducible apply C.seqK; intro _ _) | (with_reducible apply C.regionK; intro _ _) | (with_reducible apply C.regionQK; exact Mix.h; kernel_rfl; intro _ _) | (with_reducible apply Fin.blockOther; exact rfl)) | (first | (apply R.store; exact rfl; exact rfl; exact rfl; (exact a_at); (exact a_blit); exact rfl; (focus (simp [Value.oneCell']; done))) | (apply R.buildSlice0; exact rfl; intro bz) | (apply R.box; exact rfl; (simp only [Value.cells]; rfl); exact rfl; intro bx) | (apply R.alloc; (simp only [Value.cells]; rfl); exact rfl; intro ba) | (apply R.buildSlice; (exact a_prt); exact rfl; exact rfl; (exact a_fills); exact rfl; intro bl)) | (first | (apply R.guardT; assumption; exact rfl; exact rfl; exact rfl) | (apply R.guardF; assumption; exact rfl; exact rfl; exact rfl; exact rfl; exact rfl) | (apply R.guardU; assumption; exact rfl; exact rfl; exact rfl; exact rfl) | (apply R.guardDec; assumption; exact rfl; exact rfl; (intro h; skip; rotate_left; intro h; skip; rotate_left)) | (apply R.guardBeq; assumption; exact rfl; exact rfl; (intro h; skip; rotate_left; intro h; skip; rotate_left)) | (apply R.guardBne; assumption; exact rfl; exact rfl; (intro h; skip; rotate_left; intro h; skip; rotate_left)) | (apply R.guardNDec; assumption; exact rfl; exact rfl; (intro h; skip; rotate_left; intro h; skip; rotate_left)) | (apply R.guardNot; assumption; exact rfl; exact rfl; (intro h; skip; rotate_left; intro h; skip; rotate_left)) | (apply R.guardC; assumption; exact rfl; exact rfl; (intro h; skip; rotate_left; intro h; skip; rotate_left))) | (first | (apply C.condT; exact rfl) | (apply C.condF; exact rfl) | (apply C.condDec; exact rfl; (intro h; skip; rotate_left; intro h; skip; rotate_left)) | (apply C.condBeq; exact rfl; (intro h; skip; rotate_left; intro h; skip; rotate_left)) | (apply C.condBne; exact rfl; (intro h; skip; rotate_left; intro h; skip; rotate_left)) | (apply C.condNDec; exact rfl; (intro h; skip; rotate_left; intro h; skip; rotate_left)) | (apply C.condNot; exact rfl; (intro h; skip; rotate_left; intro h; skip; rotate_left)) | (apply C.cond; exact rfl; (intro h; skip; rotate_left; intro h; skip; rotate_left)))))
  (refine Fin.rt ?_)
  exact ⟨congrArg wv (or4 l0 l1 l2), rfl, rfl⟩
theorem sum_Km {A : Option Addr} {cap m : Nat} {bs : List UInt8} (hpl : Pl M A (bs.map bv)) (hm : bs.length = m) (hb : m ≤ 140737488351232) : K Try.prog 67 [.slice A m cap] M H fun v M' H' => v = wv (sumS bs) ∧ M' = M ∧ H' = H := by
  subst hm
  exact sum_K hpl hb
theorem read_Km {A : Option Addr} {cap m : Nat} {bs : List UInt8} (hpl : Pl M A (bs.map bv)) (hm : bs.length = m) (h4 : 4 ≤ m) : K Try.prog 82 [.slice A m cap] M H fun v M' H' => v = wv (readS bs) ∧ M' = M ∧ H' = H := by
  subst hm
  exact read_K hpl h4
def wholeS (bs : List UInt8) : Option (List UInt8) :=
  if bs.length < 8 then none
  else if readS bs > 65536 ∨ (bs.length - 8) % 4294967296 < readS bs then none
  else if sumS ((bs.drop 8).take (readS bs)) = readS (bs.drop 4) then some ((bs.drop 8).take (readS bs)) else none
theorem whole_K {A : Option Addr} {cap : Nat} {bs : List UInt8} (hpl : Pl M A (bs.map bv)) (hc : bs.length ≤ cap) (hb : cap ≤ 9223372036854775807) : K Try.prog 76 [.slice A bs.length cap] M H fun v M' H' =>
    ∃ A' r c' ok, v = .tuple #[.slice A' r.length c', .bool ok] ∧ Pl M A' (r.map bv) ∧ r.length ≤ c' ∧ c' ≤ cap ∧ wholeS bs = (if ok then some r else none) ∧ M' = M ∧ H' = H := by
  refine K.enterK Try.func76 rfl rfl rfl ?_
  intro Q hNP hQ
  (repeat' (first | refine a_go ?_ | (with_reducible apply Fin.thenK; assumption) | (with_reducible (first | apply C.seqK | apply C.regionK); intro _ _) | (apply R.buildSlice0; exact rfl; intro bz) | (apply R.box; exact rfl; (simp only [Value.cells]; rfl); exact rfl; intro bx) | (apply R.alloc; (simp only [Value.cells]; rfl); exact rfl; intro ba) | (apply R.buildSlice; (exact a_prt); exact rfl; exact rfl; (exact a_fills); exact rfl; intro bl) | (refine a_sp ?_ ?_; (intro h; skip; rotate_left; intro h; skip; rotate_left)) | fail))
  · have h1 : (bs.length : Int) < 8 := by assumption
    (refine Fin.rt ?_)
    exact ⟨none, [], 0, false, rfl, Pl.nil, Nat.zero_le _, Nat.zero_le _, if_pos (by omega), rfl, rfl⟩
  have h8 : ¬ (bs.length : Int) < 8 := by assumption
  (apply R.call; (exact a_evs); exact rfl); exact read_K hpl (by omega); rintro _ M _ ⟨rfl, rfl, rfl⟩
  have hrl := readS_lt bs
  generalize hn : readS bs = n at hrl ⊢
  (repeat' (first | refine a_go ?_ | (with_reducible apply Fin.thenK; assumption) | (with_reducible (first | apply C.seqK | apply C.regionK); intro _ _) | (apply R.buildSlice0; exact rfl; intro bz) | (apply R.box; exact rfl; (simp only [Value.cells]; rfl); exact rfl; intro bx) | (apply R.alloc; (simp only [Value.cells]; rfl); exact rfl; intro ba) | (apply R.buildSlice; (exact a_prt); exact rfl; exact rfl; (exact a_fills); exact rfl; intro bl) | (refine a_sp ?_ ?_; (intro h; skip; rotate_left; intro h; skip; rotate_left)) | fail))
  · have h1 : 65536 < (n : Int) := by assumption
    (refine Fin.rt ?_)
    exact ⟨none, [], 0, false, rfl, Pl.nil, Nat.zero_le _, Nat.zero_le _, by unfold wholeS; rw [hn, if_neg (by omega), if_pos (by omega)]; rfl, rfl, rfl⟩
  have h9 : ¬ 65536 < (n : Int) := by assumption
  apply R.step (v := wv ((bs.length - 8) % 4294967296))
  · rw [show wv ((bs.length - 8) % 4294967296) = .int .u32 (IntKind.u32.wrap ((bs.length : Int) - 8)) by unfold wv; rw [wrap32]; congr 1; omega]
    exact Ok.conv rfl
  · exact rfl
  generalize hm : (bs.length - 8) % 4294967296 = m
  (repeat' (first | refine a_go ?_ | (with_reducible apply Fin.thenK; assumption) | (with_reducible (first | apply C.seqK | apply C.regionK); intro _ _) | (apply R.buildSlice0; exact rfl; intro bz) | (apply R.box; exact rfl; (simp only [Value.cells]; rfl); exact rfl; intro bx) | (apply R.alloc; (simp only [Value.cells]; rfl); exact rfl; intro ba) | (apply R.buildSlice; (exact a_prt); exact rfl; exact rfl; (exact a_fills); exact rfl; intro bl) | (refine a_sp ?_ ?_; (intro h; skip; rotate_left; intro h; skip; rotate_left)) | fail))
  · have h1 : (m : Int) < n := by assumption
    (refine Fin.rt ?_)
    exact ⟨none, [], 0, false, rfl, Pl.nil, Nat.zero_le _, Nat.zero_le _, by unfold wholeS; rw [hn, if_neg (by omega), if_pos (by omega)]; rfl, rfl, rfl⟩
  have h10 : ¬ (m : Int) < n := by assumption
  have hle : n + 8 ≤ bs.length := by
    have := Nat.mod_le (bs.length - 8) 4294967296
    omega
  (apply R.step; (apply Ok.addB; exact rfl; exact rfl; apply wu32; omega; omega); exact rfl)
  (apply R.step; (apply Ok.sliceLoHi; exact rfl; exact rfl; exact rfl; omega; omega; omega); exact rfl)
  (repeat' (first | refine a_go ?_ | (with_reducible apply Fin.thenK; assumption) | (with_reducible (first | apply C.seqK | apply C.regionK); intro _ _) | (apply R.buildSlice0; exact rfl; intro bz) | (apply R.box; exact rfl; (simp only [Value.cells]; rfl); exact rfl; intro bx) | (apply R.alloc; (simp only [Value.cells]; rfl); exact rfl; intro ba) | (apply R.buildSlice; (exact a_prt); exact rfl; exact rfl; (exact a_fills); exact rfl; intro bl) | (refine a_sp ?_ ?_; (intro h; skip; rotate_left; intro h; skip; rotate_left)) | fail))
  have hr : ((bs.drop 8).take n).length = n := by simp; omega
  have hpr : Pl M (adv A (8 : Int).toNat 1 cap) (((bs.drop 8).take n).map bv) := Pl.cutTake n hpl hc
  have hp4 : Pl M (adv A (4 : Int).toNat 1 cap) ((bs.drop 4).map bv) := by
    have h5 := Pl.cutTake (l := 4) bs.length hpl hc
    rw [List.take_of_length_le (by simp)] at h5
    exact h5
  rw [show (8 + (n : Int)).toNat - Int.toNat 8 = n by omega]
  apply C.regionP [1, 1, 1, 1, 1, 1, 1, 1, 1] [] _ Mix.h (Arr.all _) (by (exact a_np)) (by kernel_rfl); intro _ e; subst e
  (repeat' (first | (first | (apply RP.step; intro _ _ _; (exact a_ok); exact rfl) | (apply RP.stepT; exact rfl; exact rfl; exact rfl; intro _ _ _; (exact a_ok); exact rfl) | (apply RP.stepF; exact rfl; exact rfl; exact rfl; exact rfl; exact rfl) | (apply RP.effF; exact rfl; exact rfl; exact rfl; exact rfl; exact rfl)) | (apply RP.callQ; (exact a_evs); exact rfl)))
  · exact fun _ _ hM => sum_Km (hpr.mono hM) hr (by omega)
  (repeat' (first | (first | (apply RP.step; intro _ _ _; (exact a_ok); exact rfl) | (apply RP.stepT; exact rfl; exact rfl; exact rfl; intro _ _ _; (exact a_ok); exact rfl) | (apply RP.stepF; exact rfl; exact rfl; exact rfl; exact rfl; exact rfl) | (apply RP.effF; exact rfl; exact rfl; exact rfl; exact rfl; exact rfl)) | (apply RP.callQ; (exact a_evs); exact rfl)))
  (apply RP.step; intro _ _ _; (apply Ok.sliceLo; exact rfl; exact rfl; omega; omega); exact rfl)
  (repeat' (first | (first | (apply RP.step; intro _ _ _; (exact a_ok); exact rfl) | (apply RP.stepT; exact rfl; exact rfl; exact rfl; intro _ _ _; (exact a_ok); exact rfl) | (apply RP.stepF; exact rfl; exact rfl; exact rfl; exact rfl; exact rfl) | (apply RP.effF; exact rfl; exact rfl; exact rfl; exact rfl; exact rfl)) | (apply RP.callQ; (exact a_evs); exact rfl)))
  · exact fun _ _ hM => read_Km (bs := bs.drop 4) (hp4.mono hM) (by simp) (by omega)
  (repeat' (first | (first | (apply RP.step; intro _ _ _; (exact a_ok); exact rfl) | (apply RP.stepT; exact rfl; exact rfl; exact rfl; intro _ _ _; (exact a_ok); exact rfl) | (apply RP.stepF; exact rfl; exact rfl; exact rfl; exact rfl; exact rfl) | (apply RP.effF; exact rfl; exact rfl; exact rfl; exact rfl; exact rfl)) | (apply RP.callQ; (exact a_evs); exact rfl)))
  apply RP.nil
  (repeat' (first | refine a_go ?_ | (with_reducible apply Fin.thenK; assumption) | (with_reducible (first | apply C.seqK | apply C.regionK); intro _ _) | (apply R.buildSlice0; exact rfl; intro bz) | (apply R.box; exact rfl; (simp only [Value.cells]; rfl); exact rfl; intro bx) | (apply R.alloc; (simp only [Value.cells]; rfl); exact rfl; intro ba) | (apply R.buildSlice; (exact a_prt); exact rfl; exact rfl; (exact a_fills); exact rfl; intro bl) | (refine a_sp ?_ ?_; (intro h; skip; rotate_left; intro h; skip; rotate_left)) | fail))
  (refine Fin.rt ?_)
  refine ⟨_, (bs.drop 8).take n, _, _, by rw [hr], hpr, by omega, by omega, ?_, rfl, rfl⟩
  unfold wholeS
  rw [hn, if_neg (by omega), if_neg (by omega)]
  generalize sumS ((bs.drop 8).take n) = a
  generalize readS (bs.drop 4) = b
  by_cases hab : a = b
  · rw [if_pos hab, if_pos (by rw [hab]; simp)]
  · rw [if_neg hab, if_neg (by simp; omega)]
end Go.Sx
end
section
namespace Go.Sx
open Go.Proofs Go.RowKit
attribute [local irreducible] C R Fin K Own Rd Pl Ok KOf RetOk OpsOf RP KP Res NoPanic KV
variable {M : Mem} {H : Hp}
def framesF : Nat → List UInt8 → List (List UInt8)
  | 0, _ => []
  | k + 1, bs => match wholeS bs with
    | none => []
    | some r => r :: framesF k (bs.drop (8 + r.length))
inductive Told {σ : Type} (St : σ → List UInt8 → Bool → σ → Prop) (s0 : σ) : List (List UInt8) → σ → Prop
  | nil : Told St s0 [] s0
  | more {pre : List (List UInt8)} {r : List UInt8} {s s1 : σ} (h : Told St s0 pre s) (hs : St s r true s1) : Told St s0 (pre ++ [r]) s1
def Ends {σ : Type} (St : σ → List UInt8 → Bool → σ → Prop) (s0 : σ) (l : List (List UInt8)) (s' : σ) : Prop :=
  Told St s0 l s' ∨ ∃ pre r rest s, l = pre ++ r :: rest ∧ Told St s0 pre s ∧ St s r false s'
theorem wholeS_len {bs r : List UInt8} (h : wholeS bs = some r) : 8 + r.length ≤ bs.length ∧ r.length ≤ 65536 := by
  unfold wholeS at h
  split at h
  · cases h
  split at h
  · cases h
  split at h
  · cases h
    have := Nat.mod_le (bs.length - 8) 4294967296
    simp only [List.length_take, List.length_drop]
    omega
  · cases h
theorem framesF_none {k : Nat} {bs : List UInt8} (h : wholeS bs = none) : framesF k bs = [] := by
  cases k with
  | zero => rfl
  | succ k => simp [framesF, h]
theorem wholeS_nil : wholeS [] = none := if_pos (by simp)
theorem framesF_fuel : ∀ (k k' : Nat) (bs : List UInt8), bs.length ≤ k → bs.length ≤ k' → framesF k bs = framesF k' bs
  | 0, k', bs, h, _ => by
    have : bs = [] := List.eq_nil_of_length_eq_zero (by omega)
    subst this
    rw [framesF_none wholeS_nil, framesF_none wholeS_nil]
  | k + 1, 0, bs, _, h => by
    have : bs = [] := List.eq_nil_of_length_eq_zero (by omega)
    subst this
    rw [framesF_none wholeS_nil, framesF_none wholeS_nil]
  | k + 1, k' + 1, bs, h, h' => by
    simp only [framesF]
    cases hw : wholeS bs with
    | none => rfl
    | some r =>
      have := (wholeS_len hw).1
      simp only
      rw [framesF_fuel k k' (bs.drop (8 + r.length)) (by simp; omega) (by simp; omega)]
theorem framesF_some {bs r : List UInt8} (h : wholeS bs = some r) : framesF bs.length bs = r :: framesF (bs.drop (8 + r.length)).length (bs.drop (8 + r.length)) := by
  have hl := (wholeS_len h).1
  obtain ⟨k, hk⟩ : ∃ k, bs.length = k + 1 := ⟨bs.length - 1, by omega⟩
  rw [hk]
  simp only [framesF, h]
  rw [framesF_fuel k (bs.drop (8 + r.length)).length _ (by simp; omega) (Nat.le_refl _)]
structure Rest (σ : Type) where
  s : σ
  A : Option Addr
  bs : List UInt8
  cap : Nat
theorem all1_K {σ : Type} {J : σ → Hp} {St : σ → List UInt8 → Bool → σ → Prop} {yv : Value} {bx : Nat} {A : Option Addr} {cap : Nat} {bs : List UInt8} (hpl : Pl M A (bs.map bv)) (hc : bs.length ≤ cap) (hb : cap ≤ 9223372036854775807) (s0 : σ)
    (hY : ∀ pre r rest s v hpv H', framesF bs.length bs = pre ++ r :: rest → Told St s0 pre s → Own 5 1 v r.length (r.map bv) hpv → r.length ≤ 65536 → KV Try.prog yv [v] M (hpv ++ (J s ++ H')) (fun u M'' H'' => ∃ b s', u = .bool b ∧ M'' = M ∧ H'' = J s' ++ H' ∧ St s r b s')) :
    K Try.prog 75 [yv, .pointer (some ⟨bx, 0, none⟩)] M (J s0 ++ ((bx, .cells #[.slice A bs.length cap] 29 (0, 0)) :: H)) fun _ M' H' =>
      ∃ s', M' = M ∧ H' = J s' ++ ((bx, .cells #[.slice A bs.length cap] 29 (0, 0)) :: H) ∧ Ends St s0 (framesF bs.length bs) s' := by
  refine K.enterK Try.func75 rfl rfl rfl ?_
  intro Q hNP hQ
  (repeat' (first | refine a_go ?_ | (with_reducible apply Fin.thenK; assumption) | (with_reducible (first | apply C.seqK | apply C.regionK); intro _ _) | (apply R.buildSlice0; exact rfl; intro bz) | (apply R.box; exact rfl; (simp only [Value.cells]; rfl); exact rfl; intro bx) | (apply R.alloc; (simp only [Value.cells]; rfl); exact rfl; intro ba) | (apply R.buildSlice; (exact a_prt); exact rfl; exact rfl; (exact a_fills); exact rfl; intro bl) | (refine a_sp ?_ ?_; (intro h; skip; rotate_left; intro h; skip; rotate_left)) | fail))
  apply C.loop (fun x : Rest σ => Pl M x.A (x.bs.map bv) ∧ x.bs.length ≤ x.cap ∧ x.cap ≤ 9223372036854775807 ∧ ∃ pre, framesF bs.length bs = pre ++ framesF x.bs.length x.bs ∧ Told St s0 pre x.s)
    (fun x => [(0, yv), (3, .slice x.A x.bs.length x.cap)]) (fun _ => M) (fun x => J x.s ++ ((bx, .cells #[.slice A bs.length cap] 29 (0, 0)) :: H)) (fun x => x.bs.length) ⟨s0, A, bs, cap⟩
  · exact ⟨hpl, hc, hb, [], rfl, .nil⟩
  · (exact a_subs)
  · exact rfl
  · exact rfl
  rintro ⟨s, A1, bs1, cap1⟩ ⟨hpl1, hc1, hb1, pre, hfr, htold⟩
  dsimp only at hpl1 hc1 hb1 hfr htold ⊢
  (repeat' (first | refine a_go ?_ | (with_reducible apply Fin.thenK; assumption) | (with_reducible (first | apply C.seqK | apply C.regionK); intro _ _) | (apply R.buildSlice0; exact rfl; intro bz) | (apply R.box; exact rfl; (simp only [Value.cells]; rfl); exact rfl; intro bx) | (apply R.alloc; (simp only [Value.cells]; rfl); exact rfl; intro ba) | (apply R.buildSlice; (exact a_prt); exact rfl; exact rfl; (exact a_fills); exact rfl; intro bl) | (refine a_sp ?_ ?_; (intro h; skip; rotate_left; intro h; skip; rotate_left)) | fail))
  (apply R.call; (exact a_evs); exact rfl); exact whole_K hpl1 hc1 hb1; rintro _ M _ ⟨A2, r, c2, ok, rfl, hpr, hrc, hcc, hw, rfl, rfl⟩
  (repeat' (first | refine a_go ?_ | (with_reducible apply Fin.thenK; assumption) | (with_reducible (first | apply C.seqK | apply C.regionK); intro _ _) | (apply R.buildSlice0; exact rfl; intro bz) | (apply R.box; exact rfl; (simp only [Value.cells]; rfl); exact rfl; intro bx) | (apply R.alloc; (simp only [Value.cells]; rfl); exact rfl; intro ba) | (apply R.buildSlice; (exact a_prt); exact rfl; exact rfl; (exact a_fills); exact rfl; intro bl) | (refine a_sp ?_ ?_; (intro h; skip; rotate_left; intro h; skip; rotate_left)) | fail))
  · have h1 : ok = false := by assumption
    subst h1
    (refine Fin.rt ?_)
    exact ⟨s, rfl, rfl, .inl (by rw [hfr, framesF_none hw, List.append_nil]; exact htold)⟩
  have h1 : ok = true := by assumption
  subst h1
  have hw2 : wholeS bs1 = some r := hw
  obtain ⟨hl8, hl6⟩ := wholeS_len hw2
  have hfr2 := hfr
  rw [framesF_some hw2] at hfr2
  (apply R.append; exact rfl; exact rfl; exact Own.empty; (exact a_tk); exact hpr.rd; (focus (simp; done)); exact bv_one _; omega; exact rfl; decide; decide; exact rfl; rintro v hpv hown')
  have hown : Own 5 1 v r.length (r.map bv) hpv := by simpa using hown'
  clear hown'
  (repeat' (first | refine a_go ?_ | (with_reducible apply Fin.thenK; assumption) | (with_reducible (first | apply C.seqK | apply C.regionK); intro _ _) | (apply R.buildSlice0; exact rfl; intro bz) | (apply R.box; exact rfl; (simp only [Value.cells]; rfl); exact rfl; intro bx) | (apply R.alloc; (simp only [Value.cells]; rfl); exact rfl; intro ba) | (apply R.buildSlice; (exact a_prt); exact rfl; exact rfl; (exact a_fills); exact rfl; intro bl) | (refine a_sp ?_ ?_; (intro h; skip; rotate_left; intro h; skip; rotate_left)) | fail))
  (apply R.callV; exact rfl; (exact a_evs); exact rfl; exact hY pre r _ s v hpv _ hfr2 htold hown hl6; rintro _ M _ ⟨b, s1, rfl, rfl, rfl, hst⟩)
  (repeat' (first | refine a_go ?_ | (with_reducible apply Fin.thenK; assumption) | (with_reducible (first | apply C.seqK | apply C.regionK); intro _ _) | (apply R.buildSlice0; exact rfl; intro bz) | (apply R.box; exact rfl; (simp only [Value.cells]; rfl); exact rfl; intro bx) | (apply R.alloc; (simp only [Value.cells]; rfl); exact rfl; intro ba) | (apply R.buildSlice; (exact a_prt); exact rfl; exact rfl; (exact a_fills); exact rfl; intro bl) | (refine a_sp ?_ ?_; (intro h; skip; rotate_left; intro h; skip; rotate_left)) | fail))
  · have h2 : b = false := by assumption
    subst h2
    (refine Fin.rt ?_)
    exact ⟨s1, rfl, rfl, .inr ⟨pre, r, _, s, hfr2, htold, hst⟩⟩
  have h2 : b = true := by assumption
  subst h2
  (apply R.step; (apply Ok.sliceLo; exact rfl; exact rfl; omega; omega); exact rfl)
  rw [show (8 + (r.length : Int)).toNat = 8 + r.length by omega]
  (repeat' (first | refine a_go ?_ | (with_reducible apply Fin.thenK; assumption) | (with_reducible (first | apply C.seqK | apply C.regionK); intro _ _) | (apply R.buildSlice0; exact rfl; intro bz) | (apply R.box; exact rfl; (simp only [Value.cells]; rfl); exact rfl; intro bx) | (apply R.alloc; (simp only [Value.cells]; rfl); exact rfl; intro ba) | (apply R.buildSlice; (exact a_prt); exact rfl; exact rfl; (exact a_fills); exact rfl; intro bl) | (refine a_sp ?_ ?_; (intro h; skip; rotate_left; intro h; skip; rotate_left)) | fail))
  refine Fin.again (⟨s1, adv A1 (8 + r.length) 1 cap1, bs1.drop (8 + r.length), cap1 - (8 + r.length)⟩ : Rest σ) ⟨?_, by simp; omega, by dsimp only; omega, ?_⟩ (by simp; omega) ?_ rfl rfl
  · have h5 := Pl.cutTake (l := 8 + r.length) bs1.length hpl1 hc1
    rw [List.take_of_length_le (by simp)] at h5
    exact h5
  · exact ⟨pre ++ [r], by rw [hfr2, List.append_assoc]; rfl, .more htold hst⟩
  · dsimp only
    rw [List.length_drop]
    (exact a_subs)
end Go.Sx
end
section
namespace Go.Sx
open Go.Proofs Go.RowKit
attribute [local irreducible] C R Fin K Own Rd Pl Ok KOf RetOk OpsOf RP KP Res NoPanic KV
variable {M : Mem} {H : Hp}
theorem all_K {A : Option Addr} {m cap : Nat} : K Try.prog 61 [.slice A m cap] M H fun v M' H' =>
    ∃ bx, v = .func (.func 75) #[] #[.pointer (some ⟨bx, 0, none⟩)] ∧ M' = M ∧ H' = (bx, .cells #[.slice A m cap] 29 (0, 0)) :: H := by
  refine K.enterK Try.func61 rfl rfl rfl ?_
  intro Q hNP hQ
  (repeat' (first | refine a_go ?_ | (with_reducible apply Fin.thenK; assumption) | (with_reducible (first | apply C.seqK | apply C.regionK); intro _ _) | (apply R.buildSlice0; exact rfl; intro bz) | (apply R.box; exact rfl; (simp only [Value.cells]; rfl); exact rfl; intro bx) | (apply R.alloc; (simp only [Value.cells]; rfl); exact rfl; intro ba) | (apply R.buildSlice; (exact a_prt); exact rfl; exact rfl; (exact a_fills); exact rfl; intro bl) | (refine a_sp ?_ ?_; (intro h; skip; rotate_left; intro h; skip; rotate_left)) | fail))
  (apply R.step; (apply Ok.makeFunc (fs := []) ; (exact a_evs); (exact a_evs); (intro w; rfl)); exact rfl)
  (repeat' (first | refine a_go ?_ | (with_reducible apply Fin.thenK; assumption) | (with_reducible (first | apply C.seqK | apply C.regionK); intro _ _) | (apply R.buildSlice0; exact rfl; intro bz) | (apply R.box; exact rfl; (simp only [Value.cells]; rfl); exact rfl; intro bx) | (apply R.alloc; (simp only [Value.cells]; rfl); exact rfl; intro ba) | (apply R.buildSlice; (exact a_prt); exact rfl; exact rfl; (exact a_fills); exact rfl; intro bl) | (refine a_sp ?_ ?_; (intro h; skip; rotate_left; intro h; skip; rotate_left)) | fail))
  (refine Fin.rt ?_)
  exact ⟨_, rfl, rfl, rfl⟩
def endS (l : List (List UInt8)) : Nat := (l.map fun r => 8 + r.length).sum
theorem endS_append (a b : List (List UInt8)) : endS (a ++ b) = endS a + endS b := by
  unfold endS
  rw [List.map_append, List.sum_append]
theorem framesF_end : ∀ (k : Nat) (bs : List UInt8), endS (framesF k bs) ≤ bs.length
  | 0, _ => Nat.zero_le _
  | k + 1, bs => by
    simp only [framesF]
    cases hw : wholeS bs with
    | none => exact Nat.zero_le _
    | some r =>
      have h1 := (wholeS_len hw).1
      have h2 := framesF_end k (bs.drop (8 + r.length))
      rw [List.length_drop] at h2
      have h3 : endS (r :: framesF k (bs.drop (8 + r.length))) = 8 + r.length + endS (framesF k (bs.drop (8 + r.length))) := by
        unfold endS
        simp
      simp only
      omega
end Go.Sx
end
section
namespace Go.Sx
open Go.Proofs Go.RowKit
attribute [local irreducible] C R Fin K Own Rd Pl Ok KOf RetOk OpsOf RP KP Res NoPanic KV
variable {M : Mem} {H : Hp}
theorem readS_four {x0 x1 x2 x3 : UInt8} {rest : List UInt8} {s : Nat} (hs : s < 4294967296) :
    readS (x0 :: x1 :: x2 :: x3 :: rest) = s ↔ x0 = UInt8.ofNat s ∧ x1 = UInt8.ofNat (s / 256) ∧ x2 = UInt8.ofNat (s / 65536) ∧ x3 = UInt8.ofNat (s / 16777216) := by
  have l0 : x0.toNat < 256 := x0.toNat_lt
  have l1 : x1.toNat < 256 := x1.toNat_lt
  have l2 : x2.toNat < 256 := x2.toNat_lt
  have l3 : x3.toNat < 256 := x3.toNat_lt
  have e : readS (x0 :: x1 :: x2 :: x3 :: rest) = x0.toNat + x1.toNat * 256 + x2.toNat * 65536 + x3.toNat * 16777216 := rfl
  simp only [← UInt8.toNat_inj, UInt8.toNat_ofNat', e]
  omega
theorem endS_len : ∀ (l : List (List UInt8)), 8 * l.length ≤ endS l
  | [] => Nat.zero_le _
  | x :: l => by
    have h := endS_len l
    have : endS (x :: l) = 8 + x.length + endS l := by simp [endS]
    simp only [List.length_cons]
    omega
theorem frameS_len {bs : List UInt8} (h : bs.length ≤ 65536) : (frameS bs).length = 8 + bs.length := by
  unfold frameS
  rw [if_neg (by omega)]
  simp [layS]
  omega
def cat (ls : List (List UInt8)) : List UInt8 := ls.flatMap frameS
theorem cat_cons (p : List UInt8) (ls : List (List UInt8)) : cat (p :: ls) = frameS p ++ cat ls := rfl
theorem readS_lay {p : Nat} (hp : p < 4294967296) (rest : List UInt8) : readS (layS p ++ rest) = p :=
  (readS_four hp).2 ⟨rfl, rfl, rfl, rfl⟩
theorem frame_take {p : List UInt8} (hp : p.length ≤ 65536) (rest : List UInt8) {k : Nat} (h8 : 8 ≤ k) :
    ((frameS p ++ rest).take k) = layS p.length ++ (layS (sumS p) ++ (p ++ rest).take (k - 8)) := by
  have e : frameS p = layS p.length ++ layS (sumS p) ++ p := if_neg (by omega)
  rw [e, List.append_assoc, List.take_append]
  have l : (layS p.length ++ layS (sumS p)).length = 8 := rfl
  rw [l, List.take_of_length_le (by rw [l]; exact h8), List.append_assoc]
theorem whole_frame {p : List UInt8} (hp : p.length ≤ 65536) (rest : List UInt8) (k : Nat) (hk : k ≤ (frameS p ++ rest).length) (hb : k < 4294967296) :
    wholeS ((frameS p ++ rest).take k) = if 8 + p.length ≤ k then some p else none := by
  have hl : ((frameS p ++ rest).take k).length = k := by rw [List.length_take]; omega
  unfold wholeS
  rw [hl]
  by_cases h8 : k < 8
  · rw [if_pos h8, if_neg (by omega)]
  rw [if_neg h8, frame_take hp rest (by omega), readS_lay (by omega)]
  have d4 : (layS p.length ++ (layS (sumS p) ++ (p ++ rest).take (k - 8))).drop 4 = layS (sumS p) ++ (p ++ rest).take (k - 8) := rfl
  have d8 : (layS p.length ++ (layS (sumS p) ++ (p ++ rest).take (k - 8))).drop 8 = (p ++ rest).take (k - 8) := rfl
  rw [d4, d8, readS_lay (sumS_lt p), Nat.mod_eq_of_lt (by omega : k - 8 < 4294967296)]
  by_cases hle : 8 + p.length ≤ k
  · rw [if_neg (by omega), if_pos hle]
    have : ((p ++ rest).take (k - 8)).take p.length = p := by
      rw [List.take_take, Nat.min_eq_left (by omega), List.take_left]
    rw [this, if_pos rfl]
  · rw [if_pos (by omega), if_neg hle]
def wholeN : List (List UInt8) → Nat → Nat
  | [], _ => 0
  | p :: ls, k => if 8 + p.length ≤ k then 1 + wholeN ls (k - (8 + p.length)) else 0
theorem frames_cut : ∀ (ls : List (List UInt8)) (k : Nat), (∀ p ∈ ls, p.length ≤ 65536) → k ≤ (cat ls).length → k < 4294967296 →
    framesF ((cat ls).take k).length ((cat ls).take k) = ls.take (wholeN ls k)
  | [], k, _, hk, _ => by
    have : k = 0 := by simpa [cat] using hk
    subst this
    rfl
  | p :: ls, k, hp, hk, hb => by
    have hpl := hp p (List.mem_cons_self ..)
    have hfl := frameS_len hpl
    rw [cat_cons] at hk ⊢
    have hw := whole_frame hpl (cat ls) k hk hb
    rw [wholeN]
    by_cases hle : 8 + p.length ≤ k
    · rw [if_pos hle] at hw ⊢
      rw [framesF_some hw]
      have e : ((frameS p ++ cat ls).take k).drop (8 + p.length) = (cat ls).take (k - (8 + p.length)) := by
        rw [List.take_append, hfl, List.take_of_length_le (by omega), List.drop_left' hfl]
      rw [e, frames_cut ls (k - (8 + p.length)) (fun q hq => hp q (List.mem_cons_of_mem _ hq)) (by rw [List.length_append, hfl] at hk; omega) (by omega), Nat.add_comm 1, List.take_succ_cons]
    · rw [if_neg hle] at hw ⊢
      rw [framesF_none hw]
      rfl
theorem cat_len : ∀ (ls : List (List UInt8)), (∀ p ∈ ls, p.length ≤ 65536) → (cat ls).length = endS ls
  | [], _ => rfl
  | p :: ls, hp => by
    rw [cat_cons, List.length_append, frameS_len (hp p (List.mem_cons_self ..)), cat_len ls (fun q hq => hp q (List.mem_cons_of_mem _ hq))]
    simp [endS]
theorem wholeN_all : ∀ (ls : List (List UInt8)) (k : Nat), endS ls ≤ k → wholeN ls k = ls.length
  | [], _, _ => rfl
  | p :: ls, k, h => by
    have e : endS (p :: ls) = 8 + p.length + endS ls := by simp [endS]
    rw [wholeN, if_pos (by omega), wholeN_all ls _ (by omega), List.length_cons, Nat.add_comm]
theorem frames_cat (ls : List (List UInt8)) (hp : ∀ p ∈ ls, p.length ≤ 65536) (hb : (cat ls).length < 4294967296) : framesF (cat ls).length (cat ls) = ls := by
  have h := frames_cut ls (cat ls).length hp (Nat.le_refl _) hb
  rw [List.take_length, wholeN_all ls _ (by rw [cat_len ls hp]; exact Nat.le_refl _), List.take_length] at h
  exact h
end Go.Sx
end
section
namespace Go.Sx
open Go.RowKit
variable {P : Program} {r : Option Nat} {n : Nat} {D : List Deferred} {L L' : Sl} {M M0 : Mem} {H Hs Hx : Hp} {Q : Post} {k : Sl → Mem → Hp → Prop}
def planY (ops : Array Oper) : List Nat → List Nat → Array Bool → Bool
  | [], _, _ => true
  | 1 :: ks, k :: is, listed => (Region.ready .any ops listed).contains k && Region.free .any ops listed k && planY ops ks is (listed.setIfInBounds k true)
  | 0 :: ks, k :: is, listed => (Region.ready .any ops listed).contains k && decide (Region.ready .any ops listed = [k]) && planY ops ks is (listed.setIfInBounds k true)
  | 2 :: 2 :: ks, i :: j :: is, listed => (Region.ready .any ops listed).all (fun k => Nat.beq k i || Nat.beq k j) && !(Region.ready .any ops listed).isEmpty && decide (Region.ready .any ops (listed.setIfInBounds i true) = [j]) && decide (Region.ready .any ops (listed.setIfInBounds j true) = [i]) && !(Nat.beq i j) && planY ops ks is ((listed.setIfInBounds i true).setIfInBounds j true)
  | 3 :: 3 :: 3 :: ks, i :: j :: l :: is, listed => (Region.ready .any ops listed).all (fun k => Nat.beq k i || Nat.beq k l) && !(Region.ready .any ops listed).isEmpty && (Region.ready .any ops (listed.setIfInBounds i true)).all (fun k => Nat.beq k j || Nat.beq k l) && !(Region.ready .any ops (listed.setIfInBounds i true)).isEmpty && decide (Region.ready .any ops ((listed.setIfInBounds i true).setIfInBounds j true) = [l]) && decide (Region.ready .any ops ((listed.setIfInBounds i true).setIfInBounds l true) = [j]) && decide (Region.ready .any ops (listed.setIfInBounds l true) = [i]) && decide (Region.ready .any ops ((listed.setIfInBounds l true).setIfInBounds i true) = [j]) && !(Nat.beq i j) && !(Nat.beq i l) && !(Nat.beq j l) && planY ops ks is (((listed.setIfInBounds i true).setIfInBounds j true).setIfInBounds l true)
  | _, _, _ => false
def RY (P : Program) (r : Option Nat) (n : Nat) (ds : List (Option Tmp)) (ks : List Nat) (rest : List Oper) (Q : Post) (D : List Deferred) (k : Sl → Mem → Hp → Prop) (L : Sl) (M0 M : Mem) (Hs Hx : Hp) : Prop :=
  ∀ (ops : Array Oper) (js : List Nat) (listed : Array Bool) (A : List Nat) (lF lA : Array Bool), OpsOf ds ops → Region.noSelect ops = true → NoDefer ops → NoPanic Q → Barrier ops A lF → (∀ j, j ∈ js → j ∈ A) → (∀ j, listed.getD j true = false → lF.getD j true = false) →
    picked ops js rest → planY ops ks js listed = true → ks.length = rest.length → (∀ j, j ∈ A → listed.getD j true = false → j ∈ js) → afterA js listed = lA → M0.le M →
    ∀ a, Fr n D L a → AnyZ r P ops M0 Hs Q (EndQ n D k M0 lA) rest.length listed a M Hx
section
variable {d : Option Tmp} {op : Op} {ty : TypeId} {pos : String} {af : Array Edge} {g : Option (Nat × Bool)} {v : Value} {ds : List (Option Tmp)} {ks : List Nat} {rest : List Oper}
theorem RY.nil (h : k L M (Hs ++ Hx)) : RY P r n ds [] [] Q D k L M0 M Hs Hx := by
  intro ops js listed A lF lA _ _ _ _ _ _ _ hl _ _ _ hlA hM a hf
  cases js with
  | nil => exact ⟨hM, fun w hh => ⟨hlA, _, _, _, h, hM, hf, hh⟩⟩
  | cons j js => exact hl.elim
end
end Go.Sx
end
section
namespace Go.Sx
open Go.RowKit Go.MapKept
abbrev Txt := List UInt8
abbrev ML := List (Txt × Value)
def MapS (o : Obj) (l : ML) : Prop := ∃ es clock, o = .map es clock ∧ Stamped es clock ∧ es.toList.map (fun e => (e.key, e.val)) = l.map (fun p => (str p.1, p.2))
def keyS {α : Type} (l : List (Txt × α)) : List Txt := l.map Prod.fst
def getS {α : Type} (l : List (Txt × α)) (k : Txt) : Option α := (l.find? (fun p => decide (p.1 = k))).map Prod.snd
def putS {α : Type} (l : List (Txt × α)) (k : Txt) (v : α) : List (Txt × α) := if k ∈ keyS l then l.map (fun p => if p.1 = k then (k, v) else p) else l ++ [(k, v)]
def delS {α : Type} (l : List (Txt × α)) (k : Txt) : List (Txt × α) := l.filter (fun p => decide (p.1 ≠ k))
theorem str_inj {a b : Txt} (h : str a = str b) : a = b := by
  unfold str at h
  injection h with h
  injection h with h
  simpa using h
theorem MapS.nodup {o : Obj} {l : ML} (h : MapS o l) : (keyS l).Nodup := by
  obtain ⟨es, clock, _, hs, he⟩ := h
  have h1 := ((stamped_iff es clock).1 hs).2.2
  have h2 : es.toList.map (·.key) = (keyS l).map str := by
    have := congrArg (List.map Prod.fst) he
    rw [List.map_map, List.map_map] at this
    unfold keyS
    rw [List.map_map]
    exact this
  have h3 : (es.toList.map (·.key)).Nodup := List.pairwise_map.2 h1
  rw [h2] at h3
  exact (List.pairwise_map.1 h3).imp fun {a b} hab e => hab (by rw [e])
theorem MapS.empty : MapS (.map #[] 0) [] := ⟨#[], 0, rfl, stamped_empty 0, rfl⟩
theorem same_str (a b : Txt) : Instr.sameNow .string (str a) (str b) = some (decide (a = b)) := by
  show some ((⟨a.toArray⟩ : ByteArray) == ⟨b.toArray⟩) = some (decide (a = b))
  have h := bytes_beq ⟨a.toArray⟩ ⟨b.toArray⟩
  congr 1
  by_cases hab : a = b
  · rw [decide_eq_true hab]
    exact h.2 (by rw [hab])
  · rw [decide_eq_false hab]
    cases hb : ((⟨a.toArray⟩ : ByteArray) == ⟨b.toArray⟩) with
    | false => rfl
    | true =>
      have h1 := h.1 hb
      injection h1 with h1
      exact absurd (by simpa using h1) hab
theorem isk (k : Txt) : IsKey .string (str k) := by simp [IsKey, str]
theorem findNow_S (k : Txt) : ∀ (es : List MapEntry) (l : ML) (i : Nat), es.map (fun e => (e.key, e.val)) = l.map (fun p => (str p.1, p.2)) →
    (k ∉ keyS l ∧ Instr.findNow .string (str k) es i = some none) ∨ ∃ l1 v l2, l = l1 ++ (k, v) :: l2 ∧ k ∉ keyS l1 ∧ Instr.findNow .string (str k) es i = some (some (i + l1.length, v))
  | [], l, i, h => by
    cases l with
    | nil => exact .inl ⟨by simp [keyS], rfl⟩
    | cons _ _ => simp at h
  | e :: es, l, i, h => by
    cases l with
    | nil => simp at h
    | cons p l =>
      rw [List.map_cons, List.map_cons] at h
      injection h with h1 h2
      injection h1 with h3 h4
      unfold Instr.findNow
      rw [h3, same_str]
      by_cases hk : k = p.1
      · rw [decide_eq_true hk]
        refine .inr ⟨[], p.2, l, by rw [hk]; rfl, by simp [keyS], ?_⟩
        rw [h4]
        rfl
      · rw [decide_eq_false hk]
        rcases findNow_S k es l (i + 1) h2 with ⟨g1, g2⟩ | ⟨l1, v, l2, rfl, g2, g3⟩
        · refine .inl ⟨fun hm => ?_, g2⟩
          unfold keyS at hm
          rw [List.map_cons] at hm
          rcases List.mem_cons.1 hm with hm | hm
          · exact hk hm
          · exact g1 hm
        · refine .inr ⟨p :: l1, v, l2, rfl, fun hm => ?_, ?_⟩
          · unfold keyS at hm
            rw [List.map_cons] at hm
            rcases List.mem_cons.1 hm with hm | hm
            · exact hk hm
            · exact g2 hm
          · dsimp only
            rw [g3, List.length_cons, Nat.add_assoc, Nat.add_comm 1]
theorem getS_none {α : Type} {l : List (Txt × α)} {k : Txt} (h : k ∉ keyS l) : getS l k = none := by
  unfold getS
  rw [List.find?_eq_none.2 (fun p hp => by
    rw [decide_eq_true_eq]
    intro e
    exact h (List.mem_map.2 ⟨p, hp, e⟩))]
  rfl
theorem getS_some {α : Type} {l1 l2 : List (Txt × α)} {k : Txt} {v : α} (h : k ∉ keyS l1) : getS (l1 ++ (k, v) :: l2) k = some v := by
  have h1 : l1.find? (fun p => decide (p.1 = k)) = none := List.find?_eq_none.2 (fun p hp => by
    rw [decide_eq_true_eq]
    intro e
    exact h (List.mem_map.2 ⟨p, hp, e⟩))
  unfold getS
  rw [List.find?_append, h1, List.find?_cons]
  simp
theorem keyS_app {α : Type} (a b : List (Txt × α)) : keyS (a ++ b) = keyS a ++ keyS b := List.map_append ..
theorem putS_new {α : Type} {l : List (Txt × α)} {k : Txt} {v : α} (h : k ∉ keyS l) : putS l k v = l ++ [(k, v)] := if_neg h
theorem map_same {α : Type} {l : List (Txt × α)} {k : Txt} {v : α} (h : k ∉ keyS l) : l.map (fun p => if p.1 = k then (k, v) else p) = l := by
  refine (List.map_congr_left fun p hp => ?_).trans (List.map_id l)
  exact if_neg (fun e => h (List.mem_map.2 ⟨p, hp, e⟩))
theorem keyS_mid {α : Type} {l1 l2 : List (Txt × α)} {k : Txt} {u : α} (hn : (keyS (l1 ++ (k, u) :: l2)).Nodup) : k ∉ keyS l1 ∧ k ∉ keyS l2 := by
  rw [keyS_app] at hn
  have h0 := List.nodup_append.1 hn
  exact ⟨fun h => h0.2.2 k h k (List.mem_cons_self ..) rfl, (List.nodup_cons.1 h0.2.1).1⟩
theorem putS_old {α : Type} {l1 l2 : List (Txt × α)} {k : Txt} {u v : α} (hn : (keyS (l1 ++ (k, u) :: l2)).Nodup) : putS (l1 ++ (k, u) :: l2) k v = l1 ++ (k, v) :: l2 := by
  obtain ⟨h1, h2⟩ := keyS_mid hn
  unfold putS
  rw [keyS_app, if_pos (show k ∈ keyS l1 ++ keyS ((k, u) :: l2) from List.mem_append_right _ (List.mem_cons_self ..)), List.map_append, List.map_cons, map_same h1, map_same h2, if_pos rfl]
theorem delS_none {α : Type} {l : List (Txt × α)} {k : Txt} (h : k ∉ keyS l) : delS l k = l :=
  List.filter_eq_self.2 fun p hp => decide_eq_true (fun e => h (List.mem_map.2 ⟨p, hp, e⟩) : p.1 ≠ k)
theorem delS_some {α : Type} {l1 l2 : List (Txt × α)} {k : Txt} {u : α} (hn : (keyS (l1 ++ (k, u) :: l2)).Nodup) : delS (l1 ++ (k, u) :: l2) k = l1 ++ l2 := by
  obtain ⟨h1, h2⟩ := keyS_mid hn
  have e1 := delS_none h1
  have e2 := delS_none h2
  unfold delS at e1 e2 ⊢
  rw [List.filter_append, List.filter_cons_of_neg (by simp), e1, e2]
theorem getS_mem {α : Type} {l : List (Txt × α)} {k : Txt} {v : α} (hn : (keyS l).Nodup) : getS l k = some v ↔ (k, v) ∈ l := by
  constructor
  · intro h
    obtain ⟨p, h1, h2⟩ := Option.map_eq_some_iff.1 h
    have h3 : p.1 = k := by simpa using List.find?_some h1
    have h4 := List.mem_of_find?_eq_some h1
    rw [← h3, ← h2]
    exact h4
  · intro h
    obtain ⟨l1, l2, rfl⟩ := List.append_of_mem h
    exact getS_some (keyS_mid hn).1
theorem getS_perm {α : Type} {l l' : List (Txt × α)} (h : l.Perm l') (hn : (keyS l).Nodup) (k : Txt) : getS l k = getS l' k := by
  have hn' : (keyS l').Nodup := (h.map Prod.fst).nodup_iff.1 hn
  cases hg : getS l k with
  | some v => exact ((getS_mem hn').2 (h.mem_iff.1 ((getS_mem hn).1 hg))).symm
  | none =>
    cases hg' : getS l' k with
    | none => rfl
    | some v =>
      have := (getS_mem hn).2 (h.mem_iff.2 ((getS_mem hn').1 hg'))
      rw [hg] at this
      cases this
theorem putS_perm {α : Type} {l l' : List (Txt × α)} (h : l.Perm l') (k : Txt) (v : α) : (putS l k v).Perm (putS l' k v) := by
  have hk : k ∈ keyS l ↔ k ∈ keyS l' := (h.map Prod.fst).mem_iff
  unfold putS
  by_cases h1 : k ∈ keyS l
  · rw [if_pos h1, if_pos (hk.1 h1)]
    exact h.map _
  · rw [if_neg h1, if_neg (fun h2 => h1 (hk.2 h2))]
    exact h.append_right _
theorem delS_perm {α : Type} {l l' : List (Txt × α)} (h : l.Perm l') (k : Txt) : (delS l k).Perm (delS l' k) := h.filter _
theorem putS_keys {α : Type} {l : List (Txt × α)} {k : Txt} {v : α} (hn : (keyS l).Nodup) : (keyS (putS l k v)).Nodup := by
  by_cases h1 : k ∈ keyS l
  · obtain ⟨p, hp, rfl⟩ := List.mem_map.1 h1
    obtain ⟨l1, l2, rfl⟩ := List.append_of_mem hp
    have := putS_old (v := v) hn
    rw [this]
    rw [keyS_app] at hn ⊢
    exact hn
  · rw [putS_new h1, keyS_app, List.nodup_append]
    exact ⟨hn, by simp [keyS], fun a ha b hb e => h1 (by
      have : b = k := by simpa [keyS] using hb
      rw [← this, ← e]
      exact ha)⟩
theorem delS_keys {α : Type} {l : List (Txt × α)} {k : Txt} (hn : (keyS l).Nodup) : (keyS (delS l k)).Nodup := (List.filter_sublist.map Prod.fst).nodup hn
theorem putS_map {α β : Type} (F : α → β) (l : List (Txt × α)) (k : Txt) (v : α) : (putS l k v).map (fun p => (p.1, F p.2)) = putS (l.map (fun p => (p.1, F p.2))) k (F v) := by
  have hk : keyS (l.map (fun p => (p.1, F p.2))) = keyS l := by
    unfold keyS
    rw [List.map_map]
    rfl
  unfold putS
  rw [hk]
  split
  · rw [List.map_map, List.map_map]
    refine List.map_congr_left fun p _ => ?_
    show (((if p.1 = k then (k, v) else p) : Txt × α).1, F ((if p.1 = k then (k, v) else p) : Txt × α).2) = if p.1 = k then (k, F v) else (p.1, F p.2)
    split <;> rfl
  · rw [List.map_append]
    rfl
theorem delS_map {α β : Type} (F : α → β) (l : List (Txt × α)) (k : Txt) : (delS l k).map (fun p => (p.1, F p.2)) = delS (l.map (fun p => (p.1, F p.2))) k := by
  unfold delS
  rw [List.filter_map]
  rfl
theorem getS_map {α β : Type} (F : α → β) (l : List (Txt × α)) (k : Txt) : getS (l.map (fun p => (p.1, F p.2))) k = (getS l k).map F := by
  unfold getS
  rw [List.find?_map, Option.map_map, Option.map_map]
  rfl
theorem mid_other {α : Type} {a c : List α} {x y : α} {j : Nat} (h : j ≠ a.length) : (a ++ x :: c)[j]? = (a ++ y :: c)[j]? := by
  rcases Nat.lt_or_gt_of_ne h with h | h
  · rw [List.getElem?_append_left h, List.getElem?_append_left h]
  · obtain ⟨m, rfl⟩ : ∃ m, j = a.length + (m + 1) := ⟨j - a.length - 1, by omega⟩
    rw [List.getElem?_append_right (by omega), List.getElem?_append_right (by omega), Nat.add_sub_cancel_left]
    rfl
section
variable {P : Program} {t kt et : TypeId} {w : World} {b : Nat} {o : Obj} {l : ML} {k : Txt}
theorem findKey_S (hk : P.underlying kt = some .string) {es : Array MapEntry} (he : es.toList.map (fun e => (e.key, e.val)) = l.map (fun p => (str p.1, p.2))) :
    (k ∉ keyS l ∧ (Instr.findKey kt (str k) es.toList).run P w = .ok none w) ∨ ∃ l1 v l2, l = l1 ++ (k, v) :: l2 ∧ k ∉ keyS l1 ∧ (Instr.findKey kt (str k) es.toList).run P w = .ok (some (l1.length, v)) w := by
  rcases findNow_S k es.toList l 0 he with ⟨h1, h2⟩ | ⟨l1, v, l2, h1, h2, h3⟩
  · exact .inl ⟨h1, by simp [Instr.findKey, run_underlying hk, h2]⟩
  · exact .inr ⟨l1, v, l2, h1, h2, by simp [Instr.findKey, run_underlying hk, h3]⟩
theorem checkKey_S (hk : P.underlying kt = some .string) (e : Bool) : (Instr.checkKey e 10000 kt (str k)).run P w = .ok () w := by
  exact run_checkKey hk (isk k) e 9999
theorem lookup_run {z : Value} {inf : TypeInfo} (ht : P.underlying t = some (.map kt et)) (hk : P.underlying kt = some .string) (h1 : P.info? et = some inf) (h2 : inf.zero = some z) (hb : w.heap[b]? = some o) (ho : MapS o l) (c : Bool) :
    (Instr.lookup t (.map (some b)) (str k) c).run P w = .ok (if c then .tuple #[(getS l k).getD z, .bool (getS l k).isSome] else (getS l k).getD z) w := by
  obtain ⟨es, clock, rfl, hs, he⟩ := ho
  have hz : (zeroValue et).run P w = .ok z w := by simp [zeroValue, typeInfo, h1, h2]
  rcases findKey_S (P := P) (w := w) (k := k) hk he with ⟨g1, g2⟩ | ⟨l1, v, l2, rfl, g2, g3⟩
  · rw [getS_none g1]
    simp [Instr.lookup, run_underlying ht, MapKept.run_getObj_map hb, checkKey_S hk, g2, hz, Result.andThen]
  · rw [getS_some g2]
    simp [Instr.lookup, run_underlying ht, MapKept.run_getObj_map hb, checkKey_S hk, g3, Result.andThen]
theorem keyStays_S (a : Txt) : (Instr.keyThatStays (str a) (str a)).run P w = .ok (str a) w := run_keyThatStays (isk a)
theorem entries_mid {es : Array MapEntry} {l1 l2 : ML} {v : Value} (he : es.toList.map (fun e => (e.key, e.val)) = (l1 ++ (k, v) :: l2).map (fun p => (str p.1, p.2))) : ∃ e0, es[l1.length]? = some e0 ∧ e0.key = str k ∧ e0.val = v := by
  have h : (es.toList.map (fun e => (e.key, e.val)))[l1.length]? = some (str k, v) := by
    rw [he, List.map_append, List.getElem?_append_right (by simp), List.map_cons]
    simp
  rw [List.getElem?_map] at h
  obtain ⟨e0, h1, h2⟩ := Option.map_eq_some_iff.1 h
  injection h2 with h2 h3
  exact ⟨e0, by simpa using h1, h2, h3⟩
theorem put_run {v : Value} (ht : P.underlying t = some (.map kt et)) (hk : P.underlying kt = some .string) (hb : w.heap[b]? = some o) (ho : MapS o l) :
    ∃ o', MapS o' (putS l k v) ∧ (Instr.mapUpdate t (.map (some b)) (str k) v).run P w = .ok () { w with heap := w.heap.setIfInBounds b o' } := by
  have hn := ho.nodup
  obtain ⟨es, clock, rfl, hs, he⟩ := ho
  rcases findKey_S (P := P) (w := w) (k := k) hk he with ⟨g1, g2⟩ | ⟨l1, u, l2, rfl, g2, g3⟩
  · rw [putS_new g1]
    refine ⟨.map (es.push { key := str k, val := v, born := clock }) (clock + 1), ⟨_, _, rfl, stamped_push hs (fun x hx e => ?_), by simp [he]⟩, by simp [Instr.mapUpdate, run_underlying ht, MapKept.run_getObj_map hb, MapKept.run_setObj_map _ hb, checkKey_S hk, g2, Result.andThen]⟩
    have h1 : (x.key, x.val) ∈ l.map (fun p => (str p.1, p.2)) := he ▸ List.mem_map.2 ⟨x, hx, rfl⟩
    obtain ⟨p, hp, h2⟩ := List.mem_map.1 h1
    injection h2 with h2 _
    exact g1 (List.mem_map.2 ⟨p, hp, str_inj (h2.trans e)⟩)
  · obtain ⟨e0, h1, h2, h3⟩ := entries_mid he
    rw [putS_old hn]
    have hl : l1.length < es.size := (Array.getElem?_eq_some_iff.1 h1).1
    refine ⟨.map (es.modify l1.length fun e => { e with key := str k, val := v }) clock, ⟨_, _, rfl, stamped_modify hs _ _ (fun _ _ => rfl) (fun e _ h => ?_), ?_⟩, ?_⟩
    · rw [h1] at h
      injection h with h
      rw [← h]
      exact h2.symm
    · rw [Array.toList_modify]
      apply List.ext_getElem?
      intro j
      have h1' : es.toList[l1.length]? = some e0 := by simpa using h1
      rw [List.getElem?_map, List.getElem?_modify, List.map_append, List.map_cons]
      by_cases hj : l1.length = j
      · subst hj
        rw [h1', List.getElem?_append_right (by simp)]
        simp
      · have hl : (l1.map (fun p => (str p.1, p.2))).length = l1.length := List.length_map ..
        rw [mid_other (y := (str k, u)) (by rw [hl]; exact fun e => hj e.symm)]
        have hej : (es.toList[j]?).map (fun e => (e.key, e.val)) = (l1.map (fun p => (str p.1, p.2)) ++ (str k, u) :: l2.map (fun p => (str p.1, p.2)))[j]? := by
          rw [← List.getElem?_map, he, List.map_append, List.map_cons]
        rw [← hej]
        cases es.toList[j]? with
        | none => rfl
        | some x => simp [hj]
    · simp [Instr.mapUpdate, run_underlying ht, MapKept.run_getObj_map hb, MapKept.run_setObj_map _ hb, checkKey_S hk, g3, Result.andThen, h1, h2, keyStays_S]
theorem del_run (ht : P.underlying t = some (.map kt et)) (hk : P.underlying kt = some .string) {t2 ty : TypeId} (hb : w.heap[b]? = some o) (ho : MapS o l) :
    ∃ o', MapS o' (delS l k) ∧ (Builtin.delete_ #[t, t2] ty #[.map (some b), str k]).run P w = .ok (.tuple #[]) { w with heap := w.heap.setIfInBounds b o' } := by
  have hn := ho.nodup
  obtain ⟨es, clock, rfl, hs, he⟩ := ho
  rcases findKey_S (P := P) (w := w) (k := k) hk he with ⟨g1, g2⟩ | ⟨l1, u, l2, rfl, g2, g3⟩
  · rw [delS_none g1]
    exact ⟨.map es clock, ⟨_, _, rfl, hs, he⟩, by simp [Builtin.delete_, run_underlying ht, MapKept.run_getObj_map hb, MapKept.run_setObj_map _ hb, checkKey_S hk, g2, Result.andThen]⟩
  · obtain ⟨e0, h1, _, _⟩ := entries_mid he
    have hl : l1.length < es.size := (Array.getElem?_eq_some_iff.1 h1).1
    rw [delS_some hn]
    have hsub : (es.eraseIdxIfInBounds l1.length).toList = es.toList.eraseIdx l1.length := by
      unfold Array.eraseIdxIfInBounds
      rw [dif_pos hl]
      simp
    refine ⟨.map (es.eraseIdxIfInBounds l1.length) clock, ⟨_, _, rfl, stamped_erase hs _, ?_⟩, by simp [Builtin.delete_, run_underlying ht, MapKept.run_getObj_map hb, MapKept.run_setObj_map _ hb, checkKey_S hk, g3, Result.andThen]⟩
    rw [hsub, List.eraseIdx_eq_take_drop_succ, List.map_append, List.map_take, List.map_drop, he, List.map_append, List.map_cons]
    have hll : (l1.map (fun p => (str p.1, p.2))).length = l1.length := List.length_map ..
    rw [List.take_left' hll, List.map_append, show List.drop (l1.length + 1) (l1.map (fun p => (str p.1, p.2)) ++ (str k, u) :: l2.map (fun p => (str p.1, p.2))) = l2.map (fun p => (str p.1, p.2)) from by rw [← hll, List.drop_append]; simp]
theorem len_run (ht : P.underlying t = some (.map kt et)) {ty : TypeId} (hb : w.heap[b]? = some o) (ho : MapS o l) : (Builtin.len_ #[t] ty #[.map (some b)]).run P w = .ok (.int .i64 (l.length : Int)) w := by
  obtain ⟨es, clock, rfl, hs, he⟩ := ho
  have hl : es.size = l.length := by
    have := congrArg List.length he
    simpa using this
  simp [Builtin.len_, run_underlying ht, MapKept.run_getObj_map hb, Result.andThen, goInt, hl]
end
def ItS (oi o : Obj) (b : Nat) (rest : ML) : Prop := ∃ es clock since seen c0, o = .map es clock ∧ Stamped es clock ∧ oi = .mapIter (some b) since seen c0 ∧ (∀ x ∈ es.toList, x.born < since) ∧ since ≤ c0 ∧ since ≤ clock ∧ (leftOf es seen).toList.map (fun e => (e.key, e.val)) = rest.map (fun p => (str p.1, p.2))
theorem ItS.start {o : Obj} {b : Nat} {l : ML} (h : MapS o l) : ∃ clock, (∃ es, o = .map es clock) ∧ ItS (.mapIter (some b) clock #[] clock) o b l := by
  obtain ⟨es, clock, rfl, hs, he⟩ := h
  refine ⟨clock, ⟨es, rfl⟩, es, clock, clock, #[], clock, rfl, hs, rfl, hs.1, Nat.le_refl _, Nat.le_refl _, ?_⟩
  have : leftOf es #[] = es := by
    unfold leftOf
    simp
  rw [this]
  exact he
theorem left_mid {es : Array MapEntry} {seen : Array Nat} {l1 l2 : List MapEntry} {e : MapEntry} (hn : (es.toList.map (·.born)).Nodup) (h : (leftOf es seen).toList = l1 ++ e :: l2) : (leftOf es (seen.push e.born)).toList = l1 ++ l2 := by
  have h1 : (leftOf es (seen.push e.born)).toList = (leftOf es seen).toList.filter (fun x => decide (x.born ≠ e.born)) := by
    unfold leftOf
    rw [Array.toList_filter, Array.toList_filter, List.filter_filter]
    refine List.filter_congr fun x _ => ?_
    rw [contains_push]
    by_cases hx : x.born = e.born <;> cases seen.contains x.born <;> simp [hx]
  have h2 : ((leftOf es seen).toList.map (·.born)).Nodup := by
    unfold leftOf
    rw [Array.toList_filter]
    exact (List.filter_sublist.map _).nodup hn
  rw [h1, h]
  rw [h, List.map_append, List.map_cons] at h2
  have h3 := List.nodup_append.1 h2
  have hne1 : ∀ x ∈ l1, x.born ≠ e.born := fun x hx he => h3.2.2 _ (List.mem_map.2 ⟨x, hx, rfl⟩) _ (List.mem_cons_self ..) he
  have hne2 : ∀ x ∈ l2, x.born ≠ e.born := fun x hx he => (List.nodup_cons.1 h3.2.1).1 (by rw [← he]; exact List.mem_map.2 ⟨x, hx, rfl⟩)
  rw [List.filter_append, List.filter_cons_of_neg (by simp), List.filter_eq_self.2 (fun x hx => decide_eq_true (hne1 x hx)), List.filter_eq_self.2 (fun x hx => decide_eq_true (hne2 x hx))]
def EntS (it b : Nat) (oi o : Obj) (k : Txt) (v : Value) : Prop := ∀ (P : Program) (w : World), w.heap[it]? = some oi → w.heap[b]? = some o → (Instr.entry (.pointer (some ⟨it, 0, none⟩))).run P w = .ok (.tuple #[str k, v]) w
section
variable {P : Program} {t kt et : TypeId} {w : World} {b it : Nat} {o oi : Obj} {l rest : ML}
theorem next_run {ty : TypeId} (hi : w.heap[it]? = some oi) (hb : w.heap[b]? = some o) (h : ItS oi o b rest) :
    (rest = [] ∧ (Instr.next (.pointer (some ⟨it, 0, none⟩)) false ty).run P w = .ok (.tuple #[.bool false]) w) ∨
    ∃ r1 k v r2 oi' w1, rest = r1 ++ (k, v) :: r2 ∧ ItS oi' o b (r1 ++ r2) ∧ (w1 = w ∨ w1 = w.drew) ∧ (Instr.next (.pointer (some ⟨it, 0, none⟩)) false ty).run P w = .ok (.tuple #[.bool true, str k, v]) { w1 with heap := w1.heap.setIfInBounds it oi' } ∧
      EntS it b oi' o k v := by
  obtain ⟨es, clock, since, seen, c0, rfl, hs, rfl, hold, hsc, hsk, hl⟩ := h
  rcases run_next_at (P := P) w ty it b since c0 seen es clock hi hb hold hsc with ⟨h0, hrun⟩ | ⟨e, he, w1, hal, hrun⟩
  · refine .inl ⟨?_, hrun⟩
    have : (leftOf es seen).toList = [] := List.eq_nil_of_length_eq_zero (by simpa using h0)
    rw [this] at hl
    cases rest with
    | nil => rfl
    | cons _ _ => simp at hl
  · obtain ⟨l1, l2, hll⟩ := List.append_of_mem he
    have hn := ((stamped_iff es clock).1 hs).2.1
    rw [hll, List.map_append, List.map_cons] at hl
    obtain ⟨r1, r3, rfl, q1, q2⟩ := List.map_eq_append_iff.1 hl.symm
    obtain ⟨⟨k, v⟩, r2, rfl, q3, q4⟩ := List.map_eq_cons_iff.1 q2
    injection q3 with q5 q6
    rw [← q5, ← q6] at hrun
    refine .inr ⟨r1, k, v, r2, .mapIter (some b) since (seen.push e.born) clock, w1, rfl, ⟨es, clock, since, seen.push e.born, clock, rfl, hs, rfl, hold, hsk, hsk, ?_⟩, hal, hrun, fun P2 w2 h2 h3 => ?_⟩
    · rw [left_mid hn hll, List.map_append, List.map_append, q1, q4]
    · have q5' : str k = e.key := q5
      have q6' : v = e.val := q6
      rw [q5', q6']
      exact run_entry_at (P := P2) w2 it b since seen es clock e h2 h3 (mem_left he).1 hn
end
section
variable {P : Program} {r : Option Nat} {n : Nat} {D : List Deferred} {L : Sl} {M : Mem} {H : Hp} {Q : Post} {d : Option Tmp} {ty : TypeId} {pos : String} {af : Array Edge} {g : Option (Nat × Bool)} {ops : Array Oper} {rest : List Oper} {t kt et sz by_ : Nat} {z : Value} {x y m : Operand} {b : Nat} {o : Obj} {l : ML} {k : Txt} {f : Obj → Hp}
theorem Ok.lookupS [ht : Und P t (.map kt et)] [hk : Und P kt .string] [hi : Inf P et sz by_ z] (hm : ev L m = some (.map (some b))) (hx : ev L x = some (str k)) (hb : (b, o) ∈ H) (ho : MapS o l) : Ok P ⟨d, .lookup t m x true, ty, pos, af, g⟩ L M H (.tuple #[(getS l k).getD z, .bool (getS l k).isSome]) := fun _ _ _ _ hf hh => by
  obtain ⟨inf, g1, g2, g3, g4⟩ := hi.h
  simp [execOp, hf.ev hm, hf.ev hx, lookup_run (k := k) ht.h hk.h g1 g4 (hh.own _ hb) ho]
theorem Ok.lookupS1 [ht : Und P t (.map kt et)] [hk : Und P kt .string] [hi : Inf P et sz by_ z] (hm : ev L m = some (.map (some b))) (hx : ev L x = some (str k)) (hb : (b, o) ∈ H) (ho : MapS o l) : Ok P ⟨d, .lookup t m x false, ty, pos, af, g⟩ L M H ((getS l k).getD z) := fun _ _ _ _ hf hh => by
  obtain ⟨inf, g1, g2, g3, g4⟩ := hi.h
  simp [execOp, hf.ev hm, hf.ev hx, lookup_run (k := k) ht.h hk.h g1 g4 (hh.own _ hb) ho]
theorem Ok.lenM [ht : Und P t (.map kt et)] (hm : ev L m = some (.map (some b))) (hb : (b, o) ∈ H) (ho : MapS o l) : Ok P ⟨d, .call ⟨.builtin .len, #[m], #[t]⟩, ty, pos, af, g⟩ L M H (.int .i64 (l.length : Int)) := fun n D a w hf hh =>
  builtin_run (xs := [m]) (vs := [.map (some b)]) hf (.cons hm .nil) (fun _ => rfl) (len_run ht.h (hh.own _ hb) ho)
theorem Ok.entryS {it : Nat} {oi : Obj} {v : Value} (hx : ev L x = some (.pointer (some ⟨it, 0, none⟩))) (hi : (it, oi) ∈ H) (hb : (b, o) ∈ H) (h : EntS it b oi o k v) : Ok P ⟨d, .entry x, ty, pos, af, g⟩ L M H (.tuple #[str k, v]) := fun n D a w hf hh => by
  simp [execOp, hf.ev hx, h P w (hh.own _ hi) (hh.own _ hb)]
theorem R.putS [ht : Und P t (.map kt et)] [hk : Und P kt .string] {v : Value} (hm : ev L m = some (.map (some b))) (hx : ev L x = some (str k)) (hy : ev L y = some v) (hb : At H b o f) (ho : MapS o l) (kk : ∀ o', MapS o' (Go.Sx.putS l k v) → R false P r n ops rest Q D L M (f o')) :
    R false P r n ops (⟨none, .mapUpdate t m x y, ty, pos, af, none⟩ :: rest) Q D L M H := by
  refine R.world rfl (by intro c h; cases h) fun a w hf hh => ?_
  obtain ⟨o', h1, h2⟩ := put_run (v := v) (k := k) ht.h hk.h (hh.own _ hb.mem) ho
  have h3 := MapKept.heap_set (o' := o') (hh.own _ hb.mem)
  exact ⟨undef, { w with heap := w.heap.setIfInBounds b o' }, .inr ⟨by simp [execOp, hf.ev hm, hf.ev hx, hf.ev hy, h2], rfl⟩, fun hf hh => kk o' h1 _ _ hf (hh.put hb h3.1 h3.2 rfl rfl)⟩
theorem R.delS [ht : Und P t (.map kt et)] [hk : Und P kt .string] {t2 : TypeId} (hm : ev L m = some (.map (some b))) (hx : ev L x = some (str k)) (hb : At H b o f) (ho : MapS o l) (hd : dok n d = true) (kk : ∀ o', MapS o' (Go.Sx.delS l k) → R false P r n ops rest Q D (bnd d (.tuple #[]) L) M (f o')) :
    R false P r n ops (⟨d, .call ⟨.builtin .delete, #[m, x], #[t, t2]⟩, ty, pos, af, none⟩ :: rest) Q D L M H := by
  refine R.world rfl (by intro c h; cases h) fun a w hf hh => ?_
  obtain ⟨o', h1, h2⟩ := del_run (k := k) (t2 := t2) (ty := ty) ht.h hk.h (hh.own _ hb.mem) ho
  have h3 := MapKept.heap_set (o' := o') (hh.own _ hb.mem)
  exact ⟨_, _, .inl (builtin_run (xs := [m, x]) (vs := [.map (some b), str k]) hf (.cons hm (.cons hx .nil)) (fun _ => rfl) h2), fun hf hh => kk o' h1 _ _ (hf.put d hd _) (hh.put hb h3.1 h3.2 rfl rfl)⟩
theorem R.makeMap (hd : dok n d = true) (kk : ∀ b, R false P r n ops rest Q D (bnd d (.map (some b)) L) M ((b, .map #[] 0) :: H)) : R false P r n ops (⟨d, .makeMap t none, ty, pos, af, none⟩ :: rest) Q D L M H :=
  R.world rfl (by intro c h; cases h) fun a w hf hh => ⟨.map (some w.heap.size), w.alloc (.map #[] 0), .inl (by simp [execOp, run_makeMap]), fun hf hh => kk _ _ _ (hf.put d hd _) (hh.alloc _)⟩
theorem R.rangeS [ht : Und P t (.map kt et)] (hm : ev L m = some (.map (some b))) (hb : (b, o) ∈ H) (ho : MapS o l) (hd : dok n d = true) (kk : ∀ it oi, ItS oi o b l → R false P r n ops rest Q D (bnd d (.pointer (some ⟨it, 0, none⟩)) L) M ((it, oi) :: H)) :
    R false P r n ops (⟨d, .range t m, ty, pos, af, none⟩ :: rest) Q D L M H := by
  refine R.world rfl (by intro c h; cases h) fun a w hf hh => ?_
  obtain ⟨clock, ⟨es, rfl⟩, h1⟩ := ItS.start (b := b) ho
  have h2 := run_range_map (P := P) w t kt et b es clock ht.h (hh.own _ hb)
  exact ⟨_, _, .inl (by simp [execOp, hf.ev hm, h2]), fun hf hh => kk _ _ h1 _ _ (hf.put d hd _) (hh.alloc _)⟩
theorem R.nextS {it : Nat} {oi : Obj} {rs : ML} (hx : ev L x = some (.pointer (some ⟨it, 0, none⟩))) (hi : At H it oi f) (hb : (b, o) ∈ H) (h : ItS oi o b rs) (hd : dok n d = true)
    (k0 : rs = [] → R false P r n ops rest Q D (bnd d (.tuple #[.bool false]) L) M H)
    (k1 : ∀ r1 k v r2 oi', rs = r1 ++ (k, v) :: r2 → ItS oi' o b (r1 ++ r2) → EntS it b oi' o k v → R false P r n ops rest Q D (bnd d (.tuple #[.bool true, str k, v]) L) M (f oi')) :
    R false P r n ops (⟨d, .next x false, ty, pos, af, none⟩ :: rest) Q D L M H := by
  refine R.world rfl (by intro c h; cases h) fun a w hf hh => ?_
  rcases next_run (P := P) (ty := ty) (hh.own _ hi.mem) (hh.own _ hb) h with ⟨h1, h2⟩ | ⟨r1, k, v, r2, oi', w1, h1, h2, h3, h4, h6⟩
  · exact ⟨_, _, .inl (by simp [execOp, hf.ev hx, h2]), fun hf hh => k0 h1 _ _ (hf.put d hd _) hh⟩
  · refine ⟨_, { w1 with heap := w1.heap.setIfInBounds it oi' }, .inl (by simp [execOp, hf.ev hx, h4]), fun hf hh => k1 r1 k v r2 oi' h1 h2 h6 _ _ (hf.put d hd _) ?_⟩
    have hh1 : Heap w1 M H := by rcases h3 with rfl | rfl; exact hh; exact hh.drew
    have h5 := MapKept.heap_set (o' := oi') (hh1.own _ hi.mem)
    exact hh1.put hi h5.1 h5.2 rfl rfl
end
end Go.Sx
end
section
namespace Go.Sx
open Go.RowKit
section
variable {P : Program} {L : Sl} {M : Mem} {H : Hp} {d : Option Tmp} {ty : TypeId} {pos : String} {af : Array Edge} {g : Option (Nat × Bool)} {t t' : TypeId} {x y : Operand} {a b : Txt} {k : IntKind} {i : Int}
theorem str_size (a : Txt) : (⟨a.toArray⟩ : ByteArray).size = a.length := List.size_toArray ..
theorem Ok.lenT [hs : Und P t .string] (hx : ev L x = some (str a)) : Ok P ⟨d, .call ⟨.builtin .len, #[x], #[t]⟩, ty, pos, af, g⟩ L M H (.int .i64 (a.length : Int)) := by
  have h := Ok.lenS (P := P) (d := d) (ty := ty) (pos := pos) (af := af) (g := g) (M := M) (H := H) (t := t) (s := ⟨a.toArray⟩) hx
  rwa [str_size] at h
theorem Ok.eqT (hx : ev L x = some (str a)) (hy : ev L y = some (str b)) : Ok P ⟨d, .binOp .eql t x y t', ty, pos, af, g⟩ L M H (.bool (decide (a = b))) := Ok.eqStr hx hy
theorem Ok.neT (hx : ev L x = some (str a)) (hy : ev L y = some (str b)) : Ok P ⟨d, .binOp .neq t x y t', ty, pos, af, g⟩ L M H (.bool (!decide (a = b))) := Ok.neStr hx hy
theorem Ok.ltT (hx : ev L x = some (str a)) (hy : ev L y = some (str b)) : Ok P ⟨d, .binOp .lss t x y t', ty, pos, af, g⟩ L M H (.bool (Op.bytesLess a b)) :=
  Ok.bin hx hy (fun w => by simp [eqGuard, str]) fun w => by
    simp [binOp, str, Op.stringOp]
theorem Ok.ltTr {p q : Int} (hx : ev L x = some (.int k p)) (hy : ev L y = some (.int k q)) (h : p < q) : Ok P ⟨d, .binOp .lss t x y t', ty, pos, af, g⟩ L M H (.bool true) := by
  have h1 := Ok.lt (P := P) (d := d) (t := t) (t' := t') (ty := ty) (pos := pos) (af := af) (g := g) (M := M) (H := H) hx hy
  rwa [decide_eq_true h] at h1
theorem Ok.gtTr {p q : Int} (hx : ev L x = some (.int k p)) (hy : ev L y = some (.int k q)) (h : q < p) : Ok P ⟨d, .binOp .gtr t x y t', ty, pos, af, g⟩ L M H (.bool true) := by
  have h1 := Ok.gt (P := P) (d := d) (t := t) (t' := t') (ty := ty) (pos := pos) (af := af) (g := g) (M := M) (H := H) hx hy
  rwa [decide_eq_true h] at h1
theorem Ok.ltF {p q : Int} (hx : ev L x = some (.int k p)) (hy : ev L y = some (.int k q)) (h : ¬ p < q) : Ok P ⟨d, .binOp .lss t x y t', ty, pos, af, g⟩ L M H (.bool false) := by
  have h1 := Ok.lt (P := P) (d := d) (t := t) (t' := t') (ty := ty) (pos := pos) (af := af) (g := g) (M := M) (H := H) hx hy
  rwa [decide_eq_false h] at h1
theorem Ok.gtF {p q : Int} (hx : ev L x = some (.int k p)) (hy : ev L y = some (.int k q)) (h : ¬ q < p) : Ok P ⟨d, .binOp .gtr t x y t', ty, pos, af, g⟩ L M H (.bool false) := by
  have h1 := Ok.gt (P := P) (d := d) (t := t) (t' := t') (ty := ty) (pos := pos) (af := af) (g := g) (M := M) (H := H) hx hy
  rwa [decide_eq_false h] at h1
theorem Ok.leTr {p q : Int} (hx : ev L x = some (.int k p)) (hy : ev L y = some (.int k q)) (h : p ≤ q) : Ok P ⟨d, .binOp .leq t x y t', ty, pos, af, g⟩ L M H (.bool true) := by
  have h1 := Ok.le (P := P) (d := d) (t := t) (t' := t') (ty := ty) (pos := pos) (af := af) (g := g) (M := M) (H := H) hx hy
  rwa [decide_eq_true h] at h1
theorem Ok.leF {p q : Int} (hx : ev L x = some (.int k p)) (hy : ev L y = some (.int k q)) (h : ¬ p ≤ q) : Ok P ⟨d, .binOp .leq t x y t', ty, pos, af, g⟩ L M H (.bool false) := by
  have h1 := Ok.le (P := P) (d := d) (t := t) (t' := t') (ty := ty) (pos := pos) (af := af) (g := g) (M := M) (H := H) hx hy
  rwa [decide_eq_false h] at h1
theorem Ok.geTr {p q : Int} (hx : ev L x = some (.int k p)) (hy : ev L y = some (.int k q)) (h : q ≤ p) : Ok P ⟨d, .binOp .geq t x y t', ty, pos, af, g⟩ L M H (.bool true) := by
  have h1 := Ok.ge (P := P) (d := d) (t := t) (t' := t') (ty := ty) (pos := pos) (af := af) (g := g) (M := M) (H := H) hx hy
  rwa [decide_eq_true h] at h1
theorem Ok.geF {p q : Int} (hx : ev L x = some (.int k p)) (hy : ev L y = some (.int k q)) (h : ¬ q ≤ p) : Ok P ⟨d, .binOp .geq t x y t', ty, pos, af, g⟩ L M H (.bool false) := by
  have h1 := Ok.ge (P := P) (d := d) (t := t) (t' := t') (ty := ty) (pos := pos) (af := af) (g := g) (M := M) (H := H) hx hy
  rwa [decide_eq_false h] at h1
theorem Ok.eqIF {p q : Int} (hx : ev L x = some (.int k p)) (hy : ev L y = some (.int k q)) (h : p ≠ q) : Ok P ⟨d, .binOp .eql t x y t', ty, pos, af, g⟩ L M H (.bool false) := by
  have h1 := Ok.eqI (P := P) (d := d) (t := t) (t' := t') (ty := ty) (pos := pos) (af := af) (g := g) (M := M) (H := H) hx hy
  rwa [beq_false_of_ne h] at h1
theorem Ok.neIT {p q : Int} (hx : ev L x = some (.int k p)) (hy : ev L y = some (.int k q)) (h : p ≠ q) : Ok P ⟨d, .binOp .neq t x y t', ty, pos, af, g⟩ L M H (.bool true) := by
  have h1 := Ok.neI (P := P) (d := d) (t := t) (t' := t') (ty := ty) (pos := pos) (af := af) (g := g) (M := M) (H := H) hx hy
  rwa [show (p != q) = true by simpa using h] at h1
theorem Ok.toT {s t e : TypeId} {x : Operand} {A : Option Addr} {c : Nat} {bs : List UInt8} [hs : Und P s (.slice e)] [he : Und P e (.int .u8)] [ht : Und P t .string] (hx : ev L x = some (.slice A bs.length c)) (hrd : Rd M H A (bs.map bv)) :
    Ok P ⟨d, .convert s t x, ty, pos, af, g⟩ L M H (str bs) := Ok.toStr hx hrd
end
end Go.Sx
end
section
namespace Go.Sx
open Go.RowKit
section
variable {P : Program} {L : Sl} {M : Mem} {H : Hp} {d : Option Tmp} {ty : TypeId} {pos : String} {af : Array Edge} {g : Option (Nat × Bool)} {t t' : TypeId} {x y : Operand} {p q : Nat} {a b : UInt8}
theorem Ok.shrUN {k' : IntKind} (s c : Nat) (hx : ev L x = some (.int .u64 (p : Int))) (hy : ev L y = some (.int k' (s : Int))) (hs : s ≤ 64) (hc : 2 ^ s = c) : Ok P ⟨d, .binOp .shr t x y t', ty, pos, af, g⟩ L M H (.int .u64 ((p / c : Nat) : Int)) := by
  have h := Ok.shr (P := P) (d := d) (t := t) (t' := t') (ty := ty) (pos := pos) (af := af) (g := g) (M := M) (H := H) hx hy (by omega)
  have e : (p : Int).fdiv (2 ^ (min (s : Int).toNat IntKind.u64.bits)) = ((p / c : Nat) : Int) := by
    rw [show min (s : Int).toNat IntKind.u64.bits = s by show min (s : Int).toNat 64 = s; omega]
    rw [Int.fdiv_eq_ediv_of_nonneg _ (by exact_mod_cast Nat.zero_le (2 ^ s)), ← hc]
    exact_mod_cast rfl
  rw [e] at h
  exact h
theorem Ok.shlUN {k' : IntKind} {s : Int} (n c : Nat) (hx : ev L x = some (.int .u64 (p : Int))) (hy : ev L y = some (.int k' s)) (hsn : s = (n : Int)) (hs : n ≤ 64) (hc : 2 ^ n = c) (hb : p * c ≤ 18446744073709551615) : Ok P ⟨d, .binOp .shl t x y t', ty, pos, af, g⟩ L M H (.int .u64 ((p * c : Nat) : Int)) := by
  subst hsn
  have h := Ok.shl (P := P) (d := d) (t := t) (t' := t') (ty := ty) (pos := pos) (af := af) (g := g) (M := M) (H := H) hx hy (by omega)
  have e : (p : Int) * 2 ^ (min (n : Int).toNat IntKind.u64.bits) = ((p * c : Nat) : Int) := by
    rw [show min (n : Int).toNat IntKind.u64.bits = n by show min (n : Int).toNat 64 = n; omega]
    rw [← hc]
    exact_mod_cast rfl
  rw [e, wu64 (by omega) (by omega)] at h
  exact h
theorem Ok.orUN (hx : ev L x = some (.int .u64 (p : Int))) (hy : ev L y = some (.int .u64 (q : Int))) (hp : p ≤ 18446744073709551615) (hq : q ≤ 18446744073709551615) : Ok P ⟨d, .binOp .or t x y t', ty, pos, af, g⟩ L M H (.int .u64 ((p ||| q : Nat) : Int)) := by
  have h := Ok.or (P := P) (d := d) (t := t) (t' := t') (ty := ty) (pos := pos) (af := af) (g := g) (M := M) (H := H) hx hy
  have hlt : (p ||| q) < 2 ^ 64 := Nat.or_lt_two_pow (by omega) (by omega)
  have e : IntKind.u64.wrap (BitVec.ofInt IntKind.u64.bits (p : Int) ||| BitVec.ofInt IntKind.u64.bits (q : Int)).toNat = ((p ||| q : Nat) : Int) := by
    show IntKind.u64.wrap (BitVec.ofInt 64 (p : Int) ||| BitVec.ofInt 64 (q : Int)).toNat = _
    rw [BitVec.ofInt_natCast, BitVec.ofInt_natCast, BitVec.toNat_or, BitVec.toNat_ofNat, BitVec.toNat_ofNat, Nat.mod_eq_of_lt (by omega), Nat.mod_eq_of_lt (by omega), wu64 (by omega) (by omega)]
  rwa [e] at h
theorem Ok.orUN_add (n : Nat) (r : Nat) (hx : ev L x = some (.int .u64 (p : Int))) (hy : ev L y = some (.int .u64 (q : Int))) (hp : p < 2 ^ n) (hq : q = r * 2 ^ n) (hs : p + q ≤ 18446744073709551615) : Ok P ⟨d, .binOp .or t x y t', ty, pos, af, g⟩ L M H (.int .u64 ((p + q : Nat) : Int)) := by
  have h := Ok.orUN (P := P) (d := d) (t := t) (t' := t') (ty := ty) (pos := pos) (af := af) (g := g) (M := M) (H := H) hx hy (by omega) (by omega)
  have e : p ||| q = p + q := by
    rw [hq, Nat.or_comm, Nat.mul_comm, ← Nat.two_pow_add_eq_or_of_lt hp]
    omega
  rwa [e] at h
theorem wu8 (a : UInt8) : IntKind.u8.wrap (a.toNat : Int) = (a.toNat : Int) := by
  have := a.toNat_lt
  show (a.toNat : Int) % 2 ^ 8 = _
  omega
theorem bits8 (a : UInt8) : BitVec.ofInt IntKind.u8.bits (a.toNat : Int) = a.toBitVec := by
  show BitVec.ofInt 8 (a.toNat : Int) = _
  rw [BitVec.ofInt_natCast]
  apply BitVec.eq_of_toNat_eq
  rw [BitVec.toNat_ofNat]
  exact Nat.mod_eq_of_lt a.toNat_lt
theorem Ok.orBB (hx : ev L x = some (bv a)) (hy : ev L y = some (bv b)) : Ok P ⟨d, .binOp .or t x y t', ty, pos, af, g⟩ L M H (bv (a ||| b)) := by
  have h := Ok.or (P := P) (d := d) (t := t) (t' := t') (ty := ty) (pos := pos) (af := af) (g := g) (M := M) (H := H) hx hy
  rw [bits8, bits8] at h
  have e : IntKind.u8.wrap ((a.toBitVec ||| b.toBitVec : BitVec 8).toNat : Int) = ((a ||| b).toNat : Int) := wu8 (a ||| b)
  change Ok P _ L M H (Value.int .u8 (IntKind.u8.wrap ((a.toBitVec ||| b.toBitVec : BitVec 8).toNat : Int))) at h
  rw [e] at h
  exact h
theorem Ok.andBB (hx : ev L x = some (bv a)) (hy : ev L y = some (bv b)) : Ok P ⟨d, .binOp .and t x y t', ty, pos, af, g⟩ L M H (bv (a &&& b)) := by
  have h := Ok.and (P := P) (d := d) (t := t) (t' := t') (ty := ty) (pos := pos) (af := af) (g := g) (M := M) (H := H) hx hy
  rw [bits8, bits8] at h
  have e : IntKind.u8.wrap ((a.toBitVec &&& b.toBitVec : BitVec 8).toNat : Int) = ((a &&& b).toNat : Int) := wu8 (a &&& b)
  change Ok P _ L M H (Value.int .u8 (IntKind.u8.wrap ((a.toBitVec &&& b.toBitVec : BitVec 8).toNat : Int))) at h
  rw [e] at h
  exact h
theorem Ok.convBU {s : TypeId} {ds : TypeDesc} [hs : Und P s ds] [ht : Und P t (.int .u64)] (hx : ev L x = some (bv a)) : Ok P ⟨d, .convert s t x, ty, pos, af, g⟩ L M H (.int .u64 (a.toNat : Int)) := by
  have := a.toNat_lt
  exact Ok.convB hx (wu64 (by omega) (by omega))
theorem Ok.convBI {s : TypeId} {ds : TypeDesc} [hs : Und P s ds] [ht : Und P t (.int .i64)] (hx : ev L x = some (bv a)) : Ok P ⟨d, .convert s t x, ty, pos, af, g⟩ L M H (.int .i64 (a.toNat : Int)) := by
  have := a.toNat_lt
  exact Ok.convB hx (w64 (by omega) (by omega))
theorem or128 : ∀ n, n < 256 → n ||| 128 = n % 128 + 128 := by decide +kernel
theorem and127 : ∀ n, n < 256 → n &&& 127 = n % 128 := by decide +kernel
theorem or128_toNat (a : UInt8) : (a ||| 128).toNat = a.toNat % 128 + 128 := by
  rw [UInt8.toNat_or]
  exact or128 _ a.toNat_lt
theorem and127_toNat (a : UInt8) : (a &&& 127).toNat = a.toNat % 128 := by
  rw [UInt8.toNat_and]
  exact and127 _ a.toNat_lt
end
end Go.Sx
end
section
namespace Go.Sx
open Go Go.Proofs Go.RowKit
attribute [local irreducible] C R Fin K Own OwnT Rd Pl Ok KOf RetOk OpsOf RP KP Res NoPanic KV KE
variable {M M' : Mem} {H H1 H2 : Hp}
def numS (n : Nat) : Txt := if n < 128 then [UInt8.ofNat n] else (UInt8.ofNat n ||| 128) :: numS (n / 128)
termination_by n
decreasing_by omega
theorem numS_lo {n : Nat} (h : n < 128) : numS n = [UInt8.ofNat n] := by rw [numS, if_pos h]
theorem numS_hi {n : Nat} (h : ¬ n < 128) : numS n = (UInt8.ofNat n ||| 128) :: numS (n / 128) := by rw [numS, if_neg h]
theorem numS_len : ∀ (k n : Nat), n < 128 ^ (k + 1) → 1 ≤ (numS n).length ∧ (numS n).length ≤ k + 1
  | 0, n, h => by
    rw [numS_lo (by omega)]
    exact ⟨Nat.le_refl _, Nat.le_refl _⟩
  | k + 1, n, h => by
    by_cases hn : n < 128
    · rw [numS_lo hn]
      exact ⟨Nat.le_refl _, by rw [List.length_singleton]; omega⟩
    · rw [numS_hi hn, List.length_cons]
      have h1 : n / 128 < 128 ^ (k + 1) := by
        rw [Nat.div_lt_iff_lt_mul (by decide)]
        rw [Nat.pow_succ] at h
        exact h
      have h2 := numS_len k (n / 128) h1
      omega
theorem numS_len10 {n : Nat} (h : n ≤ 18446744073709551615) : 1 ≤ (numS n).length ∧ (numS n).length ≤ 10 := numS_len 9 n (by omega)
def wrB (v : Value) : Obj := .cells [v].toArray 108 (0, 0)
theorem newWriter_K : K Try.prog 29 [] M H fun v' M' H' => ∃ wb, v' = .pointer (some ⟨wb, 0, none⟩) ∧ M' = M ∧ H' = (wb, wrB (.slice none 0 0)) :: H := by
  refine K.enterK Try.func29 rfl rfl rfl ?_
  intro Q hNP hQ
  (repeat' (first | refine a_go ?_ | (with_reducible apply Fin.thenK; assumption) | (with_reducible (first | apply C.seqK | apply C.regionK); intro _ _) | (apply R.buildSlice0; exact rfl; intro bz) | (apply R.box; exact rfl; (simp only [Value.cells]; rfl); exact rfl; intro bx) | (apply R.alloc; (simp only [Value.cells]; rfl); exact rfl; intro ba) | (apply R.buildSlice; (exact a_prt); exact rfl; exact rfl; (exact a_fills); exact rfl; intro bl) | (refine a_sp ?_ ?_; (intro h; skip; rotate_left; intro h; skip; rotate_left)) | fail))
  (refine Fin.rt ?_)
  exact ⟨_, rfl, rfl, rfl⟩
theorem wbyte_K {wb : Nat} {v : Value} {bs : Txt} {b : UInt8} {hr : Hp} (ho : Own 5 1 v bs.length (bs.map bv) hr) (hl : bs.length ≤ 1099511627776) : K Try.prog 31 [.pointer (some ⟨wb, 0, none⟩), bv b] M ((wb, wrB v) :: (hr ++ H)) fun v' M' H' => v' = .tuple #[] ∧ M' = M ∧ ∃ v2 hr2, Own 5 1 v2 (bs ++ [b]).length ((bs ++ [b]).map bv) hr2 ∧ H' = (wb, wrB v2) :: (hr2 ++ H) := by
  refine K.enterK Try.func31 rfl rfl rfl ?_
  intro Q hNP hQ
  obtain ⟨A, c, rfl, _, _⟩ := ho.form
  unfold wrB at hQ ⊢
  (repeat' (first | refine a_go ?_ | (with_reducible apply Fin.thenK; assumption) | (with_reducible (first | apply C.seqK | apply C.regionK); intro _ _) | (apply R.buildSlice0; exact rfl; intro bz) | (apply R.box; exact rfl; (simp only [Value.cells]; rfl); exact rfl; intro bx) | (apply R.alloc; (simp only [Value.cells]; rfl); exact rfl; intro ba) | (apply R.buildSlice; (exact a_prt); exact rfl; exact rfl; (exact a_fills); exact rfl; intro bl) | (refine a_sp ?_ ?_; (intro h; skip; rotate_left; intro h; skip; rotate_left)) | fail))
  (apply R.append (news := [bv b]); exact rfl; exact rfl; exact ho; (exact a_tk); exact Rd.at_ (l := [bv b]) (by (exact a_at)) (fun j u h => by rw [Nat.zero_add]; exact h); exact rfl; (intro u hu; rw [List.mem_singleton] at hu; rw [hu]; rfl); omega; exact rfl; decide; decide; exact rfl; rintro v4 hp4 hown4)
  obtain ⟨A4, c4, rfl, _, _⟩ := hown4.form
  (repeat' (first | refine a_go ?_ | (with_reducible apply Fin.thenK; assumption) | (with_reducible (first | apply C.seqK | apply C.regionK); intro _ _) | (apply R.buildSlice0; exact rfl; intro bz) | (apply R.box; exact rfl; (simp only [Value.cells]; rfl); exact rfl; intro bx) | (apply R.alloc; (simp only [Value.cells]; rfl); exact rfl; intro ba) | (apply R.buildSlice; (exact a_prt); exact rfl; exact rfl; (exact a_fills); exact rfl; intro bl) | (refine a_sp ?_ ?_; (intro h; skip; rotate_left; intro h; skip; rotate_left)) | fail))
  (apply Fin.returnA (H2 := (wb, .cells [.slice A4 (bs.length + 1) c4].toArray 108 (0, 0)) :: (hp4 ++ H)); assumption; (first | exact .inl rfl | exact .inr rfl); exact rfl; (exact a_res); (simp only [retv]; rfl); (exact a_arr))
  refine ⟨rfl, rfl, _, hp4, ?_, rfl⟩
  rw [List.length_append, List.map_append]
  exact hown4
structure WnX where
  n : Nat
  v : Value
  bs : Txt
  hr : Hp
theorem wnum_K {wb : Nat} {v : Value} {bs : Txt} {n : Nat} {hr : Hp} (ho : Own 5 1 v bs.length (bs.map bv) hr) (hl : bs.length ≤ 1099511627776) (hn : n ≤ 18446744073709551615) : K Try.prog 30 [.pointer (some ⟨wb, 0, none⟩), .int .u64 (n : Int)] M ((wb, wrB v) :: (hr ++ H)) fun v' M' H' => v' = .tuple #[] ∧ M' = M ∧ ∃ v2 hr2, Own 5 1 v2 (bs ++ numS n).length ((bs ++ numS n).map bv) hr2 ∧ H' = (wb, wrB v2) :: (hr2 ++ H) := by
  refine K.enterK Try.func30 rfl rfl rfl ?_
  intro Q hNP hQ
  unfold wrB at hQ ⊢
  have hl10 := (numS_len10 hn).2
  (repeat' (first | refine a_go ?_ | (with_reducible apply Fin.thenK; assumption) | (with_reducible (first | apply C.seqK | apply C.regionK); intro _ _) | (apply R.buildSlice0; exact rfl; intro bz) | (apply R.box; exact rfl; (simp only [Value.cells]; rfl); exact rfl; intro bx) | (apply R.alloc; (simp only [Value.cells]; rfl); exact rfl; intro ba) | (apply R.buildSlice; (exact a_prt); exact rfl; exact rfl; (exact a_fills); exact rfl; intro bl) | (refine a_sp ?_ ?_; (intro h; skip; rotate_left; intro h; skip; rotate_left)) | fail))
  apply C.loop (fun y : WnX => y.n ≤ 18446744073709551615 ∧ y.bs ++ numS y.n = bs ++ numS n ∧ Own 5 1 y.v y.bs.length (y.bs.map bv) y.hr)
    (fun y => [(0, .pointer (some ⟨wb, 0, none⟩)), (1, .int .u64 (y.n : Int))]) (fun _ => M) (fun y => (wb, .cells [y.v].toArray 108 (0, 0)) :: (y.hr ++ H)) (fun y => y.n) ⟨n, v, bs, hr⟩
  · exact ⟨hn, rfl, ho⟩
  · (exact a_subs)
  · exact rfl
  · exact rfl
  rintro ⟨n2, v2, bs2, hr2⟩ ⟨h1, h2, h3⟩
  dsimp only at h1 h2 h3 ⊢
  obtain ⟨A2, c2, rfl, _, _⟩ := h3.form
  have hl2 : bs2.length ≤ bs.length + 10 := by
    have := congrArg List.length h2
    rw [List.length_append, List.length_append] at this
    omega
  (repeat' (first | (apply R.step; (apply Ok.move; exact rfl); exact rfl) | (apply R.step; (first | (apply Ok.convLI; exact rfl) | (apply Ok.orBB (b := 128); exact rfl; exact rfl) | (apply Ok.shrUN 7 128; exact rfl; exact rfl; decide; decide)); exact rfl) | refine a_go ?_ | (with_reducible apply Fin.thenK; assumption) | (with_reducible (first | apply C.seqK | apply C.regionK); intro _ _) | (apply R.buildSlice0; exact rfl; intro bz) | (apply R.box; exact rfl; (simp only [Value.cells]; rfl); exact rfl; intro bx) | (apply R.alloc; (simp only [Value.cells]; rfl); exact rfl; intro ba) | (apply R.buildSlice; (exact a_prt); exact rfl; exact rfl; (exact a_fills); exact rfl; intro bl) | (refine a_sp ?_ ?_; (intro h; skip; rotate_left; intro h; skip; rotate_left)) | fail))
  · have hge : ¬ n2 < 128 := by
      have h : (128 : Int) ≤ (n2 : Int) := by assumption
      omega
    (apply R.append (news := [bv (UInt8.ofNat n2 ||| 128)]); exact rfl; exact rfl; exact h3; (exact a_tk); exact Rd.at_ (l := [bv (UInt8.ofNat n2 ||| 128)]) (by (exact a_at)) (fun j u h => by rw [Nat.zero_add]; exact h); exact rfl; (intro u hu; rw [List.mem_singleton] at hu; rw [hu]; rfl); omega; exact rfl; decide; decide; exact rfl; rintro v4 hp4 hown4)
    obtain ⟨A4, c4, rfl, _, _⟩ := hown4.form
    (repeat' (first | (apply R.step; (apply Ok.move; exact rfl); exact rfl) | (apply R.step; (apply Ok.shrUN 7 128; exact rfl; exact rfl; decide; decide); exact rfl) | refine a_go ?_ | (with_reducible apply Fin.thenK; assumption) | (with_reducible (first | apply C.seqK | apply C.regionK); intro _ _) | (apply R.buildSlice0; exact rfl; intro bz) | (apply R.box; exact rfl; (simp only [Value.cells]; rfl); exact rfl; intro bx) | (apply R.alloc; (simp only [Value.cells]; rfl); exact rfl; intro ba) | (apply R.buildSlice; (exact a_prt); exact rfl; exact rfl; (exact a_fills); exact rfl; intro bl) | (refine a_sp ?_ ?_; (intro h; skip; rotate_left; intro h; skip; rotate_left)) | fail))
    apply Fin.arr (H2 := (wb, .cells [.slice A4 (bs2.length + 1) c4].toArray 108 (0, 0)) :: (hp4 ++ H)) (by ((try simp only [List.append_assoc, List.cons_append, List.nil_append, List.append_nil]); exact a_arr))
    refine Fin.again (⟨n2 / 128, .slice A4 (bs2.length + 1) c4, bs2 ++ [UInt8.ofNat n2 ||| 128], hp4⟩ : WnX) ⟨by dsimp only; omega, ?_, ?_⟩ (by dsimp only; omega) ?_ rfl rfl
    · dsimp only
      rw [← h2, numS_hi hge, List.append_assoc]
      rfl
    · dsimp only
      rw [List.length_append, List.map_append]
      exact hown4
    · (exact a_subs)
  · have hlo : n2 < 128 := by
      have h : ¬ (128 : Int) ≤ (n2 : Int) := by assumption
      omega
    (apply R.append (news := [bv (UInt8.ofNat n2)]); exact rfl; exact rfl; exact h3; (exact a_tk); exact Rd.at_ (l := [bv (UInt8.ofNat n2)]) (by (exact a_at)) (fun j u h => by rw [Nat.zero_add]; exact h); exact rfl; (intro u hu; rw [List.mem_singleton] at hu; rw [hu]; rfl); omega; exact rfl; decide; decide; exact rfl; rintro v4 hp4 hown4)
    obtain ⟨A4, c4, rfl, _, _⟩ := hown4.form
    (repeat' (first | refine a_go ?_ | (with_reducible apply Fin.thenK; assumption) | (with_reducible (first | apply C.seqK | apply C.regionK); intro _ _) | (apply R.buildSlice0; exact rfl; intro bz) | (apply R.box; exact rfl; (simp only [Value.cells]; rfl); exact rfl; intro bx) | (apply R.alloc; (simp only [Value.cells]; rfl); exact rfl; intro ba) | (apply R.buildSlice; (exact a_prt); exact rfl; exact rfl; (exact a_fills); exact rfl; intro bl) | (refine a_sp ?_ ?_; (intro h; skip; rotate_left; intro h; skip; rotate_left)) | fail))
    (apply Fin.returnA (H2 := (wb, .cells [.slice A4 (bs2.length + 1) c4].toArray 108 (0, 0)) :: (hp4 ++ H)); assumption; (first | exact .inl rfl | exact .inr rfl); exact rfl; (exact a_res); (simp only [retv]; rfl); (exact a_arr))
    refine ⟨rfl, rfl, _, hp4, ?_, rfl⟩
    rw [← h2, numS_lo hlo, List.length_append, List.map_append]
    exact hown4
theorem wbytes_K {wb : Nat} {v : Value} {bs : Txt} {hr : Hp} (ho : Own 5 1 v bs.length (bs.map bv) hr) (hl : bs.length ≤ 1099511627776) : K Try.prog 35 [.pointer (some ⟨wb, 0, none⟩)] M ((wb, wrB v) :: (hr ++ H)) fun v' M' H' => M' = M ∧ ∃ hr2, Own 5 1 v' bs.length (bs.map bv) hr2 ∧ H' = hr2 ++ ((wb, wrB v) :: (hr ++ H)) := by
  refine K.enterK Try.func35 rfl rfl rfl ?_
  intro Q hNP hQ
  obtain ⟨A, c, rfl, _, _⟩ := ho.form
  unfold wrB at hQ ⊢
  (repeat' (first | refine a_go ?_ | (with_reducible apply Fin.thenK; assumption) | (with_reducible (first | apply C.seqK | apply C.regionK); intro _ _) | (apply R.buildSlice0; exact rfl; intro bz) | (apply R.box; exact rfl; (simp only [Value.cells]; rfl); exact rfl; intro bx) | (apply R.alloc; (simp only [Value.cells]; rfl); exact rfl; intro ba) | (apply R.buildSlice; (exact a_prt); exact rfl; exact rfl; (exact a_fills); exact rfl; intro bl) | (refine a_sp ?_ ?_; (intro h; skip; rotate_left; intro h; skip; rotate_left)) | fail))
  (apply R.append (news := bs.map bv); exact rfl; exact rfl; exact Own.empty; (exact a_tk); exact Own.rd ho (by (exact a_tk)); (rw [List.length_map, Nat.mul_one]); exact bv_one _; omega; exact rfl; decide; decide; exact rfl; rintro v4 hp4 hown4)
  rw [List.nil_append, Nat.zero_add] at hown4
  (repeat' (first | refine a_go ?_ | (with_reducible apply Fin.thenK; assumption) | (with_reducible (first | apply C.seqK | apply C.regionK); intro _ _) | (apply R.buildSlice0; exact rfl; intro bz) | (apply R.box; exact rfl; (simp only [Value.cells]; rfl); exact rfl; intro bx) | (apply R.alloc; (simp only [Value.cells]; rfl); exact rfl; intro ba) | (apply R.buildSlice; (exact a_prt); exact rfl; exact rfl; (exact a_fills); exact rfl; intro bl) | (refine a_sp ?_ ?_; (intro h; skip; rotate_left; intro h; skip; rotate_left)) | fail))
  (apply Fin.returnA (H2 := hp4 ++ ((wb, .cells [.slice A bs.length c].toArray 108 (0, 0)) :: (hr ++ H))); assumption; (first | exact .inl rfl | exact .inr rfl); exact rfl; (exact a_res); (simp only [retv]; rfl); (exact a_arr))
  exact ⟨rfl, hp4, hown4, rfl⟩
end Go.Sx
end
section
namespace Go.Sx
open Go Go.Proofs Go.RowKit
attribute [local irreducible] C R Fin K Own OwnT Rd Pl Ok KOf RetOk OpsOf RP KP Res NoPanic KV KE
variable {M M' : Mem} {H H1 H2 : Hp}
def numGo (bs : Txt) (at_ : Nat) : Nat → Nat → Nat → Nat × Int × Nat
  | 0, _, _ => (0, 11, 0)
  | k + 1, i, n => match bs[at_ + i]? with
    | none => (0, 10, 0)
    | some x => if i = 9 ∧ 1 < x.toNat then (0, 11, 0)
      else if 128 ≤ x.toNat then numGo bs at_ k (i + 1) (n + x.toNat % 128 * 128 ^ i)
      else if x.toNat = 0 ∧ 0 < i then (0, 11, 0)
      else (n + x.toNat % 128 * 128 ^ i, 0, at_ + i + 1)
def numR (bs : Txt) (at_ : Nat) : Nat × Int × Nat := numGo bs at_ 10 0 0
structure NmL where
  i : Nat
  ii : Int
  n : Nat
theorem number_K {A : Option Addr} {c : Nat} {bs : Txt} {at_ : Nat} (hp : Pl M A (bs.map bv)) (hc : bs.length ≤ c) (hb : bs.length ≤ 1099511627776) (ha : at_ ≤ bs.length) : K Try.prog 62 [.slice A bs.length c, .int .i64 (at_ : Int)] M H fun v' M' H' => v' = .tuple #[.int .u64 ((numR bs at_).1 : Int), .int .i64 (numR bs at_).2.1, .int .i64 ((numR bs at_).2.2 : Int)] ∧ M' = M ∧ H' = H := by
  refine K.enterK Try.func62 rfl rfl rfl ?_
  intro Q hNP hQ
  (repeat' (first | refine a_go ?_ | (with_reducible apply Fin.thenK; assumption) | (with_reducible (first | apply C.seqK | apply C.regionK); intro _ _) | (apply R.buildSlice0; exact rfl; intro bz) | (apply R.box; exact rfl; (simp only [Value.cells]; rfl); exact rfl; intro bx) | (apply R.alloc; (simp only [Value.cells]; rfl); exact rfl; intro ba) | (apply R.buildSlice; (exact a_prt); exact rfl; exact rfl; (exact a_fills); exact rfl; intro bl) | (refine a_sp ?_ ?_; (intro h; skip; rotate_left; intro h; skip; rotate_left)) | fail))
  apply C.loop (fun y : NmL => (y.i : Int) = y.ii ∧ y.i < 10 ∧ y.n < 128 ^ y.i ∧ numR bs at_ = numGo bs at_ (10 - y.i) y.i y.n)
    (fun y => [(0, .slice A bs.length c), (1, .int .i64 (at_ : Int)), (7, .int .u64 (y.n : Int)), (8, .int .i64 y.ii)]) (fun _ => M) (fun _ => H) (fun y => 10 - y.i) ⟨0, 0, 0⟩
  · exact ⟨rfl, by decide, by decide, rfl⟩
  · (exact a_subs)
  · exact rfl
  · exact rfl
  rintro ⟨i, ii, n⟩ ⟨hii, hi, hn, hr⟩
  dsimp only at hii hi hn hr ⊢
  by_cases hix : at_ + i < bs.length
  · obtain ⟨b0, o0, cc, e0, f0, rfl, hM, hcell⟩ := hp.get (i := at_ + i) (v := bv bs[at_ + i]) (by rw [List.getElem?_map, List.getElem?_eq_getElem hix]; rfl)
    rw [show 10 - i = (9 - i) + 1 by omega] at hr
    unfold numGo at hr
    rw [List.getElem?_eq_getElem hix] at hr
    dsimp only at hr
    generalize bs[at_ + i] = x at hcell hr
    have hx := x.toNat_lt
    have hpw : 2 ^ (7 * i) = 128 ^ i := by rw [Nat.pow_mul]
    obtain ⟨p, hp128⟩ : ∃ p, p = 128 ^ i := ⟨_, rfl⟩
    have hx7 : x.toNat % 128 * p ≤ 127 * p := Nat.mul_le_mul_right _ (by omega)
    have hsucc : 128 ^ (i + 1) = p * 128 := by rw [Nat.pow_succ, hp128]
    have hp9 : i ≤ 8 → p * 128 ≤ 9223372036854775808 := fun h => by
      rw [← hsucc]
      exact Nat.le_trans (Nat.pow_le_pow_right (by decide) (show i + 1 ≤ 9 by omega)) (by decide)
    have hp10 : i = 9 → p = 9223372036854775808 := fun h => by rw [hp128, h]
    rw [← hp128] at hn hr
    have hbig : ¬ (i = 9 ∧ 1 < x.toNat) → n + x.toNat % 128 * p ≤ 18446744073709551615 := fun h => by
      by_cases h9 : i = 9
      · have h1 := hp10 h9
        have h2 : x.toNat % 128 ≤ 1 := by omega
        have h3 : x.toNat % 128 * p ≤ 1 * p := Nat.mul_le_mul_right _ h2
        omega
      · have := hp9 (by omega)
        omega
    have e1 : o0 + ((at_ : Int) + ii).toNat * 1 = o0 + (at_ + i) := by omega
    by_cases hf9 : i = 9 ∧ 1 < x.toNat
    · rw [if_pos hf9] at hr
      rw [hr] at hQ
      (repeat' (first | (apply R.step; (apply Ok.move; exact rfl); exact rfl) | (apply R.step; (apply Ok.loadP; exact rfl; exact rfl; exact hM; rw [e1]; exact hcell); exact rfl) | refine a_go ?_ | (with_reducible apply Fin.thenK; assumption) | (with_reducible (first | apply C.seqK | apply C.regionK); intro _ _) | (apply R.buildSlice0; exact rfl; intro bz) | (apply R.box; exact rfl; (simp only [Value.cells]; rfl); exact rfl; intro bx) | (apply R.alloc; (simp only [Value.cells]; rfl); exact rfl; intro ba) | (apply R.buildSlice; (exact a_prt); exact rfl; exact rfl; (exact a_fills); exact rfl; intro bl) | (refine a_sp ?_ ?_; (intro h; skip; rotate_left; intro h; skip; rotate_left)) | fail))
      any_goals (exfalso; omega)
      (refine Fin.rt ?_)
      exact ⟨rfl, rfl, rfl⟩
    · rw [if_neg hf9] at hr
      have hbb := hbig hf9
      (repeat' (first | (apply R.step; (exact a_ok); exact rfl) | (first | (with_reducible first | apply R.nil | apply C.ret | apply C.block | apply C.skip | apply C.exit | apply Fin.thenRet | apply Fin.thenExit | apply Fin.blockNormal | apply Fin.blockRet | apply Fin.blockExit) | (with_reducible apply Fin.thenK; assumption) | (with_reducible apply C.seqR; intro _ _) | (with_reducible apply C.regionK; intro _ _) | (with_reducible apply Fin.blockOther; exact rfl)) | (first | (apply R.store; exact rfl; exact rfl; exact rfl; (exact a_at); (exact a_blit); exact rfl; (focus (simp [Value.oneCell']; done))) | (apply R.buildSlice0; exact rfl; intro bz) | (apply R.box; exact rfl; (simp only [Value.cells]; rfl); exact rfl; intro bx) | (apply R.alloc; (simp only [Value.cells]; rfl); exact rfl; intro ba) | (apply R.buildSlice; (exact a_prt); exact rfl; exact rfl; (exact a_fills); exact rfl; intro bl)) | (first | (apply R.guardT; assumption; exact rfl; exact rfl; exact rfl) | (apply R.guardF; assumption; exact rfl; exact rfl; exact rfl; exact rfl; exact rfl) | (apply R.guardU; assumption; exact rfl; exact rfl; exact rfl; exact rfl) | (apply R.guardDec; assumption; exact rfl; exact rfl; (intro h; skip; rotate_left; intro h; skip; rotate_left)) | (apply R.guardBeq; assumption; exact rfl; exact rfl; (intro h; skip; rotate_left; intro h; skip; rotate_left)) | (apply R.guardBne; assumption; exact rfl; exact rfl; (intro h; skip; rotate_left; intro h; skip; rotate_left)) | (apply R.guardNDec; assumption; exact rfl; exact rfl; (intro h; skip; rotate_left; intro h; skip; rotate_left)) | (apply R.guardNot; assumption; exact rfl; exact rfl; (intro h; skip; rotate_left; intro h; skip; rotate_left)) | (apply R.guardC; assumption; exact rfl; exact rfl; (intro h; skip; rotate_left; intro h; skip; rotate_left)))))
      (apply C.seqK; intro _ _)
      (repeat' (first | (apply R.step; (exact a_ok); exact rfl) | (first | (with_reducible first | apply R.nil | apply C.ret | apply C.block | apply C.skip | apply C.exit | apply Fin.thenRet | apply Fin.thenExit | apply Fin.blockNormal | apply Fin.blockRet | apply Fin.blockExit) | (with_reducible apply Fin.thenK; assumption) | (with_reducible apply C.seqR; intro _ _) | (with_reducible apply C.regionK; intro _ _) | (with_reducible apply Fin.blockOther; exact rfl)) | (first | (apply R.store; exact rfl; exact rfl; exact rfl; (exact a_at); (exact a_blit); exact rfl; (focus (simp [Value.oneCell']; done))) | (apply R.buildSlice0; exact rfl; intro bz) | (apply R.box; exact rfl; (simp only [Value.cells]; rfl); exact rfl; intro bx) | (apply R.alloc; (simp only [Value.cells]; rfl); exact rfl; intro ba) | (apply R.buildSlice; (exact a_prt); exact rfl; exact rfl; (exact a_fills); exact rfl; intro bl)) | (first | (apply R.guardT; assumption; exact rfl; exact rfl; exact rfl) | (apply R.guardF; assumption; exact rfl; exact rfl; exact rfl; exact rfl; exact rfl) | (apply R.guardU; assumption; exact rfl; exact rfl; exact rfl; exact rfl) | (apply R.guardDec; assumption; exact rfl; exact rfl; (intro h; skip; rotate_left; intro h; skip; rotate_left)) | (apply R.guardBeq; assumption; exact rfl; exact rfl; (intro h; skip; rotate_left; intro h; skip; rotate_left)) | (apply R.guardBne; assumption; exact rfl; exact rfl; (intro h; skip; rotate_left; intro h; skip; rotate_left)) | (apply R.guardNDec; assumption; exact rfl; exact rfl; (intro h; skip; rotate_left; intro h; skip; rotate_left)) | (apply R.guardNot; assumption; exact rfl; exact rfl; (intro h; skip; rotate_left; intro h; skip; rotate_left)) | (apply R.guardC; assumption; exact rfl; exact rfl; (intro h; skip; rotate_left; intro h; skip; rotate_left)))))
      (apply C.seqK; intro _ _)
      (repeat' (first | (apply R.step; (exact a_ok); exact rfl) | (first | (with_reducible first | apply R.nil | apply C.ret | apply C.block | apply C.skip | apply C.exit | apply Fin.thenRet | apply Fin.thenExit | apply Fin.blockNormal | apply Fin.blockRet | apply Fin.blockExit) | (with_reducible apply Fin.thenK; assumption) | (with_reducible apply C.seqR; intro _ _) | (with_reducible apply C.regionK; intro _ _) | (with_reducible apply Fin.blockOther; exact rfl)) | (first | (apply R.store; exact rfl; exact rfl; exact rfl; (exact a_at); (exact a_blit); exact rfl; (focus (simp [Value.oneCell']; done))) | (apply R.buildSlice0; exact rfl; intro bz) | (apply R.box; exact rfl; (simp only [Value.cells]; rfl); exact rfl; intro bx) | (apply R.alloc; (simp only [Value.cells]; rfl); exact rfl; intro ba) | (apply R.buildSlice; (exact a_prt); exact rfl; exact rfl; (exact a_fills); exact rfl; intro bl)) | (first | (apply R.guardT; assumption; exact rfl; exact rfl; exact rfl) | (apply R.guardF; assumption; exact rfl; exact rfl; exact rfl; exact rfl; exact rfl) | (apply R.guardU; assumption; exact rfl; exact rfl; exact rfl; exact rfl) | (apply R.guardDec; assumption; exact rfl; exact rfl; (intro h; skip; rotate_left; intro h; skip; rotate_left)) | (apply R.guardBeq; assumption; exact rfl; exact rfl; (intro h; skip; rotate_left; intro h; skip; rotate_left)) | (apply R.guardBne; assumption; exact rfl; exact rfl; (intro h; skip; rotate_left; intro h; skip; rotate_left)) | (apply R.guardNDec; assumption; exact rfl; exact rfl; (intro h; skip; rotate_left; intro h; skip; rotate_left)) | (apply R.guardNot; assumption; exact rfl; exact rfl; (intro h; skip; rotate_left; intro h; skip; rotate_left)) | (apply R.guardC; assumption; exact rfl; exact rfl; (intro h; skip; rotate_left; intro h; skip; rotate_left)))))
      (apply C.condDec; exact rfl; (intro h; exfalso; omega); intro _)
      (repeat' (first | (apply R.step; (exact a_ok); exact rfl) | (first | (with_reducible first | apply R.nil | apply C.ret | apply C.block | apply C.skip | apply C.exit | apply Fin.thenRet | apply Fin.thenExit | apply Fin.blockNormal | apply Fin.blockRet | apply Fin.blockExit) | (with_reducible apply Fin.thenK; assumption) | (with_reducible apply C.seqR; intro _ _) | (with_reducible apply C.regionK; intro _ _) | (with_reducible apply Fin.blockOther; exact rfl)) | (first | (apply R.store; exact rfl; exact rfl; exact rfl; (exact a_at); (exact a_blit); exact rfl; (focus (simp [Value.oneCell']; done))) | (apply R.buildSlice0; exact rfl; intro bz) | (apply R.box; exact rfl; (simp only [Value.cells]; rfl); exact rfl; intro bx) | (apply R.alloc; (simp only [Value.cells]; rfl); exact rfl; intro ba) | (apply R.buildSlice; (exact a_prt); exact rfl; exact rfl; (exact a_fills); exact rfl; intro bl)) | (first | (apply R.guardT; assumption; exact rfl; exact rfl; exact rfl) | (apply R.guardF; assumption; exact rfl; exact rfl; exact rfl; exact rfl; exact rfl) | (apply R.guardU; assumption; exact rfl; exact rfl; exact rfl; exact rfl) | (apply R.guardDec; assumption; exact rfl; exact rfl; (intro h; skip; rotate_left; intro h; skip; rotate_left)) | (apply R.guardBeq; assumption; exact rfl; exact rfl; (intro h; skip; rotate_left; intro h; skip; rotate_left)) | (apply R.guardBne; assumption; exact rfl; exact rfl; (intro h; skip; rotate_left; intro h; skip; rotate_left)) | (apply R.guardNDec; assumption; exact rfl; exact rfl; (intro h; skip; rotate_left; intro h; skip; rotate_left)) | (apply R.guardNot; assumption; exact rfl; exact rfl; (intro h; skip; rotate_left; intro h; skip; rotate_left)) | (apply R.guardC; assumption; exact rfl; exact rfl; (intro h; skip; rotate_left; intro h; skip; rotate_left)))))
      (apply R.step; (apply Ok.loadP; exact rfl; exact rfl; exact hM; rw [e1]; exact hcell); exact rfl)
      (repeat' (first | (apply R.step; (exact a_ok); exact rfl) | (first | (with_reducible first | apply R.nil | apply C.ret | apply C.block | apply C.skip | apply C.exit | apply Fin.thenRet | apply Fin.thenExit | apply Fin.blockNormal | apply Fin.blockRet | apply Fin.blockExit) | (with_reducible apply Fin.thenK; assumption) | (with_reducible apply C.seqR; intro _ _) | (with_reducible apply C.regionK; intro _ _) | (with_reducible apply Fin.blockOther; exact rfl)) | (first | (apply R.store; exact rfl; exact rfl; exact rfl; (exact a_at); (exact a_blit); exact rfl; (focus (simp [Value.oneCell']; done))) | (apply R.buildSlice0; exact rfl; intro bz) | (apply R.box; exact rfl; (simp only [Value.cells]; rfl); exact rfl; intro bx) | (apply R.alloc; (simp only [Value.cells]; rfl); exact rfl; intro ba) | (apply R.buildSlice; (exact a_prt); exact rfl; exact rfl; (exact a_fills); exact rfl; intro bl)) | (first | (apply R.guardT; assumption; exact rfl; exact rfl; exact rfl) | (apply R.guardF; assumption; exact rfl; exact rfl; exact rfl; exact rfl; exact rfl) | (apply R.guardU; assumption; exact rfl; exact rfl; exact rfl; exact rfl) | (apply R.guardDec; assumption; exact rfl; exact rfl; (intro h; skip; rotate_left; intro h; skip; rotate_left)) | (apply R.guardBeq; assumption; exact rfl; exact rfl; (intro h; skip; rotate_left; intro h; skip; rotate_left)) | (apply R.guardBne; assumption; exact rfl; exact rfl; (intro h; skip; rotate_left; intro h; skip; rotate_left)) | (apply R.guardNDec; assumption; exact rfl; exact rfl; (intro h; skip; rotate_left; intro h; skip; rotate_left)) | (apply R.guardNot; assumption; exact rfl; exact rfl; (intro h; skip; rotate_left; intro h; skip; rotate_left)) | (apply R.guardC; assumption; exact rfl; exact rfl; (intro h; skip; rotate_left; intro h; skip; rotate_left)))))
      apply C.seqCut (X := Unit) (fun _ => True) (fun _ => [(0, .slice (some ⟨b0, o0, none⟩) bs.length c), (1, .int .i64 (at_ : Int)), (7, .int .u64 (n : Int)), (8, .int .i64 ii), (9, bv x)]) (fun _ => M) (fun _ => H)
      · (repeat' (first | refine a_go ?_ | (with_reducible apply Fin.thenK; assumption) | (with_reducible (first | apply C.seqK | apply C.regionK); intro _ _) | (apply R.buildSlice0; exact rfl; intro bz) | (apply R.box; exact rfl; (simp only [Value.cells]; rfl); exact rfl; intro bx) | (apply R.alloc; (simp only [Value.cells]; rfl); exact rfl; intro ba) | (apply R.buildSlice; (exact a_prt); exact rfl; exact rfl; (exact a_fills); exact rfl; intro bl) | (refine a_sp ?_ ?_; (intro h; skip; rotate_left; intro h; skip; rotate_left)) | fail))
        any_goals (exfalso; omega)
        all_goals (refine Fin.join () trivial ?_ rfl rfl; (exact a_subs))
      · intro _ _
        (repeat' (first | (apply R.step; (apply Ok.move; exact rfl); exact rfl) | (apply R.step; (first | (apply Ok.andBB (b := 127); exact rfl; exact rfl) | (apply Ok.convBU; exact rfl)); exact rfl) | refine a_go ?_ | (with_reducible apply Fin.thenK; assumption) | (with_reducible (first | apply C.seqK | apply C.regionK); intro _ _) | (apply R.buildSlice0; exact rfl; intro bz) | (apply R.box; exact rfl; (simp only [Value.cells]; rfl); exact rfl; intro bx) | (apply R.alloc; (simp only [Value.cells]; rfl); exact rfl; intro ba) | (apply R.buildSlice; (exact a_prt); exact rfl; exact rfl; (exact a_fills); exact rfl; intro bl) | (refine a_sp ?_ ?_; (intro h; skip; rotate_left; intro h; skip; rotate_left)) | fail))
        rw [and127_toNat]
        (apply R.step; (apply Ok.shlUN (7 * i) p; exact rfl; exact rfl; omega; omega; (rw [hp128]; exact hpw); omega); exact rfl)
        (apply R.step; (apply Ok.orUN_add (7 * i) (x.toNat % 128); exact rfl; exact rfl; (rw [hpw, ← hp128]; exact hn); (rw [hpw, ← hp128]); exact hbb); exact rfl)
        generalize hq : n + x.toNat % 128 * p = q at hr hbb
        have hok : ¬ 128 ≤ x.toNat → ¬ (x.toNat = 0 ∧ 0 < i) → ∀ v, v = Value.tuple #[.int .u64 (q : Int), .int .i64 0, .int .i64 ((at_ : Int) + ii + 1)] → v = .tuple #[.int .u64 ((numR bs at_).1 : Int), .int .i64 (numR bs at_).2.1, .int .i64 ((numR bs at_).2.2 : Int)] := fun h1 h2 v hv => by
          rw [hr, if_neg h1, if_neg h2, hv, ← hii]
          push_cast
          rfl
        (repeat' (first | refine a_go ?_ | (with_reducible apply Fin.thenK; assumption) | (with_reducible (first | apply C.seqK | apply C.regionK); intro _ _) | (apply R.buildSlice0; exact rfl; intro bz) | (apply R.box; exact rfl; (simp only [Value.cells]; rfl); exact rfl; intro bx) | (apply R.alloc; (simp only [Value.cells]; rfl); exact rfl; intro ba) | (apply R.buildSlice; (exact a_prt); exact rfl; exact rfl; (exact a_fills); exact rfl; intro bl) | (refine a_sp ?_ ?_; (intro h; skip; rotate_left; intro h; skip; rotate_left)) | fail))
        · have h : (128 : Int) ≤ (x.toNat : Int) := by assumption
          have hi9 : i ≠ 9 := fun h9 => hf9 ⟨h9, by omega⟩
          refine Fin.again (⟨i + 1, ii + 1, q⟩ : NmL) ⟨by dsimp only; omega, by dsimp only; omega, by dsimp only; rw [hsucc]; omega, by dsimp only; rw [hr, if_pos (by omega), show 10 - (i + 1) = 9 - i by omega]⟩ (by dsimp only; omega) ?_ rfl rfl
          (exact a_subs)
        · have h1 : ¬ (128 : Int) ≤ (x.toNat : Int) := by assumption
          have h2 : (x.toNat : Int) = 0 := by assumption
          have h3 : 0 < ii := by assumption
          (refine Fin.rt ?_)
          rw [hr, if_neg (by omega), if_pos ⟨by omega, by omega⟩]
          exact ⟨rfl, rfl, rfl⟩
        · have h1 : ¬ (128 : Int) ≤ (x.toNat : Int) := by assumption
          have h3 : ¬ 0 < ii := by assumption
          (refine Fin.rt ?_)
          exact ⟨hok (by omega) (by omega) _ rfl, rfl, rfl⟩
        · have h1 : ¬ (128 : Int) ≤ (x.toNat : Int) := by assumption
          have h3 : ¬ (x.toNat : Int) = 0 := by assumption
          (refine Fin.rt ?_)
          exact ⟨hok (by omega) (by omega) _ rfl, rfl, rfl⟩
  · have hz : numR bs at_ = (0, 10, 0) := by
      rw [hr, show 10 - i = (9 - i) + 1 by omega]
      unfold numGo
      rw [List.getElem?_eq_none (by omega)]
    rw [hz] at hQ
    (repeat' (first | refine a_go ?_ | (with_reducible apply Fin.thenK; assumption) | (with_reducible (first | apply C.seqK | apply C.regionK); intro _ _) | (apply R.buildSlice0; exact rfl; intro bz) | (apply R.box; exact rfl; (simp only [Value.cells]; rfl); exact rfl; intro bx) | (apply R.alloc; (simp only [Value.cells]; rfl); exact rfl; intro ba) | (apply R.buildSlice; (exact a_prt); exact rfl; exact rfl; (exact a_fills); exact rfl; intro bl) | (refine a_sp ?_ ?_; (intro h; skip; rotate_left; intro h; skip; rotate_left)) | fail))
    any_goals (exfalso; omega)
    (refine Fin.rt ?_)
    exact ⟨rfl, rfl, rfl⟩
end Go.Sx
end
section
namespace Go.Sx
open Go Go.Proofs Go.RowKit
attribute [local irreducible] C R Fin K Own OwnT Rd Pl Ok KOf RetOk OpsOf RP KP Res NoPanic KV KE
variable {M M' : Mem} {H H1 H2 : Hp}
theorem numGo_ok {bs : Txt} {at_ : Nat} : ∀ (k i n : Nat), (numGo bs at_ k i n).2.1 = 0 → at_ < (numGo bs at_ k i n).2.2 ∧ (numGo bs at_ k i n).2.2 ≤ bs.length
  | 0, _, _, h => by cases h
  | k + 1, i, n, h => by
    unfold numGo at h ⊢
    cases hx : bs[at_ + i]? with
    | none => rw [hx] at h; cases h
    | some x =>
      rw [hx] at h
      dsimp only at h ⊢
      split at h
      · cases h
      · rename_i h1
        rw [if_neg h1]
        split at h
        · rename_i h2
          rw [if_pos h2]
          exact numGo_ok k (i + 1) _ h
        · rename_i h2
          rw [if_neg h2]
          split at h
          · cases h
          · rename_i h3
            rw [if_neg h3]
            have := (List.getElem?_eq_some_iff.1 hx).1
            show at_ < at_ + i + 1 ∧ at_ + i + 1 ≤ _
            omega
theorem numR_ok {bs : Txt} {at_ : Nat} (h : (numR bs at_).2.1 = 0) : at_ < (numR bs at_).2.2 ∧ (numR bs at_).2.2 ≤ bs.length := numGo_ok 10 0 0 h
def rdB (v : Value) (at_ : Nat) (bad : Int) : Obj := .cells [v, .int .i64 (at_ : Int), .int .i64 bad].toArray 103 (0, 0)
theorem newReader_K {va : Value} {bs : Txt} (hb : PlB M va bs) (hl : bs.length ≤ 1099511627776) : K Try.prog 24 [va] M H fun v' M' H' => ∃ rb v, v' = .pointer (some ⟨rb, 0, none⟩) ∧ M.le M' ∧ PlB M' v bs ∧ H' = (rb, rdB v 0 0) :: H := by
  refine K.enterK Try.func24 rfl rfl rfl ?_
  intro Q hNP hQ
  obtain ⟨A, c, rfl, h1, h2, h3⟩ := hb
  (repeat' (first | refine a_go ?_ | (with_reducible apply Fin.thenK; assumption) | (with_reducible (first | apply C.seqK | apply C.regionK); intro _ _) | (apply R.buildSlice0; exact rfl; intro bz) | (apply R.box; exact rfl; (simp only [Value.cells]; rfl); exact rfl; intro bx) | (apply R.alloc; (simp only [Value.cells]; rfl); exact rfl; intro ba) | (apply R.buildSlice; (exact a_prt); exact rfl; exact rfl; (exact a_fills); exact rfl; intro bl) | (refine a_sp ?_ ?_; (intro h; skip; rotate_left; intro h; skip; rotate_left)) | fail))
  (apply R.append (news := bs.map bv); exact rfl; exact rfl; exact Own.empty; (exact a_tk); exact Pl.rd h3; (rw [List.length_map, Nat.mul_one]); exact bv_one _; omega; exact rfl; decide; decide; exact rfl; rintro v4 hp4 hown4)
  rw [List.nil_append, Nat.zero_add] at hown4
  obtain ⟨A4, c4, rfl, _, _⟩ := hown4.form
  (apply R.ice (hp := hp4) (Arr.all _); intro M2 hM2 hin)
  have hb4 := hown4.plB hin
  (repeat' (first | refine a_go ?_ | (with_reducible apply Fin.thenK; assumption) | (with_reducible (first | apply C.seqK | apply C.regionK); intro _ _) | (apply R.buildSlice0; exact rfl; intro bz) | (apply R.box; exact rfl; (simp only [Value.cells]; rfl); exact rfl; intro bx) | (apply R.alloc; (simp only [Value.cells]; rfl); exact rfl; intro ba) | (apply R.buildSlice; (exact a_prt); exact rfl; exact rfl; (exact a_fills); exact rfl; intro bl) | (refine a_sp ?_ ?_; (intro h; skip; rotate_left; intro h; skip; rotate_left)) | fail))
  (refine Fin.rt ?_)
  exact ⟨_, _, rfl, hM2, hb4, rfl⟩
theorem fault_K {rb : Nat} {v : Value} {at_ : Nat} {bad e : Int} : K Try.prog 63 [.pointer (some ⟨rb, 0, none⟩), .int .i64 e] M ((rb, rdB v at_ bad) :: H) fun v' M' H' => v' = .tuple #[] ∧ M' = M ∧ H' = (rb, rdB v at_ (if bad = 0 then e else bad)) :: H := by
  refine K.enterK Try.func63 rfl rfl rfl ?_
  intro Q hNP hQ
  unfold rdB at hQ ⊢
  (repeat' (first | refine a_go ?_ | (with_reducible apply Fin.thenK; assumption) | (with_reducible (first | apply C.seqK | apply C.regionK); intro _ _) | (apply R.buildSlice0; exact rfl; intro bz) | (apply R.box; exact rfl; (simp only [Value.cells]; rfl); exact rfl; intro bx) | (apply R.alloc; (simp only [Value.cells]; rfl); exact rfl; intro ba) | (apply R.buildSlice; (exact a_prt); exact rfl; exact rfl; (exact a_fills); exact rfl; intro bl) | (refine a_sp ?_ ?_; (intro h; skip; rotate_left; intro h; skip; rotate_left)) | fail))
  · have h : bad = 0 := by assumption
    rw [if_pos h] at hQ
    (refine Fin.rt ?_)
    exact ⟨rfl, rfl, rfl⟩
  · have h : bad ≠ 0 := by assumption
    rw [if_neg h] at hQ
    (refine Fin.rt ?_)
    exact ⟨rfl, rfl, rfl⟩
def byteR (bs : Txt) (most : UInt8) (at_ : Nat) (bad : Int) : UInt8 × Nat × Int := if bad ≠ 0 then (0, at_, bad) else match bs[at_]? with
  | none => (0, at_, 10)
  | some x => if most.toNat < x.toNat then (0, at_, 12) else (x, at_ + 1, 0)
def numRd (bs : Txt) (most : Nat) (at_ : Nat) (bad : Int) : Nat × Nat × Int := if bad ≠ 0 then (0, at_, bad) else if (numR bs at_).2.1 = 0 ∧ most < (numR bs at_).1 then (0, at_, 12) else if (numR bs at_).2.1 ≠ 0 then (0, at_, (numR bs at_).2.1) else ((numR bs at_).1, (numR bs at_).2.2, 0)
def endR (bs : Txt) (at_ : Nat) (bad : Int) : Int := if bad = 0 ∧ at_ < bs.length then 11 else bad
theorem byteR_at {bs : Txt} {most : UInt8} {at_ : Nat} {bad : Int} (h : at_ ≤ bs.length) : (byteR bs most at_ bad).2.1 ≤ bs.length := by
  unfold byteR
  split
  · exact h
  · cases hx : bs[at_]? with
    | none => exact h
    | some x =>
      have := (List.getElem?_eq_some_iff.1 hx).1
      dsimp only
      split
      · exact h
      · exact this
theorem numRd_at {bs : Txt} {most at_ : Nat} {bad : Int} (h : at_ ≤ bs.length) : (numRd bs most at_ bad).2.1 ≤ bs.length := by
  unfold numRd
  split
  · exact h
  · split
    · exact h
    · split
      · exact h
      · rename_i h3
        exact (numR_ok (by simpa using h3)).2
theorem rbyte_K {rb : Nat} {v : Value} {bs : Txt} {at_ : Nat} {bad : Int} {most : UInt8} (hb : PlB M v bs) (ha : at_ ≤ bs.length) : K Try.prog 26 [.pointer (some ⟨rb, 0, none⟩), bv most] M ((rb, rdB v at_ bad) :: H) fun v' M' H' => v' = bv (byteR bs most at_ bad).1 ∧ M' = M ∧ H' = (rb, rdB v (byteR bs most at_ bad).2.1 (byteR bs most at_ bad).2.2) :: H := by
  refine K.enterK Try.func26 rfl rfl rfl ?_
  intro Q hNP hQ
  obtain ⟨A, c, rfl, h1, h2, h3⟩ := hb
  by_cases hbad : bad = 0
  · subst hbad
    by_cases hix : at_ < bs.length
    · obtain ⟨b0, o0, cc, e0, f0, rfl, hM, hcell⟩ := h3.get (i := at_) (v := bv bs[at_]) (by rw [List.getElem?_map, List.getElem?_eq_getElem hix]; rfl)
      have hbr : byteR bs most at_ 0 = if most.toNat < (bs[at_]).toNat then (0, at_, 12) else (bs[at_], at_ + 1, 0) := by
        unfold byteR
        rw [if_neg (by simp), List.getElem?_eq_getElem hix]
      generalize bs[at_] = x at hcell hbr
      have e1 : o0 + ((at_ : Nat) : Int).toNat * 1 = o0 + at_ := by omega
      have e2 : o0 + ((at_ : Int) + 1 - 1).toNat * 1 = o0 + at_ := by omega
      unfold rdB at hQ ⊢
      (repeat' (first | refine a_go ?_ | (with_reducible apply Fin.thenK; assumption) | (with_reducible (first | apply C.seqK | apply C.regionK); intro _ _) | (apply R.buildSlice0; exact rfl; intro bz) | (apply R.box; exact rfl; (simp only [Value.cells]; rfl); exact rfl; intro bx) | (apply R.alloc; (simp only [Value.cells]; rfl); exact rfl; intro ba) | (apply R.buildSlice; (exact a_prt); exact rfl; exact rfl; (exact a_fills); exact rfl; intro bl) | (refine a_sp ?_ ?_; (intro h; skip; rotate_left; intro h; skip; rotate_left)) | fail))
      (apply C.regionO (ks := [1, 1, 1, 1, 1, 1, 1, 1, 1, 1, 1]) (is := [0, 1, 2, 3, 4, 5, 6, 7, 8, 9, 10]) (Hs := [(rb, .cells [.slice (some ⟨b0, o0, none⟩) bs.length c, .int .i64 ↑at_, .int .i64 0].toArray 103 (0, 0))]); exact Mix.h; (first | exact Arr.all _ | (exact a_arr)); (exact a_np); (exact a_picked); kernel_rfl; intro _ e; subst e)
      (repeat' (first | (first | (apply RP.step; intro _ _ _; (exact a_ok); exact rfl) | (apply RP.stepT; exact rfl; exact rfl; exact rfl; intro _ _ _; (exact a_ok); exact rfl) | (apply RP.stepF; exact rfl; exact rfl; exact rfl; exact rfl; exact rfl) | (apply RP.effF; exact rfl; exact rfl; exact rfl; exact rfl; exact rfl)) | (apply RP.callQ; (exact a_evs); exact rfl)))
      (first | apply RP.nil0 | apply RP.nil)
      (repeat' (first | refine a_go ?_ | (with_reducible apply Fin.thenK; assumption) | (with_reducible (first | apply C.seqK | apply C.regionK); intro _ _) | (apply R.buildSlice0; exact rfl; intro bz) | (apply R.box; exact rfl; (simp only [Value.cells]; rfl); exact rfl; intro bx) | (apply R.alloc; (simp only [Value.cells]; rfl); exact rfl; intro ba) | (apply R.buildSlice; (exact a_prt); exact rfl; exact rfl; (exact a_fills); exact rfl; intro bl) | (refine a_sp ?_ ?_; (intro h; skip; rotate_left; intro h; skip; rotate_left)) | fail))
      any_goals (exfalso; omega)
      (apply C.regionO (ks := [1, 1, 1, 1, 1, 1, 1, 1, 1, 1, 1, 1, 1]) (is := [0, 1, 2, 3, 4, 5, 6, 7, 8, 9, 10, 11, 12]) (Hs := [(rb, .cells [.slice (some ⟨b0, o0, none⟩) bs.length c, .int .i64 ↑at_, .int .i64 0].toArray 103 (0, 0))]); exact Mix.h; (first | exact Arr.all _ | (exact a_arr)); (exact a_np); (exact a_picked); kernel_rfl; intro _ e; subst e)
      (repeat' (first | (apply RP.step; intro _ _ _; (apply Ok.move; exact rfl); exact rfl) | (apply RP.step; intro _ _ hMx; (first | (apply Ok.indexAddr; exact rfl; exact rfl; omega; omega) | (apply Ok.loadP; exact rfl; exact rfl; exact le_at hMx hM; rw [e1]; exact hcell)); exact rfl) | (first | (apply RP.step; intro _ _ _; (exact a_ok); exact rfl) | (apply RP.stepT; exact rfl; exact rfl; exact rfl; intro _ _ _; (exact a_ok); exact rfl) | (apply RP.stepF; exact rfl; exact rfl; exact rfl; exact rfl; exact rfl) | (apply RP.effF; exact rfl; exact rfl; exact rfl; exact rfl; exact rfl)) | (apply RP.callQ; (exact a_evs); exact rfl)))
      (first | apply RP.nil0 | apply RP.nil)
      by_cases hm : most.toNat < x.toNat
      · rw [if_pos hm] at hbr
        rw [hbr] at hQ
        (repeat' (first | refine a_go ?_ | (with_reducible apply Fin.thenK; assumption) | (with_reducible (first | apply C.seqK | apply C.regionK); intro _ _) | (apply R.buildSlice0; exact rfl; intro bz) | (apply R.box; exact rfl; (simp only [Value.cells]; rfl); exact rfl; intro bx) | (apply R.alloc; (simp only [Value.cells]; rfl); exact rfl; intro ba) | (apply R.buildSlice; (exact a_prt); exact rfl; exact rfl; (exact a_fills); exact rfl; intro bl) | (refine a_sp ?_ ?_; (intro h; skip; rotate_left; intro h; skip; rotate_left)) | fail))
        any_goals (exfalso; omega)
        (apply R.call; (exact a_evs); exact rfl; exact fault_K (bad := 0) (e := 12); rintro _ M _ ⟨rfl, rfl, rfl⟩)
        (repeat' (first | refine a_go ?_ | (with_reducible apply Fin.thenK; assumption) | (with_reducible (first | apply C.seqK | apply C.regionK); intro _ _) | (apply R.buildSlice0; exact rfl; intro bz) | (apply R.box; exact rfl; (simp only [Value.cells]; rfl); exact rfl; intro bx) | (apply R.alloc; (simp only [Value.cells]; rfl); exact rfl; intro ba) | (apply R.buildSlice; (exact a_prt); exact rfl; exact rfl; (exact a_fills); exact rfl; intro bl) | (refine a_sp ?_ ?_; (intro h; skip; rotate_left; intro h; skip; rotate_left)) | fail))
        (apply Fin.returnA (H2 := (rb, rdB (.slice (some ⟨b0, o0, none⟩) bs.length c) at_ 12) :: H); assumption; (first | exact .inl rfl | exact .inr rfl); exact rfl; (exact a_res); (simp only [retv]; rfl); (exact a_arr))
        exact ⟨rfl, rfl, rfl⟩
      · rw [if_neg hm] at hbr
        rw [hbr] at hQ
        (repeat' (first | refine a_go ?_ | (with_reducible apply Fin.thenK; assumption) | (with_reducible (first | apply C.seqK | apply C.regionK); intro _ _) | (apply R.buildSlice0; exact rfl; intro bz) | (apply R.box; exact rfl; (simp only [Value.cells]; rfl); exact rfl; intro bx) | (apply R.alloc; (simp only [Value.cells]; rfl); exact rfl; intro ba) | (apply R.buildSlice; (exact a_prt); exact rfl; exact rfl; (exact a_fills); exact rfl; intro bl) | (refine a_sp ?_ ?_; (intro h; skip; rotate_left; intro h; skip; rotate_left)) | fail))
        any_goals (exfalso; omega)
        (apply C.regionO (ks := [1, 1, 1, 1, 1, 1, 1, 1, 1, 1, 1, 1]) (is := [0, 1, 2, 3, 4, 5, 6, 7, 8, 9, 10, 11]) (Hs := [(rb, .cells [.slice (some ⟨b0, o0, none⟩) bs.length c, .int .i64 (↑at_ + 1), .int .i64 0].toArray 103 (0, 0))]); exact Mix.h; (first | exact Arr.all _ | (exact a_arr)); (exact a_np); (exact a_picked); kernel_rfl; intro _ e; subst e)
        (repeat' (first | (apply RP.step; intro _ _ _; (apply Ok.move; exact rfl); exact rfl) | (apply RP.step; intro _ _ hMx; (first | (apply Ok.indexAddr; exact rfl; exact rfl; omega; omega) | (apply Ok.loadP; exact rfl; exact rfl; exact le_at hMx hM; rw [e2]; exact hcell)); exact rfl) | (first | (apply RP.step; intro _ _ _; (exact a_ok); exact rfl) | (apply RP.stepT; exact rfl; exact rfl; exact rfl; intro _ _ _; (exact a_ok); exact rfl) | (apply RP.stepF; exact rfl; exact rfl; exact rfl; exact rfl; exact rfl) | (apply RP.effF; exact rfl; exact rfl; exact rfl; exact rfl; exact rfl)) | (apply RP.callQ; (exact a_evs); exact rfl)))
        (first | apply RP.nil0 | apply RP.nil)
        (repeat' (first | refine a_go ?_ | (with_reducible apply Fin.thenK; assumption) | (with_reducible (first | apply C.seqK | apply C.regionK); intro _ _) | (apply R.buildSlice0; exact rfl; intro bz) | (apply R.box; exact rfl; (simp only [Value.cells]; rfl); exact rfl; intro bx) | (apply R.alloc; (simp only [Value.cells]; rfl); exact rfl; intro ba) | (apply R.buildSlice; (exact a_prt); exact rfl; exact rfl; (exact a_fills); exact rfl; intro bl) | (refine a_sp ?_ ?_; (intro h; skip; rotate_left; intro h; skip; rotate_left)) | fail))
        (apply Fin.returnA (H2 := (rb, .cells [.slice (some ⟨b0, o0, none⟩) bs.length c, .int .i64 (↑at_ + 1), .int .i64 0].toArray 103 (0, 0)) :: H); assumption; (first | exact .inl rfl | exact .inr rfl); exact rfl; (exact a_res); (simp only [retv]; rfl); (exact a_arr))
        exact ⟨rfl, rfl, rfl⟩
    · have hbr : byteR bs most at_ 0 = (0, at_, 10) := by
        unfold byteR
        rw [if_neg (by simp), List.getElem?_eq_none (by omega)]
      rw [hbr] at hQ
      unfold rdB at hQ ⊢
      (repeat' (first | refine a_go ?_ | (with_reducible apply Fin.thenK; assumption) | (with_reducible (first | apply C.seqK | apply C.regionK); intro _ _) | (apply R.buildSlice0; exact rfl; intro bz) | (apply R.box; exact rfl; (simp only [Value.cells]; rfl); exact rfl; intro bx) | (apply R.alloc; (simp only [Value.cells]; rfl); exact rfl; intro ba) | (apply R.buildSlice; (exact a_prt); exact rfl; exact rfl; (exact a_fills); exact rfl; intro bl) | (refine a_sp ?_ ?_; (intro h; skip; rotate_left; intro h; skip; rotate_left)) | fail))
      (apply C.regionO (ks := [1, 1, 1, 1, 1, 1, 1, 1, 1, 1, 1]) (is := [0, 1, 2, 3, 4, 5, 6, 7, 8, 9, 10]) (Hs := [(rb, .cells [.slice A bs.length c, .int .i64 ↑at_, .int .i64 0].toArray 103 (0, 0))]); exact Mix.h; (first | exact Arr.all _ | (exact a_arr)); (exact a_np); (exact a_picked); kernel_rfl; intro _ e; subst e)
      (repeat' (first | (first | (apply RP.step; intro _ _ _; (exact a_ok); exact rfl) | (apply RP.stepT; exact rfl; exact rfl; exact rfl; intro _ _ _; (exact a_ok); exact rfl) | (apply RP.stepF; exact rfl; exact rfl; exact rfl; exact rfl; exact rfl) | (apply RP.effF; exact rfl; exact rfl; exact rfl; exact rfl; exact rfl)) | (apply RP.callQ; (exact a_evs); exact rfl)))
      (first | apply RP.nil0 | apply RP.nil)
      (repeat' (first | refine a_go ?_ | (with_reducible apply Fin.thenK; assumption) | (with_reducible (first | apply C.seqK | apply C.regionK); intro _ _) | (apply R.buildSlice0; exact rfl; intro bz) | (apply R.box; exact rfl; (simp only [Value.cells]; rfl); exact rfl; intro bx) | (apply R.alloc; (simp only [Value.cells]; rfl); exact rfl; intro ba) | (apply R.buildSlice; (exact a_prt); exact rfl; exact rfl; (exact a_fills); exact rfl; intro bl) | (refine a_sp ?_ ?_; (intro h; skip; rotate_left; intro h; skip; rotate_left)) | fail))
      any_goals (exfalso; omega)
      (apply R.call; (exact a_evs); exact rfl; exact fault_K (bad := 0) (e := 10); rintro _ M _ ⟨rfl, rfl, rfl⟩)
      (repeat' (first | refine a_go ?_ | (with_reducible apply Fin.thenK; assumption) | (with_reducible (first | apply C.seqK | apply C.regionK); intro _ _) | (apply R.buildSlice0; exact rfl; intro bz) | (apply R.box; exact rfl; (simp only [Value.cells]; rfl); exact rfl; intro bx) | (apply R.alloc; (simp only [Value.cells]; rfl); exact rfl; intro ba) | (apply R.buildSlice; (exact a_prt); exact rfl; exact rfl; (exact a_fills); exact rfl; intro bl) | (refine a_sp ?_ ?_; (intro h; skip; rotate_left; intro h; skip; rotate_left)) | fail))
      (apply Fin.returnA (H2 := (rb, rdB (.slice A bs.length c) at_ 10) :: H); assumption; (first | exact .inl rfl | exact .inr rfl); exact rfl; (exact a_res); (simp only [retv]; rfl); (exact a_arr))
      exact ⟨rfl, rfl, rfl⟩
  · have hbr : byteR bs most at_ bad = (0, at_, bad) := if_pos hbad
    rw [hbr] at hQ
    unfold rdB at hQ ⊢
    (repeat' (first | refine a_go ?_ | (with_reducible apply Fin.thenK; assumption) | (with_reducible (first | apply C.seqK | apply C.regionK); intro _ _) | (apply R.buildSlice0; exact rfl; intro bz) | (apply R.box; exact rfl; (simp only [Value.cells]; rfl); exact rfl; intro bx) | (apply R.alloc; (simp only [Value.cells]; rfl); exact rfl; intro ba) | (apply R.buildSlice; (exact a_prt); exact rfl; exact rfl; (exact a_fills); exact rfl; intro bl) | (refine a_sp ?_ ?_; (intro h; skip; rotate_left; intro h; skip; rotate_left)) | fail))
    any_goals (exfalso; omega)
    (refine Fin.rt ?_)
    exact ⟨rfl, rfl, rfl⟩
theorem rnum_K {rb : Nat} {v : Value} {bs : Txt} {at_ : Nat} {bad : Int} {most : Nat} (hb : PlB M v bs) (hl : bs.length ≤ 1099511627776) (ha : at_ ≤ bs.length) : K Try.prog 25 [.pointer (some ⟨rb, 0, none⟩), .int .u64 (most : Int)] M ((rb, rdB v at_ bad) :: H) fun v' M' H' => v' = .int .u64 ((numRd bs most at_ bad).1 : Int) ∧ M' = M ∧ H' = (rb, rdB v (numRd bs most at_ bad).2.1 (numRd bs most at_ bad).2.2) :: H := by
  refine K.enterK Try.func25 rfl rfl rfl ?_
  intro Q hNP hQ
  obtain ⟨A, c, rfl, h1, h2, h3⟩ := hb
  by_cases hbad : bad = 0
  · subst hbad
    have hnr : numRd bs most at_ 0 = if (numR bs at_).2.1 = 0 ∧ most < (numR bs at_).1 then (0, at_, 12) else if (numR bs at_).2.1 ≠ 0 then (0, at_, (numR bs at_).2.1) else ((numR bs at_).1, (numR bs at_).2.2, 0) := if_neg (by simp)
    unfold rdB at hQ ⊢
    (repeat' (first | refine a_go ?_ | (with_reducible apply Fin.thenK; assumption) | (with_reducible (first | apply C.seqK | apply C.regionK); intro _ _) | (apply R.buildSlice0; exact rfl; intro bz) | (apply R.box; exact rfl; (simp only [Value.cells]; rfl); exact rfl; intro bx) | (apply R.alloc; (simp only [Value.cells]; rfl); exact rfl; intro ba) | (apply R.buildSlice; (exact a_prt); exact rfl; exact rfl; (exact a_fills); exact rfl; intro bl) | (refine a_sp ?_ ?_; (intro h; skip; rotate_left; intro h; skip; rotate_left)) | fail))
    (apply C.regionO (ks := [1, 1, 1, 1, 1, 1, 1, 1, 0, 1, 1, 1, 1, 1, 1, 1]) (is := [0, 1, 2, 3, 4, 5, 6, 7, 8, 9, 10, 11, 12, 13, 14, 15]) (Hs := [(rb, .cells [.slice A bs.length c, .int .i64 ↑at_, .int .i64 0].toArray 103 (0, 0))]); exact Mix.h; (first | exact Arr.all _ | (exact a_arr)); (exact a_np); (exact a_picked); kernel_rfl; intro _ e; subst e)
    (repeat' (first | (first | (apply RP.step; intro _ _ _; (exact a_ok); exact rfl) | (apply RP.stepT; exact rfl; exact rfl; exact rfl; intro _ _ _; (exact a_ok); exact rfl) | (apply RP.stepF; exact rfl; exact rfl; exact rfl; exact rfl; exact rfl) | (apply RP.effF; exact rfl; exact rfl; exact rfl; exact rfl; exact rfl)) | (apply RP.callQ; (exact a_evs); exact rfl)))
    (apply RP.eff; intro Kc hKc ops0)
    (apply R.call; (exact a_evs); exact rfl; exact number_K (at_ := at_) h3 h1 hl ha; rintro _ M _ ⟨rfl, rfl, rfl⟩)
    (apply R.nil; apply Fin.kp hKc; exact Mem.le_refl _; exact Arr.all _)
    generalize numR bs at_ = z at hnr
    obtain ⟨n, e, bh⟩ := z
    dsimp only at hnr ⊢
    (repeat' (first | (first | (apply RP.step; intro _ _ _; (exact a_ok); exact rfl) | (apply RP.stepT; exact rfl; exact rfl; exact rfl; intro _ _ _; (exact a_ok); exact rfl) | (apply RP.stepF; exact rfl; exact rfl; exact rfl; exact rfl; exact rfl) | (apply RP.effF; exact rfl; exact rfl; exact rfl; exact rfl; exact rfl)) | (apply RP.callQ; (exact a_evs); exact rfl)))
    (first | apply RP.nil0 | apply RP.nil)
    by_cases hc1 : e = 0 ∧ most < n
    · rw [if_pos hc1] at hnr
      rw [hnr] at hQ
      (repeat' (first | refine a_go ?_ | (with_reducible apply Fin.thenK; assumption) | (with_reducible (first | apply C.seqK | apply C.regionK); intro _ _) | (apply R.buildSlice0; exact rfl; intro bz) | (apply R.box; exact rfl; (simp only [Value.cells]; rfl); exact rfl; intro bx) | (apply R.alloc; (simp only [Value.cells]; rfl); exact rfl; intro ba) | (apply R.buildSlice; (exact a_prt); exact rfl; exact rfl; (exact a_fills); exact rfl; intro bl) | (refine a_sp ?_ ?_; (intro h; skip; rotate_left; intro h; skip; rotate_left)) | fail))
      any_goals (exfalso; omega)
      (apply R.call; (exact a_evs); exact rfl; exact fault_K (bad := 0) (e := 12); rintro _ M _ ⟨rfl, rfl, rfl⟩)
      (repeat' (first | refine a_go ?_ | (with_reducible apply Fin.thenK; assumption) | (with_reducible (first | apply C.seqK | apply C.regionK); intro _ _) | (apply R.buildSlice0; exact rfl; intro bz) | (apply R.box; exact rfl; (simp only [Value.cells]; rfl); exact rfl; intro bx) | (apply R.alloc; (simp only [Value.cells]; rfl); exact rfl; intro ba) | (apply R.buildSlice; (exact a_prt); exact rfl; exact rfl; (exact a_fills); exact rfl; intro bl) | (refine a_sp ?_ ?_; (intro h; skip; rotate_left; intro h; skip; rotate_left)) | fail))
      (apply Fin.returnA (H2 := (rb, rdB (.slice A bs.length c) at_ 12) :: H); assumption; (first | exact .inl rfl | exact .inr rfl); exact rfl; (exact a_res); (simp only [retv]; rfl); (exact a_arr))
      exact ⟨rfl, rfl, rfl⟩
    · rw [if_neg hc1] at hnr
      by_cases hc2 : e ≠ 0
      · rw [if_pos hc2] at hnr
        rw [hnr] at hQ
        (repeat' (first | refine a_go ?_ | (with_reducible apply Fin.thenK; assumption) | (with_reducible (first | apply C.seqK | apply C.regionK); intro _ _) | (apply R.buildSlice0; exact rfl; intro bz) | (apply R.box; exact rfl; (simp only [Value.cells]; rfl); exact rfl; intro bx) | (apply R.alloc; (simp only [Value.cells]; rfl); exact rfl; intro ba) | (apply R.buildSlice; (exact a_prt); exact rfl; exact rfl; (exact a_fills); exact rfl; intro bl) | (refine a_sp ?_ ?_; (intro h; skip; rotate_left; intro h; skip; rotate_left)) | fail))
        any_goals (exfalso; omega)
        (apply R.call; (exact a_evs); exact rfl; exact fault_K (bad := 0) (e := e); rintro _ M _ ⟨rfl, rfl, rfl⟩)
        (repeat' (first | refine a_go ?_ | (with_reducible apply Fin.thenK; assumption) | (with_reducible (first | apply C.seqK | apply C.regionK); intro _ _) | (apply R.buildSlice0; exact rfl; intro bz) | (apply R.box; exact rfl; (simp only [Value.cells]; rfl); exact rfl; intro bx) | (apply R.alloc; (simp only [Value.cells]; rfl); exact rfl; intro ba) | (apply R.buildSlice; (exact a_prt); exact rfl; exact rfl; (exact a_fills); exact rfl; intro bl) | (refine a_sp ?_ ?_; (intro h; skip; rotate_left; intro h; skip; rotate_left)) | fail))
        (apply Fin.returnA (H2 := (rb, rdB (.slice A bs.length c) at_ e) :: H); assumption; (first | exact .inl rfl | exact .inr rfl); exact rfl; (exact a_res); (simp only [retv]; rfl); (exact a_arr))
        exact ⟨rfl, rfl, rfl⟩
      · rw [if_neg hc2] at hnr
        rw [hnr] at hQ
        have he : e = 0 := by omega
        subst he
        (repeat' (first | refine a_go ?_ | (with_reducible apply Fin.thenK; assumption) | (with_reducible (first | apply C.seqK | apply C.regionK); intro _ _) | (apply R.buildSlice0; exact rfl; intro bz) | (apply R.box; exact rfl; (simp only [Value.cells]; rfl); exact rfl; intro bx) | (apply R.alloc; (simp only [Value.cells]; rfl); exact rfl; intro ba) | (apply R.buildSlice; (exact a_prt); exact rfl; exact rfl; (exact a_fills); exact rfl; intro bl) | (refine a_sp ?_ ?_; (intro h; skip; rotate_left; intro h; skip; rotate_left)) | fail))
        any_goals (exfalso; omega)
        (apply Fin.returnA (H2 := (rb, rdB (.slice A bs.length c) bh 0) :: H); assumption; (first | exact .inl rfl | exact .inr rfl); exact rfl; (exact a_res); (simp only [retv]; rfl); (exact a_arr))
        exact ⟨rfl, rfl, rfl⟩
  · have hnr : numRd bs most at_ bad = (0, at_, bad) := if_pos hbad
    rw [hnr] at hQ
    unfold rdB at hQ ⊢
    (repeat' (first | refine a_go ?_ | (with_reducible apply Fin.thenK; assumption) | (with_reducible (first | apply C.seqK | apply C.regionK); intro _ _) | (apply R.buildSlice0; exact rfl; intro bz) | (apply R.box; exact rfl; (simp only [Value.cells]; rfl); exact rfl; intro bx) | (apply R.alloc; (simp only [Value.cells]; rfl); exact rfl; intro ba) | (apply R.buildSlice; (exact a_prt); exact rfl; exact rfl; (exact a_fills); exact rfl; intro bl) | (refine a_sp ?_ ?_; (intro h; skip; rotate_left; intro h; skip; rotate_left)) | fail))
    any_goals (exfalso; omega)
    (refine Fin.rt ?_)
    exact ⟨rfl, rfl, rfl⟩
theorem rend_K {rb : Nat} {v : Value} {bs : Txt} {at_ : Nat} {bad : Int} (hb : PlB M v bs) (hl : bs.length ≤ 1099511627776) : K Try.prog 28 [.pointer (some ⟨rb, 0, none⟩)] M ((rb, rdB v at_ bad) :: H) fun v' M' H' => v' = .int .i64 (endR bs at_ bad) ∧ M' = M ∧ H' = (rb, rdB v at_ bad) :: H := by
  refine K.enterK Try.func28 rfl rfl rfl ?_
  intro Q hNP hQ
  obtain ⟨A, c, rfl, h1, h2, h3⟩ := hb
  by_cases hbad : bad = 0
  · subst hbad
    unfold rdB at hQ ⊢
    (repeat' (first | refine a_go ?_ | (with_reducible apply Fin.thenK; assumption) | (with_reducible (first | apply C.seqK | apply C.regionK); intro _ _) | (apply R.buildSlice0; exact rfl; intro bz) | (apply R.box; exact rfl; (simp only [Value.cells]; rfl); exact rfl; intro bx) | (apply R.alloc; (simp only [Value.cells]; rfl); exact rfl; intro ba) | (apply R.buildSlice; (exact a_prt); exact rfl; exact rfl; (exact a_fills); exact rfl; intro bl) | (refine a_sp ?_ ?_; (intro h; skip; rotate_left; intro h; skip; rotate_left)) | fail))
    (apply C.regionO (ks := [1, 1, 1, 1, 1, 1, 1, 1, 1, 1, 1, 1, 1, 1, 1, 1, 1]) (is := [0, 1, 2, 3, 4, 5, 6, 7, 8, 9, 10, 11, 12, 13, 14, 15, 16]) (Hs := [(rb, .cells [.slice A bs.length c, .int .i64 ↑at_, .int .i64 0].toArray 103 (0, 0))]); exact Mix.h; (first | exact Arr.all _ | (exact a_arr)); (exact a_np); (exact a_picked); kernel_rfl; intro _ e; subst e)
    (repeat' (first | (first | (apply RP.step; intro _ _ _; (exact a_ok); exact rfl) | (apply RP.stepT; exact rfl; exact rfl; exact rfl; intro _ _ _; (exact a_ok); exact rfl) | (apply RP.stepF; exact rfl; exact rfl; exact rfl; exact rfl; exact rfl) | (apply RP.effF; exact rfl; exact rfl; exact rfl; exact rfl; exact rfl)) | (apply RP.callQ; (exact a_evs); exact rfl)))
    (first | apply RP.nil0 | apply RP.nil)
    (repeat' (first | refine a_go ?_ | (with_reducible apply Fin.thenK; assumption) | (with_reducible (first | apply C.seqK | apply C.regionK); intro _ _) | (apply R.buildSlice0; exact rfl; intro bz) | (apply R.box; exact rfl; (simp only [Value.cells]; rfl); exact rfl; intro bx) | (apply R.alloc; (simp only [Value.cells]; rfl); exact rfl; intro ba) | (apply R.buildSlice; (exact a_prt); exact rfl; exact rfl; (exact a_fills); exact rfl; intro bl) | (refine a_sp ?_ ?_; (intro h; skip; rotate_left; intro h; skip; rotate_left)) | fail))
    · have h : (at_ : Int) < (bs.length : Int) := by assumption
      have he : endR bs at_ 0 = 11 := if_pos ⟨rfl, by omega⟩
      rw [he] at hQ
      (apply Fin.returnA (H2 := (rb, rdB (.slice A bs.length c) at_ 0) :: H); assumption; (first | exact .inl rfl | exact .inr rfl); exact rfl; (exact a_res); (simp only [retv]; rfl); (exact a_arr))
      exact ⟨rfl, rfl, rfl⟩
    · have h : ¬ (at_ : Int) < (bs.length : Int) := by assumption
      have he : endR bs at_ 0 = 0 := if_neg (fun h2 => by have := h2.2; omega)
      rw [he] at hQ
      (apply Fin.returnA (H2 := (rb, rdB (.slice A bs.length c) at_ 0) :: H); assumption; (first | exact .inl rfl | exact .inr rfl); exact rfl; (exact a_res); (simp only [retv]; rfl); (exact a_arr))
      exact ⟨rfl, rfl, rfl⟩
  · have he : endR bs at_ bad = bad := if_neg (fun h => hbad h.1)
    rw [he] at hQ
    unfold rdB at hQ ⊢
    (repeat' (first | refine a_go ?_ | (with_reducible apply Fin.thenK; assumption) | (with_reducible (first | apply C.seqK | apply C.regionK); intro _ _) | (apply R.buildSlice0; exact rfl; intro bz) | (apply R.box; exact rfl; (simp only [Value.cells]; rfl); exact rfl; intro bx) | (apply R.alloc; (simp only [Value.cells]; rfl); exact rfl; intro ba) | (apply R.buildSlice; (exact a_prt); exact rfl; exact rfl; (exact a_fills); exact rfl; intro bl) | (refine a_sp ?_ ?_; (intro h; skip; rotate_left; intro h; skip; rotate_left)) | fail))
    (apply C.regionO (ks := [1, 1, 1, 1, 1, 1, 1, 1, 1, 1, 1, 1, 1, 1, 1, 1, 1]) (is := [0, 1, 2, 3, 4, 5, 6, 7, 8, 9, 10, 11, 12, 13, 14, 15, 16]) (Hs := [(rb, .cells [.slice A bs.length c, .int .i64 ↑at_, .int .i64 bad].toArray 103 (0, 0))]); exact Mix.h; (first | exact Arr.all _ | (exact a_arr)); (exact a_np); (exact a_picked); kernel_rfl; intro _ e; subst e)
    (repeat' (first | (apply RP.step; intro _ _ _; (apply Ok.move; exact rfl); exact rfl) | (apply RP.step; intro _ _ _; (apply Ok.eqIF; exact rfl; exact rfl; exact hbad); exact rfl) | (first | (apply RP.step; intro _ _ _; (exact a_ok); exact rfl) | (apply RP.stepT; exact rfl; exact rfl; exact rfl; intro _ _ _; (exact a_ok); exact rfl) | (apply RP.stepF; exact rfl; exact rfl; exact rfl; exact rfl; exact rfl) | (apply RP.effF; exact rfl; exact rfl; exact rfl; exact rfl; exact rfl)) | (apply RP.callQ; (exact a_evs); exact rfl)))
    (first | apply RP.nil0 | apply RP.nil)
    (repeat' (first | refine a_go ?_ | (with_reducible apply Fin.thenK; assumption) | (with_reducible (first | apply C.seqK | apply C.regionK); intro _ _) | (apply R.buildSlice0; exact rfl; intro bz) | (apply R.box; exact rfl; (simp only [Value.cells]; rfl); exact rfl; intro bx) | (apply R.alloc; (simp only [Value.cells]; rfl); exact rfl; intro ba) | (apply R.buildSlice; (exact a_prt); exact rfl; exact rfl; (exact a_fills); exact rfl; intro bl) | (refine a_sp ?_ ?_; (intro h; skip; rotate_left; intro h; skip; rotate_left)) | fail))
    (apply Fin.returnA (H2 := (rb, rdB (.slice A bs.length c) at_ bad) :: H); assumption; (first | exact .inl rfl | exact .inr rfl); exact rfl; (exact a_res); (simp only [retv]; rfl); (exact a_arr))
    exact ⟨rfl, rfl, rfl⟩
end Go.Sx
end
section
namespace Go.Sx
open Go Go.Proofs Go.RowKit
attribute [local irreducible] C R Fin K Own OwnT Rd Pl Ok KOf RetOk OpsOf RP KP Res NoPanic KV KE MapS ItS EntS
variable {M M' : Mem} {H H1 H2 : Hp}
abbrev Fs := List (Txt × Txt)
inductive De where
  | app (n b : Txt)
  | trc (n : Txt) (k : Nat)
  | ren (n t : Txt)
  | rem (n : Txt)
def fileD (F : Fs) (n : Txt) : Txt := (getS F n).getD []
def doF (F : Fs) : De → Fs
  | .app n b => putS F n (fileD F n ++ b)
  | .trc n k => putS F n ((fileD F n).take k)
  | .ren n t => putS (delS F n) t (fileD F n)
  | .rem n => delS F n
def sumF (F : Fs) : Nat := (F.map (fun p => p.2.length)).sum
def DeC (M : Mem) : De → List Value → Prop
  | .app n b, c => ∃ bv, c = [.int .i64 0, str n, str [], bv, .int .i64 0] ∧ PlB M bv b
  | .trc n k, c => c = [.int .i64 1, str n, str [], .slice none 0 0, .int .i64 (k : Int)]
  | .ren n t, c => c = [.int .i64 2, str n, str t, .slice none 0 0, .int .i64 0]
  | .rem n, c => c = [.int .i64 3, str n, str [], .slice none 0 0, .int .i64 0]
theorem DeC.mono {x : De} {c : List Value} (hM : M.le M') (h : DeC M x c) : DeC M' x c := by
  cases x with
  | app n b =>
    obtain ⟨bv, h1, h2⟩ := h
    exact ⟨bv, h1, h2.mono hM⟩
  | trc n k => exact h
  | ren n t => exact h
  | rem n => exact h
theorem PlB.nil : PlB M (.slice none 0 0) [] := ⟨none, 0, rfl, Nat.le_refl _, by omega, Pl.nil⟩
theorem DeC.cells {x : De} {c : List Value} (h : DeC M x c) : c.length = 5 ∧ (∀ u ∈ c, u.oneCell' = true) := by
  cases x with
  | app n b =>
    obtain ⟨bv, rfl, A, cap, rfl, _, _, _⟩ := h
    exact ⟨rfl, fun u hu => by
      simp only [List.mem_cons, List.not_mem_nil, or_false] at hu
      rcases hu with rfl | rfl | rfl | rfl | rfl <;> rfl⟩
  | trc n k =>
    subst h
    exact ⟨rfl, fun u hu => by
      simp only [List.mem_cons, List.not_mem_nil, or_false] at hu
      rcases hu with rfl | rfl | rfl | rfl | rfl <;> rfl⟩
  | ren n t =>
    subst h
    exact ⟨rfl, fun u hu => by
      simp only [List.mem_cons, List.not_mem_nil, or_false] at hu
      rcases hu with rfl | rfl | rfl | rfl | rfl <;> rfl⟩
  | rem n =>
    subst h
    exact ⟨rfl, fun u hu => by
      simp only [List.mem_cons, List.not_mem_nil, or_false] at hu
      rcases hu with rfl | rfl | rfl | rfl | rfl <;> rfl⟩
def FsR (M : Mem) (l : ML) (F : Fs) : Prop := ∃ es : List (Txt × (Value × Txt)), l = es.map (fun p => (p.1, p.2.1)) ∧ (∀ p ∈ es, PlB M p.2.1 p.2.2) ∧ (es.map (fun p => (p.1, p.2.2))).Perm F
theorem FsR.mono {l : ML} {F : Fs} (hM : M.le M') (h : FsR M l F) : FsR M' l F := by
  obtain ⟨es, h1, h2, h3⟩ := h
  exact ⟨es, h1, fun p hp => (h2 p hp).mono hM, h3⟩
theorem FsR.nil : FsR M [] [] := ⟨[], rfl, fun _ h => absurd h List.not_mem_nil, List.Perm.refl _⟩
theorem FsR.len {l : ML} {F : Fs} (h : FsR M l F) : l.length = F.length := by
  obtain ⟨es, rfl, _, h3⟩ := h
  have := h3.length_eq
  rw [List.length_map] at this ⊢
  exact this
theorem FsR.keys {l : ML} {F : Fs} (h : FsR M l F) : (keyS l).Perm (keyS F) := by
  obtain ⟨es, rfl, _, h3⟩ := h
  have := h3.map Prod.fst
  rw [List.map_map] at this
  unfold keyS
  rw [List.map_map]
  exact this
theorem FsR.get {l : ML} {F : Fs} (h : FsR M l F) (hn : (keyS l).Nodup) (k : Txt) : PlB M ((getS l k).getD (.slice none 0 0)) (fileD F k) ∧ (getS l k).isSome = (getS F k).isSome := by
  obtain ⟨es, rfl, h2, h3⟩ := h
  have hn2 : (keyS (es.map (fun p => (p.1, p.2.2)))).Nodup := by
    unfold keyS at hn ⊢
    rw [List.map_map] at hn ⊢
    exact hn
  have hn0 : (keyS es).Nodup := by
    unfold keyS at hn ⊢
    rw [List.map_map] at hn
    exact hn
  have e1 := getS_perm h3 hn2 k
  unfold fileD
  rw [← e1, getS_map (fun p : Value × Txt => p.1), getS_map (fun p : Value × Txt => p.2)]
  cases hg : getS es k with
  | none => exact ⟨PlB.nil, rfl⟩
  | some p => exact ⟨h2 _ ((getS_mem hn0).1 hg), rfl⟩
theorem FsR.put {l : ML} {F : Fs} {k : Txt} {v : Value} {b : Txt} (h : FsR M l F) (hv : PlB M v b) : FsR M (putS l k v) (putS F k b) := by
  obtain ⟨es, rfl, h2, h3⟩ := h
  refine ⟨putS es k (v, b), ?_, fun p hp => ?_, ?_⟩
  · rw [putS_map (fun p : Value × Txt => p.1)]
  · unfold putS at hp
    split at hp
    · obtain ⟨q, hq, rfl⟩ := List.mem_map.1 hp
      by_cases hk : q.1 = k
      · rw [if_pos hk]; exact hv
      · rw [if_neg hk]; exact h2 q hq
    · rcases List.mem_append.1 hp with hp | hp
      · exact h2 p hp
      · rw [List.mem_singleton] at hp
        subst hp
        exact hv
  · rw [putS_map (fun p : Value × Txt => p.2)]
    exact putS_perm h3 k b
theorem FsR.del {l : ML} {F : Fs} {k : Txt} (h : FsR M l F) : FsR M (delS l k) (delS F k) := by
  obtain ⟨es, rfl, h2, h3⟩ := h
  refine ⟨delS es k, ?_, fun p hp => h2 p (List.mem_filter.1 hp).1, ?_⟩
  · rw [delS_map (fun p : Value × Txt => p.1)]
  · rw [delS_map (fun p : Value × Txt => p.2)]
    exact delS_perm h3 k
theorem FsR.mid {r1 r2 : ML} {k : Txt} {v : Value} {F : Fs} (h : FsR M (r1 ++ (k, v) :: r2) F) : ∃ b G, PlB M v b ∧ F.Perm ((k, b) :: G) ∧ FsR M (r1 ++ r2) G := by
  obtain ⟨es, h1, h2, h3⟩ := h
  obtain ⟨e1, e3, rfl, q1, q2⟩ := List.map_eq_append_iff.1 h1.symm
  obtain ⟨⟨k', v', b⟩, e2, rfl, q3, q4⟩ := List.map_eq_cons_iff.1 q2
  injection q3 with q5 q6
  dsimp only at q5 q6
  subst q5 q6
  refine ⟨b, (e1 ++ e2).map (fun p => (p.1, p.2.2)), h2 _ (List.mem_append_right _ (List.mem_cons_self ..)), ?_, e1 ++ e2, ?_, fun p hp => h2 p ?_, List.Perm.refl _⟩
  · refine h3.symm.trans ?_
    rw [List.map_append, List.map_cons, List.map_append]
    exact List.perm_middle
  · rw [List.map_append, q1, q4]
  · rcases List.mem_append.1 hp with hp | hp
    · exact List.mem_append_left _ hp
    · exact List.mem_append_right _ (List.mem_cons_of_mem _ hp)
theorem FsR.perm {l : ML} {F G : Fs} (h : FsR M l F) (hp : F.Perm G) : FsR M l G := by
  obtain ⟨es, h1, h2, h3⟩ := h
  exact ⟨es, h1, h2, h3.trans hp⟩
theorem sumF_perm {F G : Fs} (h : F.Perm G) : sumF F = sumF G := (h.map _).sum_nat
theorem sumF_cons {k b : Txt} {G : Fs} : sumF ((k, b) :: G) = b.length + sumF G := rfl
def FsO (M : Mem) (o : Obj) (F : Fs) : Prop := ∃ l, MapS o l ∧ FsR M l F
theorem FsO.mono {o : Obj} {F : Fs} (hM : M.le M') (h : FsO M o F) : FsO M' o F := by
  obtain ⟨l, h1, h2⟩ := h
  exact ⟨l, h1, h2.mono hM⟩
theorem FsO.nodup {o : Obj} {F : Fs} (h : FsO M o F) : (keyS F).Nodup := by
  obtain ⟨l, h1, h2⟩ := h
  exact h2.keys.nodup_iff.1 h1.nodup
theorem FsO.empty : FsO M (.map #[] 0) [] := ⟨[], MapS.empty, FsR.nil⟩
theorem FsO.perm {o : Obj} {F G : Fs} (h : FsO M o F) (hp : F.Perm G) : FsO M o G := by
  obtain ⟨l, h1, h2⟩ := h
  exact ⟨l, h1, h2.perm hp⟩
def Fit (F : Fs) (x : De) : Prop := sumF (doF F x) ≤ 1048576 ∧ match x with
  | .trc n k => k ≤ (fileD F n).length
  | _ => True
theorem le_sum {a : Nat} : ∀ {l : List Nat}, a ∈ l → a ≤ l.sum
  | x :: l, h => by
    rw [List.sum_cons]
    rcases List.mem_cons.1 h with rfl | h
    · omega
    · have := le_sum h
      omega
theorem getS_len {F : Fs} {n b : Txt} : getS F n = some b → b.length ≤ sumF F := by
  intro h
  obtain ⟨p, h1, h2⟩ := Option.map_eq_some_iff.1 h
  have h4 := List.mem_of_find?_eq_some h1
  rw [← h2]
  exact le_sum (List.mem_map.2 ⟨p, h4, rfl⟩)
theorem fileD_len {F : Fs} {n : Txt} : (fileD F n).length ≤ sumF F := by
  unfold fileD
  cases h : getS F n with
  | none => exact Nat.zero_le _
  | some b => exact getS_len h
theorem getS_put {α : Type} {l : List (Txt × α)} {k : Txt} {v : α} (hn : (keyS l).Nodup) : getS (putS l k v) k = some v := by
  refine (getS_mem (putS_keys hn)).2 ?_
  unfold putS
  split
  · rename_i h
    obtain ⟨p, h1, h2⟩ := List.mem_map.1 h
    exact List.mem_map.2 ⟨p, h1, if_pos h2⟩
  · exact List.mem_append_right _ (List.mem_singleton.2 rfl)
theorem fileD_put {F : Fs} {n b : Txt} (hn : (keyS F).Nodup) : fileD (putS F n b) n = b := by
  unfold fileD
  rw [getS_put hn]
  rfl
theorem doF_keys {F : Fs} {x : De} (hn : (keyS F).Nodup) : (keyS (doF F x)).Nodup := by
  cases x with
  | app n b => exact putS_keys hn
  | trc n k => exact putS_keys hn
  | ren n t => exact putS_keys (delS_keys hn)
  | rem n => exact delS_keys hn
theorem fileD_perm {F G : Fs} (h : F.Perm G) (hn : (keyS F).Nodup) (n : Txt) : fileD F n = fileD G n := by
  unfold fileD
  rw [getS_perm h hn]
theorem doF_perm {F G : Fs} (h : F.Perm G) (hn : (keyS F).Nodup) (x : De) : (doF F x).Perm (doF G x) := by
  cases x with
  | app n b =>
    show (putS F n (fileD F n ++ b)).Perm (putS G n (fileD G n ++ b))
    rw [fileD_perm h hn]
    exact putS_perm h _ _
  | trc n k =>
    show (putS F n ((fileD F n).take k)).Perm (putS G n ((fileD G n).take k))
    rw [fileD_perm h hn]
    exact putS_perm h _ _
  | ren n t =>
    show (putS (delS F n) t (fileD F n)).Perm (putS (delS G n) t (fileD G n))
    rw [fileD_perm h hn]
    exact putS_perm (delS_perm h _) _ _
  | rem n => exact delS_perm h _
end Go.Sx
end
section
namespace Go.Sx
open Go Go.Proofs Go.RowKit
attribute [local irreducible] C R Fin K Own OwnT Rd Pl Ok KOf RetOk OpsOf RP KP Res NoPanic KV KE MapS ItS EntS
variable {M M' : Mem} {H H1 H2 : Hp}
theorem FsO.use {o : Obj} {F : Fs} (h : FsO M o F) : ∃ l : ML, MapS o l ∧ FsR M l F ∧ (keyS l).Nodup := by
  obtain ⟨l, h1, h2⟩ := h
  exact ⟨l, h1, h2, h1.nodup⟩
theorem does_K {nb : Nat} {o : Obj} {F : Fs} {x : De} {c : List Value} (hf : FsO M o F) (hx : DeC M x c) (hfit : Fit F x) : K Try.prog 41 [.map (some nb), .agg c.toArray] M ((nb, o) :: H) fun v' M' H' => v' = .tuple #[] ∧ M.le M' ∧ ∃ o', FsO M' o' (doF F x) ∧ H' = (nb, o') :: H := by
  obtain ⟨l, hm, hr, hn⟩ := hf.use
  have hnF := hf.nodup
  clear hf
  refine K.enterK Try.func41 rfl rfl rfl ?_
  intro Q hNP hQ
  cases x with
  | app n b =>
    obtain ⟨bv, rfl, hb⟩ := hx
    have hg := (hr.get hn n).1
    have hlen : (fileD F n ++ b).length ≤ 1048576 := by
      have h1 : fileD (doF F (.app n b)) n = fileD F n ++ b := fileD_put hnF
      rw [← h1]
      exact Nat.le_trans fileD_len hfit.1
    rw [List.length_append] at hlen
    obtain ⟨A1, c1, e1, _, _, p1⟩ := hg
    obtain ⟨A2, c2, rfl, _, _, p2⟩ := hb
    (repeat' (first | refine a_go ?_ | (with_reducible apply Fin.thenK; assumption) | (with_reducible (first | apply C.seqK | apply C.regionK); intro _ _) | (apply R.buildSlice0; exact rfl; intro bz) | (apply R.box; exact rfl; (simp only [Value.cells]; rfl); exact rfl; intro bx) | (apply R.alloc; (simp only [Value.cells]; rfl); exact rfl; intro ba) | (apply R.buildSlice; (exact a_prt); exact rfl; exact rfl; (exact a_fills); exact rfl; intro bl) | (refine a_sp ?_ ?_; (intro h; skip; rotate_left; intro h; skip; rotate_left)) | fail))
    (apply C.regionE (isA := [0, 1, 2, 4, 5, 6, 7, 9, 10, 3, 8, 11]) (ksA := [true, true, true, true, true, true, true, true, true, false, false, false]) (isB := [12]) (ksB := [0]) (Hs := [(bx, .cells [.int .i64 0, str n, str [], .slice A2 b.length c2, .int .i64 0].toArray 83 (0, 0)), (nb, o)]); exact Mix.h; (first | exact Arr.all _ | (exact a_arr)); (exact a_np); (exact a_picked); (exact a_picked); kernel_rfl; intro _ e; subst e)
    (repeat' (first | (apply RQ.step; intro _ _ _; (apply Ok.lookupS1 (o := o); exact rfl; exact rfl; exact a_mm; exact hm); exact rfl) | (apply RQ.step; intro _ _ _; (exact a_ok); exact rfl) | (apply RQ.stepT; exact rfl; exact rfl; exact rfl; intro _ _ _; (exact a_ok); exact rfl) | (apply RQ.stepF; exact rfl; exact rfl; exact rfl; exact rfl; exact rfl)))
    rw [e1]
    (repeat' (first | fail | (apply RQ.step; intro _ _ _; (exact a_ok); exact rfl) | (apply RQ.stepT; exact rfl; exact rfl; exact rfl; intro _ _ _; (exact a_ok); exact rfl) | (apply RQ.stepF; exact rfl; exact rfl; exact rfl; exact rfl; exact rfl)))
    (apply RQ.eff; intro Kc hKc ops0)
    (apply R.buildSlice0; exact rfl; intro bz)
    (apply R.nil; apply Fin.kq hKc; exact Mem.le_refl _; (exact a_arr))
    (apply RQ.eff; intro Kc hKc ops0)
    (apply R.append (news := (fileD F n).map bv); exact rfl; exact rfl; exact Own.empty; (exact a_tk); exact Pl.rd p1; (rw [List.length_map, Nat.mul_one]); exact bv_one _; omega; exact rfl; decide; decide; exact rfl; rintro v' hp' hown')
    (apply R.nil; apply Fin.kq hKc; exact Mem.le_refl _; (exact a_arr))
    obtain ⟨A3, c3, rfl, _, _⟩ := hown'.form
    rw [List.nil_append] at hown'
    (apply RQ.eff; intro Kc hKc ops0)
    (apply R.append (news := b.map bv); exact rfl; exact rfl; exact hown'; (exact a_tk); exact Pl.rd p2; (rw [List.length_map, Nat.mul_one]); exact bv_one _; omega; exact rfl; decide; decide; exact rfl; rintro v4 hp4 hown4)
    rw [← List.map_append, show 0 + (fileD F n).length + b.length = (fileD F n ++ b).length by rw [List.length_append]; omega] at hown4
    (apply R.ice (hp := hp4) (Arr.all _); intro M2 hM2 hin)
    have hb4 := hown4.plB hin
    (apply R.nil; apply Fin.kq hKc; exact hM2; (exact a_arr))
    apply RQ.nil
    (repeat' (first | (first | (apply RP.step; intro _ _ _; (exact a_ok); exact rfl) | (apply RP.stepT; exact rfl; exact rfl; exact rfl; intro _ _ _; (exact a_ok); exact rfl) | (apply RP.stepF; exact rfl; exact rfl; exact rfl; exact rfl; exact rfl) | (apply RP.effF; exact rfl; exact rfl; exact rfl; exact rfl; exact rfl)) | (apply RP.callQ; (exact a_evs); exact rfl)))
    (apply RP.eff; intro Kc hKc ops0)
    (apply R.putS (k := n) (v := v4) (l := l) (o := o); exact rfl; exact rfl; exact rfl; (exact a_at); exact hm; intro o2 hm2)
    (apply R.nil; apply Fin.kp hKc; exact hM2; (exact a_arr))
    (first | apply RP.nil0 | apply RP.nil)
    (repeat' (first | refine a_go ?_ | (with_reducible apply Fin.thenK; assumption) | (with_reducible (first | apply C.seqK | apply C.regionK); intro _ _) | (apply R.buildSlice0; exact rfl; intro bz) | (apply R.box; exact rfl; (simp only [Value.cells]; rfl); exact rfl; intro bx) | (apply R.alloc; (simp only [Value.cells]; rfl); exact rfl; intro ba) | (apply R.buildSlice; (exact a_prt); exact rfl; exact rfl; (exact a_fills); exact rfl; intro bl) | (refine a_sp ?_ ?_; (intro h; skip; rotate_left; intro h; skip; rotate_left)) | fail))
    (apply Fin.returnA (H2 := (nb, o2) :: H); assumption; (first | exact .inl rfl | exact .inr rfl); exact rfl; (exact a_res); (simp only [retv]; rfl); (exact a_arr))
    exact ⟨rfl, hM2, o2, ⟨_, hm2, (hr.mono hM2).put hb4⟩, rfl⟩
  | trc n k =>
    subst hx
    have hg := (hr.get hn n).1
    have hk : k ≤ (fileD F n).length := hfit.2
    obtain ⟨A1, c1, e1, q1, q2, p1⟩ := hg
    have hb4 : PlB M (.slice A1 ((k : Int)).toNat c1) ((fileD F n).take k) := ⟨A1, c1, by rw [List.length_take, Nat.min_eq_left hk]; rfl, by rw [List.length_take]; omega, q2, by rw [List.map_take]; exact p1.take k⟩
    (repeat' (first | refine a_go ?_ | (with_reducible apply Fin.thenK; assumption) | (with_reducible (first | apply C.seqK | apply C.regionK); intro _ _) | (apply R.buildSlice0; exact rfl; intro bz) | (apply R.box; exact rfl; (simp only [Value.cells]; rfl); exact rfl; intro bx) | (apply R.alloc; (simp only [Value.cells]; rfl); exact rfl; intro ba) | (apply R.buildSlice; (exact a_prt); exact rfl; exact rfl; (exact a_fills); exact rfl; intro bl) | (refine a_sp ?_ ?_; (intro h; skip; rotate_left; intro h; skip; rotate_left)) | fail))
    (apply C.regionE (isA := [0, 1, 2, 3, 4, 5, 6, 7, 8, 9]) (ksA := [true, true, true, true, true, true, true, true, true, true]) (isB := [10]) (ksB := [0]) (Hs := [(bx, .cells [.int .i64 1, str n, str [], .slice none 0 0, .int .i64 ↑k].toArray 83 (0, 0)), (nb, o)]); exact Mix.h; (first | exact Arr.all _ | (exact a_arr)); (exact a_np); (exact a_picked); (exact a_picked); kernel_rfl; intro _ e; subst e)
    (repeat' (first | (apply RQ.step; intro _ _ _; (apply Ok.lookupS1 (o := o); exact rfl; exact rfl; exact a_mm; exact hm); exact rfl) | (apply RQ.step; intro _ _ _; (exact a_ok); exact rfl) | (apply RQ.stepT; exact rfl; exact rfl; exact rfl; intro _ _ _; (exact a_ok); exact rfl) | (apply RQ.stepF; exact rfl; exact rfl; exact rfl; exact rfl; exact rfl)))
    rw [e1]
    (repeat' (first | (apply RQ.step; intro _ _ _; (apply Ok.sliceHi; exact rfl; exact rfl; omega; omega); exact rfl) | (apply RQ.step; intro _ _ _; (exact a_ok); exact rfl) | (apply RQ.stepT; exact rfl; exact rfl; exact rfl; intro _ _ _; (exact a_ok); exact rfl) | (apply RQ.stepF; exact rfl; exact rfl; exact rfl; exact rfl; exact rfl)))
    apply RQ.nil
    (repeat' (first | (first | (apply RP.step; intro _ _ _; (exact a_ok); exact rfl) | (apply RP.stepT; exact rfl; exact rfl; exact rfl; intro _ _ _; (exact a_ok); exact rfl) | (apply RP.stepF; exact rfl; exact rfl; exact rfl; exact rfl; exact rfl) | (apply RP.effF; exact rfl; exact rfl; exact rfl; exact rfl; exact rfl)) | (apply RP.callQ; (exact a_evs); exact rfl)))
    (apply RP.eff; intro Kc hKc ops0)
    (apply R.putS (k := n) (v := .slice A1 ((k : Int)).toNat c1) (l := l) (o := o); exact rfl; exact rfl; exact rfl; (exact a_at); exact hm; intro o2 hm2)
    (apply R.nil; apply Fin.kp hKc; exact Mem.le_refl _; (exact a_arr))
    (first | apply RP.nil0 | apply RP.nil)
    (repeat' (first | refine a_go ?_ | (with_reducible apply Fin.thenK; assumption) | (with_reducible (first | apply C.seqK | apply C.regionK); intro _ _) | (apply R.buildSlice0; exact rfl; intro bz) | (apply R.box; exact rfl; (simp only [Value.cells]; rfl); exact rfl; intro bx) | (apply R.alloc; (simp only [Value.cells]; rfl); exact rfl; intro ba) | (apply R.buildSlice; (exact a_prt); exact rfl; exact rfl; (exact a_fills); exact rfl; intro bl) | (refine a_sp ?_ ?_; (intro h; skip; rotate_left; intro h; skip; rotate_left)) | fail))
    (apply Fin.returnA (H2 := (nb, o2) :: H); assumption; (first | exact .inl rfl | exact .inr rfl); exact rfl; (exact a_res); (simp only [retv]; rfl); (exact a_arr))
    exact ⟨rfl, Mem.le_refl _, o2, ⟨_, hm2, hr.put hb4⟩, rfl⟩
  | ren n t =>
    subst hx
    have hg := (hr.get hn n).1
    have hr2 := hr.del (k := n)
    (repeat' (first | (apply R.step; (apply Ok.move; exact rfl); exact rfl) | (apply R.step; (apply Ok.lookupS1 (o := o); exact rfl; exact rfl; exact a_mm; exact hm); exact rfl) | refine a_go ?_ | (with_reducible apply Fin.thenK; assumption) | (with_reducible (first | apply C.seqK | apply C.regionK); intro _ _) | (apply R.buildSlice0; exact rfl; intro bz) | (apply R.box; exact rfl; (simp only [Value.cells]; rfl); exact rfl; intro bx) | (apply R.alloc; (simp only [Value.cells]; rfl); exact rfl; intro ba) | (apply R.buildSlice; (exact a_prt); exact rfl; exact rfl; (exact a_fills); exact rfl; intro bl) | (refine a_sp ?_ ?_; (intro h; skip; rotate_left; intro h; skip; rotate_left)) | fail))
    (apply R.delS (k := n) (l := l) (o := o); exact rfl; exact rfl; (exact a_at); exact hm; exact rfl; intro o2 hm2)
    (repeat' (first | refine a_go ?_ | (with_reducible apply Fin.thenK; assumption) | (with_reducible (first | apply C.seqK | apply C.regionK); intro _ _) | (apply R.buildSlice0; exact rfl; intro bz) | (apply R.box; exact rfl; (simp only [Value.cells]; rfl); exact rfl; intro bx) | (apply R.alloc; (simp only [Value.cells]; rfl); exact rfl; intro ba) | (apply R.buildSlice; (exact a_prt); exact rfl; exact rfl; (exact a_fills); exact rfl; intro bl) | (refine a_sp ?_ ?_; (intro h; skip; rotate_left; intro h; skip; rotate_left)) | fail))
    (apply R.putS (k := t) (v := (getS l n).getD (.slice none 0 0)) (l := delS l n) (o := o2); exact rfl; exact rfl; exact rfl; (exact a_at); exact hm2; intro o3 hm3)
    (repeat' (first | refine a_go ?_ | (with_reducible apply Fin.thenK; assumption) | (with_reducible (first | apply C.seqK | apply C.regionK); intro _ _) | (apply R.buildSlice0; exact rfl; intro bz) | (apply R.box; exact rfl; (simp only [Value.cells]; rfl); exact rfl; intro bx) | (apply R.alloc; (simp only [Value.cells]; rfl); exact rfl; intro ba) | (apply R.buildSlice; (exact a_prt); exact rfl; exact rfl; (exact a_fills); exact rfl; intro bl) | (refine a_sp ?_ ?_; (intro h; skip; rotate_left; intro h; skip; rotate_left)) | fail))
    (apply Fin.returnA (H2 := (nb, o3) :: H); assumption; (first | exact .inl rfl | exact .inr rfl); exact rfl; (exact a_res); (simp only [retv]; rfl); (exact a_arr))
    exact ⟨rfl, Mem.le_refl _, o3, ⟨_, hm3, hr2.put hg⟩, rfl⟩
  | rem n =>
    subst hx
    have hr2 := hr.del (k := n)
    (repeat' (first | refine a_go ?_ | (with_reducible apply Fin.thenK; assumption) | (with_reducible (first | apply C.seqK | apply C.regionK); intro _ _) | (apply R.buildSlice0; exact rfl; intro bz) | (apply R.box; exact rfl; (simp only [Value.cells]; rfl); exact rfl; intro bx) | (apply R.alloc; (simp only [Value.cells]; rfl); exact rfl; intro ba) | (apply R.buildSlice; (exact a_prt); exact rfl; exact rfl; (exact a_fills); exact rfl; intro bl) | (refine a_sp ?_ ?_; (intro h; skip; rotate_left; intro h; skip; rotate_left)) | fail))
    (apply R.delS (k := n) (l := l) (o := o); exact rfl; exact rfl; (exact a_at); exact hm; exact rfl; intro o2 hm2)
    (repeat' (first | refine a_go ?_ | (with_reducible apply Fin.thenK; assumption) | (with_reducible (first | apply C.seqK | apply C.regionK); intro _ _) | (apply R.buildSlice0; exact rfl; intro bz) | (apply R.box; exact rfl; (simp only [Value.cells]; rfl); exact rfl; intro bx) | (apply R.alloc; (simp only [Value.cells]; rfl); exact rfl; intro ba) | (apply R.buildSlice; (exact a_prt); exact rfl; exact rfl; (exact a_fills); exact rfl; intro bl) | (refine a_sp ?_ ?_; (intro h; skip; rotate_left; intro h; skip; rotate_left)) | fail))
    (apply Fin.returnA (H2 := (nb, o2) :: H); assumption; (first | exact .inl rfl | exact .inr rfl); exact rfl; (exact a_res); (simp only [retv]; rfl); (exact a_arr))
    exact ⟨rfl, Mem.le_refl _, o2, ⟨_, hm2, hr2⟩, rfl⟩
end Go.Sx
end
section
namespace Go.Sx
open Go Go.Proofs Go.RowKit
attribute [local irreducible] C R Fin K Own OwnT Rd Pl Ok KOf RetOk OpsOf RP KP Res NoPanic KV KE MapS ItS EntS FsO FsR
variable {M M' : Mem} {H H1 H2 : Hp}
def dkB (room : Int) (sb nb : Nat) (pv : Value) (fuse : Int) (down : Bool) : Obj := .cells [.int .i64 room, .map (some sb), .map (some nb), pv, .int .i64 fuse, .bool down].toArray 61 (0, 0)
theorem counts_K {db sb nb : Nat} {room fuse : Int} {pv : Value} {down : Bool} (hf : -1 ≤ fuse ∧ fuse ≤ 9223372036854775807) : K Try.prog 38 [.pointer (some ⟨db, 0, none⟩)] M ((db, dkB room sb nb pv fuse down) :: H) fun v' M' H' => M' = M ∧
    ((v' = .bool false ∧ (down = true ∨ fuse = 0) ∧ H' = (db, dkB room sb nb pv fuse true) :: H) ∨ (v' = .bool true ∧ down = false ∧ fuse ≠ 0 ∧ H' = (db, dkB room sb nb pv (if 0 < fuse then fuse - 1 else fuse) false) :: H)) := by
  refine K.enterK Try.func38 rfl rfl rfl ?_
  intro Q hNP hQ
  unfold dkB at hQ ⊢
  cases down with
  | true =>
    (repeat' (first | refine a_go ?_ | (with_reducible apply Fin.thenK; assumption) | (with_reducible (first | apply C.seqK | apply C.regionK); intro _ _) | (apply R.buildSlice0; exact rfl; intro bz) | (apply R.box; exact rfl; (simp only [Value.cells]; rfl); exact rfl; intro bx) | (apply R.alloc; (simp only [Value.cells]; rfl); exact rfl; intro ba) | (apply R.buildSlice; (exact a_prt); exact rfl; exact rfl; (exact a_fills); exact rfl; intro bl) | (refine a_sp ?_ ?_; (intro h; skip; rotate_left; intro h; skip; rotate_left)) | fail))
    · (refine Fin.rt ?_)
      exact ⟨rfl, .inl ⟨rfl, .inl rfl, rfl⟩⟩
    · (refine Fin.rt ?_)
      exact ⟨rfl, .inl ⟨rfl, .inl rfl, rfl⟩⟩
  | false =>
    (repeat' (first | refine a_go ?_ | (with_reducible apply Fin.thenK; assumption) | (with_reducible (first | apply C.seqK | apply C.regionK); intro _ _) | (apply R.buildSlice0; exact rfl; intro bz) | (apply R.box; exact rfl; (simp only [Value.cells]; rfl); exact rfl; intro bx) | (apply R.alloc; (simp only [Value.cells]; rfl); exact rfl; intro ba) | (apply R.buildSlice; (exact a_prt); exact rfl; exact rfl; (exact a_fills); exact rfl; intro bl) | (refine a_sp ?_ ?_; (intro h; skip; rotate_left; intro h; skip; rotate_left)) | fail))
    · have h : fuse = 0 := by assumption
      (refine Fin.rt ?_)
      exact ⟨rfl, .inl ⟨rfl, .inr h, rfl⟩⟩
    · have h : fuse ≠ 0 := by assumption
      have h2 : 0 < fuse := by assumption
      (refine Fin.rt ?_)
      exact ⟨rfl, .inr ⟨rfl, rfl, h, by rw [if_pos h2]⟩⟩
    · have h : fuse ≠ 0 := by assumption
      have h2 : ¬ 0 < fuse := by assumption
      (refine Fin.rt ?_)
      exact ⟨rfl, .inr ⟨rfl, rfl, h, by rw [if_neg h2]⟩⟩
def namedB (n : Txt) : Bool := decide (1 ≤ n.length ∧ n.length ≤ 16)
theorem named_K {n : Txt} (hn : n.length ≤ 9223372036854775807) : K Try.prog 64 [str n] M H fun v' M' H' => v' = .bool (namedB n) ∧ M' = M ∧ H' = H := by
  refine K.enterK Try.func64 rfl rfl rfl ?_
  intro Q hNP hQ
  unfold str
  (repeat' (first | refine a_go ?_ | (with_reducible apply Fin.thenK; assumption) | (with_reducible (first | apply C.seqK | apply C.regionK); intro _ _) | (apply R.buildSlice0; exact rfl; intro bz) | (apply R.box; exact rfl; (simp only [Value.cells]; rfl); exact rfl; intro bx) | (apply R.alloc; (simp only [Value.cells]; rfl); exact rfl; intro ba) | (apply R.buildSlice; (exact a_prt); exact rfl; exact rfl; (exact a_fills); exact rfl; intro bl) | (refine a_sp ?_ ?_; (intro h; skip; rotate_left; intro h; skip; rotate_left)) | fail))
  · have h : (1 : Int) ≤ (n.length : Int) := by assumption
    (refine Fin.rt ?_)
    refine ⟨?_, rfl, rfl⟩
    unfold namedB
    congr 1
    rw [decide_eq_decide]
    have hz : (⟨n.toArray⟩ : ByteArray).size = n.length := List.size_toArray ..
    constructor <;> intro <;> omega
  · have h : ¬ (1 : Int) ≤ (n.length : Int) := by assumption
    (refine Fin.rt ?_)
    refine ⟨?_, rfl, rfl⟩
    unfold namedB
    rw [decide_eq_false (fun h1 => h (by omega))]
theorem within_K (x m : Int) (hm : 0 < m) (hm2 : m ≤ 9223372036854775807) : K Try.prog 40 [.int .i64 x, .int .i64 m] M H fun v M' H' => v = .int .i64 (x % m) ∧ M' = M ∧ H' = H := by
  obtain ⟨he, h1, h2⟩ := pick_eq x m hm
  refine K.enterK Try.func40 rfl rfl rfl ?_
  intro Q hNP hQ
  (repeat' (first | (apply R.step; (exact a_ok); exact rfl) | (first | (with_reducible first | apply R.nil | apply C.ret | apply C.block | apply C.skip | apply C.exit | apply Fin.thenRet | apply Fin.thenExit | apply Fin.blockNormal | apply Fin.blockRet | apply Fin.blockExit) | (with_reducible apply Fin.thenK; assumption) | (with_reducible apply C.seqK; intro _ _) | (with_reducible apply C.regionK; intro _ _) | (with_reducible apply C.regionQK; exact Mix.h; kernel_rfl; intro _ _) | (with_reducible apply Fin.blockOther; exact rfl)) | (first | (apply R.store; exact rfl; exact rfl; exact rfl; (exact a_at); (exact a_blit); exact rfl; (focus (simp [Value.oneCell']; done))) | (apply R.buildSlice0; exact rfl; intro bz) | (apply R.box; exact rfl; (simp only [Value.cells]; rfl); exact rfl; intro bx) | (apply R.alloc; (simp only [Value.cells]; rfl); exact rfl; intro ba) | (apply R.buildSlice; (exact a_prt); exact rfl; exact rfl; (exact a_fills); exact rfl; intro bl)) | (first | (apply R.guardT; assumption; exact rfl; exact rfl; exact rfl) | (apply R.guardF; assumption; exact rfl; exact rfl; exact rfl; exact rfl; exact rfl) | (apply R.guardU; assumption; exact rfl; exact rfl; exact rfl; exact rfl) | (apply R.guardDec; assumption; exact rfl; exact rfl; (intro h; skip; rotate_left; intro h; skip; rotate_left)) | (apply R.guardBeq; assumption; exact rfl; exact rfl; (intro h; skip; rotate_left; intro h; skip; rotate_left)) | (apply R.guardBne; assumption; exact rfl; exact rfl; (intro h; skip; rotate_left; intro h; skip; rotate_left)) | (apply R.guardNDec; assumption; exact rfl; exact rfl; (intro h; skip; rotate_left; intro h; skip; rotate_left)) | (apply R.guardNot; assumption; exact rfl; exact rfl; (intro h; skip; rotate_left; intro h; skip; rotate_left)) | (apply R.guardC; assumption; exact rfl; exact rfl; (intro h; skip; rotate_left; intro h; skip; rotate_left))) | (first | (apply C.condT; exact rfl) | (apply C.condF; exact rfl) | (apply C.condDec; exact rfl; (intro h; skip; rotate_left; intro h; skip; rotate_left)) | (apply C.condBeq; exact rfl; (intro h; skip; rotate_left; intro h; skip; rotate_left)) | (apply C.condBne; exact rfl; (intro h; skip; rotate_left; intro h; skip; rotate_left)) | (apply C.condNDec; exact rfl; (intro h; skip; rotate_left; intro h; skip; rotate_left)) | (apply C.condNot; exact rfl; (intro h; skip; rotate_left; intro h; skip; rotate_left)) | (apply C.cond; exact rfl; (intro h; skip; rotate_left; intro h; skip; rotate_left)))))
  · (refine Fin.rt ?_)
    have h : x.tmod m < 0 := by assumption
    exact ⟨by rw [← he, if_pos h], rfl, rfl⟩
  · (refine Fin.rt ?_)
    have h : ¬ x.tmod m < 0 := by assumption
    exact ⟨by rw [← he, if_neg h], rfl, rfl⟩
def usedD (down : Bool) (F : Fs) : Nat := if down then 0 else sumF F
structure UsX where
  a : Nat
  oi : Obj
  rest : ML
  G : Fs
theorem used_K {db sb nb : Nat} {room fuse : Int} {pv : Value} {down : Bool} {no : Obj} {F : Fs} (hf : FsO M no F) (hs : sumF F ≤ 1099511627776) : K Try.prog 56 [.pointer (some ⟨db, 0, none⟩)] M ((db, dkB room sb nb pv fuse down) :: (nb, no) :: H) fun v' M' H' => v' = .int .i64 (usedD down F : Int) ∧ M' = M ∧ H' = (db, dkB room sb nb pv fuse down) :: (nb, no) :: H := by
  obtain ⟨l, hm, hr, hn⟩ := hf.use
  clear hf
  refine K.enterK Try.func56 rfl rfl rfl ?_
  intro Q hNP hQ
  unfold dkB at hQ ⊢
  (repeat' (first | refine a_go ?_ | (with_reducible apply Fin.thenK; assumption) | (with_reducible (first | apply C.seqK | apply C.regionK); intro _ _) | (apply R.buildSlice0; exact rfl; intro bz) | (apply R.box; exact rfl; (simp only [Value.cells]; rfl); exact rfl; intro bx) | (apply R.alloc; (simp only [Value.cells]; rfl); exact rfl; intro ba) | (apply R.buildSlice; (exact a_prt); exact rfl; exact rfl; (exact a_fills); exact rfl; intro bl) | (refine a_sp ?_ ?_; (intro h; skip; rotate_left; intro h; skip; rotate_left)) | fail))
  (apply R.rangeS (b := nb) (o := no); exact rfl; exact a_mm; exact hm; exact rfl; intro it oi hit)
  (repeat' (first | refine a_go ?_ | (with_reducible apply Fin.thenK; assumption) | (with_reducible (first | apply C.seqK | apply C.regionK); intro _ _) | (apply R.buildSlice0; exact rfl; intro bz) | (apply R.box; exact rfl; (simp only [Value.cells]; rfl); exact rfl; intro bx) | (apply R.alloc; (simp only [Value.cells]; rfl); exact rfl; intro ba) | (apply R.buildSlice; (exact a_prt); exact rfl; exact rfl; (exact a_fills); exact rfl; intro bl) | (refine a_sp ?_ ?_; (intro h; skip; rotate_left; intro h; skip; rotate_left)) | fail))
  apply C.loop (fun y : UsX => ItS y.oi no nb y.rest ∧ FsR M y.rest y.G ∧ y.a + usedD down y.G = usedD down F) (fun y => [(0, .pointer (some ⟨db, 0, none⟩)), (3, .int .i64 (y.a : Int)), (10, .pointer (some ⟨it, 0, none⟩))]) (fun _ => M) (fun y => (it, y.oi) :: (db, .cells [.int .i64 room, .map (some sb), .map (some nb), pv, .int .i64 fuse, .bool down].toArray 61 (0, 0)) :: (nb, no) :: H) (fun y => y.rest.length) ⟨0, oi, l, F⟩
  · exact ⟨hit, hr, Nat.zero_add _⟩
  · (exact a_subs)
  · exact rfl
  · exact rfl
  rintro ⟨a, oi, rest, G⟩ ⟨h1, h2, h3⟩
  dsimp only at h1 h2 h3 ⊢
  have hb : usedD down F ≤ 1099511627776 := by
    unfold usedD
    split <;> omega
  (repeat' (first | refine a_go ?_ | (with_reducible apply Fin.thenK; assumption) | (with_reducible (first | apply C.seqK | apply C.regionK); intro _ _) | (apply R.buildSlice0; exact rfl; intro bz) | (apply R.box; exact rfl; (simp only [Value.cells]; rfl); exact rfl; intro bx) | (apply R.alloc; (simp only [Value.cells]; rfl); exact rfl; intro ba) | (apply R.buildSlice; (exact a_prt); exact rfl; exact rfl; (exact a_fills); exact rfl; intro bl) | (refine a_sp ?_ ?_; (intro h; skip; rotate_left; intro h; skip; rotate_left)) | fail))
  apply R.nextS (it := it) (oi := oi) (b := nb) (o := no)
  · exact rfl
  · (exact a_at)
  · exact a_mm
  · exact h1
  · exact rfl
  · intro hz
    subst hz
    have hG : G = [] := List.eq_nil_of_length_eq_zero h2.len.symm
    subst hG
    (repeat' (first | refine a_go ?_ | (with_reducible apply Fin.thenK; assumption) | (with_reducible (first | apply C.seqK | apply C.regionK); intro _ _) | (apply R.buildSlice0; exact rfl; intro bz) | (apply R.box; exact rfl; (simp only [Value.cells]; rfl); exact rfl; intro bx) | (apply R.alloc; (simp only [Value.cells]; rfl); exact rfl; intro ba) | (apply R.buildSlice; (exact a_prt); exact rfl; exact rfl; (exact a_fills); exact rfl; intro bl) | (refine a_sp ?_ ?_; (intro h; skip; rotate_left; intro h; skip; rotate_left)) | fail))
    (apply Fin.returnA (H2 := (db, .cells [.int .i64 room, .map (some sb), .map (some nb), pv, .int .i64 fuse, .bool down].toArray 61 (0, 0)) :: (nb, no) :: H); assumption; (first | exact .inl rfl | exact .inr rfl); exact rfl; (exact a_res); (simp only [retv]; rfl); (exact a_arr))
    refine ⟨?_, rfl, rfl⟩
    have hz : usedD down [] = 0 := by unfold usedD; split <;> rfl
    rw [hz] at h3
    rw [← h3]
    rfl
  · intro r1 k v r2 oi2 hrest h5 h6
    subst hrest
    obtain ⟨b, G2, q1, q2, q3⟩ := h2.mid
    obtain ⟨A1, c1, rfl, _, _, _⟩ := q1
    have hG : sumF G = b.length + sumF G2 := (sumF_perm q2).trans sumF_cons
    have hl : (r1 ++ r2).length < (r1 ++ (k, Value.slice A1 b.length c1) :: r2).length := by
      rw [List.length_append, List.length_append, List.length_cons]
      omega
    cases down with
    | true =>
      (repeat' (first | (apply R.step; (apply Ok.move; exact rfl); exact rfl) | (apply R.step; (apply Ok.entryS (h := h6); exact rfl; exact a_mm; exact a_mm); exact rfl) | refine a_go ?_ | (with_reducible apply Fin.thenK; assumption) | (with_reducible (first | apply C.seqK | apply C.regionK); intro _ _) | (apply R.buildSlice0; exact rfl; intro bz) | (apply R.box; exact rfl; (simp only [Value.cells]; rfl); exact rfl; intro bx) | (apply R.alloc; (simp only [Value.cells]; rfl); exact rfl; intro ba) | (apply R.buildSlice; (exact a_prt); exact rfl; exact rfl; (exact a_fills); exact rfl; intro bl) | (refine a_sp ?_ ?_; (intro h; skip; rotate_left; intro h; skip; rotate_left)) | fail))
      refine Fin.again (⟨a, oi2, r1 ++ r2, G2⟩ : UsX) ⟨h5, q3, h3⟩ hl ?_ rfl rfl
      (exact a_subs)
    | false =>
      have h4 : a + (b.length + sumF G2) = sumF F := by
        rw [← hG]
        exact h3
      (repeat' (first | (apply R.step; (apply Ok.move; exact rfl); exact rfl) | (apply R.step; (apply Ok.entryS (h := h6); exact rfl; exact a_mm; exact a_mm); exact rfl) | refine a_go ?_ | (with_reducible apply Fin.thenK; assumption) | (with_reducible (first | apply C.seqK | apply C.regionK); intro _ _) | (apply R.buildSlice0; exact rfl; intro bz) | (apply R.box; exact rfl; (simp only [Value.cells]; rfl); exact rfl; intro bx) | (apply R.alloc; (simp only [Value.cells]; rfl); exact rfl; intro ba) | (apply R.buildSlice; (exact a_prt); exact rfl; exact rfl; (exact a_fills); exact rfl; intro bl) | (refine a_sp ?_ ?_; (intro h; skip; rotate_left; intro h; skip; rotate_left)) | fail))
      refine Fin.again (⟨a + b.length, oi2, r1 ++ r2, G2⟩ : UsX) ⟨h5, q3, by show a + b.length + sumF G2 = sumF F; omega⟩ hl ?_ rfl rfl
      (exact a_subs)
end Go.Sx
end
section
namespace Go.Sx
open Go Go.Proofs Go.RowKit
attribute [local irreducible] C R Fin K Own OwnT Rd Pl Ok KOf RetOk OpsOf RP KP Res NoPanic KV KE MapS ItS EntS FsO FsR
variable {M M' : Mem} {H H1 H2 : Hp}
structure StX where
  so : Obj
  D : Fs
  oi : Obj
  rest : ML
  G : Fs
theorem FsO.put {o' : Obj} {l : ML} {F : Fs} {k : Txt} {v : Value} {b : Txt} (h : FsR M l F) (hv : PlB M v b) (hm : MapS o' (putS l k v)) : FsO M o' (putS F k b) := by
  unfold FsO
  exact ⟨_, hm, h.put hv⟩
theorem settle_K {db sb nb : Nat} {room fuse : Int} {pv : Value} {down : Bool} {no : Obj} {F : Fs} (hf : FsO M no F) : K Try.prog 39 [.pointer (some ⟨db, 0, none⟩)] M ((db, dkB room sb nb pv fuse down) :: (nb, no) :: H) fun v' M' H' => v' = .tuple #[] ∧ M' = M ∧ ∃ sb' so, FsO M so F ∧ H' = (db, dkB room sb' nb (.slice none 0 0) fuse down) :: (nb, no) :: (sb', so) :: H := by
  have hnF := hf.nodup
  obtain ⟨l, hm, hr, hn⟩ := hf.use
  clear hf
  refine K.enterK Try.func39 rfl rfl rfl ?_
  intro Q hNP hQ
  unfold dkB at hQ ⊢
  (repeat' (first | refine a_go ?_ | (with_reducible apply Fin.thenK; assumption) | (with_reducible (first | apply C.seqK | apply C.regionK); intro _ _) | (apply R.buildSlice0; exact rfl; intro bz) | (apply R.box; exact rfl; (simp only [Value.cells]; rfl); exact rfl; intro bx) | (apply R.alloc; (simp only [Value.cells]; rfl); exact rfl; intro ba) | (apply R.buildSlice; (exact a_prt); exact rfl; exact rfl; (exact a_fills); exact rfl; intro bl) | (refine a_sp ?_ ?_; (intro h; skip; rotate_left; intro h; skip; rotate_left)) | fail))
  (apply R.makeMap; exact rfl; intro bs)
  (repeat' (first | refine a_go ?_ | (with_reducible apply Fin.thenK; assumption) | (with_reducible (first | apply C.seqK | apply C.regionK); intro _ _) | (apply R.buildSlice0; exact rfl; intro bz) | (apply R.box; exact rfl; (simp only [Value.cells]; rfl); exact rfl; intro bx) | (apply R.alloc; (simp only [Value.cells]; rfl); exact rfl; intro ba) | (apply R.buildSlice; (exact a_prt); exact rfl; exact rfl; (exact a_fills); exact rfl; intro bl) | (refine a_sp ?_ ?_; (intro h; skip; rotate_left; intro h; skip; rotate_left)) | fail))
  (apply R.rangeS (b := nb) (o := no); exact rfl; exact a_mm; exact hm; exact rfl; intro it oi hit)
  (repeat' (first | refine a_go ?_ | (with_reducible apply Fin.thenK; assumption) | (with_reducible (first | apply C.seqK | apply C.regionK); intro _ _) | (apply R.buildSlice0; exact rfl; intro bz) | (apply R.box; exact rfl; (simp only [Value.cells]; rfl); exact rfl; intro bx) | (apply R.alloc; (simp only [Value.cells]; rfl); exact rfl; intro ba) | (apply R.buildSlice; (exact a_prt); exact rfl; exact rfl; (exact a_fills); exact rfl; intro bl) | (refine a_sp ?_ ?_; (intro h; skip; rotate_left; intro h; skip; rotate_left)) | fail))
  apply C.arr (H2 := (it, oi) :: (db, .cells [.int .i64 room, .map (some bs), .map (some nb), pv, .int .i64 fuse, .bool down].toArray 61 (0, 0)) :: (nb, no) :: (bs, .map #[] 0) :: H) (by ((try simp only [List.append_assoc, List.cons_append, List.nil_append, List.append_nil]); exact a_arr))
  apply C.loop (fun y : StX => ItS y.oi no nb y.rest ∧ FsR M y.rest y.G ∧ FsO M y.so y.D ∧ F.Perm (y.D ++ y.G)) (fun y => [(0, .pointer (some ⟨db, 0, none⟩)), (12, .pointer (some ⟨it, 0, none⟩))]) (fun _ => M) (fun y => (it, y.oi) :: (db, .cells [.int .i64 room, .map (some bs), .map (some nb), pv, .int .i64 fuse, .bool down].toArray 61 (0, 0)) :: (nb, no) :: (bs, y.so) :: H) (fun y => y.rest.length) ⟨.map #[] 0, [], oi, l, F⟩
  · exact ⟨hit, hr, FsO.empty, List.Perm.refl _⟩
  · (exact a_subs)
  · exact rfl
  · exact rfl
  rintro ⟨so, D, oi, rest, G⟩ ⟨h1, h2, h3, h4⟩
  dsimp only at h1 h2 h3 h4 ⊢
  (repeat' (first | refine a_go ?_ | (with_reducible apply Fin.thenK; assumption) | (with_reducible (first | apply C.seqK | apply C.regionK); intro _ _) | (apply R.buildSlice0; exact rfl; intro bz) | (apply R.box; exact rfl; (simp only [Value.cells]; rfl); exact rfl; intro bx) | (apply R.alloc; (simp only [Value.cells]; rfl); exact rfl; intro ba) | (apply R.buildSlice; (exact a_prt); exact rfl; exact rfl; (exact a_fills); exact rfl; intro bl) | (refine a_sp ?_ ?_; (intro h; skip; rotate_left; intro h; skip; rotate_left)) | fail))
  apply R.nextS (it := it) (oi := oi) (b := nb) (o := no)
  · exact rfl
  · (exact a_at)
  · exact a_mm
  · exact h1
  · exact rfl
  · intro hz
    subst hz
    have hG : G = [] := List.eq_nil_of_length_eq_zero h2.len.symm
    subst hG
    (repeat' (first | refine a_go ?_ | (with_reducible apply Fin.thenK; assumption) | (with_reducible (first | apply C.seqK | apply C.regionK); intro _ _) | (apply R.buildSlice0; exact rfl; intro bz) | (apply R.box; exact rfl; (simp only [Value.cells]; rfl); exact rfl; intro bx) | (apply R.alloc; (simp only [Value.cells]; rfl); exact rfl; intro ba) | (apply R.buildSlice; (exact a_prt); exact rfl; exact rfl; (exact a_fills); exact rfl; intro bl) | (refine a_sp ?_ ?_; (intro h; skip; rotate_left; intro h; skip; rotate_left)) | fail))
    (apply Fin.returnA (H2 := (db, .cells [.int .i64 room, .map (some bs), .map (some nb), .slice none 0 0, .int .i64 fuse, .bool down].toArray 61 (0, 0)) :: (nb, no) :: (bs, so) :: H); assumption; (first | exact .inl rfl | exact .inr rfl); exact rfl; (exact a_res); (simp only [retv]; rfl); (exact a_arr))
    rw [List.append_nil] at h4
    exact ⟨rfl, rfl, bs, so, h3.perm h4.symm, rfl⟩
  · intro r1 k v r2 oi2 hrest h5 h6
    subst hrest
    obtain ⟨b, G2, q1, q2, q3⟩ := h2.mid
    have hl : (r1 ++ r2).length < (r1 ++ (k, v) :: r2).length := by
      rw [List.length_append, List.length_append, List.length_cons]
      omega
    obtain ⟨l2, hm2, hr2, _⟩ := h3.use
    have hp : F.Perm ((D ++ [(k, b)]) ++ G2) := h4.trans ((q2.append_left D).trans (by rw [List.append_assoc]; exact List.Perm.refl _))
    have hkD : k ∉ keyS D := by
      have h7 := (hp.map Prod.fst).nodup_iff.1 hnF
      rw [List.append_assoc, List.map_append, List.nodup_append] at h7
      intro hk
      exact h7.2.2 k hk k (List.mem_cons_self ..) rfl
    (repeat' (first | (apply R.step; (apply Ok.move; exact rfl); exact rfl) | (apply R.step; (apply Ok.entryS (h := h6); exact rfl; exact a_mm; exact a_mm); exact rfl) | refine a_go ?_ | (with_reducible apply Fin.thenK; assumption) | (with_reducible (first | apply C.seqK | apply C.regionK); intro _ _) | (apply R.buildSlice0; exact rfl; intro bz) | (apply R.box; exact rfl; (simp only [Value.cells]; rfl); exact rfl; intro bx) | (apply R.alloc; (simp only [Value.cells]; rfl); exact rfl; intro ba) | (apply R.buildSlice; (exact a_prt); exact rfl; exact rfl; (exact a_fills); exact rfl; intro bl) | (refine a_sp ?_ ?_; (intro h; skip; rotate_left; intro h; skip; rotate_left)) | fail))
    (apply R.putS (k := k) (v := v) (l := l2) (o := so); exact rfl; exact rfl; exact rfl; (exact a_at); exact hm2; intro o2 hm3)
    have h7 : FsO M o2 (D ++ [(k, b)]) := by
      have := FsO.put hr2 q1 hm3
      rw [putS_new hkD] at this
      exact this
    (repeat' (first | refine a_go ?_ | (with_reducible apply Fin.thenK; assumption) | (with_reducible (first | apply C.seqK | apply C.regionK); intro _ _) | (apply R.buildSlice0; exact rfl; intro bz) | (apply R.box; exact rfl; (simp only [Value.cells]; rfl); exact rfl; intro bx) | (apply R.alloc; (simp only [Value.cells]; rfl); exact rfl; intro ba) | (apply R.buildSlice; (exact a_prt); exact rfl; exact rfl; (exact a_fills); exact rfl; intro bl) | (refine a_sp ?_ ?_; (intro h; skip; rotate_left; intro h; skip; rotate_left)) | fail))
    refine Fin.again (⟨o2, D ++ [(k, b)], oi2, r1 ++ r2, G2⟩ : StX) ⟨h5, q3, h7, hp⟩ hl ?_ rfl rfl
    (exact a_subs)
def RowD (M : Mem) (v : Value) (ps : List De) (hp : Hp) : Prop := ∃ cs : List (List Value), OwnT 83 5 v ps.length cs.flatten hp ∧ cs.length = ps.length ∧ ∀ (i : Nat) (x : De) (c : List Value), ps[i]? = some x → cs[i]? = some c → DeC M x c
theorem RowD.mono {v : Value} {ps : List De} {hp : Hp} (hM : M.le M') (h : RowD M v ps hp) : RowD M' v ps hp := by
  obtain ⟨cs, h1, h2, h3⟩ := h
  exact ⟨cs, h1, h2, fun i x c hx hc => (h3 i x c hx hc).mono hM⟩
theorem RowD.nil : RowD M (.slice none 0 0) [] [] := ⟨[], OwnT.nil _ _, rfl, fun i x c hx => by simp at hx⟩
theorem RowD.snoc {cs : List (List Value)} {v : Value} {ps : List De} {hp : Hp} {x : De} {c : List Value} (h1 : OwnT 83 5 v (ps.length + 1) (cs.flatten ++ c) hp) (h2 : cs.length = ps.length) (h3 : ∀ (i : Nat) (x : De) (c : List Value), ps[i]? = some x → cs[i]? = some c → DeC M x c) (hx : DeC M x c) : RowD M v (ps ++ [x]) hp := by
  refine ⟨cs ++ [c], ?_, by rw [List.length_append, List.length_append, h2]; rfl, fun i x' c' hx' hc' => ?_⟩
  · rw [List.flatten_append, List.length_append]
    rw [show [c].flatten = c by simp]
    exact h1
  · by_cases hi : i < ps.length
    · rw [List.getElem?_append_left hi] at hx'
      rw [List.getElem?_append_left (by omega)] at hc'
      exact h3 i _ _ hx' hc'
    · rw [List.getElem?_append_right (by omega)] at hx'
      rw [List.getElem?_append_right (by omega), h2] at hc'
      obtain ⟨j, hj⟩ : ∃ j, j = i - ps.length := ⟨_, rfl⟩
      rw [← hj] at hx' hc'
      cases j with
      | zero =>
        injection hx' with hx'
        injection hc' with hc'
        rw [← hx', ← hc']
        exact hx
      | succ j => simp at hx'
theorem put_K {db sb nb : Nat} {room fuse : Int} {pv : Value} {down : Bool} {no : Obj} {F : Fs} {ps : List De} {hp : Hp} {x : De} {c : List Value} (hf : FsO M no F) (hrow : RowD M pv ps hp) (hx : DeC M x c) (hfit : Fit F x) (hlen : ps.length ≤ 1000000) : K Try.prog 65 [.pointer (some ⟨db, 0, none⟩), .agg c.toArray] M ((db, dkB room sb nb pv fuse down) :: (nb, no) :: (hp ++ H)) fun v' M' H' => v' = .int .i64 0 ∧ M.le M' ∧ ∃ pv' hp' no', FsO M' no' (doF F x) ∧ RowD M' pv' (ps ++ [x]) hp' ∧ H' = (db, dkB room sb nb pv' fuse down) :: (nb, no') :: (hp' ++ H) := by
  obtain ⟨cs, hot, hcl, hcd⟩ := hrow
  refine K.enterK Try.func65 rfl rfl rfl ?_
  intro Q hNP hQ
  unfold dkB at hQ ⊢
  obtain ⟨A1, c1, rfl, _, _⟩ := hot.form
  have hc5 := hx.cells
  obtain ⟨c0, c1', c2, c3, c4, rfl⟩ : ∃ c0 c1 c2 c3 c4, c = [c0, c1, c2, c3, c4] := by
    match c, hc5.1 with
    | [a, b, c, d, e], _ => exact ⟨a, b, c, d, e, rfl⟩
  (repeat' (first | refine a_go ?_ | (with_reducible apply Fin.thenK; assumption) | (with_reducible (first | apply C.seqK | apply C.regionK); intro _ _) | (apply R.buildSlice0; exact rfl; intro bz) | (apply R.box; exact rfl; (simp only [Value.cells]; rfl); exact rfl; intro bx) | (apply R.alloc; (simp only [Value.cells]; rfl); exact rfl; intro ba) | (apply R.buildSlice; (exact a_prt); exact rfl; exact rfl; (exact a_fills); exact rfl; intro bl) | (refine a_sp ?_ ?_; (intro h; skip; rotate_left; intro h; skip; rotate_left)) | fail))
  apply C.arr (H2 := (bx, .cells [c0, c1', c2, c3, c4].toArray 83 (0, 0)) :: (db, .cells [.int .i64 room, .map (some sb), .map (some nb), .slice A1 ps.length c1, .int .i64 fuse, .bool down].toArray 61 (0, 0)) :: (hp ++ ((nb, no) :: H))) (by ((try simp only [List.append_assoc, List.cons_append, List.nil_append, List.append_nil]); exact a_arr))
  (apply C.regionE (isA := [0, 1, 2, 3, 4, 5, 6, 7]) (ksA := [true, true, true, true, true, true, false, false]) (isB := [8, 9, 10]) (ksB := [1, 1, 0]) (Hs := [(bx, .cells [c0, c1', c2, c3, c4].toArray 83 (0, 0)), (db, .cells [.int .i64 room, .map (some sb), .map (some nb), .slice A1 ps.length c1, .int .i64 fuse, .bool down].toArray 61 (0, 0))]); exact Mix.h; (first | exact Arr.all _ | (exact a_arr)); (exact a_np); (exact a_picked); (exact a_picked); kernel_rfl; intro _ e; subst e)
  (repeat' (first | fail | (apply RQ.step; intro _ _ _; (exact a_ok); exact rfl) | (apply RQ.stepT; exact rfl; exact rfl; exact rfl; intro _ _ _; (exact a_ok); exact rfl) | (apply RQ.stepF; exact rfl; exact rfl; exact rfl; exact rfl; exact rfl)))
  (apply RQ.eff; intro Kc hKc ops0)
  (apply R.buildSlice; (exact a_prt); exact rfl; exact rfl; (exact a_fills); exact rfl; intro bl)
  (apply R.nil; apply Fin.kq hKc; exact Mem.le_refl _; (exact a_arr))
  (apply RQ.eff; intro Kc hKc ops0)
  (apply R.appendT (news := [c0, c1', c2, c3, c4]) (k := 1); exact rfl; exact rfl; exact hot; (exact a_tk); exact Rd.at_ (l := [c0, c1', c2, c3, c4]) (by (exact a_at)) (fun j u h => by rw [Nat.zero_add]; exact h); exact rfl; exact hc5.2; omega; exact rfl; decide; decide; exact rfl; rintro lv' hp' hot')
  obtain ⟨A2, c2', rfl, _, _⟩ := hot'.form
  (apply R.nil; apply Fin.kq hKc; exact Mem.le_refl _; (exact a_arr))
  apply RQ.nil
  (repeat' (first | (first | (apply RP.step; intro _ _ _; (exact a_ok); exact rfl) | (apply RP.stepT; exact rfl; exact rfl; exact rfl; intro _ _ _; (exact a_ok); exact rfl) | (apply RP.stepF; exact rfl; exact rfl; exact rfl; exact rfl; exact rfl) | (apply RP.effF; exact rfl; exact rfl; exact rfl; exact rfl; exact rfl)) | (apply RP.callQ; (exact a_evs); exact rfl)))
  (apply RP.eff; intro Kc hKc ops0)
  (first | (apply R.store; exact rfl; exact rfl; exact rfl; (exact a_at); (exact a_blit); exact rfl; (focus (simp [Value.oneCell']; done))) | (apply R.buildSlice0; exact rfl; intro bz) | (apply R.box; exact rfl; (simp only [Value.cells]; rfl); exact rfl; intro bx) | (apply R.alloc; (simp only [Value.cells]; rfl); exact rfl; intro ba) | (apply R.buildSlice; (exact a_prt); exact rfl; exact rfl; (exact a_fills); exact rfl; intro bl))
  (apply R.nil; apply Fin.kp hKc; exact Mem.le_refl _; (exact a_arr))
  (first | apply RP.nil0 | apply RP.nil)
  (repeat' (first | refine a_go ?_ | (with_reducible apply Fin.thenK; assumption) | (with_reducible (first | apply C.seqK | apply C.regionK); intro _ _) | (apply R.buildSlice0; exact rfl; intro bz) | (apply R.box; exact rfl; (simp only [Value.cells]; rfl); exact rfl; intro bx) | (apply R.alloc; (simp only [Value.cells]; rfl); exact rfl; intro ba) | (apply R.buildSlice; (exact a_prt); exact rfl; exact rfl; (exact a_fills); exact rfl; intro bl) | (refine a_sp ?_ ?_; (intro h; skip; rotate_left; intro h; skip; rotate_left)) | fail))
  have hrow2 := RowD.snoc hot' hcl hcd hx
  (apply C.regionO (ks := [1, 1, 1, 1, 1, 0]) (is := [0, 1, 2, 3, 4, 5]) (Hs := [(bx, .cells [c0, c1', c2, c3, c4].toArray 83 (0, 0)), (db, .cells [.int .i64 room, .map (some sb), .map (some nb), .slice A2 (ps.length + 1) c2', .int .i64 fuse, .bool down].toArray 61 (0, 0))]); exact Mix.h; (first | exact Arr.all _ | (exact a_arr)); (exact a_np); (exact a_picked); kernel_rfl; intro _ e; subst e)
  (repeat' (first | (first | (apply RP.step; intro _ _ _; (exact a_ok); exact rfl) | (apply RP.stepT; exact rfl; exact rfl; exact rfl; intro _ _ _; (exact a_ok); exact rfl) | (apply RP.stepF; exact rfl; exact rfl; exact rfl; exact rfl; exact rfl) | (apply RP.effF; exact rfl; exact rfl; exact rfl; exact rfl; exact rfl)) | (apply RP.callQ; (exact a_evs); exact rfl)))
  (apply RP.eff; intro Kc hKc ops0)
  (apply R.call; (exact a_evs); exact rfl; (apply K.arr (h := does_K (nb := nb) hf hx hfit)); ((try simp only [List.append_eq, List.append_assoc, List.cons_append, List.nil_append, List.append_nil]); exact a_arr); rintro _ M3 _ ⟨rfl, hM3, no', hf3, rfl⟩)
  (apply R.nil; apply Fin.kpB (E := []) hKc; exact hM3; ((try simp only [List.append_eq, List.append_assoc, List.cons_append, List.nil_append, List.append_nil]); exact a_arr))
  (first | apply RP.nil0 | apply RP.nil)
  (repeat' (first | refine a_go ?_ | (with_reducible apply Fin.thenK; assumption) | (with_reducible (first | apply C.seqK | apply C.regionK); intro _ _) | (apply R.buildSlice0; exact rfl; intro bz) | (apply R.box; exact rfl; (simp only [Value.cells]; rfl); exact rfl; intro bx) | (apply R.alloc; (simp only [Value.cells]; rfl); exact rfl; intro ba) | (apply R.buildSlice; (exact a_prt); exact rfl; exact rfl; (exact a_fills); exact rfl; intro bl) | (refine a_sp ?_ ?_; (intro h; skip; rotate_left; intro h; skip; rotate_left)) | fail))
  (apply Fin.returnA (H2 := (db, .cells [.int .i64 room, .map (some sb), .map (some nb), .slice A2 (ps.length + 1) c2', .int .i64 fuse, .bool down].toArray 61 (0, 0)) :: (nb, no') :: (hp' ++ H)); assumption; (first | exact .inl rfl | exact .inr rfl); exact rfl; (exact a_res); (simp only [retv]; rfl); (exact a_arr))
  exact ⟨rfl, hM3, _, hp', no', hf3, hrow2.mono hM3, rfl⟩
end Go.Sx
end
section
namespace Go.Sx
open Go Go.Proofs Go.RowKit
attribute [local irreducible] C R Fin K Own OwnT Rd Pl Ok KOf RetOk OpsOf RP KP Res NoPanic KV KE MapS ItS EntS FsO FsR RowD
variable {M M' : Mem} {H H1 H2 : Hp}
structure Dk where
  room : Int
  S : Fs
  ps : List De
  fuse : Int
  down : Bool
def Dk.now (d : Dk) : Fs := d.ps.foldl doF d.S
def Runs : Fs → List De → Prop
  | _, [] => True
  | F, x :: xs => Fit F x ∧ Runs (doF F x) xs
theorem Runs.snoc : ∀ {ps : List De} {F : Fs} {x : De}, Runs F ps → Fit (ps.foldl doF F) x → Runs F (ps ++ [x])
  | [], _, _, _, h => ⟨h, trivial⟩
  | _ :: _, _, _, h1, h2 => ⟨h1.1, Runs.snoc h1.2 h2⟩
theorem Runs.sum : ∀ {ps : List De} {F : Fs}, sumF F ≤ 1048576 → Runs F ps → sumF (ps.foldl doF F) ≤ 1048576
  | [], _, h, _ => h
  | x :: _, F, _, h => Runs.sum (F := doF F x) h.1.1 h.2
def Dk.ok (d : Dk) : Prop := (0 ≤ d.room ∧ d.room ≤ 1048576) ∧ (-1 ≤ d.fuse ∧ d.fuse ≤ 4611686018427387904) ∧ sumF d.S ≤ 1048576 ∧ Runs d.S d.ps
theorem Dk.ok.sum {d : Dk} (h : d.ok) : sumF d.now ≤ 1048576 := Runs.sum h.2.2.1 h.2.2.2
def DkO (M : Mem) (db : Nat) (d : Dk) (hp : Hp) : Prop := d.ok ∧ ∃ sb nb so no pv hr, FsO M so d.S ∧ FsO M no d.now ∧ RowD M pv d.ps hr ∧ hp = (db, dkB d.room sb nb pv d.fuse d.down) :: (nb, no) :: (sb, so) :: hr
theorem DkO.mono {db : Nat} {d : Dk} {hp : Hp} (hM : M.le M') (h : DkO M db d hp) : DkO M' db d hp := by
  obtain ⟨h0, sb, nb, so, no, pv, hr, h1, h2, h3, h4⟩ := h
  exact ⟨h0, sb, nb, so, no, pv, hr, h1.mono hM, h2.mono hM, h3.mono hM, h4⟩
theorem DkO.nodup {db : Nat} {d : Dk} {hp : Hp} (h : DkO M db d hp) : (keyS d.now).Nodup := by
  obtain ⟨h0, sb, nb, so, no, pv, hr, h1, h2, h3, h4⟩ := h
  exact h2.nodup
def newD (room : Int) : Dk := ⟨room, [], [], -1, false⟩
theorem new_K {room : Int} (h0 : 0 ≤ room) (h1 : room ≤ 1048576) : K Try.prog 6 [.int .i64 room] M H fun v' M' H' => ∃ db hp, v' = .tuple #[.pointer (some ⟨db, 0, none⟩), .int .i64 0] ∧ M' = M ∧ DkO M db (newD room) hp ∧ H' = hp ++ H := by
  refine K.enterK Try.func6 rfl rfl rfl ?_
  intro Q hNP hQ
  (repeat' (first | refine a_go ?_ | (with_reducible apply Fin.thenK; assumption) | (with_reducible (first | apply C.seqK | apply C.regionK); intro _ _) | (apply R.buildSlice0; exact rfl; intro bz) | (apply R.box; exact rfl; (simp only [Value.cells]; rfl); exact rfl; intro bx) | (apply R.alloc; (simp only [Value.cells]; rfl); exact rfl; intro ba) | (apply R.buildSlice; (exact a_prt); exact rfl; exact rfl; (exact a_fills); exact rfl; intro bl) | (refine a_sp ?_ ?_; (intro h; skip; rotate_left; intro h; skip; rotate_left)) | fail))
  · exfalso; omega
  · exfalso; omega
  (apply R.makeMap; exact rfl; intro b1)
  (repeat' (first | refine a_go ?_ | (with_reducible apply Fin.thenK; assumption) | (with_reducible (first | apply C.seqK | apply C.regionK); intro _ _) | (apply R.buildSlice0; exact rfl; intro bz) | (apply R.box; exact rfl; (simp only [Value.cells]; rfl); exact rfl; intro bx) | (apply R.alloc; (simp only [Value.cells]; rfl); exact rfl; intro ba) | (apply R.buildSlice; (exact a_prt); exact rfl; exact rfl; (exact a_fills); exact rfl; intro bl) | (refine a_sp ?_ ?_; (intro h; skip; rotate_left; intro h; skip; rotate_left)) | fail))
  (apply R.makeMap; exact rfl; intro b2)
  (repeat' (first | refine a_go ?_ | (with_reducible apply Fin.thenK; assumption) | (with_reducible (first | apply C.seqK | apply C.regionK); intro _ _) | (apply R.buildSlice0; exact rfl; intro bz) | (apply R.box; exact rfl; (simp only [Value.cells]; rfl); exact rfl; intro bx) | (apply R.alloc; (simp only [Value.cells]; rfl); exact rfl; intro ba) | (apply R.buildSlice; (exact a_prt); exact rfl; exact rfl; (exact a_fills); exact rfl; intro bl) | (refine a_sp ?_ ?_; (intro h; skip; rotate_left; intro h; skip; rotate_left)) | fail))
  (apply Fin.returnA (H2 := [(bx, dkB room b1 b2 (.slice none 0 0) (-1) false), (b2, .map #[] 0), (b1, .map #[] 0)] ++ H); assumption; (first | exact .inl rfl | exact .inr rfl); exact rfl; (exact a_res); (simp only [retv]; rfl); (exact a_arr))
  exact ⟨bx, _, rfl, rfl, ⟨⟨⟨h0, h1⟩, ⟨Int.le_refl _, show (-1 : Int) ≤ 4611686018427387904 by decide⟩, Nat.zero_le _, trivial⟩, b1, b2, _, _, _, [], FsO.empty, FsO.empty, RowD.nil, rfl⟩, rfl⟩
def stopD (d : Dk) : Prop := d.down = true ∨ d.fuse = 0
instance (d : Dk) : Decidable (stopD d) := inferInstanceAs (Decidable (_ ∨ _))
def cntD (d : Dk) : Dk := if stopD d then { d with down := true } else { d with fuse := if 0 < d.fuse then d.fuse - 1 else d.fuse }
def opD (e : Int) (d : Dk) (x : De) : Dk := if e = 0 then { cntD d with ps := d.ps ++ [x] } else cntD d
theorem cntD_ok {d : Dk} (h : d.ok) : (cntD d).ok := by
  obtain ⟨h1, h2, h3, h4⟩ := h
  unfold cntD
  split
  · exact ⟨h1, h2, h3, h4⟩
  · refine ⟨h1, ?_, h3, h4⟩
    dsimp only
    split <;> omega
theorem cntD_now (d : Dk) : (cntD d).now = d.now := by
  unfold cntD
  split <;> rfl
theorem cntD_ps (d : Dk) : (cntD d).ps = d.ps := by
  unfold cntD
  split <;> rfl
theorem cntD_S (d : Dk) : (cntD d).S = d.S := by
  unfold cntD
  split <;> rfl
theorem cntD_room (d : Dk) : (cntD d).room = d.room := by
  unfold cntD
  split <;> rfl
theorem opD_ok {d : Dk} {x : De} (h : d.ok) (hf : Fit d.now x) : Dk.ok { cntD d with ps := d.ps ++ [x] } := by
  obtain ⟨h1, h2, h3, h4⟩ := cntD_ok h
  rw [cntD_S, cntD_ps] at h4
  rw [cntD_S] at h3
  refine ⟨h1, h2, ?_, ?_⟩
  · show sumF (cntD d).S ≤ _
    rw [cntD_S]
    exact h3
  · show Runs (cntD d).S _
    rw [cntD_S]
    exact h4.snoc hf
theorem counts_KD {db : Nat} {d : Dk} {hp : Hp} (ho : DkO M db d hp) : K Try.prog 38 [.pointer (some ⟨db, 0, none⟩)] M (hp ++ H) fun v' M' H' => v' = .bool (!decide (stopD d)) ∧ M' = M ∧ ∃ hp', DkO M db (cntD d) hp' ∧ H' = hp' ++ H ∧ (¬ stopD d → (cntD d).down = false) := by
  obtain ⟨h0, sb, nb, so, no, pv, hr, h1, h2, h3, rfl⟩ := ho
  have hok := cntD_ok h0
  refine (counts_K (sb := sb) (nb := nb) (room := d.room) (pv := pv) (down := d.down) ⟨h0.2.1.1, by have := h0.2.1.2; omega⟩).mono ?_
  rintro _ _ _ ⟨rfl, ⟨rfl, c1, rfl⟩ | ⟨rfl, c1, c2, rfl⟩⟩
  · have hs : stopD d := c1
    have e : cntD d = { d with down := true } := if_pos hs
    rw [e] at hok ⊢
    exact ⟨by rw [decide_eq_true hs]; rfl, rfl, _, ⟨hok, sb, nb, so, no, pv, hr, h1, h2, h3, rfl⟩, rfl, fun h => absurd hs h⟩
  · have hs : ¬ stopD d := fun h => by
      rcases h with h | h
      · rw [h] at c1; cases c1
      · exact c2 h
    have e : cntD d = { d with fuse := if 0 < d.fuse then d.fuse - 1 else d.fuse } := if_neg hs
    rw [e] at hok ⊢
    refine ⟨by rw [decide_eq_false hs]; rfl, rfl, _, ⟨hok, sb, nb, so, no, pv, hr, h1, h2, h3, rfl⟩, ?_, fun h => c1⟩
    dsimp only
    rw [c1]
    rfl
def appE (d : Dk) (n b : Txt) : Int := if stopD d then 3 else if namedB n = false then 1 else if d.room < (sumF d.now + b.length : Nat) ∨ (getS d.now n = none ∧ 64 ≤ d.now.length) then 2 else 0
theorem sumF_put {F : Fs} {n b : Txt} (hn : (keyS F).Nodup) : sumF (putS F n b) + (fileD F n).length = sumF F + b.length := by
  by_cases h : n ∈ keyS F
  · obtain ⟨p, hp, rfl⟩ := List.mem_map.1 h
    obtain ⟨l1, l2, rfl⟩ := List.append_of_mem hp
    rw [putS_old (v := b) hn]
    have hg : fileD (l1 ++ p :: l2) p.1 = p.2 := by
      unfold fileD
      rw [show l1 ++ p :: l2 = l1 ++ (p.1, p.2) :: l2 from rfl, getS_some (keyS_mid hn).1]
      rfl
    rw [hg]
    unfold sumF
    simp only [List.map_append, List.map_cons, List.sum_append, List.sum_cons]
    omega
  · rw [putS_new h]
    have hg : fileD F n = [] := by
      unfold fileD
      rw [getS_none h]
      rfl
    rw [hg]
    unfold sumF
    simp
theorem app_fit {F : Fs} {n b : Txt} (hn : (keyS F).Nodup) (h : sumF F + b.length ≤ 1048576) : Fit F (.app n b) := by
  refine ⟨?_, trivial⟩
  have := sumF_put (b := fileD F n ++ b) (n := n) hn
  rw [List.length_append] at this
  show sumF (putS F n (fileD F n ++ b)) ≤ _
  omega
end Go.Sx
end
section
namespace Go.Sx
open Go Go.Proofs Go.RowKit
attribute [local irreducible] C R Fin K Own OwnT Rd Pl Ok KOf RetOk OpsOf RP KP Res NoPanic KV KE MapS ItS EntS FsO FsR RowD
variable {M M' : Mem} {H H1 H2 : Hp}
theorem app0 {d : Dk} {n b : Txt} (h : appE d n b = 0) : namedB n = true ∧ ¬ (d.room < (sumF d.now + b.length : Nat)) ∧ ¬ (getS d.now n = none ∧ 64 ≤ d.now.length) := by
  unfold appE at h
  split at h
  · cases h
  · split at h
    · cases h
    · rename_i h1
      split at h
      · cases h
      · rename_i h2
        exact ⟨by simpa using h1, fun h3 => h2 (.inl h3), fun h3 => h2 (.inr h3)⟩
theorem cntD_down {d : Dk} (hs : ¬ stopD d) : (cntD d).down = false := by
  rw [show cntD d = { d with fuse := if 0 < d.fuse then d.fuse - 1 else d.fuse } from if_neg hs]
  cases h : d.down with
  | false => rfl
  | true => exact absurd (.inl h) hs
theorem opD_now (d : Dk) (x : De) : (opD 0 d x).now = doF d.now x := by
  show (d.ps ++ [x]).foldl doF (cntD d).S = _
  rw [List.foldl_append, cntD_S]
  rfl
theorem DkO.op {db sb nb : Nat} {d : Dk} {x : De} {so no : Obj} {pv : Value} {hr : Hp} (hok : d.ok) (hs : ¬ stopD d) (hfit : Fit d.now x) (h1 : FsO M so (cntD d).S) (h2 : FsO M no (doF d.now x)) (h3 : RowD M pv ((cntD d).ps ++ [x]) hr) : DkO M db (opD 0 d x) ((db, dkB d.room sb nb pv (cntD d).fuse false) :: (nb, no) :: (sb, so) :: hr) := by
  rw [cntD_ps] at h3
  refine ⟨opD_ok hok hfit, sb, nb, so, no, pv, hr, h1, by rw [opD_now]; exact h2, h3, ?_⟩
  rw [show (opD 0 d x).room = (cntD d).room from rfl, show (opD 0 d x).down = (cntD d).down from rfl, show (opD 0 d x).fuse = (cntD d).fuse from rfl, cntD_room, cntD_down hs]
theorem append_K {db : Nat} {d : Dk} {hp : Hp} {n b : Txt} {va : Value} (ho : DkO M db d hp) (hb : PlB M va b) (hbl : b.length ≤ 4611686018427387904) (hnl : n.length ≤ 4611686018427387904) (hlen : d.ps.length ≤ 1000000) : K Try.prog 33 [.pointer (some ⟨db, 0, none⟩), str n, va] M (hp ++ H) fun v' M' H' => v' = .int .i64 (appE d n b) ∧ M.le M' ∧ ∃ hp', DkO M' db (opD (appE d n b) d (.app n b)) hp' ∧ H' = hp' ++ H := by
  obtain ⟨A, c, rfl, hbc, hcc, hpl⟩ := hb
  refine K.enterK Try.func33 rfl rfl rfl ?_
  intro Q hNP hQ
  (repeat' (first | refine a_go ?_ | (with_reducible apply Fin.thenK; assumption) | (with_reducible (first | apply C.seqK | apply C.regionK); intro _ _) | (apply R.buildSlice0; exact rfl; intro bz) | (apply R.box; exact rfl; (simp only [Value.cells]; rfl); exact rfl; intro bx) | (apply R.alloc; (simp only [Value.cells]; rfl); exact rfl; intro ba) | (apply R.buildSlice; (exact a_prt); exact rfl; exact rfl; (exact a_fills); exact rfl; intro bl) | (refine a_sp ?_ ?_; (intro h; skip; rotate_left; intro h; skip; rotate_left)) | fail))
  (apply R.call; (exact a_evs); exact rfl); exact counts_KD ho; rintro _ M _ ⟨rfl, rfl, hp1, ho1, rfl, hdn⟩
  have hnn := ho.nodup
  have hok := ho.1
  clear ho
  by_cases hs : stopD d
  · rw [decide_eq_true hs]
    have hE : appE d n b = 3 := if_pos hs
    rw [hE] at hQ
    (repeat' (first | refine a_go ?_ | (with_reducible apply Fin.thenK; assumption) | (with_reducible (first | apply C.seqK | apply C.regionK); intro _ _) | (apply R.buildSlice0; exact rfl; intro bz) | (apply R.box; exact rfl; (simp only [Value.cells]; rfl); exact rfl; intro bx) | (apply R.alloc; (simp only [Value.cells]; rfl); exact rfl; intro ba) | (apply R.buildSlice; (exact a_prt); exact rfl; exact rfl; (exact a_fills); exact rfl; intro bl) | (refine a_sp ?_ ?_; (intro h; skip; rotate_left; intro h; skip; rotate_left)) | fail))
    (apply Fin.returnA (H2 := hp1 ++ H); assumption; (first | exact .inl rfl | exact .inr rfl); exact rfl; (exact a_res); (simp only [retv]; rfl); (exact a_arr))
    exact ⟨rfl, Mem.le_refl _, hp1, ho1, rfl⟩
  rw [decide_eq_false hs]
  obtain ⟨hok1, sb, nb, so, no, pv, hr, h1, h2, h3, rfl⟩ := ho1
  rw [cntD_now] at h2
  rw [hdn hs, cntD_room]
  unfold dkB
  obtain ⟨l, hm, hfr, hn⟩ := h2.use
  have hg := hfr.get hn n
  (repeat' (first | (apply R.step; (exact a_ok); exact rfl) | (first | (with_reducible first | apply R.nil | apply C.ret | apply C.block | apply C.skip | apply C.exit | apply Fin.thenRet | apply Fin.thenExit | apply Fin.blockNormal | apply Fin.blockRet | apply Fin.blockExit) | (with_reducible apply Fin.thenK; assumption) | (with_reducible apply C.seqR; intro _ _) | (with_reducible apply C.regionK; intro _ _) | (with_reducible apply Fin.blockOther; exact rfl)) | (first | (apply R.store; exact rfl; exact rfl; exact rfl; (exact a_at); (exact a_blit); exact rfl; (focus (simp [Value.oneCell']; done))) | (apply R.buildSlice0; exact rfl; intro bz) | (apply R.box; exact rfl; (simp only [Value.cells]; rfl); exact rfl; intro bx) | (apply R.alloc; (simp only [Value.cells]; rfl); exact rfl; intro ba) | (apply R.buildSlice; (exact a_prt); exact rfl; exact rfl; (exact a_fills); exact rfl; intro bl)) | (first | (apply R.guardT; assumption; exact rfl; exact rfl; exact rfl) | (apply R.guardF; assumption; exact rfl; exact rfl; exact rfl; exact rfl; exact rfl) | (apply R.guardU; assumption; exact rfl; exact rfl; exact rfl; exact rfl) | (apply R.guardDec; assumption; exact rfl; exact rfl; (intro h; skip; rotate_left; intro h; skip; rotate_left)) | (apply R.guardBeq; assumption; exact rfl; exact rfl; (intro h; skip; rotate_left; intro h; skip; rotate_left)) | (apply R.guardBne; assumption; exact rfl; exact rfl; (intro h; skip; rotate_left; intro h; skip; rotate_left)) | (apply R.guardNDec; assumption; exact rfl; exact rfl; (intro h; skip; rotate_left; intro h; skip; rotate_left)) | (apply R.guardNot; assumption; exact rfl; exact rfl; (intro h; skip; rotate_left; intro h; skip; rotate_left)) | (apply R.guardC; assumption; exact rfl; exact rfl; (intro h; skip; rotate_left; intro h; skip; rotate_left)))))
  (apply C.condF; exact rfl)
  (repeat' (first | (apply R.step; (exact a_ok); exact rfl) | (first | (with_reducible first | apply R.nil | apply C.ret | apply C.block | apply C.skip | apply C.exit | apply Fin.thenRet | apply Fin.thenExit | apply Fin.blockNormal | apply Fin.blockRet | apply Fin.blockExit) | (with_reducible apply Fin.thenK; assumption) | (with_reducible apply C.seqR; intro _ _) | (with_reducible apply C.regionK; intro _ _) | (with_reducible apply Fin.blockOther; exact rfl)) | (first | (apply R.store; exact rfl; exact rfl; exact rfl; (exact a_at); (exact a_blit); exact rfl; (focus (simp [Value.oneCell']; done))) | (apply R.buildSlice0; exact rfl; intro bz) | (apply R.box; exact rfl; (simp only [Value.cells]; rfl); exact rfl; intro bx) | (apply R.alloc; (simp only [Value.cells]; rfl); exact rfl; intro ba) | (apply R.buildSlice; (exact a_prt); exact rfl; exact rfl; (exact a_fills); exact rfl; intro bl)) | (first | (apply R.guardT; assumption; exact rfl; exact rfl; exact rfl) | (apply R.guardF; assumption; exact rfl; exact rfl; exact rfl; exact rfl; exact rfl) | (apply R.guardU; assumption; exact rfl; exact rfl; exact rfl; exact rfl) | (apply R.guardDec; assumption; exact rfl; exact rfl; (intro h; skip; rotate_left; intro h; skip; rotate_left)) | (apply R.guardBeq; assumption; exact rfl; exact rfl; (intro h; skip; rotate_left; intro h; skip; rotate_left)) | (apply R.guardBne; assumption; exact rfl; exact rfl; (intro h; skip; rotate_left; intro h; skip; rotate_left)) | (apply R.guardNDec; assumption; exact rfl; exact rfl; (intro h; skip; rotate_left; intro h; skip; rotate_left)) | (apply R.guardNot; assumption; exact rfl; exact rfl; (intro h; skip; rotate_left; intro h; skip; rotate_left)) | (apply R.guardC; assumption; exact rfl; exact rfl; (intro h; skip; rotate_left; intro h; skip; rotate_left)))))
  (apply R.step; (apply Ok.lookupS (ho := hm); exact rfl; exact rfl; exact a_mm); exact rfl)
  (repeat' (first | (apply R.step; (exact a_ok); exact rfl) | (first | (with_reducible first | apply R.nil | apply C.ret | apply C.block | apply C.skip | apply C.exit | apply Fin.thenRet | apply Fin.thenExit | apply Fin.blockNormal | apply Fin.blockRet | apply Fin.blockExit) | (with_reducible apply Fin.thenK; assumption) | (with_reducible apply C.seqR; intro _ _) | (with_reducible apply C.regionK; intro _ _) | (with_reducible apply Fin.blockOther; exact rfl)) | (first | (apply R.store; exact rfl; exact rfl; exact rfl; (exact a_at); (exact a_blit); exact rfl; (focus (simp [Value.oneCell']; done))) | (apply R.buildSlice0; exact rfl; intro bz) | (apply R.box; exact rfl; (simp only [Value.cells]; rfl); exact rfl; intro bx) | (apply R.alloc; (simp only [Value.cells]; rfl); exact rfl; intro ba) | (apply R.buildSlice; (exact a_prt); exact rfl; exact rfl; (exact a_fills); exact rfl; intro bl)) | (first | (apply R.guardT; assumption; exact rfl; exact rfl; exact rfl) | (apply R.guardF; assumption; exact rfl; exact rfl; exact rfl; exact rfl; exact rfl) | (apply R.guardU; assumption; exact rfl; exact rfl; exact rfl; exact rfl) | (apply R.guardDec; assumption; exact rfl; exact rfl; (intro h; skip; rotate_left; intro h; skip; rotate_left)) | (apply R.guardBeq; assumption; exact rfl; exact rfl; (intro h; skip; rotate_left; intro h; skip; rotate_left)) | (apply R.guardBne; assumption; exact rfl; exact rfl; (intro h; skip; rotate_left; intro h; skip; rotate_left)) | (apply R.guardNDec; assumption; exact rfl; exact rfl; (intro h; skip; rotate_left; intro h; skip; rotate_left)) | (apply R.guardNot; assumption; exact rfl; exact rfl; (intro h; skip; rotate_left; intro h; skip; rotate_left)) | (apply R.guardC; assumption; exact rfl; exact rfl; (intro h; skip; rotate_left; intro h; skip; rotate_left)))))
  have hsum := hok.sum
  have hroom := hok.1
  have hml : l.length = d.now.length := hfr.len
  apply C.seqCut (X := Unit) (fun _ => appE d n b = 0) (fun _ => [(0, .pointer (some ⟨db, 0, none⟩)), (1, str n), (2, .slice A b.length c)]) (fun _ => M) (fun _ => (db, .cells [.int .i64 d.room, .map (some sb), .map (some nb), pv, .int .i64 (cntD d).fuse, .bool false].toArray 61 (0, 0)) :: (nb, no) :: (sb, so) :: (hr ++ H))
  · (repeat' (first | refine a_go ?_ | (with_reducible apply Fin.thenK; assumption) | (with_reducible (first | apply C.seqK | apply C.regionK); intro _ _) | (apply R.buildSlice0; exact rfl; intro bz) | (apply R.box; exact rfl; (simp only [Value.cells]; rfl); exact rfl; intro bx) | (apply R.alloc; (simp only [Value.cells]; rfl); exact rfl; intro ba) | (apply R.buildSlice; (exact a_prt); exact rfl; exact rfl; (exact a_fills); exact rfl; intro bl) | (refine a_sp ?_ ?_; (intro h; skip; rotate_left; intro h; skip; rotate_left)) | fail))
    (apply R.call; (exact a_evs); exact rfl); exact named_K (by omega); rintro _ M _ ⟨rfl, rfl, rfl⟩
    cases hnm : namedB n with
    | false =>
      have hE : appE d n b = 1 := (if_neg hs).trans (if_pos hnm)
      rw [hE] at hQ
      (repeat' (first | refine a_go ?_ | (with_reducible apply Fin.thenK; assumption) | (with_reducible (first | apply C.seqK | apply C.regionK); intro _ _) | (apply R.buildSlice0; exact rfl; intro bz) | (apply R.box; exact rfl; (simp only [Value.cells]; rfl); exact rfl; intro bx) | (apply R.alloc; (simp only [Value.cells]; rfl); exact rfl; intro ba) | (apply R.buildSlice; (exact a_prt); exact rfl; exact rfl; (exact a_fills); exact rfl; intro bl) | (refine a_sp ?_ ?_; (intro h; skip; rotate_left; intro h; skip; rotate_left)) | fail))
      (apply Fin.returnA (H2 := (db, .cells [.int .i64 d.room, .map (some sb), .map (some nb), pv, .int .i64 (cntD d).fuse, .bool false].toArray 61 (0, 0)) :: (nb, no) :: (sb, so) :: (hr ++ H)); assumption; (first | exact .inl rfl | exact .inr rfl); exact rfl; (exact a_res); (simp only [retv]; rfl); (exact a_arr))
      refine ⟨rfl, Mem.le_refl _, _, ⟨hok1, sb, nb, so, no, pv, hr, h1, ?_, h3, rfl⟩, ?_⟩
      · rw [show (opD 1 d (De.app n b)).now = (cntD d).now from rfl, cntD_now]
        exact h2
      · rw [show opD 1 d (De.app n b) = cntD d from rfl, cntD_room, hdn hs]
        rfl
    | true =>
      have hfull : (d.room < (sumF d.now + b.length : Nat) ∨ (getS d.now n = none ∧ 64 ≤ d.now.length)) → appE d n b = 2 := fun h => (if_neg hs).trans ((if_neg (by rw [hnm]; decide)).trans (if_pos h))
      have hdone : ∀ H', H' = (db, dkB d.room sb nb pv (cntD d).fuse false) :: (nb, no) :: (sb, so) :: (hr ++ H) → appE d n b = 2 → ∃ hp', DkO M db (opD (appE d n b) d (.app n b)) hp' ∧ H' = hp' ++ H := fun H' hH hE => by
        rw [hE, show opD 2 d (De.app n b) = cntD d from rfl]
        refine ⟨_, ⟨hok1, sb, nb, so, no, pv, hr, h1, by rw [cntD_now]; exact h2, h3, rfl⟩, ?_⟩
        rw [cntD_room, hdn hs]
        exact hH
      (repeat' (first | refine a_go ?_ | (with_reducible apply Fin.thenK; assumption) | (with_reducible (first | apply C.seqK | apply C.regionK); intro _ _) | (apply R.buildSlice0; exact rfl; intro bz) | (apply R.box; exact rfl; (simp only [Value.cells]; rfl); exact rfl; intro bx) | (apply R.alloc; (simp only [Value.cells]; rfl); exact rfl; intro ba) | (apply R.buildSlice; (exact a_prt); exact rfl; exact rfl; (exact a_fills); exact rfl; intro bl) | (refine a_sp ?_ ?_; (intro h; skip; rotate_left; intro h; skip; rotate_left)) | fail))
      (apply C.regionO (ks := [1, 1, 1, 1, 1, 1, 1, 0, 1, 1, 1]) (is := [0, 2, 3, 5, 6, 7, 8, 1, 4, 9, 10]) (Hs := [(db, .cells [.int .i64 d.room, .map (some sb), .map (some nb), pv, .int .i64 (cntD d).fuse, .bool false].toArray 61 (0, 0)), (nb, no)]); exact Mix.h; (first | exact Arr.all _ | (exact a_arr)); (exact a_np); (exact a_picked); kernel_rfl; intro _ e; subst e)
      (repeat' (first | (first | (apply RP.step; intro _ _ _; (exact a_ok); exact rfl) | (apply RP.stepT; exact rfl; exact rfl; exact rfl; intro _ _ _; (exact a_ok); exact rfl) | (apply RP.stepF; exact rfl; exact rfl; exact rfl; exact rfl; exact rfl) | (apply RP.effF; exact rfl; exact rfl; exact rfl; exact rfl; exact rfl)) | (apply RP.callQ; (exact a_evs); exact rfl)))
      (apply RP.eff; intro Kc hKc ops0)
      (apply R.call; (exact a_evs); exact rfl; exact used_K (down := false) h2 (by omega); rintro _ M _ ⟨rfl, rfl, rfl⟩)
      (apply R.nil; apply Fin.kp hKc; exact Mem.le_refl _; exact Arr.all _)
      rw [show usedD false d.now = sumF d.now from rfl]
      (repeat' (first | (first | (apply RP.step; intro _ _ _; (exact a_ok); exact rfl) | (apply RP.stepT; exact rfl; exact rfl; exact rfl; intro _ _ _; (exact a_ok); exact rfl) | (apply RP.stepF; exact rfl; exact rfl; exact rfl; exact rfl; exact rfl) | (apply RP.effF; exact rfl; exact rfl; exact rfl; exact rfl; exact rfl)) | (apply RP.callQ; (exact a_evs); exact rfl)))
      (first | apply RP.nil0 | apply RP.nil)
      obtain ⟨g1, g2⟩ := hg
      rw [g2]
      (repeat' (first | (apply R.step; (apply Ok.move; exact rfl); exact rfl) | (apply R.step; (apply Ok.lenM (ho := hm); exact rfl; exact a_mm); exact rfl) | refine a_go ?_ | (with_reducible apply Fin.thenK; assumption) | (with_reducible (first | apply C.seqK | apply C.regionK); intro _ _) | (apply R.buildSlice0; exact rfl; intro bz) | (apply R.box; exact rfl; (simp only [Value.cells]; rfl); exact rfl; intro bx) | (apply R.alloc; (simp only [Value.cells]; rfl); exact rfl; intro ba) | (apply R.buildSlice; (exact a_prt); exact rfl; exact rfl; (exact a_fills); exact rfl; intro bl) | (refine a_sp ?_ ?_; (intro h; skip; rotate_left; intro h; skip; rotate_left)) | fail))
      · have h : d.room < (sumF d.now : Int) + (b.length : Int) := by assumption
        have hE := hfull (.inl (by omega))
        (apply Fin.returnA (H2 := (db, dkB d.room sb nb pv (cntD d).fuse false) :: (nb, no) :: (sb, so) :: (hr ++ H)); assumption; (first | exact .inl rfl | exact .inr rfl); exact rfl; (exact a_res); (simp only [retv]; rfl); (exact a_arr))
        exact ⟨by rw [hE], Mem.le_refl _, hdone _ rfl hE⟩
      · exfalso
        have h5 : d.room < (sumF d.now : Int) + (b.length : Int) := by assumption
        have h6 : ¬ d.room < (sumF d.now : Int) + (b.length : Int) := by assumption
        exact h6 h5
      · have h : (64 : Int) ≤ (l.length : Int) := by assumption
        have h5 : (getS d.now n).isSome = false := by assumption
        have hE := hfull (.inr ⟨by (revert h5; cases getS d.now n; exact fun _ => rfl; intro h7; cases h7), by omega⟩)
        (apply Fin.returnA (H2 := (db, dkB d.room sb nb pv (cntD d).fuse false) :: (nb, no) :: (sb, so) :: (hr ++ H)); assumption; (first | exact .inl rfl | exact .inr rfl); exact rfl; (exact a_res); (simp only [retv]; rfl); (exact a_arr))
        exact ⟨by rw [hE], Mem.le_refl _, hdone _ rfl hE⟩
      · have h : ¬ (64 : Int) ≤ (l.length : Int) := by assumption
        have h5 : ¬ d.room < (sumF d.now : Int) + (b.length : Int) := by assumption
        have hE : appE d n b = 0 := (if_neg hs).trans ((if_neg (by rw [hnm]; decide)).trans (if_neg (fun h6 => by
          rcases h6 with h6 | h6
          · exact h5 (by omega)
          · exact h (by have := h6.2; omega))))
        refine Fin.join () hE ?_ rfl rfl
        (exact a_subs)
      · have h : (getS d.now n).isSome = true := by assumption
        have h5 : ¬ d.room < (sumF d.now : Int) + (b.length : Int) := by assumption
        have hE : appE d n b = 0 := (if_neg hs).trans ((if_neg (by rw [hnm]; decide)).trans (if_neg (fun h6 => by
          rcases h6 with h6 | h6
          · exact h5 (by omega)
          · rw [h6.1] at h; cases h)))
        refine Fin.join () hE ?_ rfl rfl
        (exact a_subs)
  · intro _ hE
    obtain ⟨q0, q1, q2⟩ := app0 hE
    (repeat' (first | refine a_go ?_ | (with_reducible apply Fin.thenK; assumption) | (with_reducible (first | apply C.seqK | apply C.regionK); intro _ _) | (apply R.buildSlice0; exact rfl; intro bz) | (apply R.box; exact rfl; (simp only [Value.cells]; rfl); exact rfl; intro bx) | (apply R.alloc; (simp only [Value.cells]; rfl); exact rfl; intro ba) | (apply R.buildSlice; (exact a_prt); exact rfl; exact rfl; (exact a_fills); exact rfl; intro bl) | (refine a_sp ?_ ?_; (intro h; skip; rotate_left; intro h; skip; rotate_left)) | fail))
    (apply R.append (news := b.map bv); exact rfl; exact rfl; exact Own.empty; (exact a_tk); exact Pl.rd hpl; (rw [List.length_map, Nat.mul_one]); exact bv_one _; omega; exact rfl; decide; decide; exact rfl; rintro v4 hp4 hown4)
    rw [List.nil_append, Nat.zero_add] at hown4
    (apply R.ice (hp := hp4) (Arr.all _); intro M2 hM2 hin)
    have hb4 := hown4.plB hin
    obtain ⟨A4, c4, rfl, _, _⟩ := hown4.form
    (repeat' (first | refine a_go ?_ | (with_reducible apply Fin.thenK; assumption) | (with_reducible (first | apply C.seqK | apply C.regionK); intro _ _) | (apply R.buildSlice0; exact rfl; intro bz) | (apply R.box; exact rfl; (simp only [Value.cells]; rfl); exact rfl; intro bx) | (apply R.alloc; (simp only [Value.cells]; rfl); exact rfl; intro ba) | (apply R.buildSlice; (exact a_prt); exact rfl; exact rfl; (exact a_fills); exact rfl; intro bl) | (refine a_sp ?_ ?_; (intro h; skip; rotate_left; intro h; skip; rotate_left)) | fail))
    have hfit := app_fit (b := b) (n := n) hnn (by omega)
    (apply R.call; (exact a_evs); exact rfl; (apply K.arr (h := put_K (db := db) (sb := sb) (nb := nb) (room := d.room) (fuse := (cntD d).fuse) (down := false) (H := (sb, so) :: H) (x := .app n b) (h2.mono hM2) (h3.mono hM2) ⟨_, rfl, hb4⟩ hfit (by rw [cntD_ps]; exact hlen))); ((try simp only [List.append_assoc, List.cons_append, List.nil_append, List.append_nil]); exact a_arr); rintro _ M3 _ ⟨rfl, hM3, pv', hp', no', f1, f2, rfl⟩)
    (repeat' (first | refine a_go ?_ | (with_reducible apply Fin.thenK; assumption) | (with_reducible (first | apply C.seqK | apply C.regionK); intro _ _) | (apply R.buildSlice0; exact rfl; intro bz) | (apply R.box; exact rfl; (simp only [Value.cells]; rfl); exact rfl; intro bx) | (apply R.alloc; (simp only [Value.cells]; rfl); exact rfl; intro ba) | (apply R.buildSlice; (exact a_prt); exact rfl; exact rfl; (exact a_fills); exact rfl; intro bl) | (refine a_sp ?_ ?_; (intro h; skip; rotate_left; intro h; skip; rotate_left)) | fail))
    (apply Fin.returnA (H2 := (db, dkB d.room sb nb pv' (cntD d).fuse false) :: (nb, no') :: (sb, so) :: (hp' ++ H)); assumption; (first | exact .inl rfl | exact .inr rfl); exact rfl; (exact a_res); (simp only [retv]; rfl); (exact a_arr))
    exact ⟨by rw [hE], hM2.trans_ hM3, _, by rw [hE]; exact DkO.op (sb := sb) (nb := nb) hok hs hfit ((h1.mono hM2).mono hM3) f1 f2, rfl⟩
end Go.Sx
end
section
namespace Go.Sx
open Go Go.Proofs Go.RowKit
attribute [local irreducible] C R Fin K Own OwnT Rd Pl Ok KOf RetOk OpsOf RP KP Res NoPanic KV KE MapS ItS EntS FsO FsR RowD
variable {M M' : Mem} {H H1 H2 : Hp}
theorem sumF_del {F : Fs} {n : Txt} (hn : (keyS F).Nodup) : sumF (delS F n) + (fileD F n).length = sumF F := by
  by_cases h : n ∈ keyS F
  · obtain ⟨p, hp, rfl⟩ := List.mem_map.1 h
    obtain ⟨l1, l2, rfl⟩ := List.append_of_mem hp
    have hg : fileD (l1 ++ p :: l2) p.1 = p.2 := by
      unfold fileD
      rw [show l1 ++ p :: l2 = l1 ++ (p.1, p.2) :: l2 from rfl, getS_some (keyS_mid hn).1]
      rfl
    rw [hg, show l1 ++ p :: l2 = l1 ++ (p.1, p.2) :: l2 from rfl, delS_some hn]
    unfold sumF
    simp only [List.map_append, List.map_cons, List.sum_append, List.sum_cons]
    omega
  · have hg : fileD F n = [] := by
      unfold fileD
      rw [getS_none h]
      rfl
    rw [hg, delS_none h]
    rfl
theorem rem_fit {F : Fs} {n : Txt} (hn : (keyS F).Nodup) (h : sumF F ≤ 1048576) : Fit F (.rem n) := by
  refine ⟨?_, trivial⟩
  have := sumF_del (n := n) hn
  show sumF (delS F n) ≤ _
  omega
theorem ren_fit {F : Fs} {n t : Txt} (hn : (keyS F).Nodup) (h : sumF F ≤ 1048576) : Fit F (.ren n t) := by
  refine ⟨?_, trivial⟩
  have h1 := sumF_del (n := n) hn
  have h2 := sumF_put (b := fileD F n) (n := t) (delS_keys (k := n) hn)
  show sumF (putS (delS F n) t (fileD F n)) ≤ _
  omega
def remE (d : Dk) (n : Txt) : Int := if stopD d then 3 else if getS d.now n = none then 4 else 0
def renE (d : Dk) (n t : Txt) : Int := if stopD d then 3 else if namedB t = false then 1 else if getS d.now n = none then 4 else 0
theorem is_none {α : Type} {x : Option α} (h : x.isSome = false) : x = none := by
  cases x with
  | none => rfl
  | some _ => cases h
theorem is_some {α : Type} {x : Option α} (h : x.isSome = true) : x ≠ none := by
  cases x with
  | none => cases h
  | some _ => exact fun e => by cases e
theorem opD_no {d : Dk} {x : De} {e : Int} (h : e ≠ 0) : opD e d x = cntD d := if_neg h
theorem DkO.no {db sb nb : Nat} {d : Dk} {x : De} {e : Int} {so no : Obj} {pv : Value} {hr : Hp} (he : e ≠ 0) (hok : (cntD d).ok) (hs : ¬ stopD d) (h1 : FsO M so (cntD d).S) (h2 : FsO M no d.now) (h3 : RowD M pv (cntD d).ps hr) : DkO M db (opD e d x) ((db, dkB d.room sb nb pv (cntD d).fuse false) :: (nb, no) :: (sb, so) :: hr) := by
  rw [opD_no he]
  refine ⟨hok, sb, nb, so, no, pv, hr, h1, by rw [cntD_now]; exact h2, h3, ?_⟩
  rw [cntD_room, cntD_down hs]
theorem remove_K {db : Nat} {d : Dk} {hp : Hp} {n : Txt} (ho : DkO M db d hp) (hlen : d.ps.length ≤ 1000000) : K Try.prog 60 [.pointer (some ⟨db, 0, none⟩), str n] M (hp ++ H) fun v' M' H' => v' = .int .i64 (remE d n) ∧ M.le M' ∧ ∃ hp', DkO M' db (opD (remE d n) d (.rem n)) hp' ∧ H' = hp' ++ H := by
  refine K.enterK Try.func60 rfl rfl rfl ?_
  intro Q hNP hQ
  (repeat' (first | refine a_go ?_ | (with_reducible apply Fin.thenK; assumption) | (with_reducible (first | apply C.seqK | apply C.regionK); intro _ _) | (apply R.buildSlice0; exact rfl; intro bz) | (apply R.box; exact rfl; (simp only [Value.cells]; rfl); exact rfl; intro bx) | (apply R.alloc; (simp only [Value.cells]; rfl); exact rfl; intro ba) | (apply R.buildSlice; (exact a_prt); exact rfl; exact rfl; (exact a_fills); exact rfl; intro bl) | (refine a_sp ?_ ?_; (intro h; skip; rotate_left; intro h; skip; rotate_left)) | fail))
  (apply R.call; (exact a_evs); exact rfl); exact counts_KD ho; rintro _ M _ ⟨rfl, rfl, hp1, ho1, rfl, hdn⟩
  have hnn := ho.nodup
  have hok := ho.1
  clear ho
  by_cases hs : stopD d
  · rw [decide_eq_true hs]
    have hE : remE d n = 3 := if_pos hs
    rw [hE] at hQ
    (repeat' (first | refine a_go ?_ | (with_reducible apply Fin.thenK; assumption) | (with_reducible (first | apply C.seqK | apply C.regionK); intro _ _) | (apply R.buildSlice0; exact rfl; intro bz) | (apply R.box; exact rfl; (simp only [Value.cells]; rfl); exact rfl; intro bx) | (apply R.alloc; (simp only [Value.cells]; rfl); exact rfl; intro ba) | (apply R.buildSlice; (exact a_prt); exact rfl; exact rfl; (exact a_fills); exact rfl; intro bl) | (refine a_sp ?_ ?_; (intro h; skip; rotate_left; intro h; skip; rotate_left)) | fail))
    (apply Fin.returnA (H2 := hp1 ++ H); assumption; (first | exact .inl rfl | exact .inr rfl); exact rfl; (exact a_res); (simp only [retv]; rfl); (exact a_arr))
    exact ⟨rfl, Mem.le_refl _, hp1, ho1, rfl⟩
  rw [decide_eq_false hs]
  obtain ⟨hok1, sb, nb, so, no, pv, hr, h1, h2, h3, rfl⟩ := ho1
  rw [cntD_now] at h2
  rw [hdn hs, cntD_room]
  unfold dkB
  obtain ⟨l, hm, hfr, hn⟩ := h2.use
  have hg := (hfr.get hn n).2
  (repeat' (first | (apply R.step; (apply Ok.move; exact rfl); exact rfl) | (apply R.step; (apply Ok.lookupS (ho := hm); exact rfl; exact rfl; exact a_mm); exact rfl) | refine a_go ?_ | (with_reducible apply Fin.thenK; assumption) | (with_reducible (first | apply C.seqK | apply C.regionK); intro _ _) | (apply R.buildSlice0; exact rfl; intro bz) | (apply R.box; exact rfl; (simp only [Value.cells]; rfl); exact rfl; intro bx) | (apply R.alloc; (simp only [Value.cells]; rfl); exact rfl; intro ba) | (apply R.buildSlice; (exact a_prt); exact rfl; exact rfl; (exact a_fills); exact rfl; intro bl) | (refine a_sp ?_ ?_; (intro h; skip; rotate_left; intro h; skip; rotate_left)) | fail))
  · have h : (getS l n).isSome = false := by assumption
    have hE : remE d n = 4 := (if_neg hs).trans (if_pos (is_none (by rw [← hg]; exact h)))
    rw [hE] at hQ
    (apply Fin.returnA (H2 := (db, dkB d.room sb nb pv (cntD d).fuse false) :: (nb, no) :: (sb, so) :: (hr ++ H)); assumption; (first | exact .inl rfl | exact .inr rfl); exact rfl; (exact a_res); (simp only [retv]; rfl); (exact a_arr))
    exact ⟨rfl, Mem.le_refl _, _, DkO.no (sb := sb) (nb := nb) (by decide) hok1 hs h1 h2 h3, rfl⟩
  have h : (getS l n).isSome = true := by assumption
  have hE : remE d n = 0 := (if_neg hs).trans (if_neg (is_some (by rw [← hg]; exact h)))
  rw [hE] at hQ
  have hfit := rem_fit (n := n) hnn hok.sum
  (apply R.call; (exact a_evs); exact rfl; (apply K.arr (h := put_K (db := db) (sb := sb) (nb := nb) (room := d.room) (fuse := (cntD d).fuse) (down := false) (H := (sb, so) :: H) (x := .rem n) h2 h3 rfl hfit (by rw [cntD_ps]; exact hlen))); ((try simp only [List.append_assoc, List.cons_append, List.nil_append, List.append_nil]); exact a_arr); rintro _ M3 _ ⟨rfl, hM3, pv', hp', no', f1, f2, rfl⟩)
  (repeat' (first | refine a_go ?_ | (with_reducible apply Fin.thenK; assumption) | (with_reducible (first | apply C.seqK | apply C.regionK); intro _ _) | (apply R.buildSlice0; exact rfl; intro bz) | (apply R.box; exact rfl; (simp only [Value.cells]; rfl); exact rfl; intro bx) | (apply R.alloc; (simp only [Value.cells]; rfl); exact rfl; intro ba) | (apply R.buildSlice; (exact a_prt); exact rfl; exact rfl; (exact a_fills); exact rfl; intro bl) | (refine a_sp ?_ ?_; (intro h; skip; rotate_left; intro h; skip; rotate_left)) | fail))
  (apply Fin.returnA (H2 := (db, dkB d.room sb nb pv' (cntD d).fuse false) :: (nb, no') :: (sb, so) :: (hp' ++ H)); assumption; (first | exact .inl rfl | exact .inr rfl); exact rfl; (exact a_res); (simp only [retv]; rfl); (exact a_arr))
  exact ⟨rfl, hM3, _, DkO.op (sb := sb) (nb := nb) hok hs hfit (h1.mono hM3) f1 f2, rfl⟩
end Go.Sx
end
