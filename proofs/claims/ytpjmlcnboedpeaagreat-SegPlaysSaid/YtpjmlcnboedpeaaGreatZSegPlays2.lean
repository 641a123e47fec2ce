import Derived.Test.YtpjmlcnboedpeaaGreatRows
import Derived.Maps.RangeRun
import Derived.MapKept
import Derived.Lib.ConvBytes
import Derived.Test.YtpjmlcnboedpeaaGreatZSegPlays1
set_option linter.unusedVariables false
set_option linter.unusedSimpArgs false
section
namespace Go.Sx
open Go.Proofs
instance : Mix Tryz.prog := ⟨by kernel_rfl⟩
instance : Und Tryz.prog 2 (.int .i64) := ⟨Tryz.underlying2⟩
instance : Inf Tryz.prog 2 1 8 (.int .i64 0) := Inf.of (by kernel_rfl)
instance : Und Tryz.prog 3 (.int .i64) := ⟨Tryz.underlying3⟩
instance : Inf Tryz.prog 3 1 8 (.int .i64 0) := Inf.of (by kernel_rfl)
instance : Und Tryz.prog 4 (.bool) := ⟨Tryz.underlying4⟩
instance : Inf Tryz.prog 4 1 1 (.bool false) := Inf.of (by kernel_rfl)
instance : Und Tryz.prog 5 (.int .u8) := ⟨Tryz.underlying5⟩
instance : Inf Tryz.prog 5 1 1 (.int .u8 0) := Inf.of (by kernel_rfl)
instance : Und Tryz.prog 9 (.string) := ⟨Tryz.underlying9⟩
instance : Inf Tryz.prog 9 1 16 (.string ⟨#[]⟩) := Inf.of (by kernel_rfl)
instance : Und Tryz.prog 12 (.int .u64) := ⟨Tryz.underlying12⟩
instance : Inf Tryz.prog 12 1 8 (.int .u64 0) := Inf.of (by kernel_rfl)
instance : Und Tryz.prog 13 (.struct #[{ name := "msg", type := 9, offset := 0, embedded := false, tag := "", pkgPath := "runtime", byteOffset := 0 }, { name := "addr", type := 12, offset := 1, embedded := false, tag := "", pkgPath := "runtime", byteOffset := 16 }]) := ⟨Tryz.underlying13⟩
instance : Inf Tryz.prog 13 2 24 (.agg #[.string ⟨#[]⟩, .int .u64 0]) := Inf.of (by kernel_rfl)
instance : Und Tryz.prog 19 (.struct #[{ name := "typ", type := 17, offset := 0, embedded := false, tag := "", pkgPath := "internal/runtime/maps", byteOffset := 0 }]) := ⟨Tryz.underlying19⟩
instance : Inf Tryz.prog 19 1 8 (.agg #[.pointer none]) := Inf.of (by kernel_rfl)
instance : Und Tryz.prog 21 (.int .i32) := ⟨Tryz.underlying21⟩
instance : Inf Tryz.prog 21 1 4 (.int .i32 0) := Inf.of (by kernel_rfl)
instance : Und Tryz.prog 22 (.slice 37) := ⟨Tryz.underlying22⟩
instance : Inf Tryz.prog 22 1 24 (.slice none 0 0) := Inf.of (by kernel_rfl)
instance : Und Tryz.prog 23 (.slice 33) := ⟨Tryz.underlying23⟩
instance : Inf Tryz.prog 23 1 24 (.slice none 0 0) := Inf.of (by kernel_rfl)
instance : Und Tryz.prog 24 (.slice 3) := ⟨Tryz.underlying24⟩
instance : Inf Tryz.prog 24 1 24 (.slice none 0 0) := Inf.of (by kernel_rfl)
instance : Und Tryz.prog 27 (.int .u64) := ⟨Tryz.underlying27⟩
instance : Inf Tryz.prog 27 1 8 (.int .u64 0) := Inf.of (by kernel_rfl)
instance : Und Tryz.prog 28 (.slice 5) := ⟨Tryz.underlying28⟩
instance : Inf Tryz.prog 28 1 24 (.slice none 0 0) := Inf.of (by kernel_rfl)
instance : Und Tryz.prog 29 (.int .i64) := ⟨Tryz.underlying29⟩
instance : Inf Tryz.prog 29 1 8 (.int .i64 0) := Inf.of (by kernel_rfl)
instance : Und Tryz.prog 32 (.struct #[{ name := "Kind", type := 3, offset := 0, embedded := false, tag := "", pkgPath := "", byteOffset := 0 }, { name := "Term", type := 27, offset := 1, embedded := false, tag := "", pkgPath := "", byteOffset := 8 }, { name := "Index", type := 27, offset := 2, embedded := false, tag := "", pkgPath := "", byteOffset := 16 }, { name := "Data", type := 28, offset := 3, embedded := false, tag := "", pkgPath := "", byteOffset := 24 }, { name := "Conf", type := 3, offset := 4, embedded := false, tag := "", pkgPath := "", byteOffset := 48 }]) := ⟨Tryz.underlying32⟩
instance : Inf Tryz.prog 32 5 56 (.agg #[.int .i64 0, .int .u64 0, .int .u64 0, .slice none 0 0, .int .i64 0]) := Inf.of (by kernel_rfl)
instance : Und Tryz.prog 33 (.struct #[{ name := "Kind", type := 3, offset := 0, embedded := false, tag := "", pkgPath := "", byteOffset := 0 }, { name := "Term", type := 27, offset := 1, embedded := false, tag := "", pkgPath := "", byteOffset := 8 }, { name := "Index", type := 27, offset := 2, embedded := false, tag := "", pkgPath := "", byteOffset := 16 }, { name := "Data", type := 28, offset := 3, embedded := false, tag := "", pkgPath := "", byteOffset := 24 }, { name := "Conf", type := 3, offset := 4, embedded := false, tag := "", pkgPath := "", byteOffset := 48 }]) := ⟨Tryz.underlying33⟩
instance : Inf Tryz.prog 33 5 56 (.agg #[.int .i64 0, .int .u64 0, .int .u64 0, .slice none 0 0, .int .i64 0]) := Inf.of (by kernel_rfl)
instance : Und Tryz.prog 36 (.struct #[{ name := "Name", type := 9, offset := 0, embedded := false, tag := "", pkgPath := "", byteOffset := 0 }, { name := "Bytes", type := 28, offset := 1, embedded := false, tag := "", pkgPath := "", byteOffset := 16 }]) := ⟨Tryz.underlying36⟩
instance : Inf Tryz.prog 36 2 40 (.agg #[.string ⟨#[]⟩, .slice none 0 0]) := Inf.of (by kernel_rfl)
instance : Und Tryz.prog 37 (.struct #[{ name := "Name", type := 9, offset := 0, embedded := false, tag := "", pkgPath := "", byteOffset := 0 }, { name := "Bytes", type := 28, offset := 1, embedded := false, tag := "", pkgPath := "", byteOffset := 16 }]) := ⟨Tryz.underlying37⟩
instance : Inf Tryz.prog 37 2 40 (.agg #[.string ⟨#[]⟩, .slice none 0 0]) := Inf.of (by kernel_rfl)
instance : Und Tryz.prog 38 (.pointer 107) := ⟨Tryz.underlying38⟩
instance : Inf Tryz.prog 38 1 8 (.pointer none) := Inf.of (by kernel_rfl)
instance : Und Tryz.prog 39 (.pointer 68) := ⟨Tryz.underlying39⟩
instance : Inf Tryz.prog 39 1 8 (.pointer none) := Inf.of (by kernel_rfl)
instance : Und Tryz.prog 43 (.pointer 78) := ⟨Tryz.underlying43⟩
instance : Inf Tryz.prog 43 1 8 (.pointer none) := Inf.of (by kernel_rfl)
instance : Und Tryz.prog 46 (.pointer 91) := ⟨Tryz.underlying46⟩
instance : Inf Tryz.prog 46 1 8 (.pointer none) := Inf.of (by kernel_rfl)
instance : Und Tryz.prog 51 (.slice 57) := ⟨Tryz.underlying51⟩
instance : Inf Tryz.prog 51 1 24 (.slice none 0 0) := Inf.of (by kernel_rfl)
instance : Und Tryz.prog 54 (.struct #[{ name := "What", type := 3, offset := 0, embedded := false, tag := "", pkgPath := "", byteOffset := 0 }, { name := "A", type := 3, offset := 1, embedded := false, tag := "", pkgPath := "", byteOffset := 8 }, { name := "B", type := 3, offset := 2, embedded := false, tag := "", pkgPath := "", byteOffset := 16 }]) := ⟨Tryz.underlying54⟩
instance : Inf Tryz.prog 54 3 24 (.agg #[.int .i64 0, .int .i64 0, .int .i64 0]) := Inf.of (by kernel_rfl)
instance : Und Tryz.prog 55 (.struct #[{ name := "What", type := 3, offset := 0, embedded := false, tag := "", pkgPath := "", byteOffset := 0 }, { name := "A", type := 3, offset := 1, embedded := false, tag := "", pkgPath := "", byteOffset := 8 }, { name := "B", type := 3, offset := 2, embedded := false, tag := "", pkgPath := "", byteOffset := 16 }]) := ⟨Tryz.underlying55⟩
instance : Inf Tryz.prog 55 3 24 (.agg #[.int .i64 0, .int .i64 0, .int .i64 0]) := Inf.of (by kernel_rfl)
instance : Und Tryz.prog 56 (.struct #[{ name := "What", type := 3, offset := 0, embedded := false, tag := "", pkgPath := "", byteOffset := 0 }, { name := "Index", type := 27, offset := 1, embedded := false, tag := "", pkgPath := "", byteOffset := 8 }, { name := "L", type := 23, offset := 2, embedded := false, tag := "", pkgPath := "", byteOffset := 16 }, { name := "Off", type := 3, offset := 3, embedded := false, tag := "", pkgPath := "", byteOffset := 40 }, { name := "H", type := 55, offset := 4, embedded := false, tag := "", pkgPath := "", byteOffset := 48 }]) := ⟨Tryz.underlying56⟩
instance : Inf Tryz.prog 56 7 72 (.agg #[.int .i64 0, .int .u64 0, .slice none 0 0, .int .i64 0, .int .i64 0, .int .i64 0, .int .i64 0]) := Inf.of (by kernel_rfl)
instance : Und Tryz.prog 57 (.struct #[{ name := "What", type := 3, offset := 0, embedded := false, tag := "", pkgPath := "", byteOffset := 0 }, { name := "Index", type := 27, offset := 1, embedded := false, tag := "", pkgPath := "", byteOffset := 8 }, { name := "L", type := 23, offset := 2, embedded := false, tag := "", pkgPath := "", byteOffset := 16 }, { name := "Off", type := 3, offset := 3, embedded := false, tag := "", pkgPath := "", byteOffset := 40 }, { name := "H", type := 55, offset := 4, embedded := false, tag := "", pkgPath := "", byteOffset := 48 }]) := ⟨Tryz.underlying57⟩
instance : Inf Tryz.prog 57 7 72 (.agg #[.int .i64 0, .int .u64 0, .slice none 0 0, .int .i64 0, .int .i64 0, .int .i64 0, .int .i64 0]) := Inf.of (by kernel_rfl)
instance : Und Tryz.prog 61 (.int .u32) := ⟨Tryz.underlying61⟩
instance : Inf Tryz.prog 61 1 4 (.int .u32 0) := Inf.of (by kernel_rfl)
instance : Und Tryz.prog 63 (.int .u64) := ⟨Tryz.underlying63⟩
instance : Inf Tryz.prog 63 1 8 (.int .u64 0) := Inf.of (by kernel_rfl)
instance : Und Tryz.prog 66 (.slice 113) := ⟨Tryz.underlying66⟩
instance : Inf Tryz.prog 66 1 24 (.slice none 0 0) := Inf.of (by kernel_rfl)
instance : Und Tryz.prog 67 (.struct #[{ name := "Space", type := 3, offset := 0, embedded := false, tag := "", pkgPath := "", byteOffset := 0 }, { name := "synced", type := 22, offset := 1, embedded := false, tag := "", pkgPath := "bursar/bursarref7", byteOffset := 8 }, { name := "now", type := 22, offset := 2, embedded := false, tag := "", pkgPath := "bursar/bursarref7", byteOffset := 32 }, { name := "Wait", type := 66, offset := 3, embedded := false, tag := "", pkgPath := "", byteOffset := 56 }, { name := "fused", type := 4, offset := 4, embedded := false, tag := "", pkgPath := "bursar/bursarref7", byteOffset := 80 }, { name := "fuse", type := 3, offset := 5, embedded := false, tag := "", pkgPath := "bursar/bursarref7", byteOffset := 88 }, { name := "IsDown", type := 4, offset := 6, embedded := false, tag := "", pkgPath := "", byteOffset := 96 }]) := ⟨Tryz.underlying67⟩
instance : Inf Tryz.prog 67 7 104 (.agg #[.int .i64 0, .slice none 0 0, .slice none 0 0, .slice none 0 0, .bool false, .int .i64 0, .bool false]) := Inf.of (by kernel_rfl)
instance : Und Tryz.prog 68 (.struct #[{ name := "Space", type := 3, offset := 0, embedded := false, tag := "", pkgPath := "", byteOffset := 0 }, { name := "synced", type := 22, offset := 1, embedded := false, tag := "", pkgPath := "bursar/bursarref7", byteOffset := 8 }, { name := "now", type := 22, offset := 2, embedded := false, tag := "", pkgPath := "bursar/bursarref7", byteOffset := 32 }, { name := "Wait", type := 66, offset := 3, embedded := false, tag := "", pkgPath := "", byteOffset := 56 }, { name := "fused", type := 4, offset := 4, embedded := false, tag := "", pkgPath := "bursar/bursarref7", byteOffset := 80 }, { name := "fuse", type := 3, offset := 5, embedded := false, tag := "", pkgPath := "bursar/bursarref7", byteOffset := 88 }, { name := "IsDown", type := 4, offset := 6, embedded := false, tag := "", pkgPath := "", byteOffset := 96 }]) := ⟨Tryz.underlying68⟩
instance : Inf Tryz.prog 68 7 104 (.agg #[.int .i64 0, .slice none 0 0, .slice none 0 0, .slice none 0 0, .bool false, .int .i64 0, .bool false]) := Inf.of (by kernel_rfl)
instance : Und Tryz.prog 76 (.slice 85) := ⟨Tryz.underlying76⟩
instance : Inf Tryz.prog 76 1 24 (.slice none 0 0) := Inf.of (by kernel_rfl)
instance : Und Tryz.prog 77 (.struct #[{ name := "d", type := 38, offset := 0, embedded := false, tag := "", pkgPath := "bursar/seg", byteOffset := 0 }, { name := "limit", type := 3, offset := 1, embedded := false, tag := "", pkgPath := "bursar/seg", byteOffset := 8 }, { name := "parts", type := 76, offset := 2, embedded := false, tag := "", pkgPath := "bursar/seg", byteOffset := 16 }]) := ⟨Tryz.underlying77⟩
instance : Inf Tryz.prog 77 3 40 (.agg #[.pointer none, .int .i64 0, .slice none 0 0]) := Inf.of (by kernel_rfl)
instance : Und Tryz.prog 78 (.struct #[{ name := "d", type := 38, offset := 0, embedded := false, tag := "", pkgPath := "bursar/seg", byteOffset := 0 }, { name := "limit", type := 3, offset := 1, embedded := false, tag := "", pkgPath := "bursar/seg", byteOffset := 8 }, { name := "parts", type := 76, offset := 2, embedded := false, tag := "", pkgPath := "bursar/seg", byteOffset := 16 }]) := ⟨Tryz.underlying78⟩
instance : Inf Tryz.prog 78 3 40 (.agg #[.pointer none, .int .i64 0, .slice none 0 0]) := Inf.of (by kernel_rfl)
instance : Und Tryz.prog 79 (.slice 27) := ⟨Tryz.underlying79⟩
instance : Inf Tryz.prog 79 1 24 (.slice none 0 0) := Inf.of (by kernel_rfl)
instance : Und Tryz.prog 80 (.slice 9) := ⟨Tryz.underlying80⟩
instance : Inf Tryz.prog 80 1 24 (.slice none 0 0) := Inf.of (by kernel_rfl)
instance : Und Tryz.prog 84 (.struct #[{ name := "first", type := 27, offset := 0, embedded := false, tag := "", pkgPath := "bursar/seg", byteOffset := 0 }, { name := "list", type := 23, offset := 1, embedded := false, tag := "", pkgPath := "bursar/seg", byteOffset := 8 }, { name := "ends", type := 24, offset := 2, embedded := false, tag := "", pkgPath := "bursar/seg", byteOffset := 32 }]) := ⟨Tryz.underlying84⟩
instance : Inf Tryz.prog 84 3 56 (.agg #[.int .u64 0, .slice none 0 0, .slice none 0 0]) := Inf.of (by kernel_rfl)
instance : Und Tryz.prog 85 (.struct #[{ name := "first", type := 27, offset := 0, embedded := false, tag := "", pkgPath := "bursar/seg", byteOffset := 0 }, { name := "list", type := 23, offset := 1, embedded := false, tag := "", pkgPath := "bursar/seg", byteOffset := 8 }, { name := "ends", type := 24, offset := 2, embedded := false, tag := "", pkgPath := "bursar/seg", byteOffset := 32 }]) := ⟨Tryz.underlying85⟩
instance : Inf Tryz.prog 85 3 56 (.agg #[.int .u64 0, .slice none 0 0, .slice none 0 0]) := Inf.of (by kernel_rfl)
instance : Und Tryz.prog 89 (.slice 93) := ⟨Tryz.underlying89⟩
instance : Inf Tryz.prog 89 1 24 (.slice none 0 0) := Inf.of (by kernel_rfl)
instance : Und Tryz.prog 90 (.struct #[{ name := "d", type := 39, offset := 0, embedded := false, tag := "", pkgPath := "bursar/bursarref9", byteOffset := 0 }, { name := "limit", type := 3, offset := 1, embedded := false, tag := "", pkgPath := "bursar/bursarref9", byteOffset := 8 }, { name := "parts", type := 89, offset := 2, embedded := false, tag := "", pkgPath := "bursar/bursarref9", byteOffset := 16 }]) := ⟨Tryz.underlying90⟩
instance : Inf Tryz.prog 90 3 40 (.agg #[.pointer none, .int .i64 0, .slice none 0 0]) := Inf.of (by kernel_rfl)
instance : Und Tryz.prog 91 (.struct #[{ name := "d", type := 39, offset := 0, embedded := false, tag := "", pkgPath := "bursar/bursarref9", byteOffset := 0 }, { name := "limit", type := 3, offset := 1, embedded := false, tag := "", pkgPath := "bursar/bursarref9", byteOffset := 8 }, { name := "parts", type := 89, offset := 2, embedded := false, tag := "", pkgPath := "bursar/bursarref9", byteOffset := 16 }]) := ⟨Tryz.underlying91⟩
instance : Inf Tryz.prog 91 3 40 (.agg #[.pointer none, .int .i64 0, .slice none 0 0]) := Inf.of (by kernel_rfl)
instance : Und Tryz.prog 92 (.struct #[{ name := "first", type := 27, offset := 0, embedded := false, tag := "", pkgPath := "bursar/bursarref9", byteOffset := 0 }, { name := "l", type := 23, offset := 1, embedded := false, tag := "", pkgPath := "bursar/bursarref9", byteOffset := 8 }, { name := "at", type := 24, offset := 2, embedded := false, tag := "", pkgPath := "bursar/bursarref9", byteOffset := 32 }, { name := "size", type := 3, offset := 3, embedded := false, tag := "", pkgPath := "bursar/bursarref9", byteOffset := 56 }]) := ⟨Tryz.underlying92⟩
instance : Inf Tryz.prog 92 4 64 (.agg #[.int .u64 0, .slice none 0 0, .slice none 0 0, .int .i64 0]) := Inf.of (by kernel_rfl)
instance : Und Tryz.prog 93 (.struct #[{ name := "first", type := 27, offset := 0, embedded := false, tag := "", pkgPath := "bursar/bursarref9", byteOffset := 0 }, { name := "l", type := 23, offset := 1, embedded := false, tag := "", pkgPath := "bursar/bursarref9", byteOffset := 8 }, { name := "at", type := 24, offset := 2, embedded := false, tag := "", pkgPath := "bursar/bursarref9", byteOffset := 32 }, { name := "size", type := 3, offset := 3, embedded := false, tag := "", pkgPath := "bursar/bursarref9", byteOffset := 56 }]) := ⟨Tryz.underlying93⟩
instance : Inf Tryz.prog 93 4 64 (.agg #[.int .u64 0, .slice none 0 0, .slice none 0 0, .int .i64 0]) := Inf.of (by kernel_rfl)
instance : Und Tryz.prog 104 (.map 9 28) := ⟨Tryz.underlying104⟩
instance : Inf Tryz.prog 104 1 8 (.map none) := Inf.of (by kernel_rfl)
instance : Und Tryz.prog 105 (.slice 109) := ⟨Tryz.underlying105⟩
instance : Inf Tryz.prog 105 1 24 (.slice none 0 0) := Inf.of (by kernel_rfl)
instance : Und Tryz.prog 106 (.struct #[{ name := "room", type := 3, offset := 0, embedded := false, tag := "", pkgPath := "bursar/disk", byteOffset := 0 }, { name := "synced", type := 104, offset := 1, embedded := false, tag := "", pkgPath := "bursar/disk", byteOffset := 8 }, { name := "now", type := 104, offset := 2, embedded := false, tag := "", pkgPath := "bursar/disk", byteOffset := 16 }, { name := "pending", type := 105, offset := 3, embedded := false, tag := "", pkgPath := "bursar/disk", byteOffset := 24 }, { name := "fuse", type := 3, offset := 4, embedded := false, tag := "", pkgPath := "bursar/disk", byteOffset := 48 }, { name := "down", type := 4, offset := 5, embedded := false, tag := "", pkgPath := "bursar/disk", byteOffset := 56 }]) := ⟨Tryz.underlying106⟩
instance : Inf Tryz.prog 106 6 64 (.agg #[.int .i64 0, .map none, .map none, .slice none 0 0, .int .i64 0, .bool false]) := Inf.of (by kernel_rfl)
instance : Und Tryz.prog 107 (.struct #[{ name := "room", type := 3, offset := 0, embedded := false, tag := "", pkgPath := "bursar/disk", byteOffset := 0 }, { name := "synced", type := 104, offset := 1, embedded := false, tag := "", pkgPath := "bursar/disk", byteOffset := 8 }, { name := "now", type := 104, offset := 2, embedded := false, tag := "", pkgPath := "bursar/disk", byteOffset := 16 }, { name := "pending", type := 105, offset := 3, embedded := false, tag := "", pkgPath := "bursar/disk", byteOffset := 24 }, { name := "fuse", type := 3, offset := 4, embedded := false, tag := "", pkgPath := "bursar/disk", byteOffset := 48 }, { name := "down", type := 4, offset := 5, embedded := false, tag := "", pkgPath := "bursar/disk", byteOffset := 56 }]) := ⟨Tryz.underlying107⟩
instance : Inf Tryz.prog 107 6 64 (.agg #[.int .i64 0, .map none, .map none, .slice none 0 0, .int .i64 0, .bool false]) := Inf.of (by kernel_rfl)
instance : Und Tryz.prog 108 (.struct #[{ name := "kind", type := 3, offset := 0, embedded := false, tag := "", pkgPath := "bursar/disk", byteOffset := 0 }, { name := "name", type := 9, offset := 1, embedded := false, tag := "", pkgPath := "bursar/disk", byteOffset := 8 }, { name := "to", type := 9, offset := 2, embedded := false, tag := "", pkgPath := "bursar/disk", byteOffset := 24 }, { name := "bytes", type := 28, offset := 3, embedded := false, tag := "", pkgPath := "bursar/disk", byteOffset := 40 }, { name := "size", type := 3, offset := 4, embedded := false, tag := "", pkgPath := "bursar/disk", byteOffset := 64 }]) := ⟨Tryz.underlying108⟩
instance : Inf Tryz.prog 108 5 72 (.agg #[.int .i64 0, .string ⟨#[]⟩, .string ⟨#[]⟩, .slice none 0 0, .int .i64 0]) := Inf.of (by kernel_rfl)
instance : Und Tryz.prog 109 (.struct #[{ name := "kind", type := 3, offset := 0, embedded := false, tag := "", pkgPath := "bursar/disk", byteOffset := 0 }, { name := "name", type := 9, offset := 1, embedded := false, tag := "", pkgPath := "bursar/disk", byteOffset := 8 }, { name := "to", type := 9, offset := 2, embedded := false, tag := "", pkgPath := "bursar/disk", byteOffset := 24 }, { name := "bytes", type := 28, offset := 3, embedded := false, tag := "", pkgPath := "bursar/disk", byteOffset := 40 }, { name := "size", type := 3, offset := 4, embedded := false, tag := "", pkgPath := "bursar/disk", byteOffset := 64 }]) := ⟨Tryz.underlying109⟩
instance : Inf Tryz.prog 109 5 72 (.agg #[.int .i64 0, .string ⟨#[]⟩, .string ⟨#[]⟩, .slice none 0 0, .int .i64 0]) := Inf.of (by kernel_rfl)
instance : Und Tryz.prog 112 (.struct #[{ name := "what", type := 3, offset := 0, embedded := false, tag := "", pkgPath := "bursar/bursarref7", byteOffset := 0 }, { name := "name", type := 9, offset := 1, embedded := false, tag := "", pkgPath := "bursar/bursarref7", byteOffset := 8 }, { name := "to", type := 9, offset := 2, embedded := false, tag := "", pkgPath := "bursar/bursarref7", byteOffset := 24 }, { name := "b", type := 28, offset := 3, embedded := false, tag := "", pkgPath := "bursar/bursarref7", byteOffset := 40 }, { name := "size", type := 3, offset := 4, embedded := false, tag := "", pkgPath := "bursar/bursarref7", byteOffset := 64 }]) := ⟨Tryz.underlying112⟩
instance : Inf Tryz.prog 112 5 72 (.agg #[.int .i64 0, .string ⟨#[]⟩, .string ⟨#[]⟩, .slice none 0 0, .int .i64 0]) := Inf.of (by kernel_rfl)
instance : Und Tryz.prog 113 (.struct #[{ name := "what", type := 3, offset := 0, embedded := false, tag := "", pkgPath := "bursar/bursarref7", byteOffset := 0 }, { name := "name", type := 9, offset := 1, embedded := false, tag := "", pkgPath := "bursar/bursarref7", byteOffset := 8 }, { name := "to", type := 9, offset := 2, embedded := false, tag := "", pkgPath := "bursar/bursarref7", byteOffset := 24 }, { name := "b", type := 28, offset := 3, embedded := false, tag := "", pkgPath := "bursar/bursarref7", byteOffset := 40 }, { name := "size", type := 3, offset := 4, embedded := false, tag := "", pkgPath := "bursar/bursarref7", byteOffset := 64 }]) := ⟨Tryz.underlying113⟩
instance : Inf Tryz.prog 113 5 72 (.agg #[.int .i64 0, .string ⟨#[]⟩, .string ⟨#[]⟩, .slice none 0 0, .int .i64 0]) := Inf.of (by kernel_rfl)
instance : Und Tryz.prog 133 (.slice 28) := ⟨Tryz.underlying133⟩
instance : Inf Tryz.prog 133 1 24 (.slice none 0 0) := Inf.of (by kernel_rfl)
instance : Und Tryz.prog 141 (.pointer 93) := ⟨Tryz.underlying141⟩
instance : Inf Tryz.prog 141 1 8 (.pointer none) := Inf.of (by kernel_rfl)
instance : Und Tryz.prog 144 (.pointer 165) := ⟨Tryz.underlying144⟩
instance : Inf Tryz.prog 144 1 8 (.pointer none) := Inf.of (by kernel_rfl)
instance : Und Tryz.prog 155 (.pointer 178) := ⟨Tryz.underlying155⟩
instance : Inf Tryz.prog 155 1 8 (.pointer none) := Inf.of (by kernel_rfl)
instance : Und Tryz.prog 160 (.pointer 162) := ⟨Tryz.underlying160⟩
instance : Inf Tryz.prog 160 1 8 (.pointer none) := Inf.of (by kernel_rfl)
instance : Und Tryz.prog 161 (.struct #[{ name := "B", type := 28, offset := 0, embedded := false, tag := "", pkgPath := "", byteOffset := 0 }, { name := "At", type := 3, offset := 1, embedded := false, tag := "", pkgPath := "", byteOffset := 24 }, { name := "Bad", type := 29, offset := 2, embedded := false, tag := "", pkgPath := "", byteOffset := 32 }]) := ⟨Tryz.underlying161⟩
instance : Inf Tryz.prog 161 3 40 (.agg #[.slice none 0 0, .int .i64 0, .int .i64 0]) := Inf.of (by kernel_rfl)
instance : Und Tryz.prog 162 (.struct #[{ name := "B", type := 28, offset := 0, embedded := false, tag := "", pkgPath := "", byteOffset := 0 }, { name := "At", type := 3, offset := 1, embedded := false, tag := "", pkgPath := "", byteOffset := 24 }, { name := "Bad", type := 29, offset := 2, embedded := false, tag := "", pkgPath := "", byteOffset := 32 }]) := ⟨Tryz.underlying162⟩
instance : Inf Tryz.prog 162 3 40 (.agg #[.slice none 0 0, .int .i64 0, .int .i64 0]) := Inf.of (by kernel_rfl)
instance : Und Tryz.prog 164 (.struct #[{ name := "b", type := 28, offset := 0, embedded := false, tag := "", pkgPath := "bursar/pack", byteOffset := 0 }]) := ⟨Tryz.underlying164⟩
instance : Inf Tryz.prog 164 1 24 (.agg #[.slice none 0 0]) := Inf.of (by kernel_rfl)
instance : Und Tryz.prog 165 (.struct #[{ name := "b", type := 28, offset := 0, embedded := false, tag := "", pkgPath := "bursar/pack", byteOffset := 0 }]) := ⟨Tryz.underlying165⟩
instance : Inf Tryz.prog 165 1 24 (.agg #[.slice none 0 0]) := Inf.of (by kernel_rfl)
instance : Und Tryz.prog 167 (.int .i64) := ⟨Tryz.underlying167⟩
instance : Inf Tryz.prog 167 1 8 (.int .i64 0) := Inf.of (by kernel_rfl)
instance : Und Tryz.prog 177 (.struct #[{ name := "b", type := 28, offset := 0, embedded := false, tag := "", pkgPath := "bursar/pack", byteOffset := 0 }, { name := "at", type := 3, offset := 1, embedded := false, tag := "", pkgPath := "bursar/pack", byteOffset := 24 }, { name := "bad", type := 29, offset := 2, embedded := false, tag := "", pkgPath := "bursar/pack", byteOffset := 32 }]) := ⟨Tryz.underlying177⟩
instance : Inf Tryz.prog 177 3 40 (.agg #[.slice none 0 0, .int .i64 0, .int .i64 0]) := Inf.of (by kernel_rfl)
instance : Und Tryz.prog 178 (.struct #[{ name := "b", type := 28, offset := 0, embedded := false, tag := "", pkgPath := "bursar/pack", byteOffset := 0 }, { name := "at", type := 3, offset := 1, embedded := false, tag := "", pkgPath := "bursar/pack", byteOffset := 24 }, { name := "bad", type := 29, offset := 2, embedded := false, tag := "", pkgPath := "bursar/pack", byteOffset := 32 }]) := ⟨Tryz.underlying178⟩
instance : Inf Tryz.prog 178 3 40 (.agg #[.slice none 0 0, .int .i64 0, .int .i64 0]) := Inf.of (by kernel_rfl)
instance : Und Tryz.prog 183 (.int .u64) := ⟨Tryz.underlying183⟩
instance : Inf Tryz.prog 183 1 8 (.int .u64 0) := Inf.of (by kernel_rfl)
instance : Und Tryz.prog 186 (.pointer 3) := ⟨Tryz.underlying186⟩
instance : Inf Tryz.prog 186 1 8 (.pointer none) := Inf.of (by kernel_rfl)
instance : Und Tryz.prog 188 (.pointer 183) := ⟨Tryz.underlying188⟩
instance : Inf Tryz.prog 188 1 8 (.pointer none) := Inf.of (by kernel_rfl)
instance : Und Tryz.prog 200 (.pointer 5) := ⟨Tryz.underlying200⟩
instance : Inf Tryz.prog 200 1 8 (.pointer none) := Inf.of (by kernel_rfl)
instance : Und Tryz.prog 206 (.unsafePointer) := ⟨Tryz.underlying206⟩
instance : Inf Tryz.prog 206 1 8 (.pointer none) := Inf.of (by kernel_rfl)
instance : Fld Tryz.prog 13 0 0 := ⟨fun _ _ _ => by kernel_rfl⟩
instance : FldV Tryz.prog 13 0 0 1 false := FldV.of 9 rfl rfl rfl rfl
instance : Fld Tryz.prog 13 1 1 := ⟨fun _ _ _ => by kernel_rfl⟩
instance : FldV Tryz.prog 13 1 1 1 false := FldV.of 12 rfl rfl rfl rfl
instance : Bld Tryz.prog 13 [(0, 1), (1, 1)] [.string ⟨#[]⟩, .int .u64 0] := Bld.of rfl (fun _ => by kernel_rfl)
instance : Fld Tryz.prog 19 0 0 := ⟨fun _ _ _ => by kernel_rfl⟩
instance : Fld Tryz.prog 32 0 0 := ⟨fun _ _ _ => by kernel_rfl⟩
instance : FldV Tryz.prog 32 0 0 1 false := FldV.of 3 rfl rfl rfl rfl
instance : Fld Tryz.prog 32 1 1 := ⟨fun _ _ _ => by kernel_rfl⟩
instance : FldV Tryz.prog 32 1 1 1 false := FldV.of 27 rfl rfl rfl rfl
instance : Fld Tryz.prog 32 2 2 := ⟨fun _ _ _ => by kernel_rfl⟩
instance : FldV Tryz.prog 32 2 2 1 false := FldV.of 27 rfl rfl rfl rfl
instance : Fld Tryz.prog 32 3 3 := ⟨fun _ _ _ => by kernel_rfl⟩
instance : FldV Tryz.prog 32 3 3 1 false := FldV.of 28 rfl rfl rfl rfl
instance : Fld Tryz.prog 32 4 4 := ⟨fun _ _ _ => by kernel_rfl⟩
instance : FldV Tryz.prog 32 4 4 1 false := FldV.of 3 rfl rfl rfl rfl
instance : Bld Tryz.prog 32 [(0, 1), (1, 1), (2, 1), (3, 1), (4, 1)] [.int .i64 0, .int .u64 0, .int .u64 0, .slice none 0 0, .int .i64 0] := Bld.of rfl (fun _ => by kernel_rfl)
instance : Fld Tryz.prog 33 0 0 := ⟨fun _ _ _ => by kernel_rfl⟩
instance : FldV Tryz.prog 33 0 0 1 false := FldV.of 3 rfl rfl rfl rfl
instance : Fld Tryz.prog 33 1 1 := ⟨fun _ _ _ => by kernel_rfl⟩
instance : FldV Tryz.prog 33 1 1 1 false := FldV.of 27 rfl rfl rfl rfl
instance : Fld Tryz.prog 33 2 2 := ⟨fun _ _ _ => by kernel_rfl⟩
instance : FldV Tryz.prog 33 2 2 1 false := FldV.of 27 rfl rfl rfl rfl
instance : Fld Tryz.prog 33 3 3 := ⟨fun _ _ _ => by kernel_rfl⟩
instance : FldV Tryz.prog 33 3 3 1 false := FldV.of 28 rfl rfl rfl rfl
instance : Fld Tryz.prog 33 4 4 := ⟨fun _ _ _ => by kernel_rfl⟩
instance : FldV Tryz.prog 33 4 4 1 false := FldV.of 3 rfl rfl rfl rfl
instance : Bld Tryz.prog 33 [(0, 1), (1, 1), (2, 1), (3, 1), (4, 1)] [.int .i64 0, .int .u64 0, .int .u64 0, .slice none 0 0, .int .i64 0] := Bld.of rfl (fun _ => by kernel_rfl)
instance : Fld Tryz.prog 36 0 0 := ⟨fun _ _ _ => by kernel_rfl⟩
instance : FldV Tryz.prog 36 0 0 1 false := FldV.of 9 rfl rfl rfl rfl
instance : Fld Tryz.prog 36 1 1 := ⟨fun _ _ _ => by kernel_rfl⟩
instance : FldV Tryz.prog 36 1 1 1 false := FldV.of 28 rfl rfl rfl rfl
instance : Bld Tryz.prog 36 [(0, 1), (1, 1)] [.string ⟨#[]⟩, .slice none 0 0] := Bld.of rfl (fun _ => by kernel_rfl)
instance : Fld Tryz.prog 37 0 0 := ⟨fun _ _ _ => by kernel_rfl⟩
instance : FldV Tryz.prog 37 0 0 1 false := FldV.of 9 rfl rfl rfl rfl
instance : Fld Tryz.prog 37 1 1 := ⟨fun _ _ _ => by kernel_rfl⟩
instance : FldV Tryz.prog 37 1 1 1 false := FldV.of 28 rfl rfl rfl rfl
instance : Bld Tryz.prog 37 [(0, 1), (1, 1)] [.string ⟨#[]⟩, .slice none 0 0] := Bld.of rfl (fun _ => by kernel_rfl)
instance : Fld Tryz.prog 54 0 0 := ⟨fun _ _ _ => by kernel_rfl⟩
instance : FldV Tryz.prog 54 0 0 1 false := FldV.of 3 rfl rfl rfl rfl
instance : Fld Tryz.prog 54 1 1 := ⟨fun _ _ _ => by kernel_rfl⟩
instance : FldV Tryz.prog 54 1 1 1 false := FldV.of 3 rfl rfl rfl rfl
instance : Fld Tryz.prog 54 2 2 := ⟨fun _ _ _ => by kernel_rfl⟩
instance : FldV Tryz.prog 54 2 2 1 false := FldV.of 3 rfl rfl rfl rfl
instance : Bld Tryz.prog 54 [(0, 1), (1, 1), (2, 1)] [.int .i64 0, .int .i64 0, .int .i64 0] := Bld.of rfl (fun _ => by kernel_rfl)
instance : Fld Tryz.prog 55 0 0 := ⟨fun _ _ _ => by kernel_rfl⟩
instance : FldV Tryz.prog 55 0 0 1 false := FldV.of 3 rfl rfl rfl rfl
instance : Fld Tryz.prog 55 1 1 := ⟨fun _ _ _ => by kernel_rfl⟩
instance : FldV Tryz.prog 55 1 1 1 false := FldV.of 3 rfl rfl rfl rfl
instance : Fld Tryz.prog 55 2 2 := ⟨fun _ _ _ => by kernel_rfl⟩
instance : FldV Tryz.prog 55 2 2 1 false := FldV.of 3 rfl rfl rfl rfl
instance : Bld Tryz.prog 55 [(0, 1), (1, 1), (2, 1)] [.int .i64 0, .int .i64 0, .int .i64 0] := Bld.of rfl (fun _ => by kernel_rfl)
instance : Fld Tryz.prog 56 0 0 := ⟨fun _ _ _ => by kernel_rfl⟩
instance : FldV Tryz.prog 56 0 0 1 false := FldV.of 3 rfl rfl rfl rfl
instance : Fld Tryz.prog 56 1 1 := ⟨fun _ _ _ => by kernel_rfl⟩
instance : FldV Tryz.prog 56 1 1 1 false := FldV.of 27 rfl rfl rfl rfl
instance : Fld Tryz.prog 56 2 2 := ⟨fun _ _ _ => by kernel_rfl⟩
instance : FldV Tryz.prog 56 2 2 1 false := FldV.of 23 rfl rfl rfl rfl
instance : Fld Tryz.prog 56 3 3 := ⟨fun _ _ _ => by kernel_rfl⟩
instance : FldV Tryz.prog 56 3 3 1 false := FldV.of 3 rfl rfl rfl rfl
instance : Fld Tryz.prog 56 4 4 := ⟨fun _ _ _ => by kernel_rfl⟩
instance : FldV Tryz.prog 56 4 4 3 true := FldV.of 55 rfl rfl rfl rfl
instance : Bld Tryz.prog 56 [(0, 1), (1, 1), (2, 1), (3, 1), (4, 3)] [.int .i64 0, .int .u64 0, .slice none 0 0, .int .i64 0, .int .i64 0, .int .i64 0, .int .i64 0] := Bld.of rfl (fun _ => by kernel_rfl)
instance : Fld Tryz.prog 57 0 0 := ⟨fun _ _ _ => by kernel_rfl⟩
instance : FldV Tryz.prog 57 0 0 1 false := FldV.of 3 rfl rfl rfl rfl
instance : Fld Tryz.prog 57 1 1 := ⟨fun _ _ _ => by kernel_rfl⟩
instance : FldV Tryz.prog 57 1 1 1 false := FldV.of 27 rfl rfl rfl rfl
instance : Fld Tryz.prog 57 2 2 := ⟨fun _ _ _ => by kernel_rfl⟩
instance : FldV Tryz.prog 57 2 2 1 false := FldV.of 23 rfl rfl rfl rfl
instance : Fld Tryz.prog 57 3 3 := ⟨fun _ _ _ => by kernel_rfl⟩
instance : FldV Tryz.prog 57 3 3 1 false := FldV.of 3 rfl rfl rfl rfl
instance : Fld Tryz.prog 57 4 4 := ⟨fun _ _ _ => by kernel_rfl⟩
instance : FldV Tryz.prog 57 4 4 3 true := FldV.of 55 rfl rfl rfl rfl
instance : Bld Tryz.prog 57 [(0, 1), (1, 1), (2, 1), (3, 1), (4, 3)] [.int .i64 0, .int .u64 0, .slice none 0 0, .int .i64 0, .int .i64 0, .int .i64 0, .int .i64 0] := Bld.of rfl (fun _ => by kernel_rfl)
instance : Fld Tryz.prog 67 0 0 := ⟨fun _ _ _ => by kernel_rfl⟩
instance : FldV Tryz.prog 67 0 0 1 false := FldV.of 3 rfl rfl rfl rfl
instance : Fld Tryz.prog 67 1 1 := ⟨fun _ _ _ => by kernel_rfl⟩
instance : FldV Tryz.prog 67 1 1 1 false := FldV.of 22 rfl rfl rfl rfl
instance : Fld Tryz.prog 67 2 2 := ⟨fun _ _ _ => by kernel_rfl⟩
instance : FldV Tryz.prog 67 2 2 1 false := FldV.of 22 rfl rfl rfl rfl
instance : Fld Tryz.prog 67 3 3 := ⟨fun _ _ _ => by kernel_rfl⟩
instance : FldV Tryz.prog 67 3 3 1 false := FldV.of 66 rfl rfl rfl rfl
instance : Fld Tryz.prog 67 4 4 := ⟨fun _ _ _ => by kernel_rfl⟩
instance : FldV Tryz.prog 67 4 4 1 false := FldV.of 4 rfl rfl rfl rfl
instance : Fld Tryz.prog 67 5 5 := ⟨fun _ _ _ => by kernel_rfl⟩
instance : FldV Tryz.prog 67 5 5 1 false := FldV.of 3 rfl rfl rfl rfl
instance : Fld Tryz.prog 67 6 6 := ⟨fun _ _ _ => by kernel_rfl⟩
instance : FldV Tryz.prog 67 6 6 1 false := FldV.of 4 rfl rfl rfl rfl
instance : Bld Tryz.prog 67 [(0, 1), (1, 1), (2, 1), (3, 1), (4, 1), (5, 1), (6, 1)] [.int .i64 0, .slice none 0 0, .slice none 0 0, .slice none 0 0, .bool false, .int .i64 0, .bool false] := Bld.of rfl (fun _ => by kernel_rfl)
instance : Fld Tryz.prog 68 0 0 := ⟨fun _ _ _ => by kernel_rfl⟩
instance : FldV Tryz.prog 68 0 0 1 false := FldV.of 3 rfl rfl rfl rfl
instance : Fld Tryz.prog 68 1 1 := ⟨fun _ _ _ => by kernel_rfl⟩
instance : FldV Tryz.prog 68 1 1 1 false := FldV.of 22 rfl rfl rfl rfl
instance : Fld Tryz.prog 68 2 2 := ⟨fun _ _ _ => by kernel_rfl⟩
instance : FldV Tryz.prog 68 2 2 1 false := FldV.of 22 rfl rfl rfl rfl
instance : Fld Tryz.prog 68 3 3 := ⟨fun _ _ _ => by kernel_rfl⟩
instance : FldV Tryz.prog 68 3 3 1 false := FldV.of 66 rfl rfl rfl rfl
instance : Fld Tryz.prog 68 4 4 := ⟨fun _ _ _ => by kernel_rfl⟩
instance : FldV Tryz.prog 68 4 4 1 false := FldV.of 4 rfl rfl rfl rfl
instance : Fld Tryz.prog 68 5 5 := ⟨fun _ _ _ => by kernel_rfl⟩
instance : FldV Tryz.prog 68 5 5 1 false := FldV.of 3 rfl rfl rfl rfl
instance : Fld Tryz.prog 68 6 6 := ⟨fun _ _ _ => by kernel_rfl⟩
instance : FldV Tryz.prog 68 6 6 1 false := FldV.of 4 rfl rfl rfl rfl
instance : Bld Tryz.prog 68 [(0, 1), (1, 1), (2, 1), (3, 1), (4, 1), (5, 1), (6, 1)] [.int .i64 0, .slice none 0 0, .slice none 0 0, .slice none 0 0, .bool false, .int .i64 0, .bool false] := Bld.of rfl (fun _ => by kernel_rfl)
instance : Fld Tryz.prog 77 0 0 := ⟨fun _ _ _ => by kernel_rfl⟩
instance : FldV Tryz.prog 77 0 0 1 false := FldV.of 38 rfl rfl rfl rfl
instance : Fld Tryz.prog 77 1 1 := ⟨fun _ _ _ => by kernel_rfl⟩
instance : FldV Tryz.prog 77 1 1 1 false := FldV.of 3 rfl rfl rfl rfl
instance : Fld Tryz.prog 77 2 2 := ⟨fun _ _ _ => by kernel_rfl⟩
instance : FldV Tryz.prog 77 2 2 1 false := FldV.of 76 rfl rfl rfl rfl
instance : Bld Tryz.prog 77 [(0, 1), (1, 1), (2, 1)] [.pointer none, .int .i64 0, .slice none 0 0] := Bld.of rfl (fun _ => by kernel_rfl)
instance : Fld Tryz.prog 78 0 0 := ⟨fun _ _ _ => by kernel_rfl⟩
instance : FldV Tryz.prog 78 0 0 1 false := FldV.of 38 rfl rfl rfl rfl
instance : Fld Tryz.prog 78 1 1 := ⟨fun _ _ _ => by kernel_rfl⟩
instance : FldV Tryz.prog 78 1 1 1 false := FldV.of 3 rfl rfl rfl rfl
instance : Fld Tryz.prog 78 2 2 := ⟨fun _ _ _ => by kernel_rfl⟩
instance : FldV Tryz.prog 78 2 2 1 false := FldV.of 76 rfl rfl rfl rfl
instance : Bld Tryz.prog 78 [(0, 1), (1, 1), (2, 1)] [.pointer none, .int .i64 0, .slice none 0 0] := Bld.of rfl (fun _ => by kernel_rfl)
instance : Fld Tryz.prog 84 0 0 := ⟨fun _ _ _ => by kernel_rfl⟩
instance : FldV Tryz.prog 84 0 0 1 false := FldV.of 27 rfl rfl rfl rfl
instance : Fld Tryz.prog 84 1 1 := ⟨fun _ _ _ => by kernel_rfl⟩
instance : FldV Tryz.prog 84 1 1 1 false := FldV.of 23 rfl rfl rfl rfl
instance : Fld Tryz.prog 84 2 2 := ⟨fun _ _ _ => by kernel_rfl⟩
instance : FldV Tryz.prog 84 2 2 1 false := FldV.of 24 rfl rfl rfl rfl
instance : Bld Tryz.prog 84 [(0, 1), (1, 1), (2, 1)] [.int .u64 0, .slice none 0 0, .slice none 0 0] := Bld.of rfl (fun _ => by kernel_rfl)
instance : Fld Tryz.prog 85 0 0 := ⟨fun _ _ _ => by kernel_rfl⟩
instance : FldV Tryz.prog 85 0 0 1 false := FldV.of 27 rfl rfl rfl rfl
instance : Fld Tryz.prog 85 1 1 := ⟨fun _ _ _ => by kernel_rfl⟩
instance : FldV Tryz.prog 85 1 1 1 false := FldV.of 23 rfl rfl rfl rfl
instance : Fld Tryz.prog 85 2 2 := ⟨fun _ _ _ => by kernel_rfl⟩
instance : FldV Tryz.prog 85 2 2 1 false := FldV.of 24 rfl rfl rfl rfl
instance : Bld Tryz.prog 85 [(0, 1), (1, 1), (2, 1)] [.int .u64 0, .slice none 0 0, .slice none 0 0] := Bld.of rfl (fun _ => by kernel_rfl)
instance : Fld Tryz.prog 90 0 0 := ⟨fun _ _ _ => by kernel_rfl⟩
instance : FldV Tryz.prog 90 0 0 1 false := FldV.of 39 rfl rfl rfl rfl
instance : Fld Tryz.prog 90 1 1 := ⟨fun _ _ _ => by kernel_rfl⟩
instance : FldV Tryz.prog 90 1 1 1 false := FldV.of 3 rfl rfl rfl rfl
instance : Fld Tryz.prog 90 2 2 := ⟨fun _ _ _ => by kernel_rfl⟩
instance : FldV Tryz.prog 90 2 2 1 false := FldV.of 89 rfl rfl rfl rfl
instance : Bld Tryz.prog 90 [(0, 1), (1, 1), (2, 1)] [.pointer none, .int .i64 0, .slice none 0 0] := Bld.of rfl (fun _ => by kernel_rfl)
instance : Fld Tryz.prog 91 0 0 := ⟨fun _ _ _ => by kernel_rfl⟩
instance : FldV Tryz.prog 91 0 0 1 false := FldV.of 39 rfl rfl rfl rfl
instance : Fld Tryz.prog 91 1 1 := ⟨fun _ _ _ => by kernel_rfl⟩
instance : FldV Tryz.prog 91 1 1 1 false := FldV.of 3 rfl rfl rfl rfl
instance : Fld Tryz.prog 91 2 2 := ⟨fun _ _ _ => by kernel_rfl⟩
instance : FldV Tryz.prog 91 2 2 1 false := FldV.of 89 rfl rfl rfl rfl
instance : Bld Tryz.prog 91 [(0, 1), (1, 1), (2, 1)] [.pointer none, .int .i64 0, .slice none 0 0] := Bld.of rfl (fun _ => by kernel_rfl)
instance : Fld Tryz.prog 92 0 0 := ⟨fun _ _ _ => by kernel_rfl⟩
instance : FldV Tryz.prog 92 0 0 1 false := FldV.of 27 rfl rfl rfl rfl
instance : Fld Tryz.prog 92 1 1 := ⟨fun _ _ _ => by kernel_rfl⟩
instance : FldV Tryz.prog 92 1 1 1 false := FldV.of 23 rfl rfl rfl rfl
instance : Fld Tryz.prog 92 2 2 := ⟨fun _ _ _ => by kernel_rfl⟩
instance : FldV Tryz.prog 92 2 2 1 false := FldV.of 24 rfl rfl rfl rfl
instance : Fld Tryz.prog 92 3 3 := ⟨fun _ _ _ => by kernel_rfl⟩
instance : FldV Tryz.prog 92 3 3 1 false := FldV.of 3 rfl rfl rfl rfl
instance : Bld Tryz.prog 92 [(0, 1), (1, 1), (2, 1), (3, 1)] [.int .u64 0, .slice none 0 0, .slice none 0 0, .int .i64 0] := Bld.of rfl (fun _ => by kernel_rfl)
instance : Fld Tryz.prog 93 0 0 := ⟨fun _ _ _ => by kernel_rfl⟩
instance : FldV Tryz.prog 93 0 0 1 false := FldV.of 27 rfl rfl rfl rfl
instance : Fld Tryz.prog 93 1 1 := ⟨fun _ _ _ => by kernel_rfl⟩
instance : FldV Tryz.prog 93 1 1 1 false := FldV.of 23 rfl rfl rfl rfl
instance : Fld Tryz.prog 93 2 2 := ⟨fun _ _ _ => by kernel_rfl⟩
instance : FldV Tryz.prog 93 2 2 1 false := FldV.of 24 rfl rfl rfl rfl
instance : Fld Tryz.prog 93 3 3 := ⟨fun _ _ _ => by kernel_rfl⟩
instance : FldV Tryz.prog 93 3 3 1 false := FldV.of 3 rfl rfl rfl rfl
instance : Bld Tryz.prog 93 [(0, 1), (1, 1), (2, 1), (3, 1)] [.int .u64 0, .slice none 0 0, .slice none 0 0, .int .i64 0] := Bld.of rfl (fun _ => by kernel_rfl)
instance : Fld Tryz.prog 106 0 0 := ⟨fun _ _ _ => by kernel_rfl⟩
instance : FldV Tryz.prog 106 0 0 1 false := FldV.of 3 rfl rfl rfl rfl
instance : Fld Tryz.prog 106 1 1 := ⟨fun _ _ _ => by kernel_rfl⟩
instance : FldV Tryz.prog 106 1 1 1 false := FldV.of 104 rfl rfl rfl rfl
instance : Fld Tryz.prog 106 2 2 := ⟨fun _ _ _ => by kernel_rfl⟩
instance : FldV Tryz.prog 106 2 2 1 false := FldV.of 104 rfl rfl rfl rfl
instance : Fld Tryz.prog 106 3 3 := ⟨fun _ _ _ => by kernel_rfl⟩
instance : FldV Tryz.prog 106 3 3 1 false := FldV.of 105 rfl rfl rfl rfl
instance : Fld Tryz.prog 106 4 4 := ⟨fun _ _ _ => by kernel_rfl⟩
instance : FldV Tryz.prog 106 4 4 1 false := FldV.of 3 rfl rfl rfl rfl
instance : Fld Tryz.prog 106 5 5 := ⟨fun _ _ _ => by kernel_rfl⟩
instance : FldV Tryz.prog 106 5 5 1 false := FldV.of 4 rfl rfl rfl rfl
instance : Bld Tryz.prog 106 [(0, 1), (1, 1), (2, 1), (3, 1), (4, 1), (5, 1)] [.int .i64 0, .map none, .map none, .slice none 0 0, .int .i64 0, .bool false] := Bld.of rfl (fun _ => by kernel_rfl)
instance : Fld Tryz.prog 107 0 0 := ⟨fun _ _ _ => by kernel_rfl⟩
instance : FldV Tryz.prog 107 0 0 1 false := FldV.of 3 rfl rfl rfl rfl
instance : Fld Tryz.prog 107 1 1 := ⟨fun _ _ _ => by kernel_rfl⟩
instance : FldV Tryz.prog 107 1 1 1 false := FldV.of 104 rfl rfl rfl rfl
instance : Fld Tryz.prog 107 2 2 := ⟨fun _ _ _ => by kernel_rfl⟩
instance : FldV Tryz.prog 107 2 2 1 false := FldV.of 104 rfl rfl rfl rfl
instance : Fld Tryz.prog 107 3 3 := ⟨fun _ _ _ => by kernel_rfl⟩
instance : FldV Tryz.prog 107 3 3 1 false := FldV.of 105 rfl rfl rfl rfl
instance : Fld Tryz.prog 107 4 4 := ⟨fun _ _ _ => by kernel_rfl⟩
instance : FldV Tryz.prog 107 4 4 1 false := FldV.of 3 rfl rfl rfl rfl
instance : Fld Tryz.prog 107 5 5 := ⟨fun _ _ _ => by kernel_rfl⟩
instance : FldV Tryz.prog 107 5 5 1 false := FldV.of 4 rfl rfl rfl rfl
instance : Bld Tryz.prog 107 [(0, 1), (1, 1), (2, 1), (3, 1), (4, 1), (5, 1)] [.int .i64 0, .map none, .map none, .slice none 0 0, .int .i64 0, .bool false] := Bld.of rfl (fun _ => by kernel_rfl)
instance : Fld Tryz.prog 108 0 0 := ⟨fun _ _ _ => by kernel_rfl⟩
instance : FldV Tryz.prog 108 0 0 1 false := FldV.of 3 rfl rfl rfl rfl
instance : Fld Tryz.prog 108 1 1 := ⟨fun _ _ _ => by kernel_rfl⟩
instance : FldV Tryz.prog 108 1 1 1 false := FldV.of 9 rfl rfl rfl rfl
instance : Fld Tryz.prog 108 2 2 := ⟨fun _ _ _ => by kernel_rfl⟩
instance : FldV Tryz.prog 108 2 2 1 false := FldV.of 9 rfl rfl rfl rfl
instance : Fld Tryz.prog 108 3 3 := ⟨fun _ _ _ => by kernel_rfl⟩
instance : FldV Tryz.prog 108 3 3 1 false := FldV.of 28 rfl rfl rfl rfl
instance : Fld Tryz.prog 108 4 4 := ⟨fun _ _ _ => by kernel_rfl⟩
instance : FldV Tryz.prog 108 4 4 1 false := FldV.of 3 rfl rfl rfl rfl
instance : Bld Tryz.prog 108 [(0, 1), (1, 1), (2, 1), (3, 1), (4, 1)] [.int .i64 0, .string ⟨#[]⟩, .string ⟨#[]⟩, .slice none 0 0, .int .i64 0] := Bld.of rfl (fun _ => by kernel_rfl)
instance : Fld Tryz.prog 109 0 0 := ⟨fun _ _ _ => by kernel_rfl⟩
instance : FldV Tryz.prog 109 0 0 1 false := FldV.of 3 rfl rfl rfl rfl
instance : Fld Tryz.prog 109 1 1 := ⟨fun _ _ _ => by kernel_rfl⟩
instance : FldV Tryz.prog 109 1 1 1 false := FldV.of 9 rfl rfl rfl rfl
instance : Fld Tryz.prog 109 2 2 := ⟨fun _ _ _ => by kernel_rfl⟩
instance : FldV Tryz.prog 109 2 2 1 false := FldV.of 9 rfl rfl rfl rfl
instance : Fld Tryz.prog 109 3 3 := ⟨fun _ _ _ => by kernel_rfl⟩
instance : FldV Tryz.prog 109 3 3 1 false := FldV.of 28 rfl rfl rfl rfl
instance : Fld Tryz.prog 109 4 4 := ⟨fun _ _ _ => by kernel_rfl⟩
instance : FldV Tryz.prog 109 4 4 1 false := FldV.of 3 rfl rfl rfl rfl
instance : Bld Tryz.prog 109 [(0, 1), (1, 1), (2, 1), (3, 1), (4, 1)] [.int .i64 0, .string ⟨#[]⟩, .string ⟨#[]⟩, .slice none 0 0, .int .i64 0] := Bld.of rfl (fun _ => by kernel_rfl)
instance : Fld Tryz.prog 112 0 0 := ⟨fun _ _ _ => by kernel_rfl⟩
instance : FldV Tryz.prog 112 0 0 1 false := FldV.of 3 rfl rfl rfl rfl
instance : Fld Tryz.prog 112 1 1 := ⟨fun _ _ _ => by kernel_rfl⟩
instance : FldV Tryz.prog 112 1 1 1 false := FldV.of 9 rfl rfl rfl rfl
instance : Fld Tryz.prog 112 2 2 := ⟨fun _ _ _ => by kernel_rfl⟩
instance : FldV Tryz.prog 112 2 2 1 false := FldV.of 9 rfl rfl rfl rfl
instance : Fld Tryz.prog 112 3 3 := ⟨fun _ _ _ => by kernel_rfl⟩
instance : FldV Tryz.prog 112 3 3 1 false := FldV.of 28 rfl rfl rfl rfl
instance : Fld Tryz.prog 112 4 4 := ⟨fun _ _ _ => by kernel_rfl⟩
instance : FldV Tryz.prog 112 4 4 1 false := FldV.of 3 rfl rfl rfl rfl
instance : Bld Tryz.prog 112 [(0, 1), (1, 1), (2, 1), (3, 1), (4, 1)] [.int .i64 0, .string ⟨#[]⟩, .string ⟨#[]⟩, .slice none 0 0, .int .i64 0] := Bld.of rfl (fun _ => by kernel_rfl)
instance : Fld Tryz.prog 113 0 0 := ⟨fun _ _ _ => by kernel_rfl⟩
instance : FldV Tryz.prog 113 0 0 1 false := FldV.of 3 rfl rfl rfl rfl
instance : Fld Tryz.prog 113 1 1 := ⟨fun _ _ _ => by kernel_rfl⟩
instance : FldV Tryz.prog 113 1 1 1 false := FldV.of 9 rfl rfl rfl rfl
instance : Fld Tryz.prog 113 2 2 := ⟨fun _ _ _ => by kernel_rfl⟩
instance : FldV Tryz.prog 113 2 2 1 false := FldV.of 9 rfl rfl rfl rfl
instance : Fld Tryz.prog 113 3 3 := ⟨fun _ _ _ => by kernel_rfl⟩
instance : FldV Tryz.prog 113 3 3 1 false := FldV.of 28 rfl rfl rfl rfl
instance : Fld Tryz.prog 113 4 4 := ⟨fun _ _ _ => by kernel_rfl⟩
instance : FldV Tryz.prog 113 4 4 1 false := FldV.of 3 rfl rfl rfl rfl
instance : Bld Tryz.prog 113 [(0, 1), (1, 1), (2, 1), (3, 1), (4, 1)] [.int .i64 0, .string ⟨#[]⟩, .string ⟨#[]⟩, .slice none 0 0, .int .i64 0] := Bld.of rfl (fun _ => by kernel_rfl)
instance : Fld Tryz.prog 161 0 0 := ⟨fun _ _ _ => by kernel_rfl⟩
instance : FldV Tryz.prog 161 0 0 1 false := FldV.of 28 rfl rfl rfl rfl
instance : Fld Tryz.prog 161 1 1 := ⟨fun _ _ _ => by kernel_rfl⟩
instance : FldV Tryz.prog 161 1 1 1 false := FldV.of 3 rfl rfl rfl rfl
instance : Fld Tryz.prog 161 2 2 := ⟨fun _ _ _ => by kernel_rfl⟩
instance : FldV Tryz.prog 161 2 2 1 false := FldV.of 29 rfl rfl rfl rfl
instance : Bld Tryz.prog 161 [(0, 1), (1, 1), (2, 1)] [.slice none 0 0, .int .i64 0, .int .i64 0] := Bld.of rfl (fun _ => by kernel_rfl)
instance : Fld Tryz.prog 162 0 0 := ⟨fun _ _ _ => by kernel_rfl⟩
instance : FldV Tryz.prog 162 0 0 1 false := FldV.of 28 rfl rfl rfl rfl
instance : Fld Tryz.prog 162 1 1 := ⟨fun _ _ _ => by kernel_rfl⟩
instance : FldV Tryz.prog 162 1 1 1 false := FldV.of 3 rfl rfl rfl rfl
instance : Fld Tryz.prog 162 2 2 := ⟨fun _ _ _ => by kernel_rfl⟩
instance : FldV Tryz.prog 162 2 2 1 false := FldV.of 29 rfl rfl rfl rfl
instance : Bld Tryz.prog 162 [(0, 1), (1, 1), (2, 1)] [.slice none 0 0, .int .i64 0, .int .i64 0] := Bld.of rfl (fun _ => by kernel_rfl)
instance : Fld Tryz.prog 164 0 0 := ⟨fun _ _ _ => by kernel_rfl⟩
instance : FldV Tryz.prog 164 0 0 1 false := FldV.of 28 rfl rfl rfl rfl
instance : Bld Tryz.prog 164 [(0, 1)] [.slice none 0 0] := Bld.of rfl (fun _ => by kernel_rfl)
instance : Fld Tryz.prog 165 0 0 := ⟨fun _ _ _ => by kernel_rfl⟩
instance : FldV Tryz.prog 165 0 0 1 false := FldV.of 28 rfl rfl rfl rfl
instance : Bld Tryz.prog 165 [(0, 1)] [.slice none 0 0] := Bld.of rfl (fun _ => by kernel_rfl)
instance : Fld Tryz.prog 177 0 0 := ⟨fun _ _ _ => by kernel_rfl⟩
instance : FldV Tryz.prog 177 0 0 1 false := FldV.of 28 rfl rfl rfl rfl
instance : Fld Tryz.prog 177 1 1 := ⟨fun _ _ _ => by kernel_rfl⟩
instance : FldV Tryz.prog 177 1 1 1 false := FldV.of 3 rfl rfl rfl rfl
instance : Fld Tryz.prog 177 2 2 := ⟨fun _ _ _ => by kernel_rfl⟩
instance : FldV Tryz.prog 177 2 2 1 false := FldV.of 29 rfl rfl rfl rfl
instance : Bld Tryz.prog 177 [(0, 1), (1, 1), (2, 1)] [.slice none 0 0, .int .i64 0, .int .i64 0] := Bld.of rfl (fun _ => by kernel_rfl)
instance : Fld Tryz.prog 178 0 0 := ⟨fun _ _ _ => by kernel_rfl⟩
instance : FldV Tryz.prog 178 0 0 1 false := FldV.of 28 rfl rfl rfl rfl
instance : Fld Tryz.prog 178 1 1 := ⟨fun _ _ _ => by kernel_rfl⟩
instance : FldV Tryz.prog 178 1 1 1 false := FldV.of 3 rfl rfl rfl rfl
instance : Fld Tryz.prog 178 2 2 := ⟨fun _ _ _ => by kernel_rfl⟩
instance : FldV Tryz.prog 178 2 2 1 false := FldV.of 29 rfl rfl rfl rfl
instance : Bld Tryz.prog 178 [(0, 1), (1, 1), (2, 1)] [.slice none 0 0, .int .i64 0, .int .i64 0] := Bld.of rfl (fun _ => by kernel_rfl)
instance : Ent Tryz.prog 3 := Ent.of Tryz.func3 (by kernel_rfl) (by kernel_rfl)
instance : Ent Tryz.prog 4 := Ent.of Tryz.func4 (by kernel_rfl) (by kernel_rfl)
instance : Ent Tryz.prog 5 := Ent.of Tryz.func5 (by kernel_rfl) (by kernel_rfl)
instance : Ent Tryz.prog 6 := Ent.of Tryz.func6 (by kernel_rfl) (by kernel_rfl)
instance : Ent Tryz.prog 7 := Ent.of Tryz.func7 (by kernel_rfl) (by kernel_rfl)
instance : Ent Tryz.prog 8 := Ent.of Tryz.func8 (by kernel_rfl) (by kernel_rfl)
instance : Ent Tryz.prog 9 := Ent.of Tryz.func9 (by kernel_rfl) (by kernel_rfl)
instance : Ent Tryz.prog 10 := Ent.of Tryz.func10 (by kernel_rfl) (by kernel_rfl)
instance : Ent Tryz.prog 11 := Ent.of Tryz.func11 (by kernel_rfl) (by kernel_rfl)
instance : Ent Tryz.prog 12 := Ent.of Tryz.func12 (by kernel_rfl) (by kernel_rfl)
instance : Ent Tryz.prog 13 := Ent.of Tryz.func13 (by kernel_rfl) (by kernel_rfl)
instance : Ent Tryz.prog 14 := Ent.of Tryz.func14 (by kernel_rfl) (by kernel_rfl)
instance : Ent Tryz.prog 15 := Ent.of Tryz.func15 (by kernel_rfl) (by kernel_rfl)
instance : Ent Tryz.prog 16 := Ent.of Tryz.func16 (by kernel_rfl) (by kernel_rfl)
instance : Ent Tryz.prog 17 := Ent.of Tryz.func17 (by kernel_rfl) (by kernel_rfl)
instance : Ent Tryz.prog 18 := Ent.of Tryz.func18 (by kernel_rfl) (by kernel_rfl)
instance : Ent Tryz.prog 19 := Ent.of Tryz.func19 (by kernel_rfl) (by kernel_rfl)
instance : Ent Tryz.prog 20 := Ent.of Tryz.func20 (by kernel_rfl) (by kernel_rfl)
instance : Ent Tryz.prog 21 := Ent.of Tryz.func21 (by kernel_rfl) (by kernel_rfl)
instance : Ent Tryz.prog 22 := Ent.of Tryz.func22 (by kernel_rfl) (by kernel_rfl)
instance : Ent Tryz.prog 23 := Ent.of Tryz.func23 (by kernel_rfl) (by kernel_rfl)
instance : Ent Tryz.prog 24 := Ent.of Tryz.func24 (by kernel_rfl) (by kernel_rfl)
instance : Ent Tryz.prog 25 := Ent.of Tryz.func25 (by kernel_rfl) (by kernel_rfl)
instance : Ent Tryz.prog 26 := Ent.of Tryz.func26 (by kernel_rfl) (by kernel_rfl)
instance : Ent Tryz.prog 27 := Ent.of Tryz.func27 (by kernel_rfl) (by kernel_rfl)
instance : Ent Tryz.prog 28 := Ent.of Tryz.func28 (by kernel_rfl) (by kernel_rfl)
instance : Ent Tryz.prog 29 := Ent.of Tryz.func29 (by kernel_rfl) (by kernel_rfl)
instance : Ent Tryz.prog 30 := Ent.of Tryz.func30 (by kernel_rfl) (by kernel_rfl)
instance : Ent Tryz.prog 31 := Ent.of Tryz.func31 (by kernel_rfl) (by kernel_rfl)
instance : Ent Tryz.prog 32 := Ent.of Tryz.func32 (by kernel_rfl) (by kernel_rfl)
instance : Ent Tryz.prog 33 := Ent.of Tryz.func33 (by kernel_rfl) (by kernel_rfl)
instance : Ent Tryz.prog 34 := Ent.of Tryz.func34 (by kernel_rfl) (by kernel_rfl)
instance : Ent Tryz.prog 35 := Ent.of Tryz.func35 (by kernel_rfl) (by kernel_rfl)
instance : Ent Tryz.prog 36 := Ent.of Tryz.func36 (by kernel_rfl) (by kernel_rfl)
instance : Ent Tryz.prog 37 := Ent.of Tryz.func37 (by kernel_rfl) (by kernel_rfl)
instance : Ent Tryz.prog 38 := Ent.of Tryz.func38 (by kernel_rfl) (by kernel_rfl)
instance : Ent Tryz.prog 39 := Ent.of Tryz.func39 (by kernel_rfl) (by kernel_rfl)
instance : Ent Tryz.prog 40 := Ent.of Tryz.func40 (by kernel_rfl) (by kernel_rfl)
instance : Ent Tryz.prog 41 := Ent.of Tryz.func41 (by kernel_rfl) (by kernel_rfl)
instance : Ent Tryz.prog 42 := Ent.of Tryz.func42 (by kernel_rfl) (by kernel_rfl)
instance : Ent Tryz.prog 43 := Ent.of Tryz.func43 (by kernel_rfl) (by kernel_rfl)
instance : Ent Tryz.prog 44 := Ent.of Tryz.func44 (by kernel_rfl) (by kernel_rfl)
instance : Ent Tryz.prog 45 := Ent.of Tryz.func45 (by kernel_rfl) (by kernel_rfl)
instance : Ent Tryz.prog 46 := Ent.of Tryz.func46 (by kernel_rfl) (by kernel_rfl)
instance : Ent Tryz.prog 47 := Ent.of Tryz.func47 (by kernel_rfl) (by kernel_rfl)
instance : Ent Tryz.prog 48 := Ent.of Tryz.func48 (by kernel_rfl) (by kernel_rfl)
instance : Ent Tryz.prog 49 := Ent.of Tryz.func49 (by kernel_rfl) (by kernel_rfl)
instance : Ent Tryz.prog 50 := Ent.of Tryz.func50 (by kernel_rfl) (by kernel_rfl)
instance : Ent Tryz.prog 51 := Ent.of Tryz.func51 (by kernel_rfl) (by kernel_rfl)
instance : Ent Tryz.prog 52 := Ent.of Tryz.func52 (by kernel_rfl) (by kernel_rfl)
instance : Ent Tryz.prog 53 := Ent.of Tryz.func53 (by kernel_rfl) (by kernel_rfl)
instance : Ent Tryz.prog 54 := Ent.of Tryz.func54 (by kernel_rfl) (by kernel_rfl)
instance : Ent Tryz.prog 55 := Ent.of Tryz.func55 (by kernel_rfl) (by kernel_rfl)
instance : Ent Tryz.prog 56 := Ent.of Tryz.func56 (by kernel_rfl) (by kernel_rfl)
instance : Ent Tryz.prog 57 := Ent.of Tryz.func57 (by kernel_rfl) (by kernel_rfl)
instance : Ent Tryz.prog 58 := Ent.of Tryz.func58 (by kernel_rfl) (by kernel_rfl)
instance : Ent Tryz.prog 59 := Ent.of Tryz.func59 (by kernel_rfl) (by kernel_rfl)
instance : Ent Tryz.prog 60 := Ent.of Tryz.func60 (by kernel_rfl) (by kernel_rfl)
instance : Ent Tryz.prog 61 := Ent.of Tryz.func61 (by kernel_rfl) (by kernel_rfl)
instance : Ent Tryz.prog 62 := Ent.of Tryz.func62 (by kernel_rfl) (by kernel_rfl)
instance : Ent Tryz.prog 63 := Ent.of Tryz.func63 (by kernel_rfl) (by kernel_rfl)
instance : Ent Tryz.prog 64 := Ent.of Tryz.func64 (by kernel_rfl) (by kernel_rfl)
instance : Ent Tryz.prog 65 := Ent.of Tryz.func65 (by kernel_rfl) (by kernel_rfl)
instance : Ent Tryz.prog 66 := Ent.of Tryz.func66 (by kernel_rfl) (by kernel_rfl)
instance : Ent Tryz.prog 67 := Ent.of Tryz.func67 (by kernel_rfl) (by kernel_rfl)
instance : Ent Tryz.prog 68 := Ent.of Tryz.func68 (by kernel_rfl) (by kernel_rfl)
instance : Ent Tryz.prog 69 := Ent.of Tryz.func69 (by kernel_rfl) (by kernel_rfl)
instance : Ent Tryz.prog 70 := Ent.of Tryz.func70 (by kernel_rfl) (by kernel_rfl)
instance : Ent Tryz.prog 71 := Ent.of Tryz.func71 (by kernel_rfl) (by kernel_rfl)
instance : Ent Tryz.prog 72 := Ent.of Tryz.func72 (by kernel_rfl) (by kernel_rfl)
instance : Ent Tryz.prog 73 := Ent.of Tryz.func73 (by kernel_rfl) (by kernel_rfl)
instance : Ent Tryz.prog 74 := Ent.of Tryz.func74 (by kernel_rfl) (by kernel_rfl)
instance : Ent Tryz.prog 75 := Ent.of Tryz.func75 (by kernel_rfl) (by kernel_rfl)
instance : Ent Tryz.prog 76 := Ent.of Tryz.func76 (by kernel_rfl) (by kernel_rfl)
instance : Ent Tryz.prog 77 := Ent.of Tryz.func77 (by kernel_rfl) (by kernel_rfl)
instance : Ent Tryz.prog 78 := Ent.of Tryz.func78 (by kernel_rfl) (by kernel_rfl)
instance : Ent Tryz.prog 79 := Ent.of Tryz.func79 (by kernel_rfl) (by kernel_rfl)
instance : Ent Tryz.prog 80 := Ent.of Tryz.func80 (by kernel_rfl) (by kernel_rfl)
instance : Ent Tryz.prog 81 := Ent.of Tryz.func81 (by kernel_rfl) (by kernel_rfl)
instance : Ent Tryz.prog 82 := Ent.of Tryz.func82 (by kernel_rfl) (by kernel_rfl)
instance : Ent Tryz.prog 83 := Ent.of Tryz.func83 (by kernel_rfl) (by kernel_rfl)
instance : Ent Tryz.prog 84 := Ent.of Tryz.func84 (by kernel_rfl) (by kernel_rfl)
instance : Ent Tryz.prog 85 := Ent.of Tryz.func85 (by kernel_rfl) (by kernel_rfl)
instance : Ent Tryz.prog 86 := Ent.of Tryz.func86 (by kernel_rfl) (by kernel_rfl)
instance : Ent Tryz.prog 87 := Ent.of Tryz.func87 (by kernel_rfl) (by kernel_rfl)
instance : Ent Tryz.prog 88 := Ent.of Tryz.func88 (by kernel_rfl) (by kernel_rfl)
instance : Ent Tryz.prog 89 := Ent.of Tryz.func89 (by kernel_rfl) (by kernel_rfl)
instance : Ent Tryz.prog 90 := Ent.of Tryz.func90 (by kernel_rfl) (by kernel_rfl)
instance : Ent Tryz.prog 91 := Ent.of Tryz.func91 (by kernel_rfl) (by kernel_rfl)
instance : Ent Tryz.prog 92 := Ent.of Tryz.func92 (by kernel_rfl) (by kernel_rfl)
instance : Ent Tryz.prog 93 := Ent.of Tryz.func93 (by kernel_rfl) (by kernel_rfl)
instance : Ent Tryz.prog 94 := Ent.of Tryz.func94 (by kernel_rfl) (by kernel_rfl)
instance : Ent Tryz.prog 95 := Ent.of Tryz.func95 (by kernel_rfl) (by kernel_rfl)
instance : Ent Tryz.prog 96 := Ent.of Tryz.func96 (by kernel_rfl) (by kernel_rfl)
instance : Ent Tryz.prog 97 := Ent.of Tryz.func97 (by kernel_rfl) (by kernel_rfl)
instance : Ent Tryz.prog 98 := Ent.of Tryz.func98 (by kernel_rfl) (by kernel_rfl)
instance : Ent Tryz.prog 99 := Ent.of Tryz.func99 (by kernel_rfl) (by kernel_rfl)
instance : Ent Tryz.prog 100 := Ent.of Tryz.func100 (by kernel_rfl) (by kernel_rfl)
instance : Ent Tryz.prog 101 := Ent.of Tryz.func101 (by kernel_rfl) (by kernel_rfl)
instance : Ent Tryz.prog 102 := Ent.of Tryz.func102 (by kernel_rfl) (by kernel_rfl)
instance : Ent Tryz.prog 103 := Ent.of Tryz.func103 (by kernel_rfl) (by kernel_rfl)
instance : Ent Tryz.prog 104 := Ent.of Tryz.func104 (by kernel_rfl) (by kernel_rfl)
instance : Ent Tryz.prog 105 := Ent.of Tryz.func105 (by kernel_rfl) (by kernel_rfl)
instance : Ent Tryz.prog 106 := Ent.of Tryz.func106 (by kernel_rfl) (by kernel_rfl)
instance : Ent Tryz.prog 107 := Ent.of Tryz.func107 (by kernel_rfl) (by kernel_rfl)
instance : Ent Tryz.prog 108 := Ent.of Tryz.func108 (by kernel_rfl) (by kernel_rfl)
instance : Ent Tryz.prog 109 := Ent.of Tryz.func109 (by kernel_rfl) (by kernel_rfl)
instance : Ent Tryz.prog 110 := Ent.of Tryz.func110 (by kernel_rfl) (by kernel_rfl)
instance : Ent Tryz.prog 111 := Ent.of Tryz.func111 (by kernel_rfl) (by kernel_rfl)
instance : Ent Tryz.prog 112 := Ent.of Tryz.func112 (by kernel_rfl) (by kernel_rfl)
instance : Ent Tryz.prog 113 := Ent.of Tryz.func113 (by kernel_rfl) (by kernel_rfl)
instance : Ent Tryz.prog 114 := Ent.of Tryz.func114 (by kernel_rfl) (by kernel_rfl)
instance : Ent Tryz.prog 115 := Ent.of Tryz.func115 (by kernel_rfl) (by kernel_rfl)
instance : Ent Tryz.prog 116 := Ent.of Tryz.func116 (by kernel_rfl) (by kernel_rfl)
instance : Ent Tryz.prog 117 := Ent.of Tryz.func117 (by kernel_rfl) (by kernel_rfl)
instance : Ent Tryz.prog 118 := Ent.of Tryz.func118 (by kernel_rfl) (by kernel_rfl)
instance : Ent Tryz.prog 119 := Ent.of Tryz.func119 (by kernel_rfl) (by kernel_rfl)
instance : Ent Tryz.prog 120 := Ent.of Tryz.func120 (by kernel_rfl) (by kernel_rfl)
instance : Ent Tryz.prog 121 := Ent.of Tryz.func121 (by kernel_rfl) (by kernel_rfl)
instance : Ent Tryz.prog 122 := Ent.of Tryz.func122 (by kernel_rfl) (by kernel_rfl)
instance : Ent Tryz.prog 123 := Ent.of Tryz.func123 (by kernel_rfl) (by kernel_rfl)
instance : Ent Tryz.prog 124 := Ent.of Tryz.func124 (by kernel_rfl) (by kernel_rfl)
instance : Ent Tryz.prog 125 := Ent.of Tryz.func125 (by kernel_rfl) (by kernel_rfl)
instance : Ent Tryz.prog 126 := Ent.of Tryz.func126 (by kernel_rfl) (by kernel_rfl)
instance : Ent Tryz.prog 127 := Ent.of Tryz.func127 (by kernel_rfl) (by kernel_rfl)
instance : Ent Tryz.prog 128 := Ent.of Tryz.func128 (by kernel_rfl) (by kernel_rfl)
instance : Ent Tryz.prog 129 := Ent.of Tryz.func129 (by kernel_rfl) (by kernel_rfl)
instance : Ent Tryz.prog 130 := Ent.of Tryz.func130 (by kernel_rfl) (by kernel_rfl)
instance : Ent Tryz.prog 131 := Ent.of Tryz.func131 (by kernel_rfl) (by kernel_rfl)
instance : Ent Tryz.prog 132 := Ent.of Tryz.func132 (by kernel_rfl) (by kernel_rfl)
instance : Ent Tryz.prog 133 := Ent.of Tryz.func133 (by kernel_rfl) (by kernel_rfl)
instance : Ent Tryz.prog 134 := Ent.of Tryz.func134 (by kernel_rfl) (by kernel_rfl)
instance : Ent Tryz.prog 135 := Ent.of Tryz.func135 (by kernel_rfl) (by kernel_rfl)
instance : Ent Tryz.prog 136 := Ent.of Tryz.func136 (by kernel_rfl) (by kernel_rfl)
instance : Ent Tryz.prog 137 := Ent.of Tryz.func137 (by kernel_rfl) (by kernel_rfl)
instance : Ent Tryz.prog 138 := Ent.of Tryz.func138 (by kernel_rfl) (by kernel_rfl)
instance : Ent Tryz.prog 139 := Ent.of Tryz.func139 (by kernel_rfl) (by kernel_rfl)
instance : Ent Tryz.prog 140 := Ent.of Tryz.func140 (by kernel_rfl) (by kernel_rfl)
instance : Ent Tryz.prog 141 := Ent.of Tryz.func141 (by kernel_rfl) (by kernel_rfl)
instance : Ent Tryz.prog 142 := Ent.of Tryz.func142 (by kernel_rfl) (by kernel_rfl)
instance : Ent Tryz.prog 143 := Ent.of Tryz.func143 (by kernel_rfl) (by kernel_rfl)
end Go.Sx
end
section
namespace Go.Sx
open Go.RowKit
variable {P : Program} {r : Option Nat} {n : Nat} {D : List Deferred} {L L' : Sl} {M M0 : Mem} {H Hs Hx : Hp} {Q : Post} {k : Sl → Mem → Hp → Prop}
def planY (ops : Array Oper) : List Nat → List Nat → Array Bool → Bool
 | [], _, _ => true
 | 1 :: ks, k :: is, listed => (Region.ready .any ops listed).contains k && Region.free .any ops listed k && planY ops ks is (listed.setIfInBounds k true)
 | 0 :: ks, k :: is, listed => (Region.ready .any ops listed).contains k && decide (Region.ready .any ops listed = [k]) && planY ops ks is (listed.setIfInBounds k true)
 | 2 :: 2 :: ks, i :: j :: is, listed => (Region.ready .any ops listed).all (fun k => Nat.beq k i || Nat.beq k j) && !(Region.ready .any ops listed).isEmpty && decide (Region.ready .any ops (listed.setIfInBounds i true) = [j]) && decide (Region.ready .any ops (listed.setIfInBounds j true) = [i]) && !(Nat.beq i j) && planY ops ks is ((listed.setIfInBounds i true).setIfInBounds j true)
 | 3 :: 3 :: 3 :: ks, i :: j :: l :: is, listed => (Region.ready .any ops listed).all (fun k => Nat.beq k i || Nat.beq k l) && !(Region.ready .any ops listed).isEmpty && (Region.ready .any ops (listed.setIfInBounds i true)).all (fun k => Nat.beq k j || Nat.beq k l) && !(Region.ready .any ops (listed.setIfInBounds i true)).isEmpty && decide (Region.ready .any ops ((listed.setIfInBounds i true).setIfInBounds j true) = [l]) && decide (Region.ready .any ops ((listed.setIfInBounds i true).setIfInBounds l true) = [j]) && decide (Region.ready .any ops (listed.setIfInBounds l true) = [i]) && decide (Region.ready .any ops ((listed.setIfInBounds l true).setIfInBounds i true) = [j]) && !(Nat.beq i j) && !(Nat.beq i l) && !(Nat.beq j l) && planY ops ks is (((listed.setIfInBounds i true).setIfInBounds j true).setIfInBounds l true)
 | _, _, _ => false
def RY (P : Program) (r : Option Nat) (n : Nat) (ds : List (Option Tmp)) (ks : List Nat) (rest : List Oper) (Q : Post) (D : List Deferred) (k : Sl → Mem → Hp → Prop) (L : Sl) (M0 M : Mem) (Hs Hx : Hp) : Prop :=
 ∀ (ops : Array Oper) (js : List Nat) (listed : Array Bool) (A : List Nat) (lF lA : Array Bool), OpsOf ds ops → Region.noSelect ops = true → NoDefer ops → NoPanic Q → Barrier ops A lF → (∀ j, j ∈ js → j ∈ A) → (∀ j, listed.getD j true = false → lF.getD j true = false) →
  picked ops js rest → planY ops ks js listed = true → ks.length = rest.length → (∀ j, j ∈ A → listed.getD j true = false → j ∈ js) → afterA js listed = lA → M0.le M →
  ∀ a, Fr n D L a → AnyZ r P ops M0 Hs Q (EndQ n D k M0 lA) rest.length listed a M Hx
section
variable {d : Option Tmp} {op : Op} {ty : TypeId} {pos : String} {af : Array Edge} {g : Option (Nat × Bool)} {v : Value} {ds : List (Option Tmp)} {ks : List Nat} {rest : List Oper}
theorem RY.nil (h : k L M (Hs ++ Hx)) : RY P r n ds [] [] Q D k L M0 M Hs Hx := by
 intro ops js listed A lF lA _ _ _ _ _ _ _ hl _ _ _ hlA hM a hf
 cases js with
 | nil => exact ⟨hM, fun w hh => ⟨hlA, _, _, _, h, hM, hf, hh⟩⟩
 | cons j js => exact hl.elim
theorem RY.step_ (hY : ∀ (ops : Array Oper) (a : Act), OpsOf ds ops → Fr n D L a → Yc P ops M0 Hs ⟨d, op, ty, pos, af, g⟩ v a) (hd : dok n d = true)
  (h : RY P r n ds ks rest Q D k (bnd d v L) M0 M Hs Hx) : RY P r n ds (1 :: ks) (⟨d, op, ty, pos, af, g⟩ :: rest) Q D k L M0 M Hs Hx := by
 intro ops js listed A lF lA hO hS hN hQ hb hin hsub hl hp hlen hjs hlA hM a hf
 cases js with
 | nil => exact hl.elim
 | cons j js =>
 have h0 : ops[j]? = some ⟨d, op, ty, pos, af, g⟩ := hl.1
 simp only [planY, Bool.and_eq_true] at hp
 obtain ⟨⟨p1, p2⟩, p3⟩ := hp
 have p1' : j ∈ Region.ready .any ops listed := by simpa using p1
 have key : AnyZ r P ops M0 Hs Q (EndQ n D k M0 lA) rest.length (listed.setIfInBounds j true) (a.put d v) M Hx :=
  h ops js _ A lF lA hO hS hN hQ hb (fun i hi => hin i (List.mem_cons_of_mem _ hi)) (sub_set hsub) hl.2 p3 (by simpa using hlen) (left_js p1' hjs) hlA hM _ (hf.put d hd v)
 exact AnyZ.first h0 (Region.noSelect_spec hS) hN hQ hb (hin j (List.mem_cons_self ..)) rest.length js listed a M Hx hsub (fun i hi hun => List.mem_cons.1 (hjs i hi hun)) (Nat.le_of_eq (picked_len js rest hl.2)) (Region.free_spec h0 p2) p1' (hY ops a hO hf) key
theorem RY.step (hok : ∀ M' Hx', M0.le M' → Ok P ⟨d, op, ty, pos, af, none⟩ L M' (Hs ++ Hx') v) (hd : dok n d = true)
  (h : RY P r n ds ks rest Q D k (bnd d v L) M0 M Hs Hx) : RY P r n ds (1 :: ks) (⟨d, op, ty, pos, af, none⟩ :: rest) Q D k L M0 M Hs Hx :=
 RY.step_ (fun _ _ _ hf => .inl ⟨by simp [Region.wanted], fun M' Hx' w hM' hh' => (hok M' Hx' hM').qr hf hh'⟩) hd h
end
end Go.Sx
end
section
namespace Go.Sx
open Go.RowKit Go.MapKept
abbrev Txt := List UInt8
abbrev ML := List (Txt × Value)
def MapS (o : Obj) (l : ML) : Prop := ∃ es clock, o = .map es clock ∧ Stamped es clock ∧ es.toList.map (fun e => (e.key, e.val)) = l.map (fun p => (str p.1, p.2))
def keyS {α : Type} (l : List (Txt × α)) : List Txt := l.map Prod.fst
def getS {α : Type} (l : List (Txt × α)) (k : Txt) : Option α := (l.find? (fun p => decide (p.1 = k))).map Prod.snd
def putS {α : Type} (l : List (Txt × α)) (k : Txt) (v : α) : List (Txt × α) := if k ∈ keyS l then l.map (fun p => if p.1 = k then (k, v) else p) else l ++ [(k, v)]
def delS {α : Type} (l : List (Txt × α)) (k : Txt) : List (Txt × α) := l.filter (fun p => decide (p.1 ≠ k))
theorem str_inj {a b : Txt} (h : str a = str b) : a = b := by
 unfold str at h
 injection h with h
 injection h with h
 simpa using h
theorem MapS.nodup {o : Obj} {l : ML} (h : MapS o l) : (keyS l).Nodup := by
 obtain ⟨es, clock, _, hs, he⟩ := h
 have h1 := ((stamped_iff es clock).1 hs).2.2
 have h2 : es.toList.map (·.key) = (keyS l).map str := by
  have := congrArg (List.map Prod.fst) he
  rw [List.map_map, List.map_map] at this
  unfold keyS
  rw [List.map_map]
  exact this
 have h3 : (es.toList.map (·.key)).Nodup := List.pairwise_map.2 h1
 rw [h2] at h3
 exact (List.pairwise_map.1 h3).imp fun {a b} hab e => hab (by rw [e])
theorem MapS.empty : MapS (.map #[] 0) [] := ⟨#[], 0, rfl, stamped_empty 0, rfl⟩
theorem same_str (a b : Txt) : Instr.sameNow .string (str a) (str b) = some (decide (a = b)) := by
 show some ((⟨a.toArray⟩ : ByteArray) == ⟨b.toArray⟩) = some (decide (a = b))
 have h := bytes_beq ⟨a.toArray⟩ ⟨b.toArray⟩
 congr 1
 by_cases hab : a = b
 ·rw [decide_eq_true hab]
  exact h.2 (by rw [hab])
 ·rw [decide_eq_false hab]
  cases hb : ((⟨a.toArray⟩ : ByteArray) == ⟨b.toArray⟩) with
  | false => rfl
  | true =>
   have h1 := h.1 hb
   injection h1 with h1
   exact absurd (by simpa using h1) hab
theorem isk (k : Txt) : IsKey .string (str k) := by simp [IsKey, str]
theorem findNow_S (k : Txt) : ∀ (es : List MapEntry) (l : ML) (i : Nat), es.map (fun e => (e.key, e.val)) = l.map (fun p => (str p.1, p.2)) →
  (k ∉ keyS l ∧ Instr.findNow .string (str k) es i = some none) ∨ ∃ l1 v l2, l = l1 ++ (k, v) :: l2 ∧ k ∉ keyS l1 ∧ Instr.findNow .string (str k) es i = some (some (i + l1.length, v))
 | [], l, i, h => by
  cases l with
  | nil => exact .inl ⟨by simp [keyS], rfl⟩
  | cons _ _ => simp at h
 | e :: es, l, i, h => by
  cases l with
  | nil => simp at h
  | cons p l =>
   rw [List.map_cons, List.map_cons] at h
   injection h with h1 h2
   injection h1 with h3 h4
   unfold Instr.findNow
   rw [h3, same_str]
   by_cases hk : k = p.1
   ·rw [decide_eq_true hk]
    refine .inr ⟨[], p.2, l, by rw [hk]; rfl, by simp [keyS], ?_⟩
    rw [h4]
    rfl
   ·rw [decide_eq_false hk]
    rcases findNow_S k es l (i + 1) h2 with ⟨g1, g2⟩ | ⟨l1, v, l2, rfl, g2, g3⟩
    ·refine .inl ⟨fun hm => ?_, g2⟩
     unfold keyS at hm
     rw [List.map_cons] at hm
     rcases List.mem_cons.1 hm with hm | hm
     ·exact hk hm
     ·exact g1 hm
    ·refine .inr ⟨p :: l1, v, l2, rfl, fun hm => ?_, ?_⟩
     ·unfold keyS at hm
      rw [List.map_cons] at hm
      rcases List.mem_cons.1 hm with hm | hm
      ·exact hk hm
      ·exact g2 hm
     ·dsimp only
      rw [g3, List.length_cons, Nat.add_assoc, Nat.add_comm 1]
theorem getS_none {α : Type} {l : List (Txt × α)} {k : Txt} (h : k ∉ keyS l) : getS l k = none := by
 unfold getS
 rw [List.find?_eq_none.2 (fun p hp => by
  rw [decide_eq_true_eq]
  intro e
  exact h (List.mem_map.2 ⟨p, hp, e⟩))]
 rfl
theorem getS_some {α : Type} {l1 l2 : List (Txt × α)} {k : Txt} {v : α} (h : k ∉ keyS l1) : getS (l1 ++ (k, v) :: l2) k = some v := by
 have h1 : l1.find? (fun p => decide (p.1 = k)) = none := List.find?_eq_none.2 (fun p hp => by
  rw [decide_eq_true_eq]
  intro e
  exact h (List.mem_map.2 ⟨p, hp, e⟩))
 unfold getS
 rw [List.find?_append, h1, List.find?_cons]
 simp
theorem keyS_app {α : Type} (a b : List (Txt × α)) : keyS (a ++ b) = keyS a ++ keyS b := List.map_append ..
theorem putS_new {α : Type} {l : List (Txt × α)} {k : Txt} {v : α} (h : k ∉ keyS l) : putS l k v = l ++ [(k, v)] := if_neg h
theorem map_same {α : Type} {l : List (Txt × α)} {k : Txt} {v : α} (h : k ∉ keyS l) : l.map (fun p => if p.1 = k then (k, v) else p) = l := by
 refine (List.map_congr_left fun p hp => ?_).trans (List.map_id l)
 exact if_neg (fun e => h (List.mem_map.2 ⟨p, hp, e⟩))
theorem keyS_mid {α : Type} {l1 l2 : List (Txt × α)} {k : Txt} {u : α} (hn : (keyS (l1 ++ (k, u) :: l2)).Nodup) : k ∉ keyS l1 ∧ k ∉ keyS l2 := by
 rw [keyS_app] at hn
 have h0 := List.nodup_append.1 hn
 exact ⟨fun h => h0.2.2 k h k (List.mem_cons_self ..) rfl, (List.nodup_cons.1 h0.2.1).1⟩
theorem putS_old {α : Type} {l1 l2 : List (Txt × α)} {k : Txt} {u v : α} (hn : (keyS (l1 ++ (k, u) :: l2)).Nodup) : putS (l1 ++ (k, u) :: l2) k v = l1 ++ (k, v) :: l2 := by
 obtain ⟨h1, h2⟩ := keyS_mid hn
 unfold putS
 rw [keyS_app, if_pos (show k ∈ keyS l1 ++ keyS ((k, u) :: l2) from List.mem_append_right _ (List.mem_cons_self ..)), List.map_append, List.map_cons, map_same h1, map_same h2, if_pos rfl]
theorem delS_none {α : Type} {l : List (Txt × α)} {k : Txt} (h : k ∉ keyS l) : delS l k = l :=
 List.filter_eq_self.2 fun p hp => decide_eq_true (fun e => h (List.mem_map.2 ⟨p, hp, e⟩) : p.1 ≠ k)
theorem delS_some {α : Type} {l1 l2 : List (Txt × α)} {k : Txt} {u : α} (hn : (keyS (l1 ++ (k, u) :: l2)).Nodup) : delS (l1 ++ (k, u) :: l2) k = l1 ++ l2 := by
 obtain ⟨h1, h2⟩ := keyS_mid hn
 have e1 := delS_none h1
 have e2 := delS_none h2
 unfold delS at e1 e2 ⊢
 rw [List.filter_append, List.filter_cons_of_neg (by simp), e1, e2]
theorem getS_mem {α : Type} {l : List (Txt × α)} {k : Txt} {v : α} (hn : (keyS l).Nodup) : getS l k = some v ↔ (k, v) ∈ l := by
 constructor
 ·intro h
  obtain ⟨p, h1, h2⟩ := Option.map_eq_some_iff.1 h
  have h3 : p.1 = k := by simpa using List.find?_some h1
  have h4 := List.mem_of_find?_eq_some h1
  rw [← h3, ← h2]
  exact h4
 ·intro h
  obtain ⟨l1, l2, rfl⟩ := List.append_of_mem h
  exact getS_some (keyS_mid hn).1
theorem getS_perm {α : Type} {l l' : List (Txt × α)} (h : l.Perm l') (hn : (keyS l).Nodup) (k : Txt) : getS l k = getS l' k := by
 have hn' : (keyS l').Nodup := (h.map Prod.fst).nodup_iff.1 hn
 cases hg : getS l k with
 | some v => exact ((getS_mem hn').2 (h.mem_iff.1 ((getS_mem hn).1 hg))).symm
 | none =>
  cases hg' : getS l' k with
  | none => rfl
  | some v =>
   have := (getS_mem hn).2 (h.mem_iff.2 ((getS_mem hn').1 hg'))
   rw [hg] at this
   cases this
theorem putS_perm {α : Type} {l l' : List (Txt × α)} (h : l.Perm l') (k : Txt) (v : α) : (putS l k v).Perm (putS l' k v) := by
 have hk : k ∈ keyS l ↔ k ∈ keyS l' := (h.map Prod.fst).mem_iff
 unfold putS
 by_cases h1 : k ∈ keyS l
 ·rw [if_pos h1, if_pos (hk.1 h1)]
  exact h.map _
 ·rw [if_neg h1, if_neg (fun h2 => h1 (hk.2 h2))]
  exact h.append_right _
theorem delS_perm {α : Type} {l l' : List (Txt × α)} (h : l.Perm l') (k : Txt) : (delS l k).Perm (delS l' k) := h.filter _
theorem putS_keys {α : Type} {l : List (Txt × α)} {k : Txt} {v : α} (hn : (keyS l).Nodup) : (keyS (putS l k v)).Nodup := by
 by_cases h1 : k ∈ keyS l
 ·obtain ⟨p, hp, rfl⟩ := List.mem_map.1 h1
  obtain ⟨l1, l2, rfl⟩ := List.append_of_mem hp
  have := putS_old (v := v) hn
  rw [this]
  rw [keyS_app] at hn ⊢
  exact hn
 ·rw [putS_new h1, keyS_app, List.nodup_append]
  exact ⟨hn, by simp [keyS], fun a ha b hb e => h1 (by
   have : b = k := by simpa [keyS] using hb
   rw [← this, ← e]
   exact ha)⟩
theorem delS_keys {α : Type} {l : List (Txt × α)} {k : Txt} (hn : (keyS l).Nodup) : (keyS (delS l k)).Nodup := (List.filter_sublist.map Prod.fst).nodup hn
theorem putS_map {α β : Type} (F : α → β) (l : List (Txt × α)) (k : Txt) (v : α) : (putS l k v).map (fun p => (p.1, F p.2)) = putS (l.map (fun p => (p.1, F p.2))) k (F v) := by
 have hk : keyS (l.map (fun p => (p.1, F p.2))) = keyS l := by
  unfold keyS
  rw [List.map_map]
  rfl
 unfold putS
 rw [hk]
 split
 ·rw [List.map_map, List.map_map]
  refine List.map_congr_left fun p _ => ?_
  show (((if p.1 = k then (k, v) else p) : Txt × α).1, F ((if p.1 = k then (k, v) else p) : Txt × α).2) = if p.1 = k then (k, F v) else (p.1, F p.2)
  split <;> rfl
 ·rw [List.map_append]
  rfl
theorem delS_map {α β : Type} (F : α → β) (l : List (Txt × α)) (k : Txt) : (delS l k).map (fun p => (p.1, F p.2)) = delS (l.map (fun p => (p.1, F p.2))) k := by
 unfold delS
 rw [List.filter_map]
 rfl
theorem getS_map {α β : Type} (F : α → β) (l : List (Txt × α)) (k : Txt) : getS (l.map (fun p => (p.1, F p.2))) k = (getS l k).map F := by
 unfold getS
 rw [List.find?_map, Option.map_map, Option.map_map]
 rfl
theorem mid_other {α : Type} {a c : List α} {x y : α} {j : Nat} (h : j ≠ a.length) : (a ++ x :: c)[j]? = (a ++ y :: c)[j]? := by
 rcases Nat.lt_or_gt_of_ne h with h | h
 ·rw [List.getElem?_append_left h, List.getElem?_append_left h]
 ·obtain ⟨m, rfl⟩ : ∃ m, j = a.length + (m + 1) := ⟨j - a.length - 1, by omega⟩
  rw [List.getElem?_append_right (by omega), List.getElem?_append_right (by omega), Nat.add_sub_cancel_left]
  rfl
section
variable {P : Program} {t kt et : TypeId} {w : World} {b : Nat} {o : Obj} {l : ML} {k : Txt}
theorem findKey_S (hk : P.underlying kt = some .string) {es : Array MapEntry} (he : es.toList.map (fun e => (e.key, e.val)) = l.map (fun p => (str p.1, p.2))) :
  (k ∉ keyS l ∧ (Instr.findKey kt (str k) es.toList).run P w = .ok none w) ∨ ∃ l1 v l2, l = l1 ++ (k, v) :: l2 ∧ k ∉ keyS l1 ∧ (Instr.findKey kt (str k) es.toList).run P w = .ok (some (l1.length, v)) w := by
 rcases findNow_S k es.toList l 0 he with ⟨h1, h2⟩ | ⟨l1, v, l2, h1, h2, h3⟩
 ·exact .inl ⟨h1, by simp [Instr.findKey, run_underlying hk, h2]⟩
 ·exact .inr ⟨l1, v, l2, h1, h2, by simp [Instr.findKey, run_underlying hk, h3]⟩
theorem checkKey_S (hk : P.underlying kt = some .string) (e : Bool) : (Instr.checkKey e 10000 kt (str k)).run P w = .ok () w := by
 exact run_checkKey hk (isk k) e 9999
theorem lookup_run {z : Value} {inf : TypeInfo} (ht : P.underlying t = some (.map kt et)) (hk : P.underlying kt = some .string) (h1 : P.info? et = some inf) (h2 : inf.zero = some z) (hb : w.heap[b]? = some o) (ho : MapS o l) (c : Bool) :
  (Instr.lookup t (.map (some b)) (str k) c).run P w = .ok (if c then .tuple #[(getS l k).getD z, .bool (getS l k).isSome] else (getS l k).getD z) w := by
 obtain ⟨es, clock, rfl, hs, he⟩ := ho
 have hz : (zeroValue et).run P w = .ok z w := by simp [zeroValue, typeInfo, h1, h2]
 rcases findKey_S (P := P) (w := w) (k := k) hk he with ⟨g1, g2⟩ | ⟨l1, v, l2, rfl, g2, g3⟩
 ·rw [getS_none g1]
  simp [Instr.lookup, run_underlying ht, MapKept.run_getObj_map hb, checkKey_S hk, g2, hz, Result.andThen]
 ·rw [getS_some g2]
  simp [Instr.lookup, run_underlying ht, MapKept.run_getObj_map hb, checkKey_S hk, g3, Result.andThen]
theorem keyStays_S (a : Txt) : (Instr.keyThatStays (str a) (str a)).run P w = .ok (str a) w := run_keyThatStays (isk a)
theorem entries_mid {es : Array MapEntry} {l1 l2 : ML} {v : Value} (he : es.toList.map (fun e => (e.key, e.val)) = (l1 ++ (k, v) :: l2).map (fun p => (str p.1, p.2))) : ∃ e0, es[l1.length]? = some e0 ∧ e0.key = str k ∧ e0.val = v := by
 have h : (es.toList.map (fun e => (e.key, e.val)))[l1.length]? = some (str k, v) := by
  rw [he, List.map_append, List.getElem?_append_right (by simp), List.map_cons]
  simp
 rw [List.getElem?_map] at h
 obtain ⟨e0, h1, h2⟩ := Option.map_eq_some_iff.1 h
 injection h2 with h2 h3
 exact ⟨e0, by simpa using h1, h2, h3⟩
theorem put_run {v : Value} (ht : P.underlying t = some (.map kt et)) (hk : P.underlying kt = some .string) (hb : w.heap[b]? = some o) (ho : MapS o l) :
  ∃ o', MapS o' (putS l k v) ∧ (Instr.mapUpdate t (.map (some b)) (str k) v).run P w = .ok () { w with heap := w.heap.setIfInBounds b o' } := by
 have hn := ho.nodup
 obtain ⟨es, clock, rfl, hs, he⟩ := ho
 rcases findKey_S (P := P) (w := w) (k := k) hk he with ⟨g1, g2⟩ | ⟨l1, u, l2, rfl, g2, g3⟩
 ·rw [putS_new g1]
  refine ⟨.map (es.push { key := str k, val := v, born := clock }) (clock + 1), ⟨_, _, rfl, stamped_push hs (fun x hx e => ?_), by simp [he]⟩, by simp [Instr.mapUpdate, run_underlying ht, MapKept.run_getObj_map hb, MapKept.run_setObj_map _ hb, checkKey_S hk, g2, Result.andThen]⟩
  have h1 : (x.key, x.val) ∈ l.map (fun p => (str p.1, p.2)) := he ▸ List.mem_map.2 ⟨x, hx, rfl⟩
  obtain ⟨p, hp, h2⟩ := List.mem_map.1 h1
  injection h2 with h2 _
  exact g1 (List.mem_map.2 ⟨p, hp, str_inj (h2.trans e)⟩)
 ·obtain ⟨e0, h1, h2, h3⟩ := entries_mid he
  rw [putS_old hn]
  have hl : l1.length < es.size := (Array.getElem?_eq_some_iff.1 h1).1
  refine ⟨.map (es.modify l1.length fun e => { e with key := str k, val := v }) clock, ⟨_, _, rfl, stamped_modify hs _ _ (fun _ _ => rfl) (fun e _ h => ?_), ?_⟩, ?_⟩
  ·rw [h1] at h
   injection h with h
   rw [← h]
   exact h2.symm
  ·rw [Array.toList_modify]
   apply List.ext_getElem?
   intro j
   have h1' : es.toList[l1.length]? = some e0 := by simpa using h1
   rw [List.getElem?_map, List.getElem?_modify, List.map_append, List.map_cons]
   by_cases hj : l1.length = j
   ·subst hj
    rw [h1', List.getElem?_append_right (by simp)]
    simp
   ·have hl : (l1.map (fun p => (str p.1, p.2))).length = l1.length := List.length_map ..
    rw [mid_other (y := (str k, u)) (by rw [hl]; exact fun e => hj e.symm)]
    have hej : (es.toList[j]?).map (fun e => (e.key, e.val)) = (l1.map (fun p => (str p.1, p.2)) ++ (str k, u) :: l2.map (fun p => (str p.1, p.2)))[j]? := by
     rw [← List.getElem?_map, he, List.map_append, List.map_cons]
    rw [← hej]
    cases es.toList[j]? with
    | none => rfl
    | some x => simp [hj]
  ·simp [Instr.mapUpdate, run_underlying ht, MapKept.run_getObj_map hb, MapKept.run_setObj_map _ hb, checkKey_S hk, g3, Result.andThen, h1, h2, keyStays_S]
theorem del_run (ht : P.underlying t = some (.map kt et)) (hk : P.underlying kt = some .string) {t2 ty : TypeId} (hb : w.heap[b]? = some o) (ho : MapS o l) :
  ∃ o', MapS o' (delS l k) ∧ (Builtin.delete_ #[t, t2] ty #[.map (some b), str k]).run P w = .ok (.tuple #[]) { w with heap := w.heap.setIfInBounds b o' } := by
 have hn := ho.nodup
 obtain ⟨es, clock, rfl, hs, he⟩ := ho
 rcases findKey_S (P := P) (w := w) (k := k) hk he with ⟨g1, g2⟩ | ⟨l1, u, l2, rfl, g2, g3⟩
 ·rw [delS_none g1]
  exact ⟨.map es clock, ⟨_, _, rfl, hs, he⟩, by simp [Builtin.delete_, run_underlying ht, MapKept.run_getObj_map hb, MapKept.run_setObj_map _ hb, checkKey_S hk, g2, Result.andThen]⟩
 ·obtain ⟨e0, h1, _, _⟩ := entries_mid he
  have hl : l1.length < es.size := (Array.getElem?_eq_some_iff.1 h1).1
  rw [delS_some hn]
  have hsub : (es.eraseIdxIfInBounds l1.length).toList = es.toList.eraseIdx l1.length := by
   unfold Array.eraseIdxIfInBounds
   rw [dif_pos hl]
   simp
  refine ⟨.map (es.eraseIdxIfInBounds l1.length) clock, ⟨_, _, rfl, stamped_erase hs _, ?_⟩, by simp [Builtin.delete_, run_underlying ht, MapKept.run_getObj_map hb, MapKept.run_setObj_map _ hb, checkKey_S hk, g3, Result.andThen]⟩
  rw [hsub, List.eraseIdx_eq_take_drop_succ, List.map_append, List.map_take, List.map_drop, he, List.map_append, List.map_cons]
  have hll : (l1.map (fun p => (str p.1, p.2))).length = l1.length := List.length_map ..
  rw [List.take_left' hll, List.map_append, show List.drop (l1.length + 1) (l1.map (fun p => (str p.1, p.2)) ++ (str k, u) :: l2.map (fun p => (str p.1, p.2))) = l2.map (fun p => (str p.1, p.2)) from by rw [← hll, List.drop_append]; simp]
theorem len_run (ht : P.underlying t = some (.map kt et)) {ty : TypeId} (hb : w.heap[b]? = some o) (ho : MapS o l) : (Builtin.len_ #[t] ty #[.map (some b)]).run P w = .ok (.int .i64 (l.length : Int)) w := by
 obtain ⟨es, clock, rfl, hs, he⟩ := ho
 have hl : es.size = l.length := by
  have := congrArg List.length he
  simpa using this
 simp [Builtin.len_, run_underlying ht, MapKept.run_getObj_map hb, Result.andThen, goInt, hl]
end
def ItS (oi o : Obj) (b : Nat) (rest : ML) : Prop := ∃ es clock since seen c0, o = .map es clock ∧ Stamped es clock ∧ oi = .mapIter (some b) since seen c0 ∧ (∀ x ∈ es.toList, x.born < since) ∧ since ≤ c0 ∧ since ≤ clock ∧ (leftOf es seen).toList.map (fun e => (e.key, e.val)) = rest.map (fun p => (str p.1, p.2))
theorem ItS.start {o : Obj} {b : Nat} {l : ML} (h : MapS o l) : ∃ clock, (∃ es, o = .map es clock) ∧ ItS (.mapIter (some b) clock #[] clock) o b l := by
 obtain ⟨es, clock, rfl, hs, he⟩ := h
 refine ⟨clock, ⟨es, rfl⟩, es, clock, clock, #[], clock, rfl, hs, rfl, hs.1, Nat.le_refl _, Nat.le_refl _, ?_⟩
 have : leftOf es #[] = es := by
  unfold leftOf
  simp
 rw [this]
 exact he
theorem left_mid {es : Array MapEntry} {seen : Array Nat} {l1 l2 : List MapEntry} {e : MapEntry} (hn : (es.toList.map (·.born)).Nodup) (h : (leftOf es seen).toList = l1 ++ e :: l2) : (leftOf es (seen.push e.born)).toList = l1 ++ l2 := by
 have h1 : (leftOf es (seen.push e.born)).toList = (leftOf es seen).toList.filter (fun x => decide (x.born ≠ e.born)) := by
  unfold leftOf
  rw [Array.toList_filter, Array.toList_filter, List.filter_filter]
  refine List.filter_congr fun x _ => ?_
  rw [contains_push]
  by_cases hx : x.born = e.born <;> cases seen.contains x.born <;> simp [hx]
 have h2 : ((leftOf es seen).toList.map (·.born)).Nodup := by
  unfold leftOf
  rw [Array.toList_filter]
  exact (List.filter_sublist.map _).nodup hn
 rw [h1, h]
 rw [h, List.map_append, List.map_cons] at h2
 have h3 := List.nodup_append.1 h2
 have hne1 : ∀ x ∈ l1, x.born ≠ e.born := fun x hx he => h3.2.2 _ (List.mem_map.2 ⟨x, hx, rfl⟩) _ (List.mem_cons_self ..) he
 have hne2 : ∀ x ∈ l2, x.born ≠ e.born := fun x hx he => (List.nodup_cons.1 h3.2.1).1 (by rw [← he]; exact List.mem_map.2 ⟨x, hx, rfl⟩)
 rw [List.filter_append, List.filter_cons_of_neg (by simp), List.filter_eq_self.2 (fun x hx => decide_eq_true (hne1 x hx)), List.filter_eq_self.2 (fun x hx => decide_eq_true (hne2 x hx))]
def EntS (it b : Nat) (oi o : Obj) (k : Txt) (v : Value) : Prop := ∀ (P : Program) (w : World), w.heap[it]? = some oi → w.heap[b]? = some o → (Instr.entry (.pointer (some ⟨it, 0, none⟩))).run P w = .ok (.tuple #[str k, v]) w
section
variable {P : Program} {t kt et : TypeId} {w : World} {b it : Nat} {o oi : Obj} {l rest : ML}
theorem next_run {ty : TypeId} (hi : w.heap[it]? = some oi) (hb : w.heap[b]? = some o) (h : ItS oi o b rest) :
  (rest = [] ∧ (Instr.next (.pointer (some ⟨it, 0, none⟩)) false ty).run P w = .ok (.tuple #[.bool false]) w) ∨
  ∃ r1 k v r2 oi' w1, rest = r1 ++ (k, v) :: r2 ∧ ItS oi' o b (r1 ++ r2) ∧ (w1 = w ∨ w1 = w.drew) ∧ (Instr.next (.pointer (some ⟨it, 0, none⟩)) false ty).run P w = .ok (.tuple #[.bool true, str k, v]) { w1 with heap := w1.heap.setIfInBounds it oi' } ∧
   EntS it b oi' o k v := by
 obtain ⟨es, clock, since, seen, c0, rfl, hs, rfl, hold, hsc, hsk, hl⟩ := h
 rcases run_next_at (P := P) w ty it b since c0 seen es clock hi hb hold hsc with ⟨h0, hrun⟩ | ⟨e, he, w1, hal, hrun⟩
 ·refine .inl ⟨?_, hrun⟩
  have : (leftOf es seen).toList = [] := List.eq_nil_of_length_eq_zero (by simpa using h0)
  rw [this] at hl
  cases rest with
  | nil => rfl
  | cons _ _ => simp at hl
 ·obtain ⟨l1, l2, hll⟩ := List.append_of_mem he
  have hn := ((stamped_iff es clock).1 hs).2.1
  rw [hll, List.map_append, List.map_cons] at hl
  obtain ⟨r1, r3, rfl, q1, q2⟩ := List.map_eq_append_iff.1 hl.symm
  obtain ⟨⟨k, v⟩, r2, rfl, q3, q4⟩ := List.map_eq_cons_iff.1 q2
  injection q3 with q5 q6
  rw [← q5, ← q6] at hrun
  refine .inr ⟨r1, k, v, r2, .mapIter (some b) since (seen.push e.born) clock, w1, rfl, ⟨es, clock, since, seen.push e.born, clock, rfl, hs, rfl, hold, hsk, hsk, ?_⟩, hal, hrun, fun P2 w2 h2 h3 => ?_⟩
  ·rw [left_mid hn hll, List.map_append, List.map_append, q1, q4]
  ·have q5' : str k = e.key := q5
   have q6' : v = e.val := q6
   rw [q5', q6']
   exact run_entry_at (P := P2) w2 it b since seen es clock e h2 h3 (mem_left he).1 hn
end
section
variable {P : Program} {r : Option Nat} {n : Nat} {D : List Deferred} {L : Sl} {M : Mem} {H : Hp} {Q : Post} {d : Option Tmp} {ty : TypeId} {pos : String} {af : Array Edge} {g : Option (Nat × Bool)} {ops : Array Oper} {rest : List Oper} {t kt et sz by_ : Nat} {z : Value} {x y m : Operand} {b : Nat} {o : Obj} {l : ML} {k : Txt} {f : Obj → Hp}
theorem Ok.lookupS [ht : Und P t (.map kt et)] [hk : Und P kt .string] [hi : Inf P et sz by_ z] (hm : ev L m = some (.map (some b))) (hx : ev L x = some (str k)) (hb : (b, o) ∈ H) (ho : MapS o l) : Ok P ⟨d, .lookup t m x true, ty, pos, af, g⟩ L M H (.tuple #[(getS l k).getD z, .bool (getS l k).isSome]) := fun _ _ _ _ hf hh => by
 obtain ⟨inf, g1, g2, g3, g4⟩ := hi.h
 simp [execOp, hf.ev hm, hf.ev hx, lookup_run (k := k) ht.h hk.h g1 g4 (hh.own _ hb) ho]
theorem Ok.lookupS1 [ht : Und P t (.map kt et)] [hk : Und P kt .string] [hi : Inf P et sz by_ z] (hm : ev L m = some (.map (some b))) (hx : ev L x = some (str k)) (hb : (b, o) ∈ H) (ho : MapS o l) : Ok P ⟨d, .lookup t m x false, ty, pos, af, g⟩ L M H ((getS l k).getD z) := fun _ _ _ _ hf hh => by
 obtain ⟨inf, g1, g2, g3, g4⟩ := hi.h
 simp [execOp, hf.ev hm, hf.ev hx, lookup_run (k := k) ht.h hk.h g1 g4 (hh.own _ hb) ho]
theorem Ok.lenM [ht : Und P t (.map kt et)] (hm : ev L m = some (.map (some b))) (hb : (b, o) ∈ H) (ho : MapS o l) : Ok P ⟨d, .call ⟨.builtin .len, #[m], #[t]⟩, ty, pos, af, g⟩ L M H (.int .i64 (l.length : Int)) := fun n D a w hf hh =>
 builtin_run (xs := [m]) (vs := [.map (some b)]) hf (.cons hm .nil) (fun _ => rfl) (len_run ht.h (hh.own _ hb) ho)
theorem Ok.entryS {it : Nat} {oi : Obj} {v : Value} (hx : ev L x = some (.pointer (some ⟨it, 0, none⟩))) (hi : (it, oi) ∈ H) (hb : (b, o) ∈ H) (h : EntS it b oi o k v) : Ok P ⟨d, .entry x, ty, pos, af, g⟩ L M H (.tuple #[str k, v]) := fun n D a w hf hh => by
 simp [execOp, hf.ev hx, h P w (hh.own _ hi) (hh.own _ hb)]
theorem R.putS [ht : Und P t (.map kt et)] [hk : Und P kt .string] {v : Value} (hm : ev L m = some (.map (some b))) (hx : ev L x = some (str k)) (hy : ev L y = some v) (hb : At H b o f) (ho : MapS o l) (kk : ∀ o', MapS o' (Go.Sx.putS l k v) → R false P r n ops rest Q D L M (f o')) :
  R false P r n ops (⟨none, .mapUpdate t m x y, ty, pos, af, none⟩ :: rest) Q D L M H := by
 refine R.world rfl (by intro c h; cases h) fun a w hf hh => ?_
 obtain ⟨o', h1, h2⟩ := put_run (v := v) (k := k) ht.h hk.h (hh.own _ hb.mem) ho
 have h3 := MapKept.heap_set (o' := o') (hh.own _ hb.mem)
 exact ⟨undef, { w with heap := w.heap.setIfInBounds b o' }, .inr ⟨by simp [execOp, hf.ev hm, hf.ev hx, hf.ev hy, h2], rfl⟩, fun hf hh => kk o' h1 _ _ hf (hh.put hb h3.1 h3.2 rfl rfl)⟩
theorem R.delS [ht : Und P t (.map kt et)] [hk : Und P kt .string] {t2 : TypeId} (hm : ev L m = some (.map (some b))) (hx : ev L x = some (str k)) (hb : At H b o f) (ho : MapS o l) (hd : dok n d = true) (kk : ∀ o', MapS o' (Go.Sx.delS l k) → R false P r n ops rest Q D (bnd d (.tuple #[]) L) M (f o')) :
  R false P r n ops (⟨d, .call ⟨.builtin .delete, #[m, x], #[t, t2]⟩, ty, pos, af, none⟩ :: rest) Q D L M H := by
 refine R.world rfl (by intro c h; cases h) fun a w hf hh => ?_
 obtain ⟨o', h1, h2⟩ := del_run (k := k) (t2 := t2) (ty := ty) ht.h hk.h (hh.own _ hb.mem) ho
 have h3 := MapKept.heap_set (o' := o') (hh.own _ hb.mem)
 exact ⟨_, _, .inl (builtin_run (xs := [m, x]) (vs := [.map (some b), str k]) hf (.cons hm (.cons hx .nil)) (fun _ => rfl) h2), fun hf hh => kk o' h1 _ _ (hf.put d hd _) (hh.put hb h3.1 h3.2 rfl rfl)⟩
theorem R.makeMap (hd : dok n d = true) (kk : ∀ b, R false P r n ops rest Q D (bnd d (.map (some b)) L) M ((b, .map #[] 0) :: H)) : R false P r n ops (⟨d, .makeMap t none, ty, pos, af, none⟩ :: rest) Q D L M H :=
 R.world rfl (by intro c h; cases h) fun a w hf hh => ⟨.map (some w.heap.size), w.alloc (.map #[] 0), .inl (by simp [execOp, run_makeMap]), fun hf hh => kk _ _ _ (hf.put d hd _) (hh.alloc _)⟩
theorem R.rangeS [ht : Und P t (.map kt et)] (hm : ev L m = some (.map (some b))) (hb : (b, o) ∈ H) (ho : MapS o l) (hd : dok n d = true) (kk : ∀ it oi, ItS oi o b l → R false P r n ops rest Q D (bnd d (.pointer (some ⟨it, 0, none⟩)) L) M ((it, oi) :: H)) :
  R false P r n ops (⟨d, .range t m, ty, pos, af, none⟩ :: rest) Q D L M H := by
 refine R.world rfl (by intro c h; cases h) fun a w hf hh => ?_
 obtain ⟨clock, ⟨es, rfl⟩, h1⟩ := ItS.start (b := b) ho
 have h2 := run_range_map (P := P) w t kt et b es clock ht.h (hh.own _ hb)
 exact ⟨_, _, .inl (by simp [execOp, hf.ev hm, h2]), fun hf hh => kk _ _ h1 _ _ (hf.put d hd _) (hh.alloc _)⟩
theorem R.nextS {it : Nat} {oi : Obj} {rs : ML} (hx : ev L x = some (.pointer (some ⟨it, 0, none⟩))) (hi : At H it oi f) (hb : (b, o) ∈ H) (h : ItS oi o b rs) (hd : dok n d = true)
  (k0 : rs = [] → R false P r n ops rest Q D (bnd d (.tuple #[.bool false]) L) M H)
  (k1 : ∀ r1 k v r2 oi', rs = r1 ++ (k, v) :: r2 → ItS oi' o b (r1 ++ r2) → EntS it b oi' o k v → R false P r n ops rest Q D (bnd d (.tuple #[.bool true, str k, v]) L) M (f oi')) :
  R false P r n ops (⟨d, .next x false, ty, pos, af, none⟩ :: rest) Q D L M H := by
 refine R.world rfl (by intro c h; cases h) fun a w hf hh => ?_
 rcases next_run (P := P) (ty := ty) (hh.own _ hi.mem) (hh.own _ hb) h with ⟨h1, h2⟩ | ⟨r1, k, v, r2, oi', w1, h1, h2, h3, h4, h6⟩
 ·exact ⟨_, _, .inl (by simp [execOp, hf.ev hx, h2]), fun hf hh => k0 h1 _ _ (hf.put d hd _) hh⟩
 ·refine ⟨_, { w1 with heap := w1.heap.setIfInBounds it oi' }, .inl (by simp [execOp, hf.ev hx, h4]), fun hf hh => k1 r1 k v r2 oi' h1 h2 h6 _ _ (hf.put d hd _) ?_⟩
  have hh1 : Heap w1 M H := by rcases h3 with rfl | rfl; exact hh; exact hh.drew
  have h5 := MapKept.heap_set (o' := oi') (hh1.own _ hi.mem)
  exact hh1.put hi h5.1 h5.2 rfl rfl
end
end Go.Sx
end
section
namespace Go.Sx
open Go.RowKit
section
variable {P : Program} {L : Sl} {M : Mem} {H : Hp} {d : Option Tmp} {ty : TypeId} {pos : String} {af : Array Edge} {g : Option (Nat × Bool)} {t t' : TypeId} {x y : Operand} {a b : Txt} {k : IntKind} {i : Int}
theorem str_app (a b : Txt) : (⟨a.toArray⟩ : ByteArray) ++ (⟨b.toArray⟩ : ByteArray) = ⟨(a ++ b).toArray⟩ := by
 apply ByteArray.ext
 simp
theorem str_size (a : Txt) : (⟨a.toArray⟩ : ByteArray).size = a.length := List.size_toArray ..
theorem Ok.addStr (hx : ev L x = some (str a)) (hy : ev L y = some (str b)) (hl : a.length + b.length ≤ 9223372036854775807) : Ok P ⟨d, .binOp .add t x y t', ty, pos, af, g⟩ L M H (str (a ++ b)) :=
 Ok.bin hx hy (fun w => by simp [eqGuard, str]) fun w => by
  have h1 : ¬ (((⟨a.toArray⟩ : ByteArray).size + (⟨b.toArray⟩ : ByteArray).size : Nat) : Int) > IntKind.i64.max := by
   rw [str_size, str_size]
   show ¬ _ > (9223372036854775807 : Int)
   omega
  simp only [binOp, str, Op.stringOp, h1, if_false, str_app]
  rfl
theorem Ok.lenT [hs : Und P t .string] (hx : ev L x = some (str a)) : Ok P ⟨d, .call ⟨.builtin .len, #[x], #[t]⟩, ty, pos, af, g⟩ L M H (.int .i64 (a.length : Int)) := by
 have h := Ok.lenS (P := P) (d := d) (ty := ty) (pos := pos) (af := af) (g := g) (M := M) (H := H) (t := t) (s := ⟨a.toArray⟩) hx
 rwa [str_size] at h
theorem Ok.eqT (hx : ev L x = some (str a)) (hy : ev L y = some (str b)) : Ok P ⟨d, .binOp .eql t x y t', ty, pos, af, g⟩ L M H (.bool (decide (a = b))) := Ok.eqStr hx hy
theorem Ok.neT (hx : ev L x = some (str a)) (hy : ev L y = some (str b)) : Ok P ⟨d, .binOp .neq t x y t', ty, pos, af, g⟩ L M H (.bool (!decide (a = b))) := Ok.neStr hx hy
theorem Ok.ltT (hx : ev L x = some (str a)) (hy : ev L y = some (str b)) : Ok P ⟨d, .binOp .lss t x y t', ty, pos, af, g⟩ L M H (.bool (Op.bytesLess a b)) :=
 Ok.bin hx hy (fun w => by simp [eqGuard, str]) fun w => by
  simp [binOp, str, Op.stringOp]
theorem Ok.ltTr {p q : Int} (hx : ev L x = some (.int k p)) (hy : ev L y = some (.int k q)) (h : p < q) : Ok P ⟨d, .binOp .lss t x y t', ty, pos, af, g⟩ L M H (.bool true) := by
 have h1 := Ok.lt (P := P) (d := d) (t := t) (t' := t') (ty := ty) (pos := pos) (af := af) (g := g) (M := M) (H := H) hx hy
 rwa [decide_eq_true h] at h1
theorem Ok.gtTr {p q : Int} (hx : ev L x = some (.int k p)) (hy : ev L y = some (.int k q)) (h : q < p) : Ok P ⟨d, .binOp .gtr t x y t', ty, pos, af, g⟩ L M H (.bool true) := by
 have h1 := Ok.gt (P := P) (d := d) (t := t) (t' := t') (ty := ty) (pos := pos) (af := af) (g := g) (M := M) (H := H) hx hy
 rwa [decide_eq_true h] at h1
theorem Ok.ltF {p q : Int} (hx : ev L x = some (.int k p)) (hy : ev L y = some (.int k q)) (h : ¬ p < q) : Ok P ⟨d, .binOp .lss t x y t', ty, pos, af, g⟩ L M H (.bool false) := by
 have h1 := Ok.lt (P := P) (d := d) (t := t) (t' := t') (ty := ty) (pos := pos) (af := af) (g := g) (M := M) (H := H) hx hy
 rwa [decide_eq_false h] at h1
theorem Ok.gtF {p q : Int} (hx : ev L x = some (.int k p)) (hy : ev L y = some (.int k q)) (h : ¬ q < p) : Ok P ⟨d, .binOp .gtr t x y t', ty, pos, af, g⟩ L M H (.bool false) := by
 have h1 := Ok.gt (P := P) (d := d) (t := t) (t' := t') (ty := ty) (pos := pos) (af := af) (g := g) (M := M) (H := H) hx hy
 rwa [decide_eq_false h] at h1
theorem Ok.leTr {p q : Int} (hx : ev L x = some (.int k p)) (hy : ev L y = some (.int k q)) (h : p ≤ q) : Ok P ⟨d, .binOp .leq t x y t', ty, pos, af, g⟩ L M H (.bool true) := by
 have h1 := Ok.le (P := P) (d := d) (t := t) (t' := t') (ty := ty) (pos := pos) (af := af) (g := g) (M := M) (H := H) hx hy
 rwa [decide_eq_true h] at h1
theorem Ok.leF {p q : Int} (hx : ev L x = some (.int k p)) (hy : ev L y = some (.int k q)) (h : ¬ p ≤ q) : Ok P ⟨d, .binOp .leq t x y t', ty, pos, af, g⟩ L M H (.bool false) := by
 have h1 := Ok.le (P := P) (d := d) (t := t) (t' := t') (ty := ty) (pos := pos) (af := af) (g := g) (M := M) (H := H) hx hy
 rwa [decide_eq_false h] at h1
theorem Ok.geTr {p q : Int} (hx : ev L x = some (.int k p)) (hy : ev L y = some (.int k q)) (h : q ≤ p) : Ok P ⟨d, .binOp .geq t x y t', ty, pos, af, g⟩ L M H (.bool true) := by
 have h1 := Ok.ge (P := P) (d := d) (t := t) (t' := t') (ty := ty) (pos := pos) (af := af) (g := g) (M := M) (H := H) hx hy
 rwa [decide_eq_true h] at h1
theorem Ok.geF {p q : Int} (hx : ev L x = some (.int k p)) (hy : ev L y = some (.int k q)) (h : ¬ q ≤ p) : Ok P ⟨d, .binOp .geq t x y t', ty, pos, af, g⟩ L M H (.bool false) := by
 have h1 := Ok.ge (P := P) (d := d) (t := t) (t' := t') (ty := ty) (pos := pos) (af := af) (g := g) (M := M) (H := H) hx hy
 rwa [decide_eq_false h] at h1
theorem Ok.eqIF {p q : Int} (hx : ev L x = some (.int k p)) (hy : ev L y = some (.int k q)) (h : p ≠ q) : Ok P ⟨d, .binOp .eql t x y t', ty, pos, af, g⟩ L M H (.bool false) := by
 have h1 := Ok.eqI (P := P) (d := d) (t := t) (t' := t') (ty := ty) (pos := pos) (af := af) (g := g) (M := M) (H := H) hx hy
 rwa [beq_false_of_ne h] at h1
theorem Ok.neIT {p q : Int} (hx : ev L x = some (.int k p)) (hy : ev L y = some (.int k q)) (h : p ≠ q) : Ok P ⟨d, .binOp .neq t x y t', ty, pos, af, g⟩ L M H (.bool true) := by
 have h1 := Ok.neI (P := P) (d := d) (t := t) (t' := t') (ty := ty) (pos := pos) (af := af) (g := g) (M := M) (H := H) hx hy
 rwa [show (p != q) = true by simpa using h] at h1
theorem Ok.toT {s t e : TypeId} {x : Operand} {A : Option Addr} {c : Nat} {bs : List UInt8} [hs : Und P s (.slice e)] [he : Und P e (.int .u8)] [ht : Und P t .string] (hx : ev L x = some (.slice A bs.length c)) (hrd : Rd M H A (bs.map bv)) :
  Ok P ⟨d, .convert s t x, ty, pos, af, g⟩ L M H (str bs) := Ok.toStr hx hrd
end
end Go.Sx
end
section
namespace Go.Sx
open Go.RowKit
section
variable {P : Program} {L : Sl} {M : Mem} {H : Hp} {d : Option Tmp} {ty : TypeId} {pos : String} {af : Array Edge} {g : Option (Nat × Bool)} {t t' : TypeId} {x y : Operand} {p q : Nat} {a b : UInt8}
theorem Ok.shrUN {k' : IntKind} (s c : Nat) (hx : ev L x = some (.int .u64 (p : Int))) (hy : ev L y = some (.int k' (s : Int))) (hs : s ≤ 64) (hc : 2 ^ s = c) : Ok P ⟨d, .binOp .shr t x y t', ty, pos, af, g⟩ L M H (.int .u64 ((p / c : Nat) : Int)) := by
 have h := Ok.shr (P := P) (d := d) (t := t) (t' := t') (ty := ty) (pos := pos) (af := af) (g := g) (M := M) (H := H) hx hy (by omega)
 have e : (p : Int).fdiv (2 ^ (min (s : Int).toNat IntKind.u64.bits)) = ((p / c : Nat) : Int) := by
  rw [show min (s : Int).toNat IntKind.u64.bits = s by show min (s : Int).toNat 64 = s; omega]
  rw [Int.fdiv_eq_ediv_of_nonneg _ (by exact_mod_cast Nat.zero_le (2 ^ s)), ← hc]
  exact_mod_cast rfl
 rw [e] at h
 exact h
theorem Ok.shlUN {k' : IntKind} {s : Int} (n c : Nat) (hx : ev L x = some (.int .u64 (p : Int))) (hy : ev L y = some (.int k' s)) (hsn : s = (n : Int)) (hs : n ≤ 64) (hc : 2 ^ n = c) (hb : p * c ≤ 18446744073709551615) : Ok P ⟨d, .binOp .shl t x y t', ty, pos, af, g⟩ L M H (.int .u64 ((p * c : Nat) : Int)) := by
 subst hsn
 have h := Ok.shl (P := P) (d := d) (t := t) (t' := t') (ty := ty) (pos := pos) (af := af) (g := g) (M := M) (H := H) hx hy (by omega)
 have e : (p : Int) * 2 ^ (min (n : Int).toNat IntKind.u64.bits) = ((p * c : Nat) : Int) := by
  rw [show min (n : Int).toNat IntKind.u64.bits = n by show min (n : Int).toNat 64 = n; omega]
  rw [← hc]
  exact_mod_cast rfl
 rw [e, wu64 (by omega) (by omega)] at h
 exact h
theorem Ok.orUN (hx : ev L x = some (.int .u64 (p : Int))) (hy : ev L y = some (.int .u64 (q : Int))) (hp : p ≤ 18446744073709551615) (hq : q ≤ 18446744073709551615) : Ok P ⟨d, .binOp .or t x y t', ty, pos, af, g⟩ L M H (.int .u64 ((p ||| q : Nat) : Int)) := by
 have h := Ok.or (P := P) (d := d) (t := t) (t' := t') (ty := ty) (pos := pos) (af := af) (g := g) (M := M) (H := H) hx hy
 have hlt : (p ||| q) < 2 ^ 64 := Nat.or_lt_two_pow (by omega) (by omega)
 have e : IntKind.u64.wrap (BitVec.ofInt IntKind.u64.bits (p : Int) ||| BitVec.ofInt IntKind.u64.bits (q : Int)).toNat = ((p ||| q : Nat) : Int) := by
  show IntKind.u64.wrap (BitVec.ofInt 64 (p : Int) ||| BitVec.ofInt 64 (q : Int)).toNat = _
  rw [BitVec.ofInt_natCast, BitVec.ofInt_natCast, BitVec.toNat_or, BitVec.toNat_ofNat, BitVec.toNat_ofNat, Nat.mod_eq_of_lt (by omega), Nat.mod_eq_of_lt (by omega), wu64 (by omega) (by omega)]
 rwa [e] at h
theorem Ok.orUN_add (n : Nat) (r : Nat) (hx : ev L x = some (.int .u64 (p : Int))) (hy : ev L y = some (.int .u64 (q : Int))) (hp : p < 2 ^ n) (hq : q = r * 2 ^ n) (hs : p + q ≤ 18446744073709551615) : Ok P ⟨d, .binOp .or t x y t', ty, pos, af, g⟩ L M H (.int .u64 ((p + q : Nat) : Int)) := by
 have h := Ok.orUN (P := P) (d := d) (t := t) (t' := t') (ty := ty) (pos := pos) (af := af) (g := g) (M := M) (H := H) hx hy (by omega) (by omega)
 have e : p ||| q = p + q := by
  rw [hq, Nat.or_comm, Nat.mul_comm, ← Nat.two_pow_add_eq_or_of_lt hp]
  omega
 rwa [e] at h
theorem wu8 (a : UInt8) : IntKind.u8.wrap (a.toNat : Int) = (a.toNat : Int) := by
 have := a.toNat_lt
 show (a.toNat : Int) % 2 ^ 8 = _
 omega
theorem bits8 (a : UInt8) : BitVec.ofInt IntKind.u8.bits (a.toNat : Int) = a.toBitVec := by
 show BitVec.ofInt 8 (a.toNat : Int) = _
 rw [BitVec.ofInt_natCast]
 apply BitVec.eq_of_toNat_eq
 rw [BitVec.toNat_ofNat]
 exact Nat.mod_eq_of_lt a.toNat_lt
theorem Ok.orBB (hx : ev L x = some (bv a)) (hy : ev L y = some (bv b)) : Ok P ⟨d, .binOp .or t x y t', ty, pos, af, g⟩ L M H (bv (a ||| b)) := by
 have h := Ok.or (P := P) (d := d) (t := t) (t' := t') (ty := ty) (pos := pos) (af := af) (g := g) (M := M) (H := H) hx hy
 rw [bits8, bits8] at h
 have e : IntKind.u8.wrap ((a.toBitVec ||| b.toBitVec : BitVec 8).toNat : Int) = ((a ||| b).toNat : Int) := wu8 (a ||| b)
 change Ok P _ L M H (Value.int .u8 (IntKind.u8.wrap ((a.toBitVec ||| b.toBitVec : BitVec 8).toNat : Int))) at h
 rw [e] at h
 exact h
theorem Ok.andBB (hx : ev L x = some (bv a)) (hy : ev L y = some (bv b)) : Ok P ⟨d, .binOp .and t x y t', ty, pos, af, g⟩ L M H (bv (a &&& b)) := by
 have h := Ok.and (P := P) (d := d) (t := t) (t' := t') (ty := ty) (pos := pos) (af := af) (g := g) (M := M) (H := H) hx hy
 rw [bits8, bits8] at h
 have e : IntKind.u8.wrap ((a.toBitVec &&& b.toBitVec : BitVec 8).toNat : Int) = ((a &&& b).toNat : Int) := wu8 (a &&& b)
 change Ok P _ L M H (Value.int .u8 (IntKind.u8.wrap ((a.toBitVec &&& b.toBitVec : BitVec 8).toNat : Int))) at h
 rw [e] at h
 exact h
theorem Ok.convBU {s : TypeId} {ds : TypeDesc} [hs : Und P s ds] [ht : Und P t (.int .u64)] (hx : ev L x = some (bv a)) : Ok P ⟨d, .convert s t x, ty, pos, af, g⟩ L M H (.int .u64 (a.toNat : Int)) := by
 have := a.toNat_lt
 exact Ok.convB hx (wu64 (by omega) (by omega))
theorem Ok.convBI {s : TypeId} {ds : TypeDesc} [hs : Und P s ds] [ht : Und P t (.int .i64)] (hx : ev L x = some (bv a)) : Ok P ⟨d, .convert s t x, ty, pos, af, g⟩ L M H (.int .i64 (a.toNat : Int)) := by
 have := a.toNat_lt
 exact Ok.convB hx (w64 (by omega) (by omega))
theorem or128 : ∀ n, n < 256 → n ||| 128 = n % 128 + 128 := by decide +kernel
theorem and127 : ∀ n, n < 256 → n &&& 127 = n % 128 := by decide +kernel
theorem or128_toNat (a : UInt8) : (a ||| 128).toNat = a.toNat % 128 + 128 := by
 rw [UInt8.toNat_or]
 exact or128 _ a.toNat_lt
theorem and127_toNat (a : UInt8) : (a &&& 127).toNat = a.toNat % 128 := by
 rw [UInt8.toNat_and]
 exact and127 _ a.toNat_lt
end
end Go.Sx
end
section
namespace Go.Sx
open Go.RowKit
variable {P : Program} {r : Option Nat} {n : Nat} {D : List Deferred} {L L' : Sl} {M : Mem} {H : Hp} {Q : Post}
inductive PT where
 | nil
 | free (i : Nat) (t : PT)
 | one (i : Nat) (t : PT)
 | alt (i j : Nat) (t u : PT)
 | alt3 (i j k : Nat) (t u v : PT)
def PT.fuel : PT → Nat
 | .nil => 0
 | .free _ t => t.fuel + 1
 | .one _ t => t.fuel + 1
 | .alt _ _ t _ => t.fuel + 1
 | .alt3 _ _ _ t _ _ => t.fuel + 1
def planS (ops : Array Oper) (A : List Nat) (lA : Array Bool) : PT → Array Bool → Bool
 | .nil, listed => decide (listed = lA)
 | .free i t, listed => (Region.ready .any ops listed).contains i && Region.free .any ops listed i && A.contains i && Nat.ble ((A.filter fun j => !(listed.getD j true) && !(Nat.beq j i)).length) t.fuel && planS ops A lA t (listed.setIfInBounds i true)
 | .one i t, listed => decide (Region.ready .any ops listed = [i]) && planS ops A lA t (listed.setIfInBounds i true)
 | .alt i j t u, listed => decide (Region.ready .any ops listed = [i, j]) && Nat.beq t.fuel u.fuel && planS ops A lA t (listed.setIfInBounds i true) && planS ops A lA u (listed.setIfInBounds j true)
 | .alt3 i j k t u v, listed => decide (Region.ready .any ops listed = [i, j, k]) && Nat.beq t.fuel u.fuel && Nat.beq t.fuel v.fuel && planS ops A lA t (listed.setIfInBounds i true) && planS ops A lA u (listed.setIfInBounds j true) && planS ops A lA v (listed.setIfInBounds k true)
def planT (ops : Array Oper) : PT → Array Bool → Bool
 | .nil, listed => (Region.ready .any ops listed).isEmpty
 | .free i t, listed => (Region.ready .any ops listed).contains i && Region.free .any ops listed i && planT ops t (listed.setIfInBounds i true)
 | .one i t, listed => decide (Region.ready .any ops listed = [i]) && planT ops t (listed.setIfInBounds i true)
 | .alt i j t u, listed => decide (Region.ready .any ops listed = [i, j]) && Nat.beq t.fuel u.fuel && planT ops t (listed.setIfInBounds i true) && planT ops u (listed.setIfInBounds j true)
 | .alt3 i j k t u v, listed => decide (Region.ready .any ops listed = [i, j, k]) && Nat.beq t.fuel u.fuel && Nat.beq t.fuel v.fuel && planT ops t (listed.setIfInBounds i true) && planT ops u (listed.setIfInBounds j true) && planT ops v (listed.setIfInBounds k true)
def RT (P : Program) (r : Option Nat) (n : Nat) (l : List Oper) (t : PT) (Q : Post) (D : List Deferred) (L : Sl) (M0 M : Mem) (Hs Hx : Hp) : Prop :=
 ∀ (listed : Array Bool), Region.noSelect l.toArray = true → NoDefer l.toArray → NoPanic Q → planT l.toArray t listed = true → M0.le M → ∀ a, Fr n D L a → AnyH r P l.toArray M0 Hs Q t.fuel listed a M Hx
theorem C.regionT {id : Nat} {l : List Oper} (t : PT) (Hs Hx : Hp) (hm : P.follows .mixedOrders = true) (hH : Arr H (Hs ++ Hx)) (hQ : NoPanic Q) (hB : (Region.noSelect l.toArray && noDeferB l && planT l.toArray t (Array.replicate l.length false) && Nat.beq t.fuel l.length) = true)
  (h : RT P r n l t Q D L M M Hs Hx) : C P r n (.region id l.toArray true) Q D L M H := by
 intro a w hf hh
 simp only [Bool.and_eq_true] at hB
 obtain ⟨⟨⟨h1, h2⟩, h3⟩, h4⟩ := hB
 refine wpIn_region_any hm (AnyH.any (M0 := M) (Hs := Hs) _ _ _ M Hx _ ((hH.heap hh).drawn _) ?_)
 have := h (Array.replicate l.length false) h1 (NoDefer.of h2) hQ h3 (Mem.le_refl M) a hf
 rw [Nat.eq_of_beq_eq_true h4] at this
 simpa using this
section
variable {d : Option Tmp} {op : Op} {ty : TypeId} {pos : String} {af : Array Edge} {g : Option (Nat × Bool)} {v : Value} {l : List Oper} {t u : PT} {i j k : Nat} {M0 : Mem} {Hs Hx : Hp}
theorem RT.nil (h : Fin n .normal Q D L M (Hs ++ Hx)) : RT P r n l .nil Q D L M0 M Hs Hx :=
 fun _ _ _ _ hp hM a hf => ⟨hM, by simpa [planT] using hp, fun w hh => h a w hf hh⟩
theorem RT.weak (hs : sub L' L) (h : RT P r n l t Q D L' M0 M Hs Hx) : RT P r n l t Q D L M0 M Hs Hx :=
 fun listed h1 h2 h3 h4 h5 a hf => h listed h1 h2 h3 h4 h5 a (hf.weak hs)
theorem RT.step_ (hi : l[i]? = some ⟨d, op, ty, pos, af, g⟩) (hY : ∀ (a : Act), Fr n D L a → Yc P l.toArray M0 Hs ⟨d, op, ty, pos, af, g⟩ v a) (hd : dok n d = true)
  (k : RT P r n l t Q D (bnd d v L) M0 M Hs Hx) : RT P r n l (.free i t) Q D L M0 M Hs Hx := by
 intro listed hS hN hQ hp hM a hf
 have h0 : l.toArray[i]? = some ⟨d, op, ty, pos, af, g⟩ := by simpa using hi
 simp only [planT, Bool.and_eq_true] at hp
 obtain ⟨⟨p1, p2⟩, p3⟩ := hp
 exact AnyH.first h0 (Region.noSelect_spec hS) hN hQ t.fuel listed a M Hx (Region.free_spec h0 p2) (by simpa using p1) (hY a hf) (k _ hS hN hQ p3 hM _ (hf.put d hd v))
theorem RT.step (hi : l[i]? = some ⟨d, op, ty, pos, af, none⟩) (hok : ∀ M' Hx', M0.le M' → Ok P ⟨d, op, ty, pos, af, none⟩ L M' (Hs ++ Hx') v) (hd : dok n d = true)
  (k : RT P r n l t Q D (bnd d v L) M0 M Hs Hx) : RT P r n l (.free i t) Q D L M0 M Hs Hx :=
 RT.step_ hi (fun _ hf => .inl ⟨by simp [Region.wanted], fun M' Hx' w hM' hh' => (hok M' Hx' hM').qr hf hh'⟩) hd k
theorem RT.stepT {want : Bool} {dj : Tmp} (hi : l[i]? = some ⟨d, op, ty, pos, af, some (j, want)⟩) (hdj : (l.map (·.dst))[j]? = some (some dj)) (hb : lk L dj = some (.bool want)) (hlt : Nat.ble (dj + 1) n = true) (hok : ∀ M' Hx', M0.le M' → Ok P ⟨d, op, ty, pos, af, some (j, want)⟩ L M' (Hs ++ Hx') v) (hd : dok n d = true)
  (k : RT P r n l t Q D (bnd d v L) M0 M Hs Hx) : RT P r n l (.free i t) Q D L M0 M Hs Hx :=
 RT.step_ hi (fun _ hf => .inl ⟨by rw [wanted_guard hf (OpsOf.self l) hdj hb hlt]; simp, fun M' Hx' w hM' hh' => (hok M' Hx' hM').qr hf hh'⟩) hd k
theorem RT.stepF {want b : Bool} {dj : Tmp} (hi : l[i]? = some ⟨d, op, ty, pos, af, some (j, want)⟩) (hdj : (l.map (·.dst))[j]? = some (some dj)) (hb : lk L dj = some (.bool b)) (hlt : Nat.ble (dj + 1) n = true) (hne : (b == want) = false) (hd : dok n d = true)
  (k : RT P r n l t Q D (bnd d undef L) M0 M Hs Hx) : RT P r n l (.free i t) Q D L M0 M Hs Hx :=
 RT.step_ hi (fun _ hf => .inr ⟨by rw [wanted_guard hf (OpsOf.self l) hdj hb hlt]; exact hne, rfl⟩) hd k
theorem RT.stepU {want : Bool} {dj : Tmp} (hi : l[i]? = some ⟨d, op, ty, pos, af, some (j, want)⟩) (hdj : (l.map (·.dst))[j]? = some (some dj)) (hb : lk L dj = some undef) (hlt : Nat.ble (dj + 1) n = true) (hd : dok n d = true)
  (k : RT P r n l t Q D (bnd d undef L) M0 M Hs Hx) : RT P r n l (.free i t) Q D L M0 M Hs Hx :=
 RT.step_ hi (fun _ hf => .inr ⟨wanted_undef hf (OpsOf.self l) hdj hb hlt, rfl⟩) hd k
theorem RT.callQ {f : Nat} {xs : List Operand} {vs : List Value} {ts : Array TypeId} (hi : l[i]? = some ⟨d, .call ⟨.value (.func f), xs.toArray, ts⟩, ty, pos, af, none⟩) (he : Ent P f) (hx : Evs L xs vs) (hd : dok n d = true) (hK : ∀ M' Hx', M0.le M' → K P f vs M' (Hs ++ Hx') (fun u M2 H2 => u = v ∧ M2 = M' ∧ H2 = Hs ++ Hx'))
  (k : RT P r n l t Q D (bnd d v L) M0 M Hs Hx) : RT P r n l (.free i t) Q D L M0 M Hs Hx :=
 RT.step_ hi (fun a hf => .inl ⟨by simp [Region.wanted], fun M' Hx' w hM' hh' => by
  rw [callArgs_run hf hx]
  refine ⟨rfl, (hK M' Hx' hM' w hh').mono ?_⟩
  rintro e w' ⟨u, M2, H2, rfl, ⟨rfl, rfl, rfl⟩, hh2⟩
  exact ⟨rfl, hh2⟩⟩) hd k
theorem RT.callQT {f : Nat} {xs : List Operand} {vs : List Value} {ts : Array TypeId} {want : Bool} {dj : Tmp} (hi : l[i]? = some ⟨d, .call ⟨.value (.func f), xs.toArray, ts⟩, ty, pos, af, some (j, want)⟩) (he : Ent P f) (hdj : (l.map (·.dst))[j]? = some (some dj)) (hb : lk L dj = some (.bool want)) (hlt : Nat.ble (dj + 1) n = true) (hx : Evs L xs vs) (hd : dok n d = true) (hK : ∀ M' Hx', M0.le M' → K P f vs M' (Hs ++ Hx') (fun u M2 H2 => u = v ∧ M2 = M' ∧ H2 = Hs ++ Hx'))
  (k : RT P r n l t Q D (bnd d v L) M0 M Hs Hx) : RT P r n l (.free i t) Q D L M0 M Hs Hx :=
 RT.step_ hi (fun a hf => .inl ⟨by rw [wanted_guard hf (OpsOf.self l) hdj hb hlt]; simp, fun M' Hx' w hM' hh' => by
  rw [callArgs_run hf hx]
  refine ⟨rfl, (hK M' Hx' hM' w hh').mono ?_⟩
  rintro e w' ⟨u, M2, H2, rfl, ⟨rfl, rfl, rfl⟩, hh2⟩
  exact ⟨rfl, hh2⟩⟩) hd k
def KT (P : Program) (r : Option Nat) (n : Nat) (l : List Oper) (t : PT) (Q : Post) (M0 : Mem) (Hs : Hp) (Kc : Act → World → Prop) : Prop :=
 ∀ D L' M1 M' E Hx', M0.le M1 → M1.le M' → RT P r n l t Q D L' M1 M' (Hs ++ E) Hx' → ∀ a w, Fr n D L' a → Heap w M' (Hs ++ (E ++ Hx')) → Kc a w
theorem Fin.kt {Kc : Act → World → Prop} (hk : KT P r n l t Q M0 Hs Kc) (hM : M0.le M) (ha : Arr H (Hs ++ Hx)) (h : RT P r n l t Q D L M0 M Hs Hx) : Fin n .normal (Exit.then Kc Q) D L M H :=
 fun a w hf hh => hk D L M0 M [] Hx (Mem.le_refl _) hM (by rw [List.append_nil]; exact h) a w hf (ha.heap hh)
theorem Fin.ktB {Kc : Act → World → Prop} {E : Hp} (hk : KT P r n l t Q M0 Hs Kc) (hM : M0.le M) (ha : Arr H (Hs ++ (E ++ Hx))) (h : RT P r n l t Q D L M M (Hs ++ E) Hx) : Fin n .normal (Exit.then Kc Q) D L M H :=
 fun a w hf hh => hk D L M M E Hx hM (Mem.le_refl _) h a w hf (ha.heap hh)
def OneT (P : Program) (r : Option Nat) (n : Nat) (l : List Oper) (i : Nat) (t : PT) (Q : Post) (D : List Deferred) (L : Sl) (M0 M : Mem) (Hs Hx : Hp) : Prop :=
 ∀ (listed : Array Bool), Region.noSelect l.toArray = true → NoDefer l.toArray → NoPanic Q → planT l.toArray t (listed.setIfInBounds i true) = true → M0.le M → ∀ a, Fr n D L a → ∀ w, Heap w M (Hs ++ Hx) →
  wpOpIn (F0 r) 0 P l.toArray Q i (fun a' w' => ∃ M' Hx', Heap w' M' (Hs ++ Hx') ∧ AnyH r P l.toArray M0 Hs Q t.fuel (listed.setIfInBounds i true) a' M' Hx') a w
theorem OneT.eff_ (hi : l[i]? = some ⟨d, op, ty, pos, af, g⟩) (hw : ∀ (a : Act), Fr n D L a → Region.wanted ⟨d, op, ty, pos, af, g⟩ (yielded l.toArray a.tmps) = true)
  (h : ∀ Kc, KT P r n l t Q M0 Hs Kc → ∀ ops, R false P r n ops [⟨d, op, ty, pos, af, none⟩] (Exit.then Kc Q) D L M (Hs ++ Hx)) : OneT P r n l i t Q D L M0 M Hs Hx := by
 intro listed hS hN hQ hp hM a hf w hh
 have h0 : l.toArray[i]? = some ⟨d, op, ty, pos, af, g⟩ := by simpa using hi
 have hk : KT P r n l t Q M0 Hs (fun a' w' => ∃ M' Hx', Heap w' M' (Hs ++ Hx') ∧ AnyH r P l.toArray M0 Hs Q t.fuel (listed.setIfInBounds i true) a' M' Hx') := by
  intro D' L' M1 M' E Hx' h1 hM' hRT a' w' hf' hh'
  exact ⟨M', E ++ Hx', hh', AnyH.base h1 _ _ _ _ _ (hRT _ hS hN hQ hp hM' a' hf')⟩
 have h1 := h _ hk #[] a w hf hh
 unfold wpListIn at h1
 rw [if_pos (by simp [Region.wanted])] at h1
 unfold wpOpIn
 simp only [h0]
 rw [hw a hf, if_pos rfl]
 exact (wpIn_post (fun _ _ _ h => h) (fun _ _ h => h) h1 : (⟨d, op, ty, pos, af, none⟩ : Oper).wpIn (F0 r) 0 P a w _ Q)
theorem OneT.eff (hi : l[i]? = some ⟨d, op, ty, pos, af, none⟩) (h : ∀ Kc, KT P r n l t Q M0 Hs Kc → ∀ ops, R false P r n ops [⟨d, op, ty, pos, af, none⟩] (Exit.then Kc Q) D L M (Hs ++ Hx)) : OneT P r n l i t Q D L M0 M Hs Hx :=
 OneT.eff_ hi (fun _ _ => by simp [Region.wanted]) h
theorem OneT.effT {want : Bool} {dj : Tmp} (hi : l[i]? = some ⟨d, op, ty, pos, af, some (j, want)⟩) (hdj : (l.map (·.dst))[j]? = some (some dj)) (hb : lk L dj = some (.bool want)) (hlt : Nat.ble (dj + 1) n = true)
  (h : ∀ Kc, KT P r n l t Q M0 Hs Kc → ∀ ops, R false P r n ops [⟨d, op, ty, pos, af, none⟩] (Exit.then Kc Q) D L M (Hs ++ Hx)) : OneT P r n l i t Q D L M0 M Hs Hx :=
 OneT.eff_ hi (fun _ hf => by rw [wanted_guard hf (OpsOf.self l) hdj hb hlt]; simp) h
theorem OneT.effF {want b : Bool} {dj : Tmp} (hi : l[i]? = some ⟨d, op, ty, pos, af, some (j, want)⟩) (hdj : (l.map (·.dst))[j]? = some (some dj)) (hb : lk L dj = some (.bool b)) (hlt : Nat.ble (dj + 1) n = true) (hne : (b == want) = false) (hd : dok n d = true)
  (k : RT P r n l t Q D (bnd d undef L) M0 M Hs Hx) : OneT P r n l i t Q D L M0 M Hs Hx := by
 intro listed hS hN hQ hp hM a hf w hh
 have h0 : l.toArray[i]? = some ⟨d, op, ty, pos, af, some (j, want)⟩ := by simpa using hi
 unfold wpOpIn
 simp only [h0]
 rw [wanted_guard hf (OpsOf.self l) hdj hb hlt, hne]
 simp only [Bool.false_eq_true, if_false]
 exact ⟨fun f _ => F0_fn _ f, M, Hx, hh, k _ hS hN hQ hp hM _ (hf.put d hd undef)⟩
theorem OneT.effU {want : Bool} {dj : Tmp} (hi : l[i]? = some ⟨d, op, ty, pos, af, some (j, want)⟩) (hdj : (l.map (·.dst))[j]? = some (some dj)) (hb : lk L dj = some undef) (hlt : Nat.ble (dj + 1) n = true) (hd : dok n d = true)
  (k : RT P r n l t Q D (bnd d undef L) M0 M Hs Hx) : OneT P r n l i t Q D L M0 M Hs Hx := by
 intro listed hS hN hQ hp hM a hf w hh
 have h0 : l.toArray[i]? = some ⟨d, op, ty, pos, af, some (j, want)⟩ := by simpa using hi
 unfold wpOpIn
 simp only [h0]
 rw [wanted_undef hf (OpsOf.self l) hdj hb hlt]
 simp only [Bool.false_eq_true, if_false]
 exact ⟨fun f _ => F0_fn _ f, M, Hx, hh, k _ hS hN hQ hp hM _ (hf.put d hd undef)⟩
theorem RT.one (h : OneT P r n l i t Q D L M0 M Hs Hx) : RT P r n l (.one i t) Q D L M0 M Hs Hx := by
 intro listed hS hN hQ hp hM a hf
 simp only [planT, Bool.and_eq_true, decide_eq_true_eq] at hp
 obtain ⟨p2, p3⟩ := hp
 refine ⟨hM, fun e => (by rw [p2] at e; cases e), fun q hq w hh => ?_⟩
 rw [p2, List.mem_singleton] at hq
 subst hq
 exact h listed hS hN hQ p3 hM a hf w hh
theorem RT.alt (h1 : OneT P r n l i t Q D L M0 M Hs Hx) (h2 : OneT P r n l j u Q D L M0 M Hs Hx) : RT P r n l (.alt i j t u) Q D L M0 M Hs Hx := by
 intro listed hS hN hQ hp hM a hf
 simp only [planT, Bool.and_eq_true, decide_eq_true_eq] at hp
 obtain ⟨⟨⟨p1, p2⟩, p3⟩, p4⟩ := hp
 have p2 := Nat.eq_of_beq_eq_true p2
 refine ⟨hM, fun e => (by rw [p1] at e; cases e), fun q hq w hh => ?_⟩
 rw [p1, List.mem_cons, List.mem_singleton] at hq
 rcases hq with rfl | rfl
 ·exact h1 listed hS hN hQ p3 hM a hf w hh
 ·rw [p2]
  exact h2 listed hS hN hQ p4 hM a hf w hh
theorem RT.alt3 {v : PT} (h1 : OneT P r n l i t Q D L M0 M Hs Hx) (h2 : OneT P r n l j u Q D L M0 M Hs Hx) (h3 : OneT P r n l k v Q D L M0 M Hs Hx) : RT P r n l (.alt3 i j k t u v) Q D L M0 M Hs Hx := by
 intro listed hS hN hQ hp hM a hf
 simp only [planT, Bool.and_eq_true, decide_eq_true_eq] at hp
 obtain ⟨⟨⟨⟨⟨p1, p2⟩, p2'⟩, p3⟩, p4⟩, p5⟩ := hp
 have p2 := Nat.eq_of_beq_eq_true p2
 have p2' := Nat.eq_of_beq_eq_true p2'
 refine ⟨hM, fun e => (by rw [p1] at e; cases e), fun q hq w hh => ?_⟩
 rw [p1, List.mem_cons, List.mem_cons, List.mem_singleton] at hq
 rcases hq with rfl | rfl | rfl
 ·exact h1 listed hS hN hQ p3 hM a hf w hh
 ·rw [p2]
  exact h2 listed hS hN hQ p4 hM a hf w hh
 ·rw [p2']
  exact h3 listed hS hN hQ p5 hM a hf w hh
end
theorem Ok.addQ {d : Option Tmp} {ty : TypeId} {pos : String} {af : Array Edge} {g : Option (Nat × Bool)} {t t' : TypeId} {x y : Operand} {k : IntKind} {p q : Int} (r : Int) (hx : ev L x = some (.int k p)) (hy : ev L y = some (.int k q)) (h : p + q = r) (hw : k.wrap r = r) : Ok P ⟨d, .binOp .add t x y t', ty, pos, af, g⟩ L M H (.int k r) := by
 subst h
 exact Ok.addB hx hy hw
theorem Ok.subQ {d : Option Tmp} {ty : TypeId} {pos : String} {af : Array Edge} {g : Option (Nat × Bool)} {t t' : TypeId} {x y : Operand} {k : IntKind} {p q : Int} (r : Int) (hx : ev L x = some (.int k p)) (hy : ev L y = some (.int k q)) (h : p - q = r) (hw : k.wrap r = r) : Ok P ⟨d, .binOp .sub t x y t', ty, pos, af, g⟩ L M H (.int k r) := by
 subst h
 exact Ok.subB hx hy hw
theorem K.permQ {f : Nat} {args : List Value} {v : Value} {H1 H2 : Hp} (hp : H2.Perm H1) (h : K P f args M H1 (fun v' M' H' => v' = v ∧ M' = M ∧ H' = H1)) : K P f args M H2 (fun v' M' H' => v' = v ∧ M' = M ∧ H' = H2) :=
 fun w hh => (h w (hh.perm hp)).mono fun _ _ ⟨u, M', H', h1, ⟨h2, h3, h4⟩, h5⟩ => ⟨u, M', H2, h1, ⟨h2, h3, rfl⟩, by subst h4; exact h5.perm hp.symm⟩
theorem perm_mid (a b c : Hp) : ((a ++ b) ++ c).Perm (b ++ (a ++ c)) := by
 rw [← List.append_assoc b a c]
 exact List.perm_append_comm.append_right c
def EndS (n : Nat) (D : List Deferred) (k : Sl → Mem → Hp → Prop) (M0 : Mem) (lA : Array Bool) (l : Array Bool) (a : Act) (w : World) : Prop := l = lA ∧ ∃ L' M' H', k L' M' H' ∧ M0.le M' ∧ Fr n D L' a ∧ Heap w M' H'
def RS (P : Program) (r : Option Nat) (n : Nat) (l : List Oper) (t : PT) (Q : Post) (D : List Deferred) (k : Sl → Mem → Hp → Prop) (L : Sl) (M0 M : Mem) (Hs Hx : Hp) : Prop :=
 ∀ (listed : Array Bool) (A : List Nat) (lF lA : Array Bool), Region.noSelect l.toArray = true → NoDefer l.toArray → NoPanic Q → Barrier l.toArray A lF → (∀ j, listed.getD j true = false → lF.getD j true = false) → planS l.toArray A lA t listed = true → M0.le M →
  ∀ a, Fr n D L a → AnyZ r P l.toArray M0 Hs Q (EndS n D k M0 lA) t.fuel listed a M Hx
def Later (P : Program) (r : Option Nat) (n : Nat) (l : List Oper) (t : PT) (Q : Post) (D : List Deferred) (L : Sl) (M : Mem) (H : Hp) : Prop := ∃ Hs Hx, Arr H (Hs ++ Hx) ∧ RT P r n l t Q D L M M Hs Hx
theorem C.regionS {id : Nat} {l : List Oper} (A : List Nat) (t u : PT) (Hs Hx : Hp) (hm : P.follows .mixedOrders = true) (hH : Arr H (Hs ++ Hx)) (hQ : NoPanic Q)
  (hB : (Region.noSelect l.toArray && noDeferB l && barrierB l.toArray A (Array.replicate l.length false) && planS l.toArray A (afterA A (Array.replicate l.length false)) t (Array.replicate l.length false) && planT l.toArray u (afterA A (Array.replicate l.length false)) && Nat.beq (u.fuel + t.fuel) l.length) = true)
  (h : RS P r n l t Q D (fun L' M' H' => Later P r n l u Q D L' M' H') L M M Hs Hx) : C P r n (.region id l.toArray true) Q D L M H := by
 intro a w hf hh
 simp only [Bool.and_eq_true] at hB
 obtain ⟨⟨⟨⟨⟨h1, h2⟩, h3⟩, h4⟩, h5⟩, h6⟩ := hB
 refine wpIn_region_any hm ?_
 have h9 : u.fuel + t.fuel = l.toArray.size := by simpa using Nat.eq_of_beq_eq_true h6
 have hAny := h (Array.replicate l.length false) A (Array.replicate l.length false) (afterA A (Array.replicate l.length false)) h1 (NoDefer.of h2) hQ (Barrier.of h3) (fun _ hj => hj) h4 (Mem.le_refl M) a hf
 obtain ⟨M', Hx', h10, h11⟩ := AnyZ.toH (g := u.fuel) (Mem.le_refl M) (fun listed a w ⟨hl, L', M', H', ⟨Hs2, Hx2, ha, hk⟩, hM', hf', hh'⟩ => by
  subst hl
  exact ⟨M', Hs2 ++ Hx2, ha.heap hh', AnyH.base (Hs := []) (E := Hs2) hM' _ _ _ _ _ (hk _ h1 (NoDefer.of h2) hQ h5 (Mem.le_refl M') _ hf')⟩) t.fuel _ a M Hx { w with drawn := w.drawn + 1 } ((hH.heap hh).drawn _) hAny
 rw [h9] at h11
 have := AnyH.any (r := r) _ _ _ M' Hx' _ h10 h11
 simpa using this
section
variable {d : Option Tmp} {op : Op} {ty : TypeId} {pos : String} {af : Array Edge} {g : Option (Nat × Bool)} {v : Value} {l : List Oper} {t u : PT} {i j q : Nat} {M0 : Mem} {Hs Hx : Hp} {k : Sl → Mem → Hp → Prop}
theorem RS.nil (h : k L M (Hs ++ Hx)) : RS P r n l .nil Q D k L M0 M Hs Hx := by
 intro listed A lF lA _ _ _ _ _ hp hM a hf
 exact ⟨hM, fun w hh => ⟨by simpa [planS] using hp, _, _, _, h, hM, hf, hh⟩⟩
theorem RS.later {Hs2 Hx2 : Hp} (ha : Arr (Hs ++ Hx) (Hs2 ++ Hx2)) (h : RT P r n l u Q D L M M Hs2 Hx2) : RS P r n l .nil Q D (fun L' M' H' => Later P r n l u Q D L' M' H') L M0 M Hs Hx := RS.nil ⟨Hs2, Hx2, ha, h⟩
theorem RS.step_ (hi : l[i]? = some ⟨d, op, ty, pos, af, g⟩) (hY : ∀ (a : Act), Fr n D L a → Yc P l.toArray M0 Hs ⟨d, op, ty, pos, af, g⟩ v a) (hd : dok n d = true)
  (h : RS P r n l t Q D k (bnd d v L) M0 M Hs Hx) : RS P r n l (.free i t) Q D k L M0 M Hs Hx := by
 intro listed A lF lA hS hN hQ hb hsub hp hM a hf
 have h0 : l.toArray[i]? = some ⟨d, op, ty, pos, af, g⟩ := by simpa using hi
 simp only [planS, Bool.and_eq_true] at hp
 obtain ⟨⟨⟨⟨p1, p2⟩, p3⟩, p4⟩, p5⟩ := hp
 refine AnyZ.first h0 (Region.noSelect_spec hS) hN hQ hb (by simpa using p3) t.fuel (A.filter fun j => !(listed.getD j true) && !(Nat.beq j i)) listed a M Hx hsub ?_ (Nat.le_of_ble_eq_true p4) (Region.free_spec h0 p2) (by simpa using p1) (hY a hf) (h _ A lF lA hS hN hQ hb (sub_set hsub) p5 hM _ (hf.put d hd v))
 intro x hx hun
 by_cases hxi : x = i
 ·exact .inl hxi
 ·refine .inr (List.mem_filter.2 ⟨hx, ?_⟩)
  have : Nat.beq x i = false := by
   cases hbq : Nat.beq x i with
   | false => rfl
   | true => exact absurd (Nat.eq_of_beq_eq_true hbq) hxi
  rw [hun, this]
  rfl
theorem RS.step (hi : l[i]? = some ⟨d, op, ty, pos, af, none⟩) (hok : ∀ M' Hx', M0.le M' → Ok P ⟨d, op, ty, pos, af, none⟩ L M' (Hs ++ Hx') v) (hd : dok n d = true)
  (h : RS P r n l t Q D k (bnd d v L) M0 M Hs Hx) : RS P r n l (.free i t) Q D k L M0 M Hs Hx :=
 RS.step_ hi (fun _ hf => .inl ⟨by simp [Region.wanted], fun M' Hx' w hM' hh' => (hok M' Hx' hM').qr hf hh'⟩) hd h
theorem RS.stepT {want : Bool} {dj : Tmp} (hi : l[i]? = some ⟨d, op, ty, pos, af, some (j, want)⟩) (hdj : (l.map (·.dst))[j]? = some (some dj)) (hb : lk L dj = some (.bool want)) (hlt : Nat.ble (dj + 1) n = true) (hok : ∀ M' Hx', M0.le M' → Ok P ⟨d, op, ty, pos, af, some (j, want)⟩ L M' (Hs ++ Hx') v) (hd : dok n d = true)
  (h : RS P r n l t Q D k (bnd d v L) M0 M Hs Hx) : RS P r n l (.free i t) Q D k L M0 M Hs Hx :=
 RS.step_ hi (fun _ hf => .inl ⟨by rw [wanted_guard hf (OpsOf.self l) hdj hb hlt]; simp, fun M' Hx' w hM' hh' => (hok M' Hx' hM').qr hf hh'⟩) hd h
theorem RS.stepU {want : Bool} {dj : Tmp} (hi : l[i]? = some ⟨d, op, ty, pos, af, some (j, want)⟩) (hdj : (l.map (·.dst))[j]? = some (some dj)) (hb : lk L dj = some undef) (hlt : Nat.ble (dj + 1) n = true) (hd : dok n d = true)
  (h : RS P r n l t Q D k (bnd d undef L) M0 M Hs Hx) : RS P r n l (.free i t) Q D k L M0 M Hs Hx :=
 RS.step_ hi (fun _ hf => .inr ⟨wanted_undef hf (OpsOf.self l) hdj hb hlt, rfl⟩) hd h
theorem RS.stepF {want b : Bool} {dj : Tmp} (hi : l[i]? = some ⟨d, op, ty, pos, af, some (j, want)⟩) (hdj : (l.map (·.dst))[j]? = some (some dj)) (hb : lk L dj = some (.bool b)) (hlt : Nat.ble (dj + 1) n = true) (hne : (b == want) = false) (hd : dok n d = true)
  (h : RS P r n l t Q D k (bnd d undef L) M0 M Hs Hx) : RS P r n l (.free i t) Q D k L M0 M Hs Hx :=
 RS.step_ hi (fun _ hf => .inr ⟨by rw [wanted_guard hf (OpsOf.self l) hdj hb hlt]; exact hne, rfl⟩) hd h
def KS (P : Program) (r : Option Nat) (n : Nat) (l : List Oper) (t : PT) (Q : Post) (D : List Deferred) (k : Sl → Mem → Hp → Prop) (M0 : Mem) (Hs : Hp) (Kc : Act → World → Prop) : Prop :=
 ∀ L' M' Hx', M0.le M' → RS P r n l t Q D k L' M0 M' Hs Hx' → ∀ a w, Fr n D L' a → Heap w M' (Hs ++ Hx') → Kc a w
theorem Fin.ks {Kc : Act → World → Prop} (hk : KS P r n l t Q D k M0 Hs Kc) (hM : M0.le M) (ha : Arr H (Hs ++ Hx)) (h : RS P r n l t Q D k L M0 M Hs Hx) : Fin n .normal (Exit.then Kc Q) D L M H :=
 fun a w hf hh => hk L M Hx hM h a w hf (ha.heap hh)
def OneS (P : Program) (r : Option Nat) (n : Nat) (l : List Oper) (i : Nat) (t : PT) (Q : Post) (D : List Deferred) (k : Sl → Mem → Hp → Prop) (L : Sl) (M0 M : Mem) (Hs Hx : Hp) : Prop :=
 ∀ (listed : Array Bool) (A : List Nat) (lF lA : Array Bool), Region.noSelect l.toArray = true → NoDefer l.toArray → NoPanic Q → Barrier l.toArray A lF → (∀ j, listed.getD j true = false → lF.getD j true = false) → planS l.toArray A lA t (listed.setIfInBounds i true) = true → M0.le M → ∀ a, Fr n D L a → ∀ w, Heap w M (Hs ++ Hx) →
  wpOpIn (F0 r) 0 P l.toArray Q i (fun a' w' => ∃ M' Hx', Heap w' M' (Hs ++ Hx') ∧ AnyZ r P l.toArray M0 Hs Q (EndS n D k M0 lA) t.fuel (listed.setIfInBounds i true) a' M' Hx') a w
theorem OneS.eff_ (hi : l[i]? = some ⟨d, op, ty, pos, af, g⟩) (hw : ∀ (a : Act), Fr n D L a → Region.wanted ⟨d, op, ty, pos, af, g⟩ (yielded l.toArray a.tmps) = true)
  (h : ∀ Kc, KS P r n l t Q D k M0 Hs Kc → ∀ ops, R false P r n ops [⟨d, op, ty, pos, af, none⟩] (Exit.then Kc Q) D L M (Hs ++ Hx)) : OneS P r n l i t Q D k L M0 M Hs Hx := by
 intro listed A lF lA hS hN hQ hb hsub hp hM a hf w hh
 have h0 : l.toArray[i]? = some ⟨d, op, ty, pos, af, g⟩ := by simpa using hi
 have hk : KS P r n l t Q D k M0 Hs (fun a' w' => ∃ M' Hx', Heap w' M' (Hs ++ Hx') ∧ AnyZ r P l.toArray M0 Hs Q (EndS n D k M0 lA) t.fuel (listed.setIfInBounds i true) a' M' Hx') := by
  intro L' M' Hx' hM' hRS a' w' hf' hh'
  exact ⟨M', Hx', hh', hRS _ A lF lA hS hN hQ hb (sub_set hsub) hp hM' a' hf'⟩
 have h1 := h _ hk #[] a w hf hh
 unfold wpListIn at h1
 rw [if_pos (by simp [Region.wanted])] at h1
 unfold wpOpIn
 simp only [h0]
 rw [hw a hf, if_pos rfl]
 exact (wpIn_post (fun _ _ _ h => h) (fun _ _ h => h) h1 : (⟨d, op, ty, pos, af, none⟩ : Oper).wpIn (F0 r) 0 P a w _ Q)
theorem OneS.eff (hi : l[i]? = some ⟨d, op, ty, pos, af, none⟩) (h : ∀ Kc, KS P r n l t Q D k M0 Hs Kc → ∀ ops, R false P r n ops [⟨d, op, ty, pos, af, none⟩] (Exit.then Kc Q) D L M (Hs ++ Hx)) : OneS P r n l i t Q D k L M0 M Hs Hx :=
 OneS.eff_ hi (fun _ _ => by simp [Region.wanted]) h
theorem OneS.effF {want b : Bool} {dj : Tmp} (hi : l[i]? = some ⟨d, op, ty, pos, af, some (j, want)⟩) (hdj : (l.map (·.dst))[j]? = some (some dj)) (hb : lk L dj = some (.bool b)) (hlt : Nat.ble (dj + 1) n = true) (hne : (b == want) = false) (hd : dok n d = true)
  (h : RS P r n l t Q D k (bnd d undef L) M0 M Hs Hx) : OneS P r n l i t Q D k L M0 M Hs Hx := by
 intro listed A lF lA hS hN hQ hbb hsub hp hM a hf w hh
 have h0 : l.toArray[i]? = some ⟨d, op, ty, pos, af, some (j, want)⟩ := by simpa using hi
 unfold wpOpIn
 simp only [h0]
 rw [wanted_guard hf (OpsOf.self l) hdj hb hlt, hne]
 simp only [Bool.false_eq_true, if_false]
 exact ⟨fun f _ => F0_fn _ f, M, Hx, hh, h _ A lF lA hS hN hQ hbb (sub_set hsub) hp hM _ (hf.put d hd undef)⟩
theorem OneS.effU {want : Bool} {dj : Tmp} (hi : l[i]? = some ⟨d, op, ty, pos, af, some (j, want)⟩) (hdj : (l.map (·.dst))[j]? = some (some dj)) (hb : lk L dj = some undef) (hlt : Nat.ble (dj + 1) n = true) (hd : dok n d = true)
  (h : RS P r n l t Q D k (bnd d undef L) M0 M Hs Hx) : OneS P r n l i t Q D k L M0 M Hs Hx := by
 intro listed A lF lA hS hN hQ hbb hsub hp hM a hf w hh
 have h0 : l.toArray[i]? = some ⟨d, op, ty, pos, af, some (j, want)⟩ := by simpa using hi
 unfold wpOpIn
 simp only [h0]
 rw [wanted_undef hf (OpsOf.self l) hdj hb hlt]
 simp only [Bool.false_eq_true, if_false]
 exact ⟨fun f _ => F0_fn _ f, M, Hx, hh, h _ A lF lA hS hN hQ hbb (sub_set hsub) hp hM _ (hf.put d hd undef)⟩
theorem RS.one (h : OneS P r n l i t Q D k L M0 M Hs Hx) : RS P r n l (.one i t) Q D k L M0 M Hs Hx := by
 intro listed A lF lA hS hN hQ hb hsub hp hM a hf
 simp only [planS, Bool.and_eq_true, decide_eq_true_eq] at hp
 obtain ⟨p2, p3⟩ := hp
 refine ⟨hM, fun e => (by rw [p2] at e; cases e), fun q hq w hh => ?_⟩
 rw [p2, List.mem_singleton] at hq
 subst hq
 exact h listed A lF lA hS hN hQ hb hsub p3 hM a hf w hh
theorem RS.alt (h1 : OneS P r n l i t Q D k L M0 M Hs Hx) (h2 : OneS P r n l j u Q D k L M0 M Hs Hx) : RS P r n l (.alt i j t u) Q D k L M0 M Hs Hx := by
 intro listed A lF lA hS hN hQ hb hsub hp hM a hf
 simp only [planS, Bool.and_eq_true, decide_eq_true_eq] at hp
 obtain ⟨⟨⟨p1, p2⟩, p3⟩, p4⟩ := hp
 have p2 := Nat.eq_of_beq_eq_true p2
 refine ⟨hM, fun e => (by rw [p1] at e; cases e), fun q hq w hh => ?_⟩
 rw [p1, List.mem_cons, List.mem_singleton] at hq
 rcases hq with rfl | rfl
 ·exact h1 listed A lF lA hS hN hQ hb hsub p3 hM a hf w hh
 ·rw [p2]
  exact h2 listed A lF lA hS hN hQ hb hsub p4 hM a hf w hh
theorem RS.alt3 {v : PT} (h1 : OneS P r n l i t Q D k L M0 M Hs Hx) (h2 : OneS P r n l j u Q D k L M0 M Hs Hx) (h3 : OneS P r n l q v Q D k L M0 M Hs Hx) : RS P r n l (.alt3 i j q t u v) Q D k L M0 M Hs Hx := by
 intro listed A lF lA hS hN hQ hb hsub hp hM a hf
 simp only [planS, Bool.and_eq_true, decide_eq_true_eq] at hp
 obtain ⟨⟨⟨⟨⟨p1, p2⟩, p2'⟩, p3⟩, p4⟩, p5⟩ := hp
 have p2 := Nat.eq_of_beq_eq_true p2
 have p2' := Nat.eq_of_beq_eq_true p2'
 refine ⟨hM, fun e => (by rw [p1] at e; cases e), fun q hq w hh => ?_⟩
 rw [p1, List.mem_cons, List.mem_cons, List.mem_singleton] at hq
 rcases hq with rfl | rfl | rfl
 ·exact h1 listed A lF lA hS hN hQ hb hsub p3 hM a hf w hh
 ·rw [p2]
  exact h2 listed A lF lA hS hN hQ hb hsub p4 hM a hf w hh
 ·rw [p2']
  exact h3 listed A lF lA hS hN hQ hb hsub p5 hM a hf w hh
end
theorem a_ot {p q : Prop} (h : q) (hs : Wr q → p := by
 (intro hq; first | ((apply RT.step; exact rfl; intro _ _ _; (exact a_ok); exact rfl); exact hq.1) | ((apply RT.stepT; exact rfl; exact rfl; exact rfl; exact rfl; intro _ _ _; (exact a_ok); exact rfl); exact hq.1) | ((apply RT.stepF; exact rfl; exact rfl; exact rfl; exact rfl; exact rfl; exact rfl); exact hq.1) | ((apply RT.stepU; exact rfl; exact rfl; exact rfl; exact rfl; exact rfl); exact hq.1) | ((apply RT.one; apply OneT.effF; exact rfl; exact rfl; exact rfl; exact rfl; exact rfl; exact rfl); exact hq.1) | ((apply RT.one; apply OneT.effU; exact rfl; exact rfl; exact rfl; exact rfl; exact rfl); exact hq.1))) : p := hs ⟨h⟩
theorem a_os {p q : Prop} (h : q) (hs : Wr q → p := by
 (intro hq; first | ((apply RS.step; exact rfl; intro _ _ _; (exact a_ok); exact rfl); exact hq.1) | ((apply RS.stepT; exact rfl; exact rfl; exact rfl; exact rfl; intro _ _ _; (exact a_ok); exact rfl); exact hq.1) | ((apply RS.stepF; exact rfl; exact rfl; exact rfl; exact rfl; exact rfl; exact rfl); exact hq.1) | ((apply RS.stepU; exact rfl; exact rfl; exact rfl; exact rfl; exact rfl); exact hq.1) | ((apply RS.one; apply OneS.effF; exact rfl; exact rfl; exact rfl; exact rfl; exact rfl; exact rfl); exact hq.1) | ((apply RS.one; apply OneS.effU; exact rfl; exact rfl; exact rfl; exact rfl; exact rfl); exact hq.1))) : p := hs ⟨h⟩
theorem a_cmp {p : Prop} (h : p := by
 (first | (apply Ok.ltTr; exact rfl; exact rfl; omega) | (apply Ok.ltF; exact rfl; exact rfl; omega) | (apply Ok.gtTr; exact rfl; exact rfl; omega) | (apply Ok.gtF; exact rfl; exact rfl; omega) | (apply Ok.geTr; exact rfl; exact rfl; omega) | (apply Ok.geF; exact rfl; exact rfl; omega) | (apply Ok.leTr; exact rfl; exact rfl; omega) | (apply Ok.leF; exact rfl; exact rfl; omega) | (apply Ok.neIT; exact rfl; exact rfl; omega) | (apply Ok.eqIF; exact rfl; exact rfl; omega))) : p := h
end Go.Sx
end
section
namespace Go.Sx
open Go.RowKit
variable {P : Program} {r : Option Nat} {n : Nat} {D : List Deferred} {L L' : Sl} {M : Mem} {H : Hp} {Q : Post}
section
variable {d : Option Tmp} {ty : TypeId} {pos : String} {af : Array Edge} {ops : Array Oper} {rest : List Oper}
variable {M : Mem} {H : Hp} {g : Option (Nat × Bool)} {t t' : TypeId} {x y : Operand}
theorem Ok.indexT {k : IntKind} {i : Int} {a : Txt} [hs : Und P t .string] (hx : ev L x = some (str a)) (hy : ev L y = some (.int k i)) (h0 : 0 ≤ i) (h1 : i.toNat < a.length) : Ok P ⟨d, .index t x y, ty, pos, af, g⟩ L M H (bv a[i.toNat]) := fun n D act w hf _ => by
 have hx' : ev L x = some (.string ⟨a.toArray⟩) := hx
 have h2 : i.toNat < (⟨a.toArray⟩ : ByteArray).size := by rw [str_size]; exact h1
 have e : (⟨a.toArray⟩ : ByteArray)[i.toNat]? = some a[i.toNat] := by
  rw [getElem?_pos (⟨a.toArray⟩ : ByteArray) i.toNat h2]
  rfl
 simp [execOp, hf.ev hx', hf.ev hy, Instr.index, asIntOf, run_underlying hs.h, h0, e, bv]
theorem str_extract (a : Txt) (i j : Nat) : (⟨a.toArray⟩ : ByteArray).extract i j = ⟨((a.take j).drop i).toArray⟩ := by
 apply ByteArray.ext
 rw [ByteArray.data_extract]
 apply Array.ext'
 rw [Array.toList_extract]
 simp [List.extract_eq_take_drop, List.drop_take]
theorem Ok.sliceTT {lo hi : Operand} {k k' : IntKind} {i j : Int} {a : Txt} [hs : Und P t .string] (hx : ev L x = some (str a)) (hlo : ev L lo = some (.int k i)) (hhi : ev L hi = some (.int k' j)) (h0 : 0 ≤ i) (h1 : i ≤ j) (h2 : j ≤ a.length) : Ok P ⟨d, .slice t x (some lo) (some hi) none, ty, pos, af, g⟩ L M H (str ((a.take j.toNat).drop i.toNat)) := fun n D act w hf _ => by
 have hx' : ev L x = some (.string ⟨a.toArray⟩) := hx
 have h3 : i ≤ (j.toNat : Nat) := by omega
 simp [execOp, Instr.sliceAt, Instr.slice, run_underlying hs.h, hf.ev hx', hf.ev hlo, hf.ev hhi, Instr.sliceBounds, bound_run _ _ _ _ h0 h3, bound_run _ _ _ _ (Int.le_trans h0 h1) h2, str_size, str_extract, str]
theorem Ok.andU15 {p : Nat} (hx : ev L x = some (.int .u64 (p : Int))) (hy : ev L y = some (.int .u64 15)) : Ok P ⟨d, .binOp .and t x y t', ty, pos, af, g⟩ L M H (.int .u64 ((p % 16 : Nat) : Int)) := by
 have h := Ok.and (P := P) (d := d) (t := t) (t' := t') (ty := ty) (pos := pos) (af := af) (g := g) (M := M) (H := H) hx hy
 have e : IntKind.u64.wrap (BitVec.ofInt IntKind.u64.bits (p : Int) &&& BitVec.ofInt IntKind.u64.bits (15 : Int)).toNat = ((p % 16 : Nat) : Int) := by
  show IntKind.u64.wrap (BitVec.ofInt 64 (p : Int) &&& BitVec.ofInt 64 ((15 : Nat) : Int)).toNat = _
  rw [BitVec.ofInt_natCast, BitVec.ofInt_natCast, BitVec.toNat_and, BitVec.toNat_ofNat, BitVec.toNat_ofNat]
  have h1 : (15 : Nat) % 2 ^ 64 = 2 ^ 4 - 1 := by decide
  rw [h1, Nat.and_two_pow_sub_one_eq_mod]
  have h2 : p % 2 ^ 64 % 2 ^ 4 = p % 16 := by omega
  rw [h2, wu64 (by omega) (by omega)]
 rwa [e] at h
theorem Ok.orUN_hi {p q : Nat} (n r : Nat) (hx : ev L x = some (.int .u64 (q : Int))) (hy : ev L y = some (.int .u64 (p : Int))) (hp : p < 2 ^ n) (hq : q = r * 2 ^ n) (hs : p + q ≤ 18446744073709551615) : Ok P ⟨d, .binOp .or t x y t', ty, pos, af, g⟩ L M H (.int .u64 ((q + p : Nat) : Int)) := by
 have h := Ok.orUN (P := P) (d := d) (t := t) (t' := t') (ty := ty) (pos := pos) (af := af) (g := g) (M := M) (H := H) hx hy (by omega) (by omega)
 have e : q ||| p = q + p := by
  rw [hq, Nat.mul_comm, ← Nat.two_pow_add_eq_or_of_lt hp]
 rwa [e] at h
end
end Go.Sx
end
section
namespace Go.Sx
open Go Go.Proofs Go.RowKit
attribute [local irreducible] C R Fin K Own OwnT Rd Pl Ok KOf RetOk OpsOf RP KP Res NoPanic KV
variable {M M' : Mem} {H H1 hrow : Hp}
structure En where
 kind : Int
 term : Int
 idx : Int
 data : List UInt8
 conf : Int
noncomputable instance : DecidableEq En := fun _ _ => Classical.propDecidable _
def ecells (e : En) (v : Value) : List Value := [.int .i64 e.kind, .int .u64 e.term, .int .u64 e.idx, v, .int .i64 e.conf]
def eV (e : En) (v : Value) : Value := .agg (ecells e v).toArray
def nmS (n : Int) : Prop := 1 ≤ n ∧ n ≤ 72057594037927935
instance (n : Int) : Decidable (nmS n) := by unfold nmS; exact inferInstance
def setS (n : Int) : Prop := 0 < n ∧ n ≤ 254 ∧ n % 2 = 0
instance (n : Int) : Decidable (setS n) := by unfold setS; exact inferInstance
def entS (e : En) : Prop := nmS e.term ∧ nmS e.idx ∧ (e.kind = 0 ∧ e.data.length = 0 ∧ e.conf = 0 ∨ e.kind = 1 ∧ 1 ≤ e.data.length ∧ e.data.length ≤ 128 ∧ e.conf = 0 ∨ e.kind = 2 ∧ e.data.length = 0 ∧ setS e.conf)
instance (e : En) : Decidable (entS e) := by unfold entS; exact inferInstance
theorem qnumber_K {n : Int} : K Tryz.prog 121 [.int .u64 n] M H fun v M' H' => v = .bool (decide (nmS n)) ∧ M' = M ∧ H' = H := by
 refine K.enterK Tryz.func121 rfl rfl rfl ?_
 intro Q hNP hQ
 (repeat' (first | (refine a_go ?_; intros) | refine a_sp (fun h => ?_) fun h => ?_ | fail))
 all_goals (refine Fin.rt ?_)
 all_goals (refine ⟨?_, rfl, rfl⟩; (first | apply bo_t | apply bo_f | apply bo_))
 all_goals unfold nmS
 all_goals omega
theorem qset_K {n : Int} : K Tryz.prog 120 [.int .i64 n] M H fun v M' H' => v = .bool (decide (setS n)) ∧ M' = M ∧ H' = H := by
 refine K.enterK Tryz.func120 rfl rfl rfl ?_
 intro Q hNP hQ
 (repeat' (first | refine a_mv ?_ | (apply R.step; (apply Ok.and1; exact rfl; exact rfl); exact rfl) | (refine a_go ?_; intros) | refine a_sp (fun h => ?_) fun h => ?_ | fail))
 all_goals (refine Fin.rt ?_)
 all_goals (refine ⟨?_, rfl, rfl⟩; (first | apply bo_t | apply bo_f | apply bo_))
 all_goals unfold setS
 all_goals omega
theorem rentry_K {e : En} {A : Option Addr} {cap : Nat} : K Tryz.prog 99 [eV e (.slice A e.data.length cap)] M H fun v M' H' => v = .bool (decide (entS e)) ∧ M' = M ∧ H' = H := by
 refine K.enterK Tryz.func99 rfl rfl rfl ?_
 intro Q hNP hQ
 (repeat' (first | (refine a_go ?_; intros) | refine a_sp (fun h => ?_) fun h => ?_ | fail))
 (apply C.regionO (ks := [1, 1, 1, 1, 1, 1, 1, 1, 1]) (is := [0, 1, 2, 3, 4, 5, 6, 7, 8]) (Hs := [_]); exact Mix.h; (first | exact Arr.all _ | (exact a_arr)); (exact a_np); (exact a_picked); kernel_rfl; intro _ e; subst e)
 (repeat' (first | refine a_op ?_ | (apply RP.callQ; (exact a_evs); exact rfl)))
 apply RP.nil
 (repeat' (first | (refine a_go ?_; intros) | refine a_sp (fun h => ?_) fun h => ?_ | fail | (apply R.call; (exact a_evs); exact rfl; (first | exact qnumber_K | exact qset_K); rintro _ _ _ ⟨rfl, e1_, e2_⟩; replace e1_ := e1_.symm; subst e1_; replace e2_ := e2_.symm; subst e2_)))
 all_goals (refine Fin.rA (H) ?_)
 all_goals (refine ⟨?_, rfl, rfl⟩; (first | apply bo_t | apply bo_f | apply bo_))
 all_goals (unfold entS; (try unfold nmS at *); (try unfold setS at *); omega)
def rowE (es : List En) (vs : List Value) : List (List Value) := List.zipWith ecells es vs
theorem rowE_len (es : List En) (vs : List Value) : ∀ c ∈ rowE es vs, c.length = 5 := by
 intro c hc
 obtain ⟨i, hi, rfl⟩ := List.mem_iff_getElem.1 hc
 have h : (rowE es vs)[i] = ecells (es[i]'(by unfold rowE at hi; rw [List.length_zipWith] at hi; omega)) (vs[i]'(by unfold rowE at hi; rw [List.length_zipWith] at hi; omega)) := List.getElem_zipWith
 rw [h]
 rfl
def EnL (M : Mem) (v : Value) (es : List En) : Prop := ∃ A cap vs, v = .slice A es.length cap ∧ es.length ≤ cap ∧ cap ≤ 9223372036854775807 ∧ Pl M A (rowE es vs).flatten ∧ PlV M vs (es.map En.data)
theorem EnL.mono {v : Value} {es : List En} (h : EnL M v es) (hM : M.le M') : EnL M' v es := by
 obtain ⟨A, cap, vs, h1, h2, h3, h4, h5⟩ := h
 exact ⟨A, cap, vs, h1, h2, h3, h4.mono hM, h5.mono hM⟩
theorem rowE_i {es : List En} {vs : List Value} {i : Nat} (hi : i < es.length) (hj : i < vs.length) : (rowE es vs)[i]? = some (ecells es[i] vs[i]) := by
 unfold rowE
 rw [List.getElem?_eq_getElem (by rw [List.length_zipWith]; omega), List.getElem_zipWith]
theorem en_at {A : Option Addr} {es : List En} {vs : List Value} (hp : Pl M A (rowE es vs).flatten) (hv : PlV M vs (es.map En.data)) {i : Nat} (hi : i < es.length) :
  ∃ b o c e fr Ai ci, A = some ⟨b, o, none⟩ ∧ M.at_ b = some (.cells c e fr) ∧ (∀ (q : Nat) u, [.int .i64 es[i].kind, .int .u64 es[i].term, .int .u64 es[i].idx, .slice Ai es[i].data.length ci, .int .i64 es[i].conf][q]? = some u → c[o + i * 5 + q]? = some u) ∧ vs[i]? = some (.slice Ai es[i].data.length ci) ∧ es[i].data.length ≤ ci ∧ ci ≤ 9223372036854775807 ∧ Pl M Ai (es[i].data.map bv) := by
 have hvl : vs.length = es.length := by rw [hv.1, List.length_map]
 have h1 : vs[i]? = some (vs[i]'(by omega)) := List.getElem?_eq_getElem _
 have h2 : (es.map En.data)[i]? = some es[i].data := by rw [List.getElem?_map, List.getElem?_eq_getElem hi]; rfl
 obtain ⟨Ai, ci, k1, k2, k3, k4⟩ := hv.2 i _ _ h1 h2
 have hrow := rowE_i (vs := vs) hi (by omega)
 rw [k1] at hrow h1
 have hcell : ∀ q u, (ecells es[i] (.slice Ai es[i].data.length ci))[q]? = some u → (rowE es vs).flatten[i * 5 + q]? = some u := fun q u hq => flat_get _ (rowE_len es vs) i q _ u hrow hq
 obtain ⟨b, o, c, e, fr, g1, g2, _⟩ := hp.get (hcell 0 _ rfl)
 refine ⟨b, o, c, e, fr, Ai, ci, g1, g2, fun q u hq => ?_, h1, k2, k3, k4⟩
 obtain ⟨b', o', c', e', fr', g1', g2', g3'⟩ := hp.get (hcell q u hq)
 rw [g1] at g1'
 cases g1'
 rw [g2] at g2'
 cases g2'
 rw [Nat.add_assoc]
 exact g3'
structure FoX where
 k : Nat
 kk : Int
 t : Int
theorem take_same {α : Type} {a b : List α} {i : Nat} (h : a.take i = b.take i) (ha : i < a.length) (hb : i < b.length) (he : a[i] = b[i]) : a.take (i + 1) = b.take (i + 1) := by
 rw [List.take_succ_eq_append_getElem ha, List.take_succ_eq_append_getElem hb, h, he]
theorem en_iff {e f : En} : e = f ↔ e.kind = f.kind ∧ e.term = f.term ∧ e.idx = f.idx ∧ e.data = f.data ∧ e.conf = f.conf := by
 cases e; cases f; simp
instance {a b : List UInt8} : BoolP (decide (a = b)) (a = b) := ⟨decide_eq_true_iff⟩
theorem sentry_K {e f : En} {A B : Option Addr} {ca cb : Nat} (ha : Pl M A (e.data.map bv)) (hb : Pl M B (f.data.map bv)) : K Tryz.prog 91 [eV e (.slice A e.data.length ca), eV f (.slice B f.data.length cb)] M H fun v M' H' => v = .bool (decide (e = f)) ∧ M' = M ∧ H' = H := by
 refine K.enterK Tryz.func91 rfl rfl rfl ?_
 intro Q hNP hQ
 (repeat' (first | refine a_mv ?_ | (apply R.step; (first | (apply Ok.toStr; exact rfl; exact ha.rd) | (apply Ok.toStr; exact rfl; exact hb.rd)); exact rfl) | (refine a_go ?_; intros) | refine a_sp (fun h => ?_) fun h => ?_ | fail))
 all_goals (refine Fin.rA (H) ?_)
 all_goals (refine ⟨?_, rfl, rfl⟩; (first | apply bo_t | apply bo_f | apply bo_))
 all_goals rw [en_iff]
 all_goals first
  | (intro h; obtain ⟨h1, h2, h3, h4, h5⟩ := h; contradiction)
  | (constructor <;> intro h; (exact ⟨by assumption, by assumption, by assumption, by assumption, h⟩); exact h.2.2.2.2)
theorem sents_K {va vb : Value} {la lb : List En} (ha : EnL M va la) (hb : EnL M vb lb) : K Tryz.prog 45 [va, vb] M H fun v M' H' => v = .bool (decide (la = lb)) ∧ M' = M ∧ H' = H := by
 obtain ⟨A, capA, vsA, rfl, a1, a2, a3, a4⟩ := ha
 obtain ⟨B, capB, vsB, rfl, b1, b2, b3, b4⟩ := hb
 refine K.enterK Tryz.func45 rfl rfl rfl ?_
 intro Q hNP hQ
 (repeat' (first | (refine a_ba ?_; intro ba) | (refine a_go ?_; intros) | refine a_sp (fun h => ?_) fun h => ?_ | fail))
 ·have h1 : (la.length : Int) ≠ lb.length := by assumption
  (refine Fin.rt ?_)
  exact ⟨by rw [decide_eq_false]; intro e; subst e; exact h1 rfl, rfl, rfl⟩
 have h1 : (la.length : Int) = lb.length := by assumption
 apply C.loop (fun x : FoX => (x.k : Int) = x.kk ∧ x.k ≤ la.length ∧ la.take x.k = lb.take x.k) (fun x => [(0, .slice A la.length capA), (1, .slice B lb.length capB), (5, .int .i64 x.kk)]) (fun _ => M) (fun _ => H) (fun x => la.length - x.k) ⟨0, 0, 0⟩
 ·exact ⟨rfl, Nat.zero_le _, rfl⟩
 ·(exact a_subs)
 ·exact rfl
 ·exact rfl
 rintro ⟨i, ii, _⟩ ⟨hii, hi, htk⟩
 dsimp only at hii hi htk ⊢
 subst hii
 (repeat' (first | (refine a_ba ?_; intro ba) | (refine a_go ?_; intros) | refine a_sp (fun h => ?_) fun h => ?_ | fail))
 ·have h2 : (i : Int) < (la.length : Int) := by assumption
  have hia : i < la.length := by omega
  have hib : i < lb.length := by omega
  obtain ⟨ba, oa, ca, ea, fa, Ai, ci, rfl, hMa, hca, _, _, _, hpa⟩ := en_at a3 a4 hia
  obtain ⟨bb, ob, cb, eb, fb, Bi, di, rfl, hMb, hcb, _, _, _, hpb⟩ := en_at b3 b4 hib
  (apply C.regionO (ks := [1, 1, 1, 1, 1, 1, 1, 1, 0, 1]) (is := [0, 1, 2, 3, 4, 5, 6, 7, 8, 9]) (Hs := []); exact Mix.h; (first | exact Arr.all _ | (exact a_arr)); (exact a_np); (exact a_picked); kernel_rfl; intro _ e; subst e)
  (repeat' (first | refine a_op ?_ | (apply RP.callQ; (exact a_evs); exact rfl)))
  (apply RP.eff; intro Kc hKc ops0)
  (apply R.call; (exact a_evs); exact rfl); exact sentry_K hpa hpb; rintro _ M H' ⟨rfl, rfl, rfl⟩
  (apply R.nil; apply Fin.kp hKc; exact Mem.le_refl _; exact Arr.all _)
  (repeat' (first | refine a_op ?_ | (apply RP.callQ; (exact a_evs); exact rfl)))
  apply RP.nil
  (repeat' (first | (refine a_ba ?_; intro ba) | (refine a_go ?_; intros) | refine a_sp (fun h => ?_) fun h => ?_ | fail))
  ·have h3 : ¬ la[i] = lb[i] := by assumption
   (refine Fin.rt ?_)
   exact ⟨by rw [decide_eq_false]; intro e; subst e; exact h3 rfl, rfl, rfl⟩
  have h3 : la[i] = lb[i] := by assumption
  refine Fin.again (⟨i + 1, (i : Int) + 1, 0⟩ : FoX) ⟨by dsimp only; omega, by dsimp only; omega, take_same htk hia hib h3⟩ (by dsimp only; omega) ?_ rfl rfl
  dsimp only
  (exact a_subs)
 ·have h2 : ¬ (i : Int) < (la.length : Int) := by assumption
  (refine Fin.rt ?_)
  refine ⟨by rw [decide_eq_true]; rw [List.take_of_length_le (by omega), List.take_of_length_le (by omega)] at htk; exact htk, rfl, rfl⟩
def fits (es : List En) : Prop := es.length ≤ 2513169434842 ∧ ∀ e ∈ es, e.data.length ≤ 140737488351232
structure Ow where
 e : En
 v : Value
 hp : Hp
def owE (xs : List Ow) : List En := xs.map Ow.e
def owV (xs : List Ow) : List Value := xs.map Ow.v
def owH (xs : List Ow) : Hp := (xs.map Ow.hp).flatten
def owD (xs : List Ow) : Prop := ∀ x ∈ xs, Own 5 1 x.v x.e.data.length (x.e.data.map bv) x.hp
theorem rowE_ow (xs : List Ow) : rowE (owE xs) (owV xs) = xs.map fun x => ecells x.e x.v := by
 unfold rowE owE owV
 rw [List.zipWith_map, List.zipWith_self]
def OwnEs (v : Value) (xs : List Ow) (hrow : Hp) : Prop := Own 33 5 v xs.length (rowE (owE xs) (owV xs)).flatten hrow ∧ owD xs
theorem OwnEs.nil : OwnEs (.slice none 0 0) [] [] := ⟨Own.nil _ 5, fun _ h => absurd h (List.not_mem_nil)⟩
theorem PlV.ofOw {xs : List Ow} (h : owD xs) (hi : In M (owH xs)) : PlV M (owV xs) ((owE xs).map En.data) := by
 refine ⟨by simp [owV, owE], fun i v l h1 h2 => ?_⟩
 unfold owV at h1
 unfold owE at h2
 rw [List.map_map] at h2
 rw [List.getElem?_map] at h1 h2
 cases hx : xs[i]? with
 | none => rw [hx] at h1; cases h1
 | some x =>
  rw [hx] at h1 h2
  cases h1
  cases h2
  have hm : x ∈ xs := List.mem_of_getElem? hx
  refine (h x hm).plB (hp := x.hp) fun p hp => hi p ?_
  unfold owH
  exact List.mem_flatten.2 ⟨x.hp, List.mem_map.2 ⟨x, hm, rfl⟩, hp⟩
theorem OwnEs.enL {v : Value} {xs : List Ow} {hrow : Hp} (h : OwnEs v xs hrow) (hi : In M (hrow ++ owH xs)) : EnL M v (owE xs) := by
 obtain ⟨A, cap, rfl, h1, h2⟩ := h.1.form
 have hl : (owE xs).length = xs.length := by simp [owE]
 rw [← hl]
 refine ⟨A, cap, owV xs, rfl, by omega, by unfold maxLen at h2; omega, ?_, PlV.ofOw h.2 hi.right⟩
 exact h.1.plIn hi.left
structure TwX where
 k : Nat
 kk : Int
 xs : List Ow
 v : Value
 hrow : Hp
theorem ow_snoc (xs : List Ow) (x : Ow) : owH (xs ++ [x]) = owH xs ++ x.hp := by simp [owH]
theorem owE_snoc (xs : List Ow) (x : Ow) : owE (xs ++ [x]) = owE xs ++ [x.e] := by simp [owE]
theorem OwnEs.snoc {v' : Value} {xs : List Ow} {x : Ow} {hrow' : Hp} (h : owD xs) (hx : Own 5 1 x.v x.e.data.length (x.e.data.map bv) x.hp) (ha : Own 33 5 v' (xs.length + 1) ((rowE (owE xs) (owV xs)).flatten ++ ecells x.e x.v) hrow') : OwnEs v' (xs ++ [x]) hrow' := by
 refine ⟨?_, fun y hy => ?_⟩
 ·rw [rowE_ow] at ha ⊢
  rw [List.length_append, List.map_append, List.flatten_append]
  simpa using ha
 ·rcases List.mem_append.1 hy with hy | hy
  ·exact h y hy
  ·simp only [List.mem_singleton] at hy
   subst hy
   exact hx
theorem copy_K {v : Value} {es : List En} (he : EnL M v es) (hf : fits es) : K Tryz.prog 56 [v] M H fun v M' H' => ∃ xs hrow, OwnEs v xs hrow ∧ owE xs = es ∧ M' = M ∧ H' = hrow ++ (owH xs ++ H) := by
 obtain ⟨A, cap, vs, rfl, h1, h2, h3, h4⟩ := he
 refine K.enterK Tryz.func56 rfl rfl rfl ?_
 intro Q hNP hQ
 have hfl := hf.1
 (repeat' (first | (refine a_go ?_; intros) | refine a_sp (fun h => ?_) fun h => ?_ | fail))
 apply C.loop (fun x : TwX => (x.k : Int) = x.kk ∧ x.k ≤ es.length ∧ OwnEs x.v x.xs x.hrow ∧ owE x.xs = es.take x.k)
  (fun x => [(0, .slice A es.length cap), (2, .slice none 0 0), (3, x.v), (4, .int .i64 x.kk)]) (fun _ => M) (fun x => x.hrow ++ (owH x.xs ++ H)) (fun x => es.length - x.k) ⟨0, 0, [], .slice none 0 0, []⟩
 ·exact ⟨rfl, Nat.zero_le _, OwnEs.nil, by simp [owE]⟩
 ·(exact a_subs)
 ·exact rfl
 ·exact rfl
 rintro ⟨k, kk, xs, v, hrow⟩ ⟨hkk, hk, how, hxs⟩
 dsimp only at hkk hk how hxs ⊢
 subst hkk
 have hxl : xs.length = k := by
  have := congrArg List.length hxs
  simp [owE] at this
  omega
 obtain ⟨AO, capO, rfl, hoc, hoc2⟩ := how.1.form
 (repeat' (first | (refine a_go ?_; intros) | refine a_sp (fun h => ?_) fun h => ?_ | fail))
 ·have hlt : (k : Int) < (es.length : Int) := by assumption
  have hka : k < es.length := by omega
  obtain ⟨b, o, c, e, fr, Ai, ci, rfl, hMb, hcell, _, _, _, hpi⟩ := en_at h3 h4 hka
  have hdl := hf.2 _ (List.getElem_mem hka)
  have htk : es.take (k + 1) = es.take k ++ [es[k]] := List.take_succ_eq_append_getElem hka
  generalize es[k] = x at hcell hpi hdl htk
  have c3 := hcell 3 _ rfl
  (repeat' (first | (refine a_go ?_; intros) | refine a_sp (fun h => ?_) fun h => ?_ | fail))
  (apply R.append; exact rfl; exact rfl; exact Own.empty; (exact a_tk); exact hpi.rd; (focus (simp; done)); (intro u hu; obtain ⟨_, _, rfl⟩ := List.mem_map.1 hu; rfl); omega; exact rfl; decide; decide; exact rfl; rintro v' hp' hown4)
  have hown' : Own 5 1 v' x.data.length (x.data.map bv) hp' := by simpa using hown4
  clear hown4
  obtain ⟨A4, c4, rfl, _, _⟩ := hown'.form
  (repeat' (first | (refine a_go ?_; intros) | refine a_sp (fun h => ?_) fun h => ?_ | fail))
  (apply R.append (news := ecells x (.slice A4 x.data.length c4)); exact rfl; exact rfl; exact how.1; (exact a_tk); exact Rd.at_ (l := ecells x (.slice A4 x.data.length c4)) (by (exact a_at)) (fun j u h => by rw [Nat.zero_add]; exact h); exact rfl; (intro u hu; simp only [ecells, List.mem_cons, List.not_mem_nil, or_false] at hu; rcases hu with rfl | rfl | rfl | rfl | rfl <;> rfl); omega; exact rfl; decide; decide; exact rfl; rintro ov1 hrow1 how1)
  apply R.arr (H2 := hrow1 ++ (owH xs ++ (hp' ++ H))) (by (exact a_arr))
  (repeat' (first | (refine a_go ?_; intros) | refine a_sp (fun h => ?_) fun h => ?_ | fail))
  refine Fin.again (⟨k + 1, (k : Int) + 1, xs ++ [⟨x, .slice A4 x.data.length c4, hp'⟩], ov1, hrow1⟩ : TwX) ⟨by dsimp only; omega, by dsimp only; omega, OwnEs.snoc how.2 hown' how1, by dsimp only; rw [owE_snoc, hxs, htk]⟩ (by dsimp only; omega) ?_ rfl (by dsimp only; rw [ow_snoc, List.append_assoc])
  dsimp only
  (exact a_subs)
 ·have hge : ¬ (k : Int) < (es.length : Int) := by assumption
  (refine Fin.rt ?_)
  rw [List.take_of_length_le (by omega)] at hxs
  exact ⟨xs, hrow, how, hxs, rfl, rfl⟩
def OwnP (M : Mem) (v : Value) (es : List En) (hrow : Hp) : Prop := ∃ vs, OwnT 33 5 v es.length (rowE es vs).flatten hrow ∧ PlV M vs (es.map En.data)
theorem OwnP.mono {v : Value} {es : List En} {hrow : Hp} (h : OwnP M v es hrow) (hM : M.le M') : OwnP M' v es hrow := by
 obtain ⟨vs, h1, h2⟩ := h
 exact ⟨vs, h1, h2.mono hM⟩
theorem OwnP.nil : OwnP M (.slice none 0 0) [] [] := ⟨[], OwnT.nil _ 5, PlV.nil⟩
theorem OwnEs.ownP {v : Value} {xs : List Ow} {hrow : Hp} (h : OwnEs v xs hrow) (hi : In M (owH xs)) : OwnP M v (owE xs) hrow := by
 refine ⟨owV xs, ?_, PlV.ofOw h.2 hi⟩
 have hl : (owE xs).length = xs.length := by simp [owE]
 rw [hl]
 exact h.1.tail
theorem OwnP.enL {v : Value} {es : List En} {hrow : Hp} (h : OwnP M v es hrow) (hi : In M hrow) : EnL M v es := by
 obtain ⟨vs, h1, h2⟩ := h
 obtain ⟨A, cap, rfl, h3, h4⟩ := h1.form
 exact ⟨A, cap, vs, rfl, h3, by unfold maxLen at h4; omega, h1.plIn hi, h2⟩
theorem copy_KF {v : Value} {es : List En} (he : EnL M v es) (hf : fits es) : K Tryz.prog 56 [v] M H fun v M' H' => EnL M' v es ∧ M.le M' ∧ H' = H := by
 refine (copy_K he hf).freezeT ?_
 rintro v M' H' ⟨xs, hrow, how, rfl, rfl, rfl⟩
 exact ⟨hrow ++ owH xs, H, by rw [List.append_assoc]; exact Arr.all _, fun M2 hM2 hin => ⟨how.enL hin, hM2, rfl⟩⟩
theorem copy_KP {v : Value} {es : List En} (he : EnL M v es) (hf : fits es) : K Tryz.prog 56 [v] M H fun v M' H' => ∃ hrow, OwnP M' v es hrow ∧ M.le M' ∧ H' = hrow ++ H := by
 refine (copy_K he hf).freezeT ?_
 rintro v M' H' ⟨xs, hrow, how, rfl, rfl, rfl⟩
 exact ⟨owH xs, hrow ++ H, by (exact a_arr), fun M2 hM2 hin => ⟨hrow, how.ownP hin, hM2, rfl⟩⟩
theorem PlV.drop {vs : List Value} {ls : List (List UInt8)} (h : PlV M vs ls) (k : Nat) : PlV M (vs.drop k) (ls.drop k) := by
 refine ⟨by simp [h.1], fun i v l h1 h2 => ?_⟩
 rw [List.getElem?_drop] at h1 h2
 exact h.2 _ v l h1 h2
theorem K.lendsR {f : Nat} {args : List Value} {P : Value → Prop} (ha : Arr H (hrow ++ H1)) (h : ∀ M2, M.le M2 → In M2 hrow → K Tryz.prog f args M2 H1 fun v M' H' => P v ∧ M' = M2 ∧ H' = H1) : K Tryz.prog f args M H fun v M' H' => P v ∧ M' = M ∧ H' = hrow ++ H1 :=
 K.lends ha fun M2 hM2 hin => (h M2 hM2 hin).mono fun _ _ _ h => ⟨h.2.1, h.1, rfl, by rw [h.2.2]⟩
theorem rowE_app {es fs : List En} {vs ws : List Value} (h : vs.length = es.length) : rowE (es ++ fs) (vs ++ ws) = rowE es vs ++ rowE fs ws := by
 unfold rowE
 rw [List.zipWith_append h.symm]
theorem PlV.app {vs ws : List Value} {ls ms : List (List UInt8)} (h : PlV M vs ls) (g : PlV M ws ms) : PlV M (vs ++ ws) (ls ++ ms) := by
 refine ⟨by rw [List.length_append, List.length_append, h.1, g.1], fun i v l h1 h2 => ?_⟩
 by_cases hi : i < vs.length
 ·rw [List.getElem?_append_left hi] at h1
  rw [List.getElem?_append_left (by rw [← h.1]; exact hi)] at h2
  exact h.2 i v l h1 h2
 ·rw [List.getElem?_append_right (by omega)] at h1
  rw [List.getElem?_append_right (by rw [← h.1]; omega), ← h.1] at h2
  exact g.2 _ v l h1 h2
theorem rowE_cells {es : List En} {vs : List Value} (hv : PlV M vs (es.map En.data)) : (rowE es vs).length = es.length ∧ (rowE es vs).flatten.length = es.length * 5 ∧ ∀ u ∈ (rowE es vs).flatten, u.oneCell' = true := by
 have hvl : vs.length = es.length := by rw [hv.1, List.length_map]
 have hl : (rowE es vs).length = es.length := by unfold rowE; rw [List.length_zipWith]; omega
 refine ⟨hl, by rw [rows_len (rowE_len es vs), hl], fun u hu => ?_⟩
 obtain ⟨c, hc, hu⟩ := List.mem_flatten.1 hu
 obtain ⟨i, hi, rfl⟩ := List.mem_iff_getElem.1 hc
 have hie : i < es.length := by omega
 have h := rowE_i (es := es) (vs := vs) hie (by omega)
 rw [List.getElem?_eq_getElem hi] at h
 injection h with h
 rw [h] at hu
 have h1 : vs[i]? = some (vs[i]'(by omega)) := List.getElem?_eq_getElem _
 have h2 : (es.map En.data)[i]? = some es[i].data := by rw [List.getElem?_map, List.getElem?_eq_getElem hie]; rfl
 obtain ⟨Ai, ci, k1, _, _, _⟩ := hv.2 i _ _ h1 h2
 rw [k1] at hu
 simp only [ecells, List.mem_cons, List.not_mem_nil, or_false] at hu
 rcases hu with rfl | rfl | rfl | rfl | rfl <;> rfl
theorem OwnT.joined {v' : Value} {es fs : List En} {vs ws : List Value} {hp' : Hp} (h : OwnT 33 5 v' (es.length + fs.length) ((rowE es vs).flatten ++ (rowE fs ws).flatten) hp') (hv : PlV M vs (es.map En.data)) (hw : PlV M ws (fs.map En.data)) : OwnP M v' (es ++ fs) hp' := by
 refine ⟨vs ++ ws, ?_, by rw [List.map_append]; exact hv.app hw⟩
 rw [List.length_append, rowE_app (by rw [hv.1, List.length_map]), List.flatten_append]
 exact h
theorem PlV.len {vs : List Value} {es : List En} (h : PlV M vs (es.map En.data)) : vs.length = es.length := by rw [h.1, List.length_map]
theorem rowE_drop (es : List En) (vs : List Value) (k : Nat) : (rowE es vs).flatten.drop (k * 5) = (rowE (es.drop k) (vs.drop k)).flatten := by
 rw [rows_drop (rowE_len es vs)]
 congr 1
 unfold rowE
 rw [List.drop_zipWith]
theorem rowE_take (es : List En) (vs : List Value) (k : Nat) : (rowE es vs).flatten.take (k * 5) = (rowE (es.take k) (vs.take k)).flatten := by
 rw [rows_take (rowE_len es vs)]
 congr 1
 unfold rowE
 rw [List.take_zipWith]
theorem OwnP.cut {A : Option Addr} {cap k : Nat} {es : List En} (h : OwnP M (.slice A es.length cap) es hrow) (hk : k ≤ es.length) : OwnP M (.slice (adv A k 5 cap) (es.length - k) (cap - k)) (es.drop k) hrow := by
 obtain ⟨vs, h1, h2⟩ := h
 refine ⟨vs.drop k, ?_, by rw [List.map_drop]; exact h2.drop k⟩
 have := h1.cut hk
 rw [rowE_drop] at this
 rw [List.length_drop]
 exact this
theorem OwnP.hiMax {A : Option Addr} {cap k : Nat} {es : List En} (h : OwnP M (.slice A es.length cap) es hrow) (hk : k ≤ es.length) : OwnP M (.slice A k k) (es.take k) hrow := by
 obtain ⟨vs, h1, h2⟩ := h
 refine ⟨vs.take k, ?_, by rw [List.map_take]; exact h2.take k⟩
 have := h1.hiMax hk
 rw [rowE_take] at this
 rw [List.length_take, Nat.min_eq_left hk]
 exact this
theorem OwnP.form {v : Value} {es : List En} (h : OwnP M v es hrow) : ∃ A cap, v = .slice A es.length cap ∧ es.length ≤ cap ∧ cap ≤ maxLen := by
 obtain ⟨vs, h1, h2⟩ := h
 exact h1.form
theorem OwnP.snocE {v' a : Value} {es : List En} {vs : List Value} {e : En} {hp' : Hp} (h : OwnT 33 5 v' (es.length + 1) ((rowE es vs).flatten ++ ecells e a) hp') (hv : PlV M vs (es.map En.data)) (ha : PlB M a e.data) : OwnP M v' (es ++ [e]) hp' := by
 refine ⟨vs ++ [a], ?_, by rw [List.map_append]; exact hv.snoc ha⟩
 rw [List.length_append, rowE_app (by rw [hv.1, List.length_map]), List.flatten_append]
 simpa [rowE] using h
theorem OwnT.lit1 {e bl : Nat} {u : Value} : OwnT e 1 (.slice (some ⟨bl, 0, none⟩) 1 1) 1 [u] [(bl, .cells #[u] e (0, 0))] :=
 by unfold OwnT; exact ⟨rfl, .inr ⟨bl, 0, 1, #[u], rfl, rfl, Nat.le_refl _, by unfold maxLen; omega, Nat.le_refl _, rfl⟩⟩
end Go.Sx
end
section
namespace Go.Sx
open Go Go.Proofs Go.RowKit
attribute [local irreducible] C R Fin K Own OwnT Rd Pl Ok KOf RetOk OpsOf RP KP Res NoPanic KV KE
variable {M M' : Mem} {H H1 H2 : Hp}
def numS (n : Nat) : Txt := if n < 128 then [UInt8.ofNat n] else (UInt8.ofNat n ||| 128) :: numS (n / 128)
termination_by n
decreasing_by omega
theorem numS_lo {n : Nat} (h : n < 128) : numS n = [UInt8.ofNat n] := by rw [numS, if_pos h]
theorem numS_hi {n : Nat} (h : ¬ n < 128) : numS n = (UInt8.ofNat n ||| 128) :: numS (n / 128) := by rw [numS, if_neg h]
theorem numS_len : ∀ (k n : Nat), n < 128 ^ (k + 1) → 1 ≤ (numS n).length ∧ (numS n).length ≤ k + 1
 | 0, n, h => by
  rw [numS_lo (by omega)]
  exact ⟨Nat.le_refl _, Nat.le_refl _⟩
 | k + 1, n, h => by
  by_cases hn : n < 128
  ·rw [numS_lo hn]
   exact ⟨Nat.le_refl _, by rw [List.length_singleton]; omega⟩
  ·rw [numS_hi hn, List.length_cons]
   have h1 : n / 128 < 128 ^ (k + 1) := by
    rw [Nat.div_lt_iff_lt_mul (by decide)]
    rw [Nat.pow_succ] at h
    exact h
   have h2 := numS_len k (n / 128) h1
   omega
theorem numS_len10 {n : Nat} (h : n ≤ 18446744073709551615) : 1 ≤ (numS n).length ∧ (numS n).length ≤ 10 := numS_len 9 n (by omega)
def wrB (v : Value) : Obj := .cells [v].toArray 165 (0, 0)
theorem newWriter_K : K Tryz.prog 100 [] M H fun v' M' H' => ∃ wb, v' = .pointer (some ⟨wb, 0, none⟩) ∧ M' = M ∧ H' = (wb, wrB (.slice none 0 0)) :: H := by
 refine K.enterK Tryz.func100 rfl rfl rfl ?_
 intro Q hNP hQ
 (repeat' (first | (refine a_go ?_; intros) | refine a_sp (fun h => ?_) fun h => ?_ | fail))
 (refine Fin.rt ?_)
 exact ⟨_, rfl, rfl, rfl⟩
theorem wbyte_K {wb : Nat} {v : Value} {bs : Txt} {b : UInt8} {hr : Hp} (ho : Own 5 1 v bs.length (bs.map bv) hr) (hl : bs.length ≤ 1099511627776) : K Tryz.prog 101 [.pointer (some ⟨wb, 0, none⟩), bv b] M ((wb, wrB v) :: (hr ++ H)) fun v' M' H' => v' = .tuple #[] ∧ M' = M ∧ ∃ v2 hr2, Own 5 1 v2 (bs ++ [b]).length ((bs ++ [b]).map bv) hr2 ∧ H' = (wb, wrB v2) :: (hr2 ++ H) := by
 refine K.enterK Tryz.func101 rfl rfl rfl ?_
 intro Q hNP hQ
 obtain ⟨A, c, rfl, _, _⟩ := ho.form
 unfold wrB at hQ ⊢
 (repeat' (first | (refine a_go ?_; intros) | refine a_sp (fun h => ?_) fun h => ?_ | fail))
 (apply R.append (news := [bv b]); exact rfl; exact rfl; exact ho; (exact a_tk); exact Rd.at_ (l := [bv b]) (by (exact a_at)) (fun j u h => by rw [Nat.zero_add]; exact h); exact rfl; (intro u hu; rw [List.mem_singleton] at hu; rw [hu]; rfl); omega; exact rfl; decide; decide; exact rfl; rintro v4 hp4 hown4)
 obtain ⟨A4, c4, rfl, _, _⟩ := hown4.form
 (repeat' (first | (refine a_go ?_; intros) | refine a_sp (fun h => ?_) fun h => ?_ | fail))
 (refine Fin.rA ((wb, .cells [.slice A4 (bs.length + 1) c4].toArray 165 (0, 0)) :: (hp4 ++ H)) ?_)
 refine ⟨rfl, rfl, _, hp4, ?_, rfl⟩
 rw [List.length_append, List.map_append]
 exact hown4
structure WnX where
 n : Nat
 v : Value
 bs : Txt
 hr : Hp
theorem wnum_K {wb : Nat} {v : Value} {bs : Txt} {n : Nat} {hr : Hp} (ho : Own 5 1 v bs.length (bs.map bv) hr) (hl : bs.length ≤ 1099511627776) (hn : n ≤ 18446744073709551615) : K Tryz.prog 102 [.pointer (some ⟨wb, 0, none⟩), .int .u64 (n : Int)] M ((wb, wrB v) :: (hr ++ H)) fun v' M' H' => v' = .tuple #[] ∧ M' = M ∧ ∃ v2 hr2, Own 5 1 v2 (bs ++ numS n).length ((bs ++ numS n).map bv) hr2 ∧ H' = (wb, wrB v2) :: (hr2 ++ H) := by
 refine K.enterK Tryz.func102 rfl rfl rfl ?_
 intro Q hNP hQ
 unfold wrB at hQ ⊢
 have hl10 := (numS_len10 hn).2
 (repeat' (first | (refine a_go ?_; intros) | refine a_sp (fun h => ?_) fun h => ?_ | fail))
 apply C.loop (fun y : WnX => y.n ≤ 18446744073709551615 ∧ y.bs ++ numS y.n = bs ++ numS n ∧ Own 5 1 y.v y.bs.length (y.bs.map bv) y.hr)
  (fun y => [(0, .pointer (some ⟨wb, 0, none⟩)), (1, .int .u64 (y.n : Int))]) (fun _ => M) (fun y => (wb, .cells [y.v].toArray 165 (0, 0)) :: (y.hr ++ H)) (fun y => y.n) ⟨n, v, bs, hr⟩
 ·exact ⟨hn, rfl, ho⟩
 ·(exact a_subs)
 ·exact rfl
 ·exact rfl
 rintro ⟨n2, v2, bs2, hr2⟩ ⟨h1, h2, h3⟩
 dsimp only at h1 h2 h3 ⊢
 obtain ⟨A2, c2, rfl, _, _⟩ := h3.form
 have hl2 : bs2.length ≤ bs.length + 10 := by
  have := congrArg List.length h2
  rw [List.length_append, List.length_append] at this
  omega
 (repeat' (first | refine a_mv ?_ | (apply R.step; (first | (apply Ok.convLI; exact rfl) | (apply Ok.orBB (b := 128); exact rfl; exact rfl) | (apply Ok.shrUN 7 128; exact rfl; exact rfl; decide; decide)); exact rfl) | (refine a_go ?_; intros) | refine a_sp (fun h => ?_) fun h => ?_ | fail))
 ·have hge : ¬ n2 < 128 := by
   have h : (128 : Int) ≤ (n2 : Int) := by assumption
   omega
  (apply R.append (news := [bv (UInt8.ofNat n2 ||| 128)]); exact rfl; exact rfl; exact h3; (exact a_tk); exact Rd.at_ (l := [bv (UInt8.ofNat n2 ||| 128)]) (by (exact a_at)) (fun j u h => by rw [Nat.zero_add]; exact h); exact rfl; (intro u hu; rw [List.mem_singleton] at hu; rw [hu]; rfl); omega; exact rfl; decide; decide; exact rfl; rintro v4 hp4 hown4)
  obtain ⟨A4, c4, rfl, _, _⟩ := hown4.form
  (repeat' (first | refine a_mv ?_ | (apply R.step; (apply Ok.shrUN 7 128; exact rfl; exact rfl; decide; decide); exact rfl) | (refine a_go ?_; intros) | refine a_sp (fun h => ?_) fun h => ?_ | fail))
  apply Fin.arr (H2 := (wb, .cells [.slice A4 (bs2.length + 1) c4].toArray 165 (0, 0)) :: (hp4 ++ H)) (by (exact a_arrs))
  refine Fin.again (⟨n2 / 128, .slice A4 (bs2.length + 1) c4, bs2 ++ [UInt8.ofNat n2 ||| 128], hp4⟩ : WnX) ⟨by dsimp only; omega, ?_, ?_⟩ (by dsimp only; omega) ?_ rfl rfl
  ·dsimp only
   rw [← h2, numS_hi hge, List.append_assoc]
   rfl
  ·dsimp only
   rw [List.length_append, List.map_append]
   exact hown4
  ·(exact a_subs)
 ·have hlo : n2 < 128 := by
   have h : ¬ (128 : Int) ≤ (n2 : Int) := by assumption
   omega
  (apply R.append (news := [bv (UInt8.ofNat n2)]); exact rfl; exact rfl; exact h3; (exact a_tk); exact Rd.at_ (l := [bv (UInt8.ofNat n2)]) (by (exact a_at)) (fun j u h => by rw [Nat.zero_add]; exact h); exact rfl; (intro u hu; rw [List.mem_singleton] at hu; rw [hu]; rfl); omega; exact rfl; decide; decide; exact rfl; rintro v4 hp4 hown4)
  obtain ⟨A4, c4, rfl, _, _⟩ := hown4.form
  (repeat' (first | (refine a_go ?_; intros) | refine a_sp (fun h => ?_) fun h => ?_ | fail))
  (refine Fin.rA ((wb, .cells [.slice A4 (bs2.length + 1) c4].toArray 165 (0, 0)) :: (hp4 ++ H)) ?_)
  refine ⟨rfl, rfl, _, hp4, ?_, rfl⟩
  rw [← h2, numS_lo hlo, List.length_append, List.map_append]
  exact hown4
theorem wbytes_K {wb : Nat} {v : Value} {bs : Txt} {hr : Hp} (ho : Own 5 1 v bs.length (bs.map bv) hr) (hl : bs.length ≤ 1099511627776) : K Tryz.prog 104 [.pointer (some ⟨wb, 0, none⟩)] M ((wb, wrB v) :: (hr ++ H)) fun v' M' H' => M' = M ∧ ∃ hr2, Own 5 1 v' bs.length (bs.map bv) hr2 ∧ H' = hr2 ++ ((wb, wrB v) :: (hr ++ H)) := by
 refine K.enterK Tryz.func104 rfl rfl rfl ?_
 intro Q hNP hQ
 obtain ⟨A, c, rfl, _, _⟩ := ho.form
 unfold wrB at hQ ⊢
 (repeat' (first | (refine a_go ?_; intros) | refine a_sp (fun h => ?_) fun h => ?_ | fail))
 (apply R.append (news := bs.map bv); exact rfl; exact rfl; exact Own.empty; (exact a_tk); exact Own.rd ho (by (exact a_tk)); (rw [List.length_map, Nat.mul_one]); exact bv_one _; omega; exact rfl; decide; decide; exact rfl; rintro v4 hp4 hown4)
 rw [List.nil_append, Nat.zero_add] at hown4
 (repeat' (first | (refine a_go ?_; intros) | refine a_sp (fun h => ?_) fun h => ?_ | fail))
 (refine Fin.rA (hp4 ++ ((wb, .cells [.slice A bs.length c].toArray 165 (0, 0)) :: (hr ++ H))) ?_)
 exact ⟨rfl, hp4, hown4, rfl⟩
def numGo (bs : Txt) (at_ : Nat) : Nat → Nat → Nat → Nat × Int × Nat
 | 0, _, _ => (0, 11, 0)
 | k + 1, i, n => match bs[at_ + i]? with
  | none => (0, 10, 0)
  | some x => if i = 9 ∧ 1 < x.toNat then (0, 11, 0)
   else if 128 ≤ x.toNat then numGo bs at_ k (i + 1) (n + x.toNat % 128 * 128 ^ i)
   else if x.toNat = 0 ∧ 0 < i then (0, 11, 0)
   else (n + x.toNat % 128 * 128 ^ i, 0, at_ + i + 1)
def numR (bs : Txt) (at_ : Nat) : Nat × Int × Nat := numGo bs at_ 10 0 0
structure NmL where
 i : Nat
 ii : Int
 n : Nat
theorem number_K {A : Option Addr} {c : Nat} {bs : Txt} {at_ : Nat} (hp : Pl M A (bs.map bv)) (hc : bs.length ≤ c) (hb : bs.length ≤ 1099511627776) (ha : at_ ≤ bs.length) : K Tryz.prog 135 [.slice A bs.length c, .int .i64 (at_ : Int)] M H fun v' M' H' => v' = .tuple #[.int .u64 ((numR bs at_).1 : Int), .int .i64 (numR bs at_).2.1, .int .i64 ((numR bs at_).2.2 : Int)] ∧ M' = M ∧ H' = H := by
 refine K.enterK Tryz.func135 rfl rfl rfl ?_
 intro Q hNP hQ
 (repeat' (first | (refine a_go ?_; intros) | refine a_sp (fun h => ?_) fun h => ?_ | fail))
 apply C.loop (fun y : NmL => (y.i : Int) = y.ii ∧ y.i < 10 ∧ y.n < 128 ^ y.i ∧ numR bs at_ = numGo bs at_ (10 - y.i) y.i y.n)
  (fun y => [(0, .slice A bs.length c), (1, .int .i64 (at_ : Int)), (7, .int .u64 (y.n : Int)), (8, .int .i64 y.ii)]) (fun _ => M) (fun _ => H) (fun y => 10 - y.i) ⟨0, 0, 0⟩
 ·exact ⟨rfl, by decide, by decide, rfl⟩
 ·(exact a_subs)
 ·exact rfl
 ·exact rfl
 rintro ⟨i, ii, n⟩ ⟨hii, hi, hn, hr⟩
 dsimp only at hii hi hn hr ⊢
 by_cases hix : at_ + i < bs.length
 ·obtain ⟨b0, o0, cc, e0, f0, rfl, hM, hcell⟩ := hp.get (i := at_ + i) (v := bv bs[at_ + i]) (by rw [List.getElem?_map, List.getElem?_eq_getElem hix]; rfl)
  rw [show 10 - i = (9 - i) + 1 by omega] at hr
  unfold numGo at hr
  rw [List.getElem?_eq_getElem hix] at hr
  dsimp only at hr
  generalize bs[at_ + i] = x at hcell hr
  have hx := x.toNat_lt
  have hpw : 2 ^ (7 * i) = 128 ^ i := by rw [Nat.pow_mul]
  obtain ⟨p, hp128⟩ : ∃ p, p = 128 ^ i := ⟨_, rfl⟩
  have hx7 : x.toNat % 128 * p ≤ 127 * p := Nat.mul_le_mul_right _ (by omega)
  have hsucc : 128 ^ (i + 1) = p * 128 := by rw [Nat.pow_succ, hp128]
  have hp9 : i ≤ 8 → p * 128 ≤ 9223372036854775808 := fun h => by
   rw [← hsucc]
   exact Nat.le_trans (Nat.pow_le_pow_right (by decide) (show i + 1 ≤ 9 by omega)) (by decide)
  have hp10 : i = 9 → p = 9223372036854775808 := fun h => by rw [hp128, h]
  rw [← hp128] at hn hr
  have hbig : ¬ (i = 9 ∧ 1 < x.toNat) → n + x.toNat % 128 * p ≤ 18446744073709551615 := fun h => by
   by_cases h9 : i = 9
   ·have h1 := hp10 h9
    have h2 : x.toNat % 128 ≤ 1 := by omega
    have h3 : x.toNat % 128 * p ≤ 1 * p := Nat.mul_le_mul_right _ h2
    omega
   ·have := hp9 (by omega)
    omega
  have e1 : o0 + ((at_ : Int) + ii).toNat * 1 = o0 + (at_ + i) := by omega
  by_cases hf9 : i = 9 ∧ 1 < x.toNat
  ·rw [if_pos hf9] at hr
   rw [hr] at hQ
   (repeat' (first | refine a_mv ?_ | (apply R.step; (apply Ok.loadP; exact rfl; exact rfl; exact hM; rw [e1]; exact hcell); exact rfl) | (refine a_go ?_; intros) | refine a_sp (fun h => ?_) fun h => ?_ | fail))
   any_goals (exfalso; omega)
   (refine Fin.rt ?_)
   exact ⟨rfl, rfl, rfl⟩
  ·rw [if_neg hf9] at hr
   have hbb := hbig hf9
   (repeat' (first | (refine a_g0 ?_; intros) | refine a_s3 (fun h => ?_) fun h => ?_ | fail))
   (apply C.seqK; intro _ _)
   (repeat' (first | (refine a_g0 ?_; intros) | refine a_s3 (fun h => ?_) fun h => ?_ | fail))
   (apply C.seqK; intro _ _)
   (repeat' (first | (refine a_g0 ?_; intros) | refine a_s3 (fun h => ?_) fun h => ?_ | fail))
   (apply C.condDec; exact rfl; (intro h; exfalso; omega); intro _)
   (repeat' (first | (refine a_g0 ?_; intros) | refine a_s3 (fun h => ?_) fun h => ?_ | fail))
   (apply R.step; (apply Ok.loadP; exact rfl; exact rfl; exact hM; rw [e1]; exact hcell); exact rfl)
   (repeat' (first | (refine a_g0 ?_; intros) | refine a_s3 (fun h => ?_) fun h => ?_ | fail))
   apply C.seqCut (X := Unit) (fun _ => True) (fun _ => [(0, .slice (some ⟨b0, o0, none⟩) bs.length c), (1, .int .i64 (at_ : Int)), (7, .int .u64 (n : Int)), (8, .int .i64 ii), (9, bv x)]) (fun _ => M) (fun _ => H)
   ·(repeat' (first | (refine a_go ?_; intros) | refine a_sp (fun h => ?_) fun h => ?_ | fail))
    any_goals (exfalso; omega)
    all_goals (refine Fin.join () trivial ?_ rfl rfl; (exact a_subs))
   ·intro _ _
    (repeat' (first | refine a_mv ?_ | (apply R.step; (first | (apply Ok.andBB (b := 127); exact rfl; exact rfl) | (apply Ok.convBU; exact rfl)); exact rfl) | (refine a_go ?_; intros) | refine a_sp (fun h => ?_) fun h => ?_ | fail))
    rw [and127_toNat]
    (apply R.step; (apply Ok.shlUN (7 * i) p; exact rfl; exact rfl; omega; omega; (rw [hp128]; exact hpw); omega); exact rfl)
    (apply R.step; (apply Ok.orUN_add (7 * i) (x.toNat % 128); exact rfl; exact rfl; (rw [hpw, ← hp128]; exact hn); (rw [hpw, ← hp128]); exact hbb); exact rfl)
    generalize hq : n + x.toNat % 128 * p = q at hr hbb
    have hok : ¬ 128 ≤ x.toNat → ¬ (x.toNat = 0 ∧ 0 < i) → ∀ v, v = Value.tuple #[.int .u64 (q : Int), .int .i64 0, .int .i64 ((at_ : Int) + ii + 1)] → v = .tuple #[.int .u64 ((numR bs at_).1 : Int), .int .i64 (numR bs at_).2.1, .int .i64 ((numR bs at_).2.2 : Int)] := fun h1 h2 v hv => by
     rw [hr, if_neg h1, if_neg h2, hv, ← hii]
     push_cast
     rfl
    (repeat' (first | (refine a_go ?_; intros) | refine a_sp (fun h => ?_) fun h => ?_ | fail))
    ·have h : (128 : Int) ≤ (x.toNat : Int) := by assumption
     have hi9 : i ≠ 9 := fun h9 => hf9 ⟨h9, by omega⟩
     refine Fin.again (⟨i + 1, ii + 1, q⟩ : NmL) ⟨by dsimp only; omega, by dsimp only; omega, by dsimp only; rw [hsucc]; omega, by dsimp only; rw [hr, if_pos (by omega), show 10 - (i + 1) = 9 - i by omega]⟩ (by dsimp only; omega) ?_ rfl rfl
     (exact a_subs)
    ·have h1 : ¬ (128 : Int) ≤ (x.toNat : Int) := by assumption
     have h2 : (x.toNat : Int) = 0 := by assumption
     have h3 : 0 < ii := by assumption
     (refine Fin.rt ?_)
     rw [hr, if_neg (by omega), if_pos ⟨by omega, by omega⟩]
     exact ⟨rfl, rfl, rfl⟩
    ·have h1 : ¬ (128 : Int) ≤ (x.toNat : Int) := by assumption
     have h3 : ¬ 0 < ii := by assumption
     (refine Fin.rt ?_)
     exact ⟨hok (by omega) (by omega) _ rfl, rfl, rfl⟩
    ·have h1 : ¬ (128 : Int) ≤ (x.toNat : Int) := by assumption
     have h3 : ¬ (x.toNat : Int) = 0 := by assumption
     (refine Fin.rt ?_)
     exact ⟨hok (by omega) (by omega) _ rfl, rfl, rfl⟩
 ·have hz : numR bs at_ = (0, 10, 0) := by
   rw [hr, show 10 - i = (9 - i) + 1 by omega]
   unfold numGo
   rw [List.getElem?_eq_none (by omega)]
  rw [hz] at hQ
  (repeat' (first | (refine a_go ?_; intros) | refine a_sp (fun h => ?_) fun h => ?_ | fail))
  any_goals (exfalso; omega)
  (refine Fin.rt ?_)
  exact ⟨rfl, rfl, rfl⟩
theorem numGo_ok {bs : Txt} {at_ : Nat} : ∀ (k i n : Nat), (numGo bs at_ k i n).2.1 = 0 → at_ < (numGo bs at_ k i n).2.2 ∧ (numGo bs at_ k i n).2.2 ≤ bs.length
 | 0, _, _, h => by cases h
 | k + 1, i, n, h => by
  unfold numGo at h ⊢
  cases hx : bs[at_ + i]? with
  | none => rw [hx] at h; cases h
  | some x =>
   rw [hx] at h
   dsimp only at h ⊢
   split at h
   ·cases h
   ·rename_i h1
    rw [if_neg h1]
    split at h
    ·rename_i h2
     rw [if_pos h2]
     exact numGo_ok k (i + 1) _ h
    ·rename_i h2
     rw [if_neg h2]
     split at h
     ·cases h
     ·rename_i h3
      rw [if_neg h3]
      have := (List.getElem?_eq_some_iff.1 hx).1
      show at_ < at_ + i + 1 ∧ at_ + i + 1 ≤ _
      omega
theorem numR_ok {bs : Txt} {at_ : Nat} (h : (numR bs at_).2.1 = 0) : at_ < (numR bs at_).2.2 ∧ (numR bs at_).2.2 ≤ bs.length := numGo_ok 10 0 0 h
def rdB (v : Value) (at_ : Nat) (bad : Int) : Obj := .cells [v, .int .i64 (at_ : Int), .int .i64 bad].toArray 178 (0, 0)
theorem newReader_K {va : Value} {bs : Txt} (hb : PlB M va bs) (hl : bs.length ≤ 1099511627776) : K Tryz.prog 111 [va] M H fun v' M' H' => ∃ rb v, v' = .pointer (some ⟨rb, 0, none⟩) ∧ M.le M' ∧ PlB M' v bs ∧ H' = (rb, rdB v 0 0) :: H := by
 refine K.enterK Tryz.func111 rfl rfl rfl ?_
 intro Q hNP hQ
 obtain ⟨A, c, rfl, h1, h2, h3⟩ := hb
 (repeat' (first | (refine a_go ?_; intros) | refine a_sp (fun h => ?_) fun h => ?_ | fail))
 (apply R.append (news := bs.map bv); exact rfl; exact rfl; exact Own.empty; (exact a_tk); exact Pl.rd h3; (rw [List.length_map, Nat.mul_one]); exact bv_one _; omega; exact rfl; decide; decide; exact rfl; rintro v4 hp4 hown4)
 rw [List.nil_append, Nat.zero_add] at hown4
 obtain ⟨A4, c4, rfl, _, _⟩ := hown4.form
 (apply R.ice (hp := hp4) (Arr.all _); intro M2 hM2 hin)
 have hb4 := hown4.plB hin
 (repeat' (first | (refine a_go ?_; intros) | refine a_sp (fun h => ?_) fun h => ?_ | fail))
 (refine Fin.rt ?_)
 exact ⟨_, _, rfl, hM2, hb4, rfl⟩
theorem fault_K {rb : Nat} {v : Value} {at_ : Nat} {bad e : Int} : K Tryz.prog 134 [.pointer (some ⟨rb, 0, none⟩), .int .i64 e] M ((rb, rdB v at_ bad) :: H) fun v' M' H' => v' = .tuple #[] ∧ M' = M ∧ H' = (rb, rdB v at_ (if bad = 0 then e else bad)) :: H := by
 refine K.enterK Tryz.func134 rfl rfl rfl ?_
 intro Q hNP hQ
 unfold rdB at hQ ⊢
 (repeat' (first | (refine a_go ?_; intros) | refine a_sp (fun h => ?_) fun h => ?_ | fail))
 ·have h : bad = 0 := by assumption
  rw [if_pos h] at hQ
  (refine Fin.rt ?_)
  exact ⟨rfl, rfl, rfl⟩
 ·have h : bad ≠ 0 := by assumption
  rw [if_neg h] at hQ
  (refine Fin.rt ?_)
  exact ⟨rfl, rfl, rfl⟩
def byteR (bs : Txt) (most : UInt8) (at_ : Nat) (bad : Int) : UInt8 × Nat × Int := if bad ≠ 0 then (0, at_, bad) else match bs[at_]? with
 | none => (0, at_, 10)
 | some x => if most.toNat < x.toNat then (0, at_, 12) else (x, at_ + 1, 0)
def numRd (bs : Txt) (most : Nat) (at_ : Nat) (bad : Int) : Nat × Nat × Int := if bad ≠ 0 then (0, at_, bad) else if (numR bs at_).2.1 = 0 ∧ most < (numR bs at_).1 then (0, at_, 12) else if (numR bs at_).2.1 ≠ 0 then (0, at_, (numR bs at_).2.1) else ((numR bs at_).1, (numR bs at_).2.2, 0)
def endR (bs : Txt) (at_ : Nat) (bad : Int) : Int := if bad = 0 ∧ at_ < bs.length then 11 else bad
theorem byteR_at {bs : Txt} {most : UInt8} {at_ : Nat} {bad : Int} (h : at_ ≤ bs.length) : (byteR bs most at_ bad).2.1 ≤ bs.length := by
 unfold byteR
 split
 ·exact h
 ·cases hx : bs[at_]? with
  | none => exact h
  | some x =>
   have := (List.getElem?_eq_some_iff.1 hx).1
   dsimp only
   split
   ·exact h
   ·exact this
theorem numRd_at {bs : Txt} {most at_ : Nat} {bad : Int} (h : at_ ≤ bs.length) : (numRd bs most at_ bad).2.1 ≤ bs.length := by
 unfold numRd
 split
 ·exact h
 ·split
  ·exact h
  ·split
   ·exact h
   ·rename_i h3
    exact (numR_ok (by simpa using h3)).2
theorem rbyte_K {rb : Nat} {v : Value} {bs : Txt} {at_ : Nat} {bad : Int} {most : UInt8} (hb : PlB M v bs) (ha : at_ ≤ bs.length) : K Tryz.prog 112 [.pointer (some ⟨rb, 0, none⟩), bv most] M ((rb, rdB v at_ bad) :: H) fun v' M' H' => v' = bv (byteR bs most at_ bad).1 ∧ M' = M ∧ H' = (rb, rdB v (byteR bs most at_ bad).2.1 (byteR bs most at_ bad).2.2) :: H := by
 refine K.enterK Tryz.func112 rfl rfl rfl ?_
 intro Q hNP hQ
 obtain ⟨A, c, rfl, h1, h2, h3⟩ := hb
 by_cases hbad : bad = 0
 ·subst hbad
  by_cases hix : at_ < bs.length
  ·obtain ⟨b0, o0, cc, e0, f0, rfl, hM, hcell⟩ := h3.get (i := at_) (v := bv bs[at_]) (by rw [List.getElem?_map, List.getElem?_eq_getElem hix]; rfl)
   have hbr : byteR bs most at_ 0 = if most.toNat < (bs[at_]).toNat then (0, at_, 12) else (bs[at_], at_ + 1, 0) := by
    unfold byteR
    rw [if_neg (by simp), List.getElem?_eq_getElem hix]
   generalize bs[at_] = x at hcell hbr
   have e1 : o0 + ((at_ : Nat) : Int).toNat * 1 = o0 + at_ := by omega
   have e2 : o0 + ((at_ : Int) + 1 - 1).toNat * 1 = o0 + at_ := by omega
   unfold rdB at hQ ⊢
   (repeat' (first | (refine a_go ?_; intros) | refine a_sp (fun h => ?_) fun h => ?_ | fail))
   (apply C.regionO (ks := [1, 1, 1, 1, 1, 1, 1, 1, 1, 1, 1]) (is := [0, 1, 2, 3, 4, 5, 6, 7, 8, 9, 10]) (Hs := [(rb, .cells [.slice (some ⟨b0, o0, none⟩) bs.length c, .int .i64 ↑at_, .int .i64 0].toArray 178 (0, 0))]); exact Mix.h; (first | exact Arr.all _ | (exact a_arr)); (exact a_np); (exact a_picked); kernel_rfl; intro _ e; subst e)
   (repeat' (first | refine a_op ?_ | (apply RP.callQ; (exact a_evs); exact rfl)))
   (first | apply RP.nil0 | apply RP.nil)
   (repeat' (first | (refine a_go ?_; intros) | refine a_sp (fun h => ?_) fun h => ?_ | fail))
   any_goals (exfalso; omega)
   (apply C.regionO (ks := [1, 1, 1, 1, 1, 1, 1, 1, 1, 1, 1, 1, 1]) (is := [0, 1, 2, 3, 4, 5, 6, 7, 8, 9, 10, 11, 12]) (Hs := [(rb, .cells [.slice (some ⟨b0, o0, none⟩) bs.length c, .int .i64 ↑at_, .int .i64 0].toArray 178 (0, 0))]); exact Mix.h; (first | exact Arr.all _ | (exact a_arr)); (exact a_np); (exact a_picked); kernel_rfl; intro _ e; subst e)
   (repeat' (first | (apply RP.step; intro _ _ _; (apply Ok.move; exact rfl); exact rfl) | (apply RP.step; intro _ _ hMx; (first | (apply Ok.indexAddr; exact rfl; exact rfl; omega; omega) | (apply Ok.loadP; exact rfl; exact rfl; exact le_at hMx hM; rw [e1]; exact hcell)); exact rfl) | refine a_op ?_ | (apply RP.callQ; (exact a_evs); exact rfl)))
   (first | apply RP.nil0 | apply RP.nil)
   by_cases hm : most.toNat < x.toNat
   ·rw [if_pos hm] at hbr
    rw [hbr] at hQ
    (repeat' (first | (refine a_go ?_; intros) | refine a_sp (fun h => ?_) fun h => ?_ | fail))
    any_goals (exfalso; omega)
    (apply R.call; (exact a_evs); exact rfl; exact fault_K (bad := 0) (e := 12); rintro _ M _ ⟨rfl, rfl, rfl⟩)
    (repeat' (first | (refine a_go ?_; intros) | refine a_sp (fun h => ?_) fun h => ?_ | fail))
    (refine Fin.rA ((rb, rdB (.slice (some ⟨b0, o0, none⟩) bs.length c) at_ 12) :: H) ?_)
    exact ⟨rfl, rfl, rfl⟩
   ·rw [if_neg hm] at hbr
    rw [hbr] at hQ
    (repeat' (first | (refine a_go ?_; intros) | refine a_sp (fun h => ?_) fun h => ?_ | fail))
    any_goals (exfalso; omega)
    (apply C.regionO (ks := [1, 1, 1, 1, 1, 1, 1, 1, 1, 1, 1, 1]) (is := [0, 1, 2, 3, 4, 5, 6, 7, 8, 9, 10, 11]) (Hs := [(rb, .cells [.slice (some ⟨b0, o0, none⟩) bs.length c, .int .i64 (↑at_ + 1), .int .i64 0].toArray 178 (0, 0))]); exact Mix.h; (first | exact Arr.all _ | (exact a_arr)); (exact a_np); (exact a_picked); kernel_rfl; intro _ e; subst e)
    (repeat' (first | (apply RP.step; intro _ _ _; (apply Ok.move; exact rfl); exact rfl) | (apply RP.step; intro _ _ hMx; (first | (apply Ok.indexAddr; exact rfl; exact rfl; omega; omega) | (apply Ok.loadP; exact rfl; exact rfl; exact le_at hMx hM; rw [e2]; exact hcell)); exact rfl) | refine a_op ?_ | (apply RP.callQ; (exact a_evs); exact rfl)))
    (first | apply RP.nil0 | apply RP.nil)
    (repeat' (first | (refine a_go ?_; intros) | refine a_sp (fun h => ?_) fun h => ?_ | fail))
    (refine Fin.rA ((rb, .cells [.slice (some ⟨b0, o0, none⟩) bs.length c, .int .i64 (↑at_ + 1), .int .i64 0].toArray 178 (0, 0)) :: H) ?_)
    exact ⟨rfl, rfl, rfl⟩
  ·have hbr : byteR bs most at_ 0 = (0, at_, 10) := by
    unfold byteR
    rw [if_neg (by simp), List.getElem?_eq_none (by omega)]
   rw [hbr] at hQ
   unfold rdB at hQ ⊢
   (repeat' (first | (refine a_go ?_; intros) | refine a_sp (fun h => ?_) fun h => ?_ | fail))
   (apply C.regionO (ks := [1, 1, 1, 1, 1, 1, 1, 1, 1, 1, 1]) (is := [0, 1, 2, 3, 4, 5, 6, 7, 8, 9, 10]) (Hs := [(rb, .cells [.slice A bs.length c, .int .i64 ↑at_, .int .i64 0].toArray 178 (0, 0))]); exact Mix.h; (first | exact Arr.all _ | (exact a_arr)); (exact a_np); (exact a_picked); kernel_rfl; intro _ e; subst e)
   (repeat' (first | refine a_op ?_ | (apply RP.callQ; (exact a_evs); exact rfl)))
   (first | apply RP.nil0 | apply RP.nil)
   (repeat' (first | (refine a_go ?_; intros) | refine a_sp (fun h => ?_) fun h => ?_ | fail))
   any_goals (exfalso; omega)
   (apply R.call; (exact a_evs); exact rfl; exact fault_K (bad := 0) (e := 10); rintro _ M _ ⟨rfl, rfl, rfl⟩)
   (repeat' (first | (refine a_go ?_; intros) | refine a_sp (fun h => ?_) fun h => ?_ | fail))
   (refine Fin.rA ((rb, rdB (.slice A bs.length c) at_ 10) :: H) ?_)
   exact ⟨rfl, rfl, rfl⟩
 ·have hbr : byteR bs most at_ bad = (0, at_, bad) := if_pos hbad
  rw [hbr] at hQ
  unfold rdB at hQ ⊢
  (repeat' (first | (refine a_go ?_; intros) | refine a_sp (fun h => ?_) fun h => ?_ | fail))
  any_goals (exfalso; omega)
  (refine Fin.rt ?_)
  exact ⟨rfl, rfl, rfl⟩
theorem rnum_K {rb : Nat} {v : Value} {bs : Txt} {at_ : Nat} {bad : Int} {most : Nat} (hb : PlB M v bs) (hl : bs.length ≤ 1099511627776) (ha : at_ ≤ bs.length) : K Tryz.prog 113 [.pointer (some ⟨rb, 0, none⟩), .int .u64 (most : Int)] M ((rb, rdB v at_ bad) :: H) fun v' M' H' => v' = .int .u64 ((numRd bs most at_ bad).1 : Int) ∧ M' = M ∧ H' = (rb, rdB v (numRd bs most at_ bad).2.1 (numRd bs most at_ bad).2.2) :: H := by
 refine K.enterK Tryz.func113 rfl rfl rfl ?_
 intro Q hNP hQ
 obtain ⟨A, c, rfl, h1, h2, h3⟩ := hb
 by_cases hbad : bad = 0
 ·subst hbad
  have hnr : numRd bs most at_ 0 = if (numR bs at_).2.1 = 0 ∧ most < (numR bs at_).1 then (0, at_, 12) else if (numR bs at_).2.1 ≠ 0 then (0, at_, (numR bs at_).2.1) else ((numR bs at_).1, (numR bs at_).2.2, 0) := if_neg (by simp)
  unfold rdB at hQ ⊢
  (repeat' (first | (refine a_go ?_; intros) | refine a_sp (fun h => ?_) fun h => ?_ | fail))
  (apply C.regionO (ks := [1, 1, 1, 1, 1, 1, 1, 1, 0, 1, 1, 1, 1, 1, 1, 1]) (is := [0, 1, 2, 3, 4, 5, 6, 7, 8, 9, 10, 11, 12, 13, 14, 15]) (Hs := [(rb, .cells [.slice A bs.length c, .int .i64 ↑at_, .int .i64 0].toArray 178 (0, 0))]); exact Mix.h; (first | exact Arr.all _ | (exact a_arr)); (exact a_np); (exact a_picked); kernel_rfl; intro _ e; subst e)
  (repeat' (first | refine a_op ?_ | (apply RP.callQ; (exact a_evs); exact rfl)))
  (apply RP.eff; intro Kc hKc ops0)
  (apply R.call; (exact a_evs); exact rfl; exact number_K (at_ := at_) h3 h1 hl ha; rintro _ M _ ⟨rfl, rfl, rfl⟩)
  (apply R.nil; apply Fin.kp hKc; exact Mem.le_refl _; exact Arr.all _)
  generalize numR bs at_ = z at hnr
  obtain ⟨n, e, bh⟩ := z
  dsimp only at hnr ⊢
  (repeat' (first | refine a_op ?_ | (apply RP.callQ; (exact a_evs); exact rfl)))
  (first | apply RP.nil0 | apply RP.nil)
  by_cases hc1 : e = 0 ∧ most < n
  ·rw [if_pos hc1] at hnr
   rw [hnr] at hQ
   (repeat' (first | (refine a_go ?_; intros) | refine a_sp (fun h => ?_) fun h => ?_ | fail))
   any_goals (exfalso; omega)
   (apply R.call; (exact a_evs); exact rfl; exact fault_K (bad := 0) (e := 12); rintro _ M _ ⟨rfl, rfl, rfl⟩)
   (repeat' (first | (refine a_go ?_; intros) | refine a_sp (fun h => ?_) fun h => ?_ | fail))
   (refine Fin.rA ((rb, rdB (.slice A bs.length c) at_ 12) :: H) ?_)
   exact ⟨rfl, rfl, rfl⟩
  ·rw [if_neg hc1] at hnr
   by_cases hc2 : e ≠ 0
   ·rw [if_pos hc2] at hnr
    rw [hnr] at hQ
    (repeat' (first | (refine a_go ?_; intros) | refine a_sp (fun h => ?_) fun h => ?_ | fail))
    any_goals (exfalso; omega)
    (apply R.call; (exact a_evs); exact rfl; exact fault_K (bad := 0) (e := e); rintro _ M _ ⟨rfl, rfl, rfl⟩)
    (repeat' (first | (refine a_go ?_; intros) | refine a_sp (fun h => ?_) fun h => ?_ | fail))
    (refine Fin.rA ((rb, rdB (.slice A bs.length c) at_ e) :: H) ?_)
    exact ⟨rfl, rfl, rfl⟩
   ·rw [if_neg hc2] at hnr
    rw [hnr] at hQ
    have he : e = 0 := by omega
    subst he
    (repeat' (first | (refine a_go ?_; intros) | refine a_sp (fun h => ?_) fun h => ?_ | fail))
    any_goals (exfalso; omega)
    (refine Fin.rA ((rb, rdB (.slice A bs.length c) bh 0) :: H) ?_)
    exact ⟨rfl, rfl, rfl⟩
 ·have hnr : numRd bs most at_ bad = (0, at_, bad) := if_pos hbad
  rw [hnr] at hQ
  unfold rdB at hQ ⊢
  (repeat' (first | (refine a_go ?_; intros) | refine a_sp (fun h => ?_) fun h => ?_ | fail))
  any_goals (exfalso; omega)
  (refine Fin.rt ?_)
  exact ⟨rfl, rfl, rfl⟩
theorem rend_K {rb : Nat} {v : Value} {bs : Txt} {at_ : Nat} {bad : Int} (hb : PlB M v bs) (hl : bs.length ≤ 1099511627776) : K Tryz.prog 115 [.pointer (some ⟨rb, 0, none⟩)] M ((rb, rdB v at_ bad) :: H) fun v' M' H' => v' = .int .i64 (endR bs at_ bad) ∧ M' = M ∧ H' = (rb, rdB v at_ bad) :: H := by
 refine K.enterK Tryz.func115 rfl rfl rfl ?_
 intro Q hNP hQ
 obtain ⟨A, c, rfl, h1, h2, h3⟩ := hb
 by_cases hbad : bad = 0
 ·subst hbad
  unfold rdB at hQ ⊢
  (repeat' (first | (refine a_go ?_; intros) | refine a_sp (fun h => ?_) fun h => ?_ | fail))
  (apply C.regionO (ks := [1, 1, 1, 1, 1, 1, 1, 1, 1, 1, 1, 1, 1, 1, 1, 1, 1]) (is := [0, 1, 2, 3, 4, 5, 6, 7, 8, 9, 10, 11, 12, 13, 14, 15, 16]) (Hs := [(rb, .cells [.slice A bs.length c, .int .i64 ↑at_, .int .i64 0].toArray 178 (0, 0))]); exact Mix.h; (first | exact Arr.all _ | (exact a_arr)); (exact a_np); (exact a_picked); kernel_rfl; intro _ e; subst e)
  (repeat' (first | refine a_op ?_ | (apply RP.callQ; (exact a_evs); exact rfl)))
  (first | apply RP.nil0 | apply RP.nil)
  (repeat' (first | (refine a_go ?_; intros) | refine a_sp (fun h => ?_) fun h => ?_ | fail))
  ·have h : (at_ : Int) < (bs.length : Int) := by assumption
   have he : endR bs at_ 0 = 11 := if_pos ⟨rfl, by omega⟩
   rw [he] at hQ
   (refine Fin.rA ((rb, rdB (.slice A bs.length c) at_ 0) :: H) ?_)
   exact ⟨rfl, rfl, rfl⟩
  ·have h : ¬ (at_ : Int) < (bs.length : Int) := by assumption
   have he : endR bs at_ 0 = 0 := if_neg (fun h2 => by have := h2.2; omega)
   rw [he] at hQ
   (refine Fin.rA ((rb, rdB (.slice A bs.length c) at_ 0) :: H) ?_)
   exact ⟨rfl, rfl, rfl⟩
 ·have he : endR bs at_ bad = bad := if_neg (fun h => hbad h.1)
  rw [he] at hQ
  unfold rdB at hQ ⊢
  (repeat' (first | (refine a_go ?_; intros) | refine a_sp (fun h => ?_) fun h => ?_ | fail))
  (apply C.regionO (ks := [1, 1, 1, 1, 1, 1, 1, 1, 1, 1, 1, 1, 1, 1, 1, 1, 1]) (is := [0, 1, 2, 3, 4, 5, 6, 7, 8, 9, 10, 11, 12, 13, 14, 15, 16]) (Hs := [(rb, .cells [.slice A bs.length c, .int .i64 ↑at_, .int .i64 bad].toArray 178 (0, 0))]); exact Mix.h; (first | exact Arr.all _ | (exact a_arr)); (exact a_np); (exact a_picked); kernel_rfl; intro _ e; subst e)
  (repeat' (first | (apply RP.step; intro _ _ _; (apply Ok.move; exact rfl); exact rfl) | (apply RP.step; intro _ _ _; (apply Ok.eqIF; exact rfl; exact rfl; exact hbad); exact rfl) | refine a_op ?_ | (apply RP.callQ; (exact a_evs); exact rfl)))
  (first | apply RP.nil0 | apply RP.nil)
  (repeat' (first | (refine a_go ?_; intros) | refine a_sp (fun h => ?_) fun h => ?_ | fail))
  (refine Fin.rA ((rb, rdB (.slice A bs.length c) at_ bad) :: H) ?_)
  exact ⟨rfl, rfl, rfl⟩
end Go.Sx
end
section
namespace Go.Sx
open Go Go.Proofs Go.RowKit
attribute [local irreducible] C R Fin K Own OwnT Rd Pl Ok KOf RetOk OpsOf RP KP Res NoPanic KV KE MapS ItS EntS RT KT OneT RS KS OneS
variable {M M' : Mem} {H H1 H2 : Hp}
theorem PlB.nil1 : PlB M (.slice none 0 0) [] := ⟨none, 0, rfl, Nat.le_refl _, by omega, Pl.nil⟩
def textS (b : Txt) : Txt := numS b.length ++ b
def textR (bs : Txt) (most at_ : Nat) (bad : Int) : Txt × Nat × Int :=
 if (numRd bs most at_ bad).2.2 ≠ 0 then ([], (numRd bs most at_ bad).2) else
 if bs.length - (numRd bs most at_ bad).2.1 < (numRd bs most at_ bad).1 then ([], at_, 10) else
 ((bs.drop (numRd bs most at_ bad).2.1).take (numRd bs most at_ bad).1, (numRd bs most at_ bad).2.1 + (numRd bs most at_ bad).1, 0)
theorem numRd_le {bs : Txt} {most at_ : Nat} {bad : Int} : (numRd bs most at_ bad).1 ≤ most := by
 unfold numRd
 split
 ·exact Nat.zero_le _
 ·split
  ·exact Nat.zero_le _
  ·split
   ·exact Nat.zero_le _
   ·rename_i h1 h2 h3
    dsimp only
    have h4 : (numR bs at_).2.1 = 0 := Decidable.byContradiction h3
    exact Nat.le_of_not_lt (fun h => h2 ⟨h4, h⟩)
theorem wtext_K {wb : Nat} {v : Value} {bs b : Txt} {A : Option Addr} {c : Nat} {hr : Hp} (ho : Own 5 1 v bs.length (bs.map bv) hr) (hl : bs.length ≤ 1099511627000) (hb : Pl M A (b.map bv)) (hbl : b.length ≤ 1099511627776) : K Tryz.prog 103 [.pointer (some ⟨wb, 0, none⟩), .slice A b.length c] M ((wb, wrB v) :: (hr ++ H)) fun v' M' H' => v' = .tuple #[] ∧ M' = M ∧ ∃ v2 hr2, Own 5 1 v2 (bs ++ textS b).length ((bs ++ textS b).map bv) hr2 ∧ H' = (wb, wrB v2) :: (hr2 ++ H) := by
 refine K.enterK Tryz.func103 rfl rfl rfl ?_
 intro Q hNP hQ
 have hl10 := (numS_len10 (n := b.length) (by omega)).2
 (repeat' (first | refine a_mv ?_ | (apply R.step; (apply Ok.convB; exact rfl; apply wu64; omega; omega); exact rfl) | (refine a_go ?_; intros) | refine a_sp (fun h => ?_) fun h => ?_ | fail))
 (apply R.call; (exact a_evs); exact rfl; exact wnum_K (n := b.length) ho (by omega) (by omega); rintro _ M _ ⟨rfl, rfl, v2, hr2, ho2, rfl⟩)
 rw [List.length_append] at ho2
 obtain ⟨A2, c2, rfl, _, _⟩ := ho2.form
 unfold wrB at hQ ⊢
 (repeat' (first | (refine a_go ?_; intros) | refine a_sp (fun h => ?_) fun h => ?_ | fail))
 (apply R.append (news := b.map bv); exact rfl; exact rfl; exact ho2; (exact a_tk); exact Pl.rd hb; (rw [List.length_map, Nat.mul_one]); exact bv_one _; omega; exact rfl; decide; decide; exact rfl; rintro v4 hp4 hown4)
 obtain ⟨A4, c4, rfl, _, _⟩ := hown4.form
 (repeat' (first | (refine a_go ?_; intros) | refine a_sp (fun h => ?_) fun h => ?_ | fail))
 (refine Fin.rA ((wb, .cells [.slice A4 (bs.length + (numS b.length).length + b.length) c4].toArray 165 (0, 0)) :: (hp4 ++ H)) ?_)
 refine ⟨rfl, rfl, _, hp4, ?_, rfl⟩
 unfold textS
 rw [← List.append_assoc, List.length_append, List.length_append, List.map_append]
 exact hown4
theorem rtext_K {rb : Nat} {v : Value} {bs : Txt} {at_ : Nat} {bad : Int} {most : Nat} (hb : PlB M v bs) (hl : bs.length ≤ 1099511627776) (ha : at_ ≤ bs.length) (hm : most ≤ 1099511627776) : K Tryz.prog 114 [.pointer (some ⟨rb, 0, none⟩), .int .i64 (most : Int)] M ((rb, rdB v at_ bad) :: H) fun v' M' H' => M.le M' ∧ PlB M' v' (textR bs most at_ bad).1 ∧ H' = (rb, rdB v (textR bs most at_ bad).2.1 (textR bs most at_ bad).2.2) :: H := by
 refine K.enterK Tryz.func114 rfl rfl rfl ?_
 intro Q hNP hQ
 have hna := numRd_at (bs := bs) (most := most) (bad := bad) ha
 have hnl := numRd_le (bs := bs) (most := most) (at_ := at_) (bad := bad)
 have hmx : max (most : Int) 0 = (most : Int) := by omega
 unfold rdB
 (repeat' (first | refine a_mv ?_ | (apply R.step; (first | (apply Ok.convB; exact rfl; rw [hmx]; apply wu64; omega; omega)); exact rfl) | (refine a_bz ?_; intro bz) | (refine a_go ?_; intros) | refine a_sp (fun h => ?_) fun h => ?_ | fail))
 rw [hmx]
 (apply R.call; (exact a_evs); exact rfl; exact rnum_K (most := most) hb hl ha; rintro _ M _ ⟨rfl, rfl, rfl⟩)
 have hT : textR bs most at_ bad = if (numRd bs most at_ bad).2.2 ≠ 0 then ([], (numRd bs most at_ bad).2) else
  if bs.length - (numRd bs most at_ bad).2.1 < (numRd bs most at_ bad).1 then ([], at_, 10) else
  ((bs.drop (numRd bs most at_ bad).2.1).take (numRd bs most at_ bad).1, (numRd bs most at_ bad).2.1 + (numRd bs most at_ bad).1, 0) := rfl
 generalize numRd bs most at_ bad = z at hna hnl hT
 obtain ⟨n, a1, b1⟩ := z
 dsimp only at hna hnl hT ⊢
 obtain ⟨A, c, rfl, h1, h2, h3⟩ := hb
 unfold rdB at hQ ⊢
 by_cases hb1 : b1 ≠ 0
 ·rw [hT, if_pos hb1] at hQ
  (repeat' (first | refine a_mv ?_ | (apply R.step; (apply Ok.neIT; exact rfl; exact rfl; exact hb1); exact rfl) | (refine a_bz ?_; intro bz) | (refine a_go ?_; intros) | refine a_sp (fun h => ?_) fun h => ?_ | fail))
  (refine Fin.rA ((rb, .cells [.slice A bs.length c, .int .i64 ↑a1, .int .i64 b1].toArray 178 (0, 0)) :: H) ?_)
  exact ⟨Mem.le_refl _, PlB.nil1, rfl⟩
 rw [if_neg hb1] at hT
 have hb0 : b1 = 0 := by omega
 subst hb0
 (repeat' (first | (refine a_bz ?_; intro bz) | (refine a_go ?_; intros) | refine a_sp (fun h => ?_) fun h => ?_ | fail))
 (apply C.regionT (t := .free 0 (.free 1 (.free 2 (.free 3 (.free 4 (.free 5 (.free 6 (.free 7 (.free 8 (.free 9 (.free 10 (.free 11 (.free 12 .nil))))))))))))) (Hs := [(rb, .cells [.slice A bs.length c, .int .i64 ↑a1, .int .i64 0].toArray 178 (0, 0))]); exact Mix.h; (first | exact Arr.all _ | (exact a_arr) | (exact a_arrs)); (exact a_np); kernel_rfl)
 have e1 : (bs.length : Int) - (a1 : Int) = ((bs.length - a1 : Nat) : Int) := by omega
 by_cases hlt : bs.length - a1 < n
 ·rw [hT, if_pos hlt] at hQ
  (repeat' (first | (apply RT.step; exact rfl; intro _ _ _; (apply Ok.move; exact rfl); exact rfl) | (apply RT.step; exact rfl; intro _ _ _; (first | (apply Ok.subQ ((bs.length - a1 : Nat) : Int); exact rfl; exact rfl; exact e1; apply wi64; omega; omega) | (apply Ok.convB; exact rfl; apply wu64; omega; omega)); exact rfl) | ((first | (apply RT.step; exact rfl; intro _ _ _) | (apply RT.stepT; exact rfl; exact rfl; exact rfl; exact rfl; intro _ _ _)); (exact a_cmp); exact rfl) | refine a_ot ?_ | fail))
  apply RT.nil
  (repeat' (first | (refine a_bz ?_; intro bz) | (refine a_go ?_; intros) | refine a_sp (fun h => ?_) fun h => ?_ | fail))
  (apply R.call; (exact a_evs); exact rfl; exact fault_K (at_ := at_) (bad := 0) (e := 10); rintro _ M _ ⟨rfl, rfl, rfl⟩)
  (repeat' (first | (refine a_bz ?_; intro bz) | (refine a_go ?_; intros) | refine a_sp (fun h => ?_) fun h => ?_ | fail))
  (refine Fin.rA ((rb, rdB (.slice A bs.length c) at_ 10) :: H) ?_)
  exact ⟨Mem.le_refl _, PlB.nil1, rfl⟩
 ·rw [hT, if_neg hlt] at hQ
  (repeat' (first | (apply RT.step; exact rfl; intro _ _ _; (apply Ok.move; exact rfl); exact rfl) | (apply RT.step; exact rfl; intro _ _ _; (first | (apply Ok.subQ ((bs.length - a1 : Nat) : Int); exact rfl; exact rfl; exact e1; apply wi64; omega; omega) | (apply Ok.convB; exact rfl; apply wu64; omega; omega)); exact rfl) | ((first | (apply RT.step; exact rfl; intro _ _ _) | (apply RT.stepT; exact rfl; exact rfl; exact rfl; exact rfl; intro _ _ _)); (exact a_cmp); exact rfl) | refine a_ot ?_ | fail))
  apply RT.nil
  (repeat' (first | refine a_mv ?_ | (apply R.step; (first | (apply Ok.convB; exact rfl; apply wi64; omega; omega) | (apply Ok.addQ ((a1 + n : Nat) : Int); exact rfl; exact rfl; omega; apply wi64; omega; omega)); exact rfl) | (refine a_bz ?_; intro bz) | (refine a_go ?_; intros) | refine a_sp (fun h => ?_) fun h => ?_ | fail))
  (apply C.regionT (t := .free 1 (.free 2 (.free 3 (.free 4 (.free 5 (.free 6 (.free 7 (.free 8 (.free 9 (.free 10 (.free 11 (.free 12 (.free 13 (.free 14 (.free 15 (.free 16 (.one 0 (.one 17 (.free 18 .nil))))))))))))))))))) (Hs := [(rb, .cells [.slice A bs.length c, .int .i64 ↑(a1 + n), .int .i64 0].toArray 178 (0, 0))]); exact Mix.h; (first | exact Arr.all _ | (exact a_arr) | (exact a_arrs)); (exact a_np); kernel_rfl)
  (repeat' (first | (apply RT.step; exact rfl; intro _ _ _; (apply Ok.move; exact rfl); exact rfl) | (apply RT.step; exact rfl; intro _ _ _; (first | (apply Ok.convB; exact rfl; apply wi64; omega; omega) | (apply Ok.subQ (a1 : Int); exact rfl; exact rfl; omega; apply wi64; omega; omega) | (apply Ok.sliceLoHi; exact rfl; exact rfl; exact rfl; omega; omega; omega)); exact rfl) | refine a_ot ?_ | fail))
  (apply RT.one; apply OneT.eff; exact rfl; intro Kc hKc ops0)
  (apply R.buildSlice0; exact rfl; intro bz)
  (apply R.nil; apply Fin.kt (Hx := (bz, .cells #[] 5 (0, 0)) :: H) hKc; exact Mem.le_refl _; (exact a_arrs))
  (apply RT.one; apply OneT.eff; exact rfl; intro Kc hKc ops0)
  have hdl : ((bs.drop a1).take n).length = n := by rw [List.length_take, List.length_drop]; omega
  obtain ⟨k1, hk1⟩ : ∃ k1, k1 = ((a1 + n : Nat) : Int) - (n : Int) := ⟨_, rfl⟩
  have hka : k1.toNat = a1 := by omega
  have hpt := h3.cutTake (l := k1.toNat) n h1
  rw [hka] at hpt
  rw [← hk1, hka]
  have e9 : ((a1 + n : Nat) : Int).toNat - a1 = n := by omega
  rw [e9]
  (apply R.append (news := ((bs.drop a1).take n).map bv) (k := n); exact rfl; exact rfl; exact Own.empty; (exact a_tk); exact Pl.rd hpt; (rw [List.length_map, hdl, Nat.mul_one]); exact bv_one _; omega; exact rfl; decide; decide; exact rfl; rintro v4 hp4 hown4)
  rw [List.nil_append, Nat.zero_add] at hown4
  obtain ⟨A4, c4, rfl, _, _⟩ := hown4.form
  have hown5 : Own 5 1 (.slice A4 n c4) ((bs.drop a1).take n).length (((bs.drop a1).take n).map bv) hp4 := by rw [hdl]; exact hown4
  apply R.arr (H2 := hp4 ++ ((rb, .cells [.slice A bs.length c, .int .i64 ↑(a1 + n), .int .i64 0].toArray 178 (0, 0)) :: H)) (by (exact a_arrs))
  apply R.ice (Arr.all _)
  intro M2 hM2 hin2
  have hpl2 := hown5.plB hin2
  (apply R.nil; apply Fin.ktB (E := []) (Hx := H) hKc; exact hM2; (exact a_arrs))
  (repeat' (first | refine a_ot ?_ | fail))
  apply RT.nil
  (repeat' (first | (refine a_bz ?_; intro bz) | (refine a_go ?_; intros) | refine a_sp (fun h => ?_) fun h => ?_ | fail))
  (refine Fin.rA ((rb, .cells [.slice A bs.length c, .int .i64 ↑(a1 + n), .int .i64 0].toArray 178 (0, 0)) :: H) ?_)
  exact ⟨hM2, hpl2, rfl⟩
end Go.Sx
end
section
namespace Go.Sx
open Go Go.Proofs Go.RowKit
theorem numGo_lay {bs : Txt} {at_ : Nat} : ∀ (k i m acc : Nat), i + k = 10 → 0 < k → m * 128 ^ i < 18446744073709551616 → (0 < i → 0 < m) → (∀ j, j < (numS m).length → bs[at_ + i + j]? = (numS m)[j]?) → numGo bs at_ k i acc = (acc + m * 128 ^ i, 0, at_ + i + (numS m).length)
 | 0, _, _, _, _, h, _, _, _ => absurd h (by decide)
 | k + 1, i, m, acc, hik, _, hm, hi0, hb => by
  have hpos : 0 < 128 ^ i := Nat.pow_pos (by decide)
  have h9 : i = 9 → m ≤ 1 := by
   rintro rfl
   have : (128 : Nat) ^ 9 = 9223372036854775808 := by decide
   rw [this] at hm
   omega
  unfold numGo
  by_cases hlo : m < 128
  ·rw [numS_lo hlo] at hb ⊢
   have h0 := hb 0 (Nat.zero_lt_one)
   rw [Nat.add_zero] at h0
   rw [h0]
   have hx : (UInt8.ofNat m).toNat = m := by
    rw [UInt8.toNat_ofNat']
    omega
   show (if i = 9 ∧ 1 < (UInt8.ofNat m).toNat then _ else _) = _
   rw [hx, if_neg (by omega), if_neg (by omega), if_neg (by omega), Nat.mod_eq_of_lt hlo]
   rfl
  ·rw [numS_hi hlo] at hb ⊢
   have h0 := hb 0 (by simp)
   rw [Nat.add_zero] at h0
   rw [h0]
   have hx : (UInt8.ofNat m ||| 128).toNat = m % 128 + 128 := by
    rw [or128_toNat, UInt8.toNat_ofNat']
    omega
   show (if i = 9 ∧ 1 < (UInt8.ofNat m ||| 128).toNat then _ else _) = _
   rw [hx, if_neg (by omega), if_pos (by omega), show (m % 128 + 128) % 128 = m % 128 by omega]
   have hdm := Nat.div_add_mod m 128
   have e1 : m / 128 * 128 ^ (i + 1) + m % 128 * 128 ^ i = m * 128 ^ i := by
    rw [Nat.pow_succ, Nat.mul_comm (128 ^ i) 128, ← Nat.mul_assoc, ← Nat.add_mul]
    congr 1
    omega
   have hk : i < 9 := by omega
   have h2 := numGo_lay (bs := bs) (at_ := at_) k (i + 1) (m / 128) (acc + m % 128 * 128 ^ i) (by omega) (by omega) (by omega) (by omega) (fun j hj => by
    have := hb (j + 1) (by rw [List.length_cons]; omega)
    rw [List.getElem?_cons_succ] at this
    rw [← this]
    congr 1
    omega)
   rw [h2, List.length_cons]
   refine Prod.ext (by show _ + _ + _ = acc + m * 128 ^ i; omega) (Prod.ext rfl (by show _ + _ = at_ + i + ((numS (m / 128)).length + 1); omega))
theorem numR_lay {n : Nat} {rest pre : Txt} (h : n ≤ 18446744073709551615) : numR (pre ++ (numS n ++ rest)) pre.length = (n, 0, pre.length + (numS n).length) := by
 have := numGo_lay (bs := pre ++ (numS n ++ rest)) (at_ := pre.length) 10 0 n 0 rfl (by decide) (by omega) (by omega) (fun j hj => by
  rw [Nat.add_zero, List.getElem?_append_right (by omega), Nat.add_sub_cancel_left, List.getElem?_append_left hj])
 unfold numR
 rw [this]
 refine Prod.ext (by show 0 + n * 1 = n; omega) (Prod.ext rfl rfl)
theorem numRd_lay {n most : Nat} {rest pre : Txt} (h : n ≤ 18446744073709551615) (hm : n ≤ most) : numRd (pre ++ (numS n ++ rest)) most pre.length 0 = (n, pre.length + (numS n).length, 0) := by
 unfold numRd
 rw [numR_lay h, if_neg (by decide), if_neg (by dsimp only; omega), if_neg (fun h => h rfl)]
end Go.Sx
end
section
namespace Go.Sx
open Go Go.Proofs Go.RowKit
attribute [local irreducible] C R Fin K Own OwnT Rd Pl Ok KOf RetOk OpsOf RP KP Res NoPanic KV KE RT KT OneT RS KS OneS
variable {M M' : Mem} {H H1 H2 : Hp}
def layT (e : En) : Txt := if e.kind = 1 then textS e.data else if e.kind = 2 then [UInt8.ofNat e.conf.toNat] else []
def layH (e : En) : Txt := ([UInt8.ofNat e.kind.toNat] ++ numS e.term.toNat) ++ numS e.idx.toNat
def layE (e : En) : Txt := layH e ++ layT e
def tailR (x : Txt) (k : Nat) (at_ : Nat) (bad : Int) : Txt × Int × Nat × Int :=
 if k = 1 then ((textR x 128 at_ bad).1, 0, (textR x 128 at_ bad).2) else if k = 2 then ([], ((byteR x 254 at_ bad).1.toNat : Int), (byteR x 254 at_ bad).2) else ([], 0, at_, bad)
def readG (x : Txt) (z0 : UInt8 × Nat × Int) (z1 z2 : Nat × Nat × Int) (z3 : Txt × Int × Nat × Int) : Option En :=
 if endR x z3.2.2.1 z3.2.2.2 = 0 ∧ entS ⟨z0.1.toNat, z1.1, z2.1, z3.1, z3.2.1⟩ then some ⟨z0.1.toNat, z1.1, z2.1, z3.1, z3.2.1⟩ else none
def readR0 (x : Txt) : UInt8 × Nat × Int := byteR x 2 0 0
def readR1 (x : Txt) : Nat × Nat × Int := numRd x 72057594037927935 (readR0 x).2.1 (readR0 x).2.2
def readR2 (x : Txt) : Nat × Nat × Int := numRd x 72057594037927935 (readR1 x).2.1 (readR1 x).2.2
def readE (x : Txt) : Option En :=
 if 160 < x.length then none else readG x (readR0 x) (readR1 x) (readR2 x) (tailR x (readR0 x).1.toNat (readR2 x).2.1 (readR2 x).2.2)
theorem entS_kind {e : En} (h : entS e) : 0 ≤ e.kind ∧ e.kind ≤ 2 ∧ 0 ≤ e.conf ∧ e.conf ≤ 254 ∧ (1 ≤ e.term ∧ e.term ≤ 72057594037927935) ∧ (1 ≤ e.idx ∧ e.idx ≤ 72057594037927935) ∧ e.data.length ≤ 128 := by
 unfold entS nmS setS at h
 omega
theorem layH_len {e : En} (h : entS e) : (layH e).length ≤ 21 := by
 obtain ⟨h1, h2, h3, h4, h5, h6, h7⟩ := entS_kind h
 unfold layH
 have a := (numS_len10 (n := e.term.toNat) (by omega)).2
 have b := (numS_len10 (n := e.idx.toNat) (by omega)).2
 simp only [List.length_append, List.length_singleton]
 omega
theorem layE_len {e : En} (h : entS e) : (layE e).length ≤ 159 := by
 have h1 := layH_len h
 obtain ⟨_, _, _, _, _, _, h7⟩ := entS_kind h
 unfold layE layT
 rw [List.length_append]
 split
 ·unfold textS
  have a := (numS_len10 (n := e.data.length) (by omega)).2
  rw [List.length_append]
  omega
 ·split
  ·rw [List.length_singleton]
   omega
  ·rw [List.length_nil]
   omega
structure LyX where
 v : Value
 hr : Hp
theorem layEntry_K {e : En} {A : Option Addr} {cap : Nat} (hp : Pl M A (e.data.map bv)) : K Tryz.prog 75 [eV e (.slice A e.data.length cap)] M H fun v' M' H' => M.le M' ∧ H' = H ∧ ((entS e ∧ ∃ v, v' = .tuple #[v, .int .i64 0] ∧ PlB M' v (layE e)) ∨ (¬ entS e ∧ v' = .tuple #[.slice none 0 0, .int .i64 1])) := by
 refine K.enterK Tryz.func75 rfl rfl rfl ?_
 intro Q hNP hQ
 unfold eV ecells
 (repeat' (first | (refine a_bx ?_; intro bx) | (refine a_go ?_; intros) | refine a_sp (fun h => ?_) fun h => ?_ | fail))
 (apply R.call; (exact a_evs); exact rfl; exact rentry_K (e := e) (A := A) (cap := cap); rintro _ M _ ⟨rfl, rfl, rfl⟩)
 by_cases hE : entS e
 rotate_left
 ·rw [decide_eq_false hE]
  (repeat' (first | (refine a_bx ?_; intro bx) | (refine a_go ?_; intros) | refine a_sp (fun h => ?_) fun h => ?_ | fail))
  (refine Fin.rA (H) ?_)
  exact ⟨Mem.le_refl _, rfl, .inr ⟨hE, rfl⟩⟩
 rw [decide_eq_true hE]
 obtain ⟨h1, h2, h3, h4, h5, h6, h7⟩ := entS_kind hE
 obtain ⟨ek, et, ei, ed, ec⟩ := e
 dsimp only at h1 h2 h3 h4 h5 h6 h7 hp ⊢
 obtain ⟨kn, rfl⟩ : ∃ kn : Nat, ek = (kn : Int) := ⟨_, (Int.toNat_of_nonneg h1).symm⟩
 obtain ⟨tn, rfl⟩ : ∃ tn : Nat, et = (tn : Int) := ⟨_, (Int.toNat_of_nonneg (by omega)).symm⟩
 obtain ⟨idn, rfl⟩ : ∃ idn : Nat, ei = (idn : Int) := ⟨_, (Int.toNat_of_nonneg (by omega)).symm⟩
 obtain ⟨cn, rfl⟩ : ∃ cn : Nat, ec = (cn : Int) := ⟨_, (Int.toNat_of_nonneg h3).symm⟩
 have hHl := layH_len hE
 have hEl := layE_len hE
 obtain ⟨eh, heh⟩ : ∃ eh : Txt, eh = layH ⟨(kn : Int), (tn : Int), (idn : Int), ed, (cn : Int)⟩ := ⟨_, rfl⟩
 obtain ⟨ee, hee⟩ : ∃ ee : Txt, ee = layE ⟨(kn : Int), (tn : Int), (idn : Int), ed, (cn : Int)⟩ := ⟨_, rfl⟩
 have hH : eh = ([UInt8.ofNat kn] ++ numS tn) ++ numS idn := heh
 have hL : ee = eh ++ (if (kn : Int) = 1 then textS ed else if (kn : Int) = 2 then [UInt8.ofNat cn] else []) := by rw [hee, heh]; rfl
 rw [← heh] at hHl
 rw [← hee] at hEl hQ
 (repeat' (first | (refine a_bx ?_; intro bx) | (refine a_go ?_; intros) | refine a_sp (fun h => ?_) fun h => ?_ | fail))
 (apply R.call; (exact a_evs); exact rfl; exact newWriter_K; rintro _ M _ ⟨wb, rfl, rfl, rfl⟩)
 have hl1 := (numS_len10 (n := tn) (by omega)).2
 have hl2 := (numS_len10 (n := idn) (by omega)).2
 (repeat' (first | refine a_mv ?_ | (apply R.step; (apply Ok.convLI; exact rfl); exact rfl) | (refine a_bx ?_; intro bx) | (refine a_go ?_; intros) | refine a_sp (fun h => ?_) fun h => ?_ | fail))
 (apply R.call; (exact a_evs); exact rfl; (apply K.arr (h := wbyte_K (wb := wb) (v := .slice none 0 0) (bs := []) (b := UInt8.ofNat kn) (hr := []) (H := (bx, .cells [.int .i64 (kn : Int), .int .u64 (tn : Int), .int .u64 (idn : Int), .slice A ed.length cap, .int .i64 (cn : Int)].toArray 33 (0, 0)) :: H) (Own.nil _ _) (by decide))); (exact a_arrs); rintro _ M _ ⟨rfl, rfl, v2, hr2, how2, rfl⟩)
 rw [List.nil_append] at how2
 (repeat' (first | (refine a_bx ?_; intro bx) | (refine a_go ?_; intros) | refine a_sp (fun h => ?_) fun h => ?_ | fail))
 (apply R.call; (exact a_evs); exact rfl; (apply K.arr (h := wnum_K (wb := wb) (v := v2) (bs := [UInt8.ofNat kn]) (n := tn) (hr := hr2) (H := (bx, .cells [.int .i64 (kn : Int), .int .u64 (tn : Int), .int .u64 (idn : Int), .slice A ed.length cap, .int .i64 (cn : Int)].toArray 33 (0, 0)) :: H) how2 (by rw [List.length_singleton]; omega) (by omega))); (exact a_arrs); rintro _ M _ ⟨rfl, rfl, v3, hr3, how3, rfl⟩)
 have hl3 : ([UInt8.ofNat kn] ++ numS tn).length ≤ 11 := by rw [List.length_append, List.length_singleton]; omega
 (repeat' (first | (refine a_bx ?_; intro bx) | (refine a_go ?_; intros) | refine a_sp (fun h => ?_) fun h => ?_ | fail))
 (apply R.call; (exact a_evs); exact rfl; (apply K.arr (h := wnum_K (wb := wb) (v := v3) (bs := [UInt8.ofNat kn] ++ numS tn) (n := idn) (hr := hr3) (H := (bx, .cells [.int .i64 (kn : Int), .int .u64 (tn : Int), .int .u64 (idn : Int), .slice A ed.length cap, .int .i64 (cn : Int)].toArray 33 (0, 0)) :: H) how3 (by omega) (by omega))); (exact a_arrs); rintro _ M _ ⟨rfl, rfl, v4, hr4, how4, rfl⟩)
 rw [← hH] at how4
 (repeat' (first | (refine a_bx ?_; intro bx) | (refine a_g0 ?_; intros) | refine a_s3 (fun h => ?_) fun h => ?_ | fail))
 apply C.seqCut (X := LyX) (fun y => Own 5 1 y.v ee.length (ee.map bv) y.hr) (fun _ => [(4, .pointer (some ⟨wb, 0, none⟩))]) (fun _ => M) (fun y => (wb, wrB y.v) :: (y.hr ++ H))
 ·by_cases hk1 : (kn : Int) = 1
  ·rw [if_pos hk1] at hL
   (repeat' (first | refine a_mv ?_ | (apply R.step; (apply Ok.eqIR; exact rfl; exact rfl; exact hk1); exact rfl) | (refine a_bx ?_; intro bx) | (refine a_go ?_; intros) | refine a_sp (fun h => ?_) fun h => ?_ | fail))
   (apply R.call; (exact a_evs); exact rfl; (apply K.arr (h := wtext_K (wb := wb) (v := v4) (bs := eh) (b := ed) (A := A) (c := cap) (hr := hr4) (H := (bx, .cells [.int .i64 (kn : Int), .int .u64 (tn : Int), .int .u64 (idn : Int), .slice A ed.length cap, .int .i64 (cn : Int)].toArray 33 (0, 0)) :: H) how4 (by omega) hp (by omega))); (exact a_arrs); rintro _ M _ ⟨rfl, rfl, v5, hr5, how5, rfl⟩)
   rw [← hL] at how5
   (repeat' (first | (refine a_bx ?_; intro bx) | (refine a_go ?_; intros) | refine a_sp (fun h => ?_) fun h => ?_ | fail))
   (apply Fin.arr (H2 := (wb, wrB v5) :: (hr5 ++ H)); (exact a_arrs))
   refine Fin.join (⟨v5, hr5⟩ : LyX) how5 ?_ rfl rfl
   (exact a_subs)
  ·rw [if_neg hk1] at hL
   by_cases hk2 : (kn : Int) = 2
   ·rw [if_pos hk2] at hL
    (repeat' (first | refine a_mv ?_ | (apply R.step; (first | (apply Ok.eqIF; exact rfl; exact rfl; exact hk1) | (apply Ok.eqIR; exact rfl; exact rfl; exact hk2) | (apply Ok.convLI; exact rfl)); exact rfl) | (refine a_bx ?_; intro bx) | (refine a_go ?_; intros) | refine a_sp (fun h => ?_) fun h => ?_ | fail))
    (apply R.call; (exact a_evs); exact rfl; (apply K.arr (h := wbyte_K (wb := wb) (v := v4) (bs := eh) (b := UInt8.ofNat cn) (hr := hr4) (H := (bx, .cells [.int .i64 (kn : Int), .int .u64 (tn : Int), .int .u64 (idn : Int), .slice A ed.length cap, .int .i64 (cn : Int)].toArray 33 (0, 0)) :: H) how4 (by omega))); (exact a_arrs); rintro _ M _ ⟨rfl, rfl, v5, hr5, how5, rfl⟩)
    rw [← hL] at how5
    (repeat' (first | (refine a_bx ?_; intro bx) | (refine a_go ?_; intros) | refine a_sp (fun h => ?_) fun h => ?_ | fail))
    (apply Fin.arr (H2 := (wb, wrB v5) :: (hr5 ++ H)); (exact a_arrs))
    refine Fin.join (⟨v5, hr5⟩ : LyX) how5 ?_ rfl rfl
    (exact a_subs)
   ·rw [if_neg hk2, List.append_nil] at hL
    (repeat' (first | refine a_mv ?_ | (apply R.step; (first | (apply Ok.eqIF; exact rfl; exact rfl; exact hk1) | (apply Ok.eqIF; exact rfl; exact rfl; exact hk2)); exact rfl) | (refine a_bx ?_; intro bx) | (refine a_go ?_; intros) | refine a_sp (fun h => ?_) fun h => ?_ | fail))
    (apply Fin.arr (H2 := (wb, wrB v4) :: (hr4 ++ H)); (exact a_arrs))
    refine Fin.join (⟨v4, hr4⟩ : LyX) (by dsimp only; rw [hL]; exact how4) ?_ rfl rfl
    (exact a_subs)
 rintro ⟨v5, hr5⟩ how5
 dsimp only at how5 ⊢
 (repeat' (first | (refine a_bx ?_; intro bx) | (refine a_go ?_; intros) | refine a_sp (fun h => ?_) fun h => ?_ | fail))
 (apply R.call; (exact a_evs); exact rfl; (apply K.arr (h := wbytes_K (wb := wb) (v := v5) (bs := ee) (hr := hr5) (H := H) how5 (by omega))); (exact a_arrs); rintro v6 M _ ⟨rfl, hr6, how6, rfl⟩)
 apply R.ice (Arr.all _)
 intro M3 hM3 hin3
 have hpl6 := how6.plB hin3
 obtain ⟨A6, c6, rfl, _, _⟩ := how6.form
 (repeat' (first | (refine a_bx ?_; intro bx) | (refine a_go ?_; intros) | refine a_sp (fun h => ?_) fun h => ?_ | fail))
 (refine Fin.rA (H) ?_)
 exact ⟨hM3, rfl, .inl ⟨hE, _, rfl, hpl6⟩⟩
structure RyX where
 v : Value
 d : Txt
 c : Int
 at_ : Nat
 bad : Int
 M : Mem
theorem readE_of {x : Txt} {z0 : UInt8 × Nat × Int} {z1 z2 : Nat × Nat × Int} {z3 : Txt × Int × Nat × Int} (hx : ¬ 160 < x.length) (h0 : byteR x 2 0 0 = z0) (h1 : numRd x 72057594037927935 z0.2.1 z0.2.2 = z1) (h2 : numRd x 72057594037927935 z1.2.1 z1.2.2 = z2) (h3 : tailR x z0.1.toNat z2.2.1 z2.2.2 = z3) : readE x = readG x z0 z1 z2 z3 := by
 subst h0 h1 h2 h3
 exact if_neg hx
def e0V : Value := .agg #[.int .i64 0, .int .u64 0, .int .u64 0, .slice none 0 0, .int .i64 0]
theorem readEntry_K {v : Value} {x : Txt} (hb : PlB M v x) : K Tryz.prog 85 [v] M H fun v' M' H' => M.le M' ∧ H' = H ∧ ((∃ e vd, readE x = some e ∧ v' = .tuple #[eV e vd, .int .i64 0] ∧ PlB M' vd e.data) ∨ (readE x = none ∧ ∃ bad, v' = .tuple #[e0V, .int .i64 bad] ∧ bad ≠ 0)) := by
 refine K.enterM Tryz.func85 rfl rfl rfl ?_
 intro Q hNP hQ
 obtain ⟨A, cp, rfl, k1, k2, k3⟩ := id hb
 (repeat' (first | (refine a_gn ?_; intros) | refine a_sp (fun h => ?_) fun h => ?_ | fail))
 ((apply R.alloc; (simp only [Value.cells]; rfl); exact rfl); intro b2)
 by_cases hlen : 160 < x.length
 ·have hN : readE x = none := if_pos hlen
  (repeat' (first | refine a_mv ?_ | (apply R.step; (apply Ok.gtTr; exact rfl; exact rfl; omega); exact rfl) | (refine a_go ?_; intros) | refine a_sp (fun h => ?_) fun h => ?_ | fail))
  (apply Fin.returnM (H2 := H); assumption; exact .inl rfl; exact rfl; exact Marks.nil _; (exact a_res); (simp only [retv]; rfl); (exact a_arr))
  exact ⟨Mem.le_refl _, rfl, .inr ⟨hN, 12, rfl, by decide⟩⟩
 (repeat' (first | refine a_mv ?_ | (apply R.step; (apply Ok.gtF; exact rfl; exact rfl; omega); exact rfl) | (refine a_go ?_; intros) | refine a_sp (fun h => ?_) fun h => ?_ | fail))
 (apply R.call; (exact a_evs); exact rfl; exact newReader_K hb (by omega); rintro _ M4 _ ⟨rb, v4, rfl, hM4, hb4, rfl⟩)
 (repeat' (first | (refine a_gn ?_; intros) | refine a_sp (fun h => ?_) fun h => ?_ | fail))
 ((apply R.alloc; (simp only [Value.cells]; rfl); exact rfl); intro b5)
 (repeat' (first | (refine a_go ?_; intros) | refine a_sp (fun h => ?_) fun h => ?_ | fail))
 apply R.arr (H2 := (rb, rdB v4 0 0) :: (b5, .cells [.int .i64 0, .int .u64 0, .int .u64 0, .slice none 0 0, .int .i64 0].toArray 33 (0, 0)) :: (b2, .cells [.int .i64 0, .int .u64 0, .int .u64 0, .slice none 0 0, .int .i64 0].toArray 33 (0, 0)) :: H) (by (exact a_arrs))
 (apply R.call; (exact a_evs); exact rfl; exact rbyte_K (most := 2) (at_ := 0) (bad := 0) hb4 (Nat.zero_le _); rintro _ M4 _ ⟨rfl, rfl, rfl⟩)
 obtain ⟨z0, hz0⟩ : ∃ z0, z0 = byteR x 2 0 0 := ⟨_, rfl⟩
 have g0 := byteR_at (bs := x) (most := 2) (at_ := 0) (bad := 0) (Nat.zero_le _)
 rw [← hz0] at g0 ⊢
 obtain ⟨k0, a0, b0⟩ := z0
 dsimp only at g0 ⊢
 (repeat' (first | refine a_mv ?_ | (apply R.step; (apply Ok.convBI; exact rfl); exact rfl) | (refine a_go ?_; intros) | refine a_sp (fun h => ?_) fun h => ?_ | fail))
 (apply R.call; (exact a_evs); exact rfl; exact rnum_K (most := 72057594037927935) (at_ := a0) (bad := b0) hb4 (by omega) g0; rintro _ M4 _ ⟨rfl, rfl, rfl⟩)
 obtain ⟨z1, hz1⟩ : ∃ z1, z1 = numRd x 72057594037927935 a0 b0 := ⟨_, rfl⟩
 have g1 := numRd_at (bs := x) (most := 72057594037927935) (at_ := a0) (bad := b0) g0
 rw [← hz1] at g1 ⊢
 obtain ⟨n1, a1, b1⟩ := z1
 dsimp only at g1 ⊢
 (repeat' (first | (refine a_go ?_; intros) | refine a_sp (fun h => ?_) fun h => ?_ | fail))
 (apply R.call; (exact a_evs); exact rfl; exact rnum_K (most := 72057594037927935) (at_ := a1) (bad := b1) hb4 (by omega) g1; rintro _ M4 _ ⟨rfl, rfl, rfl⟩)
 obtain ⟨z2, hz2⟩ : ∃ z2, z2 = numRd x 72057594037927935 a1 b1 := ⟨_, rfl⟩
 have g2 := numRd_at (bs := x) (most := 72057594037927935) (at_ := a1) (bad := b1) g1
 rw [← hz2] at g2 ⊢
 obtain ⟨n2, a2, b2'⟩ := z2
 dsimp only at g2 ⊢
 obtain ⟨kn, hkn⟩ : ∃ kn : Nat, kn = k0.toNat := ⟨_, rfl⟩
 rw [← hkn]
 (repeat' (first | (refine a_g0 ?_; intros) | refine a_s3 (fun h => ?_) fun h => ?_ | fail))
 apply C.seqCut (X := RyX) (fun y => M4.le y.M ∧ PlB y.M y.v y.d ∧ tailR x kn a2 b2' = (y.d, y.c, y.at_, y.bad)) (fun _ => [(2, .pointer (some ⟨b2, 0, none⟩)), (4, .pointer (some ⟨rb, 0, none⟩)), (5, .pointer (some ⟨b5, 0, none⟩))]) (fun y => y.M) (fun y => (rb, rdB v4 y.at_ y.bad) :: (b5, .cells [.int .i64 (kn : Int), .int .u64 (n1 : Int), .int .u64 (n2 : Int), y.v, .int .i64 y.c].toArray 33 (0, 0)) :: (b2, .cells [.int .i64 0, .int .u64 0, .int .u64 0, .slice none 0 0, .int .i64 0].toArray 33 (0, 0)) :: H)
 ·by_cases hk1 : (kn : Int) = 1
  ·have hT : tailR x kn a2 b2' = ((textR x 128 a2 b2').1, 0, (textR x 128 a2 b2').2) := if_pos (by omega)
   (repeat' (first | refine a_mv ?_ | (apply R.step; (apply Ok.eqIR; exact rfl; exact rfl; exact hk1); exact rfl) | (refine a_go ?_; intros) | refine a_sp (fun h => ?_) fun h => ?_ | fail))
   (apply R.call; (exact a_evs); exact rfl; exact rtext_K (most := 128) (at_ := a2) (bad := b2') hb4 (by omega) g2 (by decide); rintro vt M5 _ ⟨hM5, hbt, rfl⟩)
   obtain ⟨Aq, ct, rfl, t1, t2, t3⟩ := id hbt
   (repeat' (first | (refine a_go ?_; intros) | refine a_sp (fun h => ?_) fun h => ?_ | fail))
   refine Fin.join (⟨_, (textR x 128 a2 b2').1, 0, (textR x 128 a2 b2').2.1, (textR x 128 a2 b2').2.2, M5⟩ : RyX) ⟨hM5, hbt, hT⟩ ?_ rfl rfl
   (exact a_subs)
  ·by_cases hk2 : (kn : Int) = 2
   ·have hT : tailR x kn a2 b2' = ([], ((byteR x 254 a2 b2').1.toNat : Int), (byteR x 254 a2 b2').2) := (if_neg (by omega)).trans (if_pos (by omega))
    (repeat' (first | refine a_mv ?_ | (apply R.step; (first | (apply Ok.eqIF; exact rfl; exact rfl; exact hk1) | (apply Ok.eqIR; exact rfl; exact rfl; exact hk2)); exact rfl) | (refine a_go ?_; intros) | refine a_sp (fun h => ?_) fun h => ?_ | fail))
    (apply R.call; (exact a_evs); exact rfl; exact rbyte_K (most := 254) (at_ := a2) (bad := b2') hb4 g2; rintro _ M4 _ ⟨rfl, rfl, rfl⟩)
    (repeat' (first | refine a_mv ?_ | (apply R.step; (apply Ok.convBI; exact rfl); exact rfl) | (refine a_go ?_; intros) | refine a_sp (fun h => ?_) fun h => ?_ | fail))
    refine Fin.join (⟨.slice none 0 0, [], ((byteR x 254 a2 b2').1.toNat : Int), (byteR x 254 a2 b2').2.1, (byteR x 254 a2 b2').2.2, M4⟩ : RyX) ⟨Mem.le_refl _, PlB.nil1, hT⟩ ?_ rfl rfl
    (exact a_subs)
   ·have hT : tailR x kn a2 b2' = ([], 0, a2, b2') := (if_neg (by omega)).trans (if_neg (by omega))
    (repeat' (first | refine a_mv ?_ | (apply R.step; (first | (apply Ok.eqIF; exact rfl; exact rfl; exact hk1) | (apply Ok.eqIF; exact rfl; exact rfl; exact hk2)); exact rfl) | (refine a_go ?_; intros) | refine a_sp (fun h => ?_) fun h => ?_ | fail))
    refine Fin.join (⟨.slice none 0 0, [], 0, a2, b2', M4⟩ : RyX) ⟨Mem.le_refl _, PlB.nil1, hT⟩ ?_ rfl rfl
    (exact a_subs)
 rintro ⟨vd, d, c, a3, b3, M5⟩ ⟨hM5, hvd, hT⟩
 dsimp only at hM5 hvd hT ⊢
 have hR : readE x = readG x (k0, a0, b0) (n1, a1, b1) (n2, a2, b2') (d, c, a3, b3) := readE_of hlen hz0.symm hz1.symm hz2.symm (by rw [← hkn]; exact hT)
 unfold readG at hR
 dsimp only at hR
 rw [← hkn] at hR
 obtain ⟨Ad, cd, rfl, d1, d2, d3⟩ := id hvd
 replace hb4 := hb4.mono hM5
 (repeat' (first | (refine a_go ?_; intros) | refine a_sp (fun h => ?_) fun h => ?_ | fail))
 (apply R.call; (exact a_evs); exact rfl; exact rend_K (at_ := a3) (bad := b3) hb4 (by omega); rintro _ M5 _ ⟨rfl, rfl, rfl⟩)
 have hMM := hM4.trans_ hM5
 by_cases hend : endR x a3 b3 = 0
 rotate_left
 ·rw [if_neg (fun h => hend h.1)] at hR
  (repeat' (first | refine a_mv ?_ | (apply R.step; (first | (apply Ok.eqIF; exact rfl; exact rfl; exact hend) | (apply Ok.neIT; exact rfl; exact rfl; exact hend)); exact rfl) | (refine a_go ?_; intros) | refine a_sp (fun h => ?_) fun h => ?_ | fail))
  (apply Fin.returnM (H2 := H); assumption; exact .inl rfl; exact rfl; exact Marks.nil _; (exact a_res); (simp only [retv]; rfl); (exact a_arr))
  exact ⟨hMM, rfl, .inr ⟨hR, _, rfl, hend⟩⟩
 (repeat' (first | refine a_mv ?_ | (apply R.step; (first | (apply Ok.eqIR; exact rfl; exact rfl; exact hend)); exact rfl) | (refine a_go ?_; intros) | refine a_sp (fun h => ?_) fun h => ?_ | fail))
 (apply R.call; (exact a_evs); exact rfl; exact rentry_K (e := ⟨(kn : Int), (n1 : Int), (n2 : Int), d, c⟩) (A := Ad) (cap := cd); rintro _ M5 _ ⟨rfl, rfl, rfl⟩)
 by_cases hE : entS ⟨(kn : Int), (n1 : Int), (n2 : Int), d, c⟩
 ·rw [if_pos ⟨hend, hE⟩] at hR
  rw [decide_eq_true hE]
  (repeat' (first | refine a_mv ?_ | (apply R.step; (first | (apply Ok.neIR; exact rfl; exact rfl; exact hend)); exact rfl) | (refine a_go ?_; intros) | refine a_sp (fun h => ?_) fun h => ?_ | fail))
  (apply Fin.returnM (H2 := H); assumption; exact .inl rfl; exact rfl; exact Marks.nil _; (exact a_res); (simp only [retv]; rfl); (exact a_arr))
  exact ⟨hMM, rfl, .inl ⟨_, _, hR, rfl, hvd⟩⟩
 ·rw [if_neg (fun h => hE h.2)] at hR
  rw [decide_eq_false hE]
  (repeat' (first | (refine a_go ?_; intros) | refine a_sp (fun h => ?_) fun h => ?_ | fail))
  (apply Fin.returnM (H2 := H); assumption; exact .inl rfl; exact rfl; exact Marks.nil _; (exact a_res); (simp only [retv]; rfl); (exact a_arr))
  exact ⟨hMM, rfl, .inr ⟨hR, 11, rfl, by decide⟩⟩
end Go.Sx
end
section
namespace Go.Sx
open Go Go.Proofs Go.RowKit
attribute [local irreducible] C R Fin K Own OwnT Rd Pl Ok KOf RetOk OpsOf RP KP Res NoPanic KV KE MapS ItS EntS
variable {M M' : Mem} {H H1 H2 : Hp}
abbrev Fs := List (Txt × Txt)
inductive De where
 | app (n b : Txt)
 | trc (n : Txt) (k : Nat)
 | ren (n t : Txt)
 | rem (n : Txt)
def fileD (F : Fs) (n : Txt) : Txt := (getS F n).getD []
def doF (F : Fs) : De → Fs
 | .app n b => putS F n (fileD F n ++ b)
 | .trc n k => putS F n ((fileD F n).take k)
 | .ren n t => putS (delS F n) t (fileD F n)
 | .rem n => delS F n
def sumF (F : Fs) : Nat := (F.map (fun p => p.2.length)).sum
def DeC (M : Mem) : De → List Value → Prop
 | .app n b, c => ∃ bv, c = [.int .i64 0, str n, str [], bv, .int .i64 0] ∧ PlB M bv b
 | .trc n k, c => c = [.int .i64 1, str n, str [], .slice none 0 0, .int .i64 (k : Int)]
 | .ren n t, c => c = [.int .i64 2, str n, str t, .slice none 0 0, .int .i64 0]
 | .rem n, c => c = [.int .i64 3, str n, str [], .slice none 0 0, .int .i64 0]
theorem DeC.mono {x : De} {c : List Value} (hM : M.le M') (h : DeC M x c) : DeC M' x c := by
 cases x with
 | app n b =>
  obtain ⟨bv, h1, h2⟩ := h
  exact ⟨bv, h1, h2.mono hM⟩
 | trc n k => exact h
 | ren n t => exact h
 | rem n => exact h
theorem PlB.nil : PlB M (.slice none 0 0) [] := ⟨none, 0, rfl, Nat.le_refl _, by omega, Pl.nil⟩
theorem DeC.cells {x : De} {c : List Value} (h : DeC M x c) : c.length = 5 ∧ (∀ u ∈ c, u.oneCell' = true) := by
 cases x with
 | app n b =>
  obtain ⟨bv, rfl, A, cap, rfl, _, _, _⟩ := h
  exact ⟨rfl, fun u hu => by
   simp only [List.mem_cons, List.not_mem_nil, or_false] at hu
   rcases hu with rfl | rfl | rfl | rfl | rfl <;> rfl⟩
 | trc n k =>
  subst h
  exact ⟨rfl, fun u hu => by
   simp only [List.mem_cons, List.not_mem_nil, or_false] at hu
   rcases hu with rfl | rfl | rfl | rfl | rfl <;> rfl⟩
 | ren n t =>
  subst h
  exact ⟨rfl, fun u hu => by
   simp only [List.mem_cons, List.not_mem_nil, or_false] at hu
   rcases hu with rfl | rfl | rfl | rfl | rfl <;> rfl⟩
 | rem n =>
  subst h
  exact ⟨rfl, fun u hu => by
   simp only [List.mem_cons, List.not_mem_nil, or_false] at hu
   rcases hu with rfl | rfl | rfl | rfl | rfl <;> rfl⟩
def FsR (M : Mem) (l : ML) (F : Fs) : Prop := ∃ es : List (Txt × (Value × Txt)), l = es.map (fun p => (p.1, p.2.1)) ∧ (∀ p ∈ es, PlB M p.2.1 p.2.2) ∧ (es.map (fun p => (p.1, p.2.2))).Perm F
theorem FsR.mono {l : ML} {F : Fs} (hM : M.le M') (h : FsR M l F) : FsR M' l F := by
 obtain ⟨es, h1, h2, h3⟩ := h
 exact ⟨es, h1, fun p hp => (h2 p hp).mono hM, h3⟩
theorem FsR.nil : FsR M [] [] := ⟨[], rfl, fun _ h => absurd h List.not_mem_nil, List.Perm.refl _⟩
theorem FsR.len {l : ML} {F : Fs} (h : FsR M l F) : l.length = F.length := by
 obtain ⟨es, rfl, _, h3⟩ := h
 have := h3.length_eq
 rw [List.length_map] at this ⊢
 exact this
theorem FsR.keys {l : ML} {F : Fs} (h : FsR M l F) : (keyS l).Perm (keyS F) := by
 obtain ⟨es, rfl, _, h3⟩ := h
 have := h3.map Prod.fst
 rw [List.map_map] at this
 unfold keyS
 rw [List.map_map]
 exact this
theorem FsR.get {l : ML} {F : Fs} (h : FsR M l F) (hn : (keyS l).Nodup) (k : Txt) : PlB M ((getS l k).getD (.slice none 0 0)) (fileD F k) ∧ (getS l k).isSome = (getS F k).isSome := by
 obtain ⟨es, rfl, h2, h3⟩ := h
 have hn2 : (keyS (es.map (fun p => (p.1, p.2.2)))).Nodup := by
  unfold keyS at hn ⊢
  rw [List.map_map] at hn ⊢
  exact hn
 have hn0 : (keyS es).Nodup := by
  unfold keyS at hn ⊢
  rw [List.map_map] at hn
  exact hn
 have e1 := getS_perm h3 hn2 k
 unfold fileD
 rw [← e1, getS_map (fun p : Value × Txt => p.1), getS_map (fun p : Value × Txt => p.2)]
 cases hg : getS es k with
 | none => exact ⟨PlB.nil, rfl⟩
 | some p => exact ⟨h2 _ ((getS_mem hn0).1 hg), rfl⟩
theorem FsR.put {l : ML} {F : Fs} {k : Txt} {v : Value} {b : Txt} (h : FsR M l F) (hv : PlB M v b) : FsR M (putS l k v) (putS F k b) := by
 obtain ⟨es, rfl, h2, h3⟩ := h
 refine ⟨putS es k (v, b), ?_, fun p hp => ?_, ?_⟩
 ·rw [putS_map (fun p : Value × Txt => p.1)]
 ·unfold putS at hp
  split at hp
  ·obtain ⟨q, hq, rfl⟩ := List.mem_map.1 hp
   by_cases hk : q.1 = k
   ·rw [if_pos hk]; exact hv
   ·rw [if_neg hk]; exact h2 q hq
  ·rcases List.mem_append.1 hp with hp | hp
   ·exact h2 p hp
   ·rw [List.mem_singleton] at hp
    subst hp
    exact hv
 ·rw [putS_map (fun p : Value × Txt => p.2)]
  exact putS_perm h3 k b
theorem FsR.del {l : ML} {F : Fs} {k : Txt} (h : FsR M l F) : FsR M (delS l k) (delS F k) := by
 obtain ⟨es, rfl, h2, h3⟩ := h
 refine ⟨delS es k, ?_, fun p hp => h2 p (List.mem_filter.1 hp).1, ?_⟩
 ·rw [delS_map (fun p : Value × Txt => p.1)]
 ·rw [delS_map (fun p : Value × Txt => p.2)]
  exact delS_perm h3 k
theorem FsR.mid {r1 r2 : ML} {k : Txt} {v : Value} {F : Fs} (h : FsR M (r1 ++ (k, v) :: r2) F) : ∃ b G, PlB M v b ∧ F.Perm ((k, b) :: G) ∧ FsR M (r1 ++ r2) G := by
 obtain ⟨es, h1, h2, h3⟩ := h
 obtain ⟨e1, e3, rfl, q1, q2⟩ := List.map_eq_append_iff.1 h1.symm
 obtain ⟨⟨k', v', b⟩, e2, rfl, q3, q4⟩ := List.map_eq_cons_iff.1 q2
 injection q3 with q5 q6
 dsimp only at q5 q6
 subst q5 q6
 refine ⟨b, (e1 ++ e2).map (fun p => (p.1, p.2.2)), h2 _ (List.mem_append_right _ (List.mem_cons_self ..)), ?_, e1 ++ e2, ?_, fun p hp => h2 p ?_, List.Perm.refl _⟩
 ·refine h3.symm.trans ?_
  rw [List.map_append, List.map_cons, List.map_append]
  exact List.perm_middle
 ·rw [List.map_append, q1, q4]
 ·rcases List.mem_append.1 hp with hp | hp
  ·exact List.mem_append_left _ hp
  ·exact List.mem_append_right _ (List.mem_cons_of_mem _ hp)
theorem FsR.perm {l : ML} {F G : Fs} (h : FsR M l F) (hp : F.Perm G) : FsR M l G := by
 obtain ⟨es, h1, h2, h3⟩ := h
 exact ⟨es, h1, h2, h3.trans hp⟩
theorem sumF_perm {F G : Fs} (h : F.Perm G) : sumF F = sumF G := (h.map _).sum_nat
theorem sumF_cons {k b : Txt} {G : Fs} : sumF ((k, b) :: G) = b.length + sumF G := rfl
def FsO (M : Mem) (o : Obj) (F : Fs) : Prop := ∃ l, MapS o l ∧ FsR M l F
theorem FsO.mono {o : Obj} {F : Fs} (hM : M.le M') (h : FsO M o F) : FsO M' o F := by
 obtain ⟨l, h1, h2⟩ := h
 exact ⟨l, h1, h2.mono hM⟩
theorem FsO.nodup {o : Obj} {F : Fs} (h : FsO M o F) : (keyS F).Nodup := by
 obtain ⟨l, h1, h2⟩ := h
 exact h2.keys.nodup_iff.1 h1.nodup
theorem FsO.empty : FsO M (.map #[] 0) [] := ⟨[], MapS.empty, FsR.nil⟩
theorem FsO.perm {o : Obj} {F G : Fs} (h : FsO M o F) (hp : F.Perm G) : FsO M o G := by
 obtain ⟨l, h1, h2⟩ := h
 exact ⟨l, h1, h2.perm hp⟩
def Fit (F : Fs) (x : De) : Prop := sumF (doF F x) ≤ 1048576 ∧ match x with
 | .trc n k => k ≤ (fileD F n).length
 | _ => True
theorem le_sum {a : Nat} : ∀ {l : List Nat}, a ∈ l → a ≤ l.sum
 | x :: l, h => by
  rw [List.sum_cons]
  rcases List.mem_cons.1 h with rfl | h
  ·omega
  ·have := le_sum h
   omega
theorem getS_len {F : Fs} {n b : Txt} : getS F n = some b → b.length ≤ sumF F := by
 intro h
 obtain ⟨p, h1, h2⟩ := Option.map_eq_some_iff.1 h
 have h4 := List.mem_of_find?_eq_some h1
 rw [← h2]
 exact le_sum (List.mem_map.2 ⟨p, h4, rfl⟩)
theorem fileD_len {F : Fs} {n : Txt} : (fileD F n).length ≤ sumF F := by
 unfold fileD
 cases h : getS F n with
 | none => exact Nat.zero_le _
 | some b => exact getS_len h
theorem getS_put {α : Type} {l : List (Txt × α)} {k : Txt} {v : α} (hn : (keyS l).Nodup) : getS (putS l k v) k = some v := by
 refine (getS_mem (putS_keys hn)).2 ?_
 unfold putS
 split
 ·rename_i h
  obtain ⟨p, h1, h2⟩ := List.mem_map.1 h
  exact List.mem_map.2 ⟨p, h1, if_pos h2⟩
 ·exact List.mem_append_right _ (List.mem_singleton.2 rfl)
theorem fileD_put {F : Fs} {n b : Txt} (hn : (keyS F).Nodup) : fileD (putS F n b) n = b := by
 unfold fileD
 rw [getS_put hn]
 rfl
theorem doF_keys {F : Fs} {x : De} (hn : (keyS F).Nodup) : (keyS (doF F x)).Nodup := by
 cases x with
 | app n b => exact putS_keys hn
 | trc n k => exact putS_keys hn
 | ren n t => exact putS_keys (delS_keys hn)
 | rem n => exact delS_keys hn
theorem fileD_perm {F G : Fs} (h : F.Perm G) (hn : (keyS F).Nodup) (n : Txt) : fileD F n = fileD G n := by
 unfold fileD
 rw [getS_perm h hn]
theorem doF_perm {F G : Fs} (h : F.Perm G) (hn : (keyS F).Nodup) (x : De) : (doF F x).Perm (doF G x) := by
 cases x with
 | app n b =>
  show (putS F n (fileD F n ++ b)).Perm (putS G n (fileD G n ++ b))
  rw [fileD_perm h hn]
  exact putS_perm h _ _
 | trc n k =>
  show (putS F n ((fileD F n).take k)).Perm (putS G n ((fileD G n).take k))
  rw [fileD_perm h hn]
  exact putS_perm h _ _
 | ren n t =>
  show (putS (delS F n) t (fileD F n)).Perm (putS (delS G n) t (fileD G n))
  rw [fileD_perm h hn]
  exact putS_perm (delS_perm h _) _ _
 | rem n => exact delS_perm h _
theorem FsO.use {o : Obj} {F : Fs} (h : FsO M o F) : ∃ l : ML, MapS o l ∧ FsR M l F ∧ (keyS l).Nodup := by
 obtain ⟨l, h1, h2⟩ := h
 exact ⟨l, h1, h2, h1.nodup⟩
theorem does_K {nb : Nat} {o : Obj} {F : Fs} {x : De} {c : List Value} (hf : FsO M o F) (hx : DeC M x c) (hfit : Fit F x) : K Tryz.prog 59 [.map (some nb), .agg c.toArray] M ((nb, o) :: H) fun v' M' H' => v' = .tuple #[] ∧ M.le M' ∧ ∃ o', FsO M' o' (doF F x) ∧ H' = (nb, o') :: H := by
 obtain ⟨l, hm, hr, hn⟩ := hf.use
 have hnF := hf.nodup
 clear hf
 refine K.enterK Tryz.func59 rfl rfl rfl ?_
 intro Q hNP hQ
 cases x with
 | app n b =>
  obtain ⟨bv, rfl, hb⟩ := hx
  have hg := (hr.get hn n).1
  have hlen : (fileD F n ++ b).length ≤ 1048576 := by
   have h1 : fileD (doF F (.app n b)) n = fileD F n ++ b := fileD_put hnF
   rw [← h1]
   exact Nat.le_trans fileD_len hfit.1
  rw [List.length_append] at hlen
  obtain ⟨A1, c1, e1, _, _, p1⟩ := hg
  obtain ⟨A2, c2, rfl, _, _, p2⟩ := hb
  (repeat' (first | (refine a_bz ?_; intro bz) | (refine a_bx ?_; intro bx) | (refine a_go ?_; intros) | refine a_sp (fun h => ?_) fun h => ?_ | fail))
  (apply C.regionE (isA := [0, 1, 2, 4, 5, 6, 7, 9, 10, 3, 8, 11]) (ksA := [true, true, true, true, true, true, true, true, true, false, false, false]) (isB := [12]) (ksB := [0]) (Hs := [(bx, .cells [.int .i64 0, str n, str [], .slice A2 b.length c2, .int .i64 0].toArray 109 (0, 0)), (nb, o)]); exact Mix.h; (first | exact Arr.all _ | (exact a_arr)); (exact a_np); (exact a_picked); (exact a_picked); kernel_rfl; intro _ e; subst e)
  (repeat' (first | (apply RQ.step; intro _ _ _; (apply Ok.lookupS1 (o := o); exact rfl; exact rfl; exact a_mm; exact hm); exact rfl) | (apply RQ.step; intro _ _ _; (exact a_ok); exact rfl) | (apply RQ.stepT; exact rfl; exact rfl; exact rfl; intro _ _ _; (exact a_ok); exact rfl) | (apply RQ.stepF; exact rfl; exact rfl; exact rfl; exact rfl; exact rfl)))
  rw [e1]
  (repeat' (first | fail | (apply RQ.step; intro _ _ _; (exact a_ok); exact rfl) | (apply RQ.stepT; exact rfl; exact rfl; exact rfl; intro _ _ _; (exact a_ok); exact rfl) | (apply RQ.stepF; exact rfl; exact rfl; exact rfl; exact rfl; exact rfl)))
  (apply RQ.eff; intro Kc hKc ops0)
  (apply R.buildSlice0; exact rfl; intro bz)
  (apply R.nil; apply Fin.kq hKc; exact Mem.le_refl _; (exact a_arr))
  (apply RQ.eff; intro Kc hKc ops0)
  (apply R.append (news := (fileD F n).map bv); exact rfl; exact rfl; exact Own.empty; (exact a_tk); exact Pl.rd p1; (rw [List.length_map, Nat.mul_one]); exact bv_one _; omega; exact rfl; decide; decide; exact rfl; rintro v' hp' hown')
  (apply R.nil; apply Fin.kq hKc; exact Mem.le_refl _; (exact a_arr))
  obtain ⟨A3, c3, rfl, _, _⟩ := hown'.form
  rw [List.nil_append] at hown'
  (apply RQ.eff; intro Kc hKc ops0)
  (apply R.append (news := b.map bv); exact rfl; exact rfl; exact hown'; (exact a_tk); exact Pl.rd p2; (rw [List.length_map, Nat.mul_one]); exact bv_one _; omega; exact rfl; decide; decide; exact rfl; rintro v4 hp4 hown4)
  rw [← List.map_append, show 0 + (fileD F n).length + b.length = (fileD F n ++ b).length by rw [List.length_append]; omega] at hown4
  (apply R.ice (hp := hp4) (Arr.all _); intro M2 hM2 hin)
  have hb4 := hown4.plB hin
  (apply R.nil; apply Fin.kq hKc; exact hM2; (exact a_arr))
  apply RQ.nil
  (repeat' (first | refine a_op ?_ | (apply RP.callQ; (exact a_evs); exact rfl)))
  (apply RP.eff; intro Kc hKc ops0)
  (apply R.putS (k := n) (v := v4) (l := l) (o := o); exact rfl; exact rfl; exact rfl; (exact a_at); exact hm; intro o2 hm2)
  (apply R.nil; apply Fin.kp hKc; exact hM2; (exact a_arr))
  (first | apply RP.nil0 | apply RP.nil)
  (repeat' (first | (refine a_bz ?_; intro bz) | (refine a_bx ?_; intro bx) | (refine a_go ?_; intros) | refine a_sp (fun h => ?_) fun h => ?_ | fail))
  (refine Fin.rA ((nb, o2) :: H) ?_)
  exact ⟨rfl, hM2, o2, ⟨_, hm2, (hr.mono hM2).put hb4⟩, rfl⟩
 | trc n k =>
  subst hx
  have hg := (hr.get hn n).1
  have hk : k ≤ (fileD F n).length := hfit.2
  obtain ⟨A1, c1, e1, q1, q2, p1⟩ := hg
  have hb4 : PlB M (.slice A1 ((k : Int)).toNat c1) ((fileD F n).take k) := ⟨A1, c1, by rw [List.length_take, Nat.min_eq_left hk]; rfl, by rw [List.length_take]; omega, q2, by rw [List.map_take]; exact p1.take k⟩
  (repeat' (first | (refine a_bz ?_; intro bz) | (refine a_bx ?_; intro bx) | (refine a_go ?_; intros) | refine a_sp (fun h => ?_) fun h => ?_ | fail))
  (apply C.regionE (isA := [0, 1, 2, 3, 4, 5, 6, 7, 8, 9]) (ksA := [true, true, true, true, true, true, true, true, true, true]) (isB := [10]) (ksB := [0]) (Hs := [(bx, .cells [.int .i64 1, str n, str [], .slice none 0 0, .int .i64 ↑k].toArray 109 (0, 0)), (nb, o)]); exact Mix.h; (first | exact Arr.all _ | (exact a_arr)); (exact a_np); (exact a_picked); (exact a_picked); kernel_rfl; intro _ e; subst e)
  (repeat' (first | (apply RQ.step; intro _ _ _; (apply Ok.lookupS1 (o := o); exact rfl; exact rfl; exact a_mm; exact hm); exact rfl) | (apply RQ.step; intro _ _ _; (exact a_ok); exact rfl) | (apply RQ.stepT; exact rfl; exact rfl; exact rfl; intro _ _ _; (exact a_ok); exact rfl) | (apply RQ.stepF; exact rfl; exact rfl; exact rfl; exact rfl; exact rfl)))
  rw [e1]
  (repeat' (first | (apply RQ.step; intro _ _ _; (apply Ok.sliceHi; exact rfl; exact rfl; omega; omega); exact rfl) | (apply RQ.step; intro _ _ _; (exact a_ok); exact rfl) | (apply RQ.stepT; exact rfl; exact rfl; exact rfl; intro _ _ _; (exact a_ok); exact rfl) | (apply RQ.stepF; exact rfl; exact rfl; exact rfl; exact rfl; exact rfl)))
  apply RQ.nil
  (repeat' (first | refine a_op ?_ | (apply RP.callQ; (exact a_evs); exact rfl)))
  (apply RP.eff; intro Kc hKc ops0)
  (apply R.putS (k := n) (v := .slice A1 ((k : Int)).toNat c1) (l := l) (o := o); exact rfl; exact rfl; exact rfl; (exact a_at); exact hm; intro o2 hm2)
  (apply R.nil; apply Fin.kp hKc; exact Mem.le_refl _; (exact a_arr))
  (first | apply RP.nil0 | apply RP.nil)
  (repeat' (first | (refine a_bz ?_; intro bz) | (refine a_bx ?_; intro bx) | (refine a_go ?_; intros) | refine a_sp (fun h => ?_) fun h => ?_ | fail))
  (refine Fin.rA ((nb, o2) :: H) ?_)
  exact ⟨rfl, Mem.le_refl _, o2, ⟨_, hm2, hr.put hb4⟩, rfl⟩
 | ren n t =>
  subst hx
  have hg := (hr.get hn n).1
  have hr2 := hr.del (k := n)
  (repeat' (first | refine a_mv ?_ | (apply R.step; (apply Ok.lookupS1 (o := o); exact rfl; exact rfl; exact a_mm; exact hm); exact rfl) | (refine a_bz ?_; intro bz) | (refine a_bx ?_; intro bx) | (refine a_go ?_; intros) | refine a_sp (fun h => ?_) fun h => ?_ | fail))
  (apply R.delS (k := n) (l := l) (o := o); exact rfl; exact rfl; (exact a_at); exact hm; exact rfl; intro o2 hm2)
  (repeat' (first | (refine a_bz ?_; intro bz) | (refine a_bx ?_; intro bx) | (refine a_go ?_; intros) | refine a_sp (fun h => ?_) fun h => ?_ | fail))
  (apply R.putS (k := t) (v := (getS l n).getD (.slice none 0 0)) (l := delS l n) (o := o2); exact rfl; exact rfl; exact rfl; (exact a_at); exact hm2; intro o3 hm3)
  (repeat' (first | (refine a_bz ?_; intro bz) | (refine a_bx ?_; intro bx) | (refine a_go ?_; intros) | refine a_sp (fun h => ?_) fun h => ?_ | fail))
  (refine Fin.rA ((nb, o3) :: H) ?_)
  exact ⟨rfl, Mem.le_refl _, o3, ⟨_, hm3, hr2.put hg⟩, rfl⟩
 | rem n =>
  subst hx
  have hr2 := hr.del (k := n)
  (repeat' (first | (refine a_bz ?_; intro bz) | (refine a_bx ?_; intro bx) | (refine a_go ?_; intros) | refine a_sp (fun h => ?_) fun h => ?_ | fail))
  (apply R.delS (k := n) (l := l) (o := o); exact rfl; exact rfl; (exact a_at); exact hm; exact rfl; intro o2 hm2)
  (repeat' (first | (refine a_bz ?_; intro bz) | (refine a_bx ?_; intro bx) | (refine a_go ?_; intros) | refine a_sp (fun h => ?_) fun h => ?_ | fail))
  (refine Fin.rA ((nb, o2) :: H) ?_)
  exact ⟨rfl, Mem.le_refl _, o2, ⟨_, hm2, hr2⟩, rfl⟩
end Go.Sx
end
section
namespace Go.Sx
open Go Go.Proofs Go.RowKit
attribute [local irreducible] C R Fin K Own OwnT Rd Pl Ok KOf RetOk OpsOf RP KP Res NoPanic KV KE MapS ItS EntS FsO FsR
variable {M M' : Mem} {H H1 H2 : Hp}
def dkB (room : Int) (sb nb : Nat) (pv : Value) (fuse : Int) (down : Bool) : Obj := .cells [.int .i64 room, .map (some sb), .map (some nb), pv, .int .i64 fuse, .bool down].toArray 107 (0, 0)
theorem counts_K {db sb nb : Nat} {room fuse : Int} {pv : Value} {down : Bool} (hf : -1 ≤ fuse ∧ fuse ≤ 9223372036854775807) : K Tryz.prog 65 [.pointer (some ⟨db, 0, none⟩)] M ((db, dkB room sb nb pv fuse down) :: H) fun v' M' H' => M' = M ∧
  ((v' = .bool false ∧ (down = true ∨ fuse = 0) ∧ H' = (db, dkB room sb nb pv fuse true) :: H) ∨ (v' = .bool true ∧ down = false ∧ fuse ≠ 0 ∧ H' = (db, dkB room sb nb pv (if 0 < fuse then fuse - 1 else fuse) false) :: H)) := by
 refine K.enterK Tryz.func65 rfl rfl rfl ?_
 intro Q hNP hQ
 unfold dkB at hQ ⊢
 cases down with
 | true =>
  (repeat' (first | (refine a_go ?_; intros) | refine a_sp (fun h => ?_) fun h => ?_ | fail))
  ·(refine Fin.rt ?_)
   exact ⟨rfl, .inl ⟨rfl, .inl rfl, rfl⟩⟩
  ·(refine Fin.rt ?_)
   exact ⟨rfl, .inl ⟨rfl, .inl rfl, rfl⟩⟩
 | false =>
  (repeat' (first | (refine a_go ?_; intros) | refine a_sp (fun h => ?_) fun h => ?_ | fail))
  ·have h : fuse = 0 := by assumption
   (refine Fin.rt ?_)
   exact ⟨rfl, .inl ⟨rfl, .inr h, rfl⟩⟩
  ·have h : fuse ≠ 0 := by assumption
   have h2 : 0 < fuse := by assumption
   (refine Fin.rt ?_)
   exact ⟨rfl, .inr ⟨rfl, rfl, h, by rw [if_pos h2]⟩⟩
  ·have h : fuse ≠ 0 := by assumption
   have h2 : ¬ 0 < fuse := by assumption
   (refine Fin.rt ?_)
   exact ⟨rfl, .inr ⟨rfl, rfl, h, by rw [if_neg h2]⟩⟩
def namedB (n : Txt) : Bool := decide (1 ≤ n.length ∧ n.length ≤ 16)
theorem named_K {n : Txt} (hn : n.length ≤ 9223372036854775807) : K Tryz.prog 66 [str n] M H fun v' M' H' => v' = .bool (namedB n) ∧ M' = M ∧ H' = H := by
 refine K.enterK Tryz.func66 rfl rfl rfl ?_
 intro Q hNP hQ
 unfold str
 (repeat' (first | (refine a_go ?_; intros) | refine a_sp (fun h => ?_) fun h => ?_ | fail))
 ·have h : (1 : Int) ≤ (n.length : Int) := by assumption
  (refine Fin.rt ?_)
  refine ⟨?_, rfl, rfl⟩
  unfold namedB
  congr 1
  rw [decide_eq_decide]
  have hz : (⟨n.toArray⟩ : ByteArray).size = n.length := List.size_toArray ..
  constructor <;> intro <;> omega
 ·have h : ¬ (1 : Int) ≤ (n.length : Int) := by assumption
  (refine Fin.rt ?_)
  refine ⟨?_, rfl, rfl⟩
  unfold namedB
  rw [decide_eq_false (fun h1 => h (by omega))]
theorem within_K (x m : Int) (hm : 0 < m) (hm2 : m ≤ 9223372036854775807) : K Tryz.prog 58 [.int .i64 x, .int .i64 m] M H fun v M' H' => v = .int .i64 (x % m) ∧ M' = M ∧ H' = H := by
 obtain ⟨he, h1, h2⟩ := pick_eq x m hm
 refine K.enterK Tryz.func58 rfl rfl rfl ?_
 intro Q hNP hQ
 (repeat' (first | (apply R.step; (exact a_ok); exact rfl) | (first | (with_reducible first | apply R.nil | apply C.ret | apply C.block | apply C.skip | apply C.exit | apply Fin.thenRet | apply Fin.thenExit | apply Fin.blockNormal | apply Fin.blockRet | apply Fin.blockExit) | (with_reducible apply Fin.thenK; assumption) | (with_reducible apply C.seqK; intro _ _) | (with_reducible apply C.regionK; intro _ _) | (with_reducible apply C.regionQK; exact Mix.h; kernel_rfl; intro _ _) | (with_reducible apply Fin.blockOther; exact rfl)) | (first | (apply R.store; exact rfl; exact rfl; exact rfl; (exact a_at); (exact a_blit); exact rfl; (focus (simp [Value.oneCell']; done))) | (apply R.buildSlice0; exact rfl; intro bz) | (apply R.box; exact rfl; (simp only [Value.cells]; rfl); exact rfl; intro bx) | (apply R.alloc; (simp only [Value.cells]; rfl); exact rfl; intro ba) | (apply R.buildSlice; (exact a_prt); exact rfl; exact rfl; (exact a_fills); exact rfl; intro bl)) | (first | (apply R.guardT; assumption; exact rfl; exact rfl; exact rfl) | (apply R.guardF; assumption; exact rfl; exact rfl; exact rfl; exact rfl; exact rfl) | (apply R.guardU; assumption; exact rfl; exact rfl; exact rfl; exact rfl) | (apply R.guardDec; assumption; exact rfl; exact rfl; (intro h; skip; rotate_left; intro h; skip; rotate_left)) | (apply R.guardBeq; assumption; exact rfl; exact rfl; (intro h; skip; rotate_left; intro h; skip; rotate_left)) | (apply R.guardBne; assumption; exact rfl; exact rfl; (intro h; skip; rotate_left; intro h; skip; rotate_left)) | (apply R.guardNDec; assumption; exact rfl; exact rfl; (intro h; skip; rotate_left; intro h; skip; rotate_left)) | (apply R.guardNot; assumption; exact rfl; exact rfl; (intro h; skip; rotate_left; intro h; skip; rotate_left)) | (apply R.guardC; assumption; exact rfl; exact rfl; (intro h; skip; rotate_left; intro h; skip; rotate_left))) | (first | (apply C.condT; exact rfl) | (apply C.condF; exact rfl) | (apply C.condDec; exact rfl; (intro h; skip; rotate_left; intro h; skip; rotate_left)) | (apply C.condBeq; exact rfl; (intro h; skip; rotate_left; intro h; skip; rotate_left)) | (apply C.condBne; exact rfl; (intro h; skip; rotate_left; intro h; skip; rotate_left)) | (apply C.condNDec; exact rfl; (intro h; skip; rotate_left; intro h; skip; rotate_left)) | (apply C.condNot; exact rfl; (intro h; skip; rotate_left; intro h; skip; rotate_left)) | (apply C.cond; exact rfl; (intro h; skip; rotate_left; intro h; skip; rotate_left)))))
 ·(refine Fin.rt ?_)
  have h : x.tmod m < 0 := by assumption
  exact ⟨by rw [← he, if_pos h], rfl, rfl⟩
 ·(refine Fin.rt ?_)
  have h : ¬ x.tmod m < 0 := by assumption
  exact ⟨by rw [← he, if_neg h], rfl, rfl⟩
theorem pick_K (x m : Int) (hm : 0 < m) (hm2 : m ≤ 9223372036854775807) : K Tryz.prog 5 [.int .i64 x, .int .i64 m] M H fun v M' H' => v = .int .i64 (x % m) ∧ M' = M ∧ H' = H := by
 obtain ⟨he, h1, h2⟩ := pick_eq x m hm
 refine K.enterK Tryz.func5 rfl rfl rfl ?_
 intro Q hNP hQ
 (repeat' (first | (apply R.step; (exact a_ok); exact rfl) | (first | (with_reducible first | apply R.nil | apply C.ret | apply C.block | apply C.skip | apply C.exit | apply Fin.thenRet | apply Fin.thenExit | apply Fin.blockNormal | apply Fin.blockRet | apply Fin.blockExit) | (with_reducible apply Fin.thenK; assumption) | (with_reducible apply C.seqK; intro _ _) | (with_reducible apply C.regionK; intro _ _) | (with_reducible apply C.regionQK; exact Mix.h; kernel_rfl; intro _ _) | (with_reducible apply Fin.blockOther; exact rfl)) | (first | (apply R.store; exact rfl; exact rfl; exact rfl; (exact a_at); (exact a_blit); exact rfl; (focus (simp [Value.oneCell']; done))) | (apply R.buildSlice0; exact rfl; intro bz) | (apply R.box; exact rfl; (simp only [Value.cells]; rfl); exact rfl; intro bx) | (apply R.alloc; (simp only [Value.cells]; rfl); exact rfl; intro ba) | (apply R.buildSlice; (exact a_prt); exact rfl; exact rfl; (exact a_fills); exact rfl; intro bl)) | (first | (apply R.guardT; assumption; exact rfl; exact rfl; exact rfl) | (apply R.guardF; assumption; exact rfl; exact rfl; exact rfl; exact rfl; exact rfl) | (apply R.guardU; assumption; exact rfl; exact rfl; exact rfl; exact rfl) | (apply R.guardDec; assumption; exact rfl; exact rfl; (intro h; skip; rotate_left; intro h; skip; rotate_left)) | (apply R.guardBeq; assumption; exact rfl; exact rfl; (intro h; skip; rotate_left; intro h; skip; rotate_left)) | (apply R.guardBne; assumption; exact rfl; exact rfl; (intro h; skip; rotate_left; intro h; skip; rotate_left)) | (apply R.guardNDec; assumption; exact rfl; exact rfl; (intro h; skip; rotate_left; intro h; skip; rotate_left)) | (apply R.guardNot; assumption; exact rfl; exact rfl; (intro h; skip; rotate_left; intro h; skip; rotate_left)) | (apply R.guardC; assumption; exact rfl; exact rfl; (intro h; skip; rotate_left; intro h; skip; rotate_left))) | (first | (apply C.condT; exact rfl) | (apply C.condF; exact rfl) | (apply C.condDec; exact rfl; (intro h; skip; rotate_left; intro h; skip; rotate_left)) | (apply C.condBeq; exact rfl; (intro h; skip; rotate_left; intro h; skip; rotate_left)) | (apply C.condBne; exact rfl; (intro h; skip; rotate_left; intro h; skip; rotate_left)) | (apply C.condNDec; exact rfl; (intro h; skip; rotate_left; intro h; skip; rotate_left)) | (apply C.condNot; exact rfl; (intro h; skip; rotate_left; intro h; skip; rotate_left)) | (apply C.cond; exact rfl; (intro h; skip; rotate_left; intro h; skip; rotate_left)))))
 ·(refine Fin.rt ?_)
  have h : x.tmod m < 0 := by assumption
  exact ⟨by rw [← he, if_pos h], rfl, rfl⟩
 ·(refine Fin.rt ?_)
  have h : ¬ x.tmod m < 0 := by assumption
  exact ⟨by rw [← he, if_neg h], rfl, rfl⟩
def usedD (down : Bool) (F : Fs) : Nat := if down then 0 else sumF F
structure UsX where
 a : Nat
 oi : Obj
 rest : ML
 G : Fs
theorem used_K {db sb nb : Nat} {room fuse : Int} {pv : Value} {down : Bool} {no : Obj} {F : Fs} (hf : FsO M no F) (hs : sumF F ≤ 1099511627776) : K Tryz.prog 67 [.pointer (some ⟨db, 0, none⟩)] M ((db, dkB room sb nb pv fuse down) :: (nb, no) :: H) fun v' M' H' => v' = .int .i64 (usedD down F : Int) ∧ M' = M ∧ H' = (db, dkB room sb nb pv fuse down) :: (nb, no) :: H := by
 obtain ⟨l, hm, hr, hn⟩ := hf.use
 clear hf
 refine K.enterK Tryz.func67 rfl rfl rfl ?_
 intro Q hNP hQ
 unfold dkB at hQ ⊢
 (repeat' (first | (refine a_go ?_; intros) | refine a_sp (fun h => ?_) fun h => ?_ | fail))
 (apply R.rangeS (b := nb) (o := no); exact rfl; exact a_mm; exact hm; exact rfl; intro it oi hit)
 (repeat' (first | (refine a_go ?_; intros) | refine a_sp (fun h => ?_) fun h => ?_ | fail))
 apply C.loop (fun y : UsX => ItS y.oi no nb y.rest ∧ FsR M y.rest y.G ∧ y.a + usedD down y.G = usedD down F) (fun y => [(0, .pointer (some ⟨db, 0, none⟩)), (3, .int .i64 (y.a : Int)), (10, .pointer (some ⟨it, 0, none⟩))]) (fun _ => M) (fun y => (it, y.oi) :: (db, .cells [.int .i64 room, .map (some sb), .map (some nb), pv, .int .i64 fuse, .bool down].toArray 107 (0, 0)) :: (nb, no) :: H) (fun y => y.rest.length) ⟨0, oi, l, F⟩
 ·exact ⟨hit, hr, Nat.zero_add _⟩
 ·(exact a_subs)
 ·exact rfl
 ·exact rfl
 rintro ⟨a, oi, rest, G⟩ ⟨h1, h2, h3⟩
 dsimp only at h1 h2 h3 ⊢
 have hb : usedD down F ≤ 1099511627776 := by
  unfold usedD
  split <;> omega
 (repeat' (first | (refine a_go ?_; intros) | refine a_sp (fun h => ?_) fun h => ?_ | fail))
 apply R.nextS (it := it) (oi := oi) (b := nb) (o := no)
 ·exact rfl
 ·(exact a_at)
 ·exact a_mm
 ·exact h1
 ·exact rfl
 ·intro hz
  subst hz
  have hG : G = [] := List.eq_nil_of_length_eq_zero h2.len.symm
  subst hG
  (repeat' (first | (refine a_go ?_; intros) | refine a_sp (fun h => ?_) fun h => ?_ | fail))
  (refine Fin.rA ((db, .cells [.int .i64 room, .map (some sb), .map (some nb), pv, .int .i64 fuse, .bool down].toArray 107 (0, 0)) :: (nb, no) :: H) ?_)
  refine ⟨?_, rfl, rfl⟩
  have hz : usedD down [] = 0 := by unfold usedD; split <;> rfl
  rw [hz] at h3
  rw [← h3]
  rfl
 ·intro r1 k v r2 oi2 hrest h5 h6
  subst hrest
  obtain ⟨b, G2, q1, q2, q3⟩ := h2.mid
  obtain ⟨A1, c1, rfl, _, _, _⟩ := q1
  have hG : sumF G = b.length + sumF G2 := (sumF_perm q2).trans sumF_cons
  have hl : (r1 ++ r2).length < (r1 ++ (k, Value.slice A1 b.length c1) :: r2).length := by
   rw [List.length_append, List.length_append, List.length_cons]
   omega
  cases down with
  | true =>
   (repeat' (first | refine a_mv ?_ | (apply R.step; (apply Ok.entryS (h := h6); exact rfl; exact a_mm; exact a_mm); exact rfl) | (refine a_go ?_; intros) | refine a_sp (fun h => ?_) fun h => ?_ | fail))
   refine Fin.again (⟨a, oi2, r1 ++ r2, G2⟩ : UsX) ⟨h5, q3, h3⟩ hl ?_ rfl rfl
   (exact a_subs)
  | false =>
   have h4 : a + (b.length + sumF G2) = sumF F := by
    rw [← hG]
    exact h3
   (repeat' (first | refine a_mv ?_ | (apply R.step; (apply Ok.entryS (h := h6); exact rfl; exact a_mm; exact a_mm); exact rfl) | (refine a_go ?_; intros) | refine a_sp (fun h => ?_) fun h => ?_ | fail))
   refine Fin.again (⟨a + b.length, oi2, r1 ++ r2, G2⟩ : UsX) ⟨h5, q3, by show a + b.length + sumF G2 = sumF F; omega⟩ hl ?_ rfl rfl
   (exact a_subs)
end Go.Sx
end
section
namespace Go.Sx
open Go Go.Proofs Go.RowKit
attribute [local irreducible] C R Fin K Own OwnT Rd Pl Ok KOf RetOk OpsOf RP KP Res NoPanic KV
variable {M M' : Mem} {H H1 hrow : Hp}
def rng (e : En) : Prop := IntKind.i64.has e.kind ∧ IntKind.u64.has e.term ∧ IntKind.u64.has e.idx ∧ IntKind.i64.has e.conf
def mkE (i t : Int) (l : En) : En := ⟨l.conf % 3, max 1 t, i, if l.conf % 3 = 1 then 1 :: l.data.take 30 else [], if l.conf % 3 = 2 then 2 * (1 + l.term % 200 % 31) else 0⟩
def handE : Int → Int → List En → List En
 | _, _, [] => []
 | i, t, l :: ls => mkE (i + 1) (t + l.kind % 8 / 6) l :: handE (i + 1) (t + l.kind % 8 / 6) ls
theorem handE_drop {i t : Int} {ls : List En} {k : Nat} (hk : k < ls.length) : handE i t (ls.drop k) = mkE (i + 1) (t + ls[k].kind % 8 / 6) ls[k] :: handE (i + 1) (t + ls[k].kind % 8 / 6) (ls.drop (k + 1)) := by
 rw [List.drop_eq_getElem_cons hk]
 rfl
structure HdX where
 k : Nat
 kk : Int
 i : Int
 t : Int
 es : List En
 v : Value
 hrow : Hp
 M : Mem
theorem hEntries_K {v : Value} {ls : List En} {i t m : Int} (hl : EnL M v ls) (hr : ∀ e ∈ ls, rng e) (hi : 0 ≤ i ∧ i ≤ 144115188075855871) (ht : 0 ≤ t ∧ t ≤ 144115188075855871) (hm : 0 ≤ m ∧ m ≤ 1000) : K Tryz.prog 6 [.int .u64 i, .int .u64 t, v, .int .i64 m] M H fun v' M' H' => ∃ hrow, OwnP M' v' (handE i t (ls.take m.toNat)) hrow ∧ M.le M' ∧ H' = hrow ++ H := by
 obtain ⟨A, cap, ws, rfl, w1, w2, w3, w4⟩ := id hl
 refine K.enterK Tryz.func6 rfl rfl rfl ?_
 intro Q hNP hQ
 (repeat' (first | (refine a_bz ?_; intro bz) | (refine a_bx ?_; intro bx) | (refine a_ba ?_; intro ba) | (refine a_bl ?_; intro bl) | (refine a_go ?_; intros) | refine a_sp (fun h => ?_) fun h => ?_ | fail))
 apply C.loop (fun x : HdX => (x.k : Int) = x.kk ∧ x.k ≤ (ls.take m.toNat).length ∧ OwnP x.M x.v x.es x.hrow ∧ M.le x.M ∧ x.es.length = x.k ∧ i ≤ x.i ∧ x.i ≤ i + x.kk ∧ t ≤ x.t ∧ x.t ≤ t + x.kk ∧ handE i t (ls.take m.toNat) = x.es ++ handE x.i x.t ((ls.take m.toNat).drop x.k))
  (fun x => [(0, .int .u64 x.i), (1, .int .u64 x.t), (2, .slice A ls.length cap), (3, .int .i64 m), (8, .slice none 0 0), (9, x.v), (10, .int .i64 x.kk)]) (fun x => x.M) (fun x => x.hrow ++ H) (fun x => ls.length - x.k) ⟨0, 0, i, t, [], .slice none 0 0, [], M⟩
 ·exact ⟨rfl, Nat.zero_le _, OwnP.nil, Mem.le_refl _, rfl, by dsimp only; omega, by dsimp only; omega, by dsimp only; omega, by dsimp only; omega, rfl⟩
 ·(exact a_subs)
 ·exact rfl
 ·exact rfl
 rintro ⟨k, kk, i1, t1, es, v1, hrow1, M1⟩ ⟨hkk, hk, ho, hM1, hel, hi1, hi2, ht1, ht2, heq⟩
 dsimp only at hkk hk ho hM1 hel hi1 hi2 ht1 ht2 heq ⊢
 subst hkk
 rw [List.length_take] at hk
 obtain ⟨A1, c1, rfl, hc1, hc2⟩ := ho.form
 (repeat' (first | (refine a_bz ?_; intro bz) | (refine a_bx ?_; intro bx) | (refine a_ba ?_; intro ba) | (refine a_bl ?_; intro bl) | (refine a_go ?_; intros) | refine a_sp (fun h => ?_) fun h => ?_ | fail))
 ·have hlt : (k : Int) < (ls.length : Int) := by assumption
  have hlm : (k : Int) < m := by assumption
  have hka : k < ls.length := by omega
  have hkt : k < (ls.take m.toNat).length := by rw [List.length_take]; omega
  rw [handE_drop hkt, List.getElem_take] at heq
  have hrx := hr _ (List.getElem_mem hka)
  obtain ⟨b', o, c, e, fr, Ai, ci, rfl, hMb, hcell, _, hci1, hci2, hpi⟩ := en_at w3 w4 hka
  generalize ls[k] = x at heq hrx hcell hci1 hci2 hpi
  obtain ⟨r1, r2, r3, r4⟩ := hrx
  have hMb := hM1.2.2 _ _ hMb
  have r2 := u64_bd r2
  have c0' := hcell 0 _ rfl
  have c1' := hcell 1 _ rfl
  have c3' := hcell 3 _ rfl
  have c4' := hcell 4 _ rfl
  (repeat' (first | (refine a_bz ?_; intro bz) | (refine a_bx ?_; intro bx) | (refine a_ba ?_; intro ba) | (refine a_bl ?_; intro bl) | (refine a_go ?_; intros) | refine a_sp (fun h => ?_) fun h => ?_ | fail))
  (apply R.call; (exact a_evs); exact rfl); exact pick_K x.kind 8 (by omega) (by omega); rintro _ M2 _ ⟨rfl, rfl, rfl⟩
  (repeat' (first | (refine a_bz ?_; intro bz) | (refine a_bx ?_; intro bx) | (refine a_ba ?_; intro ba) | (refine a_bl ?_; intro bl) | (refine a_go ?_; intros) | refine a_sp (fun h => ?_) fun h => ?_ | fail))
  (apply R.call; (exact a_evs); exact rfl); exact pick_K x.conf 3 (by omega) (by omega); rintro _ M3 _ ⟨rfl, rfl, rfl⟩
  (repeat' (first | (refine a_bz ?_; intro bz) | (refine a_bx ?_; intro bx) | (refine a_ba ?_; intro ba) | (refine a_bl ?_; intro bl) | (refine a_go ?_; intros) | refine a_sp (fun h => ?_) fun h => ?_ | fail))
  ·have h1 : x.conf % 3 = 1 := by assumption
   have hmk : mkE (i1 + 1) (t1 + x.kind % 8 / 6) x = ⟨x.conf % 3, max 1 (t1 + x.kind % 8 / 6), i1 + 1, 1 :: x.data.take 30, 0⟩ := by unfold mkE; rw [if_pos h1, if_neg (by omega)]
   rw [hmk] at heq
   obtain ⟨vs, hot1, hpv⟩ := id ho
   (apply C.regionE (isA := [1, 2, 3, 4, 5, 6, 7, 8, 9, 10, 11, 12, 13, 0, 14]) (ksA := [true, true, true, true, true, true, true, true, true, true, true, true, true, false, false]) (isB := [15, 16]) (ksB := [1, 0]) (Hs := []); exact Mix.h; (first | exact Arr.all _ | (exact a_arr)); (exact a_np); (exact a_picked); (exact a_picked); kernel_rfl; intro _ e; subst e)
   (repeat' (first | (apply RQ.step; intro _ _ _; (apply Ok.sliceHi; exact rfl; exact rfl; omega; omega); exact rfl) | (apply RQ.step; intro _ _ _; (exact a_ok); exact rfl) | (apply RQ.stepT; exact rfl; exact rfl; exact rfl; intro _ _ _; (exact a_ok); exact rfl) | (apply RQ.stepF; exact rfl; exact rfl; exact rfl; exact rfl; exact rfl)))
   (apply RQ.eff; intro Kc hKc ops0)
   (first | (apply R.store; exact rfl; exact rfl; exact rfl; (exact a_at); (exact a_blit); exact rfl; (focus (simp [Value.oneCell']; done))) | (apply R.buildSlice0; exact rfl; intro bz) | (apply R.box; exact rfl; (simp only [Value.cells]; rfl); exact rfl; intro bx) | (apply R.alloc; (simp only [Value.cells]; rfl); exact rfl; intro ba) | (apply R.buildSlice; (exact a_prt); exact rfl; exact rfl; (exact a_fills); exact rfl; intro bl))
   (apply R.nil; apply Fin.kq hKc; exact Mem.le_refl _; exact Arr.all _)
   (apply RQ.eff; intro Kc hKc ops0)
   have hdl : (min (x.data.length : Int) 30).toNat = (x.data.take 30).length := by rw [List.length_take]; omega
   have hpt : Pl M3 Ai ((x.data.take 30).map bv) := by have h9 := (hpi.mono hM1).take 30; rwa [← List.map_take] at h9
   rw [hdl]
   (apply R.appendT (e := 5) (sz := 1) (m := 1) (xs := [bv 1]) (news := (x.data.take 30).map bv); exact rfl; exact rfl; exact OwnT.lit1; exact Tk.one _ _ _; exact hpt.rd; (rw [List.length_map, Nat.mul_one]); (intro u hu; obtain ⟨_, _, rfl⟩ := List.mem_map.1 hu; rfl); (rw [List.length_take]; omega); exact rfl; decide; decide; exact rfl; rintro v4 hp4 hown4)
   (apply R.ice (hp := hp4) (by (exact a_arr)); intro M4 hM4 hin4)
   obtain ⟨A4, c4, rfl, hc41, hc42⟩ := hown4.form
   have hpl4 := hown4.plIn hin4
   have h1l : 1 + (x.data.take 30).length = (1 :: x.data.take 30).length := by rw [List.length_cons, Nat.add_comm]
   rw [h1l] at hc41 ⊢
   have hB4 : PlB M4 (.slice A4 (1 :: x.data.take 30).length c4) (1 :: x.data.take 30) := ⟨A4, c4, rfl, hc41, by unfold maxLen at hc42; omega, hpl4⟩
   (apply R.nil; apply Fin.kq hKc; exact hM4; exact Arr.all _)
   apply RQ.nil
   (repeat' (first | refine a_op ?_ | (apply RP.callQ; (exact a_evs); exact rfl)))
   (apply RP.eff; intro Kc hKc ops0)
   (first | (apply R.store; exact rfl; exact rfl; exact rfl; (exact a_at); (exact a_blit); exact rfl; (focus (simp [Value.oneCell']; done))) | (apply R.buildSlice0; exact rfl; intro bz) | (apply R.box; exact rfl; (simp only [Value.cells]; rfl); exact rfl; intro bx) | (apply R.alloc; (simp only [Value.cells]; rfl); exact rfl; intro ba) | (apply R.buildSlice; (exact a_prt); exact rfl; exact rfl; (exact a_fills); exact rfl; intro bl))
   (apply R.nil; apply Fin.kp hKc; exact hM4; (exact a_arr))
   (first | apply RP.nil0 | apply RP.nil)
   (repeat' (first | (refine a_bz ?_; intro bz) | (refine a_bx ?_; intro bx) | (refine a_ba ?_; intro ba) | (refine a_bl ?_; intro bl) | (refine a_go ?_; intros) | refine a_sp (fun h => ?_) fun h => ?_ | fail))
   (apply R.appendT (news := ecells (⟨x.conf % 3, max 1 (t1 + x.kind % 8 / 6), i1 + 1, 1 :: x.data.take 30, 0⟩ : En) (.slice A4 (1 :: x.data.take 30).length c4)); exact rfl; exact rfl; exact hot1; (exact a_tk); exact Rd.at_ (l := ecells (⟨x.conf % 3, max 1 (t1 + x.kind % 8 / 6), i1 + 1, 1 :: x.data.take 30, 0⟩ : En) (.slice A4 (1 :: x.data.take 30).length c4)) (by (exact a_at)) (fun j u h => by rw [Nat.zero_add]; exact h); exact rfl; (intro u hu; simp only [ecells, List.mem_cons, List.not_mem_nil, or_false] at hu; rcases hu with rfl | rfl | rfl | rfl | rfl <;> rfl); omega; exact rfl; decide; decide; exact rfl; rintro ov1 hrow2 how1)
   apply R.arr (H2 := hrow2 ++ H) (by (exact a_arr))
   (repeat' (first | (refine a_bz ?_; intro bz) | (refine a_bx ?_; intro bx) | (refine a_ba ?_; intro ba) | (refine a_bl ?_; intro bl) | (refine a_go ?_; intros) | refine a_sp (fun h => ?_) fun h => ?_ | fail))
   refine Fin.again (⟨k + 1, (k : Int) + 1, i1 + 1, t1 + x.kind % 8 / 6, es ++ [(⟨x.conf % 3, max 1 (t1 + x.kind % 8 / 6), i1 + 1, 1 :: x.data.take 30, 0⟩ : En)], ov1, hrow2, M4⟩ : HdX) ⟨by dsimp only; omega, by dsimp only; rw [List.length_take]; omega, OwnP.snocE (e := (⟨x.conf % 3, max 1 (t1 + x.kind % 8 / 6), i1 + 1, 1 :: x.data.take 30, 0⟩ : En)) how1 (hpv.mono hM4) hB4, hM1.trans_ hM4, by dsimp only; rw [List.length_append, hel]; rfl, by dsimp only; omega, by dsimp only; omega, by dsimp only; omega, by dsimp only; omega, by dsimp only; rw [heq, List.append_assoc]; rfl⟩ (by dsimp only; omega) ?_ rfl rfl
   dsimp only
   (exact a_subs)
  ·have h1 : ¬ x.conf % 3 = 1 := by assumption
   have h2 : x.conf % 3 = 2 := by assumption
   have hmk : mkE (i1 + 1) (t1 + x.kind % 8 / 6) x = ⟨x.conf % 3, max 1 (t1 + x.kind % 8 / 6), i1 + 1, [], 2 * (1 + x.term % 200 % 31)⟩ := by unfold mkE; rw [if_neg h1, if_pos h2]
   rw [hmk] at heq
   obtain ⟨vs, hot1, hpv⟩ := id ho
   (apply R.call; (exact a_evs); exact rfl); exact pick_K (x.term % 200) 31 (by omega) (by omega); rintro _ M4 _ ⟨rfl, rfl, rfl⟩
   (repeat' (first | (refine a_bz ?_; intro bz) | (refine a_bx ?_; intro bx) | (refine a_ba ?_; intro ba) | (refine a_bl ?_; intro bl) | (refine a_go ?_; intros) | refine a_sp (fun h => ?_) fun h => ?_ | fail))
   (apply R.appendT (news := ecells (⟨x.conf % 3, max 1 (t1 + x.kind % 8 / 6), i1 + 1, [], 2 * (1 + x.term % 200 % 31)⟩ : En) (.slice none 0 0)); exact rfl; exact rfl; exact hot1; (exact a_tk); exact Rd.at_ (l := ecells (⟨x.conf % 3, max 1 (t1 + x.kind % 8 / 6), i1 + 1, [], 2 * (1 + x.term % 200 % 31)⟩ : En) (.slice none 0 0)) (by (exact a_at)) (fun j u h => by rw [Nat.zero_add]; exact h); exact rfl; (intro u hu; simp only [ecells, List.mem_cons, List.not_mem_nil, or_false] at hu; rcases hu with rfl | rfl | rfl | rfl | rfl <;> rfl); omega; exact rfl; decide; decide; exact rfl; rintro ov1 hrow2 how1)
   apply R.arr (H2 := hrow2 ++ H) (by (exact a_arr))
   (repeat' (first | (refine a_bz ?_; intro bz) | (refine a_bx ?_; intro bx) | (refine a_ba ?_; intro ba) | (refine a_bl ?_; intro bl) | (refine a_go ?_; intros) | refine a_sp (fun h => ?_) fun h => ?_ | fail))
   refine Fin.again (⟨k + 1, (k : Int) + 1, i1 + 1, t1 + x.kind % 8 / 6, es ++ [(⟨x.conf % 3, max 1 (t1 + x.kind % 8 / 6), i1 + 1, [], 2 * (1 + x.term % 200 % 31)⟩ : En)], ov1, hrow2, M4⟩ : HdX) ⟨by dsimp only; omega, by dsimp only; rw [List.length_take]; omega, OwnP.snocE (e := (⟨x.conf % 3, max 1 (t1 + x.kind % 8 / 6), i1 + 1, [], 2 * (1 + x.term % 200 % 31)⟩ : En)) how1 hpv ⟨none, 0, rfl, Nat.le_refl _, by decide, Pl.nil⟩, hM1, by dsimp only; rw [List.length_append, hel]; rfl, by dsimp only; omega, by dsimp only; omega, by dsimp only; omega, by dsimp only; omega, by dsimp only; rw [heq, List.append_assoc]; rfl⟩ (by dsimp only; omega) ?_ rfl rfl
   dsimp only
   (exact a_subs)
  ·have h1 : ¬ x.conf % 3 = 1 := by assumption
   have h2 : ¬ x.conf % 3 = 2 := by assumption
   have hmk : mkE (i1 + 1) (t1 + x.kind % 8 / 6) x = ⟨x.conf % 3, max 1 (t1 + x.kind % 8 / 6), i1 + 1, [], 0⟩ := by unfold mkE; rw [if_neg h1, if_neg h2]
   rw [hmk] at heq
   obtain ⟨vs, hot1, hpv⟩ := id ho
   (apply R.appendT (news := ecells (⟨x.conf % 3, max 1 (t1 + x.kind % 8 / 6), i1 + 1, [], 0⟩ : En) (.slice none 0 0)); exact rfl; exact rfl; exact hot1; (exact a_tk); exact Rd.at_ (l := ecells (⟨x.conf % 3, max 1 (t1 + x.kind % 8 / 6), i1 + 1, [], 0⟩ : En) (.slice none 0 0)) (by (exact a_at)) (fun j u h => by rw [Nat.zero_add]; exact h); exact rfl; (intro u hu; simp only [ecells, List.mem_cons, List.not_mem_nil, or_false] at hu; rcases hu with rfl | rfl | rfl | rfl | rfl <;> rfl); omega; exact rfl; decide; decide; exact rfl; rintro ov1 hrow2 how1)
   apply R.arr (H2 := hrow2 ++ H) (by (exact a_arr))
   (repeat' (first | (refine a_bz ?_; intro bz) | (refine a_bx ?_; intro bx) | (refine a_ba ?_; intro ba) | (refine a_bl ?_; intro bl) | (refine a_go ?_; intros) | refine a_sp (fun h => ?_) fun h => ?_ | fail))
   refine Fin.again (⟨k + 1, (k : Int) + 1, i1 + 1, t1 + x.kind % 8 / 6, es ++ [(⟨x.conf % 3, max 1 (t1 + x.kind % 8 / 6), i1 + 1, [], 0⟩ : En)], ov1, hrow2, M3⟩ : HdX) ⟨by dsimp only; omega, by dsimp only; rw [List.length_take]; omega, OwnP.snocE (e := (⟨x.conf % 3, max 1 (t1 + x.kind % 8 / 6), i1 + 1, [], 0⟩ : En)) how1 hpv ⟨none, 0, rfl, Nat.le_refl _, by decide, Pl.nil⟩, hM1, by dsimp only; rw [List.length_append, hel]; rfl, by dsimp only; omega, by dsimp only; omega, by dsimp only; omega, by dsimp only; omega, by dsimp only; rw [heq, List.append_assoc]; rfl⟩ (by dsimp only; omega) ?_ rfl rfl
   dsimp only
   (exact a_subs)
 ·have h1 : ¬ (k : Int) < m := by assumption
  (refine Fin.rA (hrow1 ++ H) ?_)
  rw [List.drop_of_length_le (by rw [List.length_take]; omega)] at heq
  exact ⟨hrow1, by rw [heq, handE, List.append_nil]; exact ho, hM1, rfl⟩
 ·have h1 : ¬ (k : Int) < (ls.length : Int) := by assumption
  (refine Fin.rA (hrow1 ++ H) ?_)
  rw [List.drop_of_length_le (by rw [List.length_take]; omega)] at heq
  exact ⟨hrow1, by rw [heq, handE, List.append_nil]; exact ho, hM1, rfl⟩
end Go.Sx
end
section
namespace Go.Sx
open Go Go.Proofs Go.RowKit
attribute [local irreducible] C R Fin K Own OwnT Rd Pl Ok KOf RetOk OpsOf RP KP Res NoPanic KV KE
variable {M M' : Mem} {H H1 H2 : Hp}
theorem row_agg {A : Option Addr} {css : List (List Value)} {sz : Nat} {k : Nat} (hp : Pl M A css.flatten) (hc : ∀ c ∈ css, c.length = sz) (h0 : 0 < sz) (hk : k < css.length) :
  ∃ b o c e fr, A = some ⟨b, o, none⟩ ∧ M.at_ b = some (.cells c e fr) ∧ ∀ (q : Nat) u, (css[k])[q]? = some u → c[o + k * sz + q]? = some u := by
 have hl := hc _ (List.getElem_mem hk)
 have h00 : (css[k])[0]? = some ((css[k])[0]'(by omega)) := List.getElem?_eq_getElem _
 obtain ⟨b, o, c, e, fr, g1, g2, _⟩ := hp.get (rows_get hc hk h00)
 refine ⟨b, o, c, e, fr, g1, g2, fun q u hq => ?_⟩
 obtain ⟨b', o', c', e', fr', g1', g2', g3'⟩ := hp.get (rows_get hc hk hq)
 rw [g1] at g1'
 cases g1'
 rw [g2] at g2'
 cases g2'
 rw [Nat.add_assoc]
 exact g3'
end Go.Sx
end
