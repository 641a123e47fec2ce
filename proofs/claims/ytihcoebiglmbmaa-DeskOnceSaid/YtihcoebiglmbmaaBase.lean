/-
  PRINTED by my sx.py: the types' and functions' facts as instances.
-/
import Derived.Test.YtihcoebiglmbmaaSxT
import Derived.Test.YtihcoebiglmbmaaRows
namespace Go.Sx
open Go.Proofs
instance : Mix Try.prog := ⟨by kernel_rfl⟩
instance : Und Try.prog 2 (.int .i64) := ⟨Try.underlying2⟩
instance : Inf Try.prog 2 1 8 (.int .i64 0) := Inf.of (by kernel_rfl)
instance : Und Try.prog 3 (.int .i64) := ⟨Try.underlying3⟩
instance : Inf Try.prog 3 1 8 (.int .i64 0) := Inf.of (by kernel_rfl)
instance : Und Try.prog 4 (.bool) := ⟨Try.underlying4⟩
instance : Inf Try.prog 4 1 1 (.bool false) := Inf.of (by kernel_rfl)
instance : Und Try.prog 5 (.int .u8) := ⟨Try.underlying5⟩
instance : Inf Try.prog 5 1 1 (.int .u8 0) := Inf.of (by kernel_rfl)
instance : Und Try.prog 9 (.string) := ⟨Try.underlying9⟩
instance : Inf Try.prog 9 1 16 (.string ⟨#[]⟩) := Inf.of (by kernel_rfl)
instance : Und Try.prog 12 (.int .u64) := ⟨Try.underlying12⟩
instance : Inf Try.prog 12 1 8 (.int .u64 0) := Inf.of (by kernel_rfl)
instance : Und Try.prog 13 (.struct #[{ name := "msg", type := 9, offset := 0, embedded := false, tag := "", pkgPath := "runtime", byteOffset := 0 }, { name := "addr", type := 12, offset := 1, embedded := false, tag := "", pkgPath := "runtime", byteOffset := 16 }]) := ⟨Try.underlying13⟩
instance : Inf Try.prog 13 2 24 (.agg #[.string ⟨#[]⟩, .int .u64 0]) := Inf.of (by kernel_rfl)
instance : Und Try.prog 19 (.struct #[{ name := "typ", type := 17, offset := 0, embedded := false, tag := "", pkgPath := "internal/runtime/maps", byteOffset := 0 }]) := ⟨Try.underlying19⟩
instance : Inf Try.prog 19 1 8 (.agg #[.pointer none]) := Inf.of (by kernel_rfl)
instance : Und Try.prog 21 (.int .i32) := ⟨Try.underlying21⟩
instance : Inf Try.prog 21 1 4 (.int .i32 0) := Inf.of (by kernel_rfl)
instance : Und Try.prog 22 (.slice 9) := ⟨Try.underlying22⟩
instance : Inf Try.prog 22 1 24 (.slice none 0 0) := Inf.of (by kernel_rfl)
instance : Und Try.prog 23 (.slice 3) := ⟨Try.underlying23⟩
instance : Inf Try.prog 23 1 24 (.slice none 0 0) := Inf.of (by kernel_rfl)
instance : Und Try.prog 24 (.pointer 96) := ⟨Try.underlying24⟩
instance : Inf Try.prog 24 1 8 (.pointer none) := Inf.of (by kernel_rfl)
instance : Und Try.prog 25 (.int .i64) := ⟨Try.underlying25⟩
instance : Inf Try.prog 25 1 8 (.int .i64 0) := Inf.of (by kernel_rfl)
instance : Und Try.prog 35 (.slice 46) := ⟨Try.underlying35⟩
instance : Inf Try.prog 35 1 24 (.slice none 0 0) := Inf.of (by kernel_rfl)
instance : Und Try.prog 36 (.pointer 105) := ⟨Try.underlying36⟩
instance : Inf Try.prog 36 1 8 (.pointer none) := Inf.of (by kernel_rfl)
instance : Und Try.prog 39 (.int .u64) := ⟨Try.underlying39⟩
instance : Inf Try.prog 39 1 8 (.int .u64 0) := Inf.of (by kernel_rfl)
instance : Und Try.prog 40 (.pointer 43) := ⟨Try.underlying40⟩
instance : Inf Try.prog 40 1 8 (.pointer none) := Inf.of (by kernel_rfl)
instance : Und Try.prog 41 (.slice 39) := ⟨Try.underlying41⟩
instance : Inf Try.prog 41 1 24 (.slice none 0 0) := Inf.of (by kernel_rfl)
instance : Und Try.prog 42 (.struct #[{ name := "Most", type := 3, offset := 0, embedded := false, tag := "", pkgPath := "", byteOffset := 0 }, { name := "K", type := 41, offset := 1, embedded := false, tag := "", pkgPath := "", byteOffset := 8 }, { name := "V", type := 23, offset := 2, embedded := false, tag := "", pkgPath := "", byteOffset := 32 }]) := ⟨Try.underlying42⟩
instance : Inf Try.prog 42 3 56 (.agg #[.int .i64 0, .slice none 0 0, .slice none 0 0]) := Inf.of (by kernel_rfl)
instance : Und Try.prog 43 (.struct #[{ name := "Most", type := 3, offset := 0, embedded := false, tag := "", pkgPath := "", byteOffset := 0 }, { name := "K", type := 41, offset := 1, embedded := false, tag := "", pkgPath := "", byteOffset := 8 }, { name := "V", type := 23, offset := 2, embedded := false, tag := "", pkgPath := "", byteOffset := 32 }]) := ⟨Try.underlying43⟩
instance : Inf Try.prog 43 3 56 (.agg #[.int .i64 0, .slice none 0 0, .slice none 0 0]) := Inf.of (by kernel_rfl)
instance : Und Try.prog 45 (.struct #[{ name := "What", type := 3, offset := 0, embedded := false, tag := "", pkgPath := "", byteOffset := 0 }, { name := "K", type := 39, offset := 1, embedded := false, tag := "", pkgPath := "", byteOffset := 8 }, { name := "V", type := 3, offset := 2, embedded := false, tag := "", pkgPath := "", byteOffset := 16 }, { name := "Near", type := 4, offset := 3, embedded := false, tag := "", pkgPath := "", byteOffset := 24 }]) := ⟨Try.underlying45⟩
instance : Inf Try.prog 45 4 32 (.agg #[.int .i64 0, .int .u64 0, .int .i64 0, .bool false]) := Inf.of (by kernel_rfl)
instance : Und Try.prog 46 (.struct #[{ name := "What", type := 3, offset := 0, embedded := false, tag := "", pkgPath := "", byteOffset := 0 }, { name := "K", type := 39, offset := 1, embedded := false, tag := "", pkgPath := "", byteOffset := 8 }, { name := "V", type := 3, offset := 2, embedded := false, tag := "", pkgPath := "", byteOffset := 16 }, { name := "Near", type := 4, offset := 3, embedded := false, tag := "", pkgPath := "", byteOffset := 24 }]) := ⟨Try.underlying46⟩
instance : Inf Try.prog 46 4 32 (.agg #[.int .i64 0, .int .u64 0, .int .i64 0, .bool false]) := Inf.of (by kernel_rfl)
instance : Und Try.prog 60 (.pointer 112) := ⟨Try.underlying60⟩
instance : Inf Try.prog 60 1 8 (.pointer none) := Inf.of (by kernel_rfl)
instance : Und Try.prog 70 (.slice 75) := ⟨Try.underlying70⟩
instance : Inf Try.prog 70 1 24 (.slice none 0 0) := Inf.of (by kernel_rfl)
instance : Und Try.prog 71 (.pointer 122) := ⟨Try.underlying71⟩
instance : Inf Try.prog 71 1 8 (.pointer none) := Inf.of (by kernel_rfl)
instance : Und Try.prog 74 (.struct #[{ name := "What", type := 3, offset := 0, embedded := false, tag := "", pkgPath := "", byteOffset := 0 }, { name := "Index", type := 39, offset := 1, embedded := false, tag := "", pkgPath := "", byteOffset := 8 }, { name := "Term", type := 39, offset := 2, embedded := false, tag := "", pkgPath := "", byteOffset := 16 }, { name := "Who", type := 3, offset := 3, embedded := false, tag := "", pkgPath := "", byteOffset := 24 }, { name := "Near", type := 4, offset := 4, embedded := false, tag := "", pkgPath := "", byteOffset := 32 }]) := ⟨Try.underlying74⟩
instance : Inf Try.prog 74 5 40 (.agg #[.int .i64 0, .int .u64 0, .int .u64 0, .int .i64 0, .bool false]) := Inf.of (by kernel_rfl)
instance : Und Try.prog 75 (.struct #[{ name := "What", type := 3, offset := 0, embedded := false, tag := "", pkgPath := "", byteOffset := 0 }, { name := "Index", type := 39, offset := 1, embedded := false, tag := "", pkgPath := "", byteOffset := 8 }, { name := "Term", type := 39, offset := 2, embedded := false, tag := "", pkgPath := "", byteOffset := 16 }, { name := "Who", type := 3, offset := 3, embedded := false, tag := "", pkgPath := "", byteOffset := 24 }, { name := "Near", type := 4, offset := 4, embedded := false, tag := "", pkgPath := "", byteOffset := 32 }]) := ⟨Try.underlying75⟩
instance : Inf Try.prog 75 5 40 (.agg #[.int .i64 0, .int .u64 0, .int .u64 0, .int .i64 0, .bool false]) := Inf.of (by kernel_rfl)
instance : Und Try.prog 79 (.pointer 132) := ⟨Try.underlying79⟩
instance : Inf Try.prog 79 1 8 (.pointer none) := Inf.of (by kernel_rfl)
instance : Und Try.prog 86 (.pointer 91) := ⟨Try.underlying86⟩
instance : Inf Try.prog 86 1 8 (.pointer none) := Inf.of (by kernel_rfl)
instance : Und Try.prog 87 (.slice 140) := ⟨Try.underlying87⟩
instance : Inf Try.prog 87 1 24 (.slice none 0 0) := Inf.of (by kernel_rfl)
instance : Und Try.prog 88 (.struct #[{ name := "Most", type := 3, offset := 0, embedded := false, tag := "", pkgPath := "", byteOffset := 0 }, { name := "K", type := 41, offset := 1, embedded := false, tag := "", pkgPath := "", byteOffset := 8 }, { name := "V", type := 87, offset := 2, embedded := false, tag := "", pkgPath := "", byteOffset := 32 }]) := ⟨Try.underlying88⟩
instance : Inf Try.prog 88 3 56 (.agg #[.int .i64 0, .slice none 0 0, .slice none 0 0]) := Inf.of (by kernel_rfl)
instance : Und Try.prog 89 (.struct #[{ name := "Most", type := 3, offset := 0, embedded := false, tag := "", pkgPath := "", byteOffset := 0 }, { name := "K", type := 41, offset := 1, embedded := false, tag := "", pkgPath := "", byteOffset := 8 }, { name := "V", type := 87, offset := 2, embedded := false, tag := "", pkgPath := "", byteOffset := 32 }]) := ⟨Try.underlying89⟩
instance : Inf Try.prog 89 3 56 (.agg #[.int .i64 0, .slice none 0 0, .slice none 0 0]) := Inf.of (by kernel_rfl)
instance : Und Try.prog 90 (.struct #[{ name := "T", type := 89, offset := 0, embedded := false, tag := "", pkgPath := "", byteOffset := 0 }]) := ⟨Try.underlying90⟩
instance : Inf Try.prog 90 3 56 (.agg #[.int .i64 0, .slice none 0 0, .slice none 0 0]) := Inf.of (by kernel_rfl)
instance : Und Try.prog 91 (.struct #[{ name := "T", type := 89, offset := 0, embedded := false, tag := "", pkgPath := "", byteOffset := 0 }]) := ⟨Try.underlying91⟩
instance : Inf Try.prog 91 3 56 (.agg #[.int .i64 0, .slice none 0 0, .slice none 0 0]) := Inf.of (by kernel_rfl)
instance : Und Try.prog 95 (.struct #[{ name := "keys", type := 22, offset := 0, embedded := false, tag := "", pkgPath := "bursar/table", byteOffset := 0 }, { name := "vals", type := 23, offset := 1, embedded := false, tag := "", pkgPath := "bursar/table", byteOffset := 24 }, { name := "most", type := 3, offset := 2, embedded := false, tag := "", pkgPath := "bursar/table", byteOffset := 48 }]) := ⟨Try.underlying95⟩
instance : Inf Try.prog 95 3 56 (.agg #[.slice none 0 0, .slice none 0 0, .int .i64 0]) := Inf.of (by kernel_rfl)
instance : Und Try.prog 96 (.struct #[{ name := "keys", type := 22, offset := 0, embedded := false, tag := "", pkgPath := "bursar/table", byteOffset := 0 }, { name := "vals", type := 23, offset := 1, embedded := false, tag := "", pkgPath := "bursar/table", byteOffset := 24 }, { name := "most", type := 3, offset := 2, embedded := false, tag := "", pkgPath := "bursar/table", byteOffset := 48 }]) := ⟨Try.underlying96⟩
instance : Inf Try.prog 96 3 56 (.agg #[.slice none 0 0, .slice none 0 0, .int .i64 0]) := Inf.of (by kernel_rfl)
instance : Und Try.prog 97 (.pointer 148) := ⟨Try.underlying97⟩
instance : Inf Try.prog 97 1 8 (.pointer none) := Inf.of (by kernel_rfl)
instance : Und Try.prog 104 (.struct #[{ name := "keys", type := 41, offset := 0, embedded := false, tag := "", pkgPath := "bursar/table", byteOffset := 0 }, { name := "vals", type := 23, offset := 1, embedded := false, tag := "", pkgPath := "bursar/table", byteOffset := 24 }, { name := "most", type := 3, offset := 2, embedded := false, tag := "", pkgPath := "bursar/table", byteOffset := 48 }]) := ⟨Try.underlying104⟩
instance : Inf Try.prog 104 3 56 (.agg #[.slice none 0 0, .slice none 0 0, .int .i64 0]) := Inf.of (by kernel_rfl)
instance : Und Try.prog 105 (.struct #[{ name := "keys", type := 41, offset := 0, embedded := false, tag := "", pkgPath := "bursar/table", byteOffset := 0 }, { name := "vals", type := 23, offset := 1, embedded := false, tag := "", pkgPath := "bursar/table", byteOffset := 24 }, { name := "most", type := 3, offset := 2, embedded := false, tag := "", pkgPath := "bursar/table", byteOffset := 48 }]) := ⟨Try.underlying105⟩
instance : Inf Try.prog 105 3 56 (.agg #[.slice none 0 0, .slice none 0 0, .int .i64 0]) := Inf.of (by kernel_rfl)
instance : Und Try.prog 111 (.struct #[{ name := "keys", type := 23, offset := 0, embedded := false, tag := "", pkgPath := "bursar/table", byteOffset := 0 }, { name := "vals", type := 23, offset := 1, embedded := false, tag := "", pkgPath := "bursar/table", byteOffset := 24 }, { name := "most", type := 3, offset := 2, embedded := false, tag := "", pkgPath := "bursar/table", byteOffset := 48 }]) := ⟨Try.underlying111⟩
instance : Inf Try.prog 111 3 56 (.agg #[.slice none 0 0, .slice none 0 0, .int .i64 0]) := Inf.of (by kernel_rfl)
instance : Und Try.prog 112 (.struct #[{ name := "keys", type := 23, offset := 0, embedded := false, tag := "", pkgPath := "bursar/table", byteOffset := 0 }, { name := "vals", type := 23, offset := 1, embedded := false, tag := "", pkgPath := "bursar/table", byteOffset := 24 }, { name := "most", type := 3, offset := 2, embedded := false, tag := "", pkgPath := "bursar/table", byteOffset := 48 }]) := ⟨Try.underlying112⟩
instance : Inf Try.prog 112 3 56 (.agg #[.slice none 0 0, .slice none 0 0, .int .i64 0]) := Inf.of (by kernel_rfl)
instance : Und Try.prog 116 (.pointer 159) := ⟨Try.underlying116⟩
instance : Inf Try.prog 116 1 8 (.pointer none) := Inf.of (by kernel_rfl)
instance : Und Try.prog 119 (.struct #[{ name := "term", type := 39, offset := 0, embedded := false, tag := "", pkgPath := "bursar/desk", byteOffset := 0 }, { name := "who", type := 3, offset := 1, embedded := false, tag := "", pkgPath := "bursar/desk", byteOffset := 8 }]) := ⟨Try.underlying119⟩
instance : Inf Try.prog 119 2 16 (.agg #[.int .u64 0, .int .i64 0]) := Inf.of (by kernel_rfl)
instance : Und Try.prog 120 (.struct #[{ name := "term", type := 39, offset := 0, embedded := false, tag := "", pkgPath := "bursar/desk", byteOffset := 0 }, { name := "who", type := 3, offset := 1, embedded := false, tag := "", pkgPath := "bursar/desk", byteOffset := 8 }]) := ⟨Try.underlying120⟩
instance : Inf Try.prog 120 2 16 (.agg #[.int .u64 0, .int .i64 0]) := Inf.of (by kernel_rfl)
instance : Und Try.prog 121 (.struct #[{ name := "rows", type := 116, offset := 0, embedded := false, tag := "", pkgPath := "bursar/desk", byteOffset := 0 }]) := ⟨Try.underlying121⟩
instance : Inf Try.prog 121 1 8 (.agg #[.pointer none]) := Inf.of (by kernel_rfl)
instance : Und Try.prog 122 (.struct #[{ name := "rows", type := 116, offset := 0, embedded := false, tag := "", pkgPath := "bursar/desk", byteOffset := 0 }]) := ⟨Try.underlying122⟩
instance : Inf Try.prog 122 1 8 (.agg #[.pointer none]) := Inf.of (by kernel_rfl)
instance : Und Try.prog 126 (.pointer 164) := ⟨Try.underlying126⟩
instance : Inf Try.prog 126 1 8 (.pointer none) := Inf.of (by kernel_rfl)
instance : Und Try.prog 129 (.struct #[{ name := "term", type := 39, offset := 0, embedded := false, tag := "", pkgPath := "bursar/desk", byteOffset := 0 }, { name := "who", type := 9, offset := 1, embedded := false, tag := "", pkgPath := "bursar/desk", byteOffset := 8 }]) := ⟨Try.underlying129⟩
instance : Inf Try.prog 129 2 24 (.agg #[.int .u64 0, .string ⟨#[]⟩]) := Inf.of (by kernel_rfl)
instance : Und Try.prog 130 (.struct #[{ name := "term", type := 39, offset := 0, embedded := false, tag := "", pkgPath := "bursar/desk", byteOffset := 0 }, { name := "who", type := 9, offset := 1, embedded := false, tag := "", pkgPath := "bursar/desk", byteOffset := 8 }]) := ⟨Try.underlying130⟩
instance : Inf Try.prog 130 2 24 (.agg #[.int .u64 0, .string ⟨#[]⟩]) := Inf.of (by kernel_rfl)
instance : Und Try.prog 131 (.struct #[{ name := "rows", type := 126, offset := 0, embedded := false, tag := "", pkgPath := "bursar/desk", byteOffset := 0 }]) := ⟨Try.underlying131⟩
instance : Inf Try.prog 131 1 8 (.agg #[.pointer none]) := Inf.of (by kernel_rfl)
instance : Und Try.prog 132 (.struct #[{ name := "rows", type := 126, offset := 0, embedded := false, tag := "", pkgPath := "bursar/desk", byteOffset := 0 }]) := ⟨Try.underlying132⟩
instance : Inf Try.prog 132 1 8 (.agg #[.pointer none]) := Inf.of (by kernel_rfl)
instance : Und Try.prog 139 (.struct #[{ name := "term", type := 39, offset := 0, embedded := false, tag := "", pkgPath := "bursar/bursarref4", byteOffset := 0 }, { name := "who", type := 3, offset := 1, embedded := false, tag := "", pkgPath := "bursar/bursarref4", byteOffset := 8 }]) := ⟨Try.underlying139⟩
instance : Inf Try.prog 139 2 16 (.agg #[.int .u64 0, .int .i64 0]) := Inf.of (by kernel_rfl)
instance : Und Try.prog 140 (.struct #[{ name := "term", type := 39, offset := 0, embedded := false, tag := "", pkgPath := "bursar/bursarref4", byteOffset := 0 }, { name := "who", type := 3, offset := 1, embedded := false, tag := "", pkgPath := "bursar/bursarref4", byteOffset := 8 }]) := ⟨Try.underlying140⟩
instance : Inf Try.prog 140 2 16 (.agg #[.int .u64 0, .int .i64 0]) := Inf.of (by kernel_rfl)
instance : Und Try.prog 147 (.struct #[{ name := "keys", type := 41, offset := 0, embedded := false, tag := "", pkgPath := "bursar/table", byteOffset := 0 }, { name := "vals", type := 22, offset := 1, embedded := false, tag := "", pkgPath := "bursar/table", byteOffset := 24 }, { name := "most", type := 3, offset := 2, embedded := false, tag := "", pkgPath := "bursar/table", byteOffset := 48 }]) := ⟨Try.underlying147⟩
instance : Inf Try.prog 147 3 56 (.agg #[.slice none 0 0, .slice none 0 0, .int .i64 0]) := Inf.of (by kernel_rfl)
instance : Und Try.prog 148 (.struct #[{ name := "keys", type := 41, offset := 0, embedded := false, tag := "", pkgPath := "bursar/table", byteOffset := 0 }, { name := "vals", type := 22, offset := 1, embedded := false, tag := "", pkgPath := "bursar/table", byteOffset := 24 }, { name := "most", type := 3, offset := 2, embedded := false, tag := "", pkgPath := "bursar/table", byteOffset := 48 }]) := ⟨Try.underlying148⟩
instance : Inf Try.prog 148 3 56 (.agg #[.slice none 0 0, .slice none 0 0, .int .i64 0]) := Inf.of (by kernel_rfl)
instance : Und Try.prog 149 (.int .u64) := ⟨Try.underlying149⟩
instance : Inf Try.prog 149 1 8 (.int .u64 0) := Inf.of (by kernel_rfl)
instance : Und Try.prog 157 (.slice 120) := ⟨Try.underlying157⟩
instance : Inf Try.prog 157 1 24 (.slice none 0 0) := Inf.of (by kernel_rfl)
instance : Und Try.prog 158 (.struct #[{ name := "keys", type := 41, offset := 0, embedded := false, tag := "", pkgPath := "bursar/table", byteOffset := 0 }, { name := "vals", type := 157, offset := 1, embedded := false, tag := "", pkgPath := "bursar/table", byteOffset := 24 }, { name := "most", type := 3, offset := 2, embedded := false, tag := "", pkgPath := "bursar/table", byteOffset := 48 }]) := ⟨Try.underlying158⟩
instance : Inf Try.prog 158 3 56 (.agg #[.slice none 0 0, .slice none 0 0, .int .i64 0]) := Inf.of (by kernel_rfl)
instance : Und Try.prog 159 (.struct #[{ name := "keys", type := 41, offset := 0, embedded := false, tag := "", pkgPath := "bursar/table", byteOffset := 0 }, { name := "vals", type := 157, offset := 1, embedded := false, tag := "", pkgPath := "bursar/table", byteOffset := 24 }, { name := "most", type := 3, offset := 2, embedded := false, tag := "", pkgPath := "bursar/table", byteOffset := 48 }]) := ⟨Try.underlying159⟩
instance : Inf Try.prog 159 3 56 (.agg #[.slice none 0 0, .slice none 0 0, .int .i64 0]) := Inf.of (by kernel_rfl)
instance : Und Try.prog 162 (.slice 130) := ⟨Try.underlying162⟩
instance : Inf Try.prog 162 1 24 (.slice none 0 0) := Inf.of (by kernel_rfl)
instance : Und Try.prog 163 (.struct #[{ name := "keys", type := 41, offset := 0, embedded := false, tag := "", pkgPath := "bursar/table", byteOffset := 0 }, { name := "vals", type := 162, offset := 1, embedded := false, tag := "", pkgPath := "bursar/table", byteOffset := 24 }, { name := "most", type := 3, offset := 2, embedded := false, tag := "", pkgPath := "bursar/table", byteOffset := 48 }]) := ⟨Try.underlying163⟩
instance : Inf Try.prog 163 3 56 (.agg #[.slice none 0 0, .slice none 0 0, .int .i64 0]) := Inf.of (by kernel_rfl)
instance : Und Try.prog 164 (.struct #[{ name := "keys", type := 41, offset := 0, embedded := false, tag := "", pkgPath := "bursar/table", byteOffset := 0 }, { name := "vals", type := 162, offset := 1, embedded := false, tag := "", pkgPath := "bursar/table", byteOffset := 24 }, { name := "most", type := 3, offset := 2, embedded := false, tag := "", pkgPath := "bursar/table", byteOffset := 48 }]) := ⟨Try.underlying164⟩
instance : Inf Try.prog 164 3 56 (.agg #[.slice none 0 0, .slice none 0 0, .int .i64 0]) := Inf.of (by kernel_rfl)
instance : Und Try.prog 169 (.pointer 89) := ⟨Try.underlying169⟩
instance : Inf Try.prog 169 1 8 (.pointer none) := Inf.of (by kernel_rfl)
instance : Und Try.prog 187 (.int .u32) := ⟨Try.underlying187⟩
instance : Inf Try.prog 187 1 4 (.int .u32 0) := Inf.of (by kernel_rfl)
instance : Und Try.prog 191 (.pointer 5) := ⟨Try.underlying191⟩
instance : Inf Try.prog 191 1 8 (.pointer none) := Inf.of (by kernel_rfl)
instance : Und Try.prog 207 (.unsafePointer) := ⟨Try.underlying207⟩
instance : Inf Try.prog 207 1 8 (.pointer none) := Inf.of (by kernel_rfl)
instance : Fld Try.prog 13 0 0 := ⟨fun _ _ _ => by kernel_rfl⟩
instance : FldV Try.prog 13 0 0 1 false := FldV.of 9 rfl rfl rfl rfl
instance : Fld Try.prog 13 1 1 := ⟨fun _ _ _ => by kernel_rfl⟩
instance : FldV Try.prog 13 1 1 1 false := FldV.of 12 rfl rfl rfl rfl
instance : Bld Try.prog 13 [(0, 1), (1, 1)] [.string ⟨#[]⟩, .int .u64 0] := Bld.of rfl (fun _ => by kernel_rfl)
instance : Fld Try.prog 19 0 0 := ⟨fun _ _ _ => by kernel_rfl⟩
instance : Fld Try.prog 42 0 0 := ⟨fun _ _ _ => by kernel_rfl⟩
instance : FldV Try.prog 42 0 0 1 false := FldV.of 3 rfl rfl rfl rfl
instance : Fld Try.prog 42 1 1 := ⟨fun _ _ _ => by kernel_rfl⟩
instance : FldV Try.prog 42 1 1 1 false := FldV.of 41 rfl rfl rfl rfl
instance : Fld Try.prog 42 2 2 := ⟨fun _ _ _ => by kernel_rfl⟩
instance : FldV Try.prog 42 2 2 1 false := FldV.of 23 rfl rfl rfl rfl
instance : Bld Try.prog 42 [(0, 1), (1, 1), (2, 1)] [.int .i64 0, .slice none 0 0, .slice none 0 0] := Bld.of rfl (fun _ => by kernel_rfl)
instance : Fld Try.prog 43 0 0 := ⟨fun _ _ _ => by kernel_rfl⟩
instance : FldV Try.prog 43 0 0 1 false := FldV.of 3 rfl rfl rfl rfl
instance : Fld Try.prog 43 1 1 := ⟨fun _ _ _ => by kernel_rfl⟩
instance : FldV Try.prog 43 1 1 1 false := FldV.of 41 rfl rfl rfl rfl
instance : Fld Try.prog 43 2 2 := ⟨fun _ _ _ => by kernel_rfl⟩
instance : FldV Try.prog 43 2 2 1 false := FldV.of 23 rfl rfl rfl rfl
instance : Bld Try.prog 43 [(0, 1), (1, 1), (2, 1)] [.int .i64 0, .slice none 0 0, .slice none 0 0] := Bld.of rfl (fun _ => by kernel_rfl)
instance : Fld Try.prog 45 0 0 := ⟨fun _ _ _ => by kernel_rfl⟩
instance : FldV Try.prog 45 0 0 1 false := FldV.of 3 rfl rfl rfl rfl
instance : Fld Try.prog 45 1 1 := ⟨fun _ _ _ => by kernel_rfl⟩
instance : FldV Try.prog 45 1 1 1 false := FldV.of 39 rfl rfl rfl rfl
instance : Fld Try.prog 45 2 2 := ⟨fun _ _ _ => by kernel_rfl⟩
instance : FldV Try.prog 45 2 2 1 false := FldV.of 3 rfl rfl rfl rfl
instance : Fld Try.prog 45 3 3 := ⟨fun _ _ _ => by kernel_rfl⟩
instance : FldV Try.prog 45 3 3 1 false := FldV.of 4 rfl rfl rfl rfl
instance : Bld Try.prog 45 [(0, 1), (1, 1), (2, 1), (3, 1)] [.int .i64 0, .int .u64 0, .int .i64 0, .bool false] := Bld.of rfl (fun _ => by kernel_rfl)
instance : Fld Try.prog 46 0 0 := ⟨fun _ _ _ => by kernel_rfl⟩
instance : FldV Try.prog 46 0 0 1 false := FldV.of 3 rfl rfl rfl rfl
instance : Fld Try.prog 46 1 1 := ⟨fun _ _ _ => by kernel_rfl⟩
instance : FldV Try.prog 46 1 1 1 false := FldV.of 39 rfl rfl rfl rfl
instance : Fld Try.prog 46 2 2 := ⟨fun _ _ _ => by kernel_rfl⟩
instance : FldV Try.prog 46 2 2 1 false := FldV.of 3 rfl rfl rfl rfl
instance : Fld Try.prog 46 3 3 := ⟨fun _ _ _ => by kernel_rfl⟩
instance : FldV Try.prog 46 3 3 1 false := FldV.of 4 rfl rfl rfl rfl
instance : Bld Try.prog 46 [(0, 1), (1, 1), (2, 1), (3, 1)] [.int .i64 0, .int .u64 0, .int .i64 0, .bool false] := Bld.of rfl (fun _ => by kernel_rfl)
instance : Fld Try.prog 74 0 0 := ⟨fun _ _ _ => by kernel_rfl⟩
instance : FldV Try.prog 74 0 0 1 false := FldV.of 3 rfl rfl rfl rfl
instance : Fld Try.prog 74 1 1 := ⟨fun _ _ _ => by kernel_rfl⟩
instance : FldV Try.prog 74 1 1 1 false := FldV.of 39 rfl rfl rfl rfl
instance : Fld Try.prog 74 2 2 := ⟨fun _ _ _ => by kernel_rfl⟩
instance : FldV Try.prog 74 2 2 1 false := FldV.of 39 rfl rfl rfl rfl
instance : Fld Try.prog 74 3 3 := ⟨fun _ _ _ => by kernel_rfl⟩
instance : FldV Try.prog 74 3 3 1 false := FldV.of 3 rfl rfl rfl rfl
instance : Fld Try.prog 74 4 4 := ⟨fun _ _ _ => by kernel_rfl⟩
instance : FldV Try.prog 74 4 4 1 false := FldV.of 4 rfl rfl rfl rfl
instance : Bld Try.prog 74 [(0, 1), (1, 1), (2, 1), (3, 1), (4, 1)] [.int .i64 0, .int .u64 0, .int .u64 0, .int .i64 0, .bool false] := Bld.of rfl (fun _ => by kernel_rfl)
instance : Fld Try.prog 75 0 0 := ⟨fun _ _ _ => by kernel_rfl⟩
instance : FldV Try.prog 75 0 0 1 false := FldV.of 3 rfl rfl rfl rfl
instance : Fld Try.prog 75 1 1 := ⟨fun _ _ _ => by kernel_rfl⟩
instance : FldV Try.prog 75 1 1 1 false := FldV.of 39 rfl rfl rfl rfl
instance : Fld Try.prog 75 2 2 := ⟨fun _ _ _ => by kernel_rfl⟩
instance : FldV Try.prog 75 2 2 1 false := FldV.of 39 rfl rfl rfl rfl
instance : Fld Try.prog 75 3 3 := ⟨fun _ _ _ => by kernel_rfl⟩
instance : FldV Try.prog 75 3 3 1 false := FldV.of 3 rfl rfl rfl rfl
instance : Fld Try.prog 75 4 4 := ⟨fun _ _ _ => by kernel_rfl⟩
instance : FldV Try.prog 75 4 4 1 false := FldV.of 4 rfl rfl rfl rfl
instance : Bld Try.prog 75 [(0, 1), (1, 1), (2, 1), (3, 1), (4, 1)] [.int .i64 0, .int .u64 0, .int .u64 0, .int .i64 0, .bool false] := Bld.of rfl (fun _ => by kernel_rfl)
instance : Fld Try.prog 88 0 0 := ⟨fun _ _ _ => by kernel_rfl⟩
instance : FldV Try.prog 88 0 0 1 false := FldV.of 3 rfl rfl rfl rfl
instance : Fld Try.prog 88 1 1 := ⟨fun _ _ _ => by kernel_rfl⟩
instance : FldV Try.prog 88 1 1 1 false := FldV.of 41 rfl rfl rfl rfl
instance : Fld Try.prog 88 2 2 := ⟨fun _ _ _ => by kernel_rfl⟩
instance : FldV Try.prog 88 2 2 1 false := FldV.of 87 rfl rfl rfl rfl
instance : Bld Try.prog 88 [(0, 1), (1, 1), (2, 1)] [.int .i64 0, .slice none 0 0, .slice none 0 0] := Bld.of rfl (fun _ => by kernel_rfl)
instance : Fld Try.prog 89 0 0 := ⟨fun _ _ _ => by kernel_rfl⟩
instance : FldV Try.prog 89 0 0 1 false := FldV.of 3 rfl rfl rfl rfl
instance : Fld Try.prog 89 1 1 := ⟨fun _ _ _ => by kernel_rfl⟩
instance : FldV Try.prog 89 1 1 1 false := FldV.of 41 rfl rfl rfl rfl
instance : Fld Try.prog 89 2 2 := ⟨fun _ _ _ => by kernel_rfl⟩
instance : FldV Try.prog 89 2 2 1 false := FldV.of 87 rfl rfl rfl rfl
instance : Bld Try.prog 89 [(0, 1), (1, 1), (2, 1)] [.int .i64 0, .slice none 0 0, .slice none 0 0] := Bld.of rfl (fun _ => by kernel_rfl)
instance : Fld Try.prog 90 0 0 := ⟨fun _ _ _ => by kernel_rfl⟩
instance : FldV Try.prog 90 0 0 3 true := FldV.of 89 rfl rfl rfl rfl
instance : Bld Try.prog 90 [(0, 3)] [.int .i64 0, .slice none 0 0, .slice none 0 0] := Bld.of rfl (fun _ => by kernel_rfl)
instance : Fld Try.prog 91 0 0 := ⟨fun _ _ _ => by kernel_rfl⟩
instance : FldV Try.prog 91 0 0 3 true := FldV.of 89 rfl rfl rfl rfl
instance : Bld Try.prog 91 [(0, 3)] [.int .i64 0, .slice none 0 0, .slice none 0 0] := Bld.of rfl (fun _ => by kernel_rfl)
instance : Fld Try.prog 95 0 0 := ⟨fun _ _ _ => by kernel_rfl⟩
instance : FldV Try.prog 95 0 0 1 false := FldV.of 22 rfl rfl rfl rfl
instance : Fld Try.prog 95 1 1 := ⟨fun _ _ _ => by kernel_rfl⟩
instance : FldV Try.prog 95 1 1 1 false := FldV.of 23 rfl rfl rfl rfl
instance : Fld Try.prog 95 2 2 := ⟨fun _ _ _ => by kernel_rfl⟩
instance : FldV Try.prog 95 2 2 1 false := FldV.of 3 rfl rfl rfl rfl
instance : Bld Try.prog 95 [(0, 1), (1, 1), (2, 1)] [.slice none 0 0, .slice none 0 0, .int .i64 0] := Bld.of rfl (fun _ => by kernel_rfl)
instance : Fld Try.prog 96 0 0 := ⟨fun _ _ _ => by kernel_rfl⟩
instance : FldV Try.prog 96 0 0 1 false := FldV.of 22 rfl rfl rfl rfl
instance : Fld Try.prog 96 1 1 := ⟨fun _ _ _ => by kernel_rfl⟩
instance : FldV Try.prog 96 1 1 1 false := FldV.of 23 rfl rfl rfl rfl
instance : Fld Try.prog 96 2 2 := ⟨fun _ _ _ => by kernel_rfl⟩
instance : FldV Try.prog 96 2 2 1 false := FldV.of 3 rfl rfl rfl rfl
instance : Bld Try.prog 96 [(0, 1), (1, 1), (2, 1)] [.slice none 0 0, .slice none 0 0, .int .i64 0] := Bld.of rfl (fun _ => by kernel_rfl)
instance : Fld Try.prog 104 0 0 := ⟨fun _ _ _ => by kernel_rfl⟩
instance : FldV Try.prog 104 0 0 1 false := FldV.of 41 rfl rfl rfl rfl
instance : Fld Try.prog 104 1 1 := ⟨fun _ _ _ => by kernel_rfl⟩
instance : FldV Try.prog 104 1 1 1 false := FldV.of 23 rfl rfl rfl rfl
instance : Fld Try.prog 104 2 2 := ⟨fun _ _ _ => by kernel_rfl⟩
instance : FldV Try.prog 104 2 2 1 false := FldV.of 3 rfl rfl rfl rfl
instance : Bld Try.prog 104 [(0, 1), (1, 1), (2, 1)] [.slice none 0 0, .slice none 0 0, .int .i64 0] := Bld.of rfl (fun _ => by kernel_rfl)
instance : Fld Try.prog 105 0 0 := ⟨fun _ _ _ => by kernel_rfl⟩
instance : FldV Try.prog 105 0 0 1 false := FldV.of 41 rfl rfl rfl rfl
instance : Fld Try.prog 105 1 1 := ⟨fun _ _ _ => by kernel_rfl⟩
instance : FldV Try.prog 105 1 1 1 false := FldV.of 23 rfl rfl rfl rfl
instance : Fld Try.prog 105 2 2 := ⟨fun _ _ _ => by kernel_rfl⟩
instance : FldV Try.prog 105 2 2 1 false := FldV.of 3 rfl rfl rfl rfl
instance : Bld Try.prog 105 [(0, 1), (1, 1), (2, 1)] [.slice none 0 0, .slice none 0 0, .int .i64 0] := Bld.of rfl (fun _ => by kernel_rfl)
instance : Fld Try.prog 111 0 0 := ⟨fun _ _ _ => by kernel_rfl⟩
instance : FldV Try.prog 111 0 0 1 false := FldV.of 23 rfl rfl rfl rfl
instance : Fld Try.prog 111 1 1 := ⟨fun _ _ _ => by kernel_rfl⟩
instance : FldV Try.prog 111 1 1 1 false := FldV.of 23 rfl rfl rfl rfl
instance : Fld Try.prog 111 2 2 := ⟨fun _ _ _ => by kernel_rfl⟩
instance : FldV Try.prog 111 2 2 1 false := FldV.of 3 rfl rfl rfl rfl
instance : Bld Try.prog 111 [(0, 1), (1, 1), (2, 1)] [.slice none 0 0, .slice none 0 0, .int .i64 0] := Bld.of rfl (fun _ => by kernel_rfl)
instance : Fld Try.prog 112 0 0 := ⟨fun _ _ _ => by kernel_rfl⟩
instance : FldV Try.prog 112 0 0 1 false := FldV.of 23 rfl rfl rfl rfl
instance : Fld Try.prog 112 1 1 := ⟨fun _ _ _ => by kernel_rfl⟩
instance : FldV Try.prog 112 1 1 1 false := FldV.of 23 rfl rfl rfl rfl
instance : Fld Try.prog 112 2 2 := ⟨fun _ _ _ => by kernel_rfl⟩
instance : FldV Try.prog 112 2 2 1 false := FldV.of 3 rfl rfl rfl rfl
instance : Bld Try.prog 112 [(0, 1), (1, 1), (2, 1)] [.slice none 0 0, .slice none 0 0, .int .i64 0] := Bld.of rfl (fun _ => by kernel_rfl)
instance : Fld Try.prog 119 0 0 := ⟨fun _ _ _ => by kernel_rfl⟩
instance : FldV Try.prog 119 0 0 1 false := FldV.of 39 rfl rfl rfl rfl
instance : Fld Try.prog 119 1 1 := ⟨fun _ _ _ => by kernel_rfl⟩
instance : FldV Try.prog 119 1 1 1 false := FldV.of 3 rfl rfl rfl rfl
instance : Bld Try.prog 119 [(0, 1), (1, 1)] [.int .u64 0, .int .i64 0] := Bld.of rfl (fun _ => by kernel_rfl)
instance : Fld Try.prog 120 0 0 := ⟨fun _ _ _ => by kernel_rfl⟩
instance : FldV Try.prog 120 0 0 1 false := FldV.of 39 rfl rfl rfl rfl
instance : Fld Try.prog 120 1 1 := ⟨fun _ _ _ => by kernel_rfl⟩
instance : FldV Try.prog 120 1 1 1 false := FldV.of 3 rfl rfl rfl rfl
instance : Bld Try.prog 120 [(0, 1), (1, 1)] [.int .u64 0, .int .i64 0] := Bld.of rfl (fun _ => by kernel_rfl)
instance : Fld Try.prog 121 0 0 := ⟨fun _ _ _ => by kernel_rfl⟩
instance : FldV Try.prog 121 0 0 1 false := FldV.of 116 rfl rfl rfl rfl
instance : Bld Try.prog 121 [(0, 1)] [.pointer none] := Bld.of rfl (fun _ => by kernel_rfl)
instance : Fld Try.prog 122 0 0 := ⟨fun _ _ _ => by kernel_rfl⟩
instance : FldV Try.prog 122 0 0 1 false := FldV.of 116 rfl rfl rfl rfl
instance : Bld Try.prog 122 [(0, 1)] [.pointer none] := Bld.of rfl (fun _ => by kernel_rfl)
instance : Fld Try.prog 129 0 0 := ⟨fun _ _ _ => by kernel_rfl⟩
instance : FldV Try.prog 129 0 0 1 false := FldV.of 39 rfl rfl rfl rfl
instance : Fld Try.prog 129 1 1 := ⟨fun _ _ _ => by kernel_rfl⟩
instance : FldV Try.prog 129 1 1 1 false := FldV.of 9 rfl rfl rfl rfl
instance : Bld Try.prog 129 [(0, 1), (1, 1)] [.int .u64 0, .string ⟨#[]⟩] := Bld.of rfl (fun _ => by kernel_rfl)
instance : Fld Try.prog 130 0 0 := ⟨fun _ _ _ => by kernel_rfl⟩
instance : FldV Try.prog 130 0 0 1 false := FldV.of 39 rfl rfl rfl rfl
instance : Fld Try.prog 130 1 1 := ⟨fun _ _ _ => by kernel_rfl⟩
instance : FldV Try.prog 130 1 1 1 false := FldV.of 9 rfl rfl rfl rfl
instance : Bld Try.prog 130 [(0, 1), (1, 1)] [.int .u64 0, .string ⟨#[]⟩] := Bld.of rfl (fun _ => by kernel_rfl)
instance : Fld Try.prog 131 0 0 := ⟨fun _ _ _ => by kernel_rfl⟩
instance : FldV Try.prog 131 0 0 1 false := FldV.of 126 rfl rfl rfl rfl
instance : Bld Try.prog 131 [(0, 1)] [.pointer none] := Bld.of rfl (fun _ => by kernel_rfl)
instance : Fld Try.prog 132 0 0 := ⟨fun _ _ _ => by kernel_rfl⟩
instance : FldV Try.prog 132 0 0 1 false := FldV.of 126 rfl rfl rfl rfl
instance : Bld Try.prog 132 [(0, 1)] [.pointer none] := Bld.of rfl (fun _ => by kernel_rfl)
instance : Fld Try.prog 139 0 0 := ⟨fun _ _ _ => by kernel_rfl⟩
instance : FldV Try.prog 139 0 0 1 false := FldV.of 39 rfl rfl rfl rfl
instance : Fld Try.prog 139 1 1 := ⟨fun _ _ _ => by kernel_rfl⟩
instance : FldV Try.prog 139 1 1 1 false := FldV.of 3 rfl rfl rfl rfl
instance : Bld Try.prog 139 [(0, 1), (1, 1)] [.int .u64 0, .int .i64 0] := Bld.of rfl (fun _ => by kernel_rfl)
instance : Fld Try.prog 140 0 0 := ⟨fun _ _ _ => by kernel_rfl⟩
instance : FldV Try.prog 140 0 0 1 false := FldV.of 39 rfl rfl rfl rfl
instance : Fld Try.prog 140 1 1 := ⟨fun _ _ _ => by kernel_rfl⟩
instance : FldV Try.prog 140 1 1 1 false := FldV.of 3 rfl rfl rfl rfl
instance : Bld Try.prog 140 [(0, 1), (1, 1)] [.int .u64 0, .int .i64 0] := Bld.of rfl (fun _ => by kernel_rfl)
instance : Fld Try.prog 147 0 0 := ⟨fun _ _ _ => by kernel_rfl⟩
instance : FldV Try.prog 147 0 0 1 false := FldV.of 41 rfl rfl rfl rfl
instance : Fld Try.prog 147 1 1 := ⟨fun _ _ _ => by kernel_rfl⟩
instance : FldV Try.prog 147 1 1 1 false := FldV.of 22 rfl rfl rfl rfl
instance : Fld Try.prog 147 2 2 := ⟨fun _ _ _ => by kernel_rfl⟩
instance : FldV Try.prog 147 2 2 1 false := FldV.of 3 rfl rfl rfl rfl
instance : Bld Try.prog 147 [(0, 1), (1, 1), (2, 1)] [.slice none 0 0, .slice none 0 0, .int .i64 0] := Bld.of rfl (fun _ => by kernel_rfl)
instance : Fld Try.prog 148 0 0 := ⟨fun _ _ _ => by kernel_rfl⟩
instance : FldV Try.prog 148 0 0 1 false := FldV.of 41 rfl rfl rfl rfl
instance : Fld Try.prog 148 1 1 := ⟨fun _ _ _ => by kernel_rfl⟩
instance : FldV Try.prog 148 1 1 1 false := FldV.of 22 rfl rfl rfl rfl
instance : Fld Try.prog 148 2 2 := ⟨fun _ _ _ => by kernel_rfl⟩
instance : FldV Try.prog 148 2 2 1 false := FldV.of 3 rfl rfl rfl rfl
instance : Bld Try.prog 148 [(0, 1), (1, 1), (2, 1)] [.slice none 0 0, .slice none 0 0, .int .i64 0] := Bld.of rfl (fun _ => by kernel_rfl)
instance : Fld Try.prog 158 0 0 := ⟨fun _ _ _ => by kernel_rfl⟩
instance : FldV Try.prog 158 0 0 1 false := FldV.of 41 rfl rfl rfl rfl
instance : Fld Try.prog 158 1 1 := ⟨fun _ _ _ => by kernel_rfl⟩
instance : FldV Try.prog 158 1 1 1 false := FldV.of 157 rfl rfl rfl rfl
instance : Fld Try.prog 158 2 2 := ⟨fun _ _ _ => by kernel_rfl⟩
instance : FldV Try.prog 158 2 2 1 false := FldV.of 3 rfl rfl rfl rfl
instance : Bld Try.prog 158 [(0, 1), (1, 1), (2, 1)] [.slice none 0 0, .slice none 0 0, .int .i64 0] := Bld.of rfl (fun _ => by kernel_rfl)
instance : Fld Try.prog 159 0 0 := ⟨fun _ _ _ => by kernel_rfl⟩
instance : FldV Try.prog 159 0 0 1 false := FldV.of 41 rfl rfl rfl rfl
instance : Fld Try.prog 159 1 1 := ⟨fun _ _ _ => by kernel_rfl⟩
instance : FldV Try.prog 159 1 1 1 false := FldV.of 157 rfl rfl rfl rfl
instance : Fld Try.prog 159 2 2 := ⟨fun _ _ _ => by kernel_rfl⟩
instance : FldV Try.prog 159 2 2 1 false := FldV.of 3 rfl rfl rfl rfl
instance : Bld Try.prog 159 [(0, 1), (1, 1), (2, 1)] [.slice none 0 0, .slice none 0 0, .int .i64 0] := Bld.of rfl (fun _ => by kernel_rfl)
instance : Fld Try.prog 163 0 0 := ⟨fun _ _ _ => by kernel_rfl⟩
instance : FldV Try.prog 163 0 0 1 false := FldV.of 41 rfl rfl rfl rfl
instance : Fld Try.prog 163 1 1 := ⟨fun _ _ _ => by kernel_rfl⟩
instance : FldV Try.prog 163 1 1 1 false := FldV.of 162 rfl rfl rfl rfl
instance : Fld Try.prog 163 2 2 := ⟨fun _ _ _ => by kernel_rfl⟩
instance : FldV Try.prog 163 2 2 1 false := FldV.of 3 rfl rfl rfl rfl
instance : Bld Try.prog 163 [(0, 1), (1, 1), (2, 1)] [.slice none 0 0, .slice none 0 0, .int .i64 0] := Bld.of rfl (fun _ => by kernel_rfl)
instance : Fld Try.prog 164 0 0 := ⟨fun _ _ _ => by kernel_rfl⟩
instance : FldV Try.prog 164 0 0 1 false := FldV.of 41 rfl rfl rfl rfl
instance : Fld Try.prog 164 1 1 := ⟨fun _ _ _ => by kernel_rfl⟩
instance : FldV Try.prog 164 1 1 1 false := FldV.of 162 rfl rfl rfl rfl
instance : Fld Try.prog 164 2 2 := ⟨fun _ _ _ => by kernel_rfl⟩
instance : FldV Try.prog 164 2 2 1 false := FldV.of 3 rfl rfl rfl rfl
instance : Bld Try.prog 164 [(0, 1), (1, 1), (2, 1)] [.slice none 0 0, .slice none 0 0, .int .i64 0] := Bld.of rfl (fun _ => by kernel_rfl)
instance : Ent Try.prog 3 := Ent.of Try.func3 (by kernel_rfl) (by kernel_rfl)
instance : Ent Try.prog 4 := Ent.of Try.func4 (by kernel_rfl) (by kernel_rfl)
instance : Ent Try.prog 5 := Ent.of Try.func5 (by kernel_rfl) (by kernel_rfl)
instance : Ent Try.prog 6 := Ent.of Try.func6 (by kernel_rfl) (by kernel_rfl)
instance : Ent Try.prog 7 := Ent.of Try.func7 (by kernel_rfl) (by kernel_rfl)
instance : Ent Try.prog 8 := Ent.of Try.func8 (by kernel_rfl) (by kernel_rfl)
instance : Ent Try.prog 9 := Ent.of Try.func9 (by kernel_rfl) (by kernel_rfl)
instance : Ent Try.prog 10 := Ent.of Try.func10 (by kernel_rfl) (by kernel_rfl)
instance : Ent Try.prog 11 := Ent.of Try.func11 (by kernel_rfl) (by kernel_rfl)
instance : Ent Try.prog 12 := Ent.of Try.func12 (by kernel_rfl) (by kernel_rfl)
instance : Ent Try.prog 13 := Ent.of Try.func13 (by kernel_rfl) (by kernel_rfl)
instance : Ent Try.prog 14 := Ent.of Try.func14 (by kernel_rfl) (by kernel_rfl)
instance : Ent Try.prog 15 := Ent.of Try.func15 (by kernel_rfl) (by kernel_rfl)
instance : Ent Try.prog 16 := Ent.of Try.func16 (by kernel_rfl) (by kernel_rfl)
instance : Ent Try.prog 17 := Ent.of Try.func17 (by kernel_rfl) (by kernel_rfl)
instance : Ent Try.prog 18 := Ent.of Try.func18 (by kernel_rfl) (by kernel_rfl)
instance : Ent Try.prog 19 := Ent.of Try.func19 (by kernel_rfl) (by kernel_rfl)
instance : Ent Try.prog 20 := Ent.of Try.func20 (by kernel_rfl) (by kernel_rfl)
instance : Ent Try.prog 21 := Ent.of Try.func21 (by kernel_rfl) (by kernel_rfl)
instance : Ent Try.prog 22 := Ent.of Try.func22 (by kernel_rfl) (by kernel_rfl)
instance : Ent Try.prog 23 := Ent.of Try.func23 (by kernel_rfl) (by kernel_rfl)
instance : Ent Try.prog 24 := Ent.of Try.func24 (by kernel_rfl) (by kernel_rfl)
instance : Ent Try.prog 25 := Ent.of Try.func25 (by kernel_rfl) (by kernel_rfl)
instance : Ent Try.prog 26 := Ent.of Try.func26 (by kernel_rfl) (by kernel_rfl)
instance : Ent Try.prog 27 := Ent.of Try.func27 (by kernel_rfl) (by kernel_rfl)
instance : Ent Try.prog 28 := Ent.of Try.func28 (by kernel_rfl) (by kernel_rfl)
instance : Ent Try.prog 29 := Ent.of Try.func29 (by kernel_rfl) (by kernel_rfl)
instance : Ent Try.prog 30 := Ent.of Try.func30 (by kernel_rfl) (by kernel_rfl)
instance : Ent Try.prog 31 := Ent.of Try.func31 (by kernel_rfl) (by kernel_rfl)
instance : Ent Try.prog 32 := Ent.of Try.func32 (by kernel_rfl) (by kernel_rfl)
instance : Ent Try.prog 33 := Ent.of Try.func33 (by kernel_rfl) (by kernel_rfl)
instance : Ent Try.prog 34 := Ent.of Try.func34 (by kernel_rfl) (by kernel_rfl)
instance : Ent Try.prog 35 := Ent.of Try.func35 (by kernel_rfl) (by kernel_rfl)
instance : Ent Try.prog 36 := Ent.of Try.func36 (by kernel_rfl) (by kernel_rfl)
instance : Ent Try.prog 37 := Ent.of Try.func37 (by kernel_rfl) (by kernel_rfl)
instance : Ent Try.prog 38 := Ent.of Try.func38 (by kernel_rfl) (by kernel_rfl)
instance : Ent Try.prog 39 := Ent.of Try.func39 (by kernel_rfl) (by kernel_rfl)
instance : Ent Try.prog 40 := Ent.of Try.func40 (by kernel_rfl) (by kernel_rfl)
instance : Ent Try.prog 41 := Ent.of Try.func41 (by kernel_rfl) (by kernel_rfl)
instance : Ent Try.prog 42 := Ent.of Try.func42 (by kernel_rfl) (by kernel_rfl)
instance : Ent Try.prog 43 := Ent.of Try.func43 (by kernel_rfl) (by kernel_rfl)
instance : Ent Try.prog 44 := Ent.of Try.func44 (by kernel_rfl) (by kernel_rfl)
instance : Ent Try.prog 45 := Ent.of Try.func45 (by kernel_rfl) (by kernel_rfl)
instance : Ent Try.prog 46 := Ent.of Try.func46 (by kernel_rfl) (by kernel_rfl)
instance : Ent Try.prog 47 := Ent.of Try.func47 (by kernel_rfl) (by kernel_rfl)
instance : Ent Try.prog 48 := Ent.of Try.func48 (by kernel_rfl) (by kernel_rfl)
instance : Ent Try.prog 49 := Ent.of Try.func49 (by kernel_rfl) (by kernel_rfl)
instance : Ent Try.prog 50 := Ent.of Try.func50 (by kernel_rfl) (by kernel_rfl)
instance : Ent Try.prog 51 := Ent.of Try.func51 (by kernel_rfl) (by kernel_rfl)
instance : Ent Try.prog 52 := Ent.of Try.func52 (by kernel_rfl) (by kernel_rfl)
instance : Ent Try.prog 53 := Ent.of Try.func53 (by kernel_rfl) (by kernel_rfl)
instance : Ent Try.prog 54 := Ent.of Try.func54 (by kernel_rfl) (by kernel_rfl)
instance : Ent Try.prog 55 := Ent.of Try.func55 (by kernel_rfl) (by kernel_rfl)
instance : Ent Try.prog 56 := Ent.of Try.func56 (by kernel_rfl) (by kernel_rfl)
instance : Ent Try.prog 57 := Ent.of Try.func57 (by kernel_rfl) (by kernel_rfl)
instance : Ent Try.prog 58 := Ent.of Try.func58 (by kernel_rfl) (by kernel_rfl)
instance : Ent Try.prog 59 := Ent.of Try.func59 (by kernel_rfl) (by kernel_rfl)
instance : Ent Try.prog 60 := Ent.of Try.func60 (by kernel_rfl) (by kernel_rfl)
instance : Ent Try.prog 61 := Ent.of Try.func61 (by kernel_rfl) (by kernel_rfl)
instance : Ent Try.prog 62 := Ent.of Try.func62 (by kernel_rfl) (by kernel_rfl)
instance : Ent Try.prog 63 := Ent.of Try.func63 (by kernel_rfl) (by kernel_rfl)
instance : Ent Try.prog 64 := Ent.of Try.func64 (by kernel_rfl) (by kernel_rfl)
instance : Ent Try.prog 65 := Ent.of Try.func65 (by kernel_rfl) (by kernel_rfl)
instance : Ent Try.prog 66 := Ent.of Try.func66 (by kernel_rfl) (by kernel_rfl)
instance : Ent Try.prog 67 := Ent.of Try.func67 (by kernel_rfl) (by kernel_rfl)
instance : Ent Try.prog 68 := Ent.of Try.func68 (by kernel_rfl) (by kernel_rfl)
instance : Ent Try.prog 69 := Ent.of Try.func69 (by kernel_rfl) (by kernel_rfl)
instance : Ent Try.prog 70 := Ent.of Try.func70 (by kernel_rfl) (by kernel_rfl)
instance : Ent Try.prog 71 := Ent.of Try.func71 (by kernel_rfl) (by kernel_rfl)
instance : Ent Try.prog 72 := Ent.of Try.func72 (by kernel_rfl) (by kernel_rfl)
instance : Ent Try.prog 73 := Ent.of Try.func73 (by kernel_rfl) (by kernel_rfl)
instance : Ent Try.prog 74 := Ent.of Try.func74 (by kernel_rfl) (by kernel_rfl)
instance : Ent Try.prog 75 := Ent.of Try.func75 (by kernel_rfl) (by kernel_rfl)
instance : Ent Try.prog 76 := Ent.of Try.func76 (by kernel_rfl) (by kernel_rfl)
instance : Ent Try.prog 77 := Ent.of Try.func77 (by kernel_rfl) (by kernel_rfl)
instance : Ent Try.prog 78 := Ent.of Try.func78 (by kernel_rfl) (by kernel_rfl)
instance : Ent Try.prog 79 := Ent.of Try.func79 (by kernel_rfl) (by kernel_rfl)
instance : Ent Try.prog 80 := Ent.of Try.func80 (by kernel_rfl) (by kernel_rfl)
instance : Ent Try.prog 81 := Ent.of Try.func81 (by kernel_rfl) (by kernel_rfl)
instance : Ent Try.prog 82 := Ent.of Try.func82 (by kernel_rfl) (by kernel_rfl)
instance : Ent Try.prog 83 := Ent.of Try.func83 (by kernel_rfl) (by kernel_rfl)
instance : Ent Try.prog 84 := Ent.of Try.func84 (by kernel_rfl) (by kernel_rfl)
instance : Ent Try.prog 85 := Ent.of Try.func85 (by kernel_rfl) (by kernel_rfl)
instance : Ent Try.prog 86 := Ent.of Try.func86 (by kernel_rfl) (by kernel_rfl)
instance : Ent Try.prog 87 := Ent.of Try.func87 (by kernel_rfl) (by kernel_rfl)
instance : Ent Try.prog 88 := Ent.of Try.func88 (by kernel_rfl) (by kernel_rfl)
instance : Ent Try.prog 89 := Ent.of Try.func89 (by kernel_rfl) (by kernel_rfl)
instance : Ent Try.prog 91 := Ent.of Try.func91 (by kernel_rfl) (by kernel_rfl)
instance : Ent Try.prog 93 := Ent.of Try.func93 (by kernel_rfl) (by kernel_rfl)
instance : Ent Try.prog 94 := Ent.of Try.func94 (by kernel_rfl) (by kernel_rfl)
instance : Ent Try.prog 95 := Ent.of Try.func95 (by kernel_rfl) (by kernel_rfl)
instance : Ent Try.prog 96 := Ent.of Try.func96 (by kernel_rfl) (by kernel_rfl)
instance : Ent Try.prog 98 := Ent.of Try.func98 (by kernel_rfl) (by kernel_rfl)
instance : Ent Try.prog 99 := Ent.of Try.func99 (by kernel_rfl) (by kernel_rfl)
instance : Ent Try.prog 100 := Ent.of Try.func100 (by kernel_rfl) (by kernel_rfl)
instance : Ent Try.prog 101 := Ent.of Try.func101 (by kernel_rfl) (by kernel_rfl)
instance : Ent Try.prog 102 := Ent.of Try.func102 (by kernel_rfl) (by kernel_rfl)
instance : Ent Try.prog 103 := Ent.of Try.func103 (by kernel_rfl) (by kernel_rfl)
instance : Ent Try.prog 104 := Ent.of Try.func104 (by kernel_rfl) (by kernel_rfl)
instance : Ent Try.prog 105 := Ent.of Try.func105 (by kernel_rfl) (by kernel_rfl)
instance : Ent Try.prog 106 := Ent.of Try.func106 (by kernel_rfl) (by kernel_rfl)
instance : Ent Try.prog 107 := Ent.of Try.func107 (by kernel_rfl) (by kernel_rfl)
instance : Ent Try.prog 108 := Ent.of Try.func108 (by kernel_rfl) (by kernel_rfl)
instance : Ent Try.prog 109 := Ent.of Try.func109 (by kernel_rfl) (by kernel_rfl)
instance : Ent Try.prog 110 := Ent.of Try.func110 (by kernel_rfl) (by kernel_rfl)
instance : Ent Try.prog 111 := Ent.of Try.func111 (by kernel_rfl) (by kernel_rfl)
instance : Ent Try.prog 112 := Ent.of Try.func112 (by kernel_rfl) (by kernel_rfl)
instance : Ent Try.prog 113 := Ent.of Try.func113 (by kernel_rfl) (by kernel_rfl)
instance : Ent Try.prog 114 := Ent.of Try.func114 (by kernel_rfl) (by kernel_rfl)
instance : Ent Try.prog 115 := Ent.of Try.func115 (by kernel_rfl) (by kernel_rfl)
instance : Ent Try.prog 116 := Ent.of Try.func116 (by kernel_rfl) (by kernel_rfl)
instance : Ent Try.prog 117 := Ent.of Try.func117 (by kernel_rfl) (by kernel_rfl)
instance : Ent Try.prog 119 := Ent.of Try.func119 (by kernel_rfl) (by kernel_rfl)
instance : Ent Try.prog 121 := Ent.of Try.func121 (by kernel_rfl) (by kernel_rfl)
instance : Ent Try.prog 122 := Ent.of Try.func122 (by kernel_rfl) (by kernel_rfl)
instance : Ent Try.prog 123 := Ent.of Try.func123 (by kernel_rfl) (by kernel_rfl)
instance : Ent Try.prog 124 := Ent.of Try.func124 (by kernel_rfl) (by kernel_rfl)
instance : Ent Try.prog 125 := Ent.of Try.func125 (by kernel_rfl) (by kernel_rfl)
instance : Ent Try.prog 126 := Ent.of Try.func126 (by kernel_rfl) (by kernel_rfl)
instance : Ent Try.prog 127 := Ent.of Try.func127 (by kernel_rfl) (by kernel_rfl)
instance : Ent Try.prog 128 := Ent.of Try.func128 (by kernel_rfl) (by kernel_rfl)
end Go.Sx
