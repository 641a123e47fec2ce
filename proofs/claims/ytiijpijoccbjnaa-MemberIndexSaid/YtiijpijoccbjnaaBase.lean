/-
  PRINTED by my sx.py: the types' and functions' facts as instances.
-/
import Derived.Test.YtiijpijoccbjnaaSxO
import Derived.Test.YtiijpijoccbjnaaRows
namespace Go.Sx
open Go.Proofs
instance : Mix Try.prog := ⟨by kernel_rfl⟩
instance : Und Try.prog 2 (.int .i64) := ⟨Try.underlying2⟩
instance : Inf Try.prog 2 1 8 (.int .i64 0) := Inf.of (by kernel_rfl)
instance : Und Try.prog 3 (.int .i64) := ⟨Try.underlying3⟩
instance : Inf Try.prog 3 1 8 (.int .i64 0) := Inf.of (by kernel_rfl)
instance : Und Try.prog 4 (.bool) := ⟨Try.underlying4⟩
instance : Inf Try.prog 4 1 1 (.bool false) := Inf.of (by kernel_rfl)
instance : Und Try.prog 5 (.int .u8) := ⟨Try.underlying5⟩
instance : Inf Try.prog 5 1 1 (.int .u8 0) := Inf.of (by kernel_rfl)
instance : Und Try.prog 9 (.string) := ⟨Try.underlying9⟩
instance : Inf Try.prog 9 1 16 (.string ⟨#[]⟩) := Inf.of (by kernel_rfl)
instance : Und Try.prog 12 (.int .u64) := ⟨Try.underlying12⟩
instance : Inf Try.prog 12 1 8 (.int .u64 0) := Inf.of (by kernel_rfl)
instance : Und Try.prog 13 (.struct #[{ name := "msg", type := 9, offset := 0, embedded := false, tag := "", pkgPath := "runtime", byteOffset := 0 }, { name := "addr", type := 12, offset := 1, embedded := false, tag := "", pkgPath := "runtime", byteOffset := 16 }]) := ⟨Try.underlying13⟩
instance : Inf Try.prog 13 2 24 (.agg #[.string ⟨#[]⟩, .int .u64 0]) := Inf.of (by kernel_rfl)
instance : Und Try.prog 19 (.struct #[{ name := "typ", type := 17, offset := 0, embedded := false, tag := "", pkgPath := "internal/runtime/maps", byteOffset := 0 }]) := ⟨Try.underlying19⟩
instance : Inf Try.prog 19 1 8 (.agg #[.pointer none]) := Inf.of (by kernel_rfl)
instance : Und Try.prog 21 (.int .i32) := ⟨Try.underlying21⟩
instance : Inf Try.prog 21 1 4 (.int .i32 0) := Inf.of (by kernel_rfl)
instance : Und Try.prog 24 (.slice 3) := ⟨Try.underlying24⟩
instance : Inf Try.prog 24 1 24 (.slice none 0 0) := Inf.of (by kernel_rfl)
instance : Und Try.prog 35 (.int .u64) := ⟨Try.underlying35⟩
instance : Inf Try.prog 35 1 8 (.int .u64 0) := Inf.of (by kernel_rfl)
instance : Und Try.prog 36 (.int .i64) := ⟨Try.underlying36⟩
instance : Inf Try.prog 36 1 8 (.int .i64 0) := Inf.of (by kernel_rfl)
instance : Und Try.prog 40 (.slice 41) := ⟨Try.underlying40⟩
instance : Inf Try.prog 40 1 24 (.slice none 0 0) := Inf.of (by kernel_rfl)
instance : Und Try.prog 41 (.int .u64) := ⟨Try.underlying41⟩
instance : Inf Try.prog 41 1 8 (.int .u64 0) := Inf.of (by kernel_rfl)
instance : Und Try.prog 51 (.int .i64) := ⟨Try.underlying51⟩
instance : Inf Try.prog 51 1 8 (.int .i64 0) := Inf.of (by kernel_rfl)
instance : Und Try.prog 60 (.int .u32) := ⟨Try.underlying60⟩
instance : Inf Try.prog 60 1 4 (.int .u32 0) := Inf.of (by kernel_rfl)
instance : Und Try.prog 62 (.int .u64) := ⟨Try.underlying62⟩
instance : Inf Try.prog 62 1 8 (.int .u64 0) := Inf.of (by kernel_rfl)
instance : Und Try.prog 66 (.pointer 3) := ⟨Try.underlying66⟩
instance : Inf Try.prog 66 1 8 (.pointer none) := Inf.of (by kernel_rfl)
instance : Und Try.prog 69 (.pointer 62) := ⟨Try.underlying69⟩
instance : Inf Try.prog 69 1 8 (.pointer none) := Inf.of (by kernel_rfl)
instance : Und Try.prog 82 (.pointer 5) := ⟨Try.underlying82⟩
instance : Inf Try.prog 82 1 8 (.pointer none) := Inf.of (by kernel_rfl)
instance : Und Try.prog 87 (.unsafePointer) := ⟨Try.underlying87⟩
instance : Inf Try.prog 87 1 8 (.pointer none) := Inf.of (by kernel_rfl)
instance : Fld Try.prog 13 0 0 := ⟨fun _ _ _ => by kernel_rfl⟩
instance : FldV Try.prog 13 0 0 1 false := FldV.of 9 rfl rfl rfl rfl
instance : Fld Try.prog 13 1 1 := ⟨fun _ _ _ => by kernel_rfl⟩
instance : FldV Try.prog 13 1 1 1 false := FldV.of 12 rfl rfl rfl rfl
instance : Bld Try.prog 13 [(0, 1), (1, 1)] [.string ⟨#[]⟩, .int .u64 0] := Bld.of rfl (fun _ => by kernel_rfl)
instance : Fld Try.prog 19 0 0 := ⟨fun _ _ _ => by kernel_rfl⟩
instance : Ent Try.prog 3 := Ent.of Try.func3 (by kernel_rfl) (by kernel_rfl)
instance : Ent Try.prog 4 := Ent.of Try.func4 (by kernel_rfl) (by kernel_rfl)
instance : Ent Try.prog 5 := Ent.of Try.func5 (by kernel_rfl) (by kernel_rfl)
instance : Ent Try.prog 6 := Ent.of Try.func6 (by kernel_rfl) (by kernel_rfl)
instance : Ent Try.prog 7 := Ent.of Try.func7 (by kernel_rfl) (by kernel_rfl)
instance : Ent Try.prog 8 := Ent.of Try.func8 (by kernel_rfl) (by kernel_rfl)
instance : Ent Try.prog 9 := Ent.of Try.func9 (by kernel_rfl) (by kernel_rfl)
instance : Ent Try.prog 10 := Ent.of Try.func10 (by kernel_rfl) (by kernel_rfl)
instance : Ent Try.prog 11 := Ent.of Try.func11 (by kernel_rfl) (by kernel_rfl)
instance : Ent Try.prog 12 := Ent.of Try.func12 (by kernel_rfl) (by kernel_rfl)
instance : Ent Try.prog 13 := Ent.of Try.func13 (by kernel_rfl) (by kernel_rfl)
instance : Ent Try.prog 14 := Ent.of Try.func14 (by kernel_rfl) (by kernel_rfl)
instance : Ent Try.prog 15 := Ent.of Try.func15 (by kernel_rfl) (by kernel_rfl)
instance : Ent Try.prog 16 := Ent.of Try.func16 (by kernel_rfl) (by kernel_rfl)
instance : Ent Try.prog 17 := Ent.of Try.func17 (by kernel_rfl) (by kernel_rfl)
instance : Ent Try.prog 18 := Ent.of Try.func18 (by kernel_rfl) (by kernel_rfl)
instance : Ent Try.prog 19 := Ent.of Try.func19 (by kernel_rfl) (by kernel_rfl)
instance : Ent Try.prog 20 := Ent.of Try.func20 (by kernel_rfl) (by kernel_rfl)
instance : Ent Try.prog 21 := Ent.of Try.func21 (by kernel_rfl) (by kernel_rfl)
instance : Ent Try.prog 22 := Ent.of Try.func22 (by kernel_rfl) (by kernel_rfl)
instance : Ent Try.prog 23 := Ent.of Try.func23 (by kernel_rfl) (by kernel_rfl)
instance : Ent Try.prog 24 := Ent.of Try.func24 (by kernel_rfl) (by kernel_rfl)
instance : Ent Try.prog 25 := Ent.of Try.func25 (by kernel_rfl) (by kernel_rfl)
instance : Ent Try.prog 26 := Ent.of Try.func26 (by kernel_rfl) (by kernel_rfl)
instance : Ent Try.prog 27 := Ent.of Try.func27 (by kernel_rfl) (by kernel_rfl)
instance : Ent Try.prog 28 := Ent.of Try.func28 (by kernel_rfl) (by kernel_rfl)
instance : Ent Try.prog 29 := Ent.of Try.func29 (by kernel_rfl) (by kernel_rfl)
instance : Ent Try.prog 30 := Ent.of Try.func30 (by kernel_rfl) (by kernel_rfl)
instance : Ent Try.prog 31 := Ent.of Try.func31 (by kernel_rfl) (by kernel_rfl)
instance : Ent Try.prog 32 := Ent.of Try.func32 (by kernel_rfl) (by kernel_rfl)
instance : Ent Try.prog 33 := Ent.of Try.func33 (by kernel_rfl) (by kernel_rfl)
instance : Ent Try.prog 34 := Ent.of Try.func34 (by kernel_rfl) (by kernel_rfl)
instance : Ent Try.prog 35 := Ent.of Try.func35 (by kernel_rfl) (by kernel_rfl)
instance : Ent Try.prog 36 := Ent.of Try.func36 (by kernel_rfl) (by kernel_rfl)
instance : Ent Try.prog 37 := Ent.of Try.func37 (by kernel_rfl) (by kernel_rfl)
instance : Ent Try.prog 38 := Ent.of Try.func38 (by kernel_rfl) (by kernel_rfl)
instance : Ent Try.prog 39 := Ent.of Try.func39 (by kernel_rfl) (by kernel_rfl)
instance : Ent Try.prog 40 := Ent.of Try.func40 (by kernel_rfl) (by kernel_rfl)
instance : Ent Try.prog 41 := Ent.of Try.func41 (by kernel_rfl) (by kernel_rfl)
instance : Ent Try.prog 42 := Ent.of Try.func42 (by kernel_rfl) (by kernel_rfl)
instance : Ent Try.prog 43 := Ent.of Try.func43 (by kernel_rfl) (by kernel_rfl)
instance : Ent Try.prog 44 := Ent.of Try.func44 (by kernel_rfl) (by kernel_rfl)
instance : Ent Try.prog 45 := Ent.of Try.func45 (by kernel_rfl) (by kernel_rfl)
instance : Ent Try.prog 46 := Ent.of Try.func46 (by kernel_rfl) (by kernel_rfl)
instance : Ent Try.prog 47 := Ent.of Try.func47 (by kernel_rfl) (by kernel_rfl)
instance : Ent Try.prog 48 := Ent.of Try.func48 (by kernel_rfl) (by kernel_rfl)
instance : Ent Try.prog 49 := Ent.of Try.func49 (by kernel_rfl) (by kernel_rfl)
instance : Ent Try.prog 50 := Ent.of Try.func50 (by kernel_rfl) (by kernel_rfl)
instance : Ent Try.prog 51 := Ent.of Try.func51 (by kernel_rfl) (by kernel_rfl)
instance : Ent Try.prog 52 := Ent.of Try.func52 (by kernel_rfl) (by kernel_rfl)
instance : Ent Try.prog 53 := Ent.of Try.func53 (by kernel_rfl) (by kernel_rfl)
instance : Ent Try.prog 54 := Ent.of Try.func54 (by kernel_rfl) (by kernel_rfl)
instance : Ent Try.prog 55 := Ent.of Try.func55 (by kernel_rfl) (by kernel_rfl)
end Go.Sx
