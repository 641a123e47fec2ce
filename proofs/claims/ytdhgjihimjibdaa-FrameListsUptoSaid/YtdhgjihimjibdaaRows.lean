/-
  No cell of these rows narrows 'for every input' (looked for: loops, veiled, ifaces, maps, wideKeys, modest, calm, conditions, laid).
  DERIVED. THE GIVEN ROWS OF THIS SEAT. 10 by the template 'for every input the law returns true; each argument reads behind the call as it read before'; 0 by the template 'total and deterministic' (their statements: YtdhgjihimjibdaaTotals.lean).
  GIVEN WITH THE SEED: the statements are not yours to turn. If you find one false, say at which input.
  Laid BY PROGRAM, IN A SANDBOX (cutbox-rows.mjs): the forced cells as the released guide's own fill.sh prints them over the translation 968b59c1b83e92fc… (all of the seat's roots in one cut). By AI agents, Wed Nov 11 2026. No macro, syntax, notation, axiom, sorry.
-/
import Derived.Test.YtdhgjihimjibdaaChecked
import GoSem.Claim
import GoSem.ClaimJoined
import GoSem.ClaimMapViews
import Derived.JoinedTies
import Derived.KernelRfl
namespace Go.Proofs.Ytdhgjihimjibdaa
/- THE CELL 'sum', in the pinned program and in every row, IS THE sha256 OF THE DUMP (.gsa) THAT YtdhgjihimjibdaaProg.lean LOADS. Nothing in Lean hashes anything: it is a label: what it is worth is what the hold of that sum in a sandbox is worth. -/
noncomputable def Try.pinned : Pinned := { name := "ytdhgjihimjibdaa", sum := "968b59c1b83e92fca00c215d1e015e005ef62192252d8b9d789edb51e90c2998", checked := Try.checked }
namespace Rows
def none {H : Type} : Left H := { results := [], args := [] }

/-- 'bursarlaw16.ChunkFull': WHATEVER THE INPUT: true; the input reads as it did. -/
def chunkFullSpec : ChangeSpec := { name := "chunkFull", fn := fun _ => fun
  | [d1, d2] => { results := [.lit (.bool true)], args := [d1, d2] }
  | _ => none }
def chunkFullRow : OpenClaim := { program := "ytdhgjihimjibdaa", sum := "968b59c1b83e92fca00c215d1e015e005ef62192252d8b9d789edb51e90c2998", func := "bursar/bursarlaw16.ChunkFull", spec := "chunkFull", apart := false }
def ChunkFullSaid : Prop := chunkFullRow.holds Try.pinned (OpenSpec.ofChange chunkFullSpec)

/-- ITS FALSE NEIGHBOUR: 'it returns false'. Refute it at one input. -/
def chunkFullWrong : ChangeSpec := { name := "chunkFull", fn := fun _ => fun
  | [d1, d2] => { results := [.lit (.bool false)], args := [d1, d2] }
  | _ => none }
def ChunkFullWrongFalsely : Prop := chunkFullRow.holds Try.pinned (OpenSpec.ofChange chunkFullWrong)

/-- 'bursarlaw16.ChunkTakes': WHATEVER THE INPUT: true; the input reads as it did. -/
def chunkTakesSpec : ChangeSpec := { name := "chunkTakes", fn := fun _ => fun
  | [d1, d2] => { results := [.lit (.bool true)], args := [d1, d2] }
  | _ => none }
def chunkTakesRow : OpenClaim := { program := "ytdhgjihimjibdaa", sum := "968b59c1b83e92fca00c215d1e015e005ef62192252d8b9d789edb51e90c2998", func := "bursar/bursarlaw16.ChunkTakes", spec := "chunkTakes", apart := false }
def ChunkTakesSaid : Prop := chunkTakesRow.holds Try.pinned (OpenSpec.ofChange chunkTakesSpec)

/-- ITS FALSE NEIGHBOUR: 'it returns false'. Refute it at one input. -/
def chunkTakesWrong : ChangeSpec := { name := "chunkTakes", fn := fun _ => fun
  | [d1, d2] => { results := [.lit (.bool false)], args := [d1, d2] }
  | _ => none }
def ChunkTakesWrongFalsely : Prop := chunkTakesRow.holds Try.pinned (OpenSpec.ofChange chunkTakesWrong)

/-- 'bursarlaw16.ChunkCuts': WHATEVER THE INPUT: true; the input reads as it did. -/
def chunkCutsSpec : ChangeSpec := { name := "chunkCuts", fn := fun _ => fun
  | [d1, d2, d3, d4] => { results := [.lit (.bool true)], args := [d1, d2, d3, d4] }
  | _ => none }
def chunkCutsRow : OpenClaim := { program := "ytdhgjihimjibdaa", sum := "968b59c1b83e92fca00c215d1e015e005ef62192252d8b9d789edb51e90c2998", func := "bursar/bursarlaw16.ChunkCuts", spec := "chunkCuts", apart := false }
def ChunkCutsSaid : Prop := chunkCutsRow.holds Try.pinned (OpenSpec.ofChange chunkCutsSpec)

/-- ITS FALSE NEIGHBOUR: 'it returns false'. Refute it at one input. -/
def chunkCutsWrong : ChangeSpec := { name := "chunkCuts", fn := fun _ => fun
  | [d1, d2, d3, d4] => { results := [.lit (.bool false)], args := [d1, d2, d3, d4] }
  | _ => none }
def ChunkCutsWrongFalsely : Prop := chunkCutsRow.holds Try.pinned (OpenSpec.ofChange chunkCutsWrong)

/-- 'bursarlaw16.ChunkBack': WHATEVER THE INPUT: true; the input reads as it did. -/
def chunkBackSpec : ChangeSpec := { name := "chunkBack", fn := fun _ => fun
  | [d1, d2, d3] => { results := [.lit (.bool true)], args := [d1, d2, d3] }
  | _ => none }
def chunkBackRow : OpenClaim := { program := "ytdhgjihimjibdaa", sum := "968b59c1b83e92fca00c215d1e015e005ef62192252d8b9d789edb51e90c2998", func := "bursar/bursarlaw16.ChunkBack", spec := "chunkBack", apart := false }
def ChunkBackSaid : Prop := chunkBackRow.holds Try.pinned (OpenSpec.ofChange chunkBackSpec)

/-- ITS FALSE NEIGHBOUR: 'it returns false'. Refute it at one input. -/
def chunkBackWrong : ChangeSpec := { name := "chunkBack", fn := fun _ => fun
  | [d1, d2, d3] => { results := [.lit (.bool false)], args := [d1, d2, d3] }
  | _ => none }
def ChunkBackWrongFalsely : Prop := chunkBackRow.holds Try.pinned (OpenSpec.ofChange chunkBackWrong)

/-- 'bursarlaw16.ChunkKnown': WHATEVER THE INPUT: true; the input reads as it did. -/
def chunkKnownSpec : ChangeSpec := { name := "chunkKnown", fn := fun _ => fun
  | [] => { results := [.lit (.bool true)], args := [] }
  | _ => none }
def chunkKnownRow : OpenClaim := { program := "ytdhgjihimjibdaa", sum := "968b59c1b83e92fca00c215d1e015e005ef62192252d8b9d789edb51e90c2998", func := "bursar/bursarlaw16.ChunkKnown", spec := "chunkKnown", apart := false }
def ChunkKnownSaid : Prop := chunkKnownRow.holds Try.pinned (OpenSpec.ofChange chunkKnownSpec)

/-- ITS FALSE NEIGHBOUR: 'it returns false'. Refute it at one input. -/
def chunkKnownWrong : ChangeSpec := { name := "chunkKnown", fn := fun _ => fun
  | [] => { results := [.lit (.bool false)], args := [] }
  | _ => none }
def ChunkKnownWrongFalsely : Prop := chunkKnownRow.holds Try.pinned (OpenSpec.ofChange chunkKnownWrong)

/-- 'bursarlaw8.FrameKnown': WHATEVER THE INPUT: true; the input reads as it did. -/
def frameKnownSpec : ChangeSpec := { name := "frameKnown", fn := fun _ => fun
  | [] => { results := [.lit (.bool true)], args := [] }
  | _ => none }
def frameKnownRow : OpenClaim := { program := "ytdhgjihimjibdaa", sum := "968b59c1b83e92fca00c215d1e015e005ef62192252d8b9d789edb51e90c2998", func := "bursar/bursarlaw8.FrameKnown", spec := "frameKnown", unfollowed := true, recurses := true, apart := false }
def FrameKnownSaid : Prop := frameKnownRow.holds Try.pinned (OpenSpec.ofChange frameKnownSpec)

/-- ITS FALSE NEIGHBOUR: 'it returns false'. Refute it at one input. -/
def frameKnownWrong : ChangeSpec := { name := "frameKnown", fn := fun _ => fun
  | [] => { results := [.lit (.bool false)], args := [] }
  | _ => none }
def FrameKnownWrongFalsely : Prop := frameKnownRow.holds Try.pinned (OpenSpec.ofChange frameKnownWrong)

/-- 'bursarlaw8.FrameLists': WHATEVER THE INPUT: true; the input reads as it did. -/
def frameListsSpec : ChangeSpec := { name := "frameLists", fn := fun _ => fun
  | [d1, d2, d3, d4, d5] => { results := [.lit (.bool true)], args := [d1, d2, d3, d4, d5] }
  | _ => none }
def frameListsRow : OpenClaim := { program := "ytdhgjihimjibdaa", sum := "968b59c1b83e92fca00c215d1e015e005ef62192252d8b9d789edb51e90c2998", func := "bursar/bursarlaw8.FrameLists", spec := "frameLists", unfollowed := true, recurses := true, apart := false }
def FrameListsSaid : Prop := frameListsRow.holds Try.pinned (OpenSpec.ofChange frameListsSpec)

/-- ITS FALSE NEIGHBOUR: 'it returns false'. Refute it at one input. -/
def frameListsWrong : ChangeSpec := { name := "frameLists", fn := fun _ => fun
  | [d1, d2, d3, d4, d5] => { results := [.lit (.bool false)], args := [d1, d2, d3, d4, d5] }
  | _ => none }
def FrameListsWrongFalsely : Prop := frameListsRow.holds Try.pinned (OpenSpec.ofChange frameListsWrong)

/-- 'bursarlaw8.FrameBack': WHATEVER THE INPUT: true; the input reads as it did. -/
def frameBackSpec : ChangeSpec := { name := "frameBack", fn := fun _ => fun
  | [d] => { results := [.lit (.bool true)], args := [d] }
  | _ => none }
def frameBackRow : OpenClaim := { program := "ytdhgjihimjibdaa", sum := "968b59c1b83e92fca00c215d1e015e005ef62192252d8b9d789edb51e90c2998", func := "bursar/bursarlaw8.FrameBack", spec := "frameBack", unfollowed := true, recurses := true, apart := false }
def FrameBackSaid : Prop := frameBackRow.holds Try.pinned (OpenSpec.ofChange frameBackSpec)

/-- ITS FALSE NEIGHBOUR: 'it returns false'. Refute it at one input. -/
def frameBackWrong : ChangeSpec := { name := "frameBack", fn := fun _ => fun
  | [d] => { results := [.lit (.bool false)], args := [d] }
  | _ => none }
def FrameBackWrongFalsely : Prop := frameBackRow.holds Try.pinned (OpenSpec.ofChange frameBackWrong)

/-- 'bursarlaw8.FrameCut': WHATEVER THE INPUT: true; the input reads as it did. -/
def frameCutSpec : ChangeSpec := { name := "frameCut", fn := fun _ => fun
  | [d1, d2] => { results := [.lit (.bool true)], args := [d1, d2] }
  | _ => none }
def frameCutRow : OpenClaim := { program := "ytdhgjihimjibdaa", sum := "968b59c1b83e92fca00c215d1e015e005ef62192252d8b9d789edb51e90c2998", func := "bursar/bursarlaw8.FrameCut", spec := "frameCut", unfollowed := true, recurses := true, apart := false }
def FrameCutSaid : Prop := frameCutRow.holds Try.pinned (OpenSpec.ofChange frameCutSpec)

/-- ITS FALSE NEIGHBOUR: 'it returns false'. Refute it at one input. -/
def frameCutWrong : ChangeSpec := { name := "frameCut", fn := fun _ => fun
  | [d1, d2] => { results := [.lit (.bool false)], args := [d1, d2] }
  | _ => none }
def FrameCutWrongFalsely : Prop := frameCutRow.holds Try.pinned (OpenSpec.ofChange frameCutWrong)

/-- 'bursarlaw8.FrameRanges': WHATEVER THE INPUT: true; the input reads as it did. -/
def frameRangesSpec : ChangeSpec := { name := "frameRanges", fn := fun _ => fun
  | [d1, d2, d3] => { results := [.lit (.bool true)], args := [d1, d2, d3] }
  | _ => none }
def frameRangesRow : OpenClaim := { program := "ytdhgjihimjibdaa", sum := "968b59c1b83e92fca00c215d1e015e005ef62192252d8b9d789edb51e90c2998", func := "bursar/bursarlaw8.FrameRanges", spec := "frameRanges", unfollowed := true, recurses := true, apart := false }
def FrameRangesSaid : Prop := frameRangesRow.holds Try.pinned (OpenSpec.ofChange frameRangesSpec)

/-- ITS FALSE NEIGHBOUR: 'it returns false'. Refute it at one input. -/
def frameRangesWrong : ChangeSpec := { name := "frameRanges", fn := fun _ => fun
  | [d1, d2, d3] => { results := [.lit (.bool false)], args := [d1, d2, d3] }
  | _ => none }
def FrameRangesWrongFalsely : Prop := frameRangesRow.holds Try.pinned (OpenSpec.ofChange frameRangesWrong)

/- THE SECOND FORM. 'bulk': how many values and letters a reading holds, each counted each time it is reached (what is shared counts as often as it is met; a slice's spare places count too). A statement '..UptoSaid' is the law's where the arguments, and the package variables that the reading takes, are together of bulk at most 1048576: NARROWER than '..Said'. Prove '..Said' where nothing that the law and all that it calls make is longer than what came in: it says more and counts as full. Else prove '..UptoSaid'. A law counts once. -/
mutual
def uptoBulk {H : Type} : DataW H → Nat
  | .lit (.string bytes) => bytes.length + 1
  | .lit _ => 1
  | .nil => 1
  | .ptr d => uptoBulk d + 1
  | .slice elems spare => uptoBulkAll elems + uptoBulkAll spare + 1
  | .agg parts => uptoBulkAll parts + 1
  | .iface _ d => uptoBulk d + 1
  | .map entries => uptoBulkEntries entries + 1
  | .held _ => 1
def uptoBulkAll {H : Type} : List (DataW H) → Nat
  | [] => 0
  | d :: r => uptoBulk d + uptoBulkAll r
def uptoBulkEntries {H : Type} : List (Lit × DataW H) → Nat
  | [] => 0
  | x :: r => uptoBulkEntry x + uptoBulkEntries r
def uptoBulkEntry {H : Type} : Lit × DataW H → Nat
  | (.string bytes, d) => bytes.length + uptoBulk d + 1
  | (_, d) => uptoBulk d + 1
 end
def uptoSmall : (H : Type) → List (DataW H) → Bool := fun _ ds => decide (uptoBulkAll ds ≤ 1048576)
def OpenSpec.upto (s : _root_.Go.ChangeSpec) : _root_.Go.OpenSpec := { _root_.Go.OpenSpec.ofChange s with cond := some uptoSmall }

/-- 'bursarlaw16.ChunkFull', WHERE WHAT IT READS IS OF BULK AT MOST 1048576: true; the input reads as it did. -/
def chunkFullUptoRow : OpenClaim := { program := "ytdhgjihimjibdaa", sum := "968b59c1b83e92fca00c215d1e015e005ef62192252d8b9d789edb51e90c2998", func := "bursar/bursarlaw16.ChunkFull", spec := "chunkFull", apart := false, narrowed := true }
def ChunkFullUptoSaid : Prop := chunkFullUptoRow.holds Try.pinned (OpenSpec.upto chunkFullSpec)

/-- 'bursarlaw16.ChunkTakes', WHERE WHAT IT READS IS OF BULK AT MOST 1048576: true; the input reads as it did. -/
def chunkTakesUptoRow : OpenClaim := { program := "ytdhgjihimjibdaa", sum := "968b59c1b83e92fca00c215d1e015e005ef62192252d8b9d789edb51e90c2998", func := "bursar/bursarlaw16.ChunkTakes", spec := "chunkTakes", apart := false, narrowed := true }
def ChunkTakesUptoSaid : Prop := chunkTakesUptoRow.holds Try.pinned (OpenSpec.upto chunkTakesSpec)

/-- 'bursarlaw16.ChunkCuts', WHERE WHAT IT READS IS OF BULK AT MOST 1048576: true; the input reads as it did. -/
def chunkCutsUptoRow : OpenClaim := { program := "ytdhgjihimjibdaa", sum := "968b59c1b83e92fca00c215d1e015e005ef62192252d8b9d789edb51e90c2998", func := "bursar/bursarlaw16.ChunkCuts", spec := "chunkCuts", apart := false, narrowed := true }
def ChunkCutsUptoSaid : Prop := chunkCutsUptoRow.holds Try.pinned (OpenSpec.upto chunkCutsSpec)

/-- 'bursarlaw16.ChunkBack', WHERE WHAT IT READS IS OF BULK AT MOST 1048576: true; the input reads as it did. -/
def chunkBackUptoRow : OpenClaim := { program := "ytdhgjihimjibdaa", sum := "968b59c1b83e92fca00c215d1e015e005ef62192252d8b9d789edb51e90c2998", func := "bursar/bursarlaw16.ChunkBack", spec := "chunkBack", apart := false, narrowed := true }
def ChunkBackUptoSaid : Prop := chunkBackUptoRow.holds Try.pinned (OpenSpec.upto chunkBackSpec)

/-- 'bursarlaw16.ChunkKnown', WHERE WHAT IT READS IS OF BULK AT MOST 1048576: true; the input reads as it did. -/
def chunkKnownUptoRow : OpenClaim := { program := "ytdhgjihimjibdaa", sum := "968b59c1b83e92fca00c215d1e015e005ef62192252d8b9d789edb51e90c2998", func := "bursar/bursarlaw16.ChunkKnown", spec := "chunkKnown", apart := false, narrowed := true }
def ChunkKnownUptoSaid : Prop := chunkKnownUptoRow.holds Try.pinned (OpenSpec.upto chunkKnownSpec)

/-- 'bursarlaw8.FrameKnown', WHERE WHAT IT READS IS OF BULK AT MOST 1048576: true; the input reads as it did. -/
def frameKnownUptoRow : OpenClaim := { program := "ytdhgjihimjibdaa", sum := "968b59c1b83e92fca00c215d1e015e005ef62192252d8b9d789edb51e90c2998", func := "bursar/bursarlaw8.FrameKnown", spec := "frameKnown", unfollowed := true, recurses := true, apart := false, narrowed := true }
def FrameKnownUptoSaid : Prop := frameKnownUptoRow.holds Try.pinned (OpenSpec.upto frameKnownSpec)

/-- 'bursarlaw8.FrameLists', WHERE WHAT IT READS IS OF BULK AT MOST 1048576: true; the input reads as it did. -/
def frameListsUptoRow : OpenClaim := { program := "ytdhgjihimjibdaa", sum := "968b59c1b83e92fca00c215d1e015e005ef62192252d8b9d789edb51e90c2998", func := "bursar/bursarlaw8.FrameLists", spec := "frameLists", unfollowed := true, recurses := true, apart := false, narrowed := true }
def FrameListsUptoSaid : Prop := frameListsUptoRow.holds Try.pinned (OpenSpec.upto frameListsSpec)

/-- 'bursarlaw8.FrameBack', WHERE WHAT IT READS IS OF BULK AT MOST 1048576: true; the input reads as it did. -/
def frameBackUptoRow : OpenClaim := { program := "ytdhgjihimjibdaa", sum := "968b59c1b83e92fca00c215d1e015e005ef62192252d8b9d789edb51e90c2998", func := "bursar/bursarlaw8.FrameBack", spec := "frameBack", unfollowed := true, recurses := true, apart := false, narrowed := true }
def FrameBackUptoSaid : Prop := frameBackUptoRow.holds Try.pinned (OpenSpec.upto frameBackSpec)

/-- 'bursarlaw8.FrameCut', WHERE WHAT IT READS IS OF BULK AT MOST 1048576: true; the input reads as it did. -/
def frameCutUptoRow : OpenClaim := { program := "ytdhgjihimjibdaa", sum := "968b59c1b83e92fca00c215d1e015e005ef62192252d8b9d789edb51e90c2998", func := "bursar/bursarlaw8.FrameCut", spec := "frameCut", unfollowed := true, recurses := true, apart := false, narrowed := true }
def FrameCutUptoSaid : Prop := frameCutUptoRow.holds Try.pinned (OpenSpec.upto frameCutSpec)

/-- 'bursarlaw8.FrameRanges', WHERE WHAT IT READS IS OF BULK AT MOST 1048576: true; the input reads as it did. -/
def frameRangesUptoRow : OpenClaim := { program := "ytdhgjihimjibdaa", sum := "968b59c1b83e92fca00c215d1e015e005ef62192252d8b9d789edb51e90c2998", func := "bursar/bursarlaw8.FrameRanges", spec := "frameRanges", unfollowed := true, recurses := true, apart := false, narrowed := true }
def FrameRangesUptoSaid : Prop := frameRangesUptoRow.holds Try.pinned (OpenSpec.upto frameRangesSpec)

end Rows
end Go.Proofs.Ytdhgjihimjibdaa
