/-
  No cell of these rows narrows 'for every input' (looked for: loops, veiled, ifaces, maps, wideKeys, modest, calm, conditions, laid).
  DERIVED. THE GIVEN ROWS OF THIS SEAT. 5 by the template 'for every input the law returns true; each argument reads behind the call as it read before'; 0 by the template 'total and deterministic' (their statements: YtpjmlcnboedpeaaTotals.lean).
  GIVEN WITH THE SEED: the statements are not yours to turn. If you find one false, say at which input.
  Laid BY PROGRAM, IN A SANDBOX (cutbox-rows.mjs): the forced cells as the released guide's own fill.sh prints them over the translation 60ca569c4fd93931… (all of the seat's roots in one cut). By AI agents, Wed Nov 11 2026. No macro, syntax, notation, axiom, sorry.
-/
import Derived.Test.YtpjmlcnboedpeaaChecked
import GoSem.Claim
import GoSem.ClaimJoined
import GoSem.ClaimMapViews
import Derived.JoinedTies
import Derived.KernelRfl
namespace Go.Proofs.Ytpjmlcnboedpeaa
/- THE CELL 'sum', in the pinned program and in every row, IS THE sha256 OF THE DUMP (.gsa) THAT YtpjmlcnboedpeaaProg.lean LOADS. Nothing in Lean hashes anything: it is a label: what it is worth is what the hold of that sum in a sandbox is worth. -/
noncomputable def Try.pinned : Pinned := { name := "ytpjmlcnboedpeaa", sum := "60ca569c4fd9393114dfee1add5c8c30973d2365eade245f976c3c1141450044", checked := Try.checked }
namespace Rows
def none {H : Type} : Left H := { results := [], args := [] }

/-- 'bursarlaw9.SegKnown': WHATEVER THE INPUT: true; the input reads as it did. -/
def segKnownSpec : ChangeSpec := { name := "segKnown", fn := fun _ => fun
  | [] => { results := [.lit (.bool true)], args := [] }
  | _ => none }
def segKnownRow : OpenClaim := { program := "ytpjmlcnboedpeaa", sum := "60ca569c4fd9393114dfee1add5c8c30973d2365eade245f976c3c1141450044", func := "bursar/bursarlaw9.SegKnown", spec := "segKnown", unfollowed := true, recurses := true, apart := false }
def SegKnownSaid : Prop := segKnownRow.holds Try.pinned (OpenSpec.ofChange segKnownSpec)

/-- ITS FALSE NEIGHBOUR: 'it returns false'. Refute it at one input. -/
def segKnownWrong : ChangeSpec := { name := "segKnown", fn := fun _ => fun
  | [] => { results := [.lit (.bool false)], args := [] }
  | _ => none }
def SegKnownWrongFalsely : Prop := segKnownRow.holds Try.pinned (OpenSpec.ofChange segKnownWrong)

/-- 'bursarlaw9.SegNames': WHATEVER THE INPUT: true; the input reads as it did. -/
def segNamesSpec : ChangeSpec := { name := "segNames", fn := fun _ => fun
  | [d] => { results := [.lit (.bool true)], args := [d] }
  | _ => none }
def segNamesRow : OpenClaim := { program := "ytpjmlcnboedpeaa", sum := "60ca569c4fd9393114dfee1add5c8c30973d2365eade245f976c3c1141450044", func := "bursar/bursarlaw9.SegNames", spec := "segNames", unfollowed := true, recurses := true, apart := false }
def SegNamesSaid : Prop := segNamesRow.holds Try.pinned (OpenSpec.ofChange segNamesSpec)

/-- ITS FALSE NEIGHBOUR: 'it returns false'. Refute it at one input. -/
def segNamesWrong : ChangeSpec := { name := "segNames", fn := fun _ => fun
  | [d] => { results := [.lit (.bool false)], args := [d] }
  | _ => none }
def SegNamesWrongFalsely : Prop := segNamesRow.holds Try.pinned (OpenSpec.ofChange segNamesWrong)

/-- 'bursarlaw9.SegCuts': WHATEVER THE INPUT: true; the input reads as it did. -/
def segCutsSpec : ChangeSpec := { name := "segCuts", fn := fun _ => fun
  | [d1, d2, d3, d4] => { results := [.lit (.bool true)], args := [d1, d2, d3, d4] }
  | _ => none }
def segCutsRow : OpenClaim := { program := "ytpjmlcnboedpeaa", sum := "60ca569c4fd9393114dfee1add5c8c30973d2365eade245f976c3c1141450044", func := "bursar/bursarlaw9.SegCuts", spec := "segCuts", unfollowed := true, recurses := true, apart := false }
def SegCutsSaid : Prop := segCutsRow.holds Try.pinned (OpenSpec.ofChange segCutsSpec)

/-- ITS FALSE NEIGHBOUR: 'it returns false'. Refute it at one input. -/
def segCutsWrong : ChangeSpec := { name := "segCuts", fn := fun _ => fun
  | [d1, d2, d3, d4] => { results := [.lit (.bool false)], args := [d1, d2, d3, d4] }
  | _ => none }
def SegCutsWrongFalsely : Prop := segCutsRow.holds Try.pinned (OpenSpec.ofChange segCutsWrong)

/-- 'bursarlaw9.SegRanges': WHATEVER THE INPUT: true; the input reads as it did. -/
def segRangesSpec : ChangeSpec := { name := "segRanges", fn := fun _ => fun
  | [d1, d2, d3, d4] => { results := [.lit (.bool true)], args := [d1, d2, d3, d4] }
  | _ => none }
def segRangesRow : OpenClaim := { program := "ytpjmlcnboedpeaa", sum := "60ca569c4fd9393114dfee1add5c8c30973d2365eade245f976c3c1141450044", func := "bursar/bursarlaw9.SegRanges", spec := "segRanges", unfollowed := true, recurses := true, apart := false }
def SegRangesSaid : Prop := segRangesRow.holds Try.pinned (OpenSpec.ofChange segRangesSpec)

/-- ITS FALSE NEIGHBOUR: 'it returns false'. Refute it at one input. -/
def segRangesWrong : ChangeSpec := { name := "segRanges", fn := fun _ => fun
  | [d1, d2, d3, d4] => { results := [.lit (.bool false)], args := [d1, d2, d3, d4] }
  | _ => none }
def SegRangesWrongFalsely : Prop := segRangesRow.holds Try.pinned (OpenSpec.ofChange segRangesWrong)

/-- 'bursarlaw9.SegKeeps': WHATEVER THE INPUT: true; the input reads as it did. -/
def segKeepsSpec : ChangeSpec := { name := "segKeeps", fn := fun _ => fun
  | [d1, d2, d3, d4, d5] => { results := [.lit (.bool true)], args := [d1, d2, d3, d4, d5] }
  | _ => none }
def segKeepsRow : OpenClaim := { program := "ytpjmlcnboedpeaa", sum := "60ca569c4fd9393114dfee1add5c8c30973d2365eade245f976c3c1141450044", func := "bursar/bursarlaw9.SegKeeps", spec := "segKeeps", unfollowed := true, recurses := true, apart := false }
def SegKeepsSaid : Prop := segKeepsRow.holds Try.pinned (OpenSpec.ofChange segKeepsSpec)

/-- ITS FALSE NEIGHBOUR: 'it returns false'. Refute it at one input. -/
def segKeepsWrong : ChangeSpec := { name := "segKeeps", fn := fun _ => fun
  | [d1, d2, d3, d4, d5] => { results := [.lit (.bool false)], args := [d1, d2, d3, d4, d5] }
  | _ => none }
def SegKeepsWrongFalsely : Prop := segKeepsRow.holds Try.pinned (OpenSpec.ofChange segKeepsWrong)

/- THE SECOND FORM. 'bulk': how many values and letters a reading holds, each counted each time it is reached (what is shared counts as often as it is met; a slice's spare places count too). A statement '..UptoSaid' is the law's where the arguments, and the package variables that the reading takes, are together of bulk at most 1048576: NARROWER than '..Said'. Prove '..Said' where nothing that the law and all that it calls make is longer than what came in: it says more and counts as full. Else prove '..UptoSaid'. A law counts once. -/
mutual
def uptoBulk {H : Type} : DataW H → Nat
  | .lit (.string bytes) => bytes.length + 1
  | .lit _ => 1
  | .nil => 1
  | .ptr d => uptoBulk d + 1
  | .slice elems spare => uptoBulkAll elems + uptoBulkAll spare + 1
  | .agg parts => uptoBulkAll parts + 1
  | .iface _ d => uptoBulk d + 1
  | .map entries => uptoBulkEntries entries + 1
  | .held _ => 1
def uptoBulkAll {H : Type} : List (DataW H) → Nat
  | [] => 0
  | d :: r => uptoBulk d + uptoBulkAll r
def uptoBulkEntries {H : Type} : List (Lit × DataW H) → Nat
  | [] => 0
  | x :: r => uptoBulkEntry x + uptoBulkEntries r
def uptoBulkEntry {H : Type} : Lit × DataW H → Nat
  | (.string bytes, d) => bytes.length + uptoBulk d + 1
  | (_, d) => uptoBulk d + 1
 end
def uptoSmall : (H : Type) → List (DataW H) → Bool := fun _ ds => decide (uptoBulkAll ds ≤ 1048576)
def OpenSpec.upto (s : _root_.Go.ChangeSpec) : _root_.Go.OpenSpec := { _root_.Go.OpenSpec.ofChange s with cond := some uptoSmall }

/-- 'bursarlaw9.SegKnown', WHERE WHAT IT READS IS OF BULK AT MOST 1048576: true; the input reads as it did. -/
def segKnownUptoRow : OpenClaim := { program := "ytpjmlcnboedpeaa", sum := "60ca569c4fd9393114dfee1add5c8c30973d2365eade245f976c3c1141450044", func := "bursar/bursarlaw9.SegKnown", spec := "segKnown", unfollowed := true, recurses := true, apart := false, narrowed := true }
def SegKnownUptoSaid : Prop := segKnownUptoRow.holds Try.pinned (OpenSpec.upto segKnownSpec)

/-- 'bursarlaw9.SegNames', WHERE WHAT IT READS IS OF BULK AT MOST 1048576: true; the input reads as it did. -/
def segNamesUptoRow : OpenClaim := { program := "ytpjmlcnboedpeaa", sum := "60ca569c4fd9393114dfee1add5c8c30973d2365eade245f976c3c1141450044", func := "bursar/bursarlaw9.SegNames", spec := "segNames", unfollowed := true, recurses := true, apart := false, narrowed := true }
def SegNamesUptoSaid : Prop := segNamesUptoRow.holds Try.pinned (OpenSpec.upto segNamesSpec)

/-- 'bursarlaw9.SegCuts', WHERE WHAT IT READS IS OF BULK AT MOST 1048576: true; the input reads as it did. -/
def segCutsUptoRow : OpenClaim := { program := "ytpjmlcnboedpeaa", sum := "60ca569c4fd9393114dfee1add5c8c30973d2365eade245f976c3c1141450044", func := "bursar/bursarlaw9.SegCuts", spec := "segCuts", unfollowed := true, recurses := true, apart := false, narrowed := true }
def SegCutsUptoSaid : Prop := segCutsUptoRow.holds Try.pinned (OpenSpec.upto segCutsSpec)

/-- 'bursarlaw9.SegRanges', WHERE WHAT IT READS IS OF BULK AT MOST 1048576: true; the input reads as it did. -/
def segRangesUptoRow : OpenClaim := { program := "ytpjmlcnboedpeaa", sum := "60ca569c4fd9393114dfee1add5c8c30973d2365eade245f976c3c1141450044", func := "bursar/bursarlaw9.SegRanges", spec := "segRanges", unfollowed := true, recurses := true, apart := false, narrowed := true }
def SegRangesUptoSaid : Prop := segRangesUptoRow.holds Try.pinned (OpenSpec.upto segRangesSpec)

/-- 'bursarlaw9.SegKeeps', WHERE WHAT IT READS IS OF BULK AT MOST 1048576: true; the input reads as it did. -/
def segKeepsUptoRow : OpenClaim := { program := "ytpjmlcnboedpeaa", sum := "60ca569c4fd9393114dfee1add5c8c30973d2365eade245f976c3c1141450044", func := "bursar/bursarlaw9.SegKeeps", spec := "segKeeps", unfollowed := true, recurses := true, apart := false, narrowed := true }
def SegKeepsUptoSaid : Prop := segKeepsUptoRow.holds Try.pinned (OpenSpec.upto segKeepsSpec)

end Rows
end Go.Proofs.Ytpjmlcnboedpeaa
