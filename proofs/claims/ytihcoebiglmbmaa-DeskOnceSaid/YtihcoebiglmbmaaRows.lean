/-
  No cell of these rows narrows 'for every input' (looked for: loops, veiled, ifaces, maps, wideKeys, modest, calm, conditions, laid).
  DERIVED. THE GIVEN ROWS OF THIS SEAT. 9 by the template 'for every input the law returns true; each argument reads behind the call as it read before'; 0 by the template 'total and deterministic' (their statements: YtihcoebiglmbmaaTotals.lean).
  GIVEN WITH THE SEED: the statements are not yours to turn. If you find one false, say at which input.
  Laid BY PROGRAM, IN A SANDBOX (cutbox-rows.mjs): the forced cells as the released guide's own fill.sh prints them over the translation 3316df97561a5fbe… (all of the seat's roots in one cut). By AI agents, Wed Nov 11 2026. No macro, syntax, notation, axiom, sorry.
-/
import Derived.Test.YtihcoebiglmbmaaChecked
import GoSem.Claim
import GoSem.ClaimJoined
import GoSem.ClaimMapViews
import Derived.JoinedTies
import Derived.KernelRfl
namespace Go.Proofs.Ytihcoebiglmbmaa
/- THE CELL 'sum', in the pinned program and in every row, IS THE sha256 OF THE DUMP (.gsa) THAT YtihcoebiglmbmaaProg.lean LOADS. Nothing in Lean hashes anything: it is a label: what it is worth is what the hold of that sum in a sandbox is worth. -/
noncomputable def Try.pinned : Pinned := { name := "ytihcoebiglmbmaa", sum := "3316df97561a5fbe145e949a3f047ef09ef0b73ea6633ded73c6650b9a8c4d78", checked := Try.checked }
namespace Rows
def none {H : Type} : Left H := { results := [], args := [] }

/-- 'bursarlaw4.TableWords': WHATEVER THE INPUT: true; the input reads as it did. -/
def tableWordsSpec : ChangeSpec := { name := "tableWords", fn := fun _ => fun
  | [d1, d2] => { results := [.lit (.bool true)], args := [d1, d2] }
  | _ => none }
def tableWordsRow : OpenClaim := { program := "ytihcoebiglmbmaa", sum := "3316df97561a5fbe145e949a3f047ef09ef0b73ea6633ded73c6650b9a8c4d78", func := "bursar/bursarlaw4.TableWords", spec := "tableWords", inPlace := ["slices.overlaps[uint64]", "slices.overlaps[string]", "slices.overlaps[int]"], apart := false }
def TableWordsSaid : Prop := tableWordsRow.holds Try.pinned (OpenSpec.ofChange tableWordsSpec)

/-- ITS FALSE NEIGHBOUR: 'it returns false'. Refute it at one input. -/
def tableWordsWrong : ChangeSpec := { name := "tableWords", fn := fun _ => fun
  | [d1, d2] => { results := [.lit (.bool false)], args := [d1, d2] }
  | _ => none }
def TableWordsWrongFalsely : Prop := tableWordsRow.holds Try.pinned (OpenSpec.ofChange tableWordsWrong)

/-- 'bursarlaw4.TablePlays': WHATEVER THE INPUT: true; the input reads as it did. -/
def tablePlaysSpec : ChangeSpec := { name := "tablePlays", fn := fun _ => fun
  | [d1, d2] => { results := [.lit (.bool true)], args := [d1, d2] }
  | _ => none }
def tablePlaysRow : OpenClaim := { program := "ytihcoebiglmbmaa", sum := "3316df97561a5fbe145e949a3f047ef09ef0b73ea6633ded73c6650b9a8c4d78", func := "bursar/bursarlaw4.TablePlays", spec := "tablePlays", inPlace := ["slices.overlaps[uint64]", "slices.overlaps[string]", "slices.overlaps[int]"], apart := false }
def TablePlaysSaid : Prop := tablePlaysRow.holds Try.pinned (OpenSpec.ofChange tablePlaysSpec)

/-- ITS FALSE NEIGHBOUR: 'it returns false'. Refute it at one input. -/
def tablePlaysWrong : ChangeSpec := { name := "tablePlays", fn := fun _ => fun
  | [d1, d2] => { results := [.lit (.bool false)], args := [d1, d2] }
  | _ => none }
def TablePlaysWrongFalsely : Prop := tablePlaysRow.holds Try.pinned (OpenSpec.ofChange tablePlaysWrong)

/-- 'bursarlaw4.TableFull': WHATEVER THE INPUT: true; the input reads as it did. -/
def tableFullSpec : ChangeSpec := { name := "tableFull", fn := fun _ => fun
  | [d1, d2, d3] => { results := [.lit (.bool true)], args := [d1, d2, d3] }
  | _ => none }
def tableFullRow : OpenClaim := { program := "ytihcoebiglmbmaa", sum := "3316df97561a5fbe145e949a3f047ef09ef0b73ea6633ded73c6650b9a8c4d78", func := "bursar/bursarlaw4.TableFull", spec := "tableFull", inPlace := ["slices.overlaps[uint64]", "slices.overlaps[string]", "slices.overlaps[int]"], apart := false }
def TableFullSaid : Prop := tableFullRow.holds Try.pinned (OpenSpec.ofChange tableFullSpec)

/-- ITS FALSE NEIGHBOUR: 'it returns false'. Refute it at one input. -/
def tableFullWrong : ChangeSpec := { name := "tableFull", fn := fun _ => fun
  | [d1, d2, d3] => { results := [.lit (.bool false)], args := [d1, d2, d3] }
  | _ => none }
def TableFullWrongFalsely : Prop := tableFullRow.holds Try.pinned (OpenSpec.ofChange tableFullWrong)

/-- 'bursarlaw4.TableStill': WHATEVER THE INPUT: true; the input reads as it did. -/
def tableStillSpec : ChangeSpec := { name := "tableStill", fn := fun _ => fun
  | [d1, d2] => { results := [.lit (.bool true)], args := [d1, d2] }
  | _ => none }
def tableStillRow : OpenClaim := { program := "ytihcoebiglmbmaa", sum := "3316df97561a5fbe145e949a3f047ef09ef0b73ea6633ded73c6650b9a8c4d78", func := "bursar/bursarlaw4.TableStill", spec := "tableStill", inPlace := ["slices.overlaps[uint64]", "slices.overlaps[string]", "slices.overlaps[int]"], unfollowed := true, recurses := true, apart := false }
def TableStillSaid : Prop := tableStillRow.holds Try.pinned (OpenSpec.ofChange tableStillSpec)

/-- ITS FALSE NEIGHBOUR: 'it returns false'. Refute it at one input. -/
def tableStillWrong : ChangeSpec := { name := "tableStill", fn := fun _ => fun
  | [d1, d2] => { results := [.lit (.bool false)], args := [d1, d2] }
  | _ => none }
def TableStillWrongFalsely : Prop := tableStillRow.holds Try.pinned (OpenSpec.ofChange tableStillWrong)

/-- 'bursarlaw4.TableKnown': WHATEVER THE INPUT: true; the input reads as it did. -/
def tableKnownSpec : ChangeSpec := { name := "tableKnown", fn := fun _ => fun
  | [] => { results := [.lit (.bool true)], args := [] }
  | _ => none }
def tableKnownRow : OpenClaim := { program := "ytihcoebiglmbmaa", sum := "3316df97561a5fbe145e949a3f047ef09ef0b73ea6633ded73c6650b9a8c4d78", func := "bursar/bursarlaw4.TableKnown", spec := "tableKnown", inPlace := ["slices.overlaps[uint64]", "slices.overlaps[string]", "slices.overlaps[int]"], unfollowed := true, recurses := true, apart := false }
def TableKnownSaid : Prop := tableKnownRow.holds Try.pinned (OpenSpec.ofChange tableKnownSpec)

/-- ITS FALSE NEIGHBOUR: 'it returns false'. Refute it at one input. -/
def tableKnownWrong : ChangeSpec := { name := "tableKnown", fn := fun _ => fun
  | [] => { results := [.lit (.bool false)], args := [] }
  | _ => none }
def TableKnownWrongFalsely : Prop := tableKnownRow.holds Try.pinned (OpenSpec.ofChange tableKnownWrong)

/-- 'bursarlaw4.TableRanges': WHATEVER THE INPUT: true; the input reads as it did. -/
def tableRangesSpec : ChangeSpec := { name := "tableRanges", fn := fun _ => fun
  | [d1, d2, d3, d4] => { results := [.lit (.bool true)], args := [d1, d2, d3, d4] }
  | _ => none }
def tableRangesRow : OpenClaim := { program := "ytihcoebiglmbmaa", sum := "3316df97561a5fbe145e949a3f047ef09ef0b73ea6633ded73c6650b9a8c4d78", func := "bursar/bursarlaw4.TableRanges", spec := "tableRanges", inPlace := ["slices.overlaps[uint64]", "slices.overlaps[string]", "slices.overlaps[int]"], unfollowed := true, recurses := true, apart := false }
def TableRangesSaid : Prop := tableRangesRow.holds Try.pinned (OpenSpec.ofChange tableRangesSpec)

/-- ITS FALSE NEIGHBOUR: 'it returns false'. Refute it at one input. -/
def tableRangesWrong : ChangeSpec := { name := "tableRanges", fn := fun _ => fun
  | [d1, d2, d3, d4] => { results := [.lit (.bool false)], args := [d1, d2, d3, d4] }
  | _ => none }
def TableRangesWrongFalsely : Prop := tableRangesRow.holds Try.pinned (OpenSpec.ofChange tableRangesWrong)

/-- 'bursarlaw23.DeskOnce': WHATEVER THE INPUT: true; the input reads as it did. -/
def deskOnceSpec : ChangeSpec := { name := "deskOnce", fn := fun _ => fun
  | [d] => { results := [.lit (.bool true)], args := [d] }
  | _ => none }
def deskOnceRow : OpenClaim := { program := "ytihcoebiglmbmaa", sum := "3316df97561a5fbe145e949a3f047ef09ef0b73ea6633ded73c6650b9a8c4d78", func := "bursar/bursarlaw23.DeskOnce", spec := "deskOnce", inPlace := ["slices.overlaps[uint64]", "slices.overlaps[bursar/desk.waiter[string]]", "slices.overlaps[bursar/desk.waiter[int]]"], apart := false }
def DeskOnceSaid : Prop := deskOnceRow.holds Try.pinned (OpenSpec.ofChange deskOnceSpec)

/-- ITS FALSE NEIGHBOUR: 'it returns false'. Refute it at one input. -/
def deskOnceWrong : ChangeSpec := { name := "deskOnce", fn := fun _ => fun
  | [d] => { results := [.lit (.bool false)], args := [d] }
  | _ => none }
def DeskOnceWrongFalsely : Prop := deskOnceRow.holds Try.pinned (OpenSpec.ofChange deskOnceWrong)

/-- 'bursarlaw23.DeskKnown': WHATEVER THE INPUT: true; the input reads as it did. -/
def deskKnownSpec : ChangeSpec := { name := "deskKnown", fn := fun _ => fun
  | [] => { results := [.lit (.bool true)], args := [] }
  | _ => none }
def deskKnownRow : OpenClaim := { program := "ytihcoebiglmbmaa", sum := "3316df97561a5fbe145e949a3f047ef09ef0b73ea6633ded73c6650b9a8c4d78", func := "bursar/bursarlaw23.DeskKnown", spec := "deskKnown", inPlace := ["slices.overlaps[uint64]", "slices.overlaps[bursar/desk.waiter[string]]"], unfollowed := true, recurses := true, apart := false }
def DeskKnownSaid : Prop := deskKnownRow.holds Try.pinned (OpenSpec.ofChange deskKnownSpec)

/-- ITS FALSE NEIGHBOUR: 'it returns false'. Refute it at one input. -/
def deskKnownWrong : ChangeSpec := { name := "deskKnown", fn := fun _ => fun
  | [] => { results := [.lit (.bool false)], args := [] }
  | _ => none }
def DeskKnownWrongFalsely : Prop := deskKnownRow.holds Try.pinned (OpenSpec.ofChange deskKnownWrong)

/-- 'bursarlaw23.DeskPlays': WHATEVER THE INPUT: true; the input reads as it did. -/
def deskPlaysSpec : ChangeSpec := { name := "deskPlays", fn := fun _ => fun
  | [d1, d2] => { results := [.lit (.bool true)], args := [d1, d2] }
  | _ => none }
def deskPlaysRow : OpenClaim := { program := "ytihcoebiglmbmaa", sum := "3316df97561a5fbe145e949a3f047ef09ef0b73ea6633ded73c6650b9a8c4d78", func := "bursar/bursarlaw23.DeskPlays", spec := "deskPlays", inPlace := ["slices.overlaps[uint64]", "slices.overlaps[bursar/desk.waiter[string]]", "slices.overlaps[bursar/desk.waiter[int]]"], unfollowed := true, recurses := true, apart := false }
def DeskPlaysSaid : Prop := deskPlaysRow.holds Try.pinned (OpenSpec.ofChange deskPlaysSpec)

/-- ITS FALSE NEIGHBOUR: 'it returns false'. Refute it at one input. -/
def deskPlaysWrong : ChangeSpec := { name := "deskPlays", fn := fun _ => fun
  | [d1, d2] => { results := [.lit (.bool false)], args := [d1, d2] }
  | _ => none }
def DeskPlaysWrongFalsely : Prop := deskPlaysRow.holds Try.pinned (OpenSpec.ofChange deskPlaysWrong)

/- THE SECOND FORM. 'bulk': how many values and letters a reading holds, each counted each time it is reached (what is shared counts as often as it is met; a slice's spare places count too). A statement '..UptoSaid' is the law's where the arguments, and the package variables that the reading takes, are together of bulk at most 1048576: NARROWER than '..Said'. Prove '..Said' where nothing that the law and all that it calls make is longer than what came in: it says more and counts as full. Else prove '..UptoSaid'. A law counts once. -/
mutual
def uptoBulk {H : Type} : DataW H → Nat
  | .lit (.string bytes) => bytes.length + 1
  | .lit _ => 1
  | .nil => 1
  | .ptr d => uptoBulk d + 1
  | .slice elems spare => uptoBulkAll elems + uptoBulkAll spare + 1
  | .agg parts => uptoBulkAll parts + 1
  | .iface _ d => uptoBulk d + 1
  | .map entries => uptoBulkEntries entries + 1
  | .held _ => 1
def uptoBulkAll {H : Type} : List (DataW H) → Nat
  | [] => 0
  | d :: r => uptoBulk d + uptoBulkAll r
def uptoBulkEntries {H : Type} : List (Lit × DataW H) → Nat
  | [] => 0
  | x :: r => uptoBulkEntry x + uptoBulkEntries r
def uptoBulkEntry {H : Type} : Lit × DataW H → Nat
  | (.string bytes, d) => bytes.length + uptoBulk d + 1
  | (_, d) => uptoBulk d + 1
 end
def uptoSmall : (H : Type) → List (DataW H) → Bool := fun _ ds => decide (uptoBulkAll ds ≤ 1048576)
def OpenSpec.upto (s : _root_.Go.ChangeSpec) : _root_.Go.OpenSpec := { _root_.Go.OpenSpec.ofChange s with cond := some uptoSmall }

/-- 'bursarlaw4.TableWords', WHERE WHAT IT READS IS OF BULK AT MOST 1048576: true; the input reads as it did. -/
def tableWordsUptoRow : OpenClaim := { program := "ytihcoebiglmbmaa", sum := "3316df97561a5fbe145e949a3f047ef09ef0b73ea6633ded73c6650b9a8c4d78", func := "bursar/bursarlaw4.TableWords", spec := "tableWords", inPlace := ["slices.overlaps[uint64]", "slices.overlaps[string]", "slices.overlaps[int]"], apart := false, narrowed := true }
def TableWordsUptoSaid : Prop := tableWordsUptoRow.holds Try.pinned (OpenSpec.upto tableWordsSpec)

/-- 'bursarlaw4.TablePlays', WHERE WHAT IT READS IS OF BULK AT MOST 1048576: true; the input reads as it did. -/
def tablePlaysUptoRow : OpenClaim := { program := "ytihcoebiglmbmaa", sum := "3316df97561a5fbe145e949a3f047ef09ef0b73ea6633ded73c6650b9a8c4d78", func := "bursar/bursarlaw4.TablePlays", spec := "tablePlays", inPlace := ["slices.overlaps[uint64]", "slices.overlaps[string]", "slices.overlaps[int]"], apart := false, narrowed := true }
def TablePlaysUptoSaid : Prop := tablePlaysUptoRow.holds Try.pinned (OpenSpec.upto tablePlaysSpec)

/-- 'bursarlaw4.TableFull', WHERE WHAT IT READS IS OF BULK AT MOST 1048576: true; the input reads as it did. -/
def tableFullUptoRow : OpenClaim := { program := "ytihcoebiglmbmaa", sum := "3316df97561a5fbe145e949a3f047ef09ef0b73ea6633ded73c6650b9a8c4d78", func := "bursar/bursarlaw4.TableFull", spec := "tableFull", inPlace := ["slices.overlaps[uint64]", "slices.overlaps[string]", "slices.overlaps[int]"], apart := false, narrowed := true }
def TableFullUptoSaid : Prop := tableFullUptoRow.holds Try.pinned (OpenSpec.upto tableFullSpec)

/-- 'bursarlaw4.TableStill', WHERE WHAT IT READS IS OF BULK AT MOST 1048576: true; the input reads as it did. -/
def tableStillUptoRow : OpenClaim := { program := "ytihcoebiglmbmaa", sum := "3316df97561a5fbe145e949a3f047ef09ef0b73ea6633ded73c6650b9a8c4d78", func := "bursar/bursarlaw4.TableStill", spec := "tableStill", inPlace := ["slices.overlaps[uint64]", "slices.overlaps[string]", "slices.overlaps[int]"], unfollowed := true, recurses := true, apart := false, narrowed := true }
def TableStillUptoSaid : Prop := tableStillUptoRow.holds Try.pinned (OpenSpec.upto tableStillSpec)

/-- 'bursarlaw4.TableKnown', WHERE WHAT IT READS IS OF BULK AT MOST 1048576: true; the input reads as it did. -/
def tableKnownUptoRow : OpenClaim := { program := "ytihcoebiglmbmaa", sum := "3316df97561a5fbe145e949a3f047ef09ef0b73ea6633ded73c6650b9a8c4d78", func := "bursar/bursarlaw4.TableKnown", spec := "tableKnown", inPlace := ["slices.overlaps[uint64]", "slices.overlaps[string]", "slices.overlaps[int]"], unfollowed := true, recurses := true, apart := false, narrowed := true }
def TableKnownUptoSaid : Prop := tableKnownUptoRow.holds Try.pinned (OpenSpec.upto tableKnownSpec)

/-- 'bursarlaw4.TableRanges', WHERE WHAT IT READS IS OF BULK AT MOST 1048576: true; the input reads as it did. -/
def tableRangesUptoRow : OpenClaim := { program := "ytihcoebiglmbmaa", sum := "3316df97561a5fbe145e949a3f047ef09ef0b73ea6633ded73c6650b9a8c4d78", func := "bursar/bursarlaw4.TableRanges", spec := "tableRanges", inPlace := ["slices.overlaps[uint64]", "slices.overlaps[string]", "slices.overlaps[int]"], unfollowed := true, recurses := true, apart := false, narrowed := true }
def TableRangesUptoSaid : Prop := tableRangesUptoRow.holds Try.pinned (OpenSpec.upto tableRangesSpec)

/-- 'bursarlaw23.DeskOnce', WHERE WHAT IT READS IS OF BULK AT MOST 1048576: true; the input reads as it did. -/
def deskOnceUptoRow : OpenClaim := { program := "ytihcoebiglmbmaa", sum := "3316df97561a5fbe145e949a3f047ef09ef0b73ea6633ded73c6650b9a8c4d78", func := "bursar/bursarlaw23.DeskOnce", spec := "deskOnce", inPlace := ["slices.overlaps[uint64]", "slices.overlaps[bursar/desk.waiter[string]]", "slices.overlaps[bursar/desk.waiter[int]]"], apart := false, narrowed := true }
def DeskOnceUptoSaid : Prop := deskOnceUptoRow.holds Try.pinned (OpenSpec.upto deskOnceSpec)

/-- 'bursarlaw23.DeskKnown', WHERE WHAT IT READS IS OF BULK AT MOST 1048576: true; the input reads as it did. -/
def deskKnownUptoRow : OpenClaim := { program := "ytihcoebiglmbmaa", sum := "3316df97561a5fbe145e949a3f047ef09ef0b73ea6633ded73c6650b9a8c4d78", func := "bursar/bursarlaw23.DeskKnown", spec := "deskKnown", inPlace := ["slices.overlaps[uint64]", "slices.overlaps[bursar/desk.waiter[string]]"], unfollowed := true, recurses := true, apart := false, narrowed := true }
def DeskKnownUptoSaid : Prop := deskKnownUptoRow.holds Try.pinned (OpenSpec.upto deskKnownSpec)

/-- 'bursarlaw23.DeskPlays', WHERE WHAT IT READS IS OF BULK AT MOST 1048576: true; the input reads as it did. -/
def deskPlaysUptoRow : OpenClaim := { program := "ytihcoebiglmbmaa", sum := "3316df97561a5fbe145e949a3f047ef09ef0b73ea6633ded73c6650b9a8c4d78", func := "bursar/bursarlaw23.DeskPlays", spec := "deskPlays", inPlace := ["slices.overlaps[uint64]", "slices.overlaps[bursar/desk.waiter[string]]", "slices.overlaps[bursar/desk.waiter[int]]"], unfollowed := true, recurses := true, apart := false, narrowed := true }
def DeskPlaysUptoSaid : Prop := deskPlaysUptoRow.holds Try.pinned (OpenSpec.upto deskPlaysSpec)

end Rows
end Go.Proofs.Ytihcoebiglmbmaa
