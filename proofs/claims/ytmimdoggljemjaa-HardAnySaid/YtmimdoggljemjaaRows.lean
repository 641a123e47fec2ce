/-
  No cell of these rows narrows 'for every input' (looked for: loops, veiled, ifaces, maps, wideKeys, modest, calm, conditions, laid).
  DERIVED. THE GIVEN ROWS OF THIS SEAT. 9 by the template 'for every input the law returns true; each argument reads behind the call as it read before'; 0 by the template 'total and deterministic' (their statements: YtmimdoggljemjaaTotals.lean).
  GIVEN WITH THE SEED: the statements are not yours to turn. If you find one false, say at which input.
  Laid BY PROGRAM, IN A SANDBOX (cutbox-rows.mjs): the forced cells as the released guide's own fill.sh prints them over the translation dd771a27f59a013d… (all of the seat's roots in one cut). By AI agents, Wed Nov 11 2026. No macro, syntax, notation, axiom, sorry.
-/
import Derived.Test.YtmimdoggljemjaaChecked
import GoSem.Claim
import GoSem.ClaimJoined
import GoSem.ClaimMapViews
import Derived.JoinedTies
import Derived.KernelRfl
namespace Go.Proofs.Ytmimdoggljemjaa
/- THE CELL 'sum', in the pinned program and in every row, IS THE sha256 OF THE DUMP (.gsa) THAT YtmimdoggljemjaaProg.lean LOADS. Nothing in Lean hashes anything: it is a label: what it is worth is what the hold of that sum in a sandbox is worth. -/
noncomputable def Try.pinned : Pinned := { name := "ytmimdoggljemjaa", sum := "dd771a27f59a013dca4d89252bd49e9d8d3508d316a87b690a9bdb13900938f3", checked := Try.checked }
namespace Rows
def none {H : Type} : Left H := { results := [], args := [] }

/-- 'bursarlaw7.DiskCuts': WHATEVER THE INPUT: true; the input reads as it did. -/
def diskCutsSpec : ChangeSpec := { name := "diskCuts", fn := fun _ => fun
  | [d1, d2] => { results := [.lit (.bool true)], args := [d1, d2] }
  | _ => none }
def diskCutsRow : OpenClaim := { program := "ytmimdoggljemjaa", sum := "dd771a27f59a013dca4d89252bd49e9d8d3508d316a87b690a9bdb13900938f3", func := "bursar/bursarlaw7.DiskCuts", spec := "diskCuts", apart := false }
def DiskCutsSaid : Prop := diskCutsRow.holds Try.pinned (OpenSpec.ofChange diskCutsSpec)

/-- ITS FALSE NEIGHBOUR: 'it returns false'. Refute it at one input. -/
def diskCutsWrong : ChangeSpec := { name := "diskCuts", fn := fun _ => fun
  | [d1, d2] => { results := [.lit (.bool false)], args := [d1, d2] }
  | _ => none }
def DiskCutsWrongFalsely : Prop := diskCutsRow.holds Try.pinned (OpenSpec.ofChange diskCutsWrong)

/-- 'bursarlaw7.DiskOwn': WHATEVER THE INPUT: true; the input reads as it did. -/
def diskOwnSpec : ChangeSpec := { name := "diskOwn", fn := fun _ => fun
  | [d] => { results := [.lit (.bool true)], args := [d] }
  | _ => none }
def diskOwnRow : OpenClaim := { program := "ytmimdoggljemjaa", sum := "dd771a27f59a013dca4d89252bd49e9d8d3508d316a87b690a9bdb13900938f3", func := "bursar/bursarlaw7.DiskOwn", spec := "diskOwn", apart := false }
def DiskOwnSaid : Prop := diskOwnRow.holds Try.pinned (OpenSpec.ofChange diskOwnSpec)

/-- ITS FALSE NEIGHBOUR: 'it returns false'. Refute it at one input. -/
def diskOwnWrong : ChangeSpec := { name := "diskOwn", fn := fun _ => fun
  | [d] => { results := [.lit (.bool false)], args := [d] }
  | _ => none }
def DiskOwnWrongFalsely : Prop := diskOwnRow.holds Try.pinned (OpenSpec.ofChange diskOwnWrong)

/-- 'bursarlaw7.DiskSynced': WHATEVER THE INPUT: true; the input reads as it did. -/
def diskSyncedSpec : ChangeSpec := { name := "diskSynced", fn := fun _ => fun
  | [d1, d2, d3, d4] => { results := [.lit (.bool true)], args := [d1, d2, d3, d4] }
  | _ => none }
def diskSyncedRow : OpenClaim := { program := "ytmimdoggljemjaa", sum := "dd771a27f59a013dca4d89252bd49e9d8d3508d316a87b690a9bdb13900938f3", func := "bursar/bursarlaw7.DiskSynced", spec := "diskSynced", apart := false }
def DiskSyncedSaid : Prop := diskSyncedRow.holds Try.pinned (OpenSpec.ofChange diskSyncedSpec)

/-- ITS FALSE NEIGHBOUR: 'it returns false'. Refute it at one input. -/
def diskSyncedWrong : ChangeSpec := { name := "diskSynced", fn := fun _ => fun
  | [d1, d2, d3, d4] => { results := [.lit (.bool false)], args := [d1, d2, d3, d4] }
  | _ => none }
def DiskSyncedWrongFalsely : Prop := diskSyncedRow.holds Try.pinned (OpenSpec.ofChange diskSyncedWrong)

/-- 'bursarlaw7.DiskFuses': WHATEVER THE INPUT: true; the input reads as it did. -/
def diskFusesSpec : ChangeSpec := { name := "diskFuses", fn := fun _ => fun
  | [d1, d2] => { results := [.lit (.bool true)], args := [d1, d2] }
  | _ => none }
def diskFusesRow : OpenClaim := { program := "ytmimdoggljemjaa", sum := "dd771a27f59a013dca4d89252bd49e9d8d3508d316a87b690a9bdb13900938f3", func := "bursar/bursarlaw7.DiskFuses", spec := "diskFuses", apart := false }
def DiskFusesSaid : Prop := diskFusesRow.holds Try.pinned (OpenSpec.ofChange diskFusesSpec)

/-- ITS FALSE NEIGHBOUR: 'it returns false'. Refute it at one input. -/
def diskFusesWrong : ChangeSpec := { name := "diskFuses", fn := fun _ => fun
  | [d1, d2] => { results := [.lit (.bool false)], args := [d1, d2] }
  | _ => none }
def DiskFusesWrongFalsely : Prop := diskFusesRow.holds Try.pinned (OpenSpec.ofChange diskFusesWrong)

/-- 'bursarlaw10.HardKnown': WHATEVER THE INPUT: true; the input reads as it did. -/
def hardKnownSpec : ChangeSpec := { name := "hardKnown", fn := fun _ => fun
  | [] => { results := [.lit (.bool true)], args := [] }
  | _ => none }
def hardKnownRow : OpenClaim := { program := "ytmimdoggljemjaa", sum := "dd771a27f59a013dca4d89252bd49e9d8d3508d316a87b690a9bdb13900938f3", func := "bursar/bursarlaw10.HardKnown", spec := "hardKnown", unfollowed := true, recurses := true, apart := false }
def HardKnownSaid : Prop := hardKnownRow.holds Try.pinned (OpenSpec.ofChange hardKnownSpec)

/-- ITS FALSE NEIGHBOUR: 'it returns false'. Refute it at one input. -/
def hardKnownWrong : ChangeSpec := { name := "hardKnown", fn := fun _ => fun
  | [] => { results := [.lit (.bool false)], args := [] }
  | _ => none }
def HardKnownWrongFalsely : Prop := hardKnownRow.holds Try.pinned (OpenSpec.ofChange hardKnownWrong)

/-- 'bursarlaw10.HardKeeps': WHATEVER THE INPUT: true; the input reads as it did. -/
def hardKeepsSpec : ChangeSpec := { name := "hardKeeps", fn := fun _ => fun
  | [d1, d2, d3, d4] => { results := [.lit (.bool true)], args := [d1, d2, d3, d4] }
  | _ => none }
def hardKeepsRow : OpenClaim := { program := "ytmimdoggljemjaa", sum := "dd771a27f59a013dca4d89252bd49e9d8d3508d316a87b690a9bdb13900938f3", func := "bursar/bursarlaw10.HardKeeps", spec := "hardKeeps", unfollowed := true, recurses := true, apart := false }
def HardKeepsSaid : Prop := hardKeepsRow.holds Try.pinned (OpenSpec.ofChange hardKeepsSpec)

/-- ITS FALSE NEIGHBOUR: 'it returns false'. Refute it at one input. -/
def hardKeepsWrong : ChangeSpec := { name := "hardKeeps", fn := fun _ => fun
  | [d1, d2, d3, d4] => { results := [.lit (.bool false)], args := [d1, d2, d3, d4] }
  | _ => none }
def HardKeepsWrongFalsely : Prop := hardKeepsRow.holds Try.pinned (OpenSpec.ofChange hardKeepsWrong)

/-- 'bursarlaw7.DiskKnown': WHATEVER THE INPUT: true; the input reads as it did. -/
def diskKnownSpec : ChangeSpec := { name := "diskKnown", fn := fun _ => fun
  | [] => { results := [.lit (.bool true)], args := [] }
  | _ => none }
def diskKnownRow : OpenClaim := { program := "ytmimdoggljemjaa", sum := "dd771a27f59a013dca4d89252bd49e9d8d3508d316a87b690a9bdb13900938f3", func := "bursar/bursarlaw7.DiskKnown", spec := "diskKnown", recurses := true, apart := false }
def DiskKnownSaid : Prop := diskKnownRow.holds Try.pinned (OpenSpec.ofChange diskKnownSpec)

/-- ITS FALSE NEIGHBOUR: 'it returns false'. Refute it at one input. -/
def diskKnownWrong : ChangeSpec := { name := "diskKnown", fn := fun _ => fun
  | [] => { results := [.lit (.bool false)], args := [] }
  | _ => none }
def DiskKnownWrongFalsely : Prop := diskKnownRow.holds Try.pinned (OpenSpec.ofChange diskKnownWrong)

/-- 'bursarlaw10.HardAny': WHATEVER THE INPUT: true; the input reads as it did. -/
def hardAnySpec : ChangeSpec := { name := "hardAny", fn := fun _ => fun
  | [d1, d2, d3, d4] => { results := [.lit (.bool true)], args := [d1, d2, d3, d4] }
  | _ => none }
def hardAnyRow : OpenClaim := { program := "ytmimdoggljemjaa", sum := "dd771a27f59a013dca4d89252bd49e9d8d3508d316a87b690a9bdb13900938f3", func := "bursar/bursarlaw10.HardAny", spec := "hardAny", unfollowed := true, recurses := true, apart := false }
def HardAnySaid : Prop := hardAnyRow.holds Try.pinned (OpenSpec.ofChange hardAnySpec)

/-- ITS FALSE NEIGHBOUR: 'it returns false'. Refute it at one input. -/
def hardAnyWrong : ChangeSpec := { name := "hardAny", fn := fun _ => fun
  | [d1, d2, d3, d4] => { results := [.lit (.bool false)], args := [d1, d2, d3, d4] }
  | _ => none }
def HardAnyWrongFalsely : Prop := hardAnyRow.holds Try.pinned (OpenSpec.ofChange hardAnyWrong)

/-- 'bursarlaw10.HardPlays': WHATEVER THE INPUT: true; the input reads as it did. -/
def hardPlaysSpec : ChangeSpec := { name := "hardPlays", fn := fun _ => fun
  | [d] => { results := [.lit (.bool true)], args := [d] }
  | _ => none }
def hardPlaysRow : OpenClaim := { program := "ytmimdoggljemjaa", sum := "dd771a27f59a013dca4d89252bd49e9d8d3508d316a87b690a9bdb13900938f3", func := "bursar/bursarlaw10.HardPlays", spec := "hardPlays", unfollowed := true, recurses := true, apart := false }
def HardPlaysSaid : Prop := hardPlaysRow.holds Try.pinned (OpenSpec.ofChange hardPlaysSpec)

/-- ITS FALSE NEIGHBOUR: 'it returns false'. Refute it at one input. -/
def hardPlaysWrong : ChangeSpec := { name := "hardPlays", fn := fun _ => fun
  | [d] => { results := [.lit (.bool false)], args := [d] }
  | _ => none }
def HardPlaysWrongFalsely : Prop := hardPlaysRow.holds Try.pinned (OpenSpec.ofChange hardPlaysWrong)

/- THE SECOND FORM. 'bulk': how many values and letters a reading holds, each counted each time it is reached (what is shared counts as often as it is met; a slice's spare places count too). A statement '..UptoSaid' is the law's where the arguments, and the package variables that the reading takes, are together of bulk at most 1048576: NARROWER than '..Said'. Prove '..Said' where nothing that the law and all that it calls make is longer than what came in: it says more and counts as full. Else prove '..UptoSaid'. A law counts once. -/
mutual
def uptoBulk {H : Type} : DataW H → Nat
  | .lit (.string bytes) => bytes.length + 1
  | .lit _ => 1
  | .nil => 1
  | .ptr d => uptoBulk d + 1
  | .slice elems spare => uptoBulkAll elems + uptoBulkAll spare + 1
  | .agg parts => uptoBulkAll parts + 1
  | .iface _ d => uptoBulk d + 1
  | .map entries => uptoBulkEntries entries + 1
  | .held _ => 1
def uptoBulkAll {H : Type} : List (DataW H) → Nat
  | [] => 0
  | d :: r => uptoBulk d + uptoBulkAll r
def uptoBulkEntries {H : Type} : List (Lit × DataW H) → Nat
  | [] => 0
  | x :: r => uptoBulkEntry x + uptoBulkEntries r
def uptoBulkEntry {H : Type} : Lit × DataW H → Nat
  | (.string bytes, d) => bytes.length + uptoBulk d + 1
  | (_, d) => uptoBulk d + 1
 end
def uptoSmall : (H : Type) → List (DataW H) → Bool := fun _ ds => decide (uptoBulkAll ds ≤ 1048576)
def OpenSpec.upto (s : _root_.Go.ChangeSpec) : _root_.Go.OpenSpec := { _root_.Go.OpenSpec.ofChange s with cond := some uptoSmall }

/-- 'bursarlaw7.DiskCuts', WHERE WHAT IT READS IS OF BULK AT MOST 1048576: true; the input reads as it did. -/
def diskCutsUptoRow : OpenClaim := { program := "ytmimdoggljemjaa", sum := "dd771a27f59a013dca4d89252bd49e9d8d3508d316a87b690a9bdb13900938f3", func := "bursar/bursarlaw7.DiskCuts", spec := "diskCuts", apart := false, narrowed := true }
def DiskCutsUptoSaid : Prop := diskCutsUptoRow.holds Try.pinned (OpenSpec.upto diskCutsSpec)

/-- 'bursarlaw7.DiskOwn', WHERE WHAT IT READS IS OF BULK AT MOST 1048576: true; the input reads as it did. -/
def diskOwnUptoRow : OpenClaim := { program := "ytmimdoggljemjaa", sum := "dd771a27f59a013dca4d89252bd49e9d8d3508d316a87b690a9bdb13900938f3", func := "bursar/bursarlaw7.DiskOwn", spec := "diskOwn", apart := false, narrowed := true }
def DiskOwnUptoSaid : Prop := diskOwnUptoRow.holds Try.pinned (OpenSpec.upto diskOwnSpec)

/-- 'bursarlaw7.DiskSynced', WHERE WHAT IT READS IS OF BULK AT MOST 1048576: true; the input reads as it did. -/
def diskSyncedUptoRow : OpenClaim := { program := "ytmimdoggljemjaa", sum := "dd771a27f59a013dca4d89252bd49e9d8d3508d316a87b690a9bdb13900938f3", func := "bursar/bursarlaw7.DiskSynced", spec := "diskSynced", apart := false, narrowed := true }
def DiskSyncedUptoSaid : Prop := diskSyncedUptoRow.holds Try.pinned (OpenSpec.upto diskSyncedSpec)

/-- 'bursarlaw7.DiskFuses', WHERE WHAT IT READS IS OF BULK AT MOST 1048576: true; the input reads as it did. -/
def diskFusesUptoRow : OpenClaim := { program := "ytmimdoggljemjaa", sum := "dd771a27f59a013dca4d89252bd49e9d8d3508d316a87b690a9bdb13900938f3", func := "bursar/bursarlaw7.DiskFuses", spec := "diskFuses", apart := false, narrowed := true }
def DiskFusesUptoSaid : Prop := diskFusesUptoRow.holds Try.pinned (OpenSpec.upto diskFusesSpec)

/-- 'bursarlaw10.HardKnown', WHERE WHAT IT READS IS OF BULK AT MOST 1048576: true; the input reads as it did. -/
def hardKnownUptoRow : OpenClaim := { program := "ytmimdoggljemjaa", sum := "dd771a27f59a013dca4d89252bd49e9d8d3508d316a87b690a9bdb13900938f3", func := "bursar/bursarlaw10.HardKnown", spec := "hardKnown", unfollowed := true, recurses := true, apart := false, narrowed := true }
def HardKnownUptoSaid : Prop := hardKnownUptoRow.holds Try.pinned (OpenSpec.upto hardKnownSpec)

/-- 'bursarlaw10.HardKeeps', WHERE WHAT IT READS IS OF BULK AT MOST 1048576: true; the input reads as it did. -/
def hardKeepsUptoRow : OpenClaim := { program := "ytmimdoggljemjaa", sum := "dd771a27f59a013dca4d89252bd49e9d8d3508d316a87b690a9bdb13900938f3", func := "bursar/bursarlaw10.HardKeeps", spec := "hardKeeps", unfollowed := true, recurses := true, apart := false, narrowed := true }
def HardKeepsUptoSaid : Prop := hardKeepsUptoRow.holds Try.pinned (OpenSpec.upto hardKeepsSpec)

/-- 'bursarlaw7.DiskKnown', WHERE WHAT IT READS IS OF BULK AT MOST 1048576: true; the input reads as it did. -/
def diskKnownUptoRow : OpenClaim := { program := "ytmimdoggljemjaa", sum := "dd771a27f59a013dca4d89252bd49e9d8d3508d316a87b690a9bdb13900938f3", func := "bursar/bursarlaw7.DiskKnown", spec := "diskKnown", recurses := true, apart := false, narrowed := true }
def DiskKnownUptoSaid : Prop := diskKnownUptoRow.holds Try.pinned (OpenSpec.upto diskKnownSpec)

/-- 'bursarlaw10.HardAny', WHERE WHAT IT READS IS OF BULK AT MOST 1048576: true; the input reads as it did. -/
def hardAnyUptoRow : OpenClaim := { program := "ytmimdoggljemjaa", sum := "dd771a27f59a013dca4d89252bd49e9d8d3508d316a87b690a9bdb13900938f3", func := "bursar/bursarlaw10.HardAny", spec := "hardAny", unfollowed := true, recurses := true, apart := false, narrowed := true }
def HardAnyUptoSaid : Prop := hardAnyUptoRow.holds Try.pinned (OpenSpec.upto hardAnySpec)

/-- 'bursarlaw10.HardPlays', WHERE WHAT IT READS IS OF BULK AT MOST 1048576: true; the input reads as it did. -/
def hardPlaysUptoRow : OpenClaim := { program := "ytmimdoggljemjaa", sum := "dd771a27f59a013dca4d89252bd49e9d8d3508d316a87b690a9bdb13900938f3", func := "bursar/bursarlaw10.HardPlays", spec := "hardPlays", unfollowed := true, recurses := true, apart := false, narrowed := true }
def HardPlaysUptoSaid : Prop := hardPlaysUptoRow.holds Try.pinned (OpenSpec.upto hardPlaysSpec)

end Rows
end Go.Proofs.Ytmimdoggljemjaa
