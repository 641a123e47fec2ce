/-
  No cell of these rows narrows 'for every input' (looked for: loops, veiled, ifaces, maps, wideKeys, modest, calm, conditions, laid).
  DERIVED. THE GIVEN ROWS OF THIS SEAT. 2 by the template 'for every input the law returns true; each argument reads behind the call as it read before'; 0 by the template 'total and deterministic' (their statements: YtpjmlcnboedpeaaGreatTotals.lean).
  GIVEN WITH THE SEED: the statements are not yours to turn. If you find one false, say at which input.
  Laid BY PROGRAM, IN A SANDBOX (cutbox-rows.mjs): the forced cells as the released guide's own fill.sh prints them over the translation 36843e3b3ea25e73… (all of the seat's roots in one cut). By AI agents, Wed Nov 11 2026. No macro, syntax, notation, axiom, sorry.
-/
import Derived.Test.YtpjmlcnboedpeaaGreatChecked
import GoSem.Claim
import GoSem.ClaimJoined
import GoSem.ClaimMapViews
import Derived.JoinedTies
import Derived.KernelRfl
namespace Go.Proofs.YtpjmlcnboedpeaaGreat
/- THE CELL 'sum', in the pinned program and in every row, IS THE sha256 OF THE DUMP (.gsa) THAT YtpjmlcnboedpeaaGreatProg.lean LOADS. Nothing in Lean hashes anything: it is a label: what it is worth is what the hold of that sum in a sandbox is worth. -/
noncomputable def Tryz.pinned : Pinned := { name := "ytpjmlcnboedpeaagreat", sum := "36843e3b3ea25e73188faf7f0352af7b7727309807b23a0d4549a856ee43d7d1", checked := Tryz.checked }
namespace Rows
def none {H : Type} : Left H := { results := [], args := [] }

/-- 'bursarlaw9.SegAny': WHATEVER THE INPUT: true; the input reads as it did. -/
def segAnySpec : ChangeSpec := { name := "segAny", fn := fun _ => fun
  | [d1, d2, d3, d4] => { results := [.lit (.bool true)], args := [d1, d2, d3, d4] }
  | _ => none }
def segAnyRow : OpenClaim := { program := "ytpjmlcnboedpeaagreat", sum := "36843e3b3ea25e73188faf7f0352af7b7727309807b23a0d4549a856ee43d7d1", func := "bursar/bursarlaw9.SegAny", spec := "segAny", unfollowed := true, recurses := true, apart := false }
def SegAnySaid : Prop := segAnyRow.holds Tryz.pinned (OpenSpec.ofChange segAnySpec)

/-- ITS FALSE NEIGHBOUR: 'it returns false'. Refute it at one input. -/
def segAnyWrong : ChangeSpec := { name := "segAny", fn := fun _ => fun
  | [d1, d2, d3, d4] => { results := [.lit (.bool false)], args := [d1, d2, d3, d4] }
  | _ => none }
def SegAnyWrongFalsely : Prop := segAnyRow.holds Tryz.pinned (OpenSpec.ofChange segAnyWrong)

/-- 'bursarlaw9.SegPlays': WHATEVER THE INPUT: true; the input reads as it did. -/
def segPlaysSpec : ChangeSpec := { name := "segPlays", fn := fun _ => fun
  | [d1, d2] => { results := [.lit (.bool true)], args := [d1, d2] }
  | _ => none }
def segPlaysRow : OpenClaim := { program := "ytpjmlcnboedpeaagreat", sum := "36843e3b3ea25e73188faf7f0352af7b7727309807b23a0d4549a856ee43d7d1", func := "bursar/bursarlaw9.SegPlays", spec := "segPlays", unfollowed := true, recurses := true, apart := false }
def SegPlaysSaid : Prop := segPlaysRow.holds Tryz.pinned (OpenSpec.ofChange segPlaysSpec)

/-- ITS FALSE NEIGHBOUR: 'it returns false'. Refute it at one input. -/
def segPlaysWrong : ChangeSpec := { name := "segPlays", fn := fun _ => fun
  | [d1, d2] => { results := [.lit (.bool false)], args := [d1, d2] }
  | _ => none }
def SegPlaysWrongFalsely : Prop := segPlaysRow.holds Tryz.pinned (OpenSpec.ofChange segPlaysWrong)

/- THE SECOND FORM. 'bulk': how many values and letters a reading holds, each counted each time it is reached (what is shared counts as often as it is met; a slice's spare places count too). A statement '..UptoSaid' is the law's where the arguments, and the package variables that the reading takes, are together of bulk at most 1048576: NARROWER than '..Said'. Prove '..Said' where nothing that the law and all that it calls make is longer than what came in: it says more and counts as full. Else prove '..UptoSaid'. A law counts once. -/
mutual
def uptoBulk {H : Type} : DataW H → Nat
  | .lit (.string bytes) => bytes.length + 1
  | .lit _ => 1
  | .nil => 1
  | .ptr d => uptoBulk d + 1
  | .slice elems spare => uptoBulkAll elems + uptoBulkAll spare + 1
  | .agg parts => uptoBulkAll parts + 1
  | .iface _ d => uptoBulk d + 1
  | .map entries => uptoBulkEntries entries + 1
  | .held _ => 1
def uptoBulkAll {H : Type} : List (DataW H) → Nat
  | [] => 0
  | d :: r => uptoBulk d + uptoBulkAll r
def uptoBulkEntries {H : Type} : List (Lit × DataW H) → Nat
  | [] => 0
  | x :: r => uptoBulkEntry x + uptoBulkEntries r
def uptoBulkEntry {H : Type} : Lit × DataW H → Nat
  | (.string bytes, d) => bytes.length + uptoBulk d + 1
  | (_, d) => uptoBulk d + 1
 end
def uptoSmall : (H : Type) → List (DataW H) → Bool := fun _ ds => decide (uptoBulkAll ds ≤ 1048576)
def OpenSpec.upto (s : _root_.Go.ChangeSpec) : _root_.Go.OpenSpec := { _root_.Go.OpenSpec.ofChange s with cond := some uptoSmall }

/-- 'bursarlaw9.SegAny', WHERE WHAT IT READS IS OF BULK AT MOST 1048576: true; the input reads as it did. -/
def segAnyUptoRow : OpenClaim := { program := "ytpjmlcnboedpeaagreat", sum := "36843e3b3ea25e73188faf7f0352af7b7727309807b23a0d4549a856ee43d7d1", func := "bursar/bursarlaw9.SegAny", spec := "segAny", unfollowed := true, recurses := true, apart := false, narrowed := true }
def SegAnyUptoSaid : Prop := segAnyUptoRow.holds Tryz.pinned (OpenSpec.upto segAnySpec)

/-- 'bursarlaw9.SegPlays', WHERE WHAT IT READS IS OF BULK AT MOST 1048576: true; the input reads as it did. -/
def segPlaysUptoRow : OpenClaim := { program := "ytpjmlcnboedpeaagreat", sum := "36843e3b3ea25e73188faf7f0352af7b7727309807b23a0d4549a856ee43d7d1", func := "bursar/bursarlaw9.SegPlays", spec := "segPlays", unfollowed := true, recurses := true, apart := false, narrowed := true }
def SegPlaysUptoSaid : Prop := segPlaysUptoRow.holds Tryz.pinned (OpenSpec.upto segPlaysSpec)

end Rows
end Go.Proofs.YtpjmlcnboedpeaaGreat
