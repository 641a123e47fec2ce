/-
  No cell of these rows narrows 'for every input' (looked for: loops, veiled, ifaces, maps, wideKeys, modest, calm, conditions, laid).
  DERIVED. THE GIVEN ROWS OF THIS SEAT. 8 by the template 'for every input the law returns true; each argument reads behind the call as it read before'; 0 by the template 'total and deterministic' (their statements: YtiijpijoccbjnaaTotals.lean).
  GIVEN WITH THE SEED: the statements are not yours to turn. If you find one false, say at which input.
  Laid BY PROGRAM, IN A SANDBOX (cutbox-rows.mjs): the forced cells as the released guide's own fill.sh prints them over the translation e4a88fd1729074c8… (all of the seat's roots in one cut). By AI agents, Wed Nov 11 2026. No macro, syntax, notation, axiom, sorry.
-/
import Derived.Test.YtiijpijoccbjnaaChecked
import GoSem.Claim
import GoSem.ClaimJoined
import GoSem.ClaimMapViews
import Derived.JoinedTies
import Derived.KernelRfl
namespace Go.Proofs.Ytiijpijoccbjnaa
/- THE CELL 'sum', in the pinned program and in every row, IS THE sha256 OF THE DUMP (.gsa) THAT YtiijpijoccbjnaaProg.lean LOADS. Nothing in Lean hashes anything: it is a label: what it is worth is what the hold of that sum in a sandbox is worth. -/
noncomputable def Try.pinned : Pinned := { name := "ytiijpijoccbjnaa", sum := "e4a88fd1729074c8e7437bac4de212c30c329efd697740db7a3abec8455193ee", checked := Try.checked }
namespace Rows
def none {H : Type} : Left H := { results := [], args := [] }

/-- 'bursarlaw14.MemberSets': WHATEVER THE INPUT: true; the input reads as it did. -/
def memberSetsSpec : ChangeSpec := { name := "memberSets", fn := fun _ => fun
  | [d1, d2, d3] => { results := [.lit (.bool true)], args := [d1, d2, d3] }
  | _ => none }
def memberSetsRow : OpenClaim := { program := "ytiijpijoccbjnaa", sum := "e4a88fd1729074c8e7437bac4de212c30c329efd697740db7a3abec8455193ee", func := "bursar/bursarlaw14.MemberSets", spec := "memberSets", unfollowed := true, recurses := true, apart := false }
def MemberSetsSaid : Prop := memberSetsRow.holds Try.pinned (OpenSpec.ofChange memberSetsSpec)

/-- ITS FALSE NEIGHBOUR: 'it returns false'. Refute it at one input. -/
def memberSetsWrong : ChangeSpec := { name := "memberSets", fn := fun _ => fun
  | [d1, d2, d3] => { results := [.lit (.bool false)], args := [d1, d2, d3] }
  | _ => none }
def MemberSetsWrongFalsely : Prop := memberSetsRow.holds Try.pinned (OpenSpec.ofChange memberSetsWrong)

/-- 'bursarlaw14.MemberOf': WHATEVER THE INPUT: true; the input reads as it did. -/
def memberOfSpec : ChangeSpec := { name := "memberOf", fn := fun _ => fun
  | [d1, d2] => { results := [.lit (.bool true)], args := [d1, d2] }
  | _ => none }
def memberOfRow : OpenClaim := { program := "ytiijpijoccbjnaa", sum := "e4a88fd1729074c8e7437bac4de212c30c329efd697740db7a3abec8455193ee", func := "bursar/bursarlaw14.MemberOf", spec := "memberOf", unfollowed := true, recurses := true, apart := false }
def MemberOfSaid : Prop := memberOfRow.holds Try.pinned (OpenSpec.ofChange memberOfSpec)

/-- ITS FALSE NEIGHBOUR: 'it returns false'. Refute it at one input. -/
def memberOfWrong : ChangeSpec := { name := "memberOf", fn := fun _ => fun
  | [d1, d2] => { results := [.lit (.bool false)], args := [d1, d2] }
  | _ => none }
def MemberOfWrongFalsely : Prop := memberOfRow.holds Try.pinned (OpenSpec.ofChange memberOfWrong)

/-- 'bursarlaw14.MemberMost': WHATEVER THE INPUT: true; the input reads as it did. -/
def memberMostSpec : ChangeSpec := { name := "memberMost", fn := fun _ => fun
  | [d1, d2, d3] => { results := [.lit (.bool true)], args := [d1, d2, d3] }
  | _ => none }
def memberMostRow : OpenClaim := { program := "ytiijpijoccbjnaa", sum := "e4a88fd1729074c8e7437bac4de212c30c329efd697740db7a3abec8455193ee", func := "bursar/bursarlaw14.MemberMost", spec := "memberMost", unfollowed := true, recurses := true, apart := false }
def MemberMostSaid : Prop := memberMostRow.holds Try.pinned (OpenSpec.ofChange memberMostSpec)

/-- ITS FALSE NEIGHBOUR: 'it returns false'. Refute it at one input. -/
def memberMostWrong : ChangeSpec := { name := "memberMost", fn := fun _ => fun
  | [d1, d2, d3] => { results := [.lit (.bool false)], args := [d1, d2, d3] }
  | _ => none }
def MemberMostWrongFalsely : Prop := memberMostRow.holds Try.pinned (OpenSpec.ofChange memberMostWrong)

/-- 'bursarlaw14.MemberIndex': WHATEVER THE INPUT: true; the input reads as it did. -/
def memberIndexSpec : ChangeSpec := { name := "memberIndex", fn := fun _ => fun
  | [d1, d2, d3] => { results := [.lit (.bool true)], args := [d1, d2, d3] }
  | _ => none }
def memberIndexRow : OpenClaim := { program := "ytiijpijoccbjnaa", sum := "e4a88fd1729074c8e7437bac4de212c30c329efd697740db7a3abec8455193ee", func := "bursar/bursarlaw14.MemberIndex", spec := "memberIndex", unfollowed := true, recurses := true, apart := false }
def MemberIndexSaid : Prop := memberIndexRow.holds Try.pinned (OpenSpec.ofChange memberIndexSpec)

/-- ITS FALSE NEIGHBOUR: 'it returns false'. Refute it at one input. -/
def memberIndexWrong : ChangeSpec := { name := "memberIndex", fn := fun _ => fun
  | [d1, d2, d3] => { results := [.lit (.bool false)], args := [d1, d2, d3] }
  | _ => none }
def MemberIndexWrongFalsely : Prop := memberIndexRow.holds Try.pinned (OpenSpec.ofChange memberIndexWrong)

/-- 'bursarlaw14.MemberMeet': WHATEVER THE INPUT: true; the input reads as it did. -/
def memberMeetSpec : ChangeSpec := { name := "memberMeet", fn := fun _ => fun
  | [d1, d2, d3, d4] => { results := [.lit (.bool true)], args := [d1, d2, d3, d4] }
  | _ => none }
def memberMeetRow : OpenClaim := { program := "ytiijpijoccbjnaa", sum := "e4a88fd1729074c8e7437bac4de212c30c329efd697740db7a3abec8455193ee", func := "bursar/bursarlaw14.MemberMeet", spec := "memberMeet", unfollowed := true, recurses := true, apart := false }
def MemberMeetSaid : Prop := memberMeetRow.holds Try.pinned (OpenSpec.ofChange memberMeetSpec)

/-- ITS FALSE NEIGHBOUR: 'it returns false'. Refute it at one input. -/
def memberMeetWrong : ChangeSpec := { name := "memberMeet", fn := fun _ => fun
  | [d1, d2, d3, d4] => { results := [.lit (.bool false)], args := [d1, d2, d3, d4] }
  | _ => none }
def MemberMeetWrongFalsely : Prop := memberMeetRow.holds Try.pinned (OpenSpec.ofChange memberMeetWrong)

/-- 'bursarlaw14.MemberRanges': WHATEVER THE INPUT: true; the input reads as it did. -/
def memberRangesSpec : ChangeSpec := { name := "memberRanges", fn := fun _ => fun
  | [d1, d2] => { results := [.lit (.bool true)], args := [d1, d2] }
  | _ => none }
def memberRangesRow : OpenClaim := { program := "ytiijpijoccbjnaa", sum := "e4a88fd1729074c8e7437bac4de212c30c329efd697740db7a3abec8455193ee", func := "bursar/bursarlaw14.MemberRanges", spec := "memberRanges", unfollowed := true, recurses := true, apart := false }
def MemberRangesSaid : Prop := memberRangesRow.holds Try.pinned (OpenSpec.ofChange memberRangesSpec)

/-- ITS FALSE NEIGHBOUR: 'it returns false'. Refute it at one input. -/
def memberRangesWrong : ChangeSpec := { name := "memberRanges", fn := fun _ => fun
  | [d1, d2] => { results := [.lit (.bool false)], args := [d1, d2] }
  | _ => none }
def MemberRangesWrongFalsely : Prop := memberRangesRow.holds Try.pinned (OpenSpec.ofChange memberRangesWrong)

/-- 'bursarlaw14.MemberKnown': WHATEVER THE INPUT: true; the input reads as it did. -/
def memberKnownSpec : ChangeSpec := { name := "memberKnown", fn := fun _ => fun
  | [] => { results := [.lit (.bool true)], args := [] }
  | _ => none }
def memberKnownRow : OpenClaim := { program := "ytiijpijoccbjnaa", sum := "e4a88fd1729074c8e7437bac4de212c30c329efd697740db7a3abec8455193ee", func := "bursar/bursarlaw14.MemberKnown", spec := "memberKnown", unfollowed := true, recurses := true, apart := false }
def MemberKnownSaid : Prop := memberKnownRow.holds Try.pinned (OpenSpec.ofChange memberKnownSpec)

/-- ITS FALSE NEIGHBOUR: 'it returns false'. Refute it at one input. -/
def memberKnownWrong : ChangeSpec := { name := "memberKnown", fn := fun _ => fun
  | [] => { results := [.lit (.bool false)], args := [] }
  | _ => none }
def MemberKnownWrongFalsely : Prop := memberKnownRow.holds Try.pinned (OpenSpec.ofChange memberKnownWrong)

/-- 'bursarlaw14.MemberChanges': WHATEVER THE INPUT: true; the input reads as it did. -/
def memberChangesSpec : ChangeSpec := { name := "memberChanges", fn := fun _ => fun
  | [d1, d2, d3] => { results := [.lit (.bool true)], args := [d1, d2, d3] }
  | _ => none }
def memberChangesRow : OpenClaim := { program := "ytiijpijoccbjnaa", sum := "e4a88fd1729074c8e7437bac4de212c30c329efd697740db7a3abec8455193ee", func := "bursar/bursarlaw14.MemberChanges", spec := "memberChanges", unfollowed := true, recurses := true, apart := false }
def MemberChangesSaid : Prop := memberChangesRow.holds Try.pinned (OpenSpec.ofChange memberChangesSpec)

/-- ITS FALSE NEIGHBOUR: 'it returns false'. Refute it at one input. -/
def memberChangesWrong : ChangeSpec := { name := "memberChanges", fn := fun _ => fun
  | [d1, d2, d3] => { results := [.lit (.bool false)], args := [d1, d2, d3] }
  | _ => none }
def MemberChangesWrongFalsely : Prop := memberChangesRow.holds Try.pinned (OpenSpec.ofChange memberChangesWrong)

/- THE SECOND FORM. 'bulk': how many values and letters a reading holds, each counted each time it is reached (what is shared counts as often as it is met; a slice's spare places count too). A statement '..UptoSaid' is the law's where the arguments, and the package variables that the reading takes, are together of bulk at most 1048576: NARROWER than '..Said'. Prove '..Said' where nothing that the law and all that it calls make is longer than what came in: it says more and counts as full. Else prove '..UptoSaid'. A law counts once. -/
mutual
def uptoBulk {H : Type} : DataW H → Nat
  | .lit (.string bytes) => bytes.length + 1
  | .lit _ => 1
  | .nil => 1
  | .ptr d => uptoBulk d + 1
  | .slice elems spare => uptoBulkAll elems + uptoBulkAll spare + 1
  | .agg parts => uptoBulkAll parts + 1
  | .iface _ d => uptoBulk d + 1
  | .map entries => uptoBulkEntries entries + 1
  | .held _ => 1
def uptoBulkAll {H : Type} : List (DataW H) → Nat
  | [] => 0
  | d :: r => uptoBulk d + uptoBulkAll r
def uptoBulkEntries {H : Type} : List (Lit × DataW H) → Nat
  | [] => 0
  | x :: r => uptoBulkEntry x + uptoBulkEntries r
def uptoBulkEntry {H : Type} : Lit × DataW H → Nat
  | (.string bytes, d) => bytes.length + uptoBulk d + 1
  | (_, d) => uptoBulk d + 1
 end
def uptoSmall : (H : Type) → List (DataW H) → Bool := fun _ ds => decide (uptoBulkAll ds ≤ 1048576)
def OpenSpec.upto (s : _root_.Go.ChangeSpec) : _root_.Go.OpenSpec := { _root_.Go.OpenSpec.ofChange s with cond := some uptoSmall }

/-- 'bursarlaw14.MemberSets', WHERE WHAT IT READS IS OF BULK AT MOST 1048576: true; the input reads as it did. -/
def memberSetsUptoRow : OpenClaim := { program := "ytiijpijoccbjnaa", sum := "e4a88fd1729074c8e7437bac4de212c30c329efd697740db7a3abec8455193ee", func := "bursar/bursarlaw14.MemberSets", spec := "memberSets", unfollowed := true, recurses := true, apart := false, narrowed := true }
def MemberSetsUptoSaid : Prop := memberSetsUptoRow.holds Try.pinned (OpenSpec.upto memberSetsSpec)

/-- 'bursarlaw14.MemberOf', WHERE WHAT IT READS IS OF BULK AT MOST 1048576: true; the input reads as it did. -/
def memberOfUptoRow : OpenClaim := { program := "ytiijpijoccbjnaa", sum := "e4a88fd1729074c8e7437bac4de212c30c329efd697740db7a3abec8455193ee", func := "bursar/bursarlaw14.MemberOf", spec := "memberOf", unfollowed := true, recurses := true, apart := false, narrowed := true }
def MemberOfUptoSaid : Prop := memberOfUptoRow.holds Try.pinned (OpenSpec.upto memberOfSpec)

/-- 'bursarlaw14.MemberMost', WHERE WHAT IT READS IS OF BULK AT MOST 1048576: true; the input reads as it did. -/
def memberMostUptoRow : OpenClaim := { program := "ytiijpijoccbjnaa", sum := "e4a88fd1729074c8e7437bac4de212c30c329efd697740db7a3abec8455193ee", func := "bursar/bursarlaw14.MemberMost", spec := "memberMost", unfollowed := true, recurses := true, apart := false, narrowed := true }
def MemberMostUptoSaid : Prop := memberMostUptoRow.holds Try.pinned (OpenSpec.upto memberMostSpec)

/-- 'bursarlaw14.MemberIndex', WHERE WHAT IT READS IS OF BULK AT MOST 1048576: true; the input reads as it did. -/
def memberIndexUptoRow : OpenClaim := { program := "ytiijpijoccbjnaa", sum := "e4a88fd1729074c8e7437bac4de212c30c329efd697740db7a3abec8455193ee", func := "bursar/bursarlaw14.MemberIndex", spec := "memberIndex", unfollowed := true, recurses := true, apart := false, narrowed := true }
def MemberIndexUptoSaid : Prop := memberIndexUptoRow.holds Try.pinned (OpenSpec.upto memberIndexSpec)

/-- 'bursarlaw14.MemberMeet', WHERE WHAT IT READS IS OF BULK AT MOST 1048576: true; the input reads as it did. -/
def memberMeetUptoRow : OpenClaim := { program := "ytiijpijoccbjnaa", sum := "e4a88fd1729074c8e7437bac4de212c30c329efd697740db7a3abec8455193ee", func := "bursar/bursarlaw14.MemberMeet", spec := "memberMeet", unfollowed := true, recurses := true, apart := false, narrowed := true }
def MemberMeetUptoSaid : Prop := memberMeetUptoRow.holds Try.pinned (OpenSpec.upto memberMeetSpec)

/-- 'bursarlaw14.MemberRanges', WHERE WHAT IT READS IS OF BULK AT MOST 1048576: true; the input reads as it did. -/
def memberRangesUptoRow : OpenClaim := { program := "ytiijpijoccbjnaa", sum := "e4a88fd1729074c8e7437bac4de212c30c329efd697740db7a3abec8455193ee", func := "bursar/bursarlaw14.MemberRanges", spec := "memberRanges", unfollowed := true, recurses := true, apart := false, narrowed := true }
def MemberRangesUptoSaid : Prop := memberRangesUptoRow.holds Try.pinned (OpenSpec.upto memberRangesSpec)

/-- 'bursarlaw14.MemberKnown', WHERE WHAT IT READS IS OF BULK AT MOST 1048576: true; the input reads as it did. -/
def memberKnownUptoRow : OpenClaim := { program := "ytiijpijoccbjnaa", sum := "e4a88fd1729074c8e7437bac4de212c30c329efd697740db7a3abec8455193ee", func := "bursar/bursarlaw14.MemberKnown", spec := "memberKnown", unfollowed := true, recurses := true, apart := false, narrowed := true }
def MemberKnownUptoSaid : Prop := memberKnownUptoRow.holds Try.pinned (OpenSpec.upto memberKnownSpec)

/-- 'bursarlaw14.MemberChanges', WHERE WHAT IT READS IS OF BULK AT MOST 1048576: true; the input reads as it did. -/
def memberChangesUptoRow : OpenClaim := { program := "ytiijpijoccbjnaa", sum := "e4a88fd1729074c8e7437bac4de212c30c329efd697740db7a3abec8455193ee", func := "bursar/bursarlaw14.MemberChanges", spec := "memberChanges", unfollowed := true, recurses := true, apart := false, narrowed := true }
def MemberChangesUptoSaid : Prop := memberChangesUptoRow.holds Try.pinned (OpenSpec.upto memberChangesSpec)

end Rows
end Go.Proofs.Ytiijpijoccbjnaa
