/-
  No cell of these rows narrows 'for every input' (looked for: loops, veiled, ifaces, maps, wideKeys, modest, calm, conditions, laid).
  DERIVED. THE GIVEN ROWS OF THIS SEAT. 6 by the template 'for every input the law returns true; each argument reads behind the call as it read before'; 0 by the template 'total and deterministic' (their statements: YtohdhkddnnokfaaTotals.lean).
  GIVEN WITH THE SEED: the statements are not yours to turn. If you find one false, say at which input.
  Laid BY PROGRAM, IN A SANDBOX (cutbox-rows.mjs): the forced cells as the released guide's own fill.sh prints them over the translation 25ce6f9fe6aaa8e8… (all of the seat's roots in one cut). By AI agents, Wed Nov 11 2026. No macro, syntax, notation, axiom, sorry.
-/
import Derived.Test.YtohdhkddnnokfaaChecked
import GoSem.Claim
import GoSem.ClaimJoined
import GoSem.ClaimMapViews
import Derived.JoinedTies
import Derived.KernelRfl
namespace Go.Proofs.Ytohdhkddnnokfaa
/- THE CELL 'sum', in the pinned program and in every row, IS THE sha256 OF THE DUMP (.gsa) THAT YtohdhkddnnokfaaProg.lean LOADS. Nothing in Lean hashes anything: it is a label: what it is worth is what the hold of that sum in a sandbox is worth. -/
noncomputable def Try.pinned : Pinned := { name := "ytohdhkddnnokfaa", sum := "25ce6f9fe6aaa8e81857a58668a489563161d1329a2d348f6126f324131dc34b", checked := Try.checked }
namespace Rows
def none {H : Type} : Left H := { results := [], args := [] }

/-- 'bursarlaw20.SessionKnown': WHATEVER THE INPUT: true; the input reads as it did. -/
def sessionKnownSpec : ChangeSpec := { name := "sessionKnown", fn := fun _ => fun
  | [] => { results := [.lit (.bool true)], args := [] }
  | _ => none }
def sessionKnownRow : OpenClaim := { program := "ytohdhkddnnokfaa", sum := "25ce6f9fe6aaa8e81857a58668a489563161d1329a2d348f6126f324131dc34b", func := "bursar/bursarlaw20.SessionKnown", spec := "sessionKnown", inPlace := ["slices.overlaps[uint64]", "slices.overlaps[bursar/api.Session]"], unfollowed := true, recurses := true, apart := false }
def SessionKnownSaid : Prop := sessionKnownRow.holds Try.pinned (OpenSpec.ofChange sessionKnownSpec)

/-- ITS FALSE NEIGHBOUR: 'it returns false'. Refute it at one input. -/
def sessionKnownWrong : ChangeSpec := { name := "sessionKnown", fn := fun _ => fun
  | [] => { results := [.lit (.bool false)], args := [] }
  | _ => none }
def SessionKnownWrongFalsely : Prop := sessionKnownRow.holds Try.pinned (OpenSpec.ofChange sessionKnownWrong)

/-- 'bursarlaw20.SessionOnce': WHATEVER THE INPUT: true; the input reads as it did. -/
def sessionOnceSpec : ChangeSpec := { name := "sessionOnce", fn := fun _ => fun
  | [d1, d2] => { results := [.lit (.bool true)], args := [d1, d2] }
  | _ => none }
def sessionOnceRow : OpenClaim := { program := "ytohdhkddnnokfaa", sum := "25ce6f9fe6aaa8e81857a58668a489563161d1329a2d348f6126f324131dc34b", func := "bursar/bursarlaw20.SessionOnce", spec := "sessionOnce", inPlace := ["slices.overlaps[uint64]", "slices.overlaps[bursar/api.Session]"], unfollowed := true, recurses := true, apart := false }
def SessionOnceSaid : Prop := sessionOnceRow.holds Try.pinned (OpenSpec.ofChange sessionOnceSpec)

/-- ITS FALSE NEIGHBOUR: 'it returns false'. Refute it at one input. -/
def sessionOnceWrong : ChangeSpec := { name := "sessionOnce", fn := fun _ => fun
  | [d1, d2] => { results := [.lit (.bool false)], args := [d1, d2] }
  | _ => none }
def SessionOnceWrongFalsely : Prop := sessionOnceRow.holds Try.pinned (OpenSpec.ofChange sessionOnceWrong)

/-- 'bursarlaw20.SessionExpires': WHATEVER THE INPUT: true; the input reads as it did. -/
def sessionExpiresSpec : ChangeSpec := { name := "sessionExpires", fn := fun _ => fun
  | [d1, d2, d3] => { results := [.lit (.bool true)], args := [d1, d2, d3] }
  | _ => none }
def sessionExpiresRow : OpenClaim := { program := "ytohdhkddnnokfaa", sum := "25ce6f9fe6aaa8e81857a58668a489563161d1329a2d348f6126f324131dc34b", func := "bursar/bursarlaw20.SessionExpires", spec := "sessionExpires", inPlace := ["slices.overlaps[uint64]", "slices.overlaps[bursar/api.Session]"], unfollowed := true, recurses := true, apart := false }
def SessionExpiresSaid : Prop := sessionExpiresRow.holds Try.pinned (OpenSpec.ofChange sessionExpiresSpec)

/-- ITS FALSE NEIGHBOUR: 'it returns false'. Refute it at one input. -/
def sessionExpiresWrong : ChangeSpec := { name := "sessionExpires", fn := fun _ => fun
  | [d1, d2, d3] => { results := [.lit (.bool false)], args := [d1, d2, d3] }
  | _ => none }
def SessionExpiresWrongFalsely : Prop := sessionExpiresRow.holds Try.pinned (OpenSpec.ofChange sessionExpiresWrong)

/-- 'bursarlaw20.SessionRoom': WHATEVER THE INPUT: true; the input reads as it did. -/
def sessionRoomSpec : ChangeSpec := { name := "sessionRoom", fn := fun _ => fun
  | [d1, d2] => { results := [.lit (.bool true)], args := [d1, d2] }
  | _ => none }
def sessionRoomRow : OpenClaim := { program := "ytohdhkddnnokfaa", sum := "25ce6f9fe6aaa8e81857a58668a489563161d1329a2d348f6126f324131dc34b", func := "bursar/bursarlaw20.SessionRoom", spec := "sessionRoom", inPlace := ["slices.overlaps[uint64]", "slices.overlaps[bursar/api.Session]"], unfollowed := true, recurses := true, apart := false }
def SessionRoomSaid : Prop := sessionRoomRow.holds Try.pinned (OpenSpec.ofChange sessionRoomSpec)

/-- ITS FALSE NEIGHBOUR: 'it returns false'. Refute it at one input. -/
def sessionRoomWrong : ChangeSpec := { name := "sessionRoom", fn := fun _ => fun
  | [d1, d2] => { results := [.lit (.bool false)], args := [d1, d2] }
  | _ => none }
def SessionRoomWrongFalsely : Prop := sessionRoomRow.holds Try.pinned (OpenSpec.ofChange sessionRoomWrong)

/-- 'bursarlaw20.SessionPlays': WHATEVER THE INPUT: true; the input reads as it did. -/
def sessionPlaysSpec : ChangeSpec := { name := "sessionPlays", fn := fun _ => fun
  | [d1, d2, d3, d4] => { results := [.lit (.bool true)], args := [d1, d2, d3, d4] }
  | _ => none }
def sessionPlaysRow : OpenClaim := { program := "ytohdhkddnnokfaa", sum := "25ce6f9fe6aaa8e81857a58668a489563161d1329a2d348f6126f324131dc34b", func := "bursar/bursarlaw20.SessionPlays", spec := "sessionPlays", inPlace := ["slices.overlaps[uint64]", "slices.overlaps[bursar/api.Session]"], unfollowed := true, recurses := true, apart := false }
def SessionPlaysSaid : Prop := sessionPlaysRow.holds Try.pinned (OpenSpec.ofChange sessionPlaysSpec)

/-- ITS FALSE NEIGHBOUR: 'it returns false'. Refute it at one input. -/
def sessionPlaysWrong : ChangeSpec := { name := "sessionPlays", fn := fun _ => fun
  | [d1, d2, d3, d4] => { results := [.lit (.bool false)], args := [d1, d2, d3, d4] }
  | _ => none }
def SessionPlaysWrongFalsely : Prop := sessionPlaysRow.holds Try.pinned (OpenSpec.ofChange sessionPlaysWrong)

/-- 'bursarlaw20.SessionRight': WHATEVER THE INPUT: true; the input reads as it did. -/
def sessionRightSpec : ChangeSpec := { name := "sessionRight", fn := fun _ => fun
  | [d1, d2, d3, d4, d5] => { results := [.lit (.bool true)], args := [d1, d2, d3, d4, d5] }
  | _ => none }
def sessionRightRow : OpenClaim := { program := "ytohdhkddnnokfaa", sum := "25ce6f9fe6aaa8e81857a58668a489563161d1329a2d348f6126f324131dc34b", func := "bursar/bursarlaw20.SessionRight", spec := "sessionRight", inPlace := ["slices.overlaps[uint64]", "slices.overlaps[bursar/api.Session]"], unfollowed := true, recurses := true, apart := false }
def SessionRightSaid : Prop := sessionRightRow.holds Try.pinned (OpenSpec.ofChange sessionRightSpec)

/-- ITS FALSE NEIGHBOUR: 'it returns false'. Refute it at one input. -/
def sessionRightWrong : ChangeSpec := { name := "sessionRight", fn := fun _ => fun
  | [d1, d2, d3, d4, d5] => { results := [.lit (.bool false)], args := [d1, d2, d3, d4, d5] }
  | _ => none }
def SessionRightWrongFalsely : Prop := sessionRightRow.holds Try.pinned (OpenSpec.ofChange sessionRightWrong)

/- THE SECOND FORM. 'bulk': how many values and letters a reading holds, each counted each time it is reached (what is shared counts as often as it is met; a slice's spare places count too). A statement '..UptoSaid' is the law's where the arguments, and the package variables that the reading takes, are together of bulk at most 1048576: NARROWER than '..Said'. Prove '..Said' where nothing that the law and all that it calls make is longer than what came in: it says more and counts as full. Else prove '..UptoSaid'. A law counts once. -/
mutual
def uptoBulk {H : Type} : DataW H → Nat
  | .lit (.string bytes) => bytes.length + 1
  | .lit _ => 1
  | .nil => 1
  | .ptr d => uptoBulk d + 1
  | .slice elems spare => uptoBulkAll elems + uptoBulkAll spare + 1
  | .agg parts => uptoBulkAll parts + 1
  | .iface _ d => uptoBulk d + 1
  | .map entries => uptoBulkEntries entries + 1
  | .held _ => 1
def uptoBulkAll {H : Type} : List (DataW H) → Nat
  | [] => 0
  | d :: r => uptoBulk d + uptoBulkAll r
def uptoBulkEntries {H : Type} : List (Lit × DataW H) → Nat
  | [] => 0
  | x :: r => uptoBulkEntry x + uptoBulkEntries r
def uptoBulkEntry {H : Type} : Lit × DataW H → Nat
  | (.string bytes, d) => bytes.length + uptoBulk d + 1
  | (_, d) => uptoBulk d + 1
 end
def uptoSmall : (H : Type) → List (DataW H) → Bool := fun _ ds => decide (uptoBulkAll ds ≤ 1048576)
def OpenSpec.upto (s : _root_.Go.ChangeSpec) : _root_.Go.OpenSpec := { _root_.Go.OpenSpec.ofChange s with cond := some uptoSmall }

/-- 'bursarlaw20.SessionKnown', WHERE WHAT IT READS IS OF BULK AT MOST 1048576: true; the input reads as it did. -/
def sessionKnownUptoRow : OpenClaim := { program := "ytohdhkddnnokfaa", sum := "25ce6f9fe6aaa8e81857a58668a489563161d1329a2d348f6126f324131dc34b", func := "bursar/bursarlaw20.SessionKnown", spec := "sessionKnown", inPlace := ["slices.overlaps[uint64]", "slices.overlaps[bursar/api.Session]"], unfollowed := true, recurses := true, apart := false, narrowed := true }
def SessionKnownUptoSaid : Prop := sessionKnownUptoRow.holds Try.pinned (OpenSpec.upto sessionKnownSpec)

/-- 'bursarlaw20.SessionOnce', WHERE WHAT IT READS IS OF BULK AT MOST 1048576: true; the input reads as it did. -/
def sessionOnceUptoRow : OpenClaim := { program := "ytohdhkddnnokfaa", sum := "25ce6f9fe6aaa8e81857a58668a489563161d1329a2d348f6126f324131dc34b", func := "bursar/bursarlaw20.SessionOnce", spec := "sessionOnce", inPlace := ["slices.overlaps[uint64]", "slices.overlaps[bursar/api.Session]"], unfollowed := true, recurses := true, apart := false, narrowed := true }
def SessionOnceUptoSaid : Prop := sessionOnceUptoRow.holds Try.pinned (OpenSpec.upto sessionOnceSpec)

/-- 'bursarlaw20.SessionExpires', WHERE WHAT IT READS IS OF BULK AT MOST 1048576: true; the input reads as it did. -/
def sessionExpiresUptoRow : OpenClaim := { program := "ytohdhkddnnokfaa", sum := "25ce6f9fe6aaa8e81857a58668a489563161d1329a2d348f6126f324131dc34b", func := "bursar/bursarlaw20.SessionExpires", spec := "sessionExpires", inPlace := ["slices.overlaps[uint64]", "slices.overlaps[bursar/api.Session]"], unfollowed := true, recurses := true, apart := false, narrowed := true }
def SessionExpiresUptoSaid : Prop := sessionExpiresUptoRow.holds Try.pinned (OpenSpec.upto sessionExpiresSpec)

/-- 'bursarlaw20.SessionRoom', WHERE WHAT IT READS IS OF BULK AT MOST 1048576: true; the input reads as it did. -/
def sessionRoomUptoRow : OpenClaim := { program := "ytohdhkddnnokfaa", sum := "25ce6f9fe6aaa8e81857a58668a489563161d1329a2d348f6126f324131dc34b", func := "bursar/bursarlaw20.SessionRoom", spec := "sessionRoom", inPlace := ["slices.overlaps[uint64]", "slices.overlaps[bursar/api.Session]"], unfollowed := true, recurses := true, apart := false, narrowed := true }
def SessionRoomUptoSaid : Prop := sessionRoomUptoRow.holds Try.pinned (OpenSpec.upto sessionRoomSpec)

/-- 'bursarlaw20.SessionPlays', WHERE WHAT IT READS IS OF BULK AT MOST 1048576: true; the input reads as it did. -/
def sessionPlaysUptoRow : OpenClaim := { program := "ytohdhkddnnokfaa", sum := "25ce6f9fe6aaa8e81857a58668a489563161d1329a2d348f6126f324131dc34b", func := "bursar/bursarlaw20.SessionPlays", spec := "sessionPlays", inPlace := ["slices.overlaps[uint64]", "slices.overlaps[bursar/api.Session]"], unfollowed := true, recurses := true, apart := false, narrowed := true }
def SessionPlaysUptoSaid : Prop := sessionPlaysUptoRow.holds Try.pinned (OpenSpec.upto sessionPlaysSpec)

/-- 'bursarlaw20.SessionRight', WHERE WHAT IT READS IS OF BULK AT MOST 1048576: true; the input reads as it did. -/
def sessionRightUptoRow : OpenClaim := { program := "ytohdhkddnnokfaa", sum := "25ce6f9fe6aaa8e81857a58668a489563161d1329a2d348f6126f324131dc34b", func := "bursar/bursarlaw20.SessionRight", spec := "sessionRight", inPlace := ["slices.overlaps[uint64]", "slices.overlaps[bursar/api.Session]"], unfollowed := true, recurses := true, apart := false, narrowed := true }
def SessionRightUptoSaid : Prop := sessionRightUptoRow.holds Try.pinned (OpenSpec.upto sessionRightSpec)

end Rows
end Go.Proofs.Ytohdhkddnnokfaa
