/-
  No cell of these rows narrows 'for every input' (looked for: loops, veiled, ifaces, maps, wideKeys, modest, calm, conditions, laid).
  DERIVED. THE GIVEN ROWS OF THIS SEAT. 5 by the template 'for every input the law returns true; each argument reads behind the call as it read before'; 0 by the template 'total and deterministic' (their statements: YtcjijappnefgaaaTotals.lean).
  GIVEN WITH THE SEED: the statements are not yours to turn. If you find one false, say at which input.
  Laid BY PROGRAM, IN A SANDBOX (cutbox-rows.mjs): the forced cells as the released guide's own fill.sh prints them over the translation d37ab6385928f2aa… (all of the seat's roots in one cut). By AI agents, Wed Nov 11 2026. No macro, syntax, notation, axiom, sorry.
-/
import Derived.Test.YtcjijappnefgaaaChecked
import GoSem.Claim
import GoSem.ClaimJoined
import GoSem.ClaimMapViews
import Derived.JoinedTies
import Derived.KernelRfl
namespace Go.Proofs.Ytcjijappnefgaaa
/- THE CELL 'sum', in the pinned program and in every row, IS THE sha256 OF THE DUMP (.gsa) THAT YtcjijappnefgaaaProg.lean LOADS. Nothing in Lean hashes anything: it is a label: what it is worth is what the hold of that sum in a sandbox is worth. -/
noncomputable def Try.pinned : Pinned := { name := "ytcjijappnefgaaa", sum := "d37ab6385928f2aaab904ae436c3eace03bebb1cf6ea55d25fa05a4d1c87c0ff", checked := Try.checked }
namespace Rows
def none {H : Type} : Left H := { results := [], args := [] }

/-- 'bursarlaw15.RlogAlike': WHATEVER THE INPUT: true; the input reads as it did. -/
def rlogAlikeSpec : ChangeSpec := { name := "rlogAlike", fn := fun _ => fun
  | [d1, d2, d3, d4, d5, d6] => { results := [.lit (.bool true)], args := [d1, d2, d3, d4, d5, d6] }
  | _ => none }
def rlogAlikeRow : OpenClaim := { program := "ytcjijappnefgaaa", sum := "d37ab6385928f2aaab904ae436c3eace03bebb1cf6ea55d25fa05a4d1c87c0ff", func := "bursar/bursarlaw15.RlogAlike", spec := "rlogAlike", apart := false }
def RlogAlikeSaid : Prop := rlogAlikeRow.holds Try.pinned (OpenSpec.ofChange rlogAlikeSpec)

/-- ITS FALSE NEIGHBOUR: 'it returns false'. Refute it at one input. -/
def rlogAlikeWrong : ChangeSpec := { name := "rlogAlike", fn := fun _ => fun
  | [d1, d2, d3, d4, d5, d6] => { results := [.lit (.bool false)], args := [d1, d2, d3, d4, d5, d6] }
  | _ => none }
def RlogAlikeWrongFalsely : Prop := rlogAlikeRow.holds Try.pinned (OpenSpec.ofChange rlogAlikeWrong)

/-- 'bursarlaw15.RlogOwn': WHATEVER THE INPUT: true; the input reads as it did. -/
def rlogOwnSpec : ChangeSpec := { name := "rlogOwn", fn := fun _ => fun
  | [d1, d2] => { results := [.lit (.bool true)], args := [d1, d2] }
  | _ => none }
def rlogOwnRow : OpenClaim := { program := "ytcjijappnefgaaa", sum := "d37ab6385928f2aaab904ae436c3eace03bebb1cf6ea55d25fa05a4d1c87c0ff", func := "bursar/bursarlaw15.RlogOwn", spec := "rlogOwn", unfollowed := true, recurses := true, apart := false }
def RlogOwnSaid : Prop := rlogOwnRow.holds Try.pinned (OpenSpec.ofChange rlogOwnSpec)

/-- ITS FALSE NEIGHBOUR: 'it returns false'. Refute it at one input. -/
def rlogOwnWrong : ChangeSpec := { name := "rlogOwn", fn := fun _ => fun
  | [d1, d2] => { results := [.lit (.bool false)], args := [d1, d2] }
  | _ => none }
def RlogOwnWrongFalsely : Prop := rlogOwnRow.holds Try.pinned (OpenSpec.ofChange rlogOwnWrong)

/-- 'bursarlaw15.RlogNew': WHATEVER THE INPUT: true; the input reads as it did. -/
def rlogNewSpec : ChangeSpec := { name := "rlogNew", fn := fun _ => fun
  | [d1, d2, d3] => { results := [.lit (.bool true)], args := [d1, d2, d3] }
  | _ => none }
def rlogNewRow : OpenClaim := { program := "ytcjijappnefgaaa", sum := "d37ab6385928f2aaab904ae436c3eace03bebb1cf6ea55d25fa05a4d1c87c0ff", func := "bursar/bursarlaw15.RlogNew", spec := "rlogNew", apart := false }
def RlogNewSaid : Prop := rlogNewRow.holds Try.pinned (OpenSpec.ofChange rlogNewSpec)

/-- ITS FALSE NEIGHBOUR: 'it returns false'. Refute it at one input. -/
def rlogNewWrong : ChangeSpec := { name := "rlogNew", fn := fun _ => fun
  | [d1, d2, d3] => { results := [.lit (.bool false)], args := [d1, d2, d3] }
  | _ => none }
def RlogNewWrongFalsely : Prop := rlogNewRow.holds Try.pinned (OpenSpec.ofChange rlogNewWrong)

/-- 'bursarlaw15.RlogKnown': WHATEVER THE INPUT: true; the input reads as it did. -/
def rlogKnownSpec : ChangeSpec := { name := "rlogKnown", fn := fun _ => fun
  | [] => { results := [.lit (.bool true)], args := [] }
  | _ => none }
def rlogKnownRow : OpenClaim := { program := "ytcjijappnefgaaa", sum := "d37ab6385928f2aaab904ae436c3eace03bebb1cf6ea55d25fa05a4d1c87c0ff", func := "bursar/bursarlaw15.RlogKnown", spec := "rlogKnown", apart := false }
def RlogKnownSaid : Prop := rlogKnownRow.holds Try.pinned (OpenSpec.ofChange rlogKnownSpec)

/-- ITS FALSE NEIGHBOUR: 'it returns false'. Refute it at one input. -/
def rlogKnownWrong : ChangeSpec := { name := "rlogKnown", fn := fun _ => fun
  | [] => { results := [.lit (.bool false)], args := [] }
  | _ => none }
def RlogKnownWrongFalsely : Prop := rlogKnownRow.holds Try.pinned (OpenSpec.ofChange rlogKnownWrong)

/-- 'bursarlaw15.RlogPlays': WHATEVER THE INPUT: true; the input reads as it did. -/
def rlogPlaysSpec : ChangeSpec := { name := "rlogPlays", fn := fun _ => fun
  | [d1, d2, d3] => { results := [.lit (.bool true)], args := [d1, d2, d3] }
  | _ => none }
def rlogPlaysRow : OpenClaim := { program := "ytcjijappnefgaaa", sum := "d37ab6385928f2aaab904ae436c3eace03bebb1cf6ea55d25fa05a4d1c87c0ff", func := "bursar/bursarlaw15.RlogPlays", spec := "rlogPlays", apart := false }
def RlogPlaysSaid : Prop := rlogPlaysRow.holds Try.pinned (OpenSpec.ofChange rlogPlaysSpec)

/-- ITS FALSE NEIGHBOUR: 'it returns false'. Refute it at one input. -/
def rlogPlaysWrong : ChangeSpec := { name := "rlogPlays", fn := fun _ => fun
  | [d1, d2, d3] => { results := [.lit (.bool false)], args := [d1, d2, d3] }
  | _ => none }
def RlogPlaysWrongFalsely : Prop := rlogPlaysRow.holds Try.pinned (OpenSpec.ofChange rlogPlaysWrong)

/- THE SECOND FORM. 'bulk': how many values and letters a reading holds, each counted each time it is reached (what is shared counts as often as it is met; a slice's spare places count too). A statement '..UptoSaid' is the law's where the arguments, and the package variables that the reading takes, are together of bulk at most 1048576: NARROWER than '..Said'. Prove '..Said' where nothing that the law and all that it calls make is longer than what came in: it says more and counts as full. Else prove '..UptoSaid'. A law counts once. -/
mutual
def uptoBulk {H : Type} : DataW H → Nat
  | .lit (.string bytes) => bytes.length + 1
  | .lit _ => 1
  | .nil => 1
  | .ptr d => uptoBulk d + 1
  | .slice elems spare => uptoBulkAll elems + uptoBulkAll spare + 1
  | .agg parts => uptoBulkAll parts + 1
  | .iface _ d => uptoBulk d + 1
  | .map entries => uptoBulkEntries entries + 1
  | .held _ => 1
def uptoBulkAll {H : Type} : List (DataW H) → Nat
  | [] => 0
  | d :: r => uptoBulk d + uptoBulkAll r
def uptoBulkEntries {H : Type} : List (Lit × DataW H) → Nat
  | [] => 0
  | x :: r => uptoBulkEntry x + uptoBulkEntries r
def uptoBulkEntry {H : Type} : Lit × DataW H → Nat
  | (.string bytes, d) => bytes.length + uptoBulk d + 1
  | (_, d) => uptoBulk d + 1
 end
def uptoSmall : (H : Type) → List (DataW H) → Bool := fun _ ds => decide (uptoBulkAll ds ≤ 1048576)
def OpenSpec.upto (s : _root_.Go.ChangeSpec) : _root_.Go.OpenSpec := { _root_.Go.OpenSpec.ofChange s with cond := some uptoSmall }

/-- 'bursarlaw15.RlogAlike', WHERE WHAT IT READS IS OF BULK AT MOST 1048576: true; the input reads as it did. -/
def rlogAlikeUptoRow : OpenClaim := { program := "ytcjijappnefgaaa", sum := "d37ab6385928f2aaab904ae436c3eace03bebb1cf6ea55d25fa05a4d1c87c0ff", func := "bursar/bursarlaw15.RlogAlike", spec := "rlogAlike", apart := false, narrowed := true }
def RlogAlikeUptoSaid : Prop := rlogAlikeUptoRow.holds Try.pinned (OpenSpec.upto rlogAlikeSpec)

/-- 'bursarlaw15.RlogOwn', WHERE WHAT IT READS IS OF BULK AT MOST 1048576: true; the input reads as it did. -/
def rlogOwnUptoRow : OpenClaim := { program := "ytcjijappnefgaaa", sum := "d37ab6385928f2aaab904ae436c3eace03bebb1cf6ea55d25fa05a4d1c87c0ff", func := "bursar/bursarlaw15.RlogOwn", spec := "rlogOwn", unfollowed := true, recurses := true, apart := false, narrowed := true }
def RlogOwnUptoSaid : Prop := rlogOwnUptoRow.holds Try.pinned (OpenSpec.upto rlogOwnSpec)

/-- 'bursarlaw15.RlogNew', WHERE WHAT IT READS IS OF BULK AT MOST 1048576: true; the input reads as it did. -/
def rlogNewUptoRow : OpenClaim := { program := "ytcjijappnefgaaa", sum := "d37ab6385928f2aaab904ae436c3eace03bebb1cf6ea55d25fa05a4d1c87c0ff", func := "bursar/bursarlaw15.RlogNew", spec := "rlogNew", apart := false, narrowed := true }
def RlogNewUptoSaid : Prop := rlogNewUptoRow.holds Try.pinned (OpenSpec.upto rlogNewSpec)

/-- 'bursarlaw15.RlogKnown', WHERE WHAT IT READS IS OF BULK AT MOST 1048576: true; the input reads as it did. -/
def rlogKnownUptoRow : OpenClaim := { program := "ytcjijappnefgaaa", sum := "d37ab6385928f2aaab904ae436c3eace03bebb1cf6ea55d25fa05a4d1c87c0ff", func := "bursar/bursarlaw15.RlogKnown", spec := "rlogKnown", apart := false, narrowed := true }
def RlogKnownUptoSaid : Prop := rlogKnownUptoRow.holds Try.pinned (OpenSpec.upto rlogKnownSpec)

/-- 'bursarlaw15.RlogPlays', WHERE WHAT IT READS IS OF BULK AT MOST 1048576: true; the input reads as it did. -/
def rlogPlaysUptoRow : OpenClaim := { program := "ytcjijappnefgaaa", sum := "d37ab6385928f2aaab904ae436c3eace03bebb1cf6ea55d25fa05a4d1c87c0ff", func := "bursar/bursarlaw15.RlogPlays", spec := "rlogPlays", apart := false, narrowed := true }
def RlogPlaysUptoSaid : Prop := rlogPlaysUptoRow.holds Try.pinned (OpenSpec.upto rlogPlaysSpec)

end Rows
end Go.Proofs.Ytcjijappnefgaaa
