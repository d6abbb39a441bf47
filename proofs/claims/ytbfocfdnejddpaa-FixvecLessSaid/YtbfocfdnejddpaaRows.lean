/-
  No cell of these rows narrows 'for every input' (looked for: loops, veiled, ifaces, maps, wideKeys, modest, calm, conditions, laid).
  DERIVED. THE GIVEN ROWS OF THIS SEAT. 7 by the template 'for every input the law returns true; each argument reads behind the call as it read before'; 0 by the template 'total and deterministic' (their statements: YtbfocfdnejddpaaTotals.lean).
  GIVEN WITH THE SEED: the statements are not yours to turn. If you find one false, say at which input.
  Laid BY PROGRAM, IN A SANDBOX (cutbox-rows.mjs): the forced cells as the released guide's own fill.sh prints them over the translation 3c3a11901677d6ab… (all of the seat's roots in one cut). By AI agents, Wed Nov 11 2026. No macro, syntax, notation, axiom, sorry.
-/
import Derived.Test.YtbfocfdnejddpaaChecked
import GoSem.Claim
import GoSem.ClaimJoined
import GoSem.ClaimMapViews
import Derived.JoinedTies
import Derived.KernelRfl
namespace Go.Proofs.Ytbfocfdnejddpaa
/- THE CELL 'sum', in the pinned program and in every row, IS THE sha256 OF THE DUMP (.gsa) THAT YtbfocfdnejddpaaProg.lean LOADS. Nothing in Lean hashes anything: it is a label: what it is worth is what the hold of that sum in a sandbox is worth. -/
noncomputable def Try.pinned : Pinned := { name := "ytbfocfdnejddpaa", sum := "3c3a11901677d6ab3a3bf5c4b9a192b54544e3dffb8fe0b394f00a72cf0d1ad7", checked := Try.checked }
namespace Rows
def none {H : Type} : Left H := { results := [], args := [] }

/-- 'lodestarlaw01.FixvecChecks': WHATEVER THE INPUT: true; the input reads as it did. -/
def fixvecChecksSpec : ChangeSpec := { name := "fixvecChecks", fn := fun _ => fun
  | [d1, d2] => { results := [.lit (.bool true)], args := [d1, d2] }
  | _ => none }
def fixvecChecksRow : OpenClaim := { program := "ytbfocfdnejddpaa", sum := "3c3a11901677d6ab3a3bf5c4b9a192b54544e3dffb8fe0b394f00a72cf0d1ad7", func := "lodestar/lodestarlaw01.FixvecChecks", spec := "fixvecChecks", unfollowed := true, recurses := true, apart := false }
def FixvecChecksSaid : Prop := fixvecChecksRow.holds Try.pinned (OpenSpec.ofChange fixvecChecksSpec)

/-- ITS FALSE NEIGHBOUR: 'it returns false'. Refute it at one input. -/
def fixvecChecksWrong : ChangeSpec := { name := "fixvecChecks", fn := fun _ => fun
  | [d1, d2] => { results := [.lit (.bool false)], args := [d1, d2] }
  | _ => none }
def FixvecChecksWrongFalsely : Prop := fixvecChecksRow.holds Try.pinned (OpenSpec.ofChange fixvecChecksWrong)

/-- 'lodestarlaw01.FixvecDists': WHATEVER THE INPUT: true; the input reads as it did. -/
def fixvecDistsSpec : ChangeSpec := { name := "fixvecDists", fn := fun _ => fun
  | [d1, d2, d3] => { results := [.lit (.bool true)], args := [d1, d2, d3] }
  | _ => none }
def fixvecDistsRow : OpenClaim := { program := "ytbfocfdnejddpaa", sum := "3c3a11901677d6ab3a3bf5c4b9a192b54544e3dffb8fe0b394f00a72cf0d1ad7", func := "lodestar/lodestarlaw01.FixvecDists", spec := "fixvecDists", unfollowed := true, recurses := true, apart := false }
def FixvecDistsSaid : Prop := fixvecDistsRow.holds Try.pinned (OpenSpec.ofChange fixvecDistsSpec)

/-- ITS FALSE NEIGHBOUR: 'it returns false'. Refute it at one input. -/
def fixvecDistsWrong : ChangeSpec := { name := "fixvecDists", fn := fun _ => fun
  | [d1, d2, d3] => { results := [.lit (.bool false)], args := [d1, d2, d3] }
  | _ => none }
def FixvecDistsWrongFalsely : Prop := fixvecDistsRow.holds Try.pinned (OpenSpec.ofChange fixvecDistsWrong)

/-- 'lodestarlaw01.FixvecSquares': WHATEVER THE INPUT: true; the input reads as it did. -/
def fixvecSquaresSpec : ChangeSpec := { name := "fixvecSquares", fn := fun _ => fun
  | [d1, d2] => { results := [.lit (.bool true)], args := [d1, d2] }
  | _ => none }
def fixvecSquaresRow : OpenClaim := { program := "ytbfocfdnejddpaa", sum := "3c3a11901677d6ab3a3bf5c4b9a192b54544e3dffb8fe0b394f00a72cf0d1ad7", func := "lodestar/lodestarlaw01.FixvecSquares", spec := "fixvecSquares", unfollowed := true, recurses := true, apart := false }
def FixvecSquaresSaid : Prop := fixvecSquaresRow.holds Try.pinned (OpenSpec.ofChange fixvecSquaresSpec)

/-- ITS FALSE NEIGHBOUR: 'it returns false'. Refute it at one input. -/
def fixvecSquaresWrong : ChangeSpec := { name := "fixvecSquares", fn := fun _ => fun
  | [d1, d2] => { results := [.lit (.bool false)], args := [d1, d2] }
  | _ => none }
def FixvecSquaresWrongFalsely : Prop := fixvecSquaresRow.holds Try.pinned (OpenSpec.ofChange fixvecSquaresWrong)

/-- 'lodestarlaw01.FixvecShift': WHATEVER THE INPUT: true; the input reads as it did. -/
def fixvecShiftSpec : ChangeSpec := { name := "fixvecShift", fn := fun _ => fun
  | [d1, d2, d3] => { results := [.lit (.bool true)], args := [d1, d2, d3] }
  | _ => none }
def fixvecShiftRow : OpenClaim := { program := "ytbfocfdnejddpaa", sum := "3c3a11901677d6ab3a3bf5c4b9a192b54544e3dffb8fe0b394f00a72cf0d1ad7", func := "lodestar/lodestarlaw01.FixvecShift", spec := "fixvecShift", unfollowed := true, recurses := true, apart := false }
def FixvecShiftSaid : Prop := fixvecShiftRow.holds Try.pinned (OpenSpec.ofChange fixvecShiftSpec)

/-- ITS FALSE NEIGHBOUR: 'it returns false'. Refute it at one input. -/
def fixvecShiftWrong : ChangeSpec := { name := "fixvecShift", fn := fun _ => fun
  | [d1, d2, d3] => { results := [.lit (.bool false)], args := [d1, d2, d3] }
  | _ => none }
def FixvecShiftWrongFalsely : Prop := fixvecShiftRow.holds Try.pinned (OpenSpec.ofChange fixvecShiftWrong)

/-- 'lodestarlaw01.FixvecBounds': WHATEVER THE INPUT: true; the input reads as it did. -/
def fixvecBoundsSpec : ChangeSpec := { name := "fixvecBounds", fn := fun _ => fun
  | [d1, d2] => { results := [.lit (.bool true)], args := [d1, d2] }
  | _ => none }
def fixvecBoundsRow : OpenClaim := { program := "ytbfocfdnejddpaa", sum := "3c3a11901677d6ab3a3bf5c4b9a192b54544e3dffb8fe0b394f00a72cf0d1ad7", func := "lodestar/lodestarlaw01.FixvecBounds", spec := "fixvecBounds", unfollowed := true, recurses := true, apart := false }
def FixvecBoundsSaid : Prop := fixvecBoundsRow.holds Try.pinned (OpenSpec.ofChange fixvecBoundsSpec)

/-- ITS FALSE NEIGHBOUR: 'it returns false'. Refute it at one input. -/
def fixvecBoundsWrong : ChangeSpec := { name := "fixvecBounds", fn := fun _ => fun
  | [d1, d2] => { results := [.lit (.bool false)], args := [d1, d2] }
  | _ => none }
def FixvecBoundsWrongFalsely : Prop := fixvecBoundsRow.holds Try.pinned (OpenSpec.ofChange fixvecBoundsWrong)

/-- 'lodestarlaw01.FixvecOwn': WHATEVER THE INPUT: true; the input reads as it did. -/
def fixvecOwnSpec : ChangeSpec := { name := "fixvecOwn", fn := fun _ => fun
  | [d1, d2, d3, d4] => { results := [.lit (.bool true)], args := [d1, d2, d3, d4] }
  | _ => none }
def fixvecOwnRow : OpenClaim := { program := "ytbfocfdnejddpaa", sum := "3c3a11901677d6ab3a3bf5c4b9a192b54544e3dffb8fe0b394f00a72cf0d1ad7", func := "lodestar/lodestarlaw01.FixvecOwn", spec := "fixvecOwn", unfollowed := true, recurses := true, apart := false }
def FixvecOwnSaid : Prop := fixvecOwnRow.holds Try.pinned (OpenSpec.ofChange fixvecOwnSpec)

/-- ITS FALSE NEIGHBOUR: 'it returns false'. Refute it at one input. -/
def fixvecOwnWrong : ChangeSpec := { name := "fixvecOwn", fn := fun _ => fun
  | [d1, d2, d3, d4] => { results := [.lit (.bool false)], args := [d1, d2, d3, d4] }
  | _ => none }
def FixvecOwnWrongFalsely : Prop := fixvecOwnRow.holds Try.pinned (OpenSpec.ofChange fixvecOwnWrong)

/-- 'lodestarlaw01.FixvecLess': WHATEVER THE INPUT: true; the input reads as it did. -/
def fixvecLessSpec : ChangeSpec := { name := "fixvecLess", fn := fun _ => fun
  | [d1, d2, d3] => { results := [.lit (.bool true)], args := [d1, d2, d3] }
  | _ => none }
def fixvecLessRow : OpenClaim := { program := "ytbfocfdnejddpaa", sum := "3c3a11901677d6ab3a3bf5c4b9a192b54544e3dffb8fe0b394f00a72cf0d1ad7", func := "lodestar/lodestarlaw01.FixvecLess", spec := "fixvecLess", unfollowed := true, recurses := true, apart := false }
def FixvecLessSaid : Prop := fixvecLessRow.holds Try.pinned (OpenSpec.ofChange fixvecLessSpec)

/-- ITS FALSE NEIGHBOUR: 'it returns false'. Refute it at one input. -/
def fixvecLessWrong : ChangeSpec := { name := "fixvecLess", fn := fun _ => fun
  | [d1, d2, d3] => { results := [.lit (.bool false)], args := [d1, d2, d3] }
  | _ => none }
def FixvecLessWrongFalsely : Prop := fixvecLessRow.holds Try.pinned (OpenSpec.ofChange fixvecLessWrong)

/- THE SECOND FORM. 'bulk': how many values and letters a reading holds, each counted each time it is reached (what is shared counts as often as it is met; a slice's spare places count too). A statement '..UptoSaid' is the law's where the arguments, and the package variables that the reading takes, are together of bulk at most 1048576: NARROWER than '..Said'. Prove '..Said' where nothing that the law and all that it calls make is longer than what came in: it says more and counts as full. Else prove '..UptoSaid'. A law counts once. -/
mutual
def uptoBulk {H : Type} : DataW H → Nat
  | .lit (.string bytes) => bytes.length + 1
  | .lit _ => 1
  | .nil => 1
  | .ptr d => uptoBulk d + 1
  | .slice elems spare => uptoBulkAll elems + uptoBulkAll spare + 1
  | .agg parts => uptoBulkAll parts + 1
  | .iface _ d => uptoBulk d + 1
  | .map entries => uptoBulkEntries entries + 1
  | .held _ => 1
def uptoBulkAll {H : Type} : List (DataW H) → Nat
  | [] => 0
  | d :: r => uptoBulk d + uptoBulkAll r
def uptoBulkEntries {H : Type} : List (Lit × DataW H) → Nat
  | [] => 0
  | x :: r => uptoBulkEntry x + uptoBulkEntries r
def uptoBulkEntry {H : Type} : Lit × DataW H → Nat
  | (.string bytes, d) => bytes.length + uptoBulk d + 1
  | (_, d) => uptoBulk d + 1
 end
def uptoSmall : (H : Type) → List (DataW H) → Bool := fun _ ds => decide (uptoBulkAll ds ≤ 1048576)
def OpenSpec.upto (s : _root_.Go.ChangeSpec) : _root_.Go.OpenSpec := { _root_.Go.OpenSpec.ofChange s with cond := some uptoSmall }

/-- 'lodestarlaw01.FixvecChecks', WHERE WHAT IT READS IS OF BULK AT MOST 1048576: true; the input reads as it did. -/
def fixvecChecksUptoRow : OpenClaim := { program := "ytbfocfdnejddpaa", sum := "3c3a11901677d6ab3a3bf5c4b9a192b54544e3dffb8fe0b394f00a72cf0d1ad7", func := "lodestar/lodestarlaw01.FixvecChecks", spec := "fixvecChecks", unfollowed := true, recurses := true, apart := false, narrowed := true }
def FixvecChecksUptoSaid : Prop := fixvecChecksUptoRow.holds Try.pinned (OpenSpec.upto fixvecChecksSpec)

/-- 'lodestarlaw01.FixvecDists', WHERE WHAT IT READS IS OF BULK AT MOST 1048576: true; the input reads as it did. -/
def fixvecDistsUptoRow : OpenClaim := { program := "ytbfocfdnejddpaa", sum := "3c3a11901677d6ab3a3bf5c4b9a192b54544e3dffb8fe0b394f00a72cf0d1ad7", func := "lodestar/lodestarlaw01.FixvecDists", spec := "fixvecDists", unfollowed := true, recurses := true, apart := false, narrowed := true }
def FixvecDistsUptoSaid : Prop := fixvecDistsUptoRow.holds Try.pinned (OpenSpec.upto fixvecDistsSpec)

/-- 'lodestarlaw01.FixvecSquares', WHERE WHAT IT READS IS OF BULK AT MOST 1048576: true; the input reads as it did. -/
def fixvecSquaresUptoRow : OpenClaim := { program := "ytbfocfdnejddpaa", sum := "3c3a11901677d6ab3a3bf5c4b9a192b54544e3dffb8fe0b394f00a72cf0d1ad7", func := "lodestar/lodestarlaw01.FixvecSquares", spec := "fixvecSquares", unfollowed := true, recurses := true, apart := false, narrowed := true }
def FixvecSquaresUptoSaid : Prop := fixvecSquaresUptoRow.holds Try.pinned (OpenSpec.upto fixvecSquaresSpec)

/-- 'lodestarlaw01.FixvecShift', WHERE WHAT IT READS IS OF BULK AT MOST 1048576: true; the input reads as it did. -/
def fixvecShiftUptoRow : OpenClaim := { program := "ytbfocfdnejddpaa", sum := "3c3a11901677d6ab3a3bf5c4b9a192b54544e3dffb8fe0b394f00a72cf0d1ad7", func := "lodestar/lodestarlaw01.FixvecShift", spec := "fixvecShift", unfollowed := true, recurses := true, apart := false, narrowed := true }
def FixvecShiftUptoSaid : Prop := fixvecShiftUptoRow.holds Try.pinned (OpenSpec.upto fixvecShiftSpec)

/-- 'lodestarlaw01.FixvecBounds', WHERE WHAT IT READS IS OF BULK AT MOST 1048576: true; the input reads as it did. -/
def fixvecBoundsUptoRow : OpenClaim := { program := "ytbfocfdnejddpaa", sum := "3c3a11901677d6ab3a3bf5c4b9a192b54544e3dffb8fe0b394f00a72cf0d1ad7", func := "lodestar/lodestarlaw01.FixvecBounds", spec := "fixvecBounds", unfollowed := true, recurses := true, apart := false, narrowed := true }
def FixvecBoundsUptoSaid : Prop := fixvecBoundsUptoRow.holds Try.pinned (OpenSpec.upto fixvecBoundsSpec)

/-- 'lodestarlaw01.FixvecOwn', WHERE WHAT IT READS IS OF BULK AT MOST 1048576: true; the input reads as it did. -/
def fixvecOwnUptoRow : OpenClaim := { program := "ytbfocfdnejddpaa", sum := "3c3a11901677d6ab3a3bf5c4b9a192b54544e3dffb8fe0b394f00a72cf0d1ad7", func := "lodestar/lodestarlaw01.FixvecOwn", spec := "fixvecOwn", unfollowed := true, recurses := true, apart := false, narrowed := true }
def FixvecOwnUptoSaid : Prop := fixvecOwnUptoRow.holds Try.pinned (OpenSpec.upto fixvecOwnSpec)

/-- 'lodestarlaw01.FixvecLess', WHERE WHAT IT READS IS OF BULK AT MOST 1048576: true; the input reads as it did. -/
def fixvecLessUptoRow : OpenClaim := { program := "ytbfocfdnejddpaa", sum := "3c3a11901677d6ab3a3bf5c4b9a192b54544e3dffb8fe0b394f00a72cf0d1ad7", func := "lodestar/lodestarlaw01.FixvecLess", spec := "fixvecLess", unfollowed := true, recurses := true, apart := false, narrowed := true }
def FixvecLessUptoSaid : Prop := fixvecLessUptoRow.holds Try.pinned (OpenSpec.upto fixvecLessSpec)

end Rows
end Go.Proofs.Ytbfocfdnejddpaa
