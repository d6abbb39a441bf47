/-
  No cell of these rows narrows 'for every input' (looked for: loops, veiled, ifaces, maps, wideKeys, modest, calm, conditions, laid).
  DERIVED. THE GIVEN ROWS OF THIS SEAT. 7 by the template 'for every input the law returns true; each argument reads behind the call as it read before'; 0 by the template 'total and deterministic' (their statements: YtofmlajanopniaaTotals.lean).
  GIVEN WITH THE SEED: the statements are not yours to turn. If you find one false, say at which input.
  Laid BY PROGRAM, IN A SANDBOX (cutbox-rows.mjs): the forced cells as the released guide's own fill.sh prints them over the translation 5b0966d9a7c5e8dc… (all of the seat's roots in one cut). By AI agents, Wed Nov 11 2026. No macro, syntax, notation, axiom, sorry.
-/
import Derived.Test.YtofmlajanopniaaChecked
import GoSem.Claim
import GoSem.ClaimJoined
import GoSem.ClaimMapViews
import Derived.JoinedTies
import Derived.KernelRfl
namespace Go.Proofs.Ytofmlajanopniaa
/- THE CELL 'sum', in the pinned program and in every row, IS THE sha256 OF THE DUMP (.gsa) THAT YtofmlajanopniaaProg.lean LOADS. Nothing in Lean hashes anything: it is a label: what it is worth is what the hold of that sum in a sandbox is worth. -/
noncomputable def Try.pinned : Pinned := { name := "ytofmlajanopniaa", sum := "5b0966d9a7c5e8dce6626b8f1b0ae9960cd94802a8f3d5baa64410c66db88d95", checked := Try.checked }
namespace Rows
def none {H : Type} : Left H := { results := [], args := [] }

/-- 'lodestarlaw11.LinksOwn': WHATEVER THE INPUT: true; the input reads as it did. -/
def linksOwnSpec : ChangeSpec := { name := "linksOwn", fn := fun _ => fun
  | [d1, d2] => { results := [.lit (.bool true)], args := [d1, d2] }
  | _ => none }
def linksOwnRow : OpenClaim := { program := "ytofmlajanopniaa", sum := "5b0966d9a7c5e8dce6626b8f1b0ae9960cd94802a8f3d5baa64410c66db88d95", func := "lodestar/lodestarlaw11.LinksOwn", spec := "linksOwn", unfollowed := true, recurses := true, apart := false }
def LinksOwnSaid : Prop := linksOwnRow.holds Try.pinned (OpenSpec.ofChange linksOwnSpec)

/-- ITS FALSE NEIGHBOUR: 'it returns false'. Refute it at one input. -/
def linksOwnWrong : ChangeSpec := { name := "linksOwn", fn := fun _ => fun
  | [d1, d2] => { results := [.lit (.bool false)], args := [d1, d2] }
  | _ => none }
def LinksOwnWrongFalsely : Prop := linksOwnRow.holds Try.pinned (OpenSpec.ofChange linksOwnWrong)

/-- 'lodestarlaw11.LinksFinds': WHATEVER THE INPUT: true; the input reads as it did. -/
def linksFindsSpec : ChangeSpec := { name := "linksFinds", fn := fun _ => fun
  | [d1, d2, d3, d4] => { results := [.lit (.bool true)], args := [d1, d2, d3, d4] }
  | _ => none }
def linksFindsRow : OpenClaim := { program := "ytofmlajanopniaa", sum := "5b0966d9a7c5e8dce6626b8f1b0ae9960cd94802a8f3d5baa64410c66db88d95", func := "lodestar/lodestarlaw11.LinksFinds", spec := "linksFinds", unfollowed := true, recurses := true, apart := false }
def LinksFindsSaid : Prop := linksFindsRow.holds Try.pinned (OpenSpec.ofChange linksFindsSpec)

/-- ITS FALSE NEIGHBOUR: 'it returns false'. Refute it at one input. -/
def linksFindsWrong : ChangeSpec := { name := "linksFinds", fn := fun _ => fun
  | [d1, d2, d3, d4] => { results := [.lit (.bool false)], args := [d1, d2, d3, d4] }
  | _ => none }
def LinksFindsWrongFalsely : Prop := linksFindsRow.holds Try.pinned (OpenSpec.ofChange linksFindsWrong)

/-- 'lodestarlaw11.LinksNear': WHATEVER THE INPUT: true; the input reads as it did. -/
def linksNearSpec : ChangeSpec := { name := "linksNear", fn := fun _ => fun
  | [d1, d2, d3, d4] => { results := [.lit (.bool true)], args := [d1, d2, d3, d4] }
  | _ => none }
def linksNearRow : OpenClaim := { program := "ytofmlajanopniaa", sum := "5b0966d9a7c5e8dce6626b8f1b0ae9960cd94802a8f3d5baa64410c66db88d95", func := "lodestar/lodestarlaw11.LinksNear", spec := "linksNear", unfollowed := true, recurses := true, apart := false }
def LinksNearSaid : Prop := linksNearRow.holds Try.pinned (OpenSpec.ofChange linksNearSpec)

/-- ITS FALSE NEIGHBOUR: 'it returns false'. Refute it at one input. -/
def linksNearWrong : ChangeSpec := { name := "linksNear", fn := fun _ => fun
  | [d1, d2, d3, d4] => { results := [.lit (.bool false)], args := [d1, d2, d3, d4] }
  | _ => none }
def LinksNearWrongFalsely : Prop := linksNearRow.holds Try.pinned (OpenSpec.ofChange linksNearWrong)

/-- 'lodestarlaw11.LinksPlays': WHATEVER THE INPUT: true; the input reads as it did. -/
def linksPlaysSpec : ChangeSpec := { name := "linksPlays", fn := fun _ => fun
  | [d1, d2] => { results := [.lit (.bool true)], args := [d1, d2] }
  | _ => none }
def linksPlaysRow : OpenClaim := { program := "ytofmlajanopniaa", sum := "5b0966d9a7c5e8dce6626b8f1b0ae9960cd94802a8f3d5baa64410c66db88d95", func := "lodestar/lodestarlaw11.LinksPlays", spec := "linksPlays", unfollowed := true, recurses := true, apart := false }
def LinksPlaysSaid : Prop := linksPlaysRow.holds Try.pinned (OpenSpec.ofChange linksPlaysSpec)

/-- ITS FALSE NEIGHBOUR: 'it returns false'. Refute it at one input. -/
def linksPlaysWrong : ChangeSpec := { name := "linksPlays", fn := fun _ => fun
  | [d1, d2] => { results := [.lit (.bool false)], args := [d1, d2] }
  | _ => none }
def LinksPlaysWrongFalsely : Prop := linksPlaysRow.holds Try.pinned (OpenSpec.ofChange linksPlaysWrong)

/-- 'lodestarlaw11.LinksRight': WHATEVER THE INPUT: true; the input reads as it did. -/
def linksRightSpec : ChangeSpec := { name := "linksRight", fn := fun _ => fun
  | [d1, d2] => { results := [.lit (.bool true)], args := [d1, d2] }
  | _ => none }
def linksRightRow : OpenClaim := { program := "ytofmlajanopniaa", sum := "5b0966d9a7c5e8dce6626b8f1b0ae9960cd94802a8f3d5baa64410c66db88d95", func := "lodestar/lodestarlaw11.LinksRight", spec := "linksRight", unfollowed := true, recurses := true, apart := false }
def LinksRightSaid : Prop := linksRightRow.holds Try.pinned (OpenSpec.ofChange linksRightSpec)

/-- ITS FALSE NEIGHBOUR: 'it returns false'. Refute it at one input. -/
def linksRightWrong : ChangeSpec := { name := "linksRight", fn := fun _ => fun
  | [d1, d2] => { results := [.lit (.bool false)], args := [d1, d2] }
  | _ => none }
def LinksRightWrongFalsely : Prop := linksRightRow.holds Try.pinned (OpenSpec.ofChange linksRightWrong)

/-- 'lodestarlaw11.LinksBound': WHATEVER THE INPUT: true; the input reads as it did. -/
def linksBoundSpec : ChangeSpec := { name := "linksBound", fn := fun _ => fun
  | [d1, d2, d3, d4, d5, d6] => { results := [.lit (.bool true)], args := [d1, d2, d3, d4, d5, d6] }
  | _ => none }
def linksBoundRow : OpenClaim := { program := "ytofmlajanopniaa", sum := "5b0966d9a7c5e8dce6626b8f1b0ae9960cd94802a8f3d5baa64410c66db88d95", func := "lodestar/lodestarlaw11.LinksBound", spec := "linksBound", unfollowed := true, recurses := true, apart := false }
def LinksBoundSaid : Prop := linksBoundRow.holds Try.pinned (OpenSpec.ofChange linksBoundSpec)

/-- ITS FALSE NEIGHBOUR: 'it returns false'. Refute it at one input. -/
def linksBoundWrong : ChangeSpec := { name := "linksBound", fn := fun _ => fun
  | [d1, d2, d3, d4, d5, d6] => { results := [.lit (.bool false)], args := [d1, d2, d3, d4, d5, d6] }
  | _ => none }
def LinksBoundWrongFalsely : Prop := linksBoundRow.holds Try.pinned (OpenSpec.ofChange linksBoundWrong)

/-- 'lodestarlaw12.HnswNow': WHATEVER THE INPUT: true; the input reads as it did. -/
def hnswNowSpec : ChangeSpec := { name := "hnswNow", fn := fun _ => fun
  | [d] => { results := [.lit (.bool true)], args := [d] }
  | _ => none }
def hnswNowRow : OpenClaim := { program := "ytofmlajanopniaa", sum := "5b0966d9a7c5e8dce6626b8f1b0ae9960cd94802a8f3d5baa64410c66db88d95", func := "lodestar/lodestarlaw12.HnswNow", spec := "hnswNow", unfollowed := true, recurses := true, apart := false }
def HnswNowSaid : Prop := hnswNowRow.holds Try.pinned (OpenSpec.ofChange hnswNowSpec)

/-- ITS FALSE NEIGHBOUR: 'it returns false'. Refute it at one input. -/
def hnswNowWrong : ChangeSpec := { name := "hnswNow", fn := fun _ => fun
  | [d] => { results := [.lit (.bool false)], args := [d] }
  | _ => none }
def HnswNowWrongFalsely : Prop := hnswNowRow.holds Try.pinned (OpenSpec.ofChange hnswNowWrong)

/- THE SECOND FORM. 'bulk': how many values and letters a reading holds, each counted each time it is reached (what is shared counts as often as it is met; a slice's spare places count too). A statement '..UptoSaid' is the law's where the arguments, and the package variables that the reading takes, are together of bulk at most 1048576: NARROWER than '..Said'. Prove '..Said' where nothing that the law and all that it calls make is longer than what came in: it says more and counts as full. Else prove '..UptoSaid'. A law counts once. -/
mutual
def uptoBulk {H : Type} : DataW H → Nat
  | .lit (.string bytes) => bytes.length + 1
  | .lit _ => 1
  | .nil => 1
  | .ptr d => uptoBulk d + 1
  | .slice elems spare => uptoBulkAll elems + uptoBulkAll spare + 1
  | .agg parts => uptoBulkAll parts + 1
  | .iface _ d => uptoBulk d + 1
  | .map entries => uptoBulkEntries entries + 1
  | .held _ => 1
def uptoBulkAll {H : Type} : List (DataW H) → Nat
  | [] => 0
  | d :: r => uptoBulk d + uptoBulkAll r
def uptoBulkEntries {H : Type} : List (Lit × DataW H) → Nat
  | [] => 0
  | x :: r => uptoBulkEntry x + uptoBulkEntries r
def uptoBulkEntry {H : Type} : Lit × DataW H → Nat
  | (.string bytes, d) => bytes.length + uptoBulk d + 1
  | (_, d) => uptoBulk d + 1
 end
def uptoSmall : (H : Type) → List (DataW H) → Bool := fun _ ds => decide (uptoBulkAll ds ≤ 1048576)
def OpenSpec.upto (s : _root_.Go.ChangeSpec) : _root_.Go.OpenSpec := { _root_.Go.OpenSpec.ofChange s with cond := some uptoSmall }

/-- 'lodestarlaw11.LinksOwn', WHERE WHAT IT READS IS OF BULK AT MOST 1048576: true; the input reads as it did. -/
def linksOwnUptoRow : OpenClaim := { program := "ytofmlajanopniaa", sum := "5b0966d9a7c5e8dce6626b8f1b0ae9960cd94802a8f3d5baa64410c66db88d95", func := "lodestar/lodestarlaw11.LinksOwn", spec := "linksOwn", unfollowed := true, recurses := true, apart := false, narrowed := true }
def LinksOwnUptoSaid : Prop := linksOwnUptoRow.holds Try.pinned (OpenSpec.upto linksOwnSpec)

/-- 'lodestarlaw11.LinksFinds', WHERE WHAT IT READS IS OF BULK AT MOST 1048576: true; the input reads as it did. -/
def linksFindsUptoRow : OpenClaim := { program := "ytofmlajanopniaa", sum := "5b0966d9a7c5e8dce6626b8f1b0ae9960cd94802a8f3d5baa64410c66db88d95", func := "lodestar/lodestarlaw11.LinksFinds", spec := "linksFinds", unfollowed := true, recurses := true, apart := false, narrowed := true }
def LinksFindsUptoSaid : Prop := linksFindsUptoRow.holds Try.pinned (OpenSpec.upto linksFindsSpec)

/-- 'lodestarlaw11.LinksNear', WHERE WHAT IT READS IS OF BULK AT MOST 1048576: true; the input reads as it did. -/
def linksNearUptoRow : OpenClaim := { program := "ytofmlajanopniaa", sum := "5b0966d9a7c5e8dce6626b8f1b0ae9960cd94802a8f3d5baa64410c66db88d95", func := "lodestar/lodestarlaw11.LinksNear", spec := "linksNear", unfollowed := true, recurses := true, apart := false, narrowed := true }
def LinksNearUptoSaid : Prop := linksNearUptoRow.holds Try.pinned (OpenSpec.upto linksNearSpec)

/-- 'lodestarlaw11.LinksPlays', WHERE WHAT IT READS IS OF BULK AT MOST 1048576: true; the input reads as it did. -/
def linksPlaysUptoRow : OpenClaim := { program := "ytofmlajanopniaa", sum := "5b0966d9a7c5e8dce6626b8f1b0ae9960cd94802a8f3d5baa64410c66db88d95", func := "lodestar/lodestarlaw11.LinksPlays", spec := "linksPlays", unfollowed := true, recurses := true, apart := false, narrowed := true }
def LinksPlaysUptoSaid : Prop := linksPlaysUptoRow.holds Try.pinned (OpenSpec.upto linksPlaysSpec)

/-- 'lodestarlaw11.LinksRight', WHERE WHAT IT READS IS OF BULK AT MOST 1048576: true; the input reads as it did. -/
def linksRightUptoRow : OpenClaim := { program := "ytofmlajanopniaa", sum := "5b0966d9a7c5e8dce6626b8f1b0ae9960cd94802a8f3d5baa64410c66db88d95", func := "lodestar/lodestarlaw11.LinksRight", spec := "linksRight", unfollowed := true, recurses := true, apart := false, narrowed := true }
def LinksRightUptoSaid : Prop := linksRightUptoRow.holds Try.pinned (OpenSpec.upto linksRightSpec)

/-- 'lodestarlaw11.LinksBound', WHERE WHAT IT READS IS OF BULK AT MOST 1048576: true; the input reads as it did. -/
def linksBoundUptoRow : OpenClaim := { program := "ytofmlajanopniaa", sum := "5b0966d9a7c5e8dce6626b8f1b0ae9960cd94802a8f3d5baa64410c66db88d95", func := "lodestar/lodestarlaw11.LinksBound", spec := "linksBound", unfollowed := true, recurses := true, apart := false, narrowed := true }
def LinksBoundUptoSaid : Prop := linksBoundUptoRow.holds Try.pinned (OpenSpec.upto linksBoundSpec)

/-- 'lodestarlaw12.HnswNow', WHERE WHAT IT READS IS OF BULK AT MOST 1048576: true; the input reads as it did. -/
def hnswNowUptoRow : OpenClaim := { program := "ytofmlajanopniaa", sum := "5b0966d9a7c5e8dce6626b8f1b0ae9960cd94802a8f3d5baa64410c66db88d95", func := "lodestar/lodestarlaw12.HnswNow", spec := "hnswNow", unfollowed := true, recurses := true, apart := false, narrowed := true }
def HnswNowUptoSaid : Prop := hnswNowUptoRow.holds Try.pinned (OpenSpec.upto hnswNowSpec)

end Rows
end Go.Proofs.Ytofmlajanopniaa
