/-
  No cell of these rows narrows 'for every input' (looked for: loops, veiled, ifaces, maps, wideKeys, modest, calm, conditions, laid).
  DERIVED. THE GIVEN ROWS OF THIS SEAT. 20 by the template 'for every input the law returns true; each argument reads behind the call as it read before'; 0 by the template 'total and deterministic' (their statements: YtchiobhklbefjaaTotals.lean).
  GIVEN WITH THE SEED: the statements are not yours to turn. If you find one false, say at which input.
  Laid BY PROGRAM, IN A SANDBOX (cutbox-rows.mjs): the forced cells as the released guide's own fill.sh prints them over the translation 37fca34d87923f21… (all of the seat's roots in one cut). By AI agents, Wed Nov 11 2026. No macro, syntax, notation, axiom, sorry.
-/
import Derived.Test.YtchiobhklbefjaaChecked
import GoSem.Claim
import GoSem.ClaimJoined
import GoSem.ClaimMapViews
import Derived.JoinedTies
import Derived.KernelRfl
namespace Go.Proofs.Ytchiobhklbefjaa
/- THE CELL 'sum', in the pinned program and in every row, IS THE sha256 OF THE DUMP (.gsa) THAT YtchiobhklbefjaaProg.lean LOADS. Nothing in Lean hashes anything: it is a label: what it is worth is what the hold of that sum in a sandbox is worth. -/
noncomputable def Try.pinned : Pinned := { name := "ytchiobhklbefjaa", sum := "37fca34d87923f218a8c35a877ca854a2f73b1ccda98bd49228db1c3f187bed4", checked := Try.checked }
namespace Rows
def none {H : Type} : Left H := { results := [], args := [] }

/-- 'lodestarlaw02.TopkKeeps': WHATEVER THE INPUT: true; the input reads as it did. -/
def topkKeepsSpec : ChangeSpec := { name := "topkKeeps", fn := fun _ => fun
  | [d1, d2] => { results := [.lit (.bool true)], args := [d1, d2] }
  | _ => none }
def topkKeepsRow : OpenClaim := { program := "ytchiobhklbefjaa", sum := "37fca34d87923f218a8c35a877ca854a2f73b1ccda98bd49228db1c3f187bed4", func := "lodestar/lodestarlaw02.TopkKeeps", spec := "topkKeeps", unfollowed := true, recurses := true, apart := false }
def TopkKeepsSaid : Prop := topkKeepsRow.holds Try.pinned (OpenSpec.ofChange topkKeepsSpec)

/-- ITS FALSE NEIGHBOUR: 'it returns false'. Refute it at one input. -/
def topkKeepsWrong : ChangeSpec := { name := "topkKeeps", fn := fun _ => fun
  | [d1, d2] => { results := [.lit (.bool false)], args := [d1, d2] }
  | _ => none }
def TopkKeepsWrongFalsely : Prop := topkKeepsRow.holds Try.pinned (OpenSpec.ofChange topkKeepsWrong)

/-- 'lodestarlaw02.TopkOrder': WHATEVER THE INPUT: true; the input reads as it did. -/
def topkOrderSpec : ChangeSpec := { name := "topkOrder", fn := fun _ => fun
  | [d1, d2, d3] => { results := [.lit (.bool true)], args := [d1, d2, d3] }
  | _ => none }
def topkOrderRow : OpenClaim := { program := "ytchiobhklbefjaa", sum := "37fca34d87923f218a8c35a877ca854a2f73b1ccda98bd49228db1c3f187bed4", func := "lodestar/lodestarlaw02.TopkOrder", spec := "topkOrder", unfollowed := true, recurses := true, apart := false }
def TopkOrderSaid : Prop := topkOrderRow.holds Try.pinned (OpenSpec.ofChange topkOrderSpec)

/-- ITS FALSE NEIGHBOUR: 'it returns false'. Refute it at one input. -/
def topkOrderWrong : ChangeSpec := { name := "topkOrder", fn := fun _ => fun
  | [d1, d2, d3] => { results := [.lit (.bool false)], args := [d1, d2, d3] }
  | _ => none }
def TopkOrderWrongFalsely : Prop := topkOrderRow.holds Try.pinned (OpenSpec.ofChange topkOrderWrong)

/-- 'lodestarlaw02.TopkOwn': WHATEVER THE INPUT: true; the input reads as it did. -/
def topkOwnSpec : ChangeSpec := { name := "topkOwn", fn := fun _ => fun
  | [d] => { results := [.lit (.bool true)], args := [d] }
  | _ => none }
def topkOwnRow : OpenClaim := { program := "ytchiobhklbefjaa", sum := "37fca34d87923f218a8c35a877ca854a2f73b1ccda98bd49228db1c3f187bed4", func := "lodestar/lodestarlaw02.TopkOwn", spec := "topkOwn", unfollowed := true, recurses := true, apart := false }
def TopkOwnSaid : Prop := topkOwnRow.holds Try.pinned (OpenSpec.ofChange topkOwnSpec)

/-- ITS FALSE NEIGHBOUR: 'it returns false'. Refute it at one input. -/
def topkOwnWrong : ChangeSpec := { name := "topkOwn", fn := fun _ => fun
  | [d] => { results := [.lit (.bool false)], args := [d] }
  | _ => none }
def TopkOwnWrongFalsely : Prop := topkOwnRow.holds Try.pinned (OpenSpec.ofChange topkOwnWrong)

/-- 'lodestarlaw02.TopkFew': WHATEVER THE INPUT: true; the input reads as it did. -/
def topkFewSpec : ChangeSpec := { name := "topkFew", fn := fun _ => fun
  | [d1, d2] => { results := [.lit (.bool true)], args := [d1, d2] }
  | _ => none }
def topkFewRow : OpenClaim := { program := "ytchiobhklbefjaa", sum := "37fca34d87923f218a8c35a877ca854a2f73b1ccda98bd49228db1c3f187bed4", func := "lodestar/lodestarlaw02.TopkFew", spec := "topkFew", unfollowed := true, recurses := true, apart := false }
def TopkFewSaid : Prop := topkFewRow.holds Try.pinned (OpenSpec.ofChange topkFewSpec)

/-- ITS FALSE NEIGHBOUR: 'it returns false'. Refute it at one input. -/
def topkFewWrong : ChangeSpec := { name := "topkFew", fn := fun _ => fun
  | [d1, d2] => { results := [.lit (.bool false)], args := [d1, d2] }
  | _ => none }
def TopkFewWrongFalsely : Prop := topkFewRow.holds Try.pinned (OpenSpec.ofChange topkFewWrong)

/-- 'lodestarlaw02.TopkWorst': WHATEVER THE INPUT: true; the input reads as it did. -/
def topkWorstSpec : ChangeSpec := { name := "topkWorst", fn := fun _ => fun
  | [d1, d2] => { results := [.lit (.bool true)], args := [d1, d2] }
  | _ => none }
def topkWorstRow : OpenClaim := { program := "ytchiobhklbefjaa", sum := "37fca34d87923f218a8c35a877ca854a2f73b1ccda98bd49228db1c3f187bed4", func := "lodestar/lodestarlaw02.TopkWorst", spec := "topkWorst", unfollowed := true, recurses := true, apart := false }
def TopkWorstSaid : Prop := topkWorstRow.holds Try.pinned (OpenSpec.ofChange topkWorstSpec)

/-- ITS FALSE NEIGHBOUR: 'it returns false'. Refute it at one input. -/
def topkWorstWrong : ChangeSpec := { name := "topkWorst", fn := fun _ => fun
  | [d1, d2] => { results := [.lit (.bool false)], args := [d1, d2] }
  | _ => none }
def TopkWorstWrongFalsely : Prop := topkWorstRow.holds Try.pinned (OpenSpec.ofChange topkWorstWrong)

/-- 'lodestarlaw02.TopkMerges': WHATEVER THE INPUT: true; the input reads as it did. -/
def topkMergesSpec : ChangeSpec := { name := "topkMerges", fn := fun _ => fun
  | [d1, d2, d3] => { results := [.lit (.bool true)], args := [d1, d2, d3] }
  | _ => none }
def topkMergesRow : OpenClaim := { program := "ytchiobhklbefjaa", sum := "37fca34d87923f218a8c35a877ca854a2f73b1ccda98bd49228db1c3f187bed4", func := "lodestar/lodestarlaw02.TopkMerges", spec := "topkMerges", unfollowed := true, recurses := true, apart := false }
def TopkMergesSaid : Prop := topkMergesRow.holds Try.pinned (OpenSpec.ofChange topkMergesSpec)

/-- ITS FALSE NEIGHBOUR: 'it returns false'. Refute it at one input. -/
def topkMergesWrong : ChangeSpec := { name := "topkMerges", fn := fun _ => fun
  | [d1, d2, d3] => { results := [.lit (.bool false)], args := [d1, d2, d3] }
  | _ => none }
def TopkMergesWrongFalsely : Prop := topkMergesRow.holds Try.pinned (OpenSpec.ofChange topkMergesWrong)

/-- 'lodestarlaw02.TopkTwo': WHATEVER THE INPUT: true; the input reads as it did. -/
def topkTwoSpec : ChangeSpec := { name := "topkTwo", fn := fun _ => fun
  | [d1, d2, d3] => { results := [.lit (.bool true)], args := [d1, d2, d3] }
  | _ => none }
def topkTwoRow : OpenClaim := { program := "ytchiobhklbefjaa", sum := "37fca34d87923f218a8c35a877ca854a2f73b1ccda98bd49228db1c3f187bed4", func := "lodestar/lodestarlaw02.TopkTwo", spec := "topkTwo", unfollowed := true, recurses := true, apart := false }
def TopkTwoSaid : Prop := topkTwoRow.holds Try.pinned (OpenSpec.ofChange topkTwoSpec)

/-- ITS FALSE NEIGHBOUR: 'it returns false'. Refute it at one input. -/
def topkTwoWrong : ChangeSpec := { name := "topkTwo", fn := fun _ => fun
  | [d1, d2, d3] => { results := [.lit (.bool false)], args := [d1, d2, d3] }
  | _ => none }
def TopkTwoWrongFalsely : Prop := topkTwoRow.holds Try.pinned (OpenSpec.ofChange topkTwoWrong)

/-- 'lodestarlaw10.FlatFinds': WHATEVER THE INPUT: true; the input reads as it did. -/
def flatFindsSpec : ChangeSpec := { name := "flatFinds", fn := fun _ => fun
  | [d1, d2, d3, d4, d5, d6] => { results := [.lit (.bool true)], args := [d1, d2, d3, d4, d5, d6] }
  | _ => none }
def flatFindsRow : OpenClaim := { program := "ytchiobhklbefjaa", sum := "37fca34d87923f218a8c35a877ca854a2f73b1ccda98bd49228db1c3f187bed4", func := "lodestar/lodestarlaw10.FlatFinds", spec := "flatFinds", unfollowed := true, recurses := true, apart := false }
def FlatFindsSaid : Prop := flatFindsRow.holds Try.pinned (OpenSpec.ofChange flatFindsSpec)

/-- ITS FALSE NEIGHBOUR: 'it returns false'. Refute it at one input. -/
def flatFindsWrong : ChangeSpec := { name := "flatFinds", fn := fun _ => fun
  | [d1, d2, d3, d4, d5, d6] => { results := [.lit (.bool false)], args := [d1, d2, d3, d4, d5, d6] }
  | _ => none }
def FlatFindsWrongFalsely : Prop := flatFindsRow.holds Try.pinned (OpenSpec.ofChange flatFindsWrong)

/-- 'lodestarlaw10.FlatPages': WHATEVER THE INPUT: true; the input reads as it did. -/
def flatPagesSpec : ChangeSpec := { name := "flatPages", fn := fun _ => fun
  | [d1, d2, d3, d4, d5] => { results := [.lit (.bool true)], args := [d1, d2, d3, d4, d5] }
  | _ => none }
def flatPagesRow : OpenClaim := { program := "ytchiobhklbefjaa", sum := "37fca34d87923f218a8c35a877ca854a2f73b1ccda98bd49228db1c3f187bed4", func := "lodestar/lodestarlaw10.FlatPages", spec := "flatPages", unfollowed := true, recurses := true, apart := false }
def FlatPagesSaid : Prop := flatPagesRow.holds Try.pinned (OpenSpec.ofChange flatPagesSpec)

/-- ITS FALSE NEIGHBOUR: 'it returns false'. Refute it at one input. -/
def flatPagesWrong : ChangeSpec := { name := "flatPages", fn := fun _ => fun
  | [d1, d2, d3, d4, d5] => { results := [.lit (.bool false)], args := [d1, d2, d3, d4, d5] }
  | _ => none }
def FlatPagesWrongFalsely : Prop := flatPagesRow.holds Try.pinned (OpenSpec.ofChange flatPagesWrong)

/-- 'lodestarlaw10.FlatOrder': WHATEVER THE INPUT: true; the input reads as it did. -/
def flatOrderSpec : ChangeSpec := { name := "flatOrder", fn := fun _ => fun
  | [d1, d2, d3, d4, d5] => { results := [.lit (.bool true)], args := [d1, d2, d3, d4, d5] }
  | _ => none }
def flatOrderRow : OpenClaim := { program := "ytchiobhklbefjaa", sum := "37fca34d87923f218a8c35a877ca854a2f73b1ccda98bd49228db1c3f187bed4", func := "lodestar/lodestarlaw10.FlatOrder", spec := "flatOrder", unfollowed := true, recurses := true, apart := false }
def FlatOrderSaid : Prop := flatOrderRow.holds Try.pinned (OpenSpec.ofChange flatOrderSpec)

/-- ITS FALSE NEIGHBOUR: 'it returns false'. Refute it at one input. -/
def flatOrderWrong : ChangeSpec := { name := "flatOrder", fn := fun _ => fun
  | [d1, d2, d3, d4, d5] => { results := [.lit (.bool false)], args := [d1, d2, d3, d4, d5] }
  | _ => none }
def FlatOrderWrongFalsely : Prop := flatOrderRow.holds Try.pinned (OpenSpec.ofChange flatOrderWrong)

/-- 'lodestarlaw10.FlatTags': WHATEVER THE INPUT: true; the input reads as it did. -/
def flatTagsSpec : ChangeSpec := { name := "flatTags", fn := fun _ => fun
  | [d1, d2, d3, d4] => { results := [.lit (.bool true)], args := [d1, d2, d3, d4] }
  | _ => none }
def flatTagsRow : OpenClaim := { program := "ytchiobhklbefjaa", sum := "37fca34d87923f218a8c35a877ca854a2f73b1ccda98bd49228db1c3f187bed4", func := "lodestar/lodestarlaw10.FlatTags", spec := "flatTags", unfollowed := true, recurses := true, apart := false }
def FlatTagsSaid : Prop := flatTagsRow.holds Try.pinned (OpenSpec.ofChange flatTagsSpec)

/-- ITS FALSE NEIGHBOUR: 'it returns false'. Refute it at one input. -/
def flatTagsWrong : ChangeSpec := { name := "flatTags", fn := fun _ => fun
  | [d1, d2, d3, d4] => { results := [.lit (.bool false)], args := [d1, d2, d3, d4] }
  | _ => none }
def FlatTagsWrongFalsely : Prop := flatTagsRow.holds Try.pinned (OpenSpec.ofChange flatTagsWrong)

/-- 'lodestarlaw10.FlatOwn': WHATEVER THE INPUT: true; the input reads as it did. -/
def flatOwnSpec : ChangeSpec := { name := "flatOwn", fn := fun _ => fun
  | [d1, d2, d3, d4, d5] => { results := [.lit (.bool true)], args := [d1, d2, d3, d4, d5] }
  | _ => none }
def flatOwnRow : OpenClaim := { program := "ytchiobhklbefjaa", sum := "37fca34d87923f218a8c35a877ca854a2f73b1ccda98bd49228db1c3f187bed4", func := "lodestar/lodestarlaw10.FlatOwn", spec := "flatOwn", unfollowed := true, recurses := true, apart := false }
def FlatOwnSaid : Prop := flatOwnRow.holds Try.pinned (OpenSpec.ofChange flatOwnSpec)

/-- ITS FALSE NEIGHBOUR: 'it returns false'. Refute it at one input. -/
def flatOwnWrong : ChangeSpec := { name := "flatOwn", fn := fun _ => fun
  | [d1, d2, d3, d4, d5] => { results := [.lit (.bool false)], args := [d1, d2, d3, d4, d5] }
  | _ => none }
def FlatOwnWrongFalsely : Prop := flatOwnRow.holds Try.pinned (OpenSpec.ofChange flatOwnWrong)

/-- 'lodestarlaw10.FlatMore': WHATEVER THE INPUT: true; the input reads as it did. -/
def flatMoreSpec : ChangeSpec := { name := "flatMore", fn := fun _ => fun
  | [d1, d2, d3, d4, d5] => { results := [.lit (.bool true)], args := [d1, d2, d3, d4, d5] }
  | _ => none }
def flatMoreRow : OpenClaim := { program := "ytchiobhklbefjaa", sum := "37fca34d87923f218a8c35a877ca854a2f73b1ccda98bd49228db1c3f187bed4", func := "lodestar/lodestarlaw10.FlatMore", spec := "flatMore", unfollowed := true, recurses := true, apart := false }
def FlatMoreSaid : Prop := flatMoreRow.holds Try.pinned (OpenSpec.ofChange flatMoreSpec)

/-- ITS FALSE NEIGHBOUR: 'it returns false'. Refute it at one input. -/
def flatMoreWrong : ChangeSpec := { name := "flatMore", fn := fun _ => fun
  | [d1, d2, d3, d4, d5] => { results := [.lit (.bool false)], args := [d1, d2, d3, d4, d5] }
  | _ => none }
def FlatMoreWrongFalsely : Prop := flatMoreRow.holds Try.pinned (OpenSpec.ofChange flatMoreWrong)

/-- 'lodestarlaw11.LinksOwn': WHATEVER THE INPUT: true; the input reads as it did. -/
def linksOwnSpec : ChangeSpec := { name := "linksOwn", fn := fun _ => fun
  | [d1, d2] => { results := [.lit (.bool true)], args := [d1, d2] }
  | _ => none }
def linksOwnRow : OpenClaim := { program := "ytchiobhklbefjaa", sum := "37fca34d87923f218a8c35a877ca854a2f73b1ccda98bd49228db1c3f187bed4", func := "lodestar/lodestarlaw11.LinksOwn", spec := "linksOwn", unfollowed := true, recurses := true, apart := false }
def LinksOwnSaid : Prop := linksOwnRow.holds Try.pinned (OpenSpec.ofChange linksOwnSpec)

/-- ITS FALSE NEIGHBOUR: 'it returns false'. Refute it at one input. -/
def linksOwnWrong : ChangeSpec := { name := "linksOwn", fn := fun _ => fun
  | [d1, d2] => { results := [.lit (.bool false)], args := [d1, d2] }
  | _ => none }
def LinksOwnWrongFalsely : Prop := linksOwnRow.holds Try.pinned (OpenSpec.ofChange linksOwnWrong)

/-- 'lodestarlaw11.LinksFinds': WHATEVER THE INPUT: true; the input reads as it did. -/
def linksFindsSpec : ChangeSpec := { name := "linksFinds", fn := fun _ => fun
  | [d1, d2, d3, d4] => { results := [.lit (.bool true)], args := [d1, d2, d3, d4] }
  | _ => none }
def linksFindsRow : OpenClaim := { program := "ytchiobhklbefjaa", sum := "37fca34d87923f218a8c35a877ca854a2f73b1ccda98bd49228db1c3f187bed4", func := "lodestar/lodestarlaw11.LinksFinds", spec := "linksFinds", unfollowed := true, recurses := true, apart := false }
def LinksFindsSaid : Prop := linksFindsRow.holds Try.pinned (OpenSpec.ofChange linksFindsSpec)

/-- ITS FALSE NEIGHBOUR: 'it returns false'. Refute it at one input. -/
def linksFindsWrong : ChangeSpec := { name := "linksFinds", fn := fun _ => fun
  | [d1, d2, d3, d4] => { results := [.lit (.bool false)], args := [d1, d2, d3, d4] }
  | _ => none }
def LinksFindsWrongFalsely : Prop := linksFindsRow.holds Try.pinned (OpenSpec.ofChange linksFindsWrong)

/-- 'lodestarlaw11.LinksNear': WHATEVER THE INPUT: true; the input reads as it did. -/
def linksNearSpec : ChangeSpec := { name := "linksNear", fn := fun _ => fun
  | [d1, d2, d3, d4] => { results := [.lit (.bool true)], args := [d1, d2, d3, d4] }
  | _ => none }
def linksNearRow : OpenClaim := { program := "ytchiobhklbefjaa", sum := "37fca34d87923f218a8c35a877ca854a2f73b1ccda98bd49228db1c3f187bed4", func := "lodestar/lodestarlaw11.LinksNear", spec := "linksNear", unfollowed := true, recurses := true, apart := false }
def LinksNearSaid : Prop := linksNearRow.holds Try.pinned (OpenSpec.ofChange linksNearSpec)

/-- ITS FALSE NEIGHBOUR: 'it returns false'. Refute it at one input. -/
def linksNearWrong : ChangeSpec := { name := "linksNear", fn := fun _ => fun
  | [d1, d2, d3, d4] => { results := [.lit (.bool false)], args := [d1, d2, d3, d4] }
  | _ => none }
def LinksNearWrongFalsely : Prop := linksNearRow.holds Try.pinned (OpenSpec.ofChange linksNearWrong)

/-- 'lodestarlaw11.LinksPlays': WHATEVER THE INPUT: true; the input reads as it did. -/
def linksPlaysSpec : ChangeSpec := { name := "linksPlays", fn := fun _ => fun
  | [d1, d2] => { results := [.lit (.bool true)], args := [d1, d2] }
  | _ => none }
def linksPlaysRow : OpenClaim := { program := "ytchiobhklbefjaa", sum := "37fca34d87923f218a8c35a877ca854a2f73b1ccda98bd49228db1c3f187bed4", func := "lodestar/lodestarlaw11.LinksPlays", spec := "linksPlays", unfollowed := true, recurses := true, apart := false }
def LinksPlaysSaid : Prop := linksPlaysRow.holds Try.pinned (OpenSpec.ofChange linksPlaysSpec)

/-- ITS FALSE NEIGHBOUR: 'it returns false'. Refute it at one input. -/
def linksPlaysWrong : ChangeSpec := { name := "linksPlays", fn := fun _ => fun
  | [d1, d2] => { results := [.lit (.bool false)], args := [d1, d2] }
  | _ => none }
def LinksPlaysWrongFalsely : Prop := linksPlaysRow.holds Try.pinned (OpenSpec.ofChange linksPlaysWrong)

/-- 'lodestarlaw11.LinksRight': WHATEVER THE INPUT: true; the input reads as it did. -/
def linksRightSpec : ChangeSpec := { name := "linksRight", fn := fun _ => fun
  | [d1, d2] => { results := [.lit (.bool true)], args := [d1, d2] }
  | _ => none }
def linksRightRow : OpenClaim := { program := "ytchiobhklbefjaa", sum := "37fca34d87923f218a8c35a877ca854a2f73b1ccda98bd49228db1c3f187bed4", func := "lodestar/lodestarlaw11.LinksRight", spec := "linksRight", unfollowed := true, recurses := true, apart := false }
def LinksRightSaid : Prop := linksRightRow.holds Try.pinned (OpenSpec.ofChange linksRightSpec)

/-- ITS FALSE NEIGHBOUR: 'it returns false'. Refute it at one input. -/
def linksRightWrong : ChangeSpec := { name := "linksRight", fn := fun _ => fun
  | [d1, d2] => { results := [.lit (.bool false)], args := [d1, d2] }
  | _ => none }
def LinksRightWrongFalsely : Prop := linksRightRow.holds Try.pinned (OpenSpec.ofChange linksRightWrong)

/-- 'lodestarlaw11.LinksBound': WHATEVER THE INPUT: true; the input reads as it did. -/
def linksBoundSpec : ChangeSpec := { name := "linksBound", fn := fun _ => fun
  | [d1, d2, d3, d4, d5, d6] => { results := [.lit (.bool true)], args := [d1, d2, d3, d4, d5, d6] }
  | _ => none }
def linksBoundRow : OpenClaim := { program := "ytchiobhklbefjaa", sum := "37fca34d87923f218a8c35a877ca854a2f73b1ccda98bd49228db1c3f187bed4", func := "lodestar/lodestarlaw11.LinksBound", spec := "linksBound", unfollowed := true, recurses := true, apart := false }
def LinksBoundSaid : Prop := linksBoundRow.holds Try.pinned (OpenSpec.ofChange linksBoundSpec)

/-- ITS FALSE NEIGHBOUR: 'it returns false'. Refute it at one input. -/
def linksBoundWrong : ChangeSpec := { name := "linksBound", fn := fun _ => fun
  | [d1, d2, d3, d4, d5, d6] => { results := [.lit (.bool false)], args := [d1, d2, d3, d4, d5, d6] }
  | _ => none }
def LinksBoundWrongFalsely : Prop := linksBoundRow.holds Try.pinned (OpenSpec.ofChange linksBoundWrong)

/-- 'lodestarlaw12.HnswNow': WHATEVER THE INPUT: true; the input reads as it did. -/
def hnswNowSpec : ChangeSpec := { name := "hnswNow", fn := fun _ => fun
  | [d] => { results := [.lit (.bool true)], args := [d] }
  | _ => none }
def hnswNowRow : OpenClaim := { program := "ytchiobhklbefjaa", sum := "37fca34d87923f218a8c35a877ca854a2f73b1ccda98bd49228db1c3f187bed4", func := "lodestar/lodestarlaw12.HnswNow", spec := "hnswNow", unfollowed := true, recurses := true, apart := false }
def HnswNowSaid : Prop := hnswNowRow.holds Try.pinned (OpenSpec.ofChange hnswNowSpec)

/-- ITS FALSE NEIGHBOUR: 'it returns false'. Refute it at one input. -/
def hnswNowWrong : ChangeSpec := { name := "hnswNow", fn := fun _ => fun
  | [d] => { results := [.lit (.bool false)], args := [d] }
  | _ => none }
def HnswNowWrongFalsely : Prop := hnswNowRow.holds Try.pinned (OpenSpec.ofChange hnswNowWrong)

/- THE SECOND FORM. 'bulk': how many values and letters a reading holds, each counted each time it is reached (what is shared counts as often as it is met; a slice's spare places count too). A statement '..UptoSaid' is the law's where the arguments, and the package variables that the reading takes, are together of bulk at most 1048576: NARROWER than '..Said'. Prove '..Said' where nothing that the law and all that it calls make is longer than what came in: it says more and counts as full. Else prove '..UptoSaid'. A law counts once. -/
mutual
def uptoBulk {H : Type} : DataW H → Nat
  | .lit (.string bytes) => bytes.length + 1
  | .lit _ => 1
  | .nil => 1
  | .ptr d => uptoBulk d + 1
  | .slice elems spare => uptoBulkAll elems + uptoBulkAll spare + 1
  | .agg parts => uptoBulkAll parts + 1
  | .iface _ d => uptoBulk d + 1
  | .map entries => uptoBulkEntries entries + 1
  | .held _ => 1
def uptoBulkAll {H : Type} : List (DataW H) → Nat
  | [] => 0
  | d :: r => uptoBulk d + uptoBulkAll r
def uptoBulkEntries {H : Type} : List (Lit × DataW H) → Nat
  | [] => 0
  | x :: r => uptoBulkEntry x + uptoBulkEntries r
def uptoBulkEntry {H : Type} : Lit × DataW H → Nat
  | (.string bytes, d) => bytes.length + uptoBulk d + 1
  | (_, d) => uptoBulk d + 1
 end
def uptoSmall : (H : Type) → List (DataW H) → Bool := fun _ ds => decide (uptoBulkAll ds ≤ 1048576)
def OpenSpec.upto (s : _root_.Go.ChangeSpec) : _root_.Go.OpenSpec := { _root_.Go.OpenSpec.ofChange s with cond := some uptoSmall }

/-- 'lodestarlaw02.TopkKeeps', WHERE WHAT IT READS IS OF BULK AT MOST 1048576: true; the input reads as it did. -/
def topkKeepsUptoRow : OpenClaim := { program := "ytchiobhklbefjaa", sum := "37fca34d87923f218a8c35a877ca854a2f73b1ccda98bd49228db1c3f187bed4", func := "lodestar/lodestarlaw02.TopkKeeps", spec := "topkKeeps", unfollowed := true, recurses := true, apart := false, narrowed := true }
def TopkKeepsUptoSaid : Prop := topkKeepsUptoRow.holds Try.pinned (OpenSpec.upto topkKeepsSpec)

/-- 'lodestarlaw02.TopkOrder', WHERE WHAT IT READS IS OF BULK AT MOST 1048576: true; the input reads as it did. -/
def topkOrderUptoRow : OpenClaim := { program := "ytchiobhklbefjaa", sum := "37fca34d87923f218a8c35a877ca854a2f73b1ccda98bd49228db1c3f187bed4", func := "lodestar/lodestarlaw02.TopkOrder", spec := "topkOrder", unfollowed := true, recurses := true, apart := false, narrowed := true }
def TopkOrderUptoSaid : Prop := topkOrderUptoRow.holds Try.pinned (OpenSpec.upto topkOrderSpec)

/-- 'lodestarlaw02.TopkOwn', WHERE WHAT IT READS IS OF BULK AT MOST 1048576: true; the input reads as it did. -/
def topkOwnUptoRow : OpenClaim := { program := "ytchiobhklbefjaa", sum := "37fca34d87923f218a8c35a877ca854a2f73b1ccda98bd49228db1c3f187bed4", func := "lodestar/lodestarlaw02.TopkOwn", spec := "topkOwn", unfollowed := true, recurses := true, apart := false, narrowed := true }
def TopkOwnUptoSaid : Prop := topkOwnUptoRow.holds Try.pinned (OpenSpec.upto topkOwnSpec)

/-- 'lodestarlaw02.TopkFew', WHERE WHAT IT READS IS OF BULK AT MOST 1048576: true; the input reads as it did. -/
def topkFewUptoRow : OpenClaim := { program := "ytchiobhklbefjaa", sum := "37fca34d87923f218a8c35a877ca854a2f73b1ccda98bd49228db1c3f187bed4", func := "lodestar/lodestarlaw02.TopkFew", spec := "topkFew", unfollowed := true, recurses := true, apart := false, narrowed := true }
def TopkFewUptoSaid : Prop := topkFewUptoRow.holds Try.pinned (OpenSpec.upto topkFewSpec)

/-- 'lodestarlaw02.TopkWorst', WHERE WHAT IT READS IS OF BULK AT MOST 1048576: true; the input reads as it did. -/
def topkWorstUptoRow : OpenClaim := { program := "ytchiobhklbefjaa", sum := "37fca34d87923f218a8c35a877ca854a2f73b1ccda98bd49228db1c3f187bed4", func := "lodestar/lodestarlaw02.TopkWorst", spec := "topkWorst", unfollowed := true, recurses := true, apart := false, narrowed := true }
def TopkWorstUptoSaid : Prop := topkWorstUptoRow.holds Try.pinned (OpenSpec.upto topkWorstSpec)

/-- 'lodestarlaw02.TopkMerges', WHERE WHAT IT READS IS OF BULK AT MOST 1048576: true; the input reads as it did. -/
def topkMergesUptoRow : OpenClaim := { program := "ytchiobhklbefjaa", sum := "37fca34d87923f218a8c35a877ca854a2f73b1ccda98bd49228db1c3f187bed4", func := "lodestar/lodestarlaw02.TopkMerges", spec := "topkMerges", unfollowed := true, recurses := true, apart := false, narrowed := true }
def TopkMergesUptoSaid : Prop := topkMergesUptoRow.holds Try.pinned (OpenSpec.upto topkMergesSpec)

/-- 'lodestarlaw02.TopkTwo', WHERE WHAT IT READS IS OF BULK AT MOST 1048576: true; the input reads as it did. -/
def topkTwoUptoRow : OpenClaim := { program := "ytchiobhklbefjaa", sum := "37fca34d87923f218a8c35a877ca854a2f73b1ccda98bd49228db1c3f187bed4", func := "lodestar/lodestarlaw02.TopkTwo", spec := "topkTwo", unfollowed := true, recurses := true, apart := false, narrowed := true }
def TopkTwoUptoSaid : Prop := topkTwoUptoRow.holds Try.pinned (OpenSpec.upto topkTwoSpec)

/-- 'lodestarlaw10.FlatFinds', WHERE WHAT IT READS IS OF BULK AT MOST 1048576: true; the input reads as it did. -/
def flatFindsUptoRow : OpenClaim := { program := "ytchiobhklbefjaa", sum := "37fca34d87923f218a8c35a877ca854a2f73b1ccda98bd49228db1c3f187bed4", func := "lodestar/lodestarlaw10.FlatFinds", spec := "flatFinds", unfollowed := true, recurses := true, apart := false, narrowed := true }
def FlatFindsUptoSaid : Prop := flatFindsUptoRow.holds Try.pinned (OpenSpec.upto flatFindsSpec)

/-- 'lodestarlaw10.FlatPages', WHERE WHAT IT READS IS OF BULK AT MOST 1048576: true; the input reads as it did. -/
def flatPagesUptoRow : OpenClaim := { program := "ytchiobhklbefjaa", sum := "37fca34d87923f218a8c35a877ca854a2f73b1ccda98bd49228db1c3f187bed4", func := "lodestar/lodestarlaw10.FlatPages", spec := "flatPages", unfollowed := true, recurses := true, apart := false, narrowed := true }
def FlatPagesUptoSaid : Prop := flatPagesUptoRow.holds Try.pinned (OpenSpec.upto flatPagesSpec)

/-- 'lodestarlaw10.FlatOrder', WHERE WHAT IT READS IS OF BULK AT MOST 1048576: true; the input reads as it did. -/
def flatOrderUptoRow : OpenClaim := { program := "ytchiobhklbefjaa", sum := "37fca34d87923f218a8c35a877ca854a2f73b1ccda98bd49228db1c3f187bed4", func := "lodestar/lodestarlaw10.FlatOrder", spec := "flatOrder", unfollowed := true, recurses := true, apart := false, narrowed := true }
def FlatOrderUptoSaid : Prop := flatOrderUptoRow.holds Try.pinned (OpenSpec.upto flatOrderSpec)

/-- 'lodestarlaw10.FlatTags', WHERE WHAT IT READS IS OF BULK AT MOST 1048576: true; the input reads as it did. -/
def flatTagsUptoRow : OpenClaim := { program := "ytchiobhklbefjaa", sum := "37fca34d87923f218a8c35a877ca854a2f73b1ccda98bd49228db1c3f187bed4", func := "lodestar/lodestarlaw10.FlatTags", spec := "flatTags", unfollowed := true, recurses := true, apart := false, narrowed := true }
def FlatTagsUptoSaid : Prop := flatTagsUptoRow.holds Try.pinned (OpenSpec.upto flatTagsSpec)

/-- 'lodestarlaw10.FlatOwn', WHERE WHAT IT READS IS OF BULK AT MOST 1048576: true; the input reads as it did. -/
def flatOwnUptoRow : OpenClaim := { program := "ytchiobhklbefjaa", sum := "37fca34d87923f218a8c35a877ca854a2f73b1ccda98bd49228db1c3f187bed4", func := "lodestar/lodestarlaw10.FlatOwn", spec := "flatOwn", unfollowed := true, recurses := true, apart := false, narrowed := true }
def FlatOwnUptoSaid : Prop := flatOwnUptoRow.holds Try.pinned (OpenSpec.upto flatOwnSpec)

/-- 'lodestarlaw10.FlatMore', WHERE WHAT IT READS IS OF BULK AT MOST 1048576: true; the input reads as it did. -/
def flatMoreUptoRow : OpenClaim := { program := "ytchiobhklbefjaa", sum := "37fca34d87923f218a8c35a877ca854a2f73b1ccda98bd49228db1c3f187bed4", func := "lodestar/lodestarlaw10.FlatMore", spec := "flatMore", unfollowed := true, recurses := true, apart := false, narrowed := true }
def FlatMoreUptoSaid : Prop := flatMoreUptoRow.holds Try.pinned (OpenSpec.upto flatMoreSpec)

/-- 'lodestarlaw11.LinksOwn', WHERE WHAT IT READS IS OF BULK AT MOST 1048576: true; the input reads as it did. -/
def linksOwnUptoRow : OpenClaim := { program := "ytchiobhklbefjaa", sum := "37fca34d87923f218a8c35a877ca854a2f73b1ccda98bd49228db1c3f187bed4", func := "lodestar/lodestarlaw11.LinksOwn", spec := "linksOwn", unfollowed := true, recurses := true, apart := false, narrowed := true }
def LinksOwnUptoSaid : Prop := linksOwnUptoRow.holds Try.pinned (OpenSpec.upto linksOwnSpec)

/-- 'lodestarlaw11.LinksFinds', WHERE WHAT IT READS IS OF BULK AT MOST 1048576: true; the input reads as it did. -/
def linksFindsUptoRow : OpenClaim := { program := "ytchiobhklbefjaa", sum := "37fca34d87923f218a8c35a877ca854a2f73b1ccda98bd49228db1c3f187bed4", func := "lodestar/lodestarlaw11.LinksFinds", spec := "linksFinds", unfollowed := true, recurses := true, apart := false, narrowed := true }
def LinksFindsUptoSaid : Prop := linksFindsUptoRow.holds Try.pinned (OpenSpec.upto linksFindsSpec)

/-- 'lodestarlaw11.LinksNear', WHERE WHAT IT READS IS OF BULK AT MOST 1048576: true; the input reads as it did. -/
def linksNearUptoRow : OpenClaim := { program := "ytchiobhklbefjaa", sum := "37fca34d87923f218a8c35a877ca854a2f73b1ccda98bd49228db1c3f187bed4", func := "lodestar/lodestarlaw11.LinksNear", spec := "linksNear", unfollowed := true, recurses := true, apart := false, narrowed := true }
def LinksNearUptoSaid : Prop := linksNearUptoRow.holds Try.pinned (OpenSpec.upto linksNearSpec)

/-- 'lodestarlaw11.LinksPlays', WHERE WHAT IT READS IS OF BULK AT MOST 1048576: true; the input reads as it did. -/
def linksPlaysUptoRow : OpenClaim := { program := "ytchiobhklbefjaa", sum := "37fca34d87923f218a8c35a877ca854a2f73b1ccda98bd49228db1c3f187bed4", func := "lodestar/lodestarlaw11.LinksPlays", spec := "linksPlays", unfollowed := true, recurses := true, apart := false, narrowed := true }
def LinksPlaysUptoSaid : Prop := linksPlaysUptoRow.holds Try.pinned (OpenSpec.upto linksPlaysSpec)

/-- 'lodestarlaw11.LinksRight', WHERE WHAT IT READS IS OF BULK AT MOST 1048576: true; the input reads as it did. -/
def linksRightUptoRow : OpenClaim := { program := "ytchiobhklbefjaa", sum := "37fca34d87923f218a8c35a877ca854a2f73b1ccda98bd49228db1c3f187bed4", func := "lodestar/lodestarlaw11.LinksRight", spec := "linksRight", unfollowed := true, recurses := true, apart := false, narrowed := true }
def LinksRightUptoSaid : Prop := linksRightUptoRow.holds Try.pinned (OpenSpec.upto linksRightSpec)

/-- 'lodestarlaw11.LinksBound', WHERE WHAT IT READS IS OF BULK AT MOST 1048576: true; the input reads as it did. -/
def linksBoundUptoRow : OpenClaim := { program := "ytchiobhklbefjaa", sum := "37fca34d87923f218a8c35a877ca854a2f73b1ccda98bd49228db1c3f187bed4", func := "lodestar/lodestarlaw11.LinksBound", spec := "linksBound", unfollowed := true, recurses := true, apart := false, narrowed := true }
def LinksBoundUptoSaid : Prop := linksBoundUptoRow.holds Try.pinned (OpenSpec.upto linksBoundSpec)

/-- 'lodestarlaw12.HnswNow', WHERE WHAT IT READS IS OF BULK AT MOST 1048576: true; the input reads as it did. -/
def hnswNowUptoRow : OpenClaim := { program := "ytchiobhklbefjaa", sum := "37fca34d87923f218a8c35a877ca854a2f73b1ccda98bd49228db1c3f187bed4", func := "lodestar/lodestarlaw12.HnswNow", spec := "hnswNow", unfollowed := true, recurses := true, apart := false, narrowed := true }
def HnswNowUptoSaid : Prop := hnswNowUptoRow.holds Try.pinned (OpenSpec.upto hnswNowSpec)

end Rows
end Go.Proofs.Ytchiobhklbefjaa
