/-
  No cell of these rows narrows 'for every input' (looked for: loops, veiled, ifaces, maps, wideKeys, modest, calm, conditions, laid).
  DERIVED. THE GIVEN ROWS OF THIS SEAT. 10 by the template 'for every input the law returns true; each argument reads behind the call as it read before'; 0 by the template 'total and deterministic' (their statements: YtjbakaplcjkniaaTotals.lean).
  GIVEN WITH THE SEED: the statements are not yours to turn. If you find one false, say at which input.
  Laid BY PROGRAM, IN A SANDBOX (cutbox-rows.mjs): the forced cells as the released guide's own fill.sh prints them over the translation d7fe761a32f33696… (all of the seat's roots in one cut). By AI agents, Wed Nov 11 2026. No macro, syntax, notation, axiom, sorry.
-/
import Derived.Test.YtjbakaplcjkniaaChecked
import GoSem.Claim
import GoSem.ClaimJoined
import GoSem.ClaimMapViews
import Derived.JoinedTies
import Derived.KernelRfl
namespace Go.Proofs.Ytjbakaplcjkniaa
/- THE CELL 'sum', in the pinned program and in every row, IS THE sha256 OF THE DUMP (.gsa) THAT YtjbakaplcjkniaaProg.lean LOADS. Nothing in Lean hashes anything: it is a label: what it is worth is what the hold of that sum in a sandbox is worth. -/
noncomputable def Try.pinned : Pinned := { name := "ytjbakaplcjkniaa", sum := "d7fe761a32f336969bb8ea5fb50fc3fed39d185c3ce7077e404bacd70085cf6a", checked := Try.checked }
namespace Rows
def none {H : Type} : Left H := { results := [], args := [] }

/-- 'lodestarlaw22.PipeOrder': WHATEVER THE INPUT: true; the input reads as it did. -/
def pipeOrderSpec : ChangeSpec := { name := "pipeOrder", fn := fun _ => fun
  | [d] => { results := [.lit (.bool true)], args := [d] }
  | _ => none }
def pipeOrderRow : OpenClaim := { program := "ytjbakaplcjkniaa", sum := "d7fe761a32f336969bb8ea5fb50fc3fed39d185c3ce7077e404bacd70085cf6a", func := "lodestar/lodestarlaw22.PipeOrder", spec := "pipeOrder", apart := false }
def PipeOrderSaid : Prop := pipeOrderRow.holds Try.pinned (OpenSpec.ofChange pipeOrderSpec)

/-- ITS FALSE NEIGHBOUR: 'it returns false'. Refute it at one input. -/
def pipeOrderWrong : ChangeSpec := { name := "pipeOrder", fn := fun _ => fun
  | [d] => { results := [.lit (.bool false)], args := [d] }
  | _ => none }
def PipeOrderWrongFalsely : Prop := pipeOrderRow.holds Try.pinned (OpenSpec.ofChange pipeOrderWrong)

/-- 'lodestarlaw22.PipeLate': WHATEVER THE INPUT: true; the input reads as it did. -/
def pipeLateSpec : ChangeSpec := { name := "pipeLate", fn := fun _ => fun
  | [d1, d2, d3, d4, d5] => { results := [.lit (.bool true)], args := [d1, d2, d3, d4, d5] }
  | _ => none }
def pipeLateRow : OpenClaim := { program := "ytjbakaplcjkniaa", sum := "d7fe761a32f336969bb8ea5fb50fc3fed39d185c3ce7077e404bacd70085cf6a", func := "lodestar/lodestarlaw22.PipeLate", spec := "pipeLate", apart := false }
def PipeLateSaid : Prop := pipeLateRow.holds Try.pinned (OpenSpec.ofChange pipeLateSpec)

/-- ITS FALSE NEIGHBOUR: 'it returns false'. Refute it at one input. -/
def pipeLateWrong : ChangeSpec := { name := "pipeLate", fn := fun _ => fun
  | [d1, d2, d3, d4, d5] => { results := [.lit (.bool false)], args := [d1, d2, d3, d4, d5] }
  | _ => none }
def PipeLateWrongFalsely : Prop := pipeLateRow.holds Try.pinned (OpenSpec.ofChange pipeLateWrong)

/-- 'lodestarlaw22.PipePlays': WHATEVER THE INPUT: true; the input reads as it did. -/
def pipePlaysSpec : ChangeSpec := { name := "pipePlays", fn := fun _ => fun
  | [d1, d2] => { results := [.lit (.bool true)], args := [d1, d2] }
  | _ => none }
def pipePlaysRow : OpenClaim := { program := "ytjbakaplcjkniaa", sum := "d7fe761a32f336969bb8ea5fb50fc3fed39d185c3ce7077e404bacd70085cf6a", func := "lodestar/lodestarlaw22.PipePlays", spec := "pipePlays", apart := false }
def PipePlaysSaid : Prop := pipePlaysRow.holds Try.pinned (OpenSpec.ofChange pipePlaysSpec)

/-- ITS FALSE NEIGHBOUR: 'it returns false'. Refute it at one input. -/
def pipePlaysWrong : ChangeSpec := { name := "pipePlays", fn := fun _ => fun
  | [d1, d2] => { results := [.lit (.bool false)], args := [d1, d2] }
  | _ => none }
def PipePlaysWrongFalsely : Prop := pipePlaysRow.holds Try.pinned (OpenSpec.ofChange pipePlaysWrong)

/-- 'lodestarlaw22.PipeRoom': WHATEVER THE INPUT: true; the input reads as it did. -/
def pipeRoomSpec : ChangeSpec := { name := "pipeRoom", fn := fun _ => fun
  | [d1, d2] => { results := [.lit (.bool true)], args := [d1, d2] }
  | _ => none }
def pipeRoomRow : OpenClaim := { program := "ytjbakaplcjkniaa", sum := "d7fe761a32f336969bb8ea5fb50fc3fed39d185c3ce7077e404bacd70085cf6a", func := "lodestar/lodestarlaw22.PipeRoom", spec := "pipeRoom", apart := false }
def PipeRoomSaid : Prop := pipeRoomRow.holds Try.pinned (OpenSpec.ofChange pipeRoomSpec)

/-- ITS FALSE NEIGHBOUR: 'it returns false'. Refute it at one input. -/
def pipeRoomWrong : ChangeSpec := { name := "pipeRoom", fn := fun _ => fun
  | [d1, d2] => { results := [.lit (.bool false)], args := [d1, d2] }
  | _ => none }
def PipeRoomWrongFalsely : Prop := pipeRoomRow.holds Try.pinned (OpenSpec.ofChange pipeRoomWrong)

/-- 'lodestarlaw08.PastFull': WHATEVER THE INPUT: true; the input reads as it did. -/
def pastFullSpec : ChangeSpec := { name := "pastFull", fn := fun _ => fun
  | [d1, d2] => { results := [.lit (.bool true)], args := [d1, d2] }
  | _ => none }
def pastFullRow : OpenClaim := { program := "ytjbakaplcjkniaa", sum := "d7fe761a32f336969bb8ea5fb50fc3fed39d185c3ce7077e404bacd70085cf6a", func := "lodestar/lodestarlaw08.PastFull", spec := "pastFull", unfollowed := true, recurses := true, apart := false }
def PastFullSaid : Prop := pastFullRow.holds Try.pinned (OpenSpec.ofChange pastFullSpec)

/-- ITS FALSE NEIGHBOUR: 'it returns false'. Refute it at one input. -/
def pastFullWrong : ChangeSpec := { name := "pastFull", fn := fun _ => fun
  | [d1, d2] => { results := [.lit (.bool false)], args := [d1, d2] }
  | _ => none }
def PastFullWrongFalsely : Prop := pastFullRow.holds Try.pinned (OpenSpec.ofChange pastFullWrong)

/-- 'lodestarlaw08.PastOwn': WHATEVER THE INPUT: true; the input reads as it did. -/
def pastOwnSpec : ChangeSpec := { name := "pastOwn", fn := fun _ => fun
  | [d] => { results := [.lit (.bool true)], args := [d] }
  | _ => none }
def pastOwnRow : OpenClaim := { program := "ytjbakaplcjkniaa", sum := "d7fe761a32f336969bb8ea5fb50fc3fed39d185c3ce7077e404bacd70085cf6a", func := "lodestar/lodestarlaw08.PastOwn", spec := "pastOwn", unfollowed := true, recurses := true, apart := false }
def PastOwnSaid : Prop := pastOwnRow.holds Try.pinned (OpenSpec.ofChange pastOwnSpec)

/-- ITS FALSE NEIGHBOUR: 'it returns false'. Refute it at one input. -/
def pastOwnWrong : ChangeSpec := { name := "pastOwn", fn := fun _ => fun
  | [d] => { results := [.lit (.bool false)], args := [d] }
  | _ => none }
def PastOwnWrongFalsely : Prop := pastOwnRow.holds Try.pinned (OpenSpec.ofChange pastOwnWrong)

/-- 'lodestarlaw08.PastSweeps': WHATEVER THE INPUT: true; the input reads as it did. -/
def pastSweepsSpec : ChangeSpec := { name := "pastSweeps", fn := fun _ => fun
  | [d1, d2, d3] => { results := [.lit (.bool true)], args := [d1, d2, d3] }
  | _ => none }
def pastSweepsRow : OpenClaim := { program := "ytjbakaplcjkniaa", sum := "d7fe761a32f336969bb8ea5fb50fc3fed39d185c3ce7077e404bacd70085cf6a", func := "lodestar/lodestarlaw08.PastSweeps", spec := "pastSweeps", unfollowed := true, recurses := true, apart := false }
def PastSweepsSaid : Prop := pastSweepsRow.holds Try.pinned (OpenSpec.ofChange pastSweepsSpec)

/-- ITS FALSE NEIGHBOUR: 'it returns false'. Refute it at one input. -/
def pastSweepsWrong : ChangeSpec := { name := "pastSweeps", fn := fun _ => fun
  | [d1, d2, d3] => { results := [.lit (.bool false)], args := [d1, d2, d3] }
  | _ => none }
def PastSweepsWrongFalsely : Prop := pastSweepsRow.holds Try.pinned (OpenSpec.ofChange pastSweepsWrong)

/-- 'lodestarlaw08.PastEach': WHATEVER THE INPUT: true; the input reads as it did. -/
def pastEachSpec : ChangeSpec := { name := "pastEach", fn := fun _ => fun
  | [d1, d2] => { results := [.lit (.bool true)], args := [d1, d2] }
  | _ => none }
def pastEachRow : OpenClaim := { program := "ytjbakaplcjkniaa", sum := "d7fe761a32f336969bb8ea5fb50fc3fed39d185c3ce7077e404bacd70085cf6a", func := "lodestar/lodestarlaw08.PastEach", spec := "pastEach", unfollowed := true, recurses := true, apart := false }
def PastEachSaid : Prop := pastEachRow.holds Try.pinned (OpenSpec.ofChange pastEachSpec)

/-- ITS FALSE NEIGHBOUR: 'it returns false'. Refute it at one input. -/
def pastEachWrong : ChangeSpec := { name := "pastEach", fn := fun _ => fun
  | [d1, d2] => { results := [.lit (.bool false)], args := [d1, d2] }
  | _ => none }
def PastEachWrongFalsely : Prop := pastEachRow.holds Try.pinned (OpenSpec.ofChange pastEachWrong)

/-- 'lodestarlaw08.PastBack': WHATEVER THE INPUT: true; the input reads as it did. -/
def pastBackSpec : ChangeSpec := { name := "pastBack", fn := fun _ => fun
  | [d1, d2] => { results := [.lit (.bool true)], args := [d1, d2] }
  | _ => none }
def pastBackRow : OpenClaim := { program := "ytjbakaplcjkniaa", sum := "d7fe761a32f336969bb8ea5fb50fc3fed39d185c3ce7077e404bacd70085cf6a", func := "lodestar/lodestarlaw08.PastBack", spec := "pastBack", unfollowed := true, recurses := true, apart := false }
def PastBackSaid : Prop := pastBackRow.holds Try.pinned (OpenSpec.ofChange pastBackSpec)

/-- ITS FALSE NEIGHBOUR: 'it returns false'. Refute it at one input. -/
def pastBackWrong : ChangeSpec := { name := "pastBack", fn := fun _ => fun
  | [d1, d2] => { results := [.lit (.bool false)], args := [d1, d2] }
  | _ => none }
def PastBackWrongFalsely : Prop := pastBackRow.holds Try.pinned (OpenSpec.ofChange pastBackWrong)

/-- 'lodestarlaw08.PastPlays': WHATEVER THE INPUT: true; the input reads as it did. -/
def pastPlaysSpec : ChangeSpec := { name := "pastPlays", fn := fun _ => fun
  | [d] => { results := [.lit (.bool true)], args := [d] }
  | _ => none }
def pastPlaysRow : OpenClaim := { program := "ytjbakaplcjkniaa", sum := "d7fe761a32f336969bb8ea5fb50fc3fed39d185c3ce7077e404bacd70085cf6a", func := "lodestar/lodestarlaw08.PastPlays", spec := "pastPlays", unfollowed := true, recurses := true, apart := false }
def PastPlaysSaid : Prop := pastPlaysRow.holds Try.pinned (OpenSpec.ofChange pastPlaysSpec)

/-- ITS FALSE NEIGHBOUR: 'it returns false'. Refute it at one input. -/
def pastPlaysWrong : ChangeSpec := { name := "pastPlays", fn := fun _ => fun
  | [d] => { results := [.lit (.bool false)], args := [d] }
  | _ => none }
def PastPlaysWrongFalsely : Prop := pastPlaysRow.holds Try.pinned (OpenSpec.ofChange pastPlaysWrong)

/- THE SECOND FORM. 'bulk': how many values and letters a reading holds, each counted each time it is reached (what is shared counts as often as it is met; a slice's spare places count too). A statement '..UptoSaid' is the law's where the arguments, and the package variables that the reading takes, are together of bulk at most 1048576: NARROWER than '..Said'. Prove '..Said' where nothing that the law and all that it calls make is longer than what came in: it says more and counts as full. Else prove '..UptoSaid'. A law counts once. -/
mutual
def uptoBulk {H : Type} : DataW H → Nat
  | .lit (.string bytes) => bytes.length + 1
  | .lit _ => 1
  | .nil => 1
  | .ptr d => uptoBulk d + 1
  | .slice elems spare => uptoBulkAll elems + uptoBulkAll spare + 1
  | .agg parts => uptoBulkAll parts + 1
  | .iface _ d => uptoBulk d + 1
  | .map entries => uptoBulkEntries entries + 1
  | .held _ => 1
def uptoBulkAll {H : Type} : List (DataW H) → Nat
  | [] => 0
  | d :: r => uptoBulk d + uptoBulkAll r
def uptoBulkEntries {H : Type} : List (Lit × DataW H) → Nat
  | [] => 0
  | x :: r => uptoBulkEntry x + uptoBulkEntries r
def uptoBulkEntry {H : Type} : Lit × DataW H → Nat
  | (.string bytes, d) => bytes.length + uptoBulk d + 1
  | (_, d) => uptoBulk d + 1
 end
def uptoSmall : (H : Type) → List (DataW H) → Bool := fun _ ds => decide (uptoBulkAll ds ≤ 1048576)
def OpenSpec.upto (s : _root_.Go.ChangeSpec) : _root_.Go.OpenSpec := { _root_.Go.OpenSpec.ofChange s with cond := some uptoSmall }

/-- 'lodestarlaw22.PipeOrder', WHERE WHAT IT READS IS OF BULK AT MOST 1048576: true; the input reads as it did. -/
def pipeOrderUptoRow : OpenClaim := { program := "ytjbakaplcjkniaa", sum := "d7fe761a32f336969bb8ea5fb50fc3fed39d185c3ce7077e404bacd70085cf6a", func := "lodestar/lodestarlaw22.PipeOrder", spec := "pipeOrder", apart := false, narrowed := true }
def PipeOrderUptoSaid : Prop := pipeOrderUptoRow.holds Try.pinned (OpenSpec.upto pipeOrderSpec)

/-- 'lodestarlaw22.PipeLate', WHERE WHAT IT READS IS OF BULK AT MOST 1048576: true; the input reads as it did. -/
def pipeLateUptoRow : OpenClaim := { program := "ytjbakaplcjkniaa", sum := "d7fe761a32f336969bb8ea5fb50fc3fed39d185c3ce7077e404bacd70085cf6a", func := "lodestar/lodestarlaw22.PipeLate", spec := "pipeLate", apart := false, narrowed := true }
def PipeLateUptoSaid : Prop := pipeLateUptoRow.holds Try.pinned (OpenSpec.upto pipeLateSpec)

/-- 'lodestarlaw22.PipePlays', WHERE WHAT IT READS IS OF BULK AT MOST 1048576: true; the input reads as it did. -/
def pipePlaysUptoRow : OpenClaim := { program := "ytjbakaplcjkniaa", sum := "d7fe761a32f336969bb8ea5fb50fc3fed39d185c3ce7077e404bacd70085cf6a", func := "lodestar/lodestarlaw22.PipePlays", spec := "pipePlays", apart := false, narrowed := true }
def PipePlaysUptoSaid : Prop := pipePlaysUptoRow.holds Try.pinned (OpenSpec.upto pipePlaysSpec)

/-- 'lodestarlaw22.PipeRoom', WHERE WHAT IT READS IS OF BULK AT MOST 1048576: true; the input reads as it did. -/
def pipeRoomUptoRow : OpenClaim := { program := "ytjbakaplcjkniaa", sum := "d7fe761a32f336969bb8ea5fb50fc3fed39d185c3ce7077e404bacd70085cf6a", func := "lodestar/lodestarlaw22.PipeRoom", spec := "pipeRoom", apart := false, narrowed := true }
def PipeRoomUptoSaid : Prop := pipeRoomUptoRow.holds Try.pinned (OpenSpec.upto pipeRoomSpec)

/-- 'lodestarlaw08.PastFull', WHERE WHAT IT READS IS OF BULK AT MOST 1048576: true; the input reads as it did. -/
def pastFullUptoRow : OpenClaim := { program := "ytjbakaplcjkniaa", sum := "d7fe761a32f336969bb8ea5fb50fc3fed39d185c3ce7077e404bacd70085cf6a", func := "lodestar/lodestarlaw08.PastFull", spec := "pastFull", unfollowed := true, recurses := true, apart := false, narrowed := true }
def PastFullUptoSaid : Prop := pastFullUptoRow.holds Try.pinned (OpenSpec.upto pastFullSpec)

/-- 'lodestarlaw08.PastOwn', WHERE WHAT IT READS IS OF BULK AT MOST 1048576: true; the input reads as it did. -/
def pastOwnUptoRow : OpenClaim := { program := "ytjbakaplcjkniaa", sum := "d7fe761a32f336969bb8ea5fb50fc3fed39d185c3ce7077e404bacd70085cf6a", func := "lodestar/lodestarlaw08.PastOwn", spec := "pastOwn", unfollowed := true, recurses := true, apart := false, narrowed := true }
def PastOwnUptoSaid : Prop := pastOwnUptoRow.holds Try.pinned (OpenSpec.upto pastOwnSpec)

/-- 'lodestarlaw08.PastSweeps', WHERE WHAT IT READS IS OF BULK AT MOST 1048576: true; the input reads as it did. -/
def pastSweepsUptoRow : OpenClaim := { program := "ytjbakaplcjkniaa", sum := "d7fe761a32f336969bb8ea5fb50fc3fed39d185c3ce7077e404bacd70085cf6a", func := "lodestar/lodestarlaw08.PastSweeps", spec := "pastSweeps", unfollowed := true, recurses := true, apart := false, narrowed := true }
def PastSweepsUptoSaid : Prop := pastSweepsUptoRow.holds Try.pinned (OpenSpec.upto pastSweepsSpec)

/-- 'lodestarlaw08.PastEach', WHERE WHAT IT READS IS OF BULK AT MOST 1048576: true; the input reads as it did. -/
def pastEachUptoRow : OpenClaim := { program := "ytjbakaplcjkniaa", sum := "d7fe761a32f336969bb8ea5fb50fc3fed39d185c3ce7077e404bacd70085cf6a", func := "lodestar/lodestarlaw08.PastEach", spec := "pastEach", unfollowed := true, recurses := true, apart := false, narrowed := true }
def PastEachUptoSaid : Prop := pastEachUptoRow.holds Try.pinned (OpenSpec.upto pastEachSpec)

/-- 'lodestarlaw08.PastBack', WHERE WHAT IT READS IS OF BULK AT MOST 1048576: true; the input reads as it did. -/
def pastBackUptoRow : OpenClaim := { program := "ytjbakaplcjkniaa", sum := "d7fe761a32f336969bb8ea5fb50fc3fed39d185c3ce7077e404bacd70085cf6a", func := "lodestar/lodestarlaw08.PastBack", spec := "pastBack", unfollowed := true, recurses := true, apart := false, narrowed := true }
def PastBackUptoSaid : Prop := pastBackUptoRow.holds Try.pinned (OpenSpec.upto pastBackSpec)

/-- 'lodestarlaw08.PastPlays', WHERE WHAT IT READS IS OF BULK AT MOST 1048576: true; the input reads as it did. -/
def pastPlaysUptoRow : OpenClaim := { program := "ytjbakaplcjkniaa", sum := "d7fe761a32f336969bb8ea5fb50fc3fed39d185c3ce7077e404bacd70085cf6a", func := "lodestar/lodestarlaw08.PastPlays", spec := "pastPlays", unfollowed := true, recurses := true, apart := false, narrowed := true }
def PastPlaysUptoSaid : Prop := pastPlaysUptoRow.holds Try.pinned (OpenSpec.upto pastPlaysSpec)

end Rows
end Go.Proofs.Ytjbakaplcjkniaa
