/- Closed facts of the program, one declaration each. No condition. -/
import Derived.Test.YtofmlajanopniaaRows
import Derived.ProofKit
import Derived.JoinedOf
namespace Go.Proofs.Ytofmlajanopniaa.Facts
open Go
theorem c1 : (laidOutB Try.pinned.checked.prog : Bool) = true := by kernel_rfl
theorem c2 : (mapsRowed Try.pinned.checked.prog : Bool) = true := by kernel_rfl
theorem c6 : ((Try.pinned.checked.prog.stops == []) : Bool) = true := by kernel_rfl
theorem c8 : ((Try.pinned.checked.prog.stopKnobs == []) : Bool) = true := by kernel_rfl
theorem c22 : ((Rows.linksOwnRow.plainKeys == Try.pinned.checked.prog.plainKeys) : Bool) = true := by kernel_rfl
theorem c24 : (Try.pinned.checked.prog.stopsHeard : Bool) = true := by kernel_rfl
theorem c25 : (Try.pinned.checked.prog.mayEnter : Bool) = true := by kernel_rfl
theorem c26 : ((Rows.linksOwnRow.lifted == Try.pinned.checked.prog.liftsFinal) : Bool) = true := by kernel_rfl
theorem c27 : ((Try.pinned.checked.prog.make == some Rows.linksOwnRow.make) : Bool) = true := by kernel_rfl
theorem and2 {a b : Bool} (h1 : a = true) (h2 : b = true) : (a && b) = true := by rw [h1, h2]; rfl
end Go.Proofs.Ytofmlajanopniaa.Facts
