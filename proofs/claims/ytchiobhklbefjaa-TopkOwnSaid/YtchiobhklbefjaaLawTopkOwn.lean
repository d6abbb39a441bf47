/- TopkOwn, as the row asks. No condition. -/
import Derived.Test.YtchiobhklbefjaaTkG
namespace Go.Proofs.Ytchiobhklbefjaa.Tk
open Go.RowKit Go.Proofs.YtchiobhklbefjaaW.PrintWords Go.Proofs.Ytchiobhklbefjaa.Q
set_option linter.unusedVariables false
theorem own_row (v0 : Value) (s0 : v0 = .slice none 0 0 ∨ ∃ a n c, v0 = .slice (some a) n c) (x0 : List (Int × Int)) {W : World} (K0 : (Kd.slice 29 kp).K W x0 v0.cells.toList) (o0 : okHits x0) (_ : World) :
    Calls Try.prog 5 #[v0] W fun e w' => e = .returned (.bool true) ∧ Below W.heap.size W w' := by
  obtain ⟨ao, ca, rfl, hr⟩ := hits_of s0 K0
  exact own_calls ao ca _ W hr (hits_len o0)
end Go.Proofs.Ytchiobhklbefjaa.Tk
