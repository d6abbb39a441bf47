/- TopkMerges, as the row asks. No condition. -/
import Derived.Test.YtchiobhklbefjaaTkD
import Derived.Test.YtchiobhklbefjaaTkE
namespace Go.Proofs.Ytchiobhklbefjaa.Tk
open Go.RowKit Go.Proofs.YtchiobhklbefjaaW.PrintWords Go.Proofs.Ytchiobhklbefjaa.Q
set_option linter.unusedVariables false
theorem merges_row (v0 : Value) (s0 : v0 = .slice none 0 0 ∨ ∃ a n c, v0 = .slice (some a) n c) (x0 : List (Int × Int)) {W : World} (K0 : (Kd.slice 29 kp).K W x0 v0.cells.toList) (o0 : okHits x0)
    (v1 : Value) (s1 : v1 = .slice none 0 0 ∨ ∃ a n c, v1 = .slice (some a) n c) (x1 : List (Int × Int)) (K1 : (Kd.slice 29 kp).K W x1 v1.cells.toList) (o1 : okHits x1) (k : Int) (hk : (Lit.int .i64 k).wf = true) (_ : World) :
    Calls Try.prog 8 #[v0, v1, .int .i64 k] W fun e w' => e = .returned (.bool true) ∧ Below W.heap.size W w' := by
  obtain ⟨ao, ca, rfl, hr⟩ := hits_of s0 K0
  obtain ⟨bo, cb, rfl, hr2⟩ := hits_of s1 K1
  exact merges_calls ao ca _ bo cb _ k W hr hr2 (hits_len o0) (hits_len o1)
end Go.Proofs.Ytchiobhklbefjaa.Tk
