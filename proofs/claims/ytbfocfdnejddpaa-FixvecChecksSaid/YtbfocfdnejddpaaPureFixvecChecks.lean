/- The plain law of FixvecChecks: which vectors may be is the document's, with its errors. No condition beyond the statement's own. -/
import Derived.Test.YtbfocfdnejddpaaQx2
import Derived.Test.YtbfocfdnejddpaaFix
namespace Go.Proofs.Ytbfocfdnejddpaa.Pure
open Go.RowKit Go.Proofs.Ytbfocfdnejddpaa.Q Go.Proofs.YtbfocfdnejddpaaW.PrintWords Go.Proofs.YtbfocfdnejddpaaW.PrintLast Go.Proofs.Ytbfocfdnejddpaa.Fix
theorem FixvecChecks : lodestarlaw01_FixvecChecks.Pure := by
  intro l a1 hm hl _ _
  refine ⟨l.length + 60, ?_⟩
  unfold lodestarlaw01_FixvecChecks.f
  rw [alive_f _ (by omega), check_f l a1 (by omega) _ (by omega), rcheck_f l a1 (by omega) _ (by omega)]
  simp
end Go.Proofs.Ytbfocfdnejddpaa.Pure
