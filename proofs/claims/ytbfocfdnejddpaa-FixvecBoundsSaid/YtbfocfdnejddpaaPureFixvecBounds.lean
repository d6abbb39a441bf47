/- The plain law of FixvecBounds: no distance is beyond what the greatest parts make. No condition beyond the statement's own. -/
import Derived.Test.YtbfocfdnejddpaaQx3
import Derived.Test.YtbfocfdnejddpaaFix
namespace Go.Proofs.Ytbfocfdnejddpaa.Pure
open Go.RowKit Go.Proofs.Ytbfocfdnejddpaa.Q Go.Proofs.YtbfocfdnejddpaaW.PrintWords Go.Proofs.YtbfocfdnejddpaaW.PrintLast Go.Proofs.Ytbfocfdnejddpaa.Fix
theorem FixvecBounds : lodestarlaw01_FixvecBounds.Pure := by
  intro l m _ hl _ _ hm _
  refine ⟨l.length + m.length + 60, ?_⟩
  unfold lodestarlaw01_FixvecBounds.f
  rw [alive_f _ (by omega), dist_f 0 (by omega) l m (by omega) (by omega) _ (by omega), dist_f 1 (by omega) l m (by omega) (by omega) _ (by omega)]
  simp only [Option.bind_some, if_true]
  unfold dist
  by_cases h : both l m
  · have h1 : (0 : Int) ≤ 1 ∧ both l m := ⟨by omega, h⟩
    have h2 : (1 : Int) ≤ 1 ∧ both l m := ⟨by omega, h⟩
    obtain ⟨a, b⟩ := sqs_bd l m h.2.2.2.1 h.2.2.2.2
    obtain ⟨c, d⟩ := prs_bd l m h.2.2.2.1 h.2.2.2.2
    have := h.2.1
    rw [if_pos h1, if_pos h2]
    simp only [if_true]
    rw [if_neg (show ¬ (1 : Int) = 0 by omega), if_pos (by omega), if_pos (by omega), if_pos (by omega)]
    simp only [Option.some.injEq, decide_eq_true_eq]
    omega
  · simp [h]
end Go.Proofs.Ytbfocfdnejddpaa.Pure
