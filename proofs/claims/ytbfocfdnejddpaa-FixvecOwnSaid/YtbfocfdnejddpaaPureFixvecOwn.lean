/- The plain law of FixvecOwn: what is handed in stays as it was. No condition beyond the statement's own. -/
import Derived.Test.YtbfocfdnejddpaaQx4
import Derived.Test.YtbfocfdnejddpaaFixSame
namespace Go.Proofs.Ytbfocfdnejddpaa.Pure
open Go.RowKit Go.Proofs.Ytbfocfdnejddpaa.Q Go.Proofs.YtbfocfdnejddpaaW.PrintWords Go.Proofs.YtbfocfdnejddpaaW.PrintLast Go.Proofs.Ytbfocfdnejddpaa.Fix
theorem FixvecOwn : lodestarlaw01_FixvecOwn.Pure := by
  intro a0 l m a3 hw _ hl _ _ hm _ _
  have h0 : 0 ≤ a0 ∧ a0 ≤ 255 := by simp [Lit.wf, IntKind.min, IntKind.max, IntKind.bits, IntKind.signed] at hw; omega
  refine ⟨2 * l.length + 2 * m.length + 60, ?_⟩
  unfold lodestarlaw01_FixvecOwn.f
  rw [alive_f _ (by omega)]
  simp only [Option.bind_some, if_true, List.nil_append, List.length_nil, Nat.zero_add]
  rw [if_pos (by omega), if_pos (by omega), check_f l a3 (by omega) _ (by omega), dist_f a0 h0.1 l m (by omega) (by omega) _ (by omega), same_f l l (by omega) _ (by omega), same_f m m (by omega) _ (by omega)]
  simp
end Go.Proofs.Ytbfocfdnejddpaa.Pure
