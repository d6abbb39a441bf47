/- Same: the reference's comparison of two vectors, in lists. No condition beyond the statement's own. -/
import Derived.Test.YtbfocfdnejddpaaQx2
import Derived.Test.YtbfocfdnejddpaaFix
namespace Go.Proofs.Ytbfocfdnejddpaa.Pure
open Go.RowKit Go.Proofs.Ytbfocfdnejddpaa.Q Go.Proofs.YtbfocfdnejddpaaW.PrintWords Go.Proofs.YtbfocfdnejddpaaW.PrintLast Go.Proofs.Ytbfocfdnejddpaa.Fix
theorem same_l (l m : List Int) (he : l.length = m.length) (hl : l.length ≤ 140737488351232) (d : Nat) : ∀ (k i : Nat), i ≤ l.length → l.length - i = d → d < k →
    lodestarref01_Same.l0 k l m (i : Int) = some (decide (l.drop i = m.drop i)) := by
  induction d with
  | zero =>
    intro k i hi hd hk
    obtain ⟨k, rfl⟩ : ∃ m, k = m + 1 := ⟨k - 1, by omega⟩
    simp only [lodestarref01_Same.l0]
    rw [if_neg (by omega), List.drop_eq_nil_of_le (by omega), List.drop_eq_nil_of_le (by omega)]
    simp
  | succ d ih =>
    intro k i hi hd hk
    obtain ⟨k, rfl⟩ : ∃ m, k = m + 1 := ⟨k - 1, by omega⟩
    have h2 : ((i : Int) + 1) = ((i + 1 : Nat) : Int) := by omega
    simp only [lodestarref01_Same.l0]
    rw [if_pos (by omega), if_pos (by omega), if_pos (by omega), drop_at l i (by omega), drop_at m i (by omega), w64 (by omega) (by omega), h2, ih k (i + 1) (by omega) (by omega) (by omega)]
    by_cases h : rd l (i : Int) = rd m (i : Int)
    · rw [if_pos h]; simp [h]
    · rw [if_neg h]; simp [h]
theorem same_f (l m : List Int) (hl : l.length ≤ 140737488351232) (k : Nat) (hk : l.length + 1 ≤ k) : lodestarref01_Same.f k l m = some (decide (l = m)) := by
  unfold lodestarref01_Same.f
  by_cases h : (l.length : Int) = m.length
  · have := same_l l m (by omega) hl l.length k 0 (by omega) (by omega) (by omega)
    rw [if_pos h]
    simpa using this
  · rw [if_neg h]
    have : ¬ l = m := fun e => h (by rw [e])
    simp [this]
end Go.Proofs.Ytbfocfdnejddpaa.Pure
