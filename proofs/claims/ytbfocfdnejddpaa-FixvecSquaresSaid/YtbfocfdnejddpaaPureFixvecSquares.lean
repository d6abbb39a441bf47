/- The plain law of FixvecSquares: the squares are never below 0, are 0 just from a vector to itself, and go together with the products. No condition beyond the statement's own. -/
import Derived.Test.YtbfocfdnejddpaaQx3
import Derived.Test.YtbfocfdnejddpaaFixSame
namespace Go.Proofs.Ytbfocfdnejddpaa.Pure
open Go.RowKit Go.Proofs.Ytbfocfdnejddpaa.Q Go.Proofs.YtbfocfdnejddpaaW.PrintWords Go.Proofs.YtbfocfdnejddpaaW.PrintLast Go.Proofs.Ytbfocfdnejddpaa.Fix
theorem sqs_zero : ∀ l m : List Int, l.length = m.length → (sqs l m = 0 ↔ l = m) := by
  intro l
  induction l with
  | nil => intro m h; cases m with | nil => simp [sqs] | cons b m => simp at h
  | cons a l ih =>
    intro m h
    cases m with
    | nil => simp at h
    | cons b m =>
      have h' := ih m (by simpa using h)
      have h1 := sq_nonneg (a - b)
      have h2 : ∀ l m : List Int, 0 ≤ sqs l m := by
        intro l
        induction l with
        | nil => intro m; cases m <;> simp [sqs]
        | cons a l ih => intro m; cases m with
          | nil => simp [sqs]
          | cons b m => have := ih m; have := sq_nonneg (a - b); simp only [sqs]; omega
      have h3 := h2 l m
      simp only [sqs, List.cons.injEq]
      constructor
      · intro e
        have e1 : (a - b) * (a - b) = 0 := by omega
        have e2 : sqs l m = 0 := by omega
        have := Int.mul_eq_zero.1 e1
        exact ⟨by omega, h'.1 e2⟩
      · rintro ⟨rfl, e⟩
        rw [h'.2 e]
        simp
theorem sqs_prs : ∀ l m : List Int, l.length = m.length → sqs l m = prs l l + prs m m - 2 * prs l m := by
  intro l
  induction l with
  | nil => intro m h; cases m with | nil => simp [sqs, prs] | cons b m => simp at h
  | cons a l ih =>
    intro m h
    cases m with
    | nil => simp at h
    | cons b m =>
      have := ih m (by simpa using h)
      simp only [sqs, prs]
      grind
theorem FixvecSquares : lodestarlaw01_FixvecSquares.Pure := by
  intro l m _ hl _ _ hm _
  refine ⟨2 * l.length + 2 * m.length + 60, ?_⟩
  unfold lodestarlaw01_FixvecSquares.f
  rw [alive_f _ (by omega), dist_f 0 (by omega) l m (by omega) (by omega) _ (by omega), dist_f 1 (by omega) l m (by omega) (by omega) _ (by omega), dist_f 1 (by omega) l l (by omega) (by omega) _ (by omega), dist_f 1 (by omega) m m (by omega) (by omega) _ (by omega), same_f l m (by omega) _ (by omega)]
  simp only [Option.bind_some, if_true]
  unfold dist
  by_cases h : both l m
  · have hll : both l l := ⟨h.1, h.2.1, rfl, h.2.2.2.1, h.2.2.2.1⟩
    have hs := both_symm h
    have hmm : both m m := ⟨hs.1, hs.2.1, rfl, hs.2.2.2.1, hs.2.2.2.1⟩
    have h1 : (0 : Int) ≤ 1 ∧ both l m := ⟨by omega, h⟩
    have h2 : (1 : Int) ≤ 1 ∧ both l m := ⟨by omega, h⟩
    have h3 : (1 : Int) ≤ 1 ∧ both l l := ⟨by omega, hll⟩
    have h4 : (1 : Int) ≤ 1 ∧ both m m := ⟨by omega, hmm⟩
    obtain ⟨a, b⟩ := sqs_bd l m h.2.2.2.1 h.2.2.2.2
    obtain ⟨c, d⟩ := prs_bd l m h.2.2.2.1 h.2.2.2.2
    obtain ⟨e, f⟩ := prs_bd l l h.2.2.2.1 h.2.2.2.1
    obtain ⟨g, i⟩ := prs_bd m m h.2.2.2.2 h.2.2.2.2
    have := h.2.1
    have := hs.2.1
    have hz := sqs_zero l m h.2.2.1.symm
    have hp := sqs_prs l m h.2.2.1.symm
    rw [if_pos h1, if_pos h2, if_pos h3, if_pos h4]
    simp only [if_true]
    rw [if_neg (show ¬ (1 : Int) = 0 by omega), if_neg (show ¬ (1 : Int) = 0 by omega), if_neg (show ¬ (1 : Int) = 0 by omega), if_pos (by omega), w64 (x := 2 * -prs l m) (by omega) (by omega), w64 (x := 2 * -prs l m - -prs l l) (by omega) (by omega), w64 (x := 2 * -prs l m - -prs l l - -prs m m) (by omega) (by omega)]
    have hb : ((sqs l m == 0) == decide (l = m)) = true := by
      by_cases q : l = m
      · rw [beq_iff_eq.mpr (hz.2 q), decide_eq_true q]; rfl
      · have : ¬ sqs l m = 0 := fun x => q (hz.1 x)
        rw [beq_eq_false_iff_ne.mpr this, decide_eq_false q]; rfl
    rw [if_pos hb]
    simp only [Option.some.injEq, beq_iff_eq]
    omega
  · simp [h]
end Go.Proofs.Ytbfocfdnejddpaa.Pure
