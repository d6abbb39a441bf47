/- The plain law of FixvecDists: how far any two vectors are apart is the document's, and the same the other way round. No condition beyond the statement's own. -/
import Derived.Test.YtbfocfdnejddpaaQx2
import Derived.Test.YtbfocfdnejddpaaFix
namespace Go.Proofs.Ytbfocfdnejddpaa.Pure
open Go.RowKit Go.Proofs.Ytbfocfdnejddpaa.Q Go.Proofs.YtbfocfdnejddpaaW.PrintWords Go.Proofs.YtbfocfdnejddpaaW.PrintLast Go.Proofs.Ytbfocfdnejddpaa.Fix
theorem rdist_l (a0 : Int) (l m : List Int) (h : both l m) (d : Nat) : ∀ (k i : Nat) (s : Int), i ≤ l.length → l.length - i = d → d < k →
    -(i * 4398046511104) ≤ s → s ≤ i * 4398046511104 →
    lodestarref01_Dist.l0 k a0 l m s (i : Int) = some (if a0 = 0 then s + sqs (l.drop i) (m.drop i) else s - prs (l.drop i) (m.drop i), true) := by
  obtain ⟨b1, b2, b3, b4, b5⟩ := h
  induction d with
  | zero =>
    intro k i s hi hd hk _ _
    obtain ⟨k, rfl⟩ : ∃ m, k = m + 1 := ⟨k - 1, by omega⟩
    simp only [lodestarref01_Dist.l0]
    rw [if_neg (by omega), List.drop_eq_nil_of_le (by omega)]
    simp [prs, sqs]
  | succ d ih =>
    intro k i s hi hd hk hs0 hs1
    obtain ⟨k, rfl⟩ : ∃ m, k = m + 1 := ⟨k - 1, by omega⟩
    have ha := okp_rd b4 (i := i) (by omega)
    have hb := okp_rd b5 (i := i) (by omega)
    rw [drop_at l i (by omega), drop_at m i (by omega)]
    simp only [lodestarref01_Dist.l0]
    generalize rd l (i : Int) = x at *
    generalize rd m (i : Int) = y at *
    unfold okp at ha hb
    have hxy := mul_bd (a := x) (b := y) (B := 1048576) (by omega) (by omega) (by omega) (by omega)
    have hxx := mul_bd (a := x) (b := x) (B := 1048576) (by omega) (by omega) (by omega) (by omega)
    have hyy := mul_bd (a := y) (b := y) (B := 1048576) (by omega) (by omega) (by omega) (by omega)
    have hd2 := sq_le (d := x - y) (B := 2097152) (by omega) (by omega)
    have hd3 := sq_nonneg (x - y)
    have e1 : (x - y) * (x - y) = x * x - 2 * (x * y) + y * y := by grind
    have e2 : 2 * x * y = 2 * (x * y) := by grind
    have h2 : ((i : Int) + 1) = ((i + 1 : Nat) : Int) := by omega
    rw [if_pos (by omega), if_pos (by omega), if_pos (by omega)]
    simp only [sqs, prs]
    by_cases h0 : a0 = 0
    · rw [if_pos h0, if_pos h0, w64 (x := x) (by omega) (by omega), w64 (x := y) (by omega) (by omega), w64 (x := x * x) (by omega) (by omega), w64 (x := y * y) (by omega) (by omega), w64 (x := 2 * x) (by omega) (by omega), e2, w64 (x := 2 * (x * y)) (by omega) (by omega), w64 (x := s + x * x) (by omega) (by omega), w64 (x := s + x * x - 2 * (x * y)) (by omega) (by omega), w64 (x := s + x * x - 2 * (x * y) + y * y) (by omega) (by omega), w64 (x := (i : Int) + 1) (by omega) (by omega), h2, ih k (i + 1) _ (by omega) (by omega) (by omega) (by omega) (by omega), if_pos h0, e1]
      congr 2
      omega
    · rw [if_neg h0, if_neg h0, w64 (x := x) (by omega) (by omega), w64 (x := y) (by omega) (by omega), w64 (x := x * y) (by omega) (by omega), w64 (x := s - x * y) (by omega) (by omega), w64 (x := (i : Int) + 1) (by omega) (by omega), h2, ih k (i + 1) _ (by omega) (by omega) (by omega) (by omega) (by omega), if_neg h0]
      congr 2
      omega
theorem rdist_f (a0 : Int) (h0 : 0 ≤ a0) (l m : List Int) (hl : l.length ≤ 140737488351232) (hm : m.length ≤ 140737488351232) (k : Nat) (hk : l.length + m.length + 19 ≤ k) : lodestarref01_Dist.f k a0 l m = some (dist a0 l m) := by
  unfold lodestarref01_Dist.f dist
  rw [if_neg (by omega)]
  obtain ⟨k', rfl⟩ : ∃ m, k = m + 1 := ⟨k - 1, by omega⟩
  by_cases h1 : a0 > 1
  · rw [if_pos h1, if_neg (by omega)]
    simp [lodestarref01_Dist.j0]
  · rw [if_neg h1, rcheck_f l _ hl _ (by omega)]
    simp only [Option.bind_some]
    by_cases c1 : chk l (l.length : Int) = 0
    · rw [if_pos c1, rcheck_f m _ hm _ (by omega)]
      simp only [Option.bind_some]
      have c := (chk_own l).1 c1
      by_cases c2 : chk m (l.length : Int) = 0
      · have d := (chk_other l m ⟨c.1, c.2.1⟩).1 c2
        have b : both l m := ⟨c.1, c.2.1, d.1, c.2.2, d.2⟩
        have hc : a0 ≤ 1 ∧ both l m := ⟨by omega, b⟩
        rw [if_pos hc]
        have := rdist_l a0 l m b l.length k' 0 0 (by omega) (by omega) (by omega) (by omega) (by omega)
        simp only [lodestarref01_Dist.j0, c2, bne_self_eq_false, Bool.false_eq_true, if_false]
        simp only [List.drop_zero, Int.natCast_zero] at this
        rw [this]
        congr 2
        by_cases h2 : a0 = 0
        · rw [if_pos h2, if_pos h2]; omega
        · rw [if_neg h2, if_neg h2]; omega
      · rw [if_neg]
        · simp [lodestarref01_Dist.j0, c2]
        · rintro ⟨_, b⟩
          exact c2 ((chk_other l m ⟨b.1, b.2.1⟩).2 ⟨b.2.2.1, b.2.2.2.2⟩)
    · rw [if_neg c1, if_neg]
      · simp [lodestarref01_Dist.j0]
      · rintro ⟨_, b⟩
        exact c1 ((chk_own l).2 ⟨b.1, b.2.1, b.2.2.2.1⟩)
theorem FixvecDists : lodestarlaw01_FixvecDists.Pure := by
  intro a0 l1 l2 hw _ hl1 _ _ hl2 _
  have h0 : 0 ≤ a0 ∧ a0 ≤ 255 := by simp [Lit.wf, IntKind.min, IntKind.max, IntKind.bits, IntKind.signed] at hw; omega
  refine ⟨l1.length + l2.length + 60, ?_⟩
  unfold lodestarlaw01_FixvecDists.f
  rw [alive_f _ (by omega), w64 (x := a0) (by omega) (by omega), dist_f a0 h0.1 l1 l2 (by omega) (by omega) _ (by omega), dist_f a0 h0.1 l2 l1 (by omega) (by omega) _ (by omega), rdist_f a0 h0.1 l1 l2 (by omega) (by omega) _ (by omega), dist_symm a0 l2 l1]
  simp
end Go.Proofs.Ytbfocfdnejddpaa.Pure
