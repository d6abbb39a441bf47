/- The plain side of the statements of layer 1: what the printed functions of package fixvec and its reference compute, in lists and numbers. No conditions beyond those that each lemma names. -/
import Derived.Test.YtbfocfdnejddpaaQx2
namespace Go.Proofs.Ytbfocfdnejddpaa.Fix
open Go.RowKit Go.Proofs.Ytbfocfdnejddpaa.Q Go.Proofs.YtbfocfdnejddpaaW.PrintWords Go.Proofs.YtbfocfdnejddpaaW.PrintLast

theorem w64 {x : Int} (h0 : -9223372036854775808 ≤ x) (h1 : x ≤ 9223372036854775807) : wrap64 x = x := by unfold wrap64; omega
theorem rd_at (l : List Int) (i : Nat) (h : i < l.length) : rd l (i : Int) = l[i] := by simp [rd, h]
theorem drop_at (l : List Int) (i : Nat) (h : i < l.length) : l.drop i = rd l (i : Int) :: l.drop (i + 1) := by
  rw [rd_at l i h]; exact List.drop_eq_getElem_cons h
def okp (x : Int) : Prop := -1048576 ≤ x ∧ x ≤ 1048576
instance (x : Int) : Decidable (okp x) := by unfold okp; exact inferInstance
def chk (l : List Int) (dim : Int) : Int := if dim < 1 ∨ dim > 16 ∨ (l.length : Int) ≠ dim then 10 else if ∀ x ∈ l, okp x then 0 else 11

theorem check_l (l : List Int) (hl : l.length ≤ 140737488351232) (d : Nat) : ∀ (k i : Nat), i ≤ l.length → l.length - i = d → d < k →
    fixvec_Check.l0 k l (l.length : Int) (i : Int) = some (if ∀ x ∈ l.drop i, okp x then 0 else 11) := by
  induction d with
  | zero =>
    intro k i hi hd hk
    obtain ⟨k, rfl⟩ : ∃ m, k = m + 1 := ⟨k - 1, by omega⟩
    simp only [fixvec_Check.l0]
    rw [if_neg (by omega), List.drop_eq_nil_of_le (by omega)]
    simp
  | succ d ih =>
    intro k i hi hd hk
    obtain ⟨k, rfl⟩ : ∃ m, k = m + 1 := ⟨k - 1, by omega⟩
    have h1 := ih k (i + 1) (by omega) (by omega) (by omega)
    simp only [fixvec_Check.l0]
    rw [if_pos (by omega), if_pos (by omega), if_pos (by omega), drop_at l i (by omega), w64 (by omega) (by omega)]
    by_cases ha : rd l (i : Int) < -1048576
    · rw [if_pos ha, if_neg]
      intro h
      have := (h _ (List.mem_cons_self)).1
      omega
    · rw [if_neg ha]
      by_cases hb : rd l (i : Int) > 1048576
      · rw [if_pos hb, if_neg]
        intro h
        have := (h _ (List.mem_cons_self)).2
        omega
      · rw [if_neg hb]
        have h2 : ((i : Int) + 1) = ((i + 1 : Nat) : Int) := by omega
        rw [h2, h1]
        congr 1
        simp only [List.forall_mem_cons]
        have h3 : okp (rd l (i : Int)) := ⟨by omega, by omega⟩
        simp [h3]
theorem check_f (l : List Int) (dim : Int) (hl : l.length ≤ 140737488351232) (k : Nat) (hk : l.length + 2 ≤ k) : fixvec_Check.f k l dim = some (chk l dim) := by
  obtain ⟨k, rfl⟩ : ∃ m, k = m + 1 := ⟨k - 1, by omega⟩
  unfold fixvec_Check.f chk
  by_cases h1 : dim < 1
  · rw [if_pos h1]; simp [fixvec_Check.j0, h1]
  · rw [if_neg h1]
    by_cases h2 : dim > 16
    · rw [if_pos h2]; simp [fixvec_Check.j0, h2]
    · rw [if_neg h2]
      by_cases h3 : (l.length : Int) = dim
      · have := check_l l hl l.length k 0 (by omega) (by omega) (by omega)
        simp only [fixvec_Check.j0, h3, bne_self_eq_false, Bool.false_eq_true, if_false]
        rw [h3] at this
        simp only [List.drop_zero, Int.natCast_zero] at this
        rw [this]
        simp [h1, h2]
      · have : ((l.length : Int) != dim) = true := bne_iff_ne.mpr h3
        simp [fixvec_Check.j0, this, h3]
theorem rcheck_l (l : List Int) (hl : l.length ≤ 140737488351232) (d : Nat) : ∀ (k i : Nat), i ≤ l.length → l.length - i = d → d < k →
    lodestarref01_Check.l0 k l (i : Int) = some (if ∀ x ∈ l.drop i, okp x then 0 else 11) := by
  induction d with
  | zero =>
    intro k i hi hd hk
    obtain ⟨k, rfl⟩ : ∃ m, k = m + 1 := ⟨k - 1, by omega⟩
    simp only [lodestarref01_Check.l0]
    rw [if_neg (by omega), List.drop_eq_nil_of_le (by omega)]
    simp
  | succ d ih =>
    intro k i hi hd hk
    obtain ⟨k, rfl⟩ : ∃ m, k = m + 1 := ⟨k - 1, by omega⟩
    have h1 := ih k (i + 1) (by omega) (by omega) (by omega)
    simp only [lodestarref01_Check.l0]
    rw [if_pos (by omega), if_pos (by omega), drop_at l i (by omega), w64 (by omega) (by omega)]
    by_cases hb : rd l (i : Int) > 1048576
    · rw [if_pos hb, if_neg]
      intro h
      have := (h _ (List.mem_cons_self)).2
      omega
    · rw [if_neg hb]
      by_cases ha : rd l (i : Int) < -1048576
      · rw [if_pos ha, if_neg]
        intro h
        have := (h _ (List.mem_cons_self)).1
        omega
      · rw [if_neg ha]
        have h2 : ((i : Int) + 1) = ((i + 1 : Nat) : Int) := by omega
        rw [h2, h1]
        congr 1
        simp only [List.forall_mem_cons]
        have h3 : okp (rd l (i : Int)) := ⟨by omega, by omega⟩
        simp [h3]
theorem rcheck_f (l : List Int) (dim : Int) (hl : l.length ≤ 140737488351232) (k : Nat) (hk : l.length + 2 ≤ k) : lodestarref01_Check.f k l dim = some (chk l dim) := by
  obtain ⟨k, rfl⟩ : ∃ m, k = m + 1 := ⟨k - 1, by omega⟩
  unfold lodestarref01_Check.f chk
  by_cases h1 : dim < 1
  · rw [if_pos h1]; simp [lodestarref01_Check.j0, h1]
  · rw [if_neg h1]
    by_cases h2 : dim > 16
    · rw [if_pos h2]; simp [lodestarref01_Check.j0, h2]
    · rw [if_neg h2]
      by_cases h3 : (l.length : Int) = dim
      · have := rcheck_l l hl l.length k 0 (by omega) (by omega) (by omega)
        simp only [lodestarref01_Check.j0, h3, bne_self_eq_false, Bool.false_eq_true, if_false]
        simp only [List.drop_zero, Int.natCast_zero] at this
        rw [this]
        simp [h1, h2]
      · have : ((l.length : Int) != dim) = true := bne_iff_ne.mpr h3
        simp [lodestarref01_Check.j0, this, h3]

/-- The sum of the squares; of the products. -/
def sqs : List Int → List Int → Int
  | a :: l, b :: m => (a - b) * (a - b) + sqs l m
  | _, _ => 0
def prs : List Int → List Int → Int
  | a :: l, b :: m => a * b + prs l m
  | _, _ => 0
theorem sq_le {d B : Int} (h0 : -B ≤ d) (h1 : d ≤ B) : d * d ≤ B * B := by
  have h := Int.mul_nonneg (show 0 ≤ B - d by omega) (show 0 ≤ B + d by omega)
  have e : (B - d) * (B + d) = B * B - d * d := by grind
  omega
theorem sq_nonneg (d : Int) : 0 ≤ d * d := by
  rcases Int.le_total 0 d with h | h
  · exact Int.mul_nonneg h h
  · exact Int.mul_nonneg_of_nonpos_of_nonpos h h
theorem mul_bd {a b B : Int} (ha0 : -B ≤ a) (ha1 : a ≤ B) (hb0 : -B ≤ b) (hb1 : b ≤ B) : -(B * B) ≤ a * b ∧ a * b ≤ B * B := by
  have h1 := Int.mul_nonneg (show 0 ≤ B - a by omega) (show 0 ≤ B + b by omega)
  have h2 := Int.mul_nonneg (show 0 ≤ B + a by omega) (show 0 ≤ B - b by omega)
  have h3 := Int.mul_nonneg (show 0 ≤ B - a by omega) (show 0 ≤ B - b by omega)
  have h4 := Int.mul_nonneg (show 0 ≤ B + a by omega) (show 0 ≤ B + b by omega)
  have e1 : (B - a) * (B + b) + (B + a) * (B - b) = 2 * (B * B) - 2 * (a * b) := by grind
  have e2 : (B - a) * (B - b) + (B + a) * (B + b) = 2 * (B * B) + 2 * (a * b) := by grind
  constructor <;> omega
theorem sqs_bd : ∀ (l m : List Int), (∀ x ∈ l, okp x) → (∀ x ∈ m, okp x) → 0 ≤ sqs l m ∧ sqs l m ≤ l.length * 4398046511104
  | [], m, _, _ => by cases m <;> simp [sqs]
  | a :: l, [], _, _ => by simp only [sqs]; constructor <;> omega
  | a :: l, b :: m, hl, hm => by
    obtain ⟨h1, h2⟩ := sqs_bd l m (fun x hx => hl x (List.mem_cons_of_mem _ hx)) (fun x hx => hm x (List.mem_cons_of_mem _ hx))
    have ha := hl a List.mem_cons_self
    have hb := hm b List.mem_cons_self
    unfold okp at ha hb
    have h3 := sq_le (d := a - b) (B := 2097152) (by omega) (by omega)
    have h4 := sq_nonneg (a - b)
    simp only [sqs, List.length_cons]
    constructor <;> omega
theorem prs_bd : ∀ (l m : List Int), (∀ x ∈ l, okp x) → (∀ x ∈ m, okp x) → -(l.length * 1099511627776) ≤ prs l m ∧ prs l m ≤ l.length * 1099511627776
  | [], m, _, _ => by cases m <;> simp [prs]
  | a :: l, [], _, _ => by simp only [prs]; constructor <;> omega
  | a :: l, b :: m, hl, hm => by
    obtain ⟨h1, h2⟩ := prs_bd l m (fun x hx => hl x (List.mem_cons_of_mem _ hx)) (fun x hx => hm x (List.mem_cons_of_mem _ hx))
    have ha := hl a List.mem_cons_self
    have hb := hm b List.mem_cons_self
    unfold okp at ha hb
    have h3 := mul_bd (a := a) (b := b) (B := 1048576) (by omega) (by omega) (by omega) (by omega)
    simp only [prs, List.length_cons]
    constructor <;> omega
/-- Both vectors may be, and are as long. -/
def both (l m : List Int) : Prop := 1 ≤ l.length ∧ l.length ≤ 16 ∧ m.length = l.length ∧ (∀ x ∈ l, okp x) ∧ ∀ x ∈ m, okp x
theorem okp_rd {l : List Int} (h : ∀ x ∈ l, okp x) {i : Nat} (hi : i < l.length) : okp (rd l (i : Int)) := by
  rw [rd_at l i hi]; exact h _ (List.getElem_mem hi)
theorem square_l (l m : List Int) (h : both l m) (d : Nat) : ∀ (k i : Nat) (s : Int), i ≤ l.length → l.length - i = d → d < k → 0 ≤ s → s ≤ i * 4398046511104 →
    fixvec_square.l0 k m s l (l.length : Int) (i : Int) = some (s + sqs (l.drop i) (m.drop i)) := by
  obtain ⟨b1, b2, b3, b4, b5⟩ := h
  induction d with
  | zero =>
    intro k i s hi hd hk _ _
    obtain ⟨k, rfl⟩ : ∃ m, k = m + 1 := ⟨k - 1, by omega⟩
    simp only [fixvec_square.l0]
    rw [if_neg (by omega), List.drop_eq_nil_of_le (by omega)]
    simp [sqs]
  | succ d ih =>
    intro k i s hi hd hk hs0 hs1
    obtain ⟨k, rfl⟩ : ∃ m, k = m + 1 := ⟨k - 1, by omega⟩
    have ha := okp_rd b4 (i := i) (by omega)
    have hb := okp_rd b5 (i := i) (by omega)
    rw [drop_at l i (by omega), drop_at m i (by omega)]
    simp only [fixvec_square.l0]
    generalize rd l (i : Int) = x at *
    generalize rd m (i : Int) = y at *
    unfold okp at ha hb
    have h3 := sq_le (d := x - y) (B := 2097152) (by omega) (by omega)
    have h4 := sq_nonneg (x - y)
    rw [if_pos (by omega), if_pos (by omega), if_pos (by omega), if_pos (by omega), w64 (x := x) (by omega) (by omega), w64 (x := y) (by omega) (by omega), w64 (x := x - y) (by omega) (by omega), w64 (x := (x - y) * (x - y)) (by omega) (by omega), w64 (x := s + (x - y) * (x - y)) (by omega) (by omega), w64 (x := (i : Int) + 1) (by omega) (by omega)]
    have h2 : ((i : Int) + 1) = ((i + 1 : Nat) : Int) := by omega
    rw [h2, ih k (i + 1) _ (by omega) (by omega) (by omega) (by omega) (by omega)]
    simp only [sqs]
    congr 1
    omega
theorem square_f (l m : List Int) (h : both l m) (k : Nat) (hk : 17 ≤ k) : fixvec_square.f k l m = some (sqs l m) := by
  have := square_l l m h l.length k 0 0 (by omega) (by omega) (by have := h.2.1; omega) (by omega) (by omega)
  unfold fixvec_square.f
  simp only [List.drop_zero, Int.natCast_zero, Int.zero_add] at this
  exact this
theorem minus_l (l m : List Int) (h : both l m) (d : Nat) : ∀ (k i : Nat) (s : Int), i ≤ l.length → l.length - i = d → d < k → -(i * 1099511627776) ≤ s → s ≤ i * 1099511627776 →
    fixvec_minus.l0 k m s l (l.length : Int) (i : Int) = some (s - prs (l.drop i) (m.drop i)) := by
  obtain ⟨b1, b2, b3, b4, b5⟩ := h
  induction d with
  | zero =>
    intro k i s hi hd hk _ _
    obtain ⟨k, rfl⟩ : ∃ m, k = m + 1 := ⟨k - 1, by omega⟩
    simp only [fixvec_minus.l0]
    rw [if_neg (by omega), List.drop_eq_nil_of_le (by omega)]
    simp [prs]
  | succ d ih =>
    intro k i s hi hd hk hs0 hs1
    obtain ⟨k, rfl⟩ : ∃ m, k = m + 1 := ⟨k - 1, by omega⟩
    have ha := okp_rd b4 (i := i) (by omega)
    have hb := okp_rd b5 (i := i) (by omega)
    rw [drop_at l i (by omega), drop_at m i (by omega)]
    simp only [fixvec_minus.l0]
    generalize rd l (i : Int) = x at *
    generalize rd m (i : Int) = y at *
    unfold okp at ha hb
    have h3 := mul_bd (a := x) (b := y) (B := 1048576) (by omega) (by omega) (by omega) (by omega)
    rw [if_pos (by omega), if_pos (by omega), if_pos (by omega), if_pos (by omega), w64 (x := x) (by omega) (by omega), w64 (x := y) (by omega) (by omega), w64 (x := x * y) (by omega) (by omega), w64 (x := s - x * y) (by omega) (by omega), w64 (x := (i : Int) + 1) (by omega) (by omega)]
    have h2 : ((i : Int) + 1) = ((i + 1 : Nat) : Int) := by omega
    rw [h2, ih k (i + 1) _ (by omega) (by omega) (by omega) (by omega) (by omega)]
    simp only [prs]
    congr 1
    omega
theorem minus_f (l m : List Int) (h : both l m) (k : Nat) (hk : 17 ≤ k) : fixvec_minus.f k l m = some (-prs l m) := by
  have := minus_l l m h l.length k 0 0 (by omega) (by omega) (by have := h.2.1; omega) (by omega) (by omega)
  unfold fixvec_minus.f
  simp only [List.drop_zero, Int.natCast_zero, Int.zero_sub] at this
  exact this
instance (l m : List Int) : Decidable (both l m) := by unfold both; exact inferInstance
theorem chk_own (l : List Int) : chk l (l.length : Int) = 0 ↔ 1 ≤ l.length ∧ l.length ≤ 16 ∧ ∀ x ∈ l, okp x := by
  unfold chk
  by_cases h : (l.length : Int) < 1 ∨ (l.length : Int) > 16 ∨ (l.length : Int) ≠ l.length
  · rw [if_pos h]; constructor
    · intro h; omega
    · rintro ⟨_, _, _⟩; omega
  · rw [if_neg h]
    by_cases h2 : ∀ x ∈ l, okp x
    · rw [if_pos h2]; exact ⟨fun _ => ⟨by omega, by omega, h2⟩, fun _ => rfl⟩
    · rw [if_neg h2]; exact ⟨fun h => by omega, fun h => absurd h.2.2 h2⟩
theorem chk_other (l m : List Int) (h : 1 ≤ l.length ∧ l.length ≤ 16) : chk m (l.length : Int) = 0 ↔ m.length = l.length ∧ ∀ x ∈ m, okp x := by
  unfold chk
  by_cases h1 : (l.length : Int) < 1 ∨ (l.length : Int) > 16 ∨ (m.length : Int) ≠ l.length
  · rw [if_pos h1]; constructor
    · intro h; omega
    · rintro ⟨_, _⟩; omega
  · rw [if_neg h1]
    by_cases h2 : ∀ x ∈ m, okp x
    · rw [if_pos h2]; exact ⟨fun _ => ⟨by omega, h2⟩, fun _ => rfl⟩
    · rw [if_neg h2]; exact ⟨fun h => by omega, fun h => absurd h.2 h2⟩
/-- 'Dist', as the document has it. -/
def dist (a0 : Int) (l m : List Int) : Int × Bool := if a0 ≤ 1 ∧ both l m then (if a0 = 0 then sqs l m else -prs l m, true) else (0, false)
theorem dist_f (a0 : Int) (h0 : 0 ≤ a0) (l m : List Int) (hl : l.length ≤ 140737488351232) (hm : m.length ≤ 140737488351232) (k : Nat) (hk : l.length + m.length + 17 ≤ k) : fixvec_Dist.f k a0 l m = some (dist a0 l m) := by
  unfold fixvec_Dist.f dist
  by_cases h1 : a0 > 1
  · rw [if_pos h1, if_neg (by omega)]
  · rw [if_neg h1, check_f l _ hl k (by omega)]
    simp only [Option.bind_some]
    by_cases c1 : chk l (l.length : Int) = 0
    · rw [if_pos c1, check_f m _ hm k (by omega)]
      simp only [Option.bind_some]
      have c := (chk_own l).1 c1
      by_cases c2 : chk m (l.length : Int) = 0
      · have d := (chk_other l m ⟨c.1, c.2.1⟩).1 c2
        have b : both l m := ⟨c.1, c.2.1, d.1, c.2.2, d.2⟩
        have hc : a0 ≤ 1 ∧ both l m := ⟨by omega, b⟩
        rw [if_pos c2, if_pos hc]
        by_cases h2 : a0 = 0
        · rw [if_pos h2, if_pos h2, square_f l m b k (by omega)]; rfl
        · rw [if_neg h2, if_neg h2, if_pos (show a0 = 1 by omega), minus_f l m b k (by omega)]; rfl
      · rw [if_neg c2, if_neg]
        rintro ⟨_, b⟩
        exact c2 ((chk_other l m ⟨b.1, b.2.1⟩).2 ⟨b.2.2.1, b.2.2.2.2⟩)
    · rw [if_neg c1, if_neg]
      rintro ⟨_, b⟩
      exact c1 ((chk_own l).2 ⟨b.1, b.2.1, b.2.2.2.1⟩)
theorem alive_f (k : Nat) (hk : 40 ≤ k) : lodestarlaw01_alive.f k = some true := by
  unfold lodestarlaw01_alive.f
  rw [dist_f 0 (by omega) _ _ (by simp) (by simp) k (by simp; omega), dist_f 1 (by omega) _ _ (by simp) (by simp) k (by simp; omega), check_f _ _ (by simp) k (by simp; omega)]
  have e1 : dist 0 [1, 2] [4, 6] = (25, true) := by decide
  have e2 : dist 1 [1, 2] [4, 6] = (-16, true) := by decide
  have e3 : chk [1] 1 = 0 := by decide
  rw [e1, e2, e3]
  rfl
theorem both_symm {l m : List Int} (h : both l m) : both m l := ⟨by have := h.1; have := h.2.2.1; omega, by have := h.2.1; have := h.2.2.1; omega, h.2.2.1.symm, h.2.2.2.2, h.2.2.2.1⟩
theorem sqs_symm : ∀ l m : List Int, sqs l m = sqs m l
  | [], m => by cases m <;> rfl
  | a :: l, [] => rfl
  | a :: l, b :: m => by simp only [sqs, sqs_symm l m]; grind
theorem prs_symm : ∀ l m : List Int, prs l m = prs m l
  | [], m => by cases m <;> rfl
  | a :: l, [] => rfl
  | a :: l, b :: m => by simp only [prs, prs_symm l m]; grind
theorem dist_symm (a0 : Int) (l m : List Int) : dist a0 l m = dist a0 m l := by
  unfold dist
  by_cases h : a0 ≤ 1 ∧ both l m
  · have h' : a0 ≤ 1 ∧ both m l := ⟨h.1, both_symm h.2⟩
    rw [if_pos h, if_pos h', sqs_symm, prs_symm]
  · rw [if_neg h, if_neg (fun g => h ⟨g.1, both_symm g.2⟩)]
end Go.Proofs.Ytbfocfdnejddpaa.Fix
