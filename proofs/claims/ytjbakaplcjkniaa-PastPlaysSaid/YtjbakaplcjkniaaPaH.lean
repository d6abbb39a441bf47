/- Past: the last row of an id that fits, in plain Lean; what a sweep leaves of it. No condition. -/
import Derived.Test.YtjbakaplcjkniaaPaG
namespace Go.Proofs.Ytjbakaplcjkniaa.Pa
set_option linter.unusedVariables false
set_option linter.unusedSimpArgs false
def fitR (id v : Int) (x : Row) : Bool := decide (x.id = id) && decide (x.v ≤ v)
/-- The last row of an id whose version fits. -/
def lastFit (L : List Row) (id v : Int) : Option Row := (L.filter (fitR id v)).getLast?
theorem lastFit_append (L E : List Row) (id v : Int) : lastFit (L ++ E) id v = (lastFit E id v).or (lastFit L id v) := by
  unfold lastFit
  rw [List.filter_append, List.getLast?_append]
theorem nowTo_last (L : List Row) (v id : Int) : ∀ k, k ≤ L.length → (nowTo L v k id).bind (fun i => L[i]?) = lastFit (L.take k) id v := by
  intro k
  induction k with
  | zero => intro _; rfl
  | succ k ih =>
    intro hk
    have hk' : k < L.length := by omega
    have hx : L[k]? = some L[k] := List.getElem?_eq_getElem hk'
    rw [List.take_succ_eq_append_getElem hk', lastFit_append, nowTo_succ, ← ih (by omega)]
    unfold isId fitsAt lastFit
    rw [hx]
    by_cases h : fitR id v L[k] = true
    · have h2 := h
      unfold fitR at h2
      rw [Bool.and_eq_true] at h2
      rw [if_pos h2]
      simp [h, hx]
    · have h2 := h
      unfold fitR at h2
      rw [Bool.and_eq_true] at h2
      rw [if_neg h2]
      simp [h]
theorem atP_last (L : List Row) (id v : Int) : (atP L id v).bind (fun i => L[i]?) = lastFit L id v := by
  have := nowTo_last L v id L.length (Nat.le_refl _)
  rw [List.take_length] at this
  exact this
theorem there_iff (L : List Row) (v : Int) (x : Row) : (∃ i, L[i]? = some x ∧ atP L x.id v = some i ∧ x.gone = false) ↔ lastFit L x.id v = some x ∧ x.gone = false := by
  rw [← atP_last]
  constructor
  · rintro ⟨i, h1, h2, h3⟩
    rw [h2]
    exact ⟨h1, h3⟩
  · rintro ⟨h1, h2⟩
    cases e : atP L x.id v with
    | none => rw [e] at h1; cases h1
    | some i => rw [e] at h1; exact ⟨i, h1, rfl, h2⟩
theorem nowTo_max {L : List Row} {v id : Int} : ∀ {k : Nat} {o : Option Nat}, nowTo L v k id = o → ∀ i, i < k → (∀ j, o = some j → j < i) → ¬ (isId L id i = true ∧ fitsAt L v i = true) := by
  intro k
  induction k with
  | zero => intro o _ i hi; omega
  | succ k ih =>
    intro o ho i hi hj hc
    rw [nowTo_succ] at ho
    by_cases h : isId L id k = true ∧ fitsAt L v k = true
    · rw [if_pos h] at ho
      have := hj k ho.symm
      omega
    · rw [if_neg h] at ho
      by_cases e : i = k
      · subst e; exact h hc
      · exact ih ho i (by omega) hj hc
theorem stays_split (L : List Row) (nd : Nat → Bool) (m : Nat) : ∀ k, m ≤ k → ∃ E, stays L nd k = stays L nd m ++ E ∧ ∀ y ∈ E, ∃ i, m ≤ i ∧ i < k ∧ L[i]? = some y := by
  intro k
  induction k with
  | zero => intro h; have : m = 0 := by omega
            subst this; exact ⟨[], by simp, fun y hy => by simp at hy⟩
  | succ k ih =>
    intro h
    by_cases e : m = k + 1
    · subst e; exact ⟨[], by simp, fun y hy => by simp at hy⟩
    · obtain ⟨E, h1, h2⟩ := ih (by omega)
      have h3 : ∀ y ∈ E, ∃ i, m ≤ i ∧ i < k + 1 ∧ L[i]? = some y := fun y hy => by
        obtain ⟨i, a, b, c⟩ := h2 y hy
        exact ⟨i, a, by omega, c⟩
      obtain ⟨M, hM⟩ : ∃ z, stays L nd m = z := ⟨_, rfl⟩
      rw [hM] at h1 ⊢
      unfold stays
      split
      · exact ⟨E, h1, h3⟩
      · next x hx =>
        split
        · refine ⟨E ++ [x], by rw [h1, List.append_assoc], fun y hy => ?_⟩
          rcases List.mem_append.1 hy with hy | hy
          · exact h3 y hy
          · rw [List.mem_singleton] at hy
            subst hy
            exact ⟨k, by omega, by omega, hx⟩
        · exact ⟨E, h1, h3⟩
theorem lastFit_none {L : List Row} {id v : Int} (h : ∀ x ∈ L, ¬ (x.id = id ∧ x.v ≤ v)) : lastFit L id v = none := by
  unfold lastFit
  rw [List.filter_eq_nil_iff.2]
  · rfl
  · intro x hx
    unfold fitR
    rw [Bool.and_eq_true, decide_eq_true_eq, decide_eq_true_eq]
    exact h x hx
/-- What a sweep leaves of an id's row at a version that it keeps. -/
theorem stays_last_fit {L : List Row} {nd : Nat → Bool} {id v : Int} (hn : ∀ j, atP L id v = some j → nd j = true) (x : Row) : (lastFit (stays L nd L.length) id v = some x ∧ x.gone = false) ↔ (lastFit L id v = some x ∧ x.gone = false) := by
  have hlate : ∀ {m : Nat} {E : List Row}, (∀ y ∈ E, ∃ i, m ≤ i ∧ i < L.length ∧ L[i]? = some y) → (∀ j, atP L id v = some j → j < m) → lastFit E id v = none := by
    intro m E hE hm
    refine lastFit_none (fun y hy hc => ?_)
    obtain ⟨i, h1, h2, h3⟩ := hE y hy
    refine nowTo_max (nowTo_all L v id) i h2 (fun j hj => by have := hm j hj; omega) ?_
    unfold isId fitsAt
    rw [h3]
    simp [hc.1, hc.2]
  cases e : atP L id v with
  | none =>
    obtain ⟨E, h1, h2⟩ := stays_split L nd 0 L.length (Nat.zero_le _)
    have h3 : lastFit (stays L nd L.length) id v = none := by
      rw [h1]
      exact hlate (m := 0) (by simpa [stays] using h2) (fun j hj => by rw [e] at hj; cases hj)
    rw [h3, ← atP_last, e]
    simp
  | some j =>
    obtain ⟨y, hy, hid, hv⟩ := atP_some e
    have hj := atP_lt e
    obtain ⟨E, h1, h2⟩ := stays_split L nd (j + 1) L.length (by omega)
    have h3 := hlate (m := j + 1) h2 (fun i hi => by rw [e] at hi; injection hi with hi; omega)
    have h4 : lastFit L id v = some y := by rw [← atP_last, e]; exact hy
    rw [h1, lastFit_append, h3, h4, Option.none_or]
    have h5 : stays L nd (j + 1) = if (nd j && (!y.gone || (stays L nd j).any fun z => decide (z.id = y.id))) = true then stays L nd j ++ [y] else stays L nd j := by
      show (match L[j]? with | none => _ | some x => _) = _
      rw [hy]
    rw [h5, hn j e]
    by_cases hc : (true && (!y.gone || (stays L nd j).any fun z => decide (z.id = y.id))) = true
    · rw [if_pos hc, lastFit_append]
      have h6 : lastFit [y] id v = some y := by unfold lastFit fitR; simp [hid, hv]
      rw [h6]
      rfl
    · rw [if_neg hc]
      have hc2 : y.gone = true ∧ ((stays L nd j).any fun z => decide (z.id = y.id)) = false := by
        cases hg : y.gone <;> cases ha : ((stays L nd j).any fun z => decide (z.id = y.id)) <;> simp [hg, ha] at hc ⊢
      have h7 : lastFit (stays L nd j) id v = none := by
        refine lastFit_none (fun z hz hcz => ?_)
        have := List.any_eq_false.1 hc2.2 z hz
        simp at this
        exact this (hcz.1.trans hid.symm)
      rw [h7]
      constructor
      · rintro ⟨h, _⟩; cases h
      · rintro ⟨h, hg⟩
        injection h with h
        subst h
        rw [hc2.1] at hg
        cases hg
theorem atP_high {L : List Row} {id v last : Int} (hl : ∀ x ∈ L, x.v ≤ last) (hv : last ≤ v) : atP L id v = atP L id last := by
  have e : fitsAt L v = fitsAt L last := by
    funext i
    unfold fitsAt
    cases h : L[i]? with
    | none => rfl
    | some x =>
      have := hl x (List.mem_of_getElem? h)
      dsimp only
      rw [decide_eq_true (show x.v ≤ v by omega), decide_eq_true this]
  unfold atP
  rw [e]
/-- A sweep changes nothing of what is told of versions that are kept, or not below the last one. -/
theorem AllIs.swept {s : St} {keep : List Int} {E : List Row} {v : Int} {R R' : List Row} (hl : ∀ x ∈ s.L, x.v ≤ s.last) (hv : v ∈ s.kept keep ∨ s.last ≤ v) (h : AllIs (s.stay keep ++ E) v R) (h' : AllIs (s.L ++ E) v R') : R = R' := by
  refine h.eq h' (fun x => ?_)
  rw [there_iff, there_iff, lastFit_append, lastFit_append]
  cases lastFit E x.id v with
  | some y => exact Iff.rfl
  | none =>
    rw [Option.none_or, Option.none_or]
    refine stays_last_fit (fun j hj => ?_) x
    show (s.kept keep ++ [s.last]).any (fun u => needAt s.L u j) = true
    rw [List.any_eq_true]
    rcases hv with hv | hv
    · exact ⟨v, List.mem_append_left _ hv, (needAt_iff _ _ _).2 ⟨_, hj⟩⟩
    · exact ⟨s.last, by simp, (needAt_iff _ _ _).2 ⟨_, by rw [← atP_high hl hv]; exact hj⟩⟩
end Go.Proofs.Ytjbakaplcjkniaa.Pa
