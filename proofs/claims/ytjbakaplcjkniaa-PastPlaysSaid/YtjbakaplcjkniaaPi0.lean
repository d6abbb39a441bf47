/- Pipe: pieces and bytes, in plain Lean. No condition. -/
namespace Go.Proofs.Ytjbakaplcjkniaa.Pi
/-- Pieces: bytes and the tick when they are due. -/
abbrev Pcs := List (List Int × Int)
def bytes (L : Pcs) : List Int := L.flatMap (fun x => x.1)
def ats (L : Pcs) : List Int := L.flatMap (fun x => List.replicate x.1.length x.2)
def total (L : Pcs) : Nat := (bytes L).length
@[simp] theorem bytes_nil : bytes [] = [] := rfl
@[simp] theorem bytes_cons (x : List Int × Int) (L : Pcs) : bytes (x :: L) = x.1 ++ bytes L := rfl
@[simp] theorem ats_nil : ats [] = [] := rfl
@[simp] theorem ats_cons (x : List Int × Int) (L : Pcs) : ats (x :: L) = List.replicate x.1.length x.2 ++ ats L := rfl
theorem bytes_append (L M : Pcs) : bytes (L ++ M) = bytes L ++ bytes M := by simp [bytes]
theorem ats_append (L M : Pcs) : ats (L ++ M) = ats L ++ ats M := by simp [ats]
theorem ats_len (L : Pcs) : (ats L).length = (bytes L).length := by
  induction L with
  | nil => rfl
  | cons x L ih => simp [ih]
@[simp] theorem total_nil : total [] = 0 := rfl
@[simp] theorem total_cons (x : List Int × Int) (L : Pcs) : total (x :: L) = x.1.length + total L := by simp [total]
theorem total_append (L M : Pcs) : total (L ++ M) = total L + total M := by simp [total, bytes_append]
/-- How much is due: the pieces up to the first that is not. -/
def dueN (now : Int) (A : List Int) : Nat := (A.takeWhile (fun d => decide (d ≤ now))).length
/-- A take of at most m bytes. -/
def takeP (now : Int) : Nat → Pcs → List Int × Pcs
  | _, [] => ([], [])
  | m, (b, d) :: L => if m = 0 ∨ now < d then ([], (b, d) :: L) else if m < b.length then (b.take m, (b.drop m, d) :: L) else (b ++ (takeP now (m - b.length) L).1, (takeP now (m - b.length) L).2)
theorem dueN_le (now : Int) (A : List Int) : dueN now A ≤ A.length := (List.takeWhile_prefix _).length_le
theorem dueN_rep (now d : Int) (n : Nat) (A : List Int) : dueN now (List.replicate n d ++ A) = if d ≤ now then n + dueN now A else 0 + (if n = 0 then dueN now A else 0) := by
  induction n with
  | zero => by_cases h : d ≤ now <;> simp [h]
  | succ n ih =>
    unfold dueN at *
    rw [List.replicate_succ, List.cons_append, List.takeWhile_cons]
    by_cases h : d ≤ now
    · simp only [h, decide_true, if_true, List.length_cons] at ih ⊢
      omega
    · simp [h]
/-- No piece is empty. -/
def Full (L : Pcs) : Prop := ∀ x ∈ L, 0 < x.1.length
theorem Full.tail {x : List Int × Int} {L : Pcs} (h : Full (x :: L)) : Full L := fun y hy => h y (List.mem_cons_of_mem _ hy)
theorem Full.head {x : List Int × Int} {L : Pcs} (h : Full (x :: L)) : 0 < x.1.length := h x List.mem_cons_self
/-- A take takes the first bytes, as many as are due and asked. -/
theorem take_bytes (now : Int) : ∀ (L : Pcs) (m : Nat), Full L →
    (takeP now m L).1 = (bytes L).take (min m (dueN now (ats L))) ∧ bytes (takeP now m L).2 = (bytes L).drop (min m (dueN now (ats L))) ∧ ats (takeP now m L).2 = (ats L).drop (min m (dueN now (ats L))) ∧ Full (takeP now m L).2 := by
  intro L
  induction L with
  | nil => intro m _; simp [takeP, Full]
  | cons x L ih =>
    obtain ⟨b, d⟩ := x
    intro m hf
    have hb : 0 < b.length := hf.head
    rw [takeP, bytes_cons, ats_cons, dueN_rep]
    dsimp only
    by_cases h0 : m = 0 ∨ now < d
    · rw [if_pos h0]
      have hk : min m (if d ≤ now then b.length + dueN now (ats L) else 0 + if b.length = 0 then dueN now (ats L) else 0) = 0 := by
        rcases h0 with h0 | h0
        · omega
        · rw [if_neg (by omega), if_neg (by omega)]; omega
      rw [hk]
      exact ⟨by simp, by simp, by simp, hf⟩
    · rw [if_neg h0]
      have hd : d ≤ now := by omega
      rw [if_pos hd]
      by_cases h1 : m < b.length
      · rw [if_pos h1, show min m (b.length + dueN now (ats L)) = m by omega]
        refine ⟨by rw [List.take_append_of_le_length (by omega)], by rw [bytes_cons, List.drop_append_of_le_length (by omega)], ?_, ?_⟩
        · rw [ats_cons, List.drop_append_of_le_length (by rw [List.length_replicate]; omega), List.drop_replicate, List.length_drop]
        · intro y hy
          rcases List.mem_cons.1 hy with rfl | hy
          · show 0 < (b.drop m).length
            rw [List.length_drop]; omega
          · exact hf.tail y hy
      · rw [if_neg h1]
        obtain ⟨i1, i2, i3, i4⟩ := ih (m - b.length) hf.tail
        have hm : min m (b.length + dueN now (ats L)) = b.length + min (m - b.length) (dueN now (ats L)) := by omega
        rw [hm]
        refine ⟨?_, ?_, ?_, i4⟩
        · rw [i1, List.take_length_add_append]
        · rw [i2, List.drop_length_add_append]
        · rw [i3]
          have h := List.drop_length_add_append (l₁ := List.replicate b.length d) (l₂ := ats L) (i := min (m - b.length) (dueN now (ats L)))
          rw [List.length_replicate] at h
          exact h.symm
/-- The ticks never fall. -/
def Rising (A : List Int) : Prop := A.Pairwise (· ≤ ·)
theorem due_all {now : Int} {A : List Int} (h : Rising A) : dueN now A = A.countP (fun d => decide (d ≤ now)) := by
  unfold dueN
  induction A with
  | nil => rfl
  | cons d A ih =>
    rw [List.takeWhile_cons, List.countP_cons]
    by_cases hd : d ≤ now
    · simp only [hd, decide_true, if_true, List.length_cons]
      rw [ih (List.Pairwise.of_cons h)]
    · have : A.countP (fun d => decide (d ≤ now)) = 0 := by
        rw [List.countP_eq_zero]
        intro y hy
        have := List.rel_of_pairwise_cons h hy
        simp; omega
      simp [hd, this]
theorem count_ats (now : Int) (L : Pcs) : (ats L).countP (fun d => decide (d ≤ now)) = (L.map (fun x => if x.2 ≤ now then x.1.length else 0)).sum := by
  induction L with
  | nil => rfl
  | cons x L ih =>
    rw [ats_cons, List.countP_append, ih, List.countP_replicate]
    by_cases h : x.2 ≤ now <;> simp [h]
/-- What is put in: n bytes of b, due at d, or later where the last is. -/
def putP (L : Pcs) (b : List Int) (d : Int) : Pcs := L ++ [(b, match L.getLast? with | some x => max d x.2 | none => d)]
theorem put_bytes (L : Pcs) (b : List Int) (d : Int) : bytes (putP L b d) = bytes L ++ b := by simp [putP, bytes_append]
theorem put_full {L : Pcs} {b : List Int} {d : Int} (h : Full L) (hb : 0 < b.length) : Full (putP L b d) := by
  intro y hy
  rcases List.mem_append.1 hy with hy | hy
  · exact h y hy
  · rw [List.mem_singleton] at hy; subst hy; exact hb
theorem last_at {L : Pcs} (h : Full L) : (ats L).getLast? = L.getLast?.map (fun x => x.2) := by
  rcases List.eq_nil_or_concat L with rfl | ⟨M, x, rfl⟩
  · rfl
  · have hx : 0 < x.1.length := h x (by simp)
    rw [List.concat_eq_append, ats_append, List.getLast?_append, List.getLast?_append]
    simp [List.getLast?_replicate, show x.1 ≠ [] from by intro e; rw [e] at hx; simp at hx]
theorem put_ats (L : Pcs) (b : List Int) (d : Int) (h : Full L) : ats (putP L b d) = ats L ++ List.replicate b.length (match (ats L).getLast? with | some x => max d x | none => d) := by
  rw [last_at h]
  unfold putP
  rw [ats_append]
  cases L.getLast? <;> simp
theorem put_rising {L : Pcs} {b : List Int} {d : Int} (h : Full L) (hr : Rising (ats L)) : Rising (ats (putP L b d)) := by
  rw [put_ats L b d h]
  unfold Rising at *
  rw [List.pairwise_append]
  refine ⟨hr, List.pairwise_replicate.2 (.inr (Int.le_refl _)), fun x hx y hy => ?_⟩
  rw [List.mem_replicate] at hy
  obtain ⟨_, rfl⟩ := hy
  rcases List.eq_nil_or_concat (ats L) with e | ⟨M, z, e⟩
  · rw [e] at hx; simp at hx
  · rw [e] at hx hr ⊢
    rw [List.concat_eq_append] at hx hr ⊢
    have hz : x ≤ z := by
      rcases List.mem_append.1 hx with hx | hx
      · exact (List.pairwise_append.1 hr).2.2 x hx z (by simp)
      · rw [List.mem_singleton] at hx; subst hx; exact Int.le_refl _
    rw [show (M ++ [z]).getLast? = some z by simp]
    exact Int.le_trans hz (Int.le_max_right d z)
theorem take_rising {now : Int} {m : Nat} {L : Pcs} (h : Full L) (hr : Rising (ats L)) : Rising (ats (takeP now m L).2) := by
  rw [(take_bytes now L m h).2.2.1]
  exact List.Pairwise.sublist (List.drop_sublist _ _) hr
end Go.Proofs.Ytjbakaplcjkniaa.Pi
