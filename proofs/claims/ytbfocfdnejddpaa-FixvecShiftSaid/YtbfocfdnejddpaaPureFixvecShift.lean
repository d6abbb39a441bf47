/- The plain law of FixvecShift: what is put to both vectors, part by part, changes nothing of the squares, as long as all may be. No condition beyond the statement's own. -/
import Derived.Test.YtbfocfdnejddpaaQx3
import Derived.Test.YtbfocfdnejddpaaFix
namespace Go.Proofs.Ytbfocfdnejddpaa.Pure
open Go.RowKit Go.Proofs.Ytbfocfdnejddpaa.Q Go.Proofs.YtbfocfdnejddpaaW.PrintWords Go.Proofs.YtbfocfdnejddpaaW.PrintLast Go.Proofs.Ytbfocfdnejddpaa.Fix
theorem w32 {x : Int} (h0 : -2147483648 ≤ x) (h1 : x ≤ 2147483647) : wrap32 x = x := by unfold wrap32; omega
theorem sqs_snoc : ∀ (l m : List Int) (a b : Int), l.length = m.length → sqs (l ++ [a]) (m ++ [b]) = sqs l m + (a - b) * (a - b) := by
  intro l
  induction l with
  | nil => intro m a b h; cases m with | nil => simp [sqs] | cons c m => simp at h
  | cons c l ih =>
    intro m a b h
    cases m with
    | nil => simp at h
    | cons d m =>
      have := ih m a b (by simpa using h)
      simp only [List.cons_append, sqs, this]
      omega
theorem i32_of (x : Int) (h : (Lit.int .i32 x).wf = true) : -2147483648 ≤ x ∧ x ≤ 2147483647 := by
  simp [Lit.wf, IntKind.min, IntKind.max, IntKind.bits, IntKind.signed] at h; omega
theorem take_at (l : List Int) (i : Nat) (h : i < l.length) : l.take (i + 1) = l.take i ++ [rd l (i : Int)] := by
  rw [rd_at l i h]; exact List.take_succ_eq_append_getElem h
theorem shift_l (l m s : List Int) (h1 : m.length = l.length) (h2 : s.length = l.length) (h3 : l.length ≤ 16)
    (hl : ∀ x ∈ l, (Lit.int .i32 x).wf = true) (hm : ∀ x ∈ m, (Lit.int .i32 x).wf = true) (hs : ∀ x ∈ s, (Lit.int .i32 x).wf = true) (d : Nat) :
    ∀ (k i : Nat) (x y : List Int), i ≤ l.length → l.length - i = d → d + 60 < k → x.length = i → y.length = i → (∀ z ∈ x, okp z) → (∀ z ∈ y, okp z) → sqs x y = sqs (l.take i) (m.take i) →
    lodestarlaw01_FixvecShift.l0 k l m s x y (i : Int) = some true := by
  induction d with
  | zero =>
    intro k i x y hi hd hk hx hy ox oy he
    obtain ⟨k, rfl⟩ : ∃ m, k = m + 1 := ⟨k - 1, by omega⟩
    simp only [lodestarlaw01_FixvecShift.l0]
    rw [if_neg (by omega), dist_f 0 (by omega) l m (by omega) (by omega) _ (by omega), dist_f 0 (by omega) x y (by omega) (by omega) _ (by omega)]
    simp only [Option.bind_some]
    rw [List.take_of_length_le (by omega), List.take_of_length_le (by omega)] at he
    unfold dist
    by_cases b : both l m
    · have b2 : both x y := ⟨by have := b.1; omega, by omega, by omega, ox, oy⟩
      simp [b, b2, he]
    · simp [b]
  | succ d ih =>
    intro k i x y hi hd hk hx hy ox oy he
    obtain ⟨k, rfl⟩ : ∃ m, k = m + 1 := ⟨k - 1, by omega⟩
    have e2 : ((i : Int) + 1) = ((i + 1 : Nat) : Int) := by omega
    have ha := i32_of (rd l (i : Int)) (by rw [rd_at l i (by omega)]; exact hl _ (List.getElem_mem (by omega)))
    have hb := i32_of (rd m (i : Int)) (by rw [rd_at m i (by omega)]; exact hm _ (List.getElem_mem (by omega)))
    have hc := i32_of (rd s (i : Int)) (by rw [rd_at s i (by omega)]; exact hs _ (List.getElem_mem (by omega)))
    have tl := take_at l i (by omega)
    have tm := take_at m i (by omega)
    simp only [lodestarlaw01_FixvecShift.l0]
    generalize rd l (i : Int) = a at *
    generalize rd m (i : Int) = b at *
    generalize rd s (i : Int) = c at *
    rw [if_pos (by omega), if_pos (by omega), if_pos (by omega), if_pos (by omega), w64 (x := a) (by omega) (by omega), w64 (x := b) (by omega) (by omega), w64 (x := c) (by omega) (by omega), w64 (x := a + c) (by omega) (by omega), w64 (x := b + c) (by omega) (by omega), w64 (x := (i : Int) + 1) (by omega) (by omega)]
    split
    · rfl
    split
    · rfl
    split
    · rfl
    split
    · rfl
    rw [if_pos (by omega), if_pos (by omega), w32 (x := a + c) (by omega) (by omega), w32 (x := b + c) (by omega) (by omega), e2]
    refine ih k (i + 1) _ _ (by omega) (by omega) (by omega) (by simp [hx]) (by simp [hy]) ?_ ?_ ?_
    · intro z hz
      rcases List.mem_append.1 hz with hz | hz
      · exact ox z hz
      · rw [List.mem_singleton.1 hz]; exact ⟨by omega, by omega⟩
    · intro z hz
      rcases List.mem_append.1 hz with hz | hz
      · exact oy z hz
      · rw [List.mem_singleton.1 hz]; exact ⟨by omega, by omega⟩
    · rw [sqs_snoc _ _ _ _ (by omega), tl, tm, sqs_snoc _ _ _ _ (by simp; omega), he]
      have : a + c - (b + c) = a - b := by omega
      rw [this]
theorem FixvecShift : lodestarlaw01_FixvecShift.Pure := by
  intro l m s _ hl hwl _ hm hwm _ hs hws
  refine ⟨l.length + m.length + s.length + 100, ?_⟩
  unfold lodestarlaw01_FixvecShift.f
  rw [alive_f _ (by omega)]
  simp only [Option.bind_some, if_true]
  have j : ∀ (k : Nat) (b : Bool), (b = false → m.length = l.length ∧ s.length = l.length ∧ l.length ≤ 16) → l.length + 100 ≤ k → lodestarlaw01_FixvecShift.j0 k l m s b = some true := by
    intro k b hb hk
    obtain ⟨k, rfl⟩ : ∃ m, k = m + 1 := ⟨k - 1, by omega⟩
    simp only [lodestarlaw01_FixvecShift.j0]
    cases b with
    | true => rfl
    | false =>
      obtain ⟨h1, h2, h3⟩ := hb rfl
      rw [if_neg (by simp)]
      exact shift_l l m s h1 h2 h3 hwl hwm hws l.length k 0 [] [] (by omega) (by omega) (by omega) rfl rfl (by simp) (by simp) (by simp)
  split
  · split
    · exact j _ _ (fun h => by have := of_decide_eq_false h; omega) (by omega)
    · exact j _ _ (fun h => by cases h) (by omega)
  · exact j _ _ (fun h => by cases h) (by omega)
end Go.Proofs.Ytbfocfdnejddpaa.Pure
