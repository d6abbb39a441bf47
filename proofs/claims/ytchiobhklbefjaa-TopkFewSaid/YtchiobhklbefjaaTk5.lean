/- Topk: 'New', 'Len', 'Worst'. No condition. -/
import Derived.Test.YtchiobhklbefjaaTk4
import Derived.Test.YtchiobhklbefjaaWMore
import Derived.Laws.ResultCell
namespace Go.Proofs.Ytchiobhklbefjaa.Tk
open Go.RowKit Go.Proofs.YtchiobhklbefjaaW.PrintWords Go.Proofs.YtchiobhklbefjaaW.PrintLast Go.Proofs.YtchiobhklbefjaaW.PrintMore Go.Proofs.Ytchiobhklbefjaa.Q
attribute [local go_sem] max2_int min2_int max_two min_two
set_option linter.unusedVariables false
def clamp (a : Int) : Nat := (max 0 (min a 256)).toNat
/-- The blocks that were made between w and w'. -/
def fresh (w w' : World) (i : Nat) : Prop := w.heap.size ≤ i ∧ i < w'.heap.size
theorem new_best (a c : Int) (w : World) (hc : c = (clamp a : Nat)) : Best (w.alloc (.cells #[.int .i64 c, .slice none 0 0] 107)) (fresh w (w.alloc (.cells #[.int .i64 c, .slice none 0 0] 107))) w.heap.size (clamp a) [] := by
  subst hc
  have hs : (w.alloc (.cells #[.int .i64 (clamp a : Nat), .slice none 0 0] 107)).heap.size = w.heap.size + 1 := by simp
  refine ⟨⟨_, heap_alloc_new w _, own_nil _ _ _ _, fun j hj => by simp [Value.ownBlock] at hj⟩, ⟨Nat.le_refl _, by omega⟩, fun i hi => hi.2, by unfold clamp; omega, by simp⟩
set_option maxHeartbeats 2000000 in
set_option maxRecDepth 100000 in
theorem new_calls (a : Int) (w : World) :
    Calls Try.prog 24 #[.int .i64 a] w fun e w' => e = .returned (.pointer (some ⟨w.heap.size, 0, none⟩)) ∧ Below w.heap.size w w' ∧ Best w' (fresh w w') w.heap.size (clamp a) [] := by
  have hu := Try.underlying107
  go_enter Try.func24, Try.ntmps24
  go_wp2
  all_goals
    go_ret
    exact ⟨rfl, below_alloc (Below.refl _ _) _, new_best a _ w (by unfold clamp; omega)⟩
set_option maxHeartbeats 2000000 in
set_option maxRecDepth 100000 in
theorem len_calls (S : Nat → Prop) (g k : Nat) (A : List H) (w : World) (hB : Best w S g k A) :
    Calls Try.prog 28 #[.pointer (some ⟨g, 0, none⟩)] w fun e w' => e = .returned (.int .i64 A.length) ∧ w' = w := by
  obtain ⟨v, hg, ho, hv⟩ := hB.at_
  obtain ⟨ao, cap, rfl⟩ := own_slice ho
  have c1 : w.cell? ⟨g, 1, none⟩ = some (.slice ao A.length cap) := by rw [blk_cell hg]; rfl
  clear hB hg ho hv
  go_enter Try.func28, Try.ntmps28
  go_wp2
  go_ret
  exact ⟨rfl, rfl⟩
set_option maxHeartbeats 2000000 in
set_option maxRecDepth 100000 in
theorem worst_none (S : Nat → Prop) (g k : Nat) (b : Bool) (w : World) (hB : Best w S g k []) (hb : decide (0 = k) = b) :
    Calls Try.prog 31 #[.pointer (some ⟨g, 0, none⟩)] w fun e w' => e = .returned (.tuple #[.agg #[.int .i64 0, .int .u32 0], .bool b]) ∧ Below w.heap.size w w' := by
  have hu := Try.underlying29
  obtain ⟨v, hg, ho, hv⟩ := hB.at_
  obtain ⟨ao, cap, rfl⟩ := own_slice ho
  have c0 : w.cell? ⟨g, 0, none⟩ = some (.int .i64 k) := by rw [blk_cell hg]; rfl
  have c1 : w.cell? ⟨g, 1, none⟩ = some (.slice ao 0 cap) := by rw [blk_cell hg]; rfl
  have hgl : g < w.heap.size := blk_lt hg
  have e1 : ((k : Int) == 0) = b := by rw [← hb]; cases k <;> simp; omega
  clear hB hg ho hv hb
  go_enter Try.func31, Try.ntmps31
  go_wp2_with fail
  go_region
  all_goals
    go_wp2
    exact bodyPost_ret (v := .tuple #[.agg #[.int .i64 0, .int .u32 0], .bool b]) (by simp [results, Try.results31, go_sem]) rfl ⟨rfl, below_drew (below_alloc (Below.refl _ _) _)⟩
set_option maxHeartbeats 2000000 in
set_option maxRecDepth 100000 in
theorem worst_some (S : Nat → Prop) (g k : Nat) (A : List H) (b : Bool) (w : World) (hB : Best w S g k A) (hA : 0 < A.length) (hb : decide (A.length = k) = b) :
    Calls Try.prog 31 #[.pointer (some ⟨g, 0, none⟩)] w fun e w' => e = .returned (.tuple #[.agg #[.int .i64 (rdH A 0).f0, .int .u32 (rdH A 0).f1], .bool b]) ∧ Below w.heap.size w w' := by
  have hu := Try.underlying29
  obtain ⟨r, cap, hg, hr, hc, hne, sr⟩ := hB.slice hA
  obtain ⟨n, hn⟩ : ∃ n, A.length = n := ⟨_, rfl⟩
  have c0 : w.cell? ⟨g, 0, none⟩ = some (.int .i64 k) := by rw [blk_cell hg]; rfl
  have c1 : w.cell? ⟨g, 1, none⟩ = some (.slice (some ⟨r, 0, none⟩) n cap) := by rw [blk_cell hg, hn]; rfl
  obtain ⟨p0, p1, _, _⟩ := hr.rd 0 hA
  rw [Nat.zero_mul] at p0 p1
  have hgl : g < w.heap.size := blk_lt hg
  have hrl : r < w.heap.size := hr.lt
  have hn0 : 0 < n := by omega
  have e1 : ((n : Int) == (k : Int)) = b := by rw [← hb, hn]; by_cases h : n = k <;> simp [h]; omega
  have e2 : ((n : Int) == 0) = false := beq_eq_false_iff_ne.2 (by omega)
  have e3 : (n == k) = b := by rw [← hb, hn]; by_cases h : n = k <;> simp [h]
  clear hB hg hr hc hb hn hA
  go_enter Try.func31, Try.ntmps31
  go_wp2_with fail
  go_region
  all_goals
    go_wp2
    exact bodyPost_ret (v := .tuple #[.agg #[.int .i64 (rdH A 0).f0, .int .u32 (rdH A 0).f1], .bool b]) (by simp [results, Try.results31, go_sem]) rfl ⟨rfl, below_drew (below_alloc (Below.refl _ _) _)⟩
end Go.Proofs.Ytchiobhklbefjaa.Tk
