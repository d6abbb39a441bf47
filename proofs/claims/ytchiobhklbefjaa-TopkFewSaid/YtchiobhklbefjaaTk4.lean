/- Topk: 'Put', whole; 'New', 'Len', 'Worst'. No condition. -/
import Derived.Test.YtchiobhklbefjaaTk3
namespace Go.Proofs.Ytchiobhklbefjaa.Tk
open Go.RowKit Go.Proofs.YtchiobhklbefjaaW.PrintWords Go.Proofs.Ytchiobhklbefjaa.Q
set_option linter.unusedVariables false
set_option maxHeartbeats 4000000 in
set_option maxRecDepth 100000 in
theorem put_none (S : Nat → Prop) (g : Nat) (A : List H) (h : H) (w : World) (hB : Best w S g 0 A) :
    Calls Try.prog 25 #[.pointer (some ⟨g, 0, none⟩), .agg #[.int .i64 h.f0, .int .u32 h.f1]] w fun e w' => e = .returned (.tuple #[]) ∧ Below w.heap.size w w' := by
  have hu := Try.underlying29
  have hA := hB.hA
  have hA0 : A.length = 0 := by omega
  obtain ⟨v, hg, ho, hv⟩ := hB.at_
  rw [hA0] at ho
  obtain ⟨ao, cap, rfl⟩ := own_slice ho
  have c0 : w.cell? ⟨g, 0, none⟩ = some (.int .i64 0) := by rw [blk_cell hg]; rfl
  have c1 : w.cell? ⟨g, 1, none⟩ = some (.slice ao 0 cap) := by rw [blk_cell hg]; rfl
  have hgl : g < w.heap.size := blk_lt hg
  clear hB hg ho hv hA hA0
  go_enter Try.func25, Try.ntmps25
  go_wp2_with fail
  go_quiet (fail)
  go_wp2_with fail
  go_quiet (fail)
  go_wp2
  refine bodyPost_end (results_none rfl _ _ _) rfl ?_
  exact ⟨rfl, pw_below_drewN (pw_below_drewN (below_alloc (Below.refl _ _) _) _) _⟩
set_option maxHeartbeats 4000000 in
set_option maxRecDepth 100000 in
theorem put_full (S : Nat → Prop) (g k : Nat) (A : List H) (h : H) (b : Bool) (w : World) (hB : Best w S g k A) (hlt : ¬ A.length < k) (hk : 0 < k) (hb : ltH h (rdH A 0) = b) :
    Calls Try.prog 25 #[.pointer (some ⟨g, 0, none⟩), .agg #[.int .i64 h.f0, .int .u32 h.f1]] w fun e w' => e = .returned (.tuple #[]) ∧ Only S w w' ∧ Best w' (ext S w w') g k (if b then downL (A.length + 1) (A.set 0 h) 0 else A) := by
  have hu := Try.underlying29
  have hA := hB.hA
  have hA0 : 0 < A.length := by omega
  obtain ⟨r, cap, hg, hr, hc, hne, sr⟩ := hB.slice hA0
  obtain ⟨n, hn⟩ : ∃ n, A.length = n := ⟨_, rfl⟩
  have c0 : w.cell? ⟨g, 0, none⟩ = some (.int .i64 k) := by rw [blk_cell hg]; rfl
  have c1 : w.cell? ⟨g, 1, none⟩ = some (.slice (some ⟨r, 0, none⟩) n cap) := by rw [blk_cell hg, hn]; rfl
  have hgl : g < w.heap.size := blk_lt hg
  have hrl : r < w.heap.size := hr.lt
  have hlt' : decide (n < k) = false := decide_eq_false (by omega)
  have hk' : decide ((0 : Int) < (k : Int)) = true := decide_eq_true (by omega)
  have hk2 : decide (0 < k) = true := decide_eq_true hk
  have hn0 : 0 < n := by omega
  have HBB := Aside0.mk hB
  have Hg := Aside0.mk hg
  have Hr := Aside0.mk hr
  have HC := Aside0.mk hc
  have HN := Aside0.mk hn
  have Hb := Aside0.mk hb
  clear hB hg hr hc hb hA hA0 hn
  go_enter Try.func25, Try.ntmps25
  go_wp2_with fail
  go_quiet (fail)
  go_wp2_with fail
  refine wp_world (fun w' => Below w.heap.size w w' ∧ w'.heap[w.heap.size]? = some (boxH h)) ⟨pw_below_drewN (below_alloc (Below.refl _ _) _) _, new_block _ _ _ _⟩ ?_
  rintro w1 ⟨hb1, hn1⟩
  clear c0 c1 hlt'
  have hg1 := (hb1.block g hgl).trans Hg.out
  have hr1 := Hr.out.below (hb1.block r hrl)
  have c0 : w1.cell? ⟨g, 0, none⟩ = some (.int .i64 k) := by rw [blk_cell hg1]; rfl
  have c1 : w1.cell? ⟨g, 1, none⟩ = some (.slice (some ⟨r, 0, none⟩) n cap) := by rw [blk_cell hg1, HN.out]; rfl
  have b0 : w1.cell? ⟨w.heap.size, 0, none⟩ = some (.int .i64 h.f0) := by rw [blk_cell hn1]; rfl
  have b1 : w1.cell? ⟨w.heap.size, 1, none⟩ = some (.int .u32 h.f1) := by rw [blk_cell hn1]; rfl
  obtain ⟨p0, p1, _, _⟩ := hr1.rd 0 (by have := HN.out; omega)
  rw [Nat.zero_mul] at p0 p1
  have HB1 := Aside0.mk hb1
  have HN1 := Aside0.mk hn1
  clear hb1 hn1 hg1 hr1
  go_still_tail 13, (by kernel_rfl)
  change wpList _ _ _ _ _ w1.drew
  have HB2 := Aside0.mk (below_drew HB1.out)
  have HN2 := Aside0.mk (show w1.drew.heap[w.heap.size]? = some (boxH h) from HN1.out)
  generalize w1.drew = w2 at HB2 HN2
  clear c0 c1 b0 b1 p0 p1 HB1 HN1
  cases b with
  | false =>
    go_wp2_with ((go_at_call 65; (with_reducible refine (less_below h (rdH A 0) _ Hb.out _).mono ?_); rintro e w3 ⟨rfl, hb3⟩; have HB3 := Aside0.mk (below_then HB2.out HB2.out.size hb3); clear hb3))
    refine bodyPost_end (results_none rfl _ _ _) rfl ?_
    exact ⟨rfl, Only.of_below HB3.out, (HBB.out.below HB3.out).grow (fun i hi => .inl hi) (ext_lt HBB.out.lt HB3.out.size)⟩
  | true =>
    go_wp2_with ((go_at_call 65; (with_reducible refine (less_below h (rdH A 0) _ Hb.out _).mono ?_); rintro e w3 ⟨rfl, hb3⟩; have HB3 := Aside0.mk (below_then HB2.out HB2.out.size hb3); have HN3 := Aside0.mk ((hb3.block w.heap.size (blk_lt HN2.out)).trans HN2.out); clear hb3))
    have hg3 := (HB3.out.block g hgl).trans Hg.out
    have hr3 := Hr.out.below (HB3.out.block r hrl)
    have c1 : w3.cell? ⟨g, 1, none⟩ = some (.slice (some ⟨r, 0, none⟩) n cap) := by rw [blk_cell hg3, HN.out]; rfl
    have b0 : w3.cell? ⟨w.heap.size, 0, none⟩ = some (.int .i64 h.f0) := by rw [blk_cell HN3.out]; rfl
    have b1 : w3.cell? ⟨w.heap.size, 1, none⟩ = some (.int .u32 h.f1) := by rw [blk_cell HN3.out]; rfl
    obtain ⟨p0, p1, q0, q1⟩ := hr3.rd 0 (by have := HN.out; omega)
    rw [Nat.zero_mul] at p0 p1 q0 q1
    have hr4 := Aside0.mk (hr3.set 0 h (by have := HN.out; omega))
    rw [Nat.zero_mul] at hr4
    have HG3 := Aside0.mk hg3
    clear hg3 hr3
    go_region
    all_goals
      have hO4 : Only S w (((w3.setCell ⟨r, 0, none⟩ (.int .i64 h.f0)).setCell ⟨r, 0 + 1, none⟩ (.int .u32 h.f1)).drew) := (((Only.of_below HB3.out).set ⟨r, 0, none⟩ _ sr).set ⟨r, 0 + 1, none⟩ _ sr).below (below_drew (Below.refl _ _))
      have hg4 : (((w3.setCell ⟨r, 0, none⟩ (.int .i64 h.f0)).setCell ⟨r, 0 + 1, none⟩ (.int .u32 h.f1)).drew).heap[g]? = some (.cells #[.int .i64 k, .slice (some ⟨r, 0, none⟩) (A.set 0 h).length cap] 107 (0, 0)) := by
        have := blk_far (p := ⟨r, 0 + 1, none⟩) (blk_far (p := ⟨r, 0, none⟩) HG3.out hne (.int .i64 h.f0)) hne (.int .u32 h.f1)
        rw [List.length_set]; exact this
      have hB4 : Best (((w3.setCell ⟨r, 0, none⟩ (.int .i64 h.f0)).setCell ⟨r, 0 + 1, none⟩ (.int .u32 h.f1)).drew) (ext S w (((w3.setCell ⟨r, 0, none⟩ (.int .i64 h.f0)).setCell ⟨r, 0 + 1, none⟩ (.int .u32 h.f1)).drew)) g k (A.set 0 h) :=
        Best.mk' hg4 (hr4.out.below rfl) HC.out hne (.inl sr) (.inl HBB.out.sg) (ext_lt HBB.out.lt hO4.size) HBB.out.hk (by rw [List.length_set]; exact HBB.out.hA)
      have HO4 := Aside0.mk hO4
      have HB4 := Aside0.mk hB4
      clear hO4 hg4 hB4
      go_wp2_with ((go_at_call 66; (with_reducible refine (down_best _ g k _ _ HB4.out (by rw [List.length_set]; have := HN.out; omega)).mono ?_); rintro e w5 ⟨rfl, hO5, hB5⟩; have HO5 := Aside0.mk hO5; have HB5 := Aside0.mk hB5; clear hO5 hB5))
      refine bodyPost_end (results_none rfl _ _ _) rfl ?_
      refine ⟨rfl, HO4.out.then_ HO5.out (fun i hi hl => hi.elim id (fun x => absurd hl (by omega))), ?_⟩
      have h4 := HB5.out.grow (ext_ext HO4.out.size HO5.out.size) (ext_lt HBB.out.lt (Nat.le_trans HO4.out.size HO5.out.size))
      rw [List.length_set] at h4
      exact h4
theorem put_calls (S : Nat → Prop) (g k : Nat) (A : List H) (h : H) (w : World) (hB : Best w S g k A) :
    Calls Try.prog 25 #[.pointer (some ⟨g, 0, none⟩), .agg #[.int .i64 h.f0, .int .u32 h.f1]] w fun e w' => e = .returned (.tuple #[]) ∧ Only S w w' ∧ Best w' (ext S w w') g k (putL k A h) := by
  unfold putL
  by_cases hlt : A.length < k
  · rw [if_pos hlt]; exact put_room S g k A h w hB hlt
  · rw [if_neg hlt]
    rcases Nat.eq_zero_or_pos k with hk | hk
    · subst hk
      rw [if_neg (by omega)]
      exact (put_none S g A h w hB).mono fun e w' ⟨he, hb⟩ => ⟨he, Only.of_below hb, (hB.below hb).grow (fun i hi => .inl hi) (ext_lt hB.lt hb.size)⟩
    · refine (put_full S g k A h _ w hB hlt hk rfl).mono fun e w' ⟨he, hO, hb⟩ => ⟨he, hO, ?_⟩
      cases hl : ltH h (rdH A 0) with
      | false => rw [hl] at hb; rw [if_neg (by simp)]; exact hb
      | true => rw [hl] at hb; rw [if_pos ⟨hk, rfl⟩]; exact hb
end Go.Proofs.Ytchiobhklbefjaa.Tk
