/- Pipe: Due, New. No condition. -/
import Derived.Test.YtjbakaplcjkniaaPi1
namespace Go.Proofs.Ytjbakaplcjkniaa.Pi
open Go.RowKit Go.Proofs.YtjbakaplcjkniaaW.PrintWords Go.Proofs.YtjbakaplcjkniaaW.PrintLast Go.Proofs.YtjbakaplcjkniaaW.PrintMore
set_option linter.unusedVariables false
set_option linter.unusedSimpArgs false
attribute [local go_sem] max2_M min2_M max_two min_two
/-- All that is due, wherever it lies. -/
def dueT (now : Int) (L : Pcs) : Nat := (L.map (fun x => if x.2 ≤ now then x.1.length else 0)).sum
theorem dueT_take {now : Int} {L : Pcs} {j : Nat} {x : List Int × Int} (h : L[j]? = some x) : dueT now (L.take (j + 1)) = dueT now (L.take j) + (if x.2 ≤ now then x.1.length else 0) := by
  unfold dueT
  rw [List.take_add_one, h]
  simp
theorem dueT_total (now : Int) (L : Pcs) : dueT now L ≤ total L := by
  induction L with
  | nil => simp [dueT]
  | cons x L ih =>
    rw [total_cons]
    simp only [dueT, List.map_cons, List.sum_cons] at ih ⊢
    split <;> omega
theorem dueT_le (now : Int) (L : Pcs) (j : Nat) : dueT now (L.take j) ≤ total L := Nat.le_trans (dueT_total now _) (total_le L j)
theorem dueT_ats (now : Int) (L : Pcs) : dueT now L = (ats L).countP (fun d => decide (d ≤ now)) := (count_ats now L).symm
set_option maxHeartbeats 4000000 in
set_option maxRecDepth 100000 in
theorem due_calls (g : Nat) (room : Int) (ao : Option Addr) (cap : Nat) (L : Pcs) (cut : Bool) (now : Int) (w : World) (hg : w.heap[g]? = some (.cells #[.int .i64 room, .slice ao L.length cap, .bool cut] 90)) (hr : ReadP w ao cap L) (ht : total L ≤ 1000000000000) (hn : L.length ≤ 1000000000) (hw : 0 ≤ now ∧ now ≤ 4294967295) :
    Calls Try.prog 21 #[.pointer (some ⟨g, 0, none⟩), .int .u32 now] w fun e w' => e = .returned (.int .i64 (dueT now L : Int)) ∧ Below w.heap.size w w' := by
  have hu := Try.underlying92
  have hu2 := Try.underlying90
  have c1 : w.cell? ⟨g, 1, none⟩ = some (.slice ao L.length cap) := by rw [blk_cell hg]; rfl
  have HR := Aside0.mk hr
  have HT := Aside0.mk ht
  have HN := Aside0.mk hn
  have wu : IntKind.u64.wrap now = now := by rw [IntKind.wrap]; simp [IntKind.bits, IntKind.signed]; omega
  have hlt := (Array.getElem?_eq_some_iff.1 hg).1
  clear hr ht hg hn
  go_enter Try.func21, Try.ntmps21
  go_wp2
  clear c1 hlt
  go_loopg [5, 7, 13] L.length (fun gk v5 v7 v13 wr => ∃ (i : Nat), v13 = .int .i64 i ∧ v5 = .int .i64 (dueT now (L.take i) : Nat) ∧ Aside0 (i ≤ L.length ∧ L.length - i ≤ gk) ∧ Aside0 (Below w.heap.size w wr))
  case atStart => exact ⟨0, rfl, rfl, ⟨by omega, by omega⟩, ⟨by first | exact Below.refl _ _ | exact below_drew (Below.refl _ _)⟩⟩
  case round =>
    obtain ⟨i, rfl, rfl, HI, HB⟩ := hrel
    by_cases hc : i < L.length
    · have q1 : decide ((i : Int) < (L.length : Int)) = true := decide_eq_true (by omega)
      have q2 : (i : Int) < (L.length : Int) := by omega
      rcases HR.out.2 with ⟨_, e, _⟩ | ⟨ad, rfl, hrow⟩
      · rw [e] at hc; simp at hc
      obtain ⟨x, hx⟩ : ∃ x, L[i]? = some x := ⟨_, List.getElem?_eq_getElem hc⟩
      obtain ⟨A, c, x0, x1, hd1, hd2⟩ := hrow i x hx
      have HX := Aside0.mk hx
      clear hx hd1 hd2 hrow
      replace x0 := pw_cell_below HB.out x0
      replace x1 := pw_cell_below HB.out x1
      have hin : wrap64 ((i : Int) + 1) = ((i + 1 : Nat) : Int) := by have := HN.out; unfold wrap64; omega
      have HC := Aside0.mk hc
      clear hc
      by_cases hd : x.2 ≤ now
      · have q3 : decide (x.2 ≤ now) = true := decide_eq_true hd
        have hs : wrap64 ((dueT now (L.take i) : Int) + (x.1.length : Int)) = ((dueT now (L.take (i + 1)) : Nat) : Int) := by
          rw [dueT_take HX.out, if_pos hd]; have h := dueT_le now L (i + 1); rw [dueT_take HX.out, if_pos hd] at h; have := HT.out; unfold wrap64; omega
        clear hd
        go_wp2
        obtain ⟨gk, rfl⟩ : ∃ m, gk = m + 1 := ⟨gk - 1, by have := HI.out; have := HC.out; omega⟩
        go_roundg gk
        case measure => omega
        case rel => exact ⟨i + 1, congrArg (Value.int .i64) hin, congrArg (Value.int .i64) hs, ⟨by have := HI.out; have := HC.out; omega⟩, ⟨by exact (bel_alloc HB.out _)⟩⟩
      · have q3 : decide (x.2 ≤ now) = false := decide_eq_false hd
        have hs : dueT now (L.take i) = dueT now (L.take (i + 1)) := by rw [dueT_take HX.out, if_neg hd]; omega
        clear hd
        go_wp2
        obtain ⟨gk, rfl⟩ : ∃ m, gk = m + 1 := ⟨gk - 1, by have := HI.out; have := HC.out; omega⟩
        go_roundg gk
        case measure => omega
        case rel => exact ⟨i + 1, congrArg (Value.int .i64) hin, congrArg (fun n : Nat => Value.int .i64 (n : Int)) hs, ⟨by have := HI.out; have := HC.out; omega⟩, ⟨by exact (bel_alloc HB.out _)⟩⟩
    · have q1 : decide ((i : Int) < (L.length : Int)) = false := decide_eq_false (by omega)
      have q2 : (i < L.length) = False := eq_false hc
      have q3 : decide (i < L.length) = false := decide_eq_false hc
      have ht : L.take i = L := List.take_of_length_le (by omega)
      rw [ht]
      clear hc ht
      go_wp2
      go_ret
      exact ⟨rfl, HB.out⟩
set_option maxRecDepth 100000 in
theorem new_calls (r : Int) (w : World) : Calls Try.prog 14 #[.int .i64 r] w fun e w' => e = .returned (.pointer (some ⟨w.heap.size, 0, none⟩)) ∧ w' = w.alloc (.cells #[.int .i64 (max 0 r), .slice none 0 0, .bool false] 90) := by
  have hu2 := Try.underlying90
  go_enter Try.func14, Try.ntmps14
  go_wp2
  go_ret
  exact ⟨rfl, rfl⟩
end Go.Proofs.Ytjbakaplcjkniaa.Pi
