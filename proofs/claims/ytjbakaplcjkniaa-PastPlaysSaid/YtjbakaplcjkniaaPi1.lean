/- Pipe: what a pipe is in memory; Len. No condition. -/
import Derived.Test.YtjbakaplcjkniaaPi0
import Derived.Test.YtjbakaplcjkniaaRows
import Derived.Test.YtjbakaplcjkniaaWWords
import Derived.Test.YtjbakaplcjkniaaWLast
import Derived.Test.YtjbakaplcjkniaaWMore
import Derived.WalkKit
import Derived.ProofKit
import Derived.Below
namespace Go.Proofs.Ytjbakaplcjkniaa.Pi
open Go.RowKit Go.Proofs.YtjbakaplcjkniaaW.PrintWords Go.Proofs.YtjbakaplcjkniaaW.PrintLast Go.Proofs.YtjbakaplcjkniaaW.PrintMore
set_option linter.unusedVariables false
set_option linter.unusedSimpArgs false
theorem max2_M (k k' : IntKind) (x y : Int) : Builtin.max2 (.int k x) (.int k' y) = pure (.int k (max x y)) := by
  rw [max2_int]
  congr 2
  by_cases h : x < y
  · rw [if_pos h]; omega
  · rw [if_neg h]; omega
theorem min2_M (k k' : IntKind) (x y : Int) : Builtin.min2 (.int k x) (.int k' y) = pure (.int k (min x y)) := by
  rw [min2_int]
  congr 2
  by_cases h : y < x
  · rw [if_pos h]; omega
  · rw [if_neg h]; omega
theorem bel_trans {a b c : World} (h1 : Below a.heap.size a b) (h2 : Below b.heap.size b c) : Below a.heap.size a c := below_step h1 h2
theorem bel_alloc {a b : World} (h1 : Below a.heap.size a b) (o : Obj) : Below a.heap.size a (b.alloc o) := bel_trans h1 (below_alloc (Below.refl _ _) o)
/-- A piece's cells. -/
def PK (w : World) (x : List Int × Int) (cs : List Value) : Prop := ∃ A c, cs = [.slice A x.1.length c, .int .u64 x.2] ∧ x.1.length ≤ c ∧ Kd.C (Kd.int .u8) w A x.1.length x.1
/-- A row of pieces that is read: its cells, from address ad on. -/
def ReadP (w : World) (ao : Option Addr) (cap : Nat) (L : Pcs) : Prop := L.length ≤ cap ∧ ((ao = none ∧ L = [] ∧ cap = 0) ∨ ∃ ad, ao = some ad ∧ ∀ j x, L[j]? = some x → ∃ A c, w.cell? (ad.add (j * 2)) = some (.slice A x.1.length c) ∧ w.cell? ⟨(ad.add (j * 2)).block, (ad.add (j * 2)).off + 1, none⟩ = some (.int .u64 x.2) ∧ x.1.length ≤ c ∧ Kd.C (Kd.int .u8) w A x.1.length x.1)
theorem ReadP.below {w w1 : World} {ao : Option Addr} {cap : Nat} {L : Pcs} (h : ReadP w ao cap L) (hb : Below w.heap.size w w1) : ReadP w1 ao cap L := by
  refine ⟨h.1, ?_⟩
  rcases h.2 with h0 | ⟨ad, rfl, h0⟩
  · exact .inl h0
  · refine .inr ⟨ad, rfl, fun j x hj => ?_⟩
    obtain ⟨A, c, h1, h2, h3, h4⟩ := h0 j x hj
    exact ⟨A, c, pw_cell_below hb h1, pw_cell_below hb h2, h3, Kd.C_below h4 hb⟩
theorem total_take {L : Pcs} {j : Nat} {x : List Int × Int} (h : L[j]? = some x) : total (L.take (j + 1)) = total (L.take j) + x.1.length := by
  rw [List.take_add_one, h]
  simp [total_append]
theorem total_le (L : Pcs) (j : Nat) : total (L.take j) ≤ total L := by
  have h := total_append (L.take j) (L.drop j)
  rw [List.take_append_drop] at h
  omega
set_option maxHeartbeats 4000000 in
set_option maxRecDepth 100000 in
theorem len_calls (g : Nat) (room : Int) (ao : Option Addr) (cap : Nat) (L : Pcs) (cut : Bool) (w : World) (hg : w.heap[g]? = some (.cells #[.int .i64 room, .slice ao L.length cap, .bool cut] 90)) (hr : ReadP w ao cap L) (ht : total L ≤ 1000000000000) (hn : L.length ≤ 1000000000) :
    Calls Try.prog 17 #[.pointer (some ⟨g, 0, none⟩)] w fun e w' => e = .returned (.int .i64 (total L : Int)) ∧ Below w.heap.size w w' := by
  have hu := Try.underlying92
  have hu2 := Try.underlying90
  have c1 : w.cell? ⟨g, 1, none⟩ = some (.slice ao L.length cap) := by rw [blk_cell hg]; rfl
  have HR := Aside0.mk hr
  have HT := Aside0.mk ht
  have HN := Aside0.mk hn
  have hlt := (Array.getElem?_eq_some_iff.1 hg).1
  clear hr ht hg hn
  go_enter Try.func17, Try.ntmps17
  go_wp2
  clear c1 hlt
  go_loopg [3, 5, 11] L.length (fun gk v3 v5 v11 wr => ∃ (i : Nat), v11 = .int .i64 i ∧ v3 = .int .i64 (total (L.take i) : Nat) ∧ Aside0 (i ≤ L.length ∧ L.length - i ≤ gk) ∧ Aside0 (Below w.heap.size w wr))
  case atStart => exact ⟨0, rfl, rfl, ⟨by omega, by omega⟩, ⟨by first | exact Below.refl _ _ | exact below_drew (Below.refl _ _)⟩⟩
  case round =>
    obtain ⟨i, rfl, rfl, HI, HB⟩ := hrel
    by_cases hc : i < L.length
    · have q1 : decide ((i : Int) < (L.length : Int)) = true := decide_eq_true (by omega)
      have q2 : (i : Int) < (L.length : Int) := by omega
      rcases HR.out.2 with ⟨_, e, _⟩ | ⟨ad, rfl, hrow⟩
      · rw [e] at hc; simp at hc
      obtain ⟨x, hx⟩ : ∃ x, L[i]? = some x := ⟨_, List.getElem?_eq_getElem hc⟩
      obtain ⟨A, c, x0, x1, hd1, hd2⟩ := hrow i x hx
      have HX := Aside0.mk hx
      clear hx hd1 hd2 hrow
      replace x0 := pw_cell_below HB.out x0
      replace x1 := pw_cell_below HB.out x1
      have hin : wrap64 ((i : Int) + 1) = ((i + 1 : Nat) : Int) := by have := HN.out; unfold wrap64; omega
      have hs : wrap64 ((total (L.take i) : Int) + (x.1.length : Int)) = ((total (L.take (i + 1)) : Nat) : Int) := by
        rw [total_take HX.out]; have h := total_le L (i + 1); rw [total_take HX.out] at h; have := HT.out; unfold wrap64; omega
      have HC := Aside0.mk hc
      clear hc
      go_wp2
      obtain ⟨gk, rfl⟩ : ∃ m, gk = m + 1 := ⟨gk - 1, by have := HI.out; have := HC.out; omega⟩
      go_roundg gk
      case measure => omega
      case rel => exact ⟨i + 1, congrArg (Value.int .i64) hin, congrArg (Value.int .i64) hs, ⟨by have := HI.out; have := HC.out; omega⟩, ⟨by exact (bel_alloc HB.out _)⟩⟩
    · have q1 : decide ((i : Int) < (L.length : Int)) = false := decide_eq_false (by omega)
      have q2 : (i < L.length) = False := eq_false hc
      have q3 : decide (i < L.length) = false := decide_eq_false hc
      have ht : L.take i = L := List.take_of_length_le (by omega)
      rw [ht]
      clear hc ht
      go_wp2
      go_ret
      exact ⟨rfl, HB.out⟩
end Go.Proofs.Ytjbakaplcjkniaa.Pi
