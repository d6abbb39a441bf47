/- Topk: how arguments that are lists of hits open. No condition. -/
import Derived.Test.YtchiobhklbefjaaTkB
import Derived.Test.YtchiobhklbefjaaFrame
namespace Go.Proofs.Ytchiobhklbefjaa.Tk
open Go.RowKit Go.Proofs.YtchiobhklbefjaaW.PrintWords Go.Proofs.YtchiobhklbefjaaW.PrintLast Go.Proofs.YtchiobhklbefjaaW.PrintMore Go.Proofs.Ytchiobhklbefjaa.Q
set_option linter.unusedVariables false
set_option linter.unusedSimpArgs false
theorem cells_hit : Try.prog.cellsOf 29 = 2 := by kernel_rfl
theorem cells_dist : Try.prog.cellsOf 2 = 1 := by kernel_rfl
theorem cells_id : Try.prog.cellsOf 27 = 1 := by kernel_rfl
abbrev kp : Kd (Int × Int) := Kd.pair (Kd.int .i64) (Kd.int .u32)
set_option maxRecDepth 100000 in
theorem opens_hit : Frame.Opens Try.prog 29 kp (fun x => (Lit.int .i64 x.1).wf = true ∧ (Lit.int .u32 x.2).wf = true) :=
  Frame.Opens.struct Try.underlying29 cells_hit (Frame.OpensFrom.cons (by rfl) (by rfl) cells_dist (Frame.Opens.int Try.underlying2) (Frame.OpensFrom.last (by rfl) (by rfl) cells_id (Frame.Opens.int Try.underlying27)))
abbrev okHits (l : List (Int × Int)) : Prop := l.length ≤ maxLen ∧ ∀ x ∈ l, (Lit.int .i64 x.1).wf = true ∧ (Lit.int .u32 x.2).wf = true
theorem opens_hits : Frame.Opens Try.prog 22 (Kd.slice 29 kp) okHits := Frame.Opens.slice Try.underlying22 cells_hit opens_hit
def ofP (x : Int × Int) : H := ⟨x.1, x.2⟩
theorem hits_of {v : Value} {x : List (Int × Int)} {w : World} (s : v = .slice none 0 0 ∨ ∃ a n c, v = .slice (some a) n c) (K : (Kd.slice 29 kp).K w x v.cells.toList) :
    ∃ ao cap, v = .slice ao (x.map ofP).length cap ∧ ReadsH w ao cap (x.map ofP) := by
  obtain ⟨A, c, he, hle, hC⟩ := K
  have hv : v = .slice A x.length c := by
    rcases s with rfl | ⟨a, n, cc, rfl⟩
    · simpa [Value.cells] using he
    · simpa [Value.cells] using he
  subst hv
  refine ⟨A, c, by rw [List.length_map], by rw [List.length_map]; exact hle, ?_⟩
  rcases s with s | ⟨a, n, cc, s⟩
  · simp only [Value.slice.injEq] at s
    obtain ⟨rfl, h0, rfl⟩ := s
    exact .inl ⟨rfl, by rw [List.length_eq_zero_iff.1 h0]; rfl, rfl⟩
  · simp only [Value.slice.injEq] at s
    obtain ⟨rfl, rfl, rfl⟩ := s
    refine .inr ⟨a, rfl, fun j u hu => ?_⟩
    have hj : j < x.length * 2 := by have := (List.getElem?_eq_some_iff.1 hu).1; rw [cellsOf_len, List.length_map] at this; exact this
    obtain ⟨ad, e, hc⟩ := hC.2.2 (by omega)
    cases e
    obtain ⟨cs, h1, h2, h3⟩ := hc (j / 2) _ (List.getElem?_eq_getElem (by omega))
    obtain ⟨c0, c1, rfl, rfl, rfl⟩ := h2
    have hg : (x.map ofP)[j / 2]? = some (ofP (x[j / 2]'(by omega))) := by rw [List.getElem?_map, List.getElem?_eq_getElem (by omega)]; rfl
    obtain ⟨g0, g1⟩ := cells_at hg
    rcases Nat.mod_two_eq_zero_or_one j with hm | hm
    · have e : j = j / 2 * 2 := by omega
      have := h3 0 _ rfl
      rw [← e] at g0
      rw [hu] at g0
      cases g0
      have e2 : j / 2 * kp.sz + 0 = j := by show j / 2 * 2 + 0 = j; omega
      rw [e2] at this
      exact this
    · have e : j = j / 2 * 2 + 1 := by omega
      have := h3 1 _ rfl
      rw [← e] at g1
      rw [hu] at g1
      cases g1
      have e2 : j / 2 * kp.sz + 1 = j := by show j / 2 * 2 + 1 = j; omega
      rw [e2] at this
      exact this
theorem hits_len {x : List (Int × Int)} (o : okHits x) : (x.map ofP).length ≤ maxLen := by rw [List.length_map]; exact o.1
end Go.Proofs.Ytchiobhklbefjaa.Tk
