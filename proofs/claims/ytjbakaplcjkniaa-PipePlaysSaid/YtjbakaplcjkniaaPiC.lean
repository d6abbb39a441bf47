/- Pipe: how the laws' lists of ops open. No condition. -/
import Derived.Test.YtjbakaplcjkniaaPiB
import Derived.Test.YtjbakaplcjkniaaFrame
namespace Go.Proofs.Ytjbakaplcjkniaa.Pi
open Go.RowKit Go.Proofs.YtjbakaplcjkniaaW.PrintWords Go.Proofs.YtjbakaplcjkniaaW.PrintLast Go.Proofs.YtjbakaplcjkniaaW.PrintMore
set_option linter.unusedVariables false
set_option linter.unusedSimpArgs false
theorem cells_op : Try.prog.cellsOf 29 = 5 := by kernel_rfl
theorem cells_u8 : Try.prog.cellsOf 5 = 1 := by kernel_rfl
theorem cells_bytes : Try.prog.cellsOf 26 = 1 := by kernel_rfl
theorem cells_i64 : Try.prog.cellsOf 3 = 1 := by kernel_rfl
theorem cells_u32 : Try.prog.cellsOf 27 = 1 := by kernel_rfl
abbrev kbytes : Kd (List Int) := Kd.slice 5 (Kd.int .u8)
abbrev okBytes (l : List Int) : Prop := l.length ≤ maxLen ∧ ∀ x ∈ l, (Lit.int .u8 x).wf = true
theorem opens_bytes : Frame.Opens Try.prog 26 kbytes okBytes := Frame.Opens.slice Try.underlying26 cells_u8 (Frame.Opens.int Try.underlying5)
abbrev OpT := Int × List Int × Int × Int × Int
abbrev kop : Kd OpT := Kd.pair (Kd.int .u8) (Kd.pair kbytes (Kd.pair (Kd.int .i64) (Kd.pair (Kd.int .u32) (Kd.int .u32))))
abbrev okOp (x : OpT) : Prop := (Lit.int .u8 x.1).wf = true ∧ okBytes x.2.1 ∧ (Lit.int .i64 x.2.2.1).wf = true ∧ (Lit.int .u32 x.2.2.2.1).wf = true ∧ (Lit.int .u32 x.2.2.2.2).wf = true
set_option maxRecDepth 100000 in
theorem opens_op : Frame.Opens Try.prog 29 kop okOp :=
  Frame.Opens.struct Try.underlying29 cells_op (Frame.OpensFrom.cons (by rfl) (by rfl) cells_u8 (Frame.Opens.int Try.underlying5) (Frame.OpensFrom.cons (by rfl) (by rfl) cells_bytes opens_bytes
    (Frame.OpensFrom.cons (by rfl) (by rfl) cells_i64 (Frame.Opens.int Try.underlying3) (Frame.OpensFrom.cons (by rfl) (by rfl) cells_u32 (Frame.Opens.int Try.underlying27) (Frame.OpensFrom.last (by rfl) (by rfl) cells_u32 (Frame.Opens.int Try.underlying27))))))
abbrev okOps (l : List OpT) : Prop := l.length ≤ maxLen ∧ ∀ x ∈ l, okOp x
theorem opens_ops : Frame.Opens Try.prog 22 (Kd.slice 29 kop) okOps := Frame.Opens.slice Try.underlying22 cells_op opens_op
/-- A slice that is handed in. -/
theorem slice_of {α : Type} {e : Nat} {d : Kd α} {v : Value} {x : List α} {w : World} (s : v = .slice none 0 0 ∨ ∃ a n c, v = .slice (some a) n c) (K : (Kd.slice e d).K w x v.cells.toList) :
    ∃ A c, v = .slice A x.length c ∧ x.length ≤ c ∧ Kd.C d w A x.length x := by
  obtain ⟨A, c, he, hle, hC⟩ := K
  refine ⟨A, c, ?_, hle, hC⟩
  rcases s with rfl | ⟨a, n, cc, rfl⟩
  · simpa [Value.cells] using he
  · simpa [Value.cells] using he
/-- An op where it lies. -/
structure OpAt (w : World) (ad : Addr) (X : Option Addr) (c : Nat) (x : OpT) (i : Nat) : Prop where
  y0 : w.cell? (ad.add (i * 5)) = some (.int .u8 x.1)
  y1 : w.cell? ⟨(ad.add (i * 5)).block, (ad.add (i * 5)).off + 1, none⟩ = some (.slice X x.2.1.length c)
  y2 : w.cell? ⟨(ad.add (i * 5)).block, (ad.add (i * 5)).off + 2, none⟩ = some (.int .i64 x.2.2.1)
  y3 : w.cell? ⟨(ad.add (i * 5)).block, (ad.add (i * 5)).off + 3, none⟩ = some (.int .u32 x.2.2.2.1)
  y4 : w.cell? ⟨(ad.add (i * 5)).block, (ad.add (i * 5)).off + 4, none⟩ = some (.int .u32 x.2.2.2.2)
  fit : x.2.1.length ≤ c
  reads : Kd.C (Kd.int .u8) w X x.2.1.length x.2.1
theorem OpAt.below {w w1 : World} {ad : Addr} {X : Option Addr} {c : Nat} {x : OpT} {i : Nat} (h : OpAt w ad X c x i) (hb : Below w.heap.size w w1) : OpAt w1 ad X c x i :=
  ⟨pw_cell_below hb h.y0, pw_cell_below hb h.y1, pw_cell_below hb h.y2, pw_cell_below hb h.y3, pw_cell_below hb h.y4, h.fit, Kd.C_below h.reads hb⟩
theorem op_at {w : World} {A : Option Addr} {l : List OpT} (h : Kd.C kop w A l.length l) {i : Nat} (hi : i < l.length) : ∃ ad X c x, A = some ad ∧ l[i]? = some x ∧ OpAt w ad X c x i := by
  obtain ⟨ad, e, hc⟩ := h.2.2 (by omega)
  obtain ⟨cs, h1, ⟨c0, c1, rfl, k0, c2, c3, rfl, ⟨X, c, k1, hle, hC⟩, c4, c5, rfl, k2, c6, c7, rfl, k3, k4⟩, h3⟩ := hc i _ (List.getElem?_eq_getElem hi)
  have k0' : c0 = [.int .u8 l[i].1] := k0
  have k2' : c4 = [.int .i64 l[i].2.2.1] := k2
  have k3' : c6 = [.int .u32 l[i].2.2.2.1] := k3
  have k4' : c7 = [.int .u32 l[i].2.2.2.2] := k4
  subst k0' k2' k3' k4' k1
  have hs : i * kop.sz = i * 5 := rfl
  rw [hs] at h3
  have g0 := h3 0 _ rfl
  have g1 := h3 1 _ rfl
  have g2 := h3 2 _ rfl
  have g3 := h3 3 _ rfl
  have g4 := h3 4 _ rfl
  rw [add_field _ _ _ (by decide)] at g1 g2 g3 g4
  exact ⟨ad, X, c, l[i], e, List.getElem?_eq_getElem hi, g0, g1, g2, g3, g4, hle, hC⟩
theorem wf_u8 {m : Int} (h : (Lit.int .u8 m).wf = true) : 0 ≤ m ∧ m ≤ 255 := by simp [Lit.wf, IntKind.min, IntKind.max, IntKind.bits, IntKind.signed] at h; omega
theorem wf_u16 {m : Int} (h : (Lit.int .u16 m).wf = true) : 0 ≤ m ∧ m ≤ 65535 := by simp [Lit.wf, IntKind.min, IntKind.max, IntKind.bits, IntKind.signed] at h; omega
theorem wf_u32 {m : Int} (h : (Lit.int .u32 m).wf = true) : 0 ≤ m ∧ m ≤ 4294967295 := by simp [Lit.wf, IntKind.min, IntKind.max, IntKind.bits, IntKind.signed] at h; omega
theorem wf_i64 {m : Int} (h : (Lit.int .i64 m).wf = true) : -9223372036854775808 ≤ m ∧ m ≤ 9223372036854775807 := by simp [Lit.wf, IntKind.min, IntKind.max, IntKind.bits, IntKind.signed] at h; omega
end Go.Proofs.Ytjbakaplcjkniaa.Pi
