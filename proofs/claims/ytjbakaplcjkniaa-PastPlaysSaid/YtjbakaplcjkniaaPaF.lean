/- Past: how the laws' lists of ops open. No condition. -/
import Derived.Test.YtjbakaplcjkniaaPaE
import Derived.Test.YtjbakaplcjkniaaFrame
namespace Go.Proofs.Ytjbakaplcjkniaa.Pa
open Go.RowKit Go.Maps Go.Proofs.YtjbakaplcjkniaaW.PrintWords Go.Proofs.YtjbakaplcjkniaaW.PrintLast Go.Proofs.YtjbakaplcjkniaaW.PrintMore Go.Proofs.Ytjbakaplcjkniaa.Pi Go.Proofs.Ytjbakaplcjkniaa.Q
set_option linter.unusedVariables false
set_option linter.unusedSimpArgs false
theorem cells_item : Try.prog.cellsOf 54 = 3 := by kernel_rfl
theorem cells_i32 : Try.prog.cellsOf 21 = 1 := by kernel_rfl
theorem cells_str : Try.prog.cellsOf 9 = 1 := by kernel_rfl
theorem cells_vec : Try.prog.cellsOf 51 = 1 := by kernel_rfl
theorem cells_tags : Try.prog.cellsOf 52 = 1 := by kernel_rfl
theorem cells_keep : Try.prog.cellsOf 67 = 1 := by kernel_rfl
theorem cells_u8 : Try.prog.cellsOf 5 = 1 := by kernel_rfl
theorem cells_i8 : Try.prog.cellsOf 68 = 1 := by kernel_rfl
theorem cells_u32 : Try.prog.cellsOf 27 = 1 := by kernel_rfl
theorem cells_u64 : Try.prog.cellsOf 50 = 1 := by kernel_rfl
theorem cells_op : Try.prog.cellsOf 70 = 6 := by kernel_rfl
abbrev kvec : Kd (List Int) := Kd.slice 21 (Kd.int .i32)
abbrev ktags : Kd (List ByteArray) := Kd.slice 9 Kd.string
abbrev kkeep : Kd (List Int) := Kd.slice 50 (Kd.int .u64)
abbrev okVec (l : List Int) : Prop := l.length ≤ maxLen ∧ ∀ x ∈ l, (Lit.int .i32 x).wf = true
abbrev okTags (l : List ByteArray) : Prop := l.length ≤ maxLen ∧ ∀ x ∈ l, x.size ≤ maxLen
abbrev okKeep (l : List Int) : Prop := l.length ≤ maxLen ∧ ∀ x ∈ l, (Lit.int .u64 x).wf = true
theorem opens_vec : Frame.Opens Try.prog 51 kvec okVec := Frame.Opens.slice Try.underlying51 cells_i32 (Frame.Opens.int Try.underlying21)
theorem opens_tags : Frame.Opens Try.prog 52 ktags okTags := Frame.Opens.slice Try.underlying52 cells_str (Frame.Opens.string Try.underlying9)
theorem opens_keep : Frame.Opens Try.prog 67 kkeep okKeep := Frame.Opens.slice Try.underlying67 cells_u64 (Frame.Opens.int Try.underlying50)
abbrev ItT := Int × List Int × List ByteArray
abbrev kitem : Kd ItT := Kd.pair (Kd.int .u32) (Kd.pair kvec ktags)
abbrev okItem (x : ItT) : Prop := (Lit.int .u32 x.1).wf = true ∧ okVec x.2.1 ∧ okTags x.2.2
set_option maxRecDepth 100000 in
theorem opens_item : Frame.Opens Try.prog 54 kitem okItem :=
  Frame.Opens.struct Try.underlying54 cells_item (Frame.OpensFrom.cons (by rfl) (by rfl) cells_u32 (Frame.Opens.int Try.underlying27) (Frame.OpensFrom.cons (by rfl) (by rfl) cells_vec opens_vec (Frame.OpensFrom.last (by rfl) (by rfl) cells_tags opens_tags)))
abbrev OpT := Int × Int × ItT × List Int
abbrev kop : Kd OpT := Kd.pair (Kd.int .u8) (Kd.pair (Kd.int .i8) (Kd.pair kitem kkeep))
abbrev okOp (x : OpT) : Prop := (Lit.int .u8 x.1).wf = true ∧ (Lit.int .i8 x.2.1).wf = true ∧ okItem x.2.2.1 ∧ okKeep x.2.2.2
set_option maxRecDepth 100000 in
theorem opens_op : Frame.Opens Try.prog 70 kop okOp :=
  Frame.Opens.struct Try.underlying70 cells_op (Frame.OpensFrom.cons (by rfl) (by rfl) cells_u8 (Frame.Opens.int Try.underlying5) (Frame.OpensFrom.cons (by rfl) (by rfl) cells_i8 (Frame.Opens.int Try.underlying68)
    (Frame.OpensFrom.cons (by rfl) (by rfl) cells_item opens_item (Frame.OpensFrom.last (by rfl) (by rfl) cells_keep opens_keep))))
abbrev okOps (l : List OpT) : Prop := l.length ≤ maxLen ∧ ∀ x ∈ l, okOp x
theorem opens_ops : Frame.Opens Try.prog 66 (Kd.slice 70 kop) okOps := Frame.Opens.slice Try.underlying66 cells_op opens_op
/-- A slice that is handed in. -/
theorem slice_of {α : Type} {e : Nat} {d : Kd α} {v : Value} {x : List α} {w : World} (s : v = .slice none 0 0 ∨ ∃ a n c, v = .slice (some a) n c) (K : (Kd.slice e d).K w x v.cells.toList) :
    ∃ A c, v = .slice A x.length c ∧ x.length ≤ c ∧ Kd.C d w A x.length x := by
  obtain ⟨A, c, he, hle, hC⟩ := K
  refine ⟨A, c, ?_, hle, hC⟩
  rcases s with rfl | ⟨a, n, cc, rfl⟩
  · simpa [Value.cells] using he
  · simpa [Value.cells] using he
/-- An op where it lies. -/
structure OpAt (w : World) (ad : Addr) (x : OpT) (i : Nat) (A1 : Option Addr) (c1 : Nat) (A2 : Option Addr) (c2 : Nat) (A3 : Option Addr) (c3 : Nat) : Prop where
  y0 : w.cell? (ad.add (i * 6)) = some (.int .u8 x.1)
  y1 : w.cell? ⟨(ad.add (i * 6)).block, (ad.add (i * 6)).off + 1, none⟩ = some (.int .i8 x.2.1)
  y2 : w.cell? ⟨(ad.add (i * 6)).block, (ad.add (i * 6)).off + 2, none⟩ = some (.int .u32 x.2.2.1.1)
  y3 : w.cell? ⟨(ad.add (i * 6)).block, (ad.add (i * 6)).off + 2 + 1, none⟩ = some (.slice A1 x.2.2.1.2.1.length c1)
  y4 : w.cell? ⟨(ad.add (i * 6)).block, (ad.add (i * 6)).off + 2 + 2, none⟩ = some (.slice A2 x.2.2.1.2.2.length c2)
  y5 : w.cell? ⟨(ad.add (i * 6)).block, (ad.add (i * 6)).off + 5, none⟩ = some (.slice A3 x.2.2.2.length c3)
  fit1 : x.2.2.1.2.1.length ≤ c1
  vec : Kd.C (Kd.int .i32) w A1 x.2.2.1.2.1.length x.2.2.1.2.1
  fit2 : x.2.2.1.2.2.length ≤ c2
  tags : Kd.C Kd.string w A2 x.2.2.1.2.2.length x.2.2.1.2.2
  fit3 : x.2.2.2.length ≤ c3
  keep : Kd.C (Kd.int .u64) w A3 x.2.2.2.length x.2.2.2
theorem OpAt.below {w w1 : World} {ad : Addr} {x : OpT} {i : Nat} {A1 : Option Addr} {c1 : Nat} {A2 : Option Addr} {c2 : Nat} {A3 : Option Addr} {c3 : Nat} (h : OpAt w ad x i A1 c1 A2 c2 A3 c3) (hb : Below w.heap.size w w1) : OpAt w1 ad x i A1 c1 A2 c2 A3 c3 :=
  ⟨pw_cell_below hb h.y0, pw_cell_below hb h.y1, pw_cell_below hb h.y2, pw_cell_below hb h.y3, pw_cell_below hb h.y4, pw_cell_below hb h.y5, h.fit1, Kd.C_below h.vec hb, h.fit2, Kd.C_below h.tags hb, h.fit3, Kd.C_below h.keep hb⟩
theorem op_at {w : World} {A : Option Addr} {l : List OpT} (h : Kd.C kop w A l.length l) {i : Nat} (hi : i < l.length) : ∃ ad x A1 c1 A2 c2 A3 c3, A = some ad ∧ l[i]? = some x ∧ OpAt w ad x i A1 c1 A2 c2 A3 c3 := by
  obtain ⟨ad, e, hc⟩ := h.2.2 (by omega)
  obtain ⟨cs, h1, ⟨c0, c1, rfl, k0, d0, d1, rfl, k1, e0, e1, rfl, ⟨f0, f1, rfl, k2, g0, g1, rfl, ⟨A1, n1, k3, l1, hv⟩, ⟨A2, n2, k4, l2, ht⟩⟩, ⟨A3, n3, k5, l3, hk⟩⟩, h3⟩ := hc i _ (List.getElem?_eq_getElem hi)
  have k0' : c0 = [.int .u8 l[i].1] := k0
  have k1' : d0 = [.int .i8 l[i].2.1] := k1
  have k2' : f0 = [.int .u32 l[i].2.2.1.1] := k2
  subst k0' k1' k2' k3 k4 k5
  have hs : i * kop.sz = i * 6 := rfl
  rw [hs] at h3
  have g0 := h3 0 _ rfl
  have g1 := h3 1 _ rfl
  have g2 := h3 2 _ rfl
  have g3 := h3 3 _ rfl
  have g4 := h3 4 _ rfl
  have g5 := h3 5 _ rfl
  rw [add_field _ _ _ (by decide)] at g1 g2 g3 g4 g5
  exact ⟨ad, l[i], A1, n1, A2, n2, A3, n3, e, List.getElem?_eq_getElem hi, g0, g1, g2, g3, g4, g5, l1, hv, l2, ht, l3, hk⟩
theorem wf_u8' {m : Int} (h : (Lit.int .u8 m).wf = true) : 0 ≤ m ∧ m ≤ 255 := by simp [Lit.wf, IntKind.min, IntKind.max, IntKind.bits, IntKind.signed] at h; omega
theorem wf_i8' {m : Int} (h : (Lit.int .i8 m).wf = true) : -128 ≤ m ∧ m ≤ 127 := by simp [Lit.wf, IntKind.min, IntKind.max, IntKind.bits, IntKind.signed] at h; omega
theorem wf_u64' {m : Int} (h : (Lit.int .u64 m).wf = true) : 0 ≤ m ∧ m ≤ 18446744073709551615 := by simp [Lit.wf, IntKind.min, IntKind.max, IntKind.bits, IntKind.signed] at h; omega
end Go.Proofs.Ytjbakaplcjkniaa.Pa
