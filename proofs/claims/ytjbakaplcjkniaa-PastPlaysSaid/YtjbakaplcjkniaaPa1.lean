/- Past: a past in memory. No condition. -/
import Derived.Test.YtjbakaplcjkniaaPa0
import Derived.Test.YtjbakaplcjkniaaPi4
namespace Go.Proofs.Ytjbakaplcjkniaa.Pa
open Go.RowKit Go.Proofs.YtjbakaplcjkniaaW.PrintWords Go.Proofs.YtjbakaplcjkniaaW.PrintLast Go.Proofs.YtjbakaplcjkniaaW.PrintMore Go.Proofs.Ytjbakaplcjkniaa.Pi
set_option linter.unusedVariables false
set_option linter.unusedSimpArgs false
/-- Lists of items: numbers, texts. -/
def ItemTy (w : World) (k : Nat) : Prop := ∃ cells, w.heap[k]? = some (.cells cells 21 (0, 0)) ∨ w.heap[k]? = some (.cells cells 9 (0, 0))
/-- No list of an item has turned, but for those in Z. -/
structure Mem (Z : Nat → Prop) (w W : World) : Prop where
  size : w.heap.size ≤ W.heap.size
  block : ∀ k, k < w.heap.size → ItemTy w k → ¬ Z k → W.heap[k]? = w.heap[k]?
theorem Mem.refl (Z : Nat → Prop) (w : World) : Mem Z w w := ⟨Nat.le_refl _, fun _ _ _ _ => rfl⟩
theorem ItemTy.of_eq {w W : World} {k : Nat} (h : ItemTy w k) (e : W.heap[k]? = w.heap[k]?) : ItemTy W k := by
  obtain ⟨cells, h⟩ := h
  exact ⟨cells, by rw [e]; exact h⟩
theorem Mem.trans {Z : Nat → Prop} {a b c : World} (h : Mem Z a b) (k : Mem Z b c) : Mem Z a c :=
  ⟨Nat.le_trans h.size k.size, fun i hi ht hz => (k.block i (Nat.lt_of_lt_of_le hi h.size) (ht.of_eq (h.block i hi ht hz)) hz).trans (h.block i hi ht hz)⟩
theorem Mem.below {Z : Nat → Prop} {a b : World} (h : Below a.heap.size a b) : Mem Z a b := ⟨h.size, fun i hi _ _ => h.block i hi⟩
/-- Blocks of a past's own types. -/
def TT (w : World) (k : Nat) : Prop := ∃ cells, w.heap[k]? = some (.cells cells 102 (0, 0)) ∨ w.heap[k]? = some (.cells cells 98 (0, 0))
theorem blk_type {w : World} {k t t2 : Nat} {c c2 : Array Value} {f f2 : Nat × Nat} (h : w.heap[k]? = some (.cells c t f)) (h2 : w.heap[k]? = some (.cells c2 t2 f2)) : t = t2 := by
  rw [h] at h2; injection h2 with h2; injection h2
theorem Mem.only {Z : Nat → Prop} {a b : World} (h : Only (TT a) a b) : Mem Z a b := by
  refine ⟨h.size, fun k hk ht _ => h.block k hk (fun hp => ?_)⟩
  obtain ⟨c, ht⟩ := ht
  obtain ⟨c2, hp⟩ := hp
  rcases ht with ht | ht <;> rcases hp with hp | hp <;> exact absurd (blk_type ht hp) (by decide)
/-- A row's cells. -/
def RK (w : World) (x : Row) (cs : List Value) : Prop := ∃ A1 c1 A2 c2, cs = [.int .u64 x.v, .bool x.gone, .int .u32 x.id, .slice A1 x.vec.length c1, .slice A2 x.tags.length c2] ∧ x.vec.length ≤ c1 ∧ Kd.C (Kd.int .i32) w A1 x.vec.length x.vec ∧ x.tags.length ≤ c2 ∧ Kd.C Kd.string w A2 x.tags.length x.tags
def FrR (Z : Nat → Prop) (w : World) (x : Row) (cs : List Value) : Prop := ∀ W, Mem Z w W → RK W x cs
theorem FrR.now {Z : Nat → Prop} {w : World} {x : Row} {cs : List Value} (h : FrR Z w x cs) : RK w x cs := h w (Mem.refl _ _)
theorem FrR.on {Z : Nat → Prop} {w w1 : World} {x : Row} {cs : List Value} (h : FrR Z w x cs) (hm : Mem Z w w1) : FrR Z w1 x cs := fun W hW => h W (hm.trans hW)
theorem RK.one {w : World} {x : Row} {cs : List Value} (h : RK w x cs) : cs.length = 5 ∧ ∀ u ∈ cs, u.oneCell' = true := by
  obtain ⟨A1, c1, A2, c2, rfl, _⟩ := h
  refine ⟨rfl, fun u hu => ?_⟩
  simp at hu
  rcases hu with rfl | rfl | rfl | rfl | rfl <;> rfl
/-- A row of rows of the function's own. -/
def OwnR (Z : Nat → Prop) (w : World) (base : Nat) (v : Value) (L : List Row) : Prop :=
  ∃ inner, w.ownsRow base 102 5 v L.length inner ∧ ∀ j x, L[j]? = some x → FrR Z w x ((inner.drop (j * 5)).take 5)
theorem OwnR.nil (Z : Nat → Prop) (w : World) (base : Nat) : OwnR Z w base (.slice none 0 0) [] := ⟨[], own_nil _ _ _ _, fun j x h => by simp at h⟩
theorem OwnR.below {Z : Nat → Prop} {w w1 : World} {base : Nat} {v : Value} {L : List Row} (h : OwnR Z w base v L) (hb : Below w.heap.size w w1) : OwnR Z w1 base v L := by
  obtain ⟨inner, h1, h2⟩ := h
  exact ⟨inner, pw_own_below h1 hb, fun j x hx => (h2 j x hx).on (Mem.below hb)⟩
theorem OwnR.move {Z : Nat → Prop} {w w1 : World} {base : Nat} {v : Value} {L : List Row} (h : OwnR Z w base v L) (hm : ∀ k, v.ownBlock = some k → w1.heap[k]? = w.heap[k]?) (hM : Mem Z w w1) : OwnR Z w1 base v L := by
  obtain ⟨inner, h1, h2⟩ := h
  exact ⟨inner, own_move h1 hm, fun j x hx => (h2 j x hx).on hM⟩
theorem OwnR.base {Z : Nat → Prop} {w : World} {base : Nat} {v : Value} {L : List Row} (h : OwnR Z w base v L) : ∀ k, v.ownBlock = some k → base ≤ k := by
  obtain ⟨inner, h1, h2⟩ := h
  exact own_base h1
theorem OwnR.lt {Z : Nat → Prop} {w : World} {base : Nat} {v : Value} {L : List Row} (h : OwnR Z w base v L) : ∀ k, v.ownBlock = some k → k < w.heap.size := by
  obtain ⟨inner, h1, h2⟩ := h
  exact own_lt h1
theorem OwnR.typed {Z : Nat → Prop} {w : World} {base : Nat} {v : Value} {L : List Row} (h : OwnR Z w base v L) : ∀ k, v.ownBlock = some k → ∃ cells, w.heap[k]? = some (.cells cells 102 (0, 0)) := by
  obtain ⟨inner, h1, h2⟩ := h
  exact own_typed h1
/-- A row where it lies. -/
structure RowAt (w : World) (ad : Addr) (i : Nat) (x : Row) (A1 : Option Addr) (c1 : Nat) (A2 : Option Addr) (c2 : Nat) : Prop where
  y0 : w.cell? (ad.add (i * 5)) = some (.int .u64 x.v)
  y1 : w.cell? ⟨(ad.add (i * 5)).block, (ad.add (i * 5)).off + 1, none⟩ = some (.bool x.gone)
  y2 : w.cell? ⟨(ad.add (i * 5)).block, (ad.add (i * 5)).off + 2, none⟩ = some (.int .u32 x.id)
  y3 : w.cell? ⟨(ad.add (i * 5)).block, (ad.add (i * 5)).off + 3, none⟩ = some (.slice A1 x.vec.length c1)
  y4 : w.cell? ⟨(ad.add (i * 5)).block, (ad.add (i * 5)).off + 4, none⟩ = some (.slice A2 x.tags.length c2)
  fit1 : x.vec.length ≤ c1
  vec : Kd.C (Kd.int .i32) w A1 x.vec.length x.vec
  fit2 : x.tags.length ≤ c2
  tags : Kd.C Kd.string w A2 x.tags.length x.tags
theorem RowAt.below {w w1 : World} {ad : Addr} {i : Nat} {x : Row} {A1 : Option Addr} {c1 : Nat} {A2 : Option Addr} {c2 : Nat} (h : RowAt w ad i x A1 c1 A2 c2) (hb : Below w.heap.size w w1) : RowAt w1 ad i x A1 c1 A2 c2 :=
  ⟨pw_cell_below hb h.y0, pw_cell_below hb h.y1, pw_cell_below hb h.y2, pw_cell_below hb h.y3, pw_cell_below hb h.y4, h.fit1, Kd.C_below h.vec hb, h.fit2, Kd.C_below h.tags hb⟩
/-- Rows that are read. -/
def ReadR (w : World) (ao : Option Addr) (L : List Row) : Prop := (ao = none ∧ L = []) ∨ ∃ ad, ao = some ad ∧ ∀ j x, L[j]? = some x → ∃ A1 c1 A2 c2, RowAt w ad j x A1 c1 A2 c2
theorem ReadR.below {w w1 : World} {ao : Option Addr} {L : List Row} (h : ReadR w ao L) (hb : Below w.heap.size w w1) : ReadR w1 ao L := by
  rcases h with h | ⟨ad, rfl, h⟩
  · exact .inl h
  · refine .inr ⟨ad, rfl, fun j x hj => ?_⟩
    obtain ⟨A1, c1, A2, c2, h⟩ := h j x hj
    exact ⟨A1, c1, A2, c2, h.below hb⟩
theorem ReadR.at {w : World} {ao : Option Addr} {L : List Row} (h : ReadR w ao L) {i : Nat} {x : Row} (hx : L[i]? = some x) : ∃ ad A1 c1 A2 c2, ao = some ad ∧ RowAt w ad i x A1 c1 A2 c2 := by
  rcases h with ⟨_, rfl⟩ | ⟨ad, rfl, h⟩
  · simp at hx
  · obtain ⟨A1, c1, A2, c2, h⟩ := h i x hx
    exact ⟨ad, A1, c1, A2, c2, rfl, h⟩
theorem OwnR.reads {Z : Nat → Prop} {w : World} {base : Nat} {v : Value} {L : List Row} (h : OwnR Z w base v L) : ∃ ao cap, v = .slice ao L.length cap ∧ L.length ≤ cap ∧ ReadR w ao L := by
  obtain ⟨inner, h1, h2⟩ := h
  rcases h1.2 with ⟨rfl, h0⟩ | ⟨r, cap, cur, rfl, hb, hh, hc1, hc2, hc3, hc4⟩
  · have hL : L = [] := List.length_eq_zero_iff.1 h0
    subst hL
    exact ⟨none, 0, rfl, Nat.le_refl _, .inl ⟨rfl, rfl⟩⟩
  · refine ⟨some ⟨r, 0, none⟩, cap, rfl, hc1, .inr ⟨_, rfl, fun j x hj => ?_⟩⟩
    obtain ⟨A1, c1, A2, c2, e, l1, g1, l2, g2⟩ := (h2 j x hj).now
    have hlt := (List.getElem?_eq_some_iff.1 hj).1
    have hin : ∀ i, i < 5 → w.cell? ⟨r, j * 5 + i, none⟩ = ((inner.drop (j * 5)).take 5)[i]? := by
      intro i hi
      rw [blk_cell hh, List.getElem?_take, if_pos hi, List.getElem?_drop, ← hc4, List.getElem?_take, if_pos (by omega), Array.getElem?_toList]
    have e2 : ((⟨r, 0, none⟩ : Addr).add (j * 5)) = ⟨r, j * 5, none⟩ := by rw [add_plain]
    refine ⟨A1, c1, A2, c2, ?_, ?_, ?_, ?_, ?_, l1, g1, l2, g2⟩
    · have h0 := hin 0 (by omega); rw [e] at h0; rw [e2]; exact h0
    · have h0 := hin 1 (by omega); rw [e] at h0; rw [e2]; exact h0
    · have h0 := hin 2 (by omega); rw [e] at h0; rw [e2]; exact h0
    · have h0 := hin 3 (by omega); rw [e] at h0; rw [e2]; exact h0
    · have h0 := hin 4 (by omega); rw [e] at h0; rw [e2]; exact h0
/-- A past: its box at g. -/
structure Past (Z : Nat → Prop) (w : World) (base g : Nat) (vL vK : Value) (L : List Row) (last floor : Int) (K : List Int) : Prop where
  box : w.heap[g]? = some (.cells #[vL, .int .u64 last, .int .u64 floor, vK] 98)
  row : OwnR Z w base vL L
  kept : (Kd.int .u64).R 50 w base (fun _ => True) vK K
  gb : base ≤ g
section
variable {Z : Nat → Prop} {w w1 : World} {base g : Nat} {vL vK : Value} {L : List Row} {last floor : Int} {K : List Int}
theorem Past.lt (h : Past Z w base g vL vK L last floor K) : g < w.heap.size := blk_lt h.box
theorem Past.y0 (h : Past Z w base g vL vK L last floor K) : w.cell? ⟨g, 0, none⟩ = some vL := (blk_cell h.box 0).trans rfl
theorem Past.y1 (h : Past Z w base g vL vK L last floor K) : w.cell? ⟨g, 1, none⟩ = some (.int .u64 last) := (blk_cell h.box 1).trans rfl
theorem Past.y2 (h : Past Z w base g vL vK L last floor K) : w.cell? ⟨g, 2, none⟩ = some (.int .u64 floor) := (blk_cell h.box 2).trans rfl
theorem Past.y3 (h : Past Z w base g vL vK L last floor K) : w.cell? ⟨g, 3, none⟩ = some vK := (blk_cell h.box 3).trans rfl
theorem Past.below (h : Past Z w base g vL vK L last floor K) (hb : Below w.heap.size w w1) : Past Z w1 base g vL vK L last floor K := ⟨blk_below h.box hb, h.row.below hb, Kd.R_below h.kept hb, h.gb⟩
theorem Past.apart (h : Past Z w base g vL vK L last floor K) : vL.ownBlock ≠ some g := by
  intro e
  obtain ⟨c, hc⟩ := h.row.typed g e
  exact absurd (blk_type hc h.box) (by decide)
end
end Go.Proofs.Ytjbakaplcjkniaa.Pa
