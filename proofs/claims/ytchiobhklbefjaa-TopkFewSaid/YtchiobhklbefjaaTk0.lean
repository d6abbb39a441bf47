/- Topk, plain words: rows of hits in memory; which of two hits is less. No condition. -/
import Derived.Test.YtchiobhklbefjaaWWords
import Derived.Test.YtchiobhklbefjaaQx0
namespace Go.Proofs.Ytchiobhklbefjaa.Tk
open Go.RowKit Go.Proofs.YtchiobhklbefjaaW.PrintWords Go.Proofs.Ytchiobhklbefjaa.Q
set_option linter.unusedVariables false
abbrev H := S29
def enc (h : H) : List Value := [.int .i64 h.f0, .int .u32 h.f1]
def cellsOf (A : List H) : List Value := A.flatMap enc
theorem cellsOf_len (A : List H) : (cellsOf A).length = A.length * 2 := by
  induction A with
  | nil => rfl
  | cons a A ih => simp only [cellsOf, List.flatMap_cons, List.length_append, List.length_cons] at *; rw [ih]; simp [enc]; omega
theorem cellsOf_append (A B : List H) : cellsOf (A ++ B) = cellsOf A ++ cellsOf B := by simp [cellsOf]
theorem cellsOf_get (A : List H) (i : Nat) (h : i < A.length) : (cellsOf A)[i * 2]? = some (.int .i64 A[i].f0) ∧ (cellsOf A)[i * 2 + 1]? = some (.int .u32 A[i].f1) := by
  induction A generalizing i with
  | nil => simp at h
  | cons a A ih =>
    cases i with
    | zero => simp [cellsOf, enc]
    | succ i =>
      have := ih i (by simpa using h)
      simp only [cellsOf, List.flatMap_cons, enc, List.getElem_cons_succ] at *
      have e1 : (i + 1) * 2 = i * 2 + 1 + 1 := by omega
      have e2 : (i + 1) * 2 + 1 = i * 2 + 1 + 1 + 1 := by omega
      rw [e2, e1]
      simpa using this
/-- Which of two hits is less. -/
def ltH (a b : H) : Bool := decide (a.f0 < b.f0) || (a.f0 == b.f0 && decide (a.f1 < b.f1))
/-- Block r is a row of hits: those of A, and what lies behind. -/
structure RowAt (w : World) (r cap : Nat) (A : List H) : Prop where
  mk ::
  out : ∃ rest : List Value, w.heap[r]? = some (.cells (cellsOf A ++ rest).toArray 29 (0, 0)) ∧ (cellsOf A ++ rest).length = cap * 2
theorem RowAt.cells {w : World} {r cap : Nat} {A : List H} (h : RowAt w r cap A) (i : Nat) (hi : i < A.length) :
    w.cell? ⟨r, i * 2, none⟩ = some (.int .i64 A[i].f0) ∧ w.cell? ⟨r, i * 2 + 1, none⟩ = some (.int .u32 A[i].f1) ∧ w.frozen? ⟨r, i * 2, none⟩ = false ∧ w.frozen? ⟨r, i * 2 + 1, none⟩ = false := by
  obtain ⟨rest, hb, hl⟩ := h.out
  obtain ⟨g0, g1⟩ := cellsOf_get A i hi
  have hc := cellsOf_len A
  refine ⟨?_, ?_, blk_frozen hb _, blk_frozen hb _⟩
  · rw [blk_cell hb, List.getElem?_toArray, List.getElem?_append_left (by omega)]; exact g0
  · rw [blk_cell hb, List.getElem?_toArray, List.getElem?_append_left (by omega)]; exact g1
theorem cellsOf_set (A : List H) (i : Nat) (x : H) (h : i < A.length) (rest : List Value) :
    ((cellsOf A ++ rest).set (i * 2) (.int .i64 x.f0)).set (i * 2 + 1) (.int .u32 x.f1) = cellsOf (A.set i x) ++ rest := by
  induction A generalizing i with
  | nil => simp at h
  | cons a A ih =>
    cases i with
    | zero => simp [cellsOf, enc]
    | succ i =>
      have := ih i (by simpa using h)
      have e1 : (i + 1) * 2 = i * 2 + 1 + 1 := by omega
      have e2 : (i + 1) * 2 + 1 = i * 2 + 1 + 1 + 1 := by omega
      rw [e2, e1]
      simp only [cellsOf, List.flatMap_cons, enc, List.cons_append, List.nil_append, List.set_cons_succ] at *
      rw [this]
/-- An element stored: two cells. -/
theorem RowAt.set {w : World} {r cap : Nat} {A : List H} (h : RowAt w r cap A) (i : Nat) (x : H) (hi : i < A.length) :
    RowAt ((w.setCell ⟨r, i * 2, none⟩ (.int .i64 x.f0)).setCell ⟨r, i * 2 + 1, none⟩ (.int .u32 x.f1)) r cap (A.set i x) := by
  obtain ⟨rest, hb, hl⟩ := h.out
  have h1 := blk_set (blk_set hb (i * 2) (.int .i64 x.f0)) (i * 2 + 1) (.int .u32 x.f1)
  refine ⟨rest, ?_, ?_⟩
  · rw [h1]
    simp only [List.setIfInBounds_toArray]
    rw [cellsOf_set A i x hi]
  · rw [← cellsOf_set A i x hi]
    simpa using hl
theorem RowAt.below {w w1 : World} {r cap : Nat} {A : List H} (h : RowAt w r cap A) (hb : w1.heap[r]? = w.heap[r]?) : RowAt w1 r cap A := by
  obtain ⟨rest, h1, h2⟩ := h.out
  exact ⟨rest, hb.trans h1, h2⟩
theorem RowAt.lt {w : World} {r cap : Nat} {A : List H} (h : RowAt w r cap A) : r < w.heap.size := by
  obtain ⟨rest, h1, h2⟩ := h.out
  exact blk_lt h1
theorem RowAt.le {w : World} {r cap : Nat} {A : List H} (h : RowAt w r cap A) : A.length ≤ cap := by
  obtain ⟨rest, h1, h2⟩ := h.out
  rw [List.length_append, cellsOf_len] at h2
  omega

/-- Only the blocks in S, and new ones, may have changed. -/
structure Only (S : Nat → Prop) (w w' : World) : Prop where
  os : w'.os = w.os
  tape : w'.tape = w.tape
  output : w'.output = w.output
  size : w.heap.size ≤ w'.heap.size
  block : ∀ k, k < w.heap.size → ¬ S k → w'.heap[k]? = w.heap[k]?
theorem Only.refl (S : Nat → Prop) (w : World) : Only S w w := ⟨rfl, rfl, rfl, Nat.le_refl _, fun _ _ _ => rfl⟩
theorem Only.trans {S : Nat → Prop} {a b c : World} (h : Only S a b) (k : Only S b c) : Only S a c :=
  ⟨k.os.trans h.os, k.tape.trans h.tape, k.output.trans h.output, Nat.le_trans h.size k.size, fun i hi hs => (k.block i (Nat.lt_of_lt_of_le hi h.size) hs).trans (h.block i hi hs)⟩
theorem Only.below {S : Nat → Prop} {a b c : World} (h : Only S a b) (k : Below b.heap.size b c) : Only S a c :=
  ⟨k.os.trans h.os, k.tape.trans h.tape, k.output.trans h.output, Nat.le_trans h.size k.size, fun i hi hs => (k.block i (Nat.lt_of_lt_of_le hi h.size)).trans (h.block i hi hs)⟩
theorem Only.of_below {S : Nat → Prop} {a b : World} (k : Below a.heap.size a b) : Only S a b := (Only.refl S a).below k
theorem Only.mono {S S' : Nat → Prop} {a b : World} (h : Only S a b) (hs : ∀ k, S k → S' k) : Only S' a b := ⟨h.os, h.tape, h.output, h.size, fun k hk hn => h.block k hk (fun x => hn (hs k x))⟩
theorem size_set (w : World) (p : Addr) (u : Value) : (w.setCell p u).heap.size = w.heap.size := by simp [World.setCell]
theorem Only.set {S : Nat → Prop} {a b : World} (h : Only S a b) (p : Addr) (u : Value) (hp : S p.block) : Only S a (b.setCell p u) :=
  ⟨h.os, h.tape, h.output, by rw [size_set]; exact h.size, fun k hk hs => by rw [Below.heap_setCell b p u k (fun e => hs (e ▸ hp))]; exact h.block k hk hs⟩
end Go.Proofs.Ytchiobhklbefjaa.Tk
