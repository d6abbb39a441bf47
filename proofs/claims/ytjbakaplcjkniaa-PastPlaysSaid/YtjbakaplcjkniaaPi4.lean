/- Pipe: a pipe of the function's own. No condition. -/
import Derived.Test.YtjbakaplcjkniaaPi3
import Derived.RangeFuncOwn
namespace Go.Proofs.Ytjbakaplcjkniaa.Pi
open Go.RowKit Go.Proofs.YtjbakaplcjkniaaW.PrintWords Go.Proofs.YtjbakaplcjkniaaW.PrintLast Go.Proofs.YtjbakaplcjkniaaW.PrintMore
variable {X : Nat → Prop}
set_option linter.unusedVariables false
set_option linter.unusedSimpArgs false
/-! ### what stays (from wip/topk) -/
structure Only (S : Nat → Prop) (w w' : World) : Prop where
  os : w'.os = w.os
  tape : w'.tape = w.tape
  output : w'.output = w.output
  size : w.heap.size ≤ w'.heap.size
  block : ∀ k, k < w.heap.size → ¬ S k → w'.heap[k]? = w.heap[k]?
theorem Only.refl (S : Nat → Prop) (w : World) : Only S w w := ⟨rfl, rfl, rfl, Nat.le_refl _, fun _ _ _ => rfl⟩
theorem Only.trans {S : Nat → Prop} {a b c : World} (h : Only S a b) (k : Only S b c) : Only S a c :=
  ⟨k.os.trans h.os, k.tape.trans h.tape, k.output.trans h.output, Nat.le_trans h.size k.size, fun i hi hs => (k.block i (Nat.lt_of_lt_of_le hi h.size) hs).trans (h.block i hi hs)⟩
theorem Only.below {S : Nat → Prop} {a b c : World} (h : Only S a b) (k : Below b.heap.size b c) : Only S a c :=
  ⟨k.os.trans h.os, k.tape.trans h.tape, k.output.trans h.output, Nat.le_trans h.size k.size, fun i hi hs => (k.block i (Nat.lt_of_lt_of_le hi h.size)).trans (h.block i hi hs)⟩
theorem Only.of_below {S : Nat → Prop} {a b : World} (k : Below a.heap.size a b) : Only S a b := (Only.refl S a).below k
theorem Only.mono {S S' : Nat → Prop} {a b : World} (h : Only S a b) (hs : ∀ k, S k → S' k) : Only S' a b := ⟨h.os, h.tape, h.output, h.size, fun k hk hn => h.block k hk (fun x => hn (hs k x))⟩
theorem size_set (w : World) (p : Addr) (u : Value) : (w.setCell p u).heap.size = w.heap.size := by simp [World.setCell]
theorem Only.set {S : Nat → Prop} {a b : World} (h : Only S a b) (p : Addr) (u : Value) (hp : S p.block) : Only S a (b.setCell p u) :=
  ⟨h.os, h.tape, h.output, by rw [size_set]; exact h.size, fun k hk hs => by rw [Below.heap_setCell b p u k (fun e => hs (e ▸ hp))]; exact h.block k hk hs⟩
theorem Only.of_grown {S : Nat → Prop} {w w1 : World} {row : Option Nat} (h : w.grownBy w1 row) (hr : ∀ k, row = some k → S k) : Only S w w1 :=
  ⟨h.os, h.tape, h.output, h.size, fun k hk hs => h.block k hk (fun e => hs (hr k e.symm))⟩
theorem Only.grown {S : Nat → Prop} {w0 w w1 : World} {row : Option Nat} (h0 : Only S w0 w) (h : w.grownBy w1 row) (hr : ∀ k, row = some k → k < w0.heap.size → S k) : Only S w0 w1 :=
  ⟨h.os.trans h0.os, h.tape.trans h0.tape, h.output.trans h0.output, Nat.le_trans h0.size h.size, fun k hk hs => (h.block k (Nat.lt_of_lt_of_le hk h0.size) (fun e => hs (hr k e.symm hk))).trans (h0.block k hk hs)⟩
/-- What is written afterwards lies in blocks that are new since w, or in S. -/
theorem Only.then_ {S T : Nat → Prop} {a b c : World} (h : Only S a b) (k : Only T b c) (ht : ∀ i, T i → i < a.heap.size → S i) : Only S a c :=
  ⟨k.os.trans h.os, k.tape.trans h.tape, k.output.trans h.output, Nat.le_trans h.size k.size, fun i hi hs => (k.block i (Nat.lt_of_lt_of_le hi h.size) (fun x => hs (ht i x hi))).trans (h.block i hi hs)⟩
theorem Only.below_of {S : Nat → Prop} {w0 w w1 : World} (h : Only S w w1) (hb : Below w0.heap.size w0 w) (hs : ∀ i, S i → w0.heap.size ≤ i) : Below w0.heap.size w0 w1 :=
  ⟨h.os.trans hb.os, h.tape.trans hb.tape, h.output.trans hb.output, Nat.le_trans hb.size h.size, fun i hi => (h.block i (Nat.lt_of_lt_of_le hi hb.size) (fun x => by have := hs i x; omega)).trans (hb.block i hi)⟩
theorem cell_only {S : Nat → Prop} {w w1 : World} {A : Addr} {v : Value} (h : Only S w w1) (hc : w.cell? A = some v) (hs : ¬ S A.block) : w1.cell? A = some v := by
  obtain ⟨o, ho, _⟩ := cells_of_cell hc
  have hb := h.block A.block (Array.getElem?_eq_some_iff.1 ho).1 hs
  rw [← hc]
  simp only [World.cell?, hb]
/-! ### a row of pieces -/
theorem PK.below {w w1 : World} {x : List Int × Int} {cs : List Value} (h : PK w x cs) (hb : Below w.heap.size w w1) : PK w1 x cs := by
  obtain ⟨A, c, e, h1, h2⟩ := h
  exact ⟨A, c, e, h1, Kd.C_below h2 hb⟩
/-- Blocks that may change: v's own, and the pipe's box. -/
def Sv (v : Value) (g : Nat) : Nat → Prop := fun k => v.ownBlock = some k ∨ k = g
/-- Cells that read as a piece, whatever becomes of these. -/
def FrP (X : Nat → Prop) (w : World) (v : Value) (g : Nat) (x : List Int × Int) (cs : List Value) : Prop := ∀ W, Only (fun k => Sv v g k ∨ X k) w W → PK W x cs
def OwnP (X : Nat → Prop) (w : World) (base g : Nat) (v : Value) (L : Pcs) : Prop :=
  ∃ inner, w.ownsRow base 92 2 v L.length inner ∧ ∀ j x, L[j]? = some x → FrP X w v g x ((inner.drop (j * 2)).take 2)
theorem FrP.now {w : World} {v : Value} {g : Nat} {x : List Int × Int} {cs : List Value} (h : FrP X w v g x cs) : PK w x cs := h w (Only.refl _ _)
theorem FrP.on {w w1 : World} {v : Value} {g : Nat} {x : List Int × Int} {cs : List Value} (h : FrP X w v g x cs) (hO : Only (Sv v g) w w1) : FrP X w1 v g x cs := fun W hW => h W ((hO.mono (fun _ hk => .inl hk)).trans hW)
theorem OwnP.nil (w : World) (base g : Nat) : OwnP X w base g (.slice none 0 0) [] := ⟨[], own_nil _ _ _ _, fun j x h => by simp at h⟩
theorem OwnP.below {w w1 : World} {base g : Nat} {v : Value} {L : Pcs} (h : OwnP X w base g v L) (hb : Below w.heap.size w w1) : OwnP X w1 base g v L := by
  obtain ⟨inner, h1, h2⟩ := h
  exact ⟨inner, pw_own_below h1 hb, fun j x hx => (h2 j x hx).on (Only.of_below hb)⟩
theorem OwnP.base {w : World} {base g : Nat} {v : Value} {L : Pcs} (h : OwnP X w base g v L) : ∀ k, v.ownBlock = some k → base ≤ k := by
  obtain ⟨inner, h1, h2⟩ := h
  exact own_base h1
theorem OwnP.lt {w : World} {base g : Nat} {v : Value} {L : Pcs} (h : OwnP X w base g v L) : ∀ k, v.ownBlock = some k → k < w.heap.size := by
  obtain ⟨inner, h1, h2⟩ := h
  exact own_lt h1
/-- A copy that the function has made reads on, whatever becomes of what lay ahead of it. -/
theorem frP_new {w : World} {v : Value} {g base c : Nat} {A : Option Addr} {B : List Int} {d : Int} {ok : Nat → Prop} (h1 : (Kd.int .u8).R 5 w base ok (.slice A B.length c) B) (hv : ∀ k, v.ownBlock = some k → k < base) (hg : g < base) (hX : ∀ k, X k → k < base) : FrP X w v g (B, d) [.slice A B.length c, .int .u64 d] := by
  intro W hW
  have r := Kd.R_step (w1 := W) (Kd.R_bound h1) (fun k hk hlt => hW.block k hlt (fun e => by
    have := hk.2.1
    rcases e with (e | e) | e
    · have := hv k e; omega
    · omega
    · have := hX k e; omega))
  have r1 := Kd.R_reads' r
  exact ⟨A, c, rfl, r1.2.1, r1.2.2⟩
/-- A pipe: its box at g, its row v. -/
structure Pipe (X : Nat → Prop) (w : World) (base g : Nat) (room : Int) (v : Value) (L : Pcs) (cut : Bool) : Prop where
  box : w.heap[g]? = some (.cells #[.int .i64 room, v, .bool cut] 90)
  row : OwnP X w base g v L
  gb : base ≤ g
  apart : v.ownBlock ≠ some g
theorem Pipe.below {w w1 : World} {base g : Nat} {room : Int} {v : Value} {L : Pcs} {cut : Bool} (h : Pipe X w base g room v L cut) (hb : Below w.heap.size w w1) : Pipe X w1 base g room v L cut :=
  ⟨blk_below h.box hb, h.row.below hb, h.gb, h.apart⟩
theorem OwnP.reads {w : World} {base g : Nat} {v : Value} {L : Pcs} (h : OwnP X w base g v L) : ∃ ao cap, v = .slice ao L.length cap ∧ ReadP w ao cap L := by
  obtain ⟨inner, h1, h2⟩ := h
  rcases h1.2 with ⟨rfl, h0⟩ | ⟨r, cap, cur, rfl, hb, hh, hc1, hc2, hc3, hc4⟩
  · have hL : L = [] := List.length_eq_zero_iff.1 h0
    subst hL
    exact ⟨none, 0, rfl, Nat.le_refl _, .inl ⟨rfl, rfl, rfl⟩⟩
  · refine ⟨some ⟨r, 0, none⟩, cap, rfl, hc1, .inr ⟨_, rfl, fun j x hj => ?_⟩⟩
    obtain ⟨A, c, e, l1, g1⟩ := (h2 j x hj).now
    have hlt := (List.getElem?_eq_some_iff.1 hj).1
    have hin : ∀ i, i < 2 → w.cell? ⟨r, j * 2 + i, none⟩ = ((inner.drop (j * 2)).take 2)[i]? := by
      intro i hi
      rw [blk_cell hh, List.getElem?_take, if_pos hi, List.getElem?_drop, ← hc4, List.getElem?_take, if_pos (by omega), Array.getElem?_toList]
    refine ⟨A, c, ?_, ?_, l1, g1⟩
    · have h0 := hin 0 (by omega)
      rw [e] at h0
      have e2 : ((⟨r, 0, none⟩ : Addr).add (j * 2)) = ⟨r, j * 2, none⟩ := by rw [add_plain]
      rw [e2]
      exact h0
    · have h0 := hin 1 (by omega)
      rw [e] at h0
      have e2 : ((⟨r, 0, none⟩ : Addr).add (j * 2)) = ⟨r, j * 2, none⟩ := by rw [add_plain]
      rw [e2]
      exact h0
end Go.Proofs.Ytjbakaplcjkniaa.Pi
