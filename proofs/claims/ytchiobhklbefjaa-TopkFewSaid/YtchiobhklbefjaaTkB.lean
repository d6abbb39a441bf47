/- Topk: what a selector keeps, told by its sorted list; the reference's calls. No condition. -/
import Derived.Test.YtchiobhklbefjaaTkA
import Derived.Test.YtchiobhklbefjaaTk5
namespace Go.Proofs.Ytchiobhklbefjaa.Tk
open Go.RowKit Go.Proofs.YtchiobhklbefjaaW.PrintWords Go.Proofs.YtchiobhklbefjaaW.PrintLast Go.Proofs.YtchiobhklbefjaaW.PrintMore Go.Proofs.Ytchiobhklbefjaa.Q
set_option linter.unusedVariables false
set_option linter.unusedSimpArgs false
/-- A selector that keeps the hits L (in order). -/
def Kept (w : World) (S : Nat → Prop) (g k : Nat) (L : List H) : Prop := ∃ A, Best w S g k A ∧ Heap A ∧ sortH A = L
section
variable {w w1 : World} {S T : Nat → Prop} {g k : Nat} {L : List H}
theorem Kept.keep (h : Kept w S g k L) (hO : Only T w w1) (hd : ∀ i, S i → ¬ T i) : Kept w1 S g k L := by
  obtain ⟨A, hB, hH, hL⟩ := h
  exact ⟨A, hB.keep hO hd, hH, hL⟩
theorem Kept.below (h : Kept w S g k L) (hb : Below w.heap.size w w1) : Kept w1 S g k L := by
  obtain ⟨A, hB, hH, hL⟩ := h
  exact ⟨A, hB.below hb, hH, hL⟩
theorem Kept.grow (h : Kept w S g k L) (hs : ∀ i, S i → T i) (ht : ∀ i, T i → i < w.heap.size) : Kept w T g k L := by
  obtain ⟨A, hB, hH, hL⟩ := h
  exact ⟨A, hB.grow hs ht, hH, hL⟩
theorem Kept.lt (h : Kept w S g k L) : ∀ i, S i → i < w.heap.size := by
  obtain ⟨A, hB, hH, hL⟩ := h
  exact hB.lt
theorem Kept.len (h : Kept w S g k L) : L.length ≤ k ∧ k ≤ 256 := by
  obtain ⟨A, hB, hH, rfl⟩ := h
  rw [sortH_len]
  exact ⟨hB.hA, hB.hk⟩
end
def putK (k : Nat) (L : List H) (h : H) : List H := (intoL L h).take k
theorem kput_calls (S : Nat → Prop) (g k : Nat) (L : List H) (d i : Int) (w : World) (hB : Kept w S g k L) :
    Calls Try.prog 25 #[.pointer (some ⟨g, 0, none⟩), .agg #[.int .i64 d, .int .u32 i]] w fun e w' => e = .returned (.tuple #[]) ∧ Only S w w' ∧ Kept w' (ext S w w') g k (putK k L ⟨d, i⟩) := by
  obtain ⟨A, hB, hH, rfl⟩ := hB
  refine (put_calls S g k A ⟨d, i⟩ w hB).mono fun e w' ⟨he, hO, hb⟩ => ⟨he, hO, _, hb, ?_⟩
  have := put_heap (h := ⟨d, i⟩) hH hB.hA
  exact ⟨this.1, this.2.2⟩
theorem knew_calls (a : Int) (w : World) :
    Calls Try.prog 24 #[.int .i64 a] w fun e w' => e = .returned (.pointer (some ⟨w.heap.size, 0, none⟩)) ∧ Below w.heap.size w w' ∧ Kept w' (fresh w w') w.heap.size (clamp a) [] :=
  (new_calls a w).mono fun e w' ⟨he, hb, hB⟩ => ⟨he, hb, [], hB, heap_nil, sortH_nil⟩
theorem klen_calls (S : Nat → Prop) (g k : Nat) (L : List H) (w : World) (hB : Kept w S g k L) :
    Calls Try.prog 28 #[.pointer (some ⟨g, 0, none⟩)] w fun e w' => e = .returned (.int .i64 L.length) ∧ w' = w := by
  obtain ⟨A, hB, hH, rfl⟩ := hB
  rw [sortH_len]
  exact len_calls S g k A w hB
theorem klist_calls (S : Nat → Prop) (g k : Nat) (L : List H) (w : World) (hB : Kept w S g k L) :
    Calls Try.prog 30 #[.pointer (some ⟨g, 0, none⟩)] w fun e w' => (∃ v, e = .returned v ∧ OwnH w' w.heap.size v L) ∧ Below w.heap.size w w' := by
  obtain ⟨A, hB, hH, rfl⟩ := hB
  exact list_calls S g k A w hB
/-- The worst one of a list in order: its last; none: zero. -/
def worstH (L : List H) : H := L.getLastD ⟨0, 0⟩
theorem kworst_calls (S : Nat → Prop) (g k : Nat) (L : List H) (w : World) (hB : Kept w S g k L) :
    Calls Try.prog 31 #[.pointer (some ⟨g, 0, none⟩)] w fun e w' => e = .returned (.tuple #[.agg #[.int .i64 (worstH L).f0, .int .u32 (worstH L).f1], .bool (decide (L.length = k))]) ∧ Below w.heap.size w w' := by
  obtain ⟨A, hB, hH, rfl⟩ := hB
  rcases Nat.eq_zero_or_pos A.length with h0 | h0
  · have : A = [] := List.length_eq_zero_iff.1 h0
    subst this
    rw [sortH_nil]
    exact worst_none S g k _ w hB rfl
  · have h1 := heap_worst hH h0
    have h2 : worstH (sortH A) = rdH A 0 := by
      unfold worstH
      rw [List.getLastD_eq_getLast?, h1]
      rfl
    rw [h2, sortH_len]
    exact worst_some S g k A _ w hB h0 rfl
/-! ### the reference -/
theorem OwnH.C {w : World} {b : Nat} {v : Value} {A : List H} (h : OwnH w b v A) (hl : A.length ≤ 1000000) : ∃ ao cap, v = .slice ao A.length cap ∧ A.length ≤ cap ∧ Kd.C k29 w ao A.length A := by
  obtain ⟨ao, cap, e, hr⟩ := h.reads
  exact ⟨ao, cap, e, hr.1, hr.C hl⟩
theorem rinto_calls (ao : Option Addr) (cap : Nat) (L : List H) (d i : Int) (w : World) (h : ReadsH w ao cap L) (hl : L.length ≤ 1000000) :
    Calls Try.prog 27 #[.slice ao L.length cap, .agg #[.int .i64 d, .int .u32 i]] w fun e w' => (∃ v, e = .returned v ∧ OwnH w' w.heap.size v (intoL L ⟨d, i⟩)) ∧ Below w.heap.size w w' :=
  (lodestarref02_Into.calls _ ao cap L d i _ w (h.C hl) h.1 (into_f L ⟨d, i⟩ hl)).mono fun e w' ⟨v, he, hv, hb⟩ => ⟨⟨v, he, own_of_R hv⟩, hb⟩
theorem rfirst_calls (ao : Option Addr) (cap : Nat) (L : List H) (k : Int) (w : World) (h : ReadsH w ao cap L) (hl : L.length ≤ 1000000) :
    Calls Try.prog 26 #[.slice ao L.length cap, .int .i64 k] w fun e w' => (∃ v, e = .returned v ∧ OwnH w' w.heap.size v (L.take k.toNat)) ∧ Below w.heap.size w w' :=
  (lodestarref02_First.calls _ ao cap L k _ w (h.C hl) h.1 (first_f L k hl)).mono fun e w' ⟨v, he, hv, hb⟩ => ⟨⟨v, he, own_of_R hv⟩, hb⟩
theorem rsort_calls (ao : Option Addr) (cap : Nat) (L : List H) (w : World) (h : ReadsH w ao cap L) (hl : L.length ≤ 100000) :
    Calls Try.prog 32 #[.slice ao L.length cap] w fun e w' => (∃ v, e = .returned v ∧ OwnH w' w.heap.size v (sortH L)) ∧ Below w.heap.size w w' :=
  (lodestarref02_Sort.calls _ ao cap L _ w (h.C (by omega)) h.1 (sort_f L hl)).mono fun e w' ⟨v, he, hv, hb⟩ => ⟨⟨v, he, own_of_R hv⟩, hb⟩
theorem rsame_calls (ao bo : Option Addr) (ca cb n m : Nat) (L M : List H) (w : World) (hLM : L = M) (hn : n = L.length) (hm : m = M.length) (h : ReadsH w ao ca L) (h2 : ReadsH w bo cb M) (hl : L.length ≤ 1000000) :
    Calls Try.prog 29 #[.slice ao n ca, .slice bo m cb] w fun e w' => e = .returned (.bool true) ∧ Below w.heap.size w w' := by
  subst hLM hn hm
  exact (lodestarref02_Same.calls _ ao ca L bo cb L true w (h.C hl) h.1 (h2.C hl) h2.1 (same_f L hl)).mono fun e w' ⟨he, hb⟩ => ⟨he, hb.below⟩
/-- Same, at two lists that were told. -/
theorem rsame_own (b1 b2 : Nat) (v1 v2 : Value) (L M : List H) (w : World) (hLM : L = M) (h : OwnH w b1 v1 L) (h2 : OwnH w b2 v2 M) (hl : L.length ≤ 1000000) :
    Calls Try.prog 29 #[v1, v2] w fun e w' => e = .returned (.bool true) ∧ Below w.heap.size w w' := by
  obtain ⟨ao, ca, rfl, hr⟩ := h.reads
  obtain ⟨bo, cb, rfl, hr2⟩ := h2.reads
  exact rsame_calls ao bo ca cb _ _ L M w hLM rfl rfl hr hr2 hl
theorem rinto_own (b : Nat) (v : Value) (L : List H) (d i : Int) (w : World) (h : OwnH w b v L) (hl : L.length ≤ 1000000) :
    Calls Try.prog 27 #[v, .agg #[.int .i64 d, .int .u32 i]] w fun e w' => (∃ v, e = .returned v ∧ OwnH w' w.heap.size v (intoL L ⟨d, i⟩)) ∧ Below w.heap.size w w' := by
  obtain ⟨ao, ca, rfl, hr⟩ := h.reads
  exact rinto_calls ao ca L d i w hr hl
theorem rfirst_own (b : Nat) (v : Value) (L : List H) (k : Int) (w : World) (h : OwnH w b v L) (hl : L.length ≤ 1000000) :
    Calls Try.prog 26 #[v, .int .i64 k] w fun e w' => (∃ v, e = .returned v ∧ OwnH w' w.heap.size v (L.take k.toNat)) ∧ Below w.heap.size w w' := by
  obtain ⟨ao, ca, rfl, hr⟩ := h.reads
  exact rfirst_calls ao ca L k w hr hl
theorem rsort_own (b : Nat) (v : Value) (L : List H) (w : World) (h : OwnH w b v L) (hl : L.length ≤ 100000) :
    Calls Try.prog 32 #[v] w fun e w' => (∃ v, e = .returned v ∧ OwnH w' w.heap.size v (sortH L)) ∧ Below w.heap.size w w' := by
  obtain ⟨ao, ca, rfl, hr⟩ := h.reads
  exact rsort_calls ao ca L w hr hl
theorem OwnH.below {w w1 : World} {b : Nat} {v : Value} {A : List H} (h : OwnH w b v A) (hb : Below w.heap.size w w1) : OwnH w1 b v A := pw_own_below h hb
theorem OwnH.only {w w1 : World} {b : Nat} {v : Value} {A : List H} {S : Nat → Prop} (h : OwnH w b v A) (hO : Only S w w1) (hs : ∀ i, S i → v.ownBlock ≠ some i) : OwnH w1 b v A :=
  own_move h (fun i hi => hO.block i (own_lt h i hi) (fun x => hs i x hi))
theorem Only.below_of {S : Nat → Prop} {w0 w w1 : World} (h : Only S w w1) (hb : Below w0.heap.size w0 w) (hs : ∀ i, S i → w0.heap.size ≤ i) : Below w0.heap.size w0 w1 :=
  ⟨h.os.trans hb.os, h.tape.trans hb.tape, h.output.trans hb.output, Nat.le_trans hb.size h.size, fun i hi => (h.block i (Nat.lt_of_lt_of_le hi hb.size) (fun x => by have := hs i x; omega)).trans (hb.block i hi)⟩
theorem fresh_new {w w' : World} : ∀ i, fresh w w' i → w.heap.size ≤ i := fun i h => h.1
theorem ext_new {w w' : World} {S : Nat → Prop} {b : Nat} (hS : ∀ i, S i → b ≤ i) (hb : b ≤ w.heap.size) : ∀ i, ext S w w' i → b ≤ i := fun i h => h.elim (hS i) (fun x => by omega)
theorem bel_trans {a b c : World} (h1 : Below a.heap.size a b) (h2 : Below b.heap.size b c) : Below a.heap.size a c :=
  ⟨h2.os.trans h1.os, h2.tape.trans h1.tape, h2.output.trans h1.output, Nat.le_trans h1.size h2.size, fun i hi => (h2.block i (Nat.lt_of_lt_of_le hi h1.size)).trans (h1.block i hi)⟩
theorem bel_alloc {a b : World} (h1 : Below a.heap.size a b) (o : Obj) : Below a.heap.size a (b.alloc o) := bel_trans h1 (below_alloc (Below.refl _ _) o)
/-- A literal list, new. -/
theorem own_lit (w : World) (A : List H) (n : Nat) (h : A.length = n) (hn : n ≤ 1000) : OwnH (w.alloc (.cells (cellsOf A).toArray 29)) w.heap.size (.slice (some ⟨w.heap.size, 0, none⟩) n n) A := by
  subst h
  exact ⟨cellsOf_len A, .inr ⟨w.heap.size, A.length, _, rfl, Nat.le_refl _, heap_alloc_new w _, Nat.le_refl _, by unfold maxLen; omega, by simp [cellsOf_len], by rw [← cellsOf_len A]; simp⟩⟩
end Go.Proofs.Ytchiobhklbefjaa.Tk
