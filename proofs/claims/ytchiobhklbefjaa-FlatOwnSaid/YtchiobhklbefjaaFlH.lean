/- Flat: rows of items of a function's own, whose lists may lie elsewhere; append to them. No condition. -/
import Derived.Test.YtchiobhklbefjaaFlAll
namespace Go.Proofs.Ytchiobhklbefjaa.Fl
open Go.RowKit Go.Proofs.YtchiobhklbefjaaW.PrintWords Go.Proofs.YtchiobhklbefjaaW.PrintLast Go.Proofs.YtchiobhklbefjaaW.PrintMore Go.Proofs.Ytchiobhklbefjaa.Tk Go.Proofs.Ytchiobhklbefjaa.Q
set_option linter.unusedVariables false
set_option linter.unusedSimpArgs false
theorem FBox.lt {w : World} {b : Nat} {p : Where} {a : Ask} (h : FBox w b p a) : b < w.heap.size := by
  obtain ⟨o, ho, _⟩ := cells_of_cell h.f0
  exact (Array.getElem?_eq_some_iff.1 ho).1
theorem FBox.only {w w1 : World} {b : Nat} {p : Where} {a : Ask} {S : Nat → Prop} (h : FBox w b p a) (hO : Only S w w1) (hs : ¬ S b) : FBox w1 b p a := ⟨cell_only hO h.f0 hs, cell_only hO h.f1 hs, cell_only hO h.f2 hs⟩
/-- Cells that read as an item, whatever becomes of the block of v. -/
def Fr (w : World) (v : Value) (x : It) (cs : List Value) : Prop := ∀ W, Only (fun k => v.ownBlock = some k) w W → k59.K W x cs
theorem Fr.now {w : World} {v : Value} {x : It} {cs : List Value} (h : Fr w v x cs) : k59.K w x cs := h w (Only.refl _ _)
theorem Fr.below {w w1 : World} {v : Value} {x : It} {cs : List Value} (h : Fr w v x cs) (hb : Below w.heap.size w w1) : Fr w1 v x cs := fun W hW => h W ((Only.of_below hb).trans hW)
/-- What was read ahead of all rows of the function's own. -/
theorem fr_old {w0 w : World} {v : Value} {x : It} {cs : List Value} (h : k59.K w0 x cs) (hb : Below w0.heap.size w0 w) (hv : ∀ k, v.ownBlock = some k → w0.heap.size ≤ k) : Fr w v x cs :=
  fun W hW => k59.K_below (hW.below_of hb hv) h
/-- A row of items of the function's own, from block base on. -/
def OwnI (w : World) (base : Nat) (v : Value) (A : List It) : Prop :=
  ∃ inner, w.ownsRow base 59 3 v A.length inner ∧ ∀ j x, A[j]? = some x → Fr w v x ((inner.drop (j * 3)).take 3)
theorem OwnI.nil (w : World) (base : Nat) : OwnI w base (.slice none 0 0) [] := ⟨[], own_nil _ _ _ _, fun j x h => by simp at h⟩
theorem OwnI.len {w : World} {base : Nat} {v : Value} {A : List It} {inner : List Value} (h : w.ownsRow base 59 3 v A.length inner) : inner.length = A.length * 3 := h.1
theorem OwnI.below {w w1 : World} {base : Nat} {v : Value} {A : List It} (h : OwnI w base v A) (hb : Below w.heap.size w w1) : OwnI w1 base v A := by
  obtain ⟨inner, h1, h2⟩ := h
  exact ⟨inner, pw_own_below h1 hb, fun j x hx => (h2 j x hx).below hb⟩
theorem OwnI.base {w : World} {base : Nat} {v : Value} {A : List It} (h : OwnI w base v A) : ∀ k, v.ownBlock = some k → base ≤ k := by
  obtain ⟨inner, h1, h2⟩ := h
  exact own_base h1
theorem OwnI.lt {w : World} {base : Nat} {v : Value} {A : List It} (h : OwnI w base v A) : ∀ k, v.ownBlock = some k → k < w.heap.size := by
  obtain ⟨inner, h1, h2⟩ := h
  exact own_lt h1
theorem OwnI.C {w : World} {base : Nat} {v : Value} {A : List It} (h : OwnI w base v A) : ∃ ao cap, v = .slice ao A.length cap ∧ A.length ≤ cap ∧ Kd.C k59 w ao A.length A := by
  obtain ⟨inner, h1, h2⟩ := h
  have hO : OwnRow (fun x cs => k59.K w x cs) 59 3 w base v A := ⟨inner, h1, h1.1, fun j x hx => (h2 j x hx).now⟩
  exact hO.reads
theorem info_item : (Try.prog.info? 59).map (fun i => (i.zero, i.size, i.bytes)) = some (some (.agg #[.int .u32 0, .slice none 0 0, .slice none 0 0]), 3, 56) := by kernel_rfl
theorem info_item2 : ∃ i, Try.prog.info? 59 = some i ∧ i.zero = some (.agg #[.int .u32 0, .slice none 0 0, .slice none 0 0]) ∧ i.size = 3 ∧ i.bytes = 56 := by
  obtain ⟨i0, hi, hzz⟩ := Option.map_eq_some_iff.1 info_item
  simp only [Prod.mk.injEq] at hzz
  exact ⟨i0, hi, hzz⟩
theorem one_of_triples {R : It → List Value → Prop} {B : List It} {news : List Value} (hn : news.length = B.length * 3) (hr : ∀ j x, B[j]? = some x → R x ((news.drop (j * 3)).take 3)) (h1 : ∀ x cs, R x cs → ∀ u ∈ cs, u.oneCell' = true) : ∀ u ∈ news, u.oneCell' = true := by
  intro u hu
  obtain ⟨j, hj, rfl⟩ := List.getElem_of_mem hu
  have hb : j / 3 < B.length := by omega
  refine h1 _ _ (hr (j / 3) _ (List.getElem?_eq_getElem hb)) _ (List.mem_iff_getElem?.2 ⟨j % 3, ?_⟩)
  rw [List.getElem?_take, if_pos (by omega), List.getElem?_drop]
  have : j / 3 * 3 + j % 3 = j := by omega
  rw [this, List.getElem?_eq_getElem hj]
theorem append_I {ops : Array Oper} {rest : List Oper} {o : Oper} {a : Act} {w : World} {Q : Exit → Act → World → Prop} (hgd : o.guard = none) (s x : Operand)
    (ho : o.op = .call { callee := .builtin .append, args := #[s, x], argTypes := #[45, 45] }) (base : Nat) (v : Value) (A B : List It) (ad : Addr) (n cap : Nat) (news : List Value)
    (hs : a.eval s = v) (hx : a.eval x = .slice (some ad) n cap) (hB : n = B.length) (hv : OwnI w base v A) (hn : news.length = B.length * 3) (hc : ∀ j u, news[j]? = some u → w.cell? (ad.add j) = some u)
    (hr : ∀ j x, B[j]? = some x → Fr w v x ((news.drop (j * 3)).take 3)) (hl1 : A.length + B.length ≤ maxLen) (hl2 : (A.length + B.length) * 56 ≤ 140737488355328) (hb : base ≤ w.heap.size)
    (h : ∀ v' w', OwnI w' base v' (A ++ B) → Only (fun i => v.ownBlock = some i) w w' → wpList Try.prog ops Q rest (a.put o.dst v') w') : wpList Try.prog ops Q (o :: rest) a w := by
  subst hB
  obtain ⟨i0, hi, hz, hsz, hby⟩ := info_item2
  obtain ⟨inner, h1, h2⟩ := hv
  refine wpList_append_own_at _ hgd s x _ ho base _ i0 _ 3 56 Try.underlying45 hi hz hsz hby rfl (by omega) v A.length inner hs h1 ad B.length cap news hx hn hc (one_of_triples hn (fun j x hx => (hr j x hx).now) (fun x cs hk => k59.K_one hk)) hl1 hl2 hb ?_
  intro v' w' hown hg hne hat
  have hO : Only (fun i => v.ownBlock = some i) w w' := Only.of_grown hg (fun k hk => hk)
  have hil : inner.length = A.length * 3 := h1.1
  have hfr : ∀ {x : It} {cs : List Value}, Fr w v x cs → Fr w' v' x cs := by
    intro x cs hf W hW
    refine hf W ⟨hW.os.trans hO.os, hW.tape.trans hO.tape, hW.output.trans hO.output, Nat.le_trans hO.size hW.size, fun k hk hn => ?_⟩
    refine (hW.block k (Nat.lt_of_lt_of_le hk hO.size) (fun e => ?_)).trans (hO.block k hk hn)
    rcases hat with hat | hat
    · rw [hat] at e; exact hn e
    · rw [hat] at e; simp only [Option.some.injEq] at e; omega
  refine h v' w' ⟨inner ++ news, by rw [List.length_append]; exact hown, fun j x hx => ?_⟩ hO
  by_cases hj : j < A.length
  · rw [List.getElem?_append_left hj] at hx
    have e : ((inner ++ news).drop (j * 3)).take 3 = (inner.drop (j * 3)).take 3 := by
      rw [List.drop_append_of_le_length (by omega), List.take_append_of_le_length (by rw [List.length_drop]; omega)]
    rw [e]
    exact hfr (h2 j x hx)
  · rw [List.getElem?_append_right (by omega)] at hx
    have e : (inner ++ news).drop (j * 3) = news.drop ((j - A.length) * 3) := by
      have e3 : j * 3 - A.length * 3 = (j - A.length) * 3 := by omega
      rw [List.drop_append, List.drop_eq_nil_of_le (by omega), List.nil_append, hil, e3]
    rw [e]
    exact hfr (hr _ x hx)
/-- One item is appended. -/
theorem append_one {ops : Array Oper} {rest : List Oper} {o : Oper} {a : Act} {w : World} {Q : Exit → Act → World → Prop} (hgd : o.guard = none) (s x : Operand)
    (ho : o.op = .call { callee := .builtin .append, args := #[s, x], argTypes := #[45, 45] }) (base : Nat) (v : Value) (A : List It) (y : It) (c0 c1 c2 : Value)
    (hs : a.eval s = v) (hx : a.eval x = .slice (some ⟨w.heap.size, 0, none⟩) 1 1) (hv : OwnI w base v A) 
    (hr : Fr w v y [c0, c1, c2]) (hl : A.length ≤ 1000000) (hb : base ≤ w.heap.size)
    (h : ∀ v' w', OwnI w' base v' (A ++ [y]) → Only (fun i => v.ownBlock = some i) (w.alloc (.cells #[c0, c1, c2] 59)) w' → wpList Try.prog ops Q rest (a.put o.dst v') w') : wpList Try.prog ops Q (o :: rest) a (w.alloc (.cells #[c0, c1, c2] 59)) := by
  have hbb := below_alloc (Below.refl w.heap.size w) (.cells #[c0, c1, c2] 59)
  refine append_I hgd s x ho base v A [y] ⟨w.heap.size, 0, none⟩ 1 1 [c0, c1, c2] hs hx rfl (hv.below hbb) rfl ?_ ?_ (by unfold maxLen; show A.length + 1 ≤ _; omega) (by show (A.length + 1) * 56 ≤ _; omega) (Nat.le_trans hb hbb.size) h
  · intro j u hu
    rw [add_plain, blk_cell (heap_alloc_new w _), List.getElem?_toArray]
    exact hu
  · intro j x hx
    match j, hx with
    | 0, hx =>
      cases hx
      exact hr.below hbb
end Go.Proofs.Ytchiobhklbefjaa.Fl
