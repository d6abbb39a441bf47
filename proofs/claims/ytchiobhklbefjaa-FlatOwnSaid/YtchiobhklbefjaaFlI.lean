/- Flat: append to rows of items within a region that draws its order. No condition. -/
import Derived.Test.YtchiobhklbefjaaFlH
import Derived.Deep.RegionHeld3
import Derived.Deep.AppendLies
namespace Go.Proofs.Ytchiobhklbefjaa.Fl
open Go.RowKit Go.Proofs.YtchiobhklbefjaaW.PrintWords Go.Proofs.YtchiobhklbefjaaW.PrintLast Go.Proofs.YtchiobhklbefjaaW.PrintMore Go.Proofs.Ytchiobhklbefjaa.Tk Go.Proofs.Ytchiobhklbefjaa.Q
set_option linter.unusedVariables false
set_option linter.unusedSimpArgs false
/-- The cells of a row that is read. -/
theorem cells_of_C {w : World} {ad : Addr} {B : List It} (h : Kd.C k59 w (some ad) B.length B) :
    ∃ news : List Value, news.length = B.length * 3 ∧ (∀ j u, news[j]? = some u → w.cell? (ad.add j) = some u) ∧ ∀ j x, B[j]? = some x → k59.K w x ((news.drop (j * 3)).take 3) := by
  have key : ∀ j x, B[j]? = some x → ∃ cs : List Value, cs.length = 3 ∧ k59.K w x cs ∧ ∀ i u, cs[i]? = some u → w.cell? (ad.add (j * 3 + i)) = some u := by
    intro j x hj
    have hlt := (List.getElem?_eq_some_iff.1 hj).1
    obtain ⟨ad', e, hc⟩ := h.2.2 (by omega)
    cases e
    exact hc j x hj
  obtain ⟨news, hl, hn⟩ := Frame.list_of (R := fun i u => w.cell? (ad.add i) = some u) (B.length * 3) (fun i hi => by
    obtain ⟨cs, h1, h2, h3⟩ := key (i / 3) _ (List.getElem?_eq_getElem (show i / 3 < B.length by omega))
    have h4 := h3 (i % 3) _ (List.getElem?_eq_getElem (by omega))
    have e : i / 3 * 3 + i % 3 = i := by omega
    rw [e] at h4
    exact ⟨_, h4⟩)
  refine ⟨news, hl, hn, fun j x hj => ?_⟩
  have hlt := (List.getElem?_eq_some_iff.1 hj).1
  obtain ⟨cs, h1, h2, h3⟩ := key j x hj
  have e : (news.drop (j * 3)).take 3 = cs := by
    apply List.ext_getElem?
    intro i
    by_cases hi : i < 3
    · rw [List.getElem?_take, if_pos hi, List.getElem?_drop]
      have hni := hn (j * 3 + i) _ (List.getElem?_eq_getElem (by omega))
      have hci := h3 i _ (List.getElem?_eq_getElem (by omega))
      rw [hci] at hni
      rw [List.getElem?_eq_getElem (by omega), List.getElem?_eq_getElem (by omega)]
      exact hni.symm
    · rw [List.getElem?_eq_none (by rw [List.length_take]; omega), List.getElem?_eq_none (by omega)]
  rw [e]
  exact h2
theorem run_append_none {P : Program} {w : World} (base : Nat) (t ty e : TypeId) (i : TypeInfo) (size : Nat) (ht : P.underlying t = some (.slice e)) (hi : P.info? e = some i) (v : Value) (n c : Nat) (xs : List Value) (hown : w.ownsRow base e size v n xs) :
    (Builtin.append_ #[t, t] ty #[v, .slice none 0 c]).run P w = .ok v w := by
  rcases hown.2 with ⟨rfl, rfl⟩ | ⟨g, cap, cur, rfl, _, _, hnc, _⟩
  · simp [Builtin.append_, run_underlying ht, sizeOf, typeInfo, hi, Builtin.lenOf, Builtin.firstCells]
  · simp [Builtin.append_, run_underlying ht, sizeOf, typeInfo, hi, Builtin.lenOf, Builtin.firstCells, hnc, storeCells]
/-- What an append to a row of items leaves. -/
theorem run_append_I {w : World} (ty : TypeId) (base : Nat) (v : Value) (A B : List It) (ad : Addr) (cap : Nat) (news : List Value) (hv : OwnI w base v A) (hn : news.length = B.length * 3) (hc : ∀ j u, news[j]? = some u → w.cell? (ad.add j) = some u)
    (hr : ∀ j x, B[j]? = some x → Fr w v x ((news.drop (j * 3)).take 3)) (hl1 : A.length + B.length ≤ maxLen) (hl2 : (A.length + B.length) * 56 ≤ 140737488355328) (hb : base ≤ w.heap.size) :
    ∃ v' w', (Builtin.append_ #[45, 45] ty #[v, .slice (some ad) B.length cap]).run Try.prog w = .ok v' w' ∧ OwnI w' base v' (A ++ B) ∧ Only (fun i => v.ownBlock = some i) w w' := by
  obtain ⟨i0, hi, hz, hsz, hby⟩ := info_item2
  obtain ⟨inner, h1, h2⟩ := hv
  obtain ⟨v', w', hrun, hown, hg, hne, hat⟩ := run_append_own_at (P := Try.prog) w base 45 ty 59 i0 _ 3 56 Try.underlying45 hi hz hsz hby rfl (by omega) v A.length inner h1 ad B.length cap news hn hc (one_of_triples hn (fun j x hx => (hr j x hx).now) (fun x cs hk => k59.K_one hk)) hl1 hl2 hb
  have hO : Only (fun i => v.ownBlock = some i) w w' := Only.of_grown hg (fun k hk => hk)
  have hil : inner.length = A.length * 3 := h1.1
  have hfr : ∀ {x : It} {cs : List Value}, Fr w v x cs → Fr w' v' x cs := by
    intro x cs hf W hW
    refine hf W ⟨hW.os.trans hO.os, hW.tape.trans hO.tape, hW.output.trans hO.output, Nat.le_trans hO.size hW.size, fun k hk hn => ?_⟩
    refine (hW.block k (Nat.lt_of_lt_of_le hk hO.size) (fun e => ?_)).trans (hO.block k hk hn)
    rcases hat with hat | hat
    · rw [hat] at e; exact hn e
    · rw [hat] at e; simp only [Option.some.injEq] at e; omega
  refine ⟨v', w', hrun, ⟨inner ++ news, by rw [List.length_append]; exact hown, fun j x hx => ?_⟩, hO⟩
  by_cases hj : j < A.length
  · rw [List.getElem?_append_left hj] at hx
    have e : ((inner ++ news).drop (j * 3)).take 3 = (inner.drop (j * 3)).take 3 := by
      rw [List.drop_append_of_le_length (by omega), List.take_append_of_le_length (by rw [List.length_drop]; omega)]
    rw [e]
    exact hfr (h2 j x hx)
  · rw [List.getElem?_append_right (by omega)] at hx
    have e : (inner ++ news).drop (j * 3) = news.drop ((j - A.length) * 3) := by
      have e3 : j * 3 - A.length * 3 = (j - A.length) * 3 := by omega
      rw [List.drop_append, List.drop_eq_nil_of_le (by omega), List.nil_append, hil, e3]
    rw [e]
    exact hfr (hr _ x hx)
/-- .. of a row that lay ahead of the function's own, nil too. -/
theorem run_append_old {w0 w : World} (ty : TypeId) (base : Nat) (v : Value) (A B : List It) (ao : Option Addr) (cap : Nat) (hv : OwnI w base v A) (hC : Kd.C k59 w0 ao B.length B) (hb0 : Below w0.heap.size w0 w) (hv0 : ∀ k, v.ownBlock = some k → w0.heap.size ≤ k)
    (hl1 : A.length + B.length ≤ maxLen) (hl2 : (A.length + B.length) * 56 ≤ 140737488355328) (hb : base ≤ w.heap.size) :
    ∃ v' w', (Builtin.append_ #[45, 45] ty #[v, .slice ao B.length cap]).run Try.prog w = .ok v' w' ∧ OwnI w' base v' (A ++ B) ∧ Only (fun i => v.ownBlock = some i) w w' := by
  cases ao with
  | none =>
    have h0 : B.length = 0 := by
      rcases Nat.eq_zero_or_pos B.length with h | h
      · exact h
      · obtain ⟨ad, e, _⟩ := hC.2.2 h
        cases e
    obtain rfl : B = [] := List.length_eq_zero_iff.1 h0
    obtain ⟨i0, hi, hz, hsz, hby⟩ := info_item2
    obtain ⟨inner, h1, h2⟩ := hv
    exact ⟨v, w, run_append_none base _ ty _ i0 3 Try.underlying45 hi v A.length cap inner h1, by rw [List.append_nil]; exact ⟨inner, h1, h2⟩, Only.refl _ _⟩
  | some ad =>
    obtain ⟨news, hn, hc, hk⟩ := cells_of_C hC
    exact run_append_I ty base v A B ad cap news hv hn (fun j u hu => pw_cell_below hb0 (hc j u hu)) (fun j x hx => fr_old (hk j x hx) hb0 hv0) hl1 hl2 hb
section
variable {ops : Array Oper} {o : Oper} {a : Act} {w : World} {K : Act → World → Prop} {Q : Exit → Act → World → Prop} {E : Prop}
theorem wp_of_run (s x : Operand) (ho : o.op = .call { callee := .builtin .append, args := #[s, x], argTypes := #[45, 45] }) {v u v' : Value} {w' : World} (hs : a.eval s = v) (hx : a.eval x = u)
    (hr : (Builtin.append_ #[45, 45] o.type #[v, u]).run Try.prog w = .ok v' w') (h : K (a.put o.dst v') w') : o.wp Try.prog a w K Q := by
  unfold Oper.wp execOp
  simp only [ho, resolve, invoke, builtin, Sem.run_bind, Sem.run_pure, Result.andThen_ok, List.map_toArray, List.map_cons, List.map_nil, hs, hx, hr]
  exact h
theorem step_append_old {w0 : World} (hgd : o.guard = none) (s x : Operand) (ho : o.op = .call { callee := .builtin .append, args := #[s, x], argTypes := #[45, 45] })
    (base : Nat) (v : Value) (A B : List It) (ao : Option Addr) (n cap : Nat) (hs : a.eval s = v) (hx : a.eval x = .slice ao n cap) (hB : n = B.length) (hv : OwnI w base v A) (hC : Kd.C k59 w0 ao B.length B) (hb0 : Below w0.heap.size w0 w) (hv0 : ∀ k, v.ownBlock = some k → w0.heap.size ≤ k)
    (hl1 : A.length + B.length ≤ maxLen) (hl2 : (A.length + B.length) * 56 ≤ 140737488355328) (hb : base ≤ w.heap.size)
    (h : ∀ v' w', OwnI w' base v' (A ++ B) → Only (fun i => v.ownBlock = some i) w w' → K (a.put o.dst v') w') : if Region.wanted o (yielded ops a.tmps) = true then Oper.wp Try.prog o a w K Q else E := by
  subst hB
  obtain ⟨v', w', hr, h1, h2⟩ := run_append_old o.type base v A B ao cap hv hC hb0 hv0 hl1 hl2 hb
  rw [if_pos (by simp [Region.wanted, hgd])]
  exact wp_of_run s x ho hs hx hr (h v' w' h1 h2)
theorem step_append_one (hgd : o.guard = none) (s x : Operand) (ho : o.op = .call { callee := .builtin .append, args := #[s, x], argTypes := #[45, 45] })
    (base : Nat) (v : Value) (A : List It) (y : It) (g : Nat) (c0 c1 c2 : Value) (hs : a.eval s = v) (hx : a.eval x = .slice (some ⟨g, 0, none⟩) 1 1) (hv : OwnI w base v A) (hg : w.heap[g]? = some (.cells #[c0, c1, c2] 59 (0, 0)))
    (hr : Fr w v y [c0, c1, c2]) (hl1 : A.length + 1 ≤ maxLen) (hl2 : (A.length + 1) * 56 ≤ 140737488355328) (hb : base ≤ w.heap.size)
    (h : ∀ v' w', OwnI w' base v' (A ++ [y]) → Only (fun i => v.ownBlock = some i) w w' → K (a.put o.dst v') w') : if Region.wanted o (yielded ops a.tmps) = true then Oper.wp Try.prog o a w K Q else E := by
  obtain ⟨v', w', hrun, h1, h2⟩ := run_append_I o.type base v A [y] ⟨g, 0, none⟩ 1 [c0, c1, c2] hv rfl (fun j u hu => by rw [add_plain, blk_cell hg, List.getElem?_toArray]; exact hu) (fun j x hj => by
    match j, hj with
    | 0, hj => cases hj; exact hr) hl1 hl2 hb
  rw [if_pos (by simp [Region.wanted, hgd])]
  exact wp_of_run s x ho hs hx hrun (h v' w' h1 h2)
end
theorem OwnI.lit0 (w : World) (base : Nat) (hb : base ≤ w.heap.size) : OwnI (w.alloc (.cells #[] 59)) base (.slice (some ⟨w.heap.size, 0, none⟩) 0 0) [] :=
  ⟨[], ⟨rfl, .inr ⟨w.heap.size, 0, #[], rfl, hb, heap_alloc_new w _, Nat.le_refl _, by unfold maxLen; omega, rfl, rfl⟩⟩, fun j x h => by simp at h⟩
end Go.Proofs.Ytchiobhklbefjaa.Fl
