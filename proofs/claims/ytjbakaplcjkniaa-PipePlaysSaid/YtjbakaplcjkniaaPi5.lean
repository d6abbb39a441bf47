/- Pipe: a piece more, in a region that draws its order. No condition. -/
import Derived.Test.YtjbakaplcjkniaaPi4
import Derived.Deep.RegionHeld3
import Derived.Deep.AppendLies
namespace Go.Proofs.Ytjbakaplcjkniaa.Pi
open Go.RowKit Go.Proofs.YtjbakaplcjkniaaW.PrintWords Go.Proofs.YtjbakaplcjkniaaW.PrintLast Go.Proofs.YtjbakaplcjkniaaW.PrintMore
variable {X : Nat → Prop}
set_option linter.unusedVariables false
set_option linter.unusedSimpArgs false
theorem info_piece : (Try.prog.info? 92).map (fun i => (i.zero, i.size, i.bytes)) = some (some (.agg #[.slice none 0 0, .int .u64 0]), 2, 32) := by kernel_rfl
theorem info_piece2 : ∃ i, Try.prog.info? 92 = some i ∧ i.zero = some (.agg #[.slice none 0 0, .int .u64 0]) ∧ i.size = 2 ∧ i.bytes = 32 := by
  obtain ⟨i0, hi, hzz⟩ := Option.map_eq_some_iff.1 info_piece
  simp only [Prod.mk.injEq] at hzz
  exact ⟨i0, hi, hzz⟩
theorem PK.one {w : World} {x : List Int × Int} {cs : List Value} (h : PK w x cs) : ∀ u ∈ cs, u.oneCell' = true := by
  obtain ⟨A, c, rfl, _, _⟩ := h
  intro u hu
  simp at hu
  rcases hu with rfl | rfl <;> rfl
/-- What an append of one piece leaves. -/
theorem run_append_P {w : World} (ty : TypeId) (base g : Nat) (v : Value) (A : Pcs) (y : List Int × Int) (p : Nat) (c0 c1 : Value) (hv : OwnP X w base g v A) (hp : w.heap[p]? = some (.cells #[c0, c1] 92 (0, 0)))
    (hr : FrP X w v g y [c0, c1]) (hl : A.length ≤ 1000000) (hb : base ≤ w.heap.size) (hg : g < w.heap.size) (hap : v.ownBlock ≠ some g) (hX : ∀ k, X k → k < w.heap.size) :
    ∃ v' w', (Builtin.append_ #[88, 88] ty #[v, .slice (some ⟨p, 0, none⟩) 1 1]).run Try.prog w = .ok v' w' ∧ OwnP X w' base g v' (A ++ [y]) ∧ Only (fun i => v.ownBlock = some i) w w' ∧ v'.ownBlock ≠ some g := by
  obtain ⟨i0, hi, hz, hsz, hby⟩ := info_piece2
  obtain ⟨inner, h1, h2⟩ := hv
  obtain ⟨v', w', hrun, hown, hgr, hne, hat⟩ := run_append_own_at (P := Try.prog) w base 88 ty 92 i0 _ 2 32 Try.underlying88 hi hz hsz hby rfl (by omega) v A.length inner h1 ⟨p, 0, none⟩ 1 1 [c0, c1] rfl
    (fun j u hu => by rw [add_plain, blk_cell hp, List.getElem?_toArray]; exact hu) hr.now.one (by unfold maxLen; omega) (by omega) hb
  have hO : Only (fun i => v.ownBlock = some i) w w' := Only.of_grown hgr (fun k hk => hk)
  have hil : inner.length = A.length * 2 := h1.1
  have hfr : ∀ {x : List Int × Int} {cs : List Value}, FrP X w v g x cs → FrP X w' v' g x cs := by
    intro x cs hf W hW
    refine hf W ⟨hW.os.trans hO.os, hW.tape.trans hO.tape, hW.output.trans hO.output, Nat.le_trans hO.size hW.size, fun k hk hn => ?_⟩
    refine (hW.block k (Nat.lt_of_lt_of_le hk hO.size) (fun e => ?_)).trans (hO.block k hk (fun e => hn (.inl (.inl e))))
    rcases e with (e | e) | e
    · rcases hat with hat | hat
      · rw [hat] at e; exact hn (.inl (.inl e))
      · rw [hat] at e; simp only [Option.some.injEq] at e; omega
    · exact hn (.inl (.inr e))
    · exact hn (.inr e)
  refine ⟨v', w', hrun, ⟨inner ++ [c0, c1], by rw [List.length_append]; exact hown, fun j x hx => ?_⟩, hO, ?_⟩
  · by_cases hj : j < A.length
    · rw [List.getElem?_append_left hj] at hx
      have e : ((inner ++ [c0, c1]).drop (j * 2)).take 2 = (inner.drop (j * 2)).take 2 := by
        rw [List.drop_append_of_le_length (by omega), List.take_append_of_le_length (by rw [List.length_drop]; omega)]
      rw [e]
      exact hfr (h2 j x hx)
    · rw [List.getElem?_append_right (by omega)] at hx
      have hj0 : j - A.length = 0 := by
        have := (List.getElem?_eq_some_iff.1 hx).1
        simp at this; omega
      rw [hj0] at hx
      cases hx
      have e : (inner ++ [c0, c1]).drop (j * 2) = [c0, c1] := by
        rw [List.drop_append, List.drop_eq_nil_of_le (by omega), List.nil_append, show j * 2 - inner.length = 0 by omega]
        rfl
      rw [e]
      exact hfr hr
  · rcases hat with hat | hat
    · rw [hat]; exact hap
    · rw [hat]; simp only [ne_eq, Option.some.injEq]; omega
section
variable {ops : Array Oper} {o : Oper} {a : Act} {w : World} {K : Act → World → Prop} {Q : Exit → Act → World → Prop} {E : Prop}
theorem step_append_P (hgd : o.guard = none) (s x : Operand) (ho : o.op = .call { callee := .builtin .append, args := #[s, x], argTypes := #[88, 88] })
    (base g : Nat) (v : Value) (A : Pcs) (y : List Int × Int) (p : Nat) (c0 c1 : Value) (hs : a.eval s = v) (hx : a.eval x = .slice (some ⟨p, 0, none⟩) 1 1) (hv : OwnP X w base g v A) (hp : w.heap[p]? = some (.cells #[c0, c1] 92 (0, 0)))
    (hr : FrP X w v g y [c0, c1]) (hl : A.length ≤ 1000000) (hb : base ≤ w.heap.size) (hg : g < w.heap.size) (hap : v.ownBlock ≠ some g) (hX : ∀ k, X k → k < w.heap.size)
    (h : ∀ v' w', OwnP X w' base g v' (A ++ [y]) → Only (fun i => v.ownBlock = some i) w w' → v'.ownBlock ≠ some g → K (a.put o.dst v') w') : if Region.wanted o (yielded ops a.tmps) = true then Oper.wp Try.prog o a w K Q else E := by
  obtain ⟨v', w', hrun, h1, h2, h3⟩ := run_append_P o.type base g v A y p c0 c1 hv hp hr hl hb hg hap hX
  rw [if_pos (by simp [Region.wanted, hgd])]
  unfold Oper.wp execOp
  simp only [ho, resolve, invoke, builtin, Sem.run_bind, Sem.run_pure, Result.andThen_ok, List.map_toArray, List.map_cons, List.map_nil, hs, hx, hrun]
  exact h v' w' h1 h2 h3
end
end Go.Proofs.Ytjbakaplcjkniaa.Pi
