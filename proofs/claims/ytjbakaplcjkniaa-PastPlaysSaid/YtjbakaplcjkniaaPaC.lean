/- Past: slices.SortFunc at items. No condition. -/
import Derived.Test.YtjbakaplcjkniaaPaB
namespace Go.Proofs.Ytjbakaplcjkniaa.Pa
open Go.RowKit Go.Maps Go.Proofs.YtjbakaplcjkniaaW.PrintWords Go.Proofs.YtjbakaplcjkniaaW.PrintLast Go.Proofs.YtjbakaplcjkniaaW.PrintMore Go.Proofs.Ytjbakaplcjkniaa.Pi
set_option linter.unusedVariables false
set_option linter.unusedSimpArgs false
theorem isAgg_item : ∀ w, (isAgg 54).run Try.prog w = .ok true w := fun w => by kernel_rfl
theorem sizeOf_item : ∀ w, (Go.sizeOf 54).run Try.prog w = .ok 3 w := fun w => by kernel_rfl
theorem flatE_get (d : List Elt) (t : Nat) (h : t < d.length * 3) : (cellsE d)[t]? = some (Go.Sort.flatK Elt.cs 3 d.toArray)[t]! := by
  rw [Go.Sort.get_flatK Elt.cs 3 _ t (by simpa using h)]
  have hi : t / 3 < d.length := by omega
  have hx : d[t / 3]? = some d[t / 3] := List.getElem?_eq_getElem hi
  have h0 := cellsE_get d (t / 3) _ hx (t % 3) (Nat.mod_lt _ (by omega))
  rw [show t / 3 * 3 + t % 3 = t by omega] at h0
  rw [h0]
  have e : d.toArray[t / 3]! = d[t / 3] := by simp [hi]
  rw [e]
  have hm : t % 3 < (Elt.cs d[t / 3]).length := by rw [Elt.len]; omega
  rw [List.getElem?_eq_getElem hm]
  simp [hm]
theorem holdsE {w : World} {r : Nat} {cur : Array Value} {d : List Elt} (hh : w.heap[r]? = some (.cells cur 54 (0, 0))) (ht : cur.toList.take (d.length * 3) = cellsE d) : Go.Sort.HoldsK Elt.cs 3 w r 0 d.toArray := by
  intro t htl
  have ht' : t < d.length * 3 := by simpa using htl
  have hf := flatE_get d t ht'
  refine ⟨?_, blk_frozen hh _⟩
  rw [Nat.zero_add, blk_cell hh, ← Array.getElem?_toList]
  have : cur.toList[t]? = (cellsE d)[t]? := by rw [← ht, List.getElem?_take, if_pos ht']
  rw [this]
  exact hf
theorem putE {w : World} {r n : Nat} {cur : Array Value} {d d' : List Elt} {os : Array Obj} (hh : w.heap[r]? = some (.cells cur 54 (0, 0))) (ht : cur.toList.take (d.length * 3) = cellsE d) (hl : d'.length = d.length) :
    ∃ cur', (Go.Proofs.sortWorldK Elt.cs 3 w r 0 n d'.toArray os).heap[r]? = some (.cells cur' 54 (0, 0)) ∧ cur'.size = cur.size ∧ cur'.toList.take (d'.length * 3) = cellsE d' := by
  have hcl : d.length * 3 ≤ cur.size := by
    have h1 := congrArg List.length ht
    rw [List.length_take, cellsE_len] at h1
    have h2 : cur.toList.length = cur.size := Array.length_toList
    rw [h2] at h1
    exact Nat.le_trans (Nat.le_of_eq h1.symm) (Nat.min_le_right _ _)
  refine ⟨Go.Sort.putCells id 0 (Go.Sort.flatK Elt.cs 3 d'.toArray) cur, ?_, by simp [Go.Sort.putCells], ?_⟩
  · have h1 : (Go.Sort.putRowK Elt.cs 3 (Go.Sort.ahead w n) r 0 d'.toArray).heap[r]? = some (.cells (Go.Sort.putCells id 0 (Go.Sort.flatK Elt.cs 3 d'.toArray) cur) 54 (0, 0)) := by
      simp only [Go.Sort.putRowK, Go.Sort.putRow, Go.Sort.mapBlock, Go.Sort.ahead, Array.getElem?_modify, hh]
      simp [Go.Sort.onCells]
    show (Go.Sort.grow _ os).heap[r]? = _
    have hsz : r < (Go.Sort.putRowK Elt.cs 3 (Go.Sort.ahead w n) r 0 d'.toArray).heap.size := blk_lt h1
    simp only [Go.Sort.grow]
    rw [Array.getElem?_append_left hsz]
    exact h1
  · apply List.ext_getElem?
    intro t
    rw [List.getElem?_take]
    by_cases htl : t < d'.length * 3
    · rw [if_pos htl, Array.getElem?_toList, flatE_get d' t htl]
      simp only [Go.Sort.putCells, Array.getElem?_mapIdx, Nat.zero_le, true_and, Nat.zero_add, Nat.sub_zero, Go.Sort.size_flatK, List.size_toArray]
      have hc : t < cur.size := by omega
      rw [Array.getElem?_eq_getElem hc]
      simp [htl]
    · rw [if_neg htl, List.getElem?_eq_none (by rw [cellsE_len]; omega)]
theorem onlyE (w : World) (r n : Nat) (d : List Elt) (os : Array Obj) : Only (· = r) w (Go.Proofs.sortWorldK Elt.cs 3 w r 0 n d.toArray os) := by
  refine ⟨rfl, rfl, rfl, ?_, fun k hk hs => ?_⟩
  · simp [Go.Proofs.sortWorldK, Go.Sort.grow, Go.Sort.putRowK, Go.Sort.putRow, Go.Sort.mapBlock, Go.Sort.ahead]
  · simp only [Go.Proofs.sortWorldK, Go.Sort.grow, Go.Sort.putRowK, Go.Sort.putRow, Go.Sort.mapBlock, Go.Sort.ahead]
    rw [Array.getElem?_append_left (by simpa using hk), Array.getElem?_modify, if_neg (fun e => hs e.symm)]
theorem entersE : ∀ args w, (callFunc 49 args).run Try.prog w = .ok (.enter 49 args) w := Go.Proofs.enters_of Try.func49 (by kernel_rfl) rfl
theorem cmpE_lays (blk off size : Nat) (w : World) : Go.Proofs.CmpLays Try.prog 49 #[] Elt.cs 3 cmpE blk off size w := by
  intro m os dk hs x y
  refine (cmpE_calls x y _).mono fun e w' ⟨he, hw⟩ => ⟨he, 0, #[boxE x, boxE y], ?_⟩
  rw [hw, Go.Sort.alloc_eq_grow, Go.Sort.alloc_eq_grow, Go.Sort.grow_grow]
  rfl
/-- In order, by rising ids. -/
def Rising (d : List Elt) : Prop := d.Pairwise fun x y => ¬ y.r.id < x.r.id
/-- slices.SortFunc at a list of items of one's own, nil too. -/
theorem sortE (b : Nat) (v : Value) (d : List Elt) (w : World) (h : OwnE w b v d) (hl : d.length ≤ 1000000) :
    Calls Try.prog 48 #[v, .func (.func 49) #[] #[]] w fun e w' => e = .returned (.tuple #[]) ∧ Only (fun k => v.ownBlock = some k) w w' ∧ ∃ d', d'.Perm d ∧ Rising d' ∧ OwnE w' b v d' := by
  rcases h.2 with ⟨rfl, h0⟩ | ⟨r, cap, cur, rfl, hb, hh, hc1, hc2, hc3, hc4⟩
  · have hd : d = [] := List.length_eq_zero_iff.1 h0
    subst hd
    refine (Go.Proofs.AnyF.slices_SortFunc_none Try.sortItem none 0 _ w).mono fun e w' ⟨he, hw⟩ => ?_
    subst hw
    exact ⟨he, Only.refl _ _, [], List.Perm.refl _, List.Pairwise.nil, OwnE.nil _ _⟩
  · have hs : d.toArray.size = d.length := by simp
    have hc := Go.Proofs.AnyQ.slices_SortFunc Try.sortItem 3 isAgg_item sizeOf_item Elt.cs Elt.len Elt.one cmpE swoE 49 #[] r 0 cap d.toArray w entersE (cmpE_lays r 0 _ w) (holdsE hh hc4) (blk_lt hh) (by rw [hs]; omega)
    rw [hs] at hc
    refine hc.mono fun e w' ⟨he, D, n, os, hp, hso, hw⟩ => ?_
    obtain ⟨p1, _, p3⟩ := hp
    have hD : D.size = d.length := by rw [p1, hs]
    have e1 : D.extract 0 d.length = D := by rw [← hD]; exact Array.extract_size
    have e2 : d.toArray.extract 0 d.length = d.toArray := by rw [← hs]; exact Array.extract_size
    rw [e1, e2] at p3
    have hDl : D.toList.length = d.length := by rw [Array.length_toList]; exact hD
    have hDD : D = D.toList.toArray := by simp
    rw [hDD] at hw
    obtain ⟨cur', g1, g2, g3⟩ := putE (n := n) (os := os) hh hc4 hDl
    subst hw
    refine ⟨he, (onlyE w r n D.toList os).mono (fun k hk => by subst hk; rfl), D.toList, p3, ?_, ?_⟩
    · rw [Rising, List.pairwise_iff_getElem]
      intro i j hi hj hij
      have := hso i j (Nat.zero_le _) hij (by rw [hDl] at hj; exact hj)
      rw [ltE_iff, decide_eq_false_iff_not] at this
      have hi' : i < D.size := by simpa using hi
      have hj' : j < D.size := by simpa using hj
      simpa [hi', hj'] using this
    · refine ⟨cellsE_len _, .inr ⟨r, cap, cur', ?_, hb, g1, by rw [hDl]; exact hc1, hc2, by rw [g2]; exact hc3, g3⟩⟩
      rw [hDl]
end Go.Proofs.Ytjbakaplcjkniaa.Pa
