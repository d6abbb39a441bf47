/- Topk: the order's closure, slices.SortFunc and slices.Clone at hits. No condition. -/
import Derived.Test.YtchiobhklbefjaaTk5
import Derived.Test.YtchiobhklbefjaaSort
import Derived.Shelf.SlSortCmp.NoneTotal
import Derived.Laws.StructEq
import Derived.WalkSpells
namespace Go.Proofs.Ytchiobhklbefjaa.Tk
open Go.RowKit Go.Proofs.YtchiobhklbefjaaW.PrintWords Go.Proofs.Ytchiobhklbefjaa.Q
set_option linter.unusedVariables false
instance : Inhabited H := ⟨⟨0, 0⟩⟩
def cmpH (a b : H) : Int := if ltH a b = true then -1 else if a.f0 = b.f0 ∧ a.f1 = b.f1 then 0 else 1
theorem cmp_eq {a b : H} (h : ltH a b = false) (h2 : a.f0 = b.f0 ∧ a.f1 = b.f1) : cmpH a b = 0 := by unfold cmpH; rw [h, if_neg (by simp), if_pos h2]
theorem cmp_gt {a b : H} (h : ltH a b = false) (h2 : ¬ (a.f0 = b.f0 ∧ a.f1 = b.f1)) : cmpH a b = 1 := by unfold cmpH; rw [h, if_neg (by simp), if_neg h2]
set_option maxHeartbeats 2000000 in
set_option maxRecDepth 100000 in
theorem cmp_calls (a b : H) (w : World) :
    Calls Try.prog 101 #[.agg #[.int .i64 a.f0, .int .u32 a.f1], .agg #[.int .i64 b.f0, .int .u32 b.f1]] w fun e w' => e = .returned (.int .i64 (cmpH a b)) ∧ w' = (((w.alloc (boxH a)).alloc (boxH b)).alloc (boxH a)).alloc (boxH b) := by
  have hu := Try.underlying29
  have hlc := fun W => less_calls a.f0 a.f1 b.f0 b.f1 W
  obtain ⟨l, hl⟩ : ∃ l, ltH a b = l := ⟨_, rfl⟩
  have hle : ltH ⟨a.f0, a.f1⟩ ⟨b.f0, b.f1⟩ = l := hl
  rw [hle] at hlc
  have HL := Aside0.mk hl
  clear hl hle
  cases l with
  | true =>
    go_enter Try.func101, Try.ntmps101
    go_wp2_with ((go_at_call 65; (with_reducible refine (hlc _).mono ?_); rintro e w3 ⟨rfl, rfl⟩))
    go_ret
    exact ⟨by unfold cmpH; rw [HL.out]; rfl, rfl⟩
  | false =>
    by_cases h0 : a.f0 = b.f0
    · have e0 : (a.f0 == b.f0) = true := beq_iff_eq.2 h0
      by_cases h1 : a.f1 = b.f1
      · have e1 : (a.f1 == b.f1) = true := beq_iff_eq.2 h1
        have HE := Aside0.mk (show a.f0 = b.f0 ∧ a.f1 = b.f1 from ⟨h0, h1⟩)
        clear h0 h1
        go_enter Try.func101, Try.ntmps101
        go_wp2_with ((go_at_call 65; (with_reducible refine (hlc _).mono ?_); rintro e w3 ⟨rfl, rfl⟩))
        go_ret
        exact ⟨congrArg (fun z => Ending.returned (Value.int .i64 z)) (cmp_eq HL.out HE.out).symm, rfl⟩
      · have e1 : (a.f1 == b.f1) = false := beq_eq_false_iff_ne.2 h1
        have HE := Aside0.mk (show ¬ (a.f0 = b.f0 ∧ a.f1 = b.f1) from fun x => h1 x.2)
        clear h0 h1
        go_enter Try.func101, Try.ntmps101
        go_wp2_with ((go_at_call 65; (with_reducible refine (hlc _).mono ?_); rintro e w3 ⟨rfl, rfl⟩))
        go_ret
        exact ⟨congrArg (fun z => Ending.returned (Value.int .i64 z)) (cmp_gt HL.out HE.out).symm, rfl⟩
    · have e0 : (a.f0 == b.f0) = false := beq_eq_false_iff_ne.2 h0
      have HE := Aside0.mk (show ¬ (a.f0 = b.f0 ∧ a.f1 = b.f1) from fun x => h0 x.1)
      clear h0
      go_enter Try.func101, Try.ntmps101
      go_wp2_with ((go_at_call 65; (with_reducible refine (hlc _).mono ?_); rintro e w3 ⟨rfl, rfl⟩))
      go_ret
      exact ⟨congrArg (fun z => Ending.returned (Value.int .i64 z)) (cmp_gt HL.out HE.out).symm, rfl⟩
theorem ltH_irrefl (a : H) : ltH a a = false := by simp [ltH]
theorem ltH_iff (a b : H) : ltH a b = true ↔ a.f0 < b.f0 ∨ (a.f0 = b.f0 ∧ a.f1 < b.f1) := by simp [ltH]
theorem ltH_no (a b : H) : ltH a b = false ↔ ¬ (a.f0 < b.f0 ∨ (a.f0 = b.f0 ∧ a.f1 < b.f1)) := by rw [← ltH_iff]; simp
theorem ltOf_cmp : Go.Proofs.ltOf cmpH = ltH := by
  funext a b
  unfold Go.Proofs.ltOf cmpH
  cases h : ltH a b with
  | true => simp
  | false => by_cases h2 : a.f0 = b.f0 ∧ a.f1 = b.f1 <;> simp [h2]
theorem swo : Go.Sort.SWO ltH where
  irrefl := ltH_irrefl
  trans x y z h1 h2 := by rw [ltH_iff] at *; omega
  ntrans x y z h1 h2 := by rw [ltH_no] at *; omega
theorem ltH_total (x y : H) (h1 : ltH x y = false) (h2 : ltH y x = false) : x = y := by
  rw [ltH_no] at h1 h2
  cases x; cases y
  simp only [S29.mk.injEq] at *
  omega
/-- A list of hits, in order. -/
def sortH (A : List H) : List H := A.mergeSort fun x y => !ltH y x
theorem sortH_perm (A : List H) : (sortH A).Perm A := List.mergeSort_perm A _
theorem sortH_len (A : List H) : (sortH A).length = A.length := List.length_mergeSort A
theorem isAgg_hit : ∀ w, (isAgg 29).run Try.prog w = .ok true w := fun w => by kernel_rfl
theorem sizeOf_hit : ∀ w, (Go.sizeOf 29).run Try.prog w = .ok 2 w := fun w => by kernel_rfl
theorem flat_get (A : List H) (t : Nat) (h : t < A.length * 2) : (cellsOf A)[t]? = some (Go.Sort.flatK enc 2 A.toArray)[t]! := by
  rw [Go.Sort.get_flatK enc 2 _ t (by simpa using h)]
  have hi : t / 2 < A.length := by omega
  obtain ⟨g0, g1⟩ := cellsOf_get A (t / 2) hi
  have e : A.toArray[t / 2]! = A[t / 2] := by simp [hi]
  rw [e]
  rcases Nat.mod_two_eq_zero_or_one t with hm | hm
  · have ht : t / 2 * 2 = t := by omega
    rw [ht] at g0
    rw [hm, g0]
    rfl
  · have ht : t / 2 * 2 + 1 = t := by omega
    rw [ht] at g1
    rw [hm, g1]
    rfl
theorem holds_of_row {w : World} {r cap : Nat} {A : List H} (h : RowAt w r cap A) : Go.Sort.HoldsK enc 2 w r 0 A.toArray := by
  intro t ht
  have ht' : t < A.length * 2 := by simpa using ht
  have hf := flat_get A t ht'
  obtain ⟨rest, hb, hl⟩ := h.out
  have hc := cellsOf_len A
  refine ⟨?_, blk_frozen hb _⟩
  rw [Nat.zero_add, blk_cell hb, List.getElem?_toArray, List.getElem?_append_left (by omega)]
  exact hf
theorem put_row {w : World} {r cap n : Nat} {A B : List H} {os : Array Obj} (h : RowAt w r cap A) (hAB : B.length = A.length) : RowAt (Go.Proofs.sortWorldK enc 2 w r 0 n B.toArray os) r cap B := by
  obtain ⟨rest, hb, hl⟩ := h.out
  have hr := blk_lt hb
  have hc := cellsOf_len A
  have hc2 := cellsOf_len B
  refine ⟨rest, ?_, by rw [List.length_append] at *; omega⟩
  have h1 : (Go.Sort.putRowK enc 2 (Go.Sort.ahead w n) r 0 B.toArray).heap[r]? = some (.cells (Go.Sort.putCells id 0 (Go.Sort.flatK enc 2 B.toArray) (cellsOf A ++ rest).toArray) 29 (0, 0)) := by
    simp only [Go.Sort.putRowK, Go.Sort.putRow, Go.Sort.mapBlock, Go.Sort.ahead, Array.getElem?_modify, hb]
    simp [Go.Sort.onCells]
  have h2 : Go.Sort.putCells id 0 (Go.Sort.flatK enc 2 B.toArray) (cellsOf A ++ rest).toArray = (cellsOf B ++ rest).toArray := by
    apply Array.ext_getElem?
    intro t
    simp only [Go.Sort.putCells, Array.getElem?_mapIdx, List.getElem?_toArray, Nat.zero_le, true_and, Nat.zero_add, Nat.sub_zero, Go.Sort.size_flatK, List.size_toArray]
    by_cases ht : t < B.length * 2
    · rw [List.getElem?_append_left (by omega), List.getElem?_append_left (by omega), flat_get B t ht, flat_get A t (by omega)]
      simp [ht]
    · rw [List.getElem?_append_right (by omega), List.getElem?_append_right (by omega), hc, hc2, hAB]
      have ht' : ¬ t < A.length * 2 := by omega
      cases hre : rest[t - A.length * 2]? <;> simp [ht', hAB]
  rw [h2] at h1
  show (Go.Sort.grow _ os).heap[r]? = _
  have hsz : r < (Go.Sort.putRowK enc 2 (Go.Sort.ahead w n) r 0 B.toArray).heap.size := blk_lt h1
  simp only [Go.Sort.grow]
  rw [Array.getElem?_append_left hsz]
  exact h1
theorem only_sort (w : World) (r n : Nat) (B : List H) (os : Array Obj) : Only (· = r) w (Go.Proofs.sortWorldK enc 2 w r 0 n B.toArray os) := by
  refine ⟨rfl, rfl, rfl, ?_, fun k hk hs => ?_⟩
  · simp [Go.Proofs.sortWorldK, Go.Sort.grow, Go.Sort.putRowK, Go.Sort.putRow, Go.Sort.mapBlock, Go.Sort.ahead]
  · simp only [Go.Proofs.sortWorldK, Go.Sort.grow, Go.Sort.putRowK, Go.Sort.putRow, Go.Sort.mapBlock, Go.Sort.ahead]
    rw [Array.getElem?_append_left (by simpa using hk), Array.getElem?_modify, if_neg (fun e => hs e.symm)]
theorem enters_cmp : ∀ args w, (callFunc 101 args).run Try.prog w = .ok (.enter 101 args) w := Go.Proofs.enters_of Try.func101 (by kernel_rfl) rfl
theorem cmp_lays (blk off size : Nat) (w : World) : Go.Proofs.CmpLays Try.prog 101 #[] enc 2 cmpH blk off size w := by
  intro m os dk hs x y
  refine (cmp_calls x y _).mono fun e w' ⟨he, hw⟩ => ⟨he, 0, #[boxH x, boxH y, boxH x, boxH y], ?_⟩
  rw [hw, Go.Sort.alloc_eq_grow, Go.Sort.alloc_eq_grow, Go.Sort.alloc_eq_grow, Go.Sort.alloc_eq_grow, Go.Sort.grow_grow, Go.Sort.grow_grow, Go.Sort.grow_grow]
  rfl
/-- slices.SortFunc at a row of hits. -/
theorem sort_calls (r cap : Nat) (A : List H) (w : World) (h : RowAt w r cap A) (hl : A.length ≤ 1000000) :
    Calls Try.prog 68 #[.slice (some ⟨r, 0, none⟩) A.length cap, .func (.func 101) #[] #[]] w fun e w' => e = .returned (.tuple #[]) ∧ Only (· = r) w w' ∧ RowAt w' r cap (sortH A) := by
  have hs : A.toArray.size = A.length := by simp
  have hc := Go.Proofs.AnyQ.slices_SortFunc_total Try.sortHit 2 isAgg_hit sizeOf_hit enc (fun _ => rfl) (fun x => hit_one x) cmpH (by rw [ltOf_cmp]; exact swo) 101 #[] r 0 cap A.toArray w enters_cmp (cmp_lays r 0 _ w) (holds_of_row h) h.lt (by rw [hs]; omega) (by rw [ltOf_cmp]; exact ltH_total)
  rw [hs] at hc
  refine hc.mono fun e w' ⟨he, n, os, hw⟩ => ?_
  rw [ltOf_cmp] at hw
  subst hw
  exact ⟨he, only_sort w r n (sortH A) os, put_row h (sortH_len A)⟩
end Go.Proofs.Ytchiobhklbefjaa.Tk
