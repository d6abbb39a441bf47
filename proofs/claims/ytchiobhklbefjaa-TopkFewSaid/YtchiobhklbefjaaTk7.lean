/- Topk: slices.Clone at hits; 'List', 'Merge'. No condition. -/
import Derived.Test.YtchiobhklbefjaaTk6
namespace Go.Proofs.Ytchiobhklbefjaa.Tk
open Go.RowKit Go.Proofs.YtchiobhklbefjaaW.PrintWords Go.Proofs.YtchiobhklbefjaaW.PrintLast Go.Proofs.YtchiobhklbefjaaW.PrintMore Go.Proofs.Ytchiobhklbefjaa.Q
attribute [local go_sem] max2_int min2_int max_two min_two
set_option linter.unusedVariables false
set_option linter.unusedSimpArgs false
/-- A slice value reads as the list A: nil and empty, or an address from which the cells of A lie. -/
def ReadsH (w : World) (ao : Option Addr) (cap : Nat) (A : List H) : Prop :=
  A.length ≤ cap ∧ ((ao = none ∧ A = [] ∧ cap = 0) ∨ ∃ ad, ao = some ad ∧ ∀ j u, (cellsOf A)[j]? = some u → w.cell? (ad.add j) = some u)
theorem cells_one {A : List H} : ∀ u ∈ cellsOf A, u.oneCell' = true := by
  intro u hu
  obtain ⟨h, _, hh⟩ := List.mem_flatMap.1 hu
  exact hit_one h u hh
theorem info_hit2 : ∃ i, Try.prog.info? 29 = some i ∧ i.zero = some (.agg #[.int .i64 0, .int .u32 0]) ∧ i.size = 2 ∧ i.bytes = 16 := by
  obtain ⟨i0, hi, hzz⟩ := Option.map_eq_some_iff.1 info_hit
  simp only [Prod.mk.injEq] at hzz
  exact ⟨i0, hi, hzz⟩
set_option maxHeartbeats 2000000 in
set_option maxRecDepth 100000 in
theorem clone_nil (w : World) :
    Calls Try.prog 67 #[.slice none 0 0] w fun e w' => e = .returned (.slice none 0 0) ∧ w' = w := by
  have q22 : ∀ (w : World) (a : Option Addr) (n c n' c' : Nat), (binOp .eql 22 (.slice a n c) (.slice none n' c')).run Try.prog w = .ok (.bool a.isNone) w := fun w a n c n' c' => Lib.run_eql_slice_nil w _ _ a n c n' c' Try.underlying22
  go_enter Try.func67, Try.ntmps67
  go_wp2
  go_ret
  exact ⟨rfl, rfl⟩
theorem own_empty (w : World) : (w.alloc (.cells #[] 29)).ownsRow w.heap.size 29 2 (.slice (some ⟨w.heap.size, 0, none⟩) 0 0) 0 [] :=
  ⟨rfl, .inr ⟨w.heap.size, 0, #[], rfl, Nat.le_refl _, heap_alloc_new w _, Nat.le_refl _, by unfold maxLen; omega, rfl, rfl⟩⟩
set_option maxHeartbeats 2000000 in
set_option maxRecDepth 100000 in
theorem clone_some (ad : Addr) (cap : Nat) (A : List H) (w : World) (hl : A.length ≤ 1000000) (hr : ∀ j u, (cellsOf A)[j]? = some u → w.cell? (ad.add j) = some u) :
    Calls Try.prog 67 #[.slice (some ad) A.length cap] w fun e w' => (∃ v, e = .returned v ∧ w'.ownsRow w.heap.size 29 2 v A.length (cellsOf A)) ∧ Below w.heap.size w w' := by
  obtain ⟨i0, hi, hz, hs, hb⟩ := info_hit2
  have hu2 := Try.underlying22
  have HR := Aside0.mk hr
  have HI := Aside0.mk hi
  clear hr hi
  have q22 : ∀ (w : World) (a : Option Addr) (n c n' c' : Nat), (binOp .eql 22 (.slice a n c) (.slice none n' c')).run Try.prog w = .ok (.bool a.isNone) w := fun w a n c n' c' => Lib.run_eql_slice_nil w _ _ a n c n' c' Try.underlying22
  go_enter Try.func67, Try.ntmps67
  go_wp2_with (at_builtin; go_must (refine wpList_append_own _ rfl _ _ _ rfl w.heap.size 29 i0 (.agg #[.int .i64 0, .int .u32 0]) 2 16 hu2 HI.out hz hs hb rfl (by decide) (.slice (some ⟨w.heap.size, 0, none⟩) 0 0) 0 [] rfl ?c1 ad A.length cap (cellsOf A) rfl (cellsOf_len A) ?c2 cells_one ?c3 ?c4 ?c5 ?_))
  case c1 => exact own_empty w
  case c2 => exact fun j u hu => pw_cell_below (below_alloc (Below.refl _ _) _) (HR.out j u hu)
  case c3 => unfold maxLen; omega
  case c4 => omega
  case c5 => simp
  intro v' w2 hown hg hne
  have hb2 := pw_below_grown (below_alloc (Below.refl w.heap.size w) (.cells #[] 29)) _ (by simp) hg (fun k hk => by simp only [Value.ownBlock, Option.some.injEq] at hk; omega)
  have HOW := Aside0.mk hown
  have HB2 := Aside0.mk hb2
  clear hown hg hne hb2
  go_wp2
  go_ret
  exact ⟨⟨v', rfl, HOW.out⟩, HB2.out⟩
/-- What a list that is told reads as: a row of its own, from block base on. -/
def OwnH (w : World) (base : Nat) (v : Value) (A : List H) : Prop := w.ownsRow base 29 2 v A.length (cellsOf A)
theorem OwnH.weaken {w : World} {b b' : Nat} {v : Value} {A : List H} (h : OwnH w b v A) (hb : b' ≤ b) : OwnH w b' v A := own_weaken h hb
theorem OwnH.row {w : World} {b : Nat} {v : Value} {A : List H} (h : OwnH w b v A) : (v = .slice none 0 0 ∧ A = []) ∨ ∃ r cap, v = .slice (some ⟨r, 0, none⟩) A.length cap ∧ b ≤ r ∧ cap ≤ maxLen ∧ RowAt w r cap A := by
  rcases h.2 with ⟨rfl, h0⟩ | ⟨g, cap, cur, rfl, hb, hh, h1, h2, h3, h4⟩
  · exact .inl ⟨rfl, List.length_eq_zero_iff.1 h0⟩
  · refine .inr ⟨g, cap, rfl, hb, h2, cur.toList.drop (A.length * 2), ?_, ?_⟩
    · have e : cellsOf A ++ cur.toList.drop (A.length * 2) = cur.toList := by rw [← h4, List.take_append_drop]
      rw [e, hh]
    · have e : cellsOf A ++ cur.toList.drop (A.length * 2) = cur.toList := by rw [← h4, List.take_append_drop]
      rw [e, Array.length_toList, h3]
theorem RowAt.own {w : World} {r cap b : Nat} {A : List H} (h : RowAt w r cap A) (hc : cap ≤ maxLen) (hb : b ≤ r) : OwnH w b (.slice (some ⟨r, 0, none⟩) A.length cap) A := by
  have hle := h.le
  obtain ⟨rest, hb', hl⟩ := h.out
  exact ⟨cellsOf_len A, .inr ⟨r, cap, _, rfl, hb, hb', hle, hc, by simpa using hl, by rw [← cellsOf_len A]; simp⟩⟩
theorem RowAt.reads {w : World} {r cap : Nat} {A : List H} (h : RowAt w r cap A) : ∀ j u, (cellsOf A)[j]? = some u → w.cell? ((⟨r, 0, none⟩ : Addr).add j) = some u := by
  intro j u hu
  obtain ⟨rest, hb, hl⟩ := h.out
  rw [add_plain, blk_cell hb, List.getElem?_toArray, List.getElem?_append_left (List.getElem?_eq_some_iff.1 hu).1]
  exact hu
/-- slices.Clone at what reads as A: nil, or a row of its own. -/
theorem clone_calls (ao : Option Addr) (cap : Nat) (A : List H) (w : World) (hl : A.length ≤ 1000000) (hr : ReadsH w ao cap A) :
    Calls Try.prog 67 #[.slice ao A.length cap] w fun e w' => (∃ v, e = .returned v ∧ OwnH w' w.heap.size v A) ∧ Below w.heap.size w w' := by
  rcases hr.2 with ⟨rfl, rfl, rfl⟩ | ⟨ad, rfl, hr2⟩
  · exact (clone_nil w).mono fun e w' ⟨he, hw⟩ => ⟨⟨_, he, by subst hw; exact own_nil _ _ _ _⟩, by subst hw; exact Below.refl _ _⟩
  · exact (clone_some ad cap A w hl hr2)
theorem Best.reads {w : World} {S : Nat → Prop} {g k : Nat} {A : List H} (h : Best w S g k A) : ∃ ao cap, w.heap[g]? = some (.cells #[.int .i64 k, .slice ao A.length cap] 107 (0, 0)) ∧ ReadsH w ao cap A := by
  obtain ⟨v, hg, ho, hv⟩ := h.at_
  rcases OwnH.row ho with ⟨rfl, rfl⟩ | ⟨r, cap, rfl, _, hc, hr⟩
  · exact ⟨none, 0, hg, by simp, .inl ⟨rfl, rfl, rfl⟩⟩
  · exact ⟨some ⟨r, 0, none⟩, cap, hg, hr.le, .inr ⟨_, rfl, hr.reads⟩⟩
/-- slices.SortFunc at a row of its own, nil too. -/
theorem sort_own (b : Nat) (v : Value) (A : List H) (w : World) (h : OwnH w b v A) (hl : A.length ≤ 1000000) :
    Calls Try.prog 68 #[v, .func (.func 101) #[] #[]] w fun e w' => e = .returned (.tuple #[]) ∧ Only (fun k => v.ownBlock = some k) w w' ∧ OwnH w' b v (sortH A) := by
  rcases h.row with ⟨rfl, rfl⟩ | ⟨r, cap, rfl, hb, hc, hr⟩
  · refine (Go.Proofs.AnyF.slices_SortFunc_none Try.sortHit none 0 _ w).mono fun e w' ⟨he, hw⟩ => ?_
    subst hw
    exact ⟨he, Only.refl _ _, by have : sortH [] = [] := List.length_eq_zero_iff.1 (sortH_len []); rw [this]; exact own_nil _ _ _ _⟩
  · refine (sort_calls r cap A w hr hl).mono fun e w' ⟨he, hO, hR⟩ => ⟨he, hO.mono (fun k hk => by subst hk; rfl), ?_⟩
    have := hR.own hc hb
    rw [sortH_len] at this
    exact this
set_option maxHeartbeats 2000000 in
set_option maxRecDepth 100000 in
theorem order_calls (w : World) : Calls Try.prog 69 #[] w fun e w' => e = .returned (.func (.func 101) #[] #[]) ∧ w' = w := by
  go_enter Try.func69, Try.ntmps69
  go_wp2
  go_ret
  exact ⟨rfl, rfl⟩
set_option maxHeartbeats 2000000 in
set_option maxRecDepth 100000 in
theorem list_calls (S : Nat → Prop) (g k : Nat) (A : List H) (w : World) (hB : Best w S g k A) :
    Calls Try.prog 30 #[.pointer (some ⟨g, 0, none⟩)] w fun e w' => (∃ v, e = .returned v ∧ OwnH w' w.heap.size v (sortH A)) ∧ Below w.heap.size w w' := by
  obtain ⟨ao, cap, hg, hr⟩ := hB.reads
  have hl : A.length ≤ 1000000 := by have := hB.hk; have := hB.hA; omega
  have c1 : w.cell? ⟨g, 1, none⟩ = some (.slice ao A.length cap) := by rw [blk_cell hg]; rfl
  have HR := Aside0.mk hr
  have HL := Aside0.mk hl
  clear hg hB hr hl
  go_enter Try.func30, Try.ntmps30
  go_wp2_with (first | (go_at_call 67; (with_reducible refine (clone_calls _ _ A _ HL.out HR.out).mono ?_); rintro e w1 ⟨⟨v, rfl, hv⟩, hb⟩; have HV := Aside0.mk hv; have HB := Aside0.mk hb; clear hv hb) | (go_at_call 69; (with_reducible refine (order_calls _).mono ?_); rintro e w2 ⟨rfl, rfl⟩) | (go_at_call 68; (with_reducible refine (sort_own _ v A _ HV.out HL.out).mono ?_); rintro e w3 ⟨rfl, hO, hv⟩; have HV3 := Aside0.mk hv; have HO := Aside0.mk hO; clear hv hO))
  go_ret
  refine ⟨⟨v, rfl, HV3.out⟩, ?_⟩
  have hO := HO.out
  have hB := HB.out
  exact ⟨hO.os.trans hB.os, hO.tape.trans hB.tape, hO.output.trans hB.output, Nat.le_trans hB.size hO.size, fun i hi => (hO.block i (Nat.lt_of_lt_of_le hi hB.size) (fun e => by have := own_base HV.out i e; omega)).trans (hB.block i hi)⟩
end Go.Proofs.Ytchiobhklbefjaa.Tk
