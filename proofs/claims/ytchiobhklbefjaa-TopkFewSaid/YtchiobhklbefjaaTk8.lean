/- Topk: 'Merge'. No condition. -/
import Derived.Test.YtchiobhklbefjaaTk7
import Derived.Laws.AppendOwnNone
namespace Go.Proofs.Ytchiobhklbefjaa.Tk
open Go.RowKit Go.Proofs.YtchiobhklbefjaaW.PrintWords Go.Proofs.YtchiobhklbefjaaW.PrintLast Go.Proofs.YtchiobhklbefjaaW.PrintMore Go.Proofs.Ytchiobhklbefjaa.Q
attribute [local go_sem] max2_int min2_int max_two min_two
set_option linter.unusedVariables false
set_option linter.unusedSimpArgs false
theorem ReadsH.below {w w1 : World} {ao : Option Addr} {cap : Nat} {A : List H} (h : ReadsH w ao cap A) (hb : Below w.heap.size w w1) : ReadsH w1 ao cap A := by
  refine ⟨h.1, h.2.imp id (fun ⟨ad, e, hr⟩ => ⟨ad, e, fun j u hu => pw_cell_below hb (hr j u hu)⟩)⟩
theorem OwnH.slice {w : World} {b : Nat} {v : Value} {A : List H} (h : OwnH w b v A) : ∃ ao cap, v = .slice ao A.length cap ∧ A.length ≤ cap := by
  rcases h.row with ⟨rfl, rfl⟩ | ⟨r, cap, rfl, _, _, hr⟩
  · exact ⟨none, 0, rfl, by simp⟩
  · exact ⟨_, cap, rfl, hr.le⟩
theorem cellsOf_take (A : List H) (m : Nat) : cellsOf (A.take m) = (cellsOf A).take (m * 2) := by
  induction A generalizing m with
  | nil => simp [cellsOf]
  | cons a A ih =>
    cases m with
    | zero => simp [cellsOf]
    | succ m =>
      have := ih m
      simp only [cellsOf] at *
      rw [List.take_succ_cons, List.flatMap_cons, this, List.flatMap_cons]
      have e : (m + 1) * 2 = m * 2 + 1 + 1 := by omega
      rw [e]
      simp [enc]
theorem OwnH.take {w : World} {b cap m : Nat} {ao : Option Addr} {A : List H} (h : OwnH w b (.slice ao A.length cap) A) (hm : m ≤ A.length) : OwnH w b (.slice ao m cap) (A.take m) := by
  have hl : (A.take m).length = m := by simp; omega
  rcases h.2 with ⟨he, h0⟩ | ⟨g, cap', cur, he, hb, hh, h1, h2, h3, h4⟩
  · have : m = 0 := by omega
    subst this
    simp only [Value.slice.injEq] at he
    obtain ⟨rfl, _, rfl⟩ := he
    exact own_nil _ _ _ _
  · simp only [Value.slice.injEq] at he
    obtain ⟨rfl, _, rfl⟩ := he
    refine ⟨by rw [cellsOf_len], .inr ⟨g, cap, cur, by rw [hl], hb, hh, by omega, h2, h3, ?_⟩⟩
    rw [cellsOf_take, ← h4, hl, List.take_take]
    congr 1
    omega
def mergeH (a b : List H) (k : Int) : List H := (sortH (a ++ b)).take (max 0 (min k (a ++ b).length)).toNat
theorem only_below {S : Nat → Prop} {b : Nat} {w w1 w2 : World} (hB : Below b w w1) (hb : b ≤ w.heap.size) (hO : Only S w1 w2) (hs : ∀ i, S i → b ≤ i) : Below b w w2 :=
  ⟨hO.os.trans hB.os, hO.tape.trans hB.tape, hO.output.trans hB.output, Nat.le_trans hB.size hO.size, fun i hi => (hO.block i (Nat.lt_of_lt_of_le (Nat.lt_of_lt_of_le hi hb) hB.size) (fun e => by have := hs i e; omega)).trans (hB.block i hi)⟩
theorem merged {w : World} {b m L cap : Nat} {ao : Option Addr} {A B : List H} {k : Int} (h : OwnH w b (.slice ao L cap) (sortH (A ++ B))) (hL : (A ++ B).length = L) (hm : m = (max 0 (min k L)).toNat) : OwnH w b (.slice ao m cap) (mergeH A B k) := by
  subst hL
  have h' : OwnH w b (.slice ao (sortH (A ++ B)).length cap) (sortH (A ++ B)) := by rw [sortH_len]; exact h
  have := h'.take (m := m) (by rw [sortH_len]; omega)
  unfold mergeH
  rw [← hm]
  exact this
set_option maxHeartbeats 4000000 in
set_option maxRecDepth 100000 in
theorem merge_some (ao : Option Addr) (ca : Nat) (A : List H) (bd : Addr) (cb : Nat) (B : List H) (k : Int) (w : World) (hl : A.length ≤ 400000) (hl2 : B.length ≤ 400000) (hr : ReadsH w ao ca A)
    (hb : ∀ j u, (cellsOf B)[j]? = some u → w.cell? (bd.add j) = some u) :
    Calls Try.prog 34 #[.slice ao A.length ca, .slice (some bd) B.length cb, .int .i64 k] w fun e w' => (∃ v, e = .returned v ∧ OwnH w' w.heap.size v (mergeH A B k)) ∧ Below w.heap.size w w' := by
  obtain ⟨i0, hi, hz, hs, hby⟩ := info_hit2
  have hu2 := Try.underlying22
  have HR := Aside0.mk hr
  have HBR := Aside0.mk hb
  have HI := Aside0.mk hi
  clear hr hb hi
  obtain ⟨L, hL⟩ : ∃ L, (A ++ B).length = L := ⟨_, rfl⟩
  have hL2 : A.length + B.length = L := by rw [← hL, List.length_append]
  have HLL := Aside0.mk hL
  clear hL
  go_enter Try.func34, Try.ntmps34
  go_wp2_with (first | (go_at_call 67; (with_reducible refine (clone_calls _ _ A _ (by omega) HR.out).mono ?_); rintro e w1 ⟨⟨v, rfl, hv⟩, hb⟩; have HV := Aside0.mk hv; have HB := Aside0.mk hb; clear hv hb) | (at_builtin; refine wpList_append_own _ rfl _ _ _ rfl w.heap.size 29 i0 (.agg #[.int .i64 0, .int .u32 0]) 2 16 hu2 HI.out hz hs hby rfl (by decide) v A.length (cellsOf A) rfl HV.out bd B.length cb (cellsOf B) rfl (cellsOf_len B) (fun j u hu => pw_cell_below HB.out (HBR.out j u hu)) cells_one (by unfold maxLen; omega) (by omega) HB.out.size ?_; intro v2 w2 hown hg hne; have HO2 := Aside0.mk (show OwnH w2 w.heap.size v2 (A ++ B) by unfold OwnH; rw [cellsOf_append, List.length_append]; exact hown); have HB2 := Aside0.mk (pw_below_grown HB.out _ HB.out.size hg (fun k hk => own_base HV.out k hk)); clear hown hg hne; obtain ⟨a2, c2, rfl, hc2⟩ := HO2.out.slice; rw [HLL.out] at HO2 hc2 ⊢) | (go_at_call 69; (with_reducible refine (order_calls _).mono ?_); rintro e w3 ⟨rfl, rfl⟩) | (go_at_call 68; (with_reducible refine (sort_own _ _ (A ++ B) _ HO2.out (by rw [HLL.out]; omega)).mono ?_); rintro e w4 ⟨rfl, hO, hv⟩; have HV4 := Aside0.mk hv; have HB4 := Aside0.mk (only_below HB2.out (Nat.le_refl _) hO (fun i hi => own_base HO2.out i hi)); clear hv hO))
  all_goals
    have hm := HLL.out
    go_ret
    exact ⟨⟨_, rfl, merged HV4.out HLL.out (by omega)⟩, HB4.out⟩
set_option maxHeartbeats 4000000 in
set_option maxRecDepth 100000 in
theorem merge_nil (ao : Option Addr) (ca : Nat) (A : List H) (k : Int) (w : World) (hl : A.length ≤ 400000) (hr : ReadsH w ao ca A) :
    Calls Try.prog 34 #[.slice ao A.length ca,   .slice none 0 0, .int .i64 k] w fun e w' => (∃ v, e = .returned v ∧ OwnH w' w.heap.size v (mergeH A [] k)) ∧ Below w.heap.size w w' := by
  obtain ⟨i0, hi, hz, hs, hby⟩ := info_hit2
  have hu2 := Try.underlying22
  have HR := Aside0.mk hr
  have HI := Aside0.mk hi
  clear hr hi
  obtain ⟨L, hL⟩ : ∃ L, (A ++ []).length = L := ⟨_, rfl⟩
  have hL2 : A.length ≤ L ∧ L ≤ A.length := by rw [← hL, List.append_nil]; omega
  have HLL := Aside0.mk hL
  clear hL
  go_enter Try.func34, Try.ntmps34
  go_wp2_with (first | (go_at_call 67; (with_reducible refine (clone_calls _ _ A _ (by omega) HR.out).mono ?_); rintro e w1 ⟨⟨v, rfl, hv⟩, hb⟩; have HV := Aside0.mk hv; have HB := Aside0.mk hb; clear hv hb) | (at_builtin; refine wpList_append_own_none rfl _ _ _ rfl w.heap.size 29 i0 2 hu2 HI.out v A.length (cellsOf A) rfl HV.out rfl ?_; have HO2 := Aside0.mk (show OwnH w1 w.heap.size v (A ++ []) by rw [List.append_nil]; exact HV.out); have HB2 := Aside0.mk HB.out; obtain ⟨a2, c2, rfl, hc2⟩ := HO2.out.slice; rw [HLL.out] at HO2 hc2 ⊢) | (go_at_call 69; (with_reducible refine (order_calls _).mono ?_); rintro e w3 ⟨rfl, rfl⟩) | (go_at_call 68; (with_reducible refine (sort_own _ _ (A ++ []) _ HO2.out (by rw [HLL.out]; omega)).mono ?_); rintro e w4 ⟨rfl, hO, hv⟩; have HV4 := Aside0.mk hv; have HB4 := Aside0.mk (only_below HB2.out (Nat.le_refl _) hO (fun i hi => own_base HO2.out i hi)); clear hv hO))
  all_goals
    have hm := HLL.out
    go_ret
    exact ⟨⟨_, rfl, merged HV4.out HLL.out (by omega)⟩, HB4.out⟩
theorem merge_calls (ao : Option Addr) (ca : Nat) (A : List H) (bo : Option Addr) (cb : Nat) (B : List H) (k : Int) (w : World) (hl : A.length ≤ 400000) (hl2 : B.length ≤ 400000) (hr : ReadsH w ao ca A) (hb : ReadsH w bo cb B) :
    Calls Try.prog 34 #[.slice ao A.length ca, .slice bo B.length cb, .int .i64 k] w fun e w' => (∃ v, e = .returned v ∧ OwnH w' w.heap.size v (mergeH A B k)) ∧ Below w.heap.size w w' := by
  rcases hb.2 with ⟨rfl, rfl, rfl⟩ | ⟨bd, rfl, h2⟩
  · exact merge_nil ao ca A k w hl hr
  · exact merge_some ao ca A bd cb B k w hl hl2 hr h2
end Go.Proofs.Ytchiobhklbefjaa.Tk
