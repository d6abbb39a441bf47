/- TopkFew: a selector of none keeps none; one of as many as are put keeps all, in order. No condition. -/
import Derived.Test.YtchiobhklbefjaaTkI
import Derived.Deep.RegionHeld3
namespace Go.Proofs.Ytchiobhklbefjaa.Tk
open Go.RowKit Go.Proofs.YtchiobhklbefjaaW.PrintWords Go.Proofs.YtchiobhklbefjaaW.PrintLast Go.Proofs.YtchiobhklbefjaaW.PrintMore Go.Proofs.Ytchiobhklbefjaa.Q
attribute [local go_sem] max2_M min2_M max_two min_two
set_option linter.unusedVariables false
set_option linter.unusedSimpArgs false
/-- Two selectors. -/
def K2 (w0 w : World) (g1 k1 : Nat) (L1 : List H) (g2 k2 : Nat) (L2 : List H) : Prop :=
  ∃ S1 S2, Kept w S1 g1 k1 L1 ∧ Kept w S2 g2 k2 L2 ∧ Apart S1 S2 ∧ (∀ i, S1 i ∨ S2 i → w0.heap.size ≤ i) ∧ Below w0.heap.size w0 w
section
variable {w0 w w' : World} {g1 k1 g2 k2 : Nat} {L1 L2 : List H}
theorem K2.rot (h : K2 w0 w g1 k1 L1 g2 k2 L2) : K2 w0 w g2 k2 L2 g1 k1 L1 := by
  obtain ⟨S1, S2, h1, h2, a, hn, hb⟩ := h
  exact ⟨S2, S1, h2, h1, a.symm, fun i hi => hn i hi.symm, hb⟩
theorem K2.below (h : K2 w0 w g1 k1 L1 g2 k2 L2) (hb : Below w.heap.size w w') : K2 w0 w' g1 k1 L1 g2 k2 L2 := by
  obtain ⟨S1, S2, h1, h2, a, hn, hb0⟩ := h
  exact ⟨S1, S2, h1.below hb, h2.below hb, a, hn, bel_trans hb0 hb⟩
theorem K2.at0 (h : K2 w0 w g1 k1 L1 g2 k2 L2) : Below w0.heap.size w0 w := by
  obtain ⟨S1, S2, h1, h2, a, hn, hb0⟩ := h
  exact hb0
theorem K2.put (h : K2 w0 w g1 k1 L1 g2 k2 L2) (d i : Int) :
    Calls Try.prog 25 #[.pointer (some ⟨g1, 0, none⟩), .agg #[.int .i64 d, .int .u32 i]] w fun e w' => e = .returned (.tuple #[]) ∧ K2 w0 w' g1 k1 (putK k1 L1 ⟨d, i⟩) g2 k2 L2 := by
  obtain ⟨S1, S2, h1, h2, a, hn, hb0⟩ := h
  refine (kput_calls S1 g1 k1 L1 d i w h1).mono fun e w' ⟨he, hO, hK⟩ => ⟨he, ext S1 w w', S2, hK, h2.keep hO a.symm, a.ext h2.lt, fun j hj => ?_, hO.below_of hb0 (fun j hj => hn j (.inl hj))⟩
  rcases hj with hj | hj
  · exact ext_new (fun j hj => hn j (.inl hj)) hb0.size j hj
  · exact hn j (.inr hj)
theorem K2.put2 (h : K2 w0 w g1 k1 L1 g2 k2 L2) (d i : Int) :
    Calls Try.prog 25 #[.pointer (some ⟨g2, 0, none⟩), .agg #[.int .i64 d, .int .u32 i]] w fun e w' => e = .returned (.tuple #[]) ∧ K2 w0 w' g1 k1 L1 g2 k2 (putK k2 L2 ⟨d, i⟩) :=
  (h.rot.put d i).mono fun e w' ⟨he, hK⟩ => ⟨he, hK.rot⟩
theorem K2.len (h : K2 w0 w g1 k1 L1 g2 k2 L2) : Calls Try.prog 28 #[.pointer (some ⟨g1, 0, none⟩)] w fun e w' => e = .returned (.int .i64 L1.length) ∧ w' = w := by
  obtain ⟨S1, S2, h1, h2, a, hn, hb0⟩ := h
  exact klen_calls S1 g1 k1 L1 w h1
theorem K2.list (h : K2 w0 w g1 k1 L1 g2 k2 L2) : Calls Try.prog 30 #[.pointer (some ⟨g1, 0, none⟩)] w fun e w' => (∃ v, e = .returned v ∧ OwnH w' w.heap.size v L1) ∧ Below w.heap.size w w' := by
  obtain ⟨S1, S2, h1, h2, a, hn, hb0⟩ := h
  exact klist_calls S1 g1 k1 L1 w h1
theorem K2.list0 (h : K2 w0 w g1 k1 [] g2 k2 L2) : Calls Try.prog 30 #[.pointer (some ⟨g1, 0, none⟩)] w fun e w' => (∃ a c, e = .returned (.slice a 0 c)) ∧ K2 w0 w' g1 k1 [] g2 k2 L2 := by
  refine h.list.mono fun e w' ⟨⟨v, he, hv⟩, hb⟩ => ⟨?_, h.below hb⟩
  obtain ⟨a, c, rfl, _⟩ := hv.slice
  exact ⟨a, c, he⟩
theorem K2.list2 (h : K2 w0 w g1 k1 L1 g2 k2 L2) : Calls Try.prog 30 #[.pointer (some ⟨g2, 0, none⟩)] w fun e w' => (∃ v, e = .returned v ∧ OwnH w' w.heap.size v L2) ∧ K2 w0 w' g1 k1 L1 g2 k2 L2 :=
  h.rot.list.mono fun e w' ⟨hv, hb⟩ => ⟨hv, h.below hb⟩
theorem K2.worst (h : K2 w0 w g1 k1 L1 g2 k2 L2) :
    Calls Try.prog 31 #[.pointer (some ⟨g1, 0, none⟩)] w fun e w' => e = .returned (.tuple #[.agg #[.int .i64 (worstH L1).f0, .int .u32 (worstH L1).f1], .bool (decide (L1.length = k1))]) ∧ K2 w0 w' g1 k1 L1 g2 k2 L2 := by
  have hh := h
  obtain ⟨S1, S2, h1, h2, a, hn, hb0⟩ := h
  exact (kworst_calls S1 g1 k1 L1 w h1).mono fun e w' ⟨he, hb⟩ => ⟨he, hh.below hb⟩
theorem K2.worst0 (h : K2 w0 w g1 0 [] g2 k2 L2) :
    Calls Try.prog 31 #[.pointer (some ⟨g1, 0, none⟩)] w fun e w' => e = .returned (.tuple #[.agg #[.int .i64 0, .int .u32 0], .bool true]) ∧ K2 w0 w' g1 0 [] g2 k2 L2 := h.worst
end
theorem K2.new {w0 w1 w2 w3 : World} {k1 k2 : Nat} (hb0 : Below w0.heap.size w0 w1) (hb1 : Below w1.heap.size w1 w2) (h1 : Kept w2 (fresh w1 w2) w1.heap.size k1 []) (hb2 : Below w2.heap.size w2 w3) (h2 : Kept w3 (fresh w2 w3) w2.heap.size k2 []) :
    K2 w0 w3 w1.heap.size k1 [] w2.heap.size k2 [] :=
  ⟨_, _, h1.below hb2, h2, fun i a b => by have := a.2; have := b.1; omega, fun i hi => by
    have s0 := hb0.size; have s1 := hb1.size
    rcases hi with hi | hi
    · have := hi.1; omega
    · have := hi.1; omega, bel_trans (bel_trans hb0 hb1) hb2⟩
theorem put0 (x : H) : putK 0 [] x = [] := rfl
theorem ReadsH.take {w : World} {ad : Addr} {cap n : Nat} {A : List H} (h : ReadsH w (some ad) cap A) (hn : n ≤ A.length) : ReadsH w (some ad) cap (A.take n) := by
  refine ⟨Nat.le_trans (by rw [List.length_take]; omega) h.1, .inr ⟨ad, rfl, fun j u hu => ?_⟩⟩
  rcases h.2 with ⟨e, _⟩ | ⟨ad', e, hr⟩
  · cases e
  · cases e
    refine hr j u ?_
    rw [cellsOf_take, List.getElem?_take] at hu
    split at hu
    · exact hu
    · cases hu
theorem rsort_take {w0 w : World} {g1 k1 g2 k2 : Nat} {L1 L2 : List H} (h : K2 w0 w g1 k1 L1 g2 k2 L2) (ad : Addr) (cap n : Nat) (A : List H) (hr : ReadsH w0 (some ad) cap A) (hn : n ≤ A.length) (hl : n ≤ 200) :
    Calls Try.prog 32 #[.slice (some ad) n cap] w fun e w' => (∃ v, e = .returned v ∧ OwnH w' w.heap.size v (sortH (A.take n))) ∧ Below w.heap.size w w' := by
  have hl2 : (A.take n).length = n := by rw [List.length_take]; omega
  have := rsort_calls (some ad) cap (A.take n) w ((hr.below h.at0).take hn) (by omega)
  rwa [hl2] at this
theorem few_same (n : Nat) (A : List H) (hn : n ≤ A.length) : putAll n (A.take n) = sortH (A.take n) := by rw [putAll_least, least_all (by rw [List.length_take]; omega)]
set_option maxHeartbeats 8000000 in
set_option maxRecDepth 100000 in
theorem few_some (a : Int) (ad : Addr) (ca : Nat) (A : List H) (w : World) (hr : ReadsH w (some ad) ca A) (hl : A.length ≤ maxLen) :
    Calls Try.prog 6 #[.int .i64 a, .slice (some ad) A.length ca] w fun e w' => e = .returned (.bool true) ∧ Below w.heap.size w w' := by
  have HA := Aside0.mk hr
  obtain ⟨n, hn⟩ : ∃ n, min A.length 200 = n := ⟨_, rfl⟩
  have hmn : min (A.length : Int) 200 = (n : Int) := by omega
  have HN := Aside0.mk (show n ≤ A.length ∧ n ≤ 200 by omega)
  have HC0 := Aside0.mk (show clamp (min a 0) = 0 by unfold clamp; omega)
  have HC1 := Aside0.mk (clamp_nat (show n ≤ 256 by omega))
  have hca : (n : Int) ≤ (ca : Int) := by have := hr.1; omega
  have hu := Try.underlying29
  clear hr hl hn
  go_enter Try.func6, Try.ntmps6
  go_wp2_with (first | (go_at_call 23; (with_reducible refine (alive_calls _).mono ?_); rintro e w1 ⟨rfl, hb⟩; have HB1 := Aside0.mk hb; clear hb) | (go_at_call 24; (first | (have := HK2; (with_reducible refine (knew_calls _ _).mono ?_); rintro e w3 ⟨rfl, hb, hK⟩; rw [HC1.out] at hK; have HN3 := Aside0.mk hb; have HK3 := Aside0.mk hK; clear hb hK) | ((with_reducible refine (knew_calls _ _).mono ?_); rintro e w2 ⟨rfl, hb, hK⟩; rw [HC0.out] at hK; have HN2 := Aside0.mk hb; have HK2 := Aside0.mk hK; clear hb hK))))
  have H0 := Aside0.mk (K2.new HB1.out HN2.out HK2.out HN3.out HK3.out)
  clear HK2 HK3 HN2 HN3 hmn
  go_loopg [8] n (fun gk v8 wr => ∃ (i : Nat), v8 = .int .i64 i ∧ Aside0 (i ≤ n ∧ n - i ≤ gk) ∧ Aside0 (K2 w wr w1.heap.size 0 [] w2.heap.size n (putAll n ((A.take n).take i))))
  case atStart => exact ⟨0, rfl, ⟨by omega, by omega⟩, by simpa [putAll] using H0⟩
  case round =>
    obtain ⟨i, rfl, HI, HK⟩ := hrel
    have HB := Aside0.mk HK.out.at0
    by_cases hc : i < n
    · have hA := HN.out.1
      have h3 := HN.out.2
      have q1 : decide ((i : Int) < (n : Int)) = true := decide_eq_true (by omega)
      have q3 : (i : Int) < (A.length : Int) := by omega
      have q4 : (i : Int) < (n : Int) := by omega
      obtain ⟨ad2, x, hao, hx, c0, c1⟩ := HA.out.at (i := i) (by omega)
      cases hao
      have hin : wrap64 ((i : Int) + 1) = ((i + 1 : Nat) : Int) := by rw [wrap_small (by omega) (by omega)]; omega
      have HX := Aside0.mk (show (A.take n)[i]? = some x by rw [List.getElem?_take, if_pos hc]; exact hx)
      have HC := Aside0.mk hc
      have C0 := Aside0.mk c0
      have C1 := Aside0.mk c1
      replace c0 := pw_cell_below HB.out c0
      replace c1 := pw_cell_below HB.out c1
      clear hc hx hA h3
      go_wp2_with (first | (go_at_call 25; (with_reducible refine (K2.put2 H5.out _ _).mono ?_); rintro e w6 ⟨rfl, hK⟩; have H6 := Aside0.mk hK; clear hK c0 c1) | (go_at_call 25; (with_reducible refine (K2.put HK.out _ _).mono ?_); rintro e w5 ⟨rfl, hK⟩; have H5 := Aside0.mk hK; clear c0 c1; have c0 := pw_cell_below hK.at0 C0.out; have c1 := pw_cell_below hK.at0 C1.out; clear hK))
      obtain ⟨gk, rfl⟩ : ∃ m, gk = m + 1 := ⟨gk - 1, by have := HI.out; have := HC.out; omega⟩
      go_roundg gk
      case measure => omega
      case rel => exact ⟨i + 1, congrArg (Value.int .i64) hin, ⟨by have := HI.out; have := HC.out; omega⟩, ⟨by rw [← own_put n i _ x HX.out]; exact H6.out⟩⟩
    · have q1 : decide ((i : Int) < (n : Int)) = false := decide_eq_false (by omega)
      have q2 : decide (i < n) = false := decide_eq_false hc
      have q3 : (i < n) = False := eq_false hc
      have hin : i = n := by have := HI.out.1; omega
      have hT : (A.take n).take i = A.take n := by rw [List.take_take, hin, Nat.min_self]
      have hK := HK.out
      rw [hT, few_same n A HN.out.1] at hK
      have HT := Aside0.mk hK
      have HNN := Aside0.mk (show (sortH (A.take n)).length ≤ 200 by rw [sortH_len, List.length_take]; have := HN.out; omega)
      obtain ⟨L, hL⟩ : ∃ L, sortH (A.take n) = L := ⟨_, rfl⟩
      rw [hL] at HT HNN
      have HL := Aside0.mk hL
      clear hc hin hT hK HK hL
      go_wp2_with (first | (go_at_call 31; (with_reducible refine (K2.worst0 HT.out).mono ?_); rintro e w5 ⟨rfl, hK⟩; have HT5 := Aside0.mk (hK.below (below_alloc (Below.refl _ _) (.cells #[.int .i64 0, .int .u32 0] 29))); clear hK) | fail)
      generalize w5.alloc (.cells #[.int .i64 0, .int .u32 0] 29) = w6 at HT5 ⊢
      have hS : K2 w w6 w1.heap.size 0 [] w2.heap.size n L ∧ True := ⟨HT5.out, trivial⟩
      go_region_held3 (fun w' => K2 w w' w1.heap.size 0 [] w2.heap.size n L ∧ True) (first | exact hS | exact ⟨hK, trivial⟩ | exact ⟨K2.below (‹K2 _ _ _ _ _ _ _ _ ∧ True›).1 hb, trivial⟩ | exact ⟨K2.below (‹K2 _ _ _ _ _ _ _ _ ∧ True›).1 (below_drew (Below.refl _ _)), trivial⟩) (first | (go_at_call 28; (with_reducible refine (K2.len (‹K2 _ _ _ _ _ _ _ _ ∧ True›).1).mono ?_); rintro e w7 ⟨rfl, rfl⟩) | (go_at_call 30; (with_reducible refine (K2.list0 (‹K2 _ _ _ _ _ _ _ _ ∧ True›).1).mono ?_); rintro e w8 ⟨⟨a8, c8, rfl⟩, hK⟩) | (go_at_call 30; (with_reducible refine (K2.list2 (‹K2 _ _ _ _ _ _ _ _ ∧ True›).1).mono ?_); rintro e w9 ⟨⟨v9, rfl, hv⟩, hK⟩; have HV9 := Aside0.mk hv; clear hv) | (go_at_call 32; (with_reducible refine (rsort_take (‹K2 _ _ _ _ _ _ _ _ ∧ True›).1 ad ca n A HA.out HN.out.1 HN.out.2).mono ?_); rintro e w10 ⟨⟨v10, rfl, hv⟩, hb⟩; rw [HL.out] at hv; have HVS := Aside0.mk hv; have HV10 := Aside0.mk (HV9.out.below hb); clear hv) | (go_at_call 29; (with_reducible refine (rsame_own _ _ _ _ _ _ _ rfl HV10.out HVS.out (by have := HNN.out; omega)).mono ?_); rintro e w11 ⟨rfl, hb⟩))
      all_goals
        have hS2 := ‹K2 _ _ _ _ _ _ _ _ ∧ True›
        go_wp2
        go_ret
        exact ⟨rfl, hS2.1.at0⟩
theorem rsort_nil {w0 w : World} {g1 k1 g2 k2 : Nat} {L1 L2 : List H} (h : K2 w0 w g1 k1 L1 g2 k2 L2) :
    Calls Try.prog 32 #[.slice none 0 0] w fun e w' => (∃ v, e = .returned v ∧ OwnH w' w.heap.size v []) ∧ Below w.heap.size w w' := by
  have := rsort_calls none 0 [] w ⟨by simp, .inl ⟨rfl, rfl, rfl⟩⟩ (by simp)
  rwa [sortH_nil] at this
set_option maxHeartbeats 8000000 in
set_option maxRecDepth 100000 in
theorem few_none (a : Int) (w : World) :
    Calls Try.prog 6 #[.int .i64 a, .slice none 0 0] w fun e w' => e = .returned (.bool true) ∧ Below w.heap.size w w' := by
  have HC0 := Aside0.mk (show clamp (min a 0) = 0 by unfold clamp; omega)
  have HC1 := Aside0.mk (show clamp 0 = 0 by decide)
  have hm0 : min (0 : Int) 200 = 0 := by omega
  have hu := Try.underlying29
  go_enter Try.func6, Try.ntmps6
  go_wp2_with (first | (go_at_call 23; (with_reducible refine (alive_calls _).mono ?_); rintro e w1 ⟨rfl, hb⟩; have HB1 := Aside0.mk hb; clear hb) | (go_at_call 24; (first | (have := HK2; (with_reducible refine (knew_calls _ _).mono ?_); rintro e w3 ⟨rfl, hb, hK⟩; rw [HC1.out] at hK; have HN3 := Aside0.mk hb; have HK3 := Aside0.mk hK; clear hb hK) | ((with_reducible refine (knew_calls _ _).mono ?_); rintro e w2 ⟨rfl, hb, hK⟩; rw [HC0.out] at hK; have HN2 := Aside0.mk hb; have HK2 := Aside0.mk hK; clear hb hK))))
  have H0 := Aside0.mk (K2.new HB1.out HN2.out HK2.out HN3.out HK3.out)
  clear HK2 HK3 HN2 HN3
  go_loopg [8] 0 (fun gk v8 wr => v8 = .int .i64 0 ∧ Aside0 (K2 w wr w1.heap.size 0 [] w2.heap.size 0 []))
  case atStart => exact ⟨rfl, H0⟩
  case round =>
    obtain ⟨rfl, HT⟩ := hrel
    go_wp2_with (first | (go_at_call 31; (with_reducible refine (K2.worst0 HT.out).mono ?_); rintro e w5 ⟨rfl, hK⟩; have HT5 := Aside0.mk (hK.below (below_alloc (Below.refl _ _) (.cells #[.int .i64 0, .int .u32 0] 29))); clear hK) | fail)
    generalize w5.alloc (.cells #[.int .i64 0, .int .u32 0] 29) = w6 at HT5 ⊢
    have hS : K2 w w6 w1.heap.size 0 [] w2.heap.size 0 [] ∧ True := ⟨HT5.out, trivial⟩
    go_region_held3 (fun w' => K2 w w' w1.heap.size 0 [] w2.heap.size 0 [] ∧ True) (first | exact hS | exact ⟨hK, trivial⟩ | exact ⟨K2.below (‹K2 _ _ _ _ _ _ _ _ ∧ True›).1 hb, trivial⟩ | exact ⟨K2.below (‹K2 _ _ _ _ _ _ _ _ ∧ True›).1 (below_drew (Below.refl _ _)), trivial⟩) (first | (go_at_call 28; (with_reducible refine (K2.len (‹K2 _ _ _ _ _ _ _ _ ∧ True›).1).mono ?_); rintro e w7 ⟨rfl, rfl⟩) | (go_at_call 30; (with_reducible refine (K2.list0 (‹K2 _ _ _ _ _ _ _ _ ∧ True›).1).mono ?_); rintro e w8 ⟨⟨a8, c8, rfl⟩, hK⟩) | (go_at_call 30; (with_reducible refine (K2.list2 (‹K2 _ _ _ _ _ _ _ _ ∧ True›).1).mono ?_); rintro e w9 ⟨⟨v9, rfl, hv⟩, hK⟩; have HV9 := Aside0.mk hv; clear hv) | (go_at_call 32; (with_reducible refine (rsort_nil (‹K2 _ _ _ _ _ _ _ _ ∧ True›).1).mono ?_); rintro e w10 ⟨⟨v10, rfl, hv⟩, hb⟩; have HVS := Aside0.mk hv; have HV10 := Aside0.mk (HV9.out.below hb); clear hv) | (go_at_call 29; (with_reducible refine (rsame_own _ _ _ _ _ _ _ rfl HV10.out HVS.out (by simp)).mono ?_); rintro e w11 ⟨rfl, hb⟩))
    all_goals
      have hS2 := ‹K2 _ _ _ _ _ _ _ _ ∧ True›
      go_wp2
      go_ret
      exact ⟨rfl, hS2.1.at0⟩
theorem few_row (k : Int) (hk : (Lit.int .i64 k).wf = true) (v0 : Value) (s0 : v0 = .slice none 0 0 ∨ ∃ a n c, v0 = .slice (some a) n c) (x0 : List (Int × Int)) {W : World} (K0 : (Kd.slice 29 kp).K W x0 v0.cells.toList) (o0 : okHits x0) (_ : World) :
    Calls Try.prog 6 #[.int .i64 k, v0] W fun e w' => e = .returned (.bool true) ∧ Below W.heap.size W w' := by
  rcases s0 with rfl | ⟨a, n, c, rfl⟩
  · exact few_none k W
  · obtain ⟨ao, ca, e, hr⟩ := hits_of (.inr ⟨a, n, c, rfl⟩) K0
    simp only [Value.slice.injEq] at e
    obtain ⟨rfl, rfl, rfl⟩ := e
    exact few_some k a _ _ W hr (hits_len o0)
end Go.Proofs.Ytchiobhklbefjaa.Tk
