/- TopkOwn: a list that was told may be written over. No condition. -/
import Derived.Test.YtchiobhklbefjaaTkF
namespace Go.Proofs.Ytchiobhklbefjaa.Tk
open Go.RowKit Go.Proofs.YtchiobhklbefjaaW.PrintWords Go.Proofs.YtchiobhklbefjaaW.PrintLast Go.Proofs.YtchiobhklbefjaaW.PrintMore Go.Proofs.Ytchiobhklbefjaa.Q
attribute [local go_sem] max2_M min2_M max_two min_two
set_option linter.unusedVariables false
set_option linter.unusedSimpArgs false
theorem cellsOf_dist (A : List H) (i : Nat) (d : Int) (h : i < A.length) (rest : List Value) :
    (cellsOf A ++ rest).set (i * 2) (.int .i64 d) = cellsOf (A.set i ⟨d, A[i].f1⟩) ++ rest := by
  induction A generalizing i with
  | nil => simp at h
  | cons a A ih =>
    cases i with
    | zero => simp [cellsOf, enc]
    | succ i =>
      have := ih i (by simpa using h)
      have e1 : (i + 1) * 2 = i * 2 + 1 + 1 := by omega
      rw [e1]
      simp only [cellsOf, List.flatMap_cons, enc, List.cons_append, List.nil_append, List.set_cons_succ, List.getElem_cons_succ] at *
      rw [this]
theorem RowAt.dist {w : World} {r cap : Nat} {A : List H} (h : RowAt w r cap A) (i : Nat) (d : Int) (hi : i < A.length) : RowAt (w.setCell ⟨r, i * 2, none⟩ (.int .i64 d)) r cap (A.set i ⟨d, A[i].f1⟩) := by
  obtain ⟨rest, hb, hl⟩ := h.out
  have h1 := blk_set hb (i * 2) (.int .i64 d)
  refine ⟨rest, ?_, ?_⟩
  · rw [h1]
    simp only [List.setIfInBounds_toArray]
    rw [cellsOf_dist A i d hi]
  · rw [← cellsOf_dist A i d hi]
    simpa using hl
theorem own_put (k i : Nat) (A : List H) (x : H) (hx : A[i]? = some x) : putK k (putAll k (A.take i)) x = putAll k (A.take (i + 1)) := by
  obtain ⟨hi, rfl⟩ := List.getElem?_eq_some_iff.1 hx
  exact take_put k A i hi
/-- A list that is told, written into: still one of as many. -/
theorem OwnH.dist {w : World} {b n c i : Nat} {ao : Option Addr} {X : List H} (h : OwnH w b (.slice ao n c) X) (hn : X.length = n) (hi : i < n) :
    ∃ r d, ao = some ⟨r, 0, none⟩ ∧ r < w.heap.size ∧ w.cell? ⟨r, i * 2, none⟩ = some (.int .i64 d) ∧ w.frozen? ⟨r, i * 2, none⟩ = false ∧
      ∀ u, ∃ Y, Y.length = n ∧ OwnH (w.setCell ⟨r, i * 2, none⟩ (.int .i64 u)) b (.slice ao n c) Y := by
  subst hn
  rcases h.row with ⟨_, rfl⟩ | ⟨r, cap, e, hb, hc, hr⟩
  · simp at hi
  · simp only [Value.slice.injEq] at e
    obtain ⟨rfl, _, rfl⟩ := e
    obtain ⟨g0, _, g2, _⟩ := hr.cells i hi
    refine ⟨r, _, rfl, hr.lt, g0, g2, fun u => ⟨X.set i ⟨u, X[i].f1⟩, by simp, ?_⟩⟩
    have := (hr.dist i u hi).own hc hb
    simpa using this
theorem told_at (S : Nat → Prop) (g k n : Nat) (L : List H) (w : World) (hB : Kept w S g k L) (hn : L.length = n) :
    Calls Try.prog 30 #[.pointer (some ⟨g, 0, none⟩)] w fun e w' => (∃ a c, e = .returned (.slice a n c) ∧ OwnH w' w.heap.size (.slice a n c) L) ∧ Below w.heap.size w w' := by
  refine (klist_calls S g k L w hB).mono fun e w' ⟨⟨v, he, hv⟩, hb⟩ => ⟨?_, hb⟩
  obtain ⟨a, c, rfl, _⟩ := hv.slice
  subst hn
  exact ⟨a, c, he, hv⟩
set_option maxHeartbeats 8000000 in
set_option maxRecDepth 100000 in
theorem own_calls (ao : Option Addr) (ca : Nat) (A : List H) (w : World) (hr : ReadsH w ao ca A) (hl : A.length ≤ maxLen) :
    Calls Try.prog 5 #[.slice ao A.length ca] w fun e w' => e = .returned (.bool true) ∧ Below w.heap.size w w' := by
  have HA := Aside0.mk hr
  have HL := Aside0.mk hl
  clear hr hl
  obtain ⟨k, hk⟩ : ∃ k, clamp 8 = k := ⟨_, rfl⟩
  go_enter Try.func5, Try.ntmps5
  go_wp2_with (first | (go_at_call 23; (with_reducible refine (alive_calls _).mono ?_); rintro e w1 ⟨rfl, hb⟩; have HB1 := Aside0.mk hb; clear hb) | (go_at_call 24; (with_reducible refine (knew_calls _ _).mono ?_); rintro e w2 ⟨rfl, hb, hK⟩; have HB2 := Aside0.mk (bel_trans HB1.out hb); have HK2 := Aside0.mk hK; clear hb hK; rw [hk] at HK2))
  clear hk
  go_loopg [4] A.length (fun gk v4 wr => ∃ (i : Nat) (S : Nat → Prop), v4 = .int .i64 i ∧ Aside0 (i ≤ A.length ∧ i ≤ 50 ∧ A.length - i ≤ gk) ∧ Aside0 (Kept wr S w1.heap.size k (putAll k (A.take i)) ∧ (∀ j, S j → w.heap.size ≤ j)) ∧ Aside0 (Below w.heap.size w wr))
  case atStart => exact ⟨0, _, rfl, ⟨by omega, by omega, by omega⟩, ⟨HK2.out, fun j hj => Nat.le_trans HB1.out.size hj.1⟩, HB2⟩
  case round =>
    obtain ⟨i, S, rfl, HI, HK, HB⟩ := hrel
    by_cases hc : i < A.length ∧ i < 50
    · have q1 : decide ((i : Int) < (A.length : Int)) = true := decide_eq_true (by omega)
      have q2 : decide ((i : Int) < 50) = true := decide_eq_true (by omega)
      have q3 : (i : Int) < (A.length : Int) := by omega
      obtain ⟨ad, x, rfl, hx, c0, c1⟩ := HA.out.at hc.1
      have hin : wrap64 ((i : Int) + 1) = ((i + 1 : Nat) : Int) := by rw [wrap_small (by omega) (by omega)]; omega
      have HX := Aside0.mk hx
      have HC := Aside0.mk hc
      replace c0 := pw_cell_below HB.out c0
      replace c1 := pw_cell_below HB.out c1
      clear hc hx
      go_wp2_with ((go_at_call 25; (with_reducible refine (kput_calls _ _ _ _ _ _ _ HK.out.1).mono ?_); rintro e w3 ⟨rfl, hO, hK⟩; have HO3 := Aside0.mk hO; have HK3 := Aside0.mk hK; have HB3 := Aside0.mk (hO.below_of HB.out (fun j hj => HK.out.2 j hj)); clear hO hK c0 c1))
      obtain ⟨gk, rfl⟩ : ∃ m, gk = m + 1 := ⟨gk - 1, by have := HI.out; have := HC.out; omega⟩
      go_roundg gk
      case measure => omega
      case rel => exact ⟨i + 1, ext S wr w3, congrArg (Value.int .i64) hin, ⟨by have := HI.out; have := HC.out; omega⟩, ⟨by rw [← own_put k i A x HX.out]; exact HK3.out, ext_new (fun j hj => HK.out.2 j hj) HB.out.size⟩, HB3⟩
    · obtain ⟨L, hL⟩ : ∃ L, putAll k (A.take i) = L := ⟨_, rfl⟩
      obtain ⟨n, hn⟩ : ∃ n, L.length = n := ⟨_, rfl⟩
      rw [hL] at HK
      have HN := Aside0.mk hn
      have HNN := Aside0.mk (show n ≤ 256 by have := HK.out.1.len; omega)
      have hcc : ¬ (i < A.length ∧ i < 50) := hc
      have q0 : i ≤ A.length ∧ i ≤ 50 := ⟨HI.out.1, HI.out.2.1⟩
      clear hL hn
      by_cases hc1 : i < A.length
      · have q1 : decide ((i : Int) < (A.length : Int)) = true := decide_eq_true (by omega)
        have q2 : decide ((i : Int) < 50) = false := decide_eq_false (by omega)
        clear hc hc1 hcc q0
        go_wp2_with (first | (go_at_call 30; (with_reducible refine (told_at _ _ _ n _ _ HK3.out HN.out).mono ?_); rintro e w4 ⟨⟨a4, c4, rfl, hv⟩, hb⟩; have HV4 := Aside0.mk hv; have HV30 := Aside0.mk HV3.out; have HV3 := Aside0.mk (HV3.out.below hb); have HB4 := Aside0.mk (bel_trans HB3.out hb); have HK4 := Aside0.mk (HK3.out.below hb); clear hv hb) | (go_at_call 30; (with_reducible refine (told_at _ _ _ n _ _ HK.out.1 HN.out).mono ?_); rintro e w3 ⟨⟨a3, c3, rfl, hv⟩, hb⟩; have HV3 := Aside0.mk hv; have HB3 := Aside0.mk (bel_trans HB.out hb); have HK3 := Aside0.mk (HK.out.1.below hb); clear hv hb))
        all_goals
          have HSEP := Aside0.mk (show ∀ b, (Value.slice a3 n c3).ownBlock = some b → w.heap.size ≤ b ∧ b < w3.heap.size ∧ ¬ S b from fun b hb => by have h1 := own_base HV3.out b hb; exact ⟨Nat.le_trans HB.out.size h1, own_lt HV30.out b hb, fun hS => by have := HK.out.1.lt b hS; omega⟩)
          go_loopg [7] n (fun gk v7 wq => ∃ (j : Nat) (X : List H), v7 = .int .i64 j ∧ Aside0 (j ≤ n ∧ n - j ≤ gk) ∧ Aside0 (X.length = n) ∧ Aside0 (OwnH wq wr.heap.size (.slice a3 n c3) X) ∧ Aside0 (Only (fun b => (Value.slice a3 n c3).ownBlock = some b) w4 wq))
          case atStart => exact ⟨0, L, rfl, ⟨by omega, by omega⟩, HN, HV3, ⟨Only.refl _ _⟩⟩
          case round =>
            obtain ⟨j, X, rfl, HJ, HX, HVX, HOX⟩ := hrel
            by_cases hj : j < n
            · have p1 : decide ((j : Int) < (n : Int)) = true := decide_eq_true (by omega)
              have p2 : (j : Int) < (n : Int) := by omega
              have hjn : wrap64 ((j : Int) + 1) = ((j + 1 : Nat) : Int) := by rw [wrap_small (by omega) (by have := HNN.out; omega)]; omega
              obtain ⟨r, d, rfl, hr, z0, z1, hset⟩ := HVX.out.dist HX.out hj
              have HS := Aside0.mk hset
              have HJ2 := Aside0.mk hj
              clear hset
              go_wp2
              obtain ⟨gk, rfl⟩ : ∃ m, gk = m + 1 := ⟨gk - 1, by have := HJ.out; have := HJ2.out; omega⟩
              go_roundg gk
              case measure => omega
              case rel =>
                obtain ⟨Y, hY, hV⟩ := HS.out _
                exact ⟨j + 1, Y, congrArg (Value.int .i64) hjn, ⟨by have := HJ.out; have := HJ2.out; omega⟩, ⟨hY⟩, ⟨hV⟩, ⟨HOX.out.set _ _ rfl⟩⟩
            · have p1 : decide ((j : Int) < (n : Int)) = false := decide_eq_false (by omega)
              have p2 : decide (j < n) = false := decide_eq_false hj
              have p3 : (j < n) = False := eq_false hj
              clear hj
              have hsep := HSEP.out
              have HBX := Aside0.mk (HOX.out.below_of HB4.out (fun b hb => (hsep b hb).1))
              have HKX := Aside0.mk (HK4.out.keep HOX.out (fun b hb hb2 => (hsep b hb2).2.2 hb))
              have HVY := Aside0.mk (HV4.out.only HOX.out (fun b hb hb2 => by have h1 := own_base HV4.out b hb2; have h2 := (hsep b hb).2.1; omega))
              clear hsep
              go_wp2_with (first | (go_at_call 30; (with_reducible refine (told_at _ _ _ n _ _ HKX.out HN.out).mono ?_); rintro e w5 ⟨⟨a5, c5, rfl, hv⟩, hb⟩; have HV5 := Aside0.mk hv; have HVZ := Aside0.mk (HVY.out.below hb); have HB5 := Aside0.mk (bel_trans HBX.out hb); clear hv hb) | (go_at_call 29; (with_reducible refine (rsame_own _ _ _ _ _ _ _ rfl HV5.out HVZ.out (by have := HNN.out; have := HN.out; omega)).mono ?_); rintro e w6 ⟨rfl, hb⟩; have HB6 := Aside0.mk (bel_trans HB5.out hb); clear hb))
              all_goals
                go_ret
                exact ⟨rfl, HB6.out⟩
      · have q1 : decide ((i : Int) < (A.length : Int)) = false := decide_eq_false (by omega)
        have q2 : decide (i < A.length) = false := decide_eq_false hc1
        have q3 : (i < A.length) = False := eq_false hc1
        clear hc hcc q0
        go_wp2_with (first | (go_at_call 30; (with_reducible refine (told_at _ _ _ n _ _ HK3.out HN.out).mono ?_); rintro e w4 ⟨⟨a4, c4, rfl, hv⟩, hb⟩; have HV4 := Aside0.mk hv; have HV30 := Aside0.mk HV3.out; have HV3 := Aside0.mk (HV3.out.below hb); have HB4 := Aside0.mk (bel_trans HB3.out hb); have HK4 := Aside0.mk (HK3.out.below hb); clear hv hb) | (go_at_call 30; (with_reducible refine (told_at _ _ _ n _ _ HK.out.1 HN.out).mono ?_); rintro e w3 ⟨⟨a3, c3, rfl, hv⟩, hb⟩; have HV3 := Aside0.mk hv; have HB3 := Aside0.mk (bel_trans HB.out hb); have HK3 := Aside0.mk (HK.out.1.below hb); clear hv hb))
        all_goals
          have HSEP := Aside0.mk (show ∀ b, (Value.slice a3 n c3).ownBlock = some b → w.heap.size ≤ b ∧ b < w3.heap.size ∧ ¬ S b from fun b hb => by have h1 := own_base HV3.out b hb; exact ⟨Nat.le_trans HB.out.size h1, own_lt HV30.out b hb, fun hS => by have := HK.out.1.lt b hS; omega⟩)
          go_loopg [7] n (fun gk v7 wq => ∃ (j : Nat) (X : List H), v7 = .int .i64 j ∧ Aside0 (j ≤ n ∧ n - j ≤ gk) ∧ Aside0 (X.length = n) ∧ Aside0 (OwnH wq wr.heap.size (.slice a3 n c3) X) ∧ Aside0 (Only (fun b => (Value.slice a3 n c3).ownBlock = some b) w4 wq))
          case atStart => exact ⟨0, L, rfl, ⟨by omega, by omega⟩, HN, HV3, ⟨Only.refl _ _⟩⟩
          case round =>
            obtain ⟨j, X, rfl, HJ, HX, HVX, HOX⟩ := hrel
            by_cases hj : j < n
            · have p1 : decide ((j : Int) < (n : Int)) = true := decide_eq_true (by omega)
              have p2 : (j : Int) < (n : Int) := by omega
              have hjn : wrap64 ((j : Int) + 1) = ((j + 1 : Nat) : Int) := by rw [wrap_small (by omega) (by have := HNN.out; omega)]; omega
              obtain ⟨r, d, rfl, hr, z0, z1, hset⟩ := HVX.out.dist HX.out hj
              have HS := Aside0.mk hset
              have HJ2 := Aside0.mk hj
              clear hset
              go_wp2
              obtain ⟨gk, rfl⟩ : ∃ m, gk = m + 1 := ⟨gk - 1, by have := HJ.out; have := HJ2.out; omega⟩
              go_roundg gk
              case measure => omega
              case rel =>
                obtain ⟨Y, hY, hV⟩ := HS.out _
                exact ⟨j + 1, Y, congrArg (Value.int .i64) hjn, ⟨by have := HJ.out; have := HJ2.out; omega⟩, ⟨hY⟩, ⟨hV⟩, ⟨HOX.out.set _ _ rfl⟩⟩
            · have p1 : decide ((j : Int) < (n : Int)) = false := decide_eq_false (by omega)
              have p2 : decide (j < n) = false := decide_eq_false hj
              have p3 : (j < n) = False := eq_false hj
              clear hj
              have hsep := HSEP.out
              have HBX := Aside0.mk (HOX.out.below_of HB4.out (fun b hb => (hsep b hb).1))
              have HKX := Aside0.mk (HK4.out.keep HOX.out (fun b hb hb2 => (hsep b hb2).2.2 hb))
              have HVY := Aside0.mk (HV4.out.only HOX.out (fun b hb hb2 => by have h1 := own_base HV4.out b hb2; have h2 := (hsep b hb).2.1; omega))
              clear hsep
              go_wp2_with (first | (go_at_call 30; (with_reducible refine (told_at _ _ _ n _ _ HKX.out HN.out).mono ?_); rintro e w5 ⟨⟨a5, c5, rfl, hv⟩, hb⟩; have HV5 := Aside0.mk hv; have HVZ := Aside0.mk (HVY.out.below hb); have HB5 := Aside0.mk (bel_trans HBX.out hb); clear hv hb) | (go_at_call 29; (with_reducible refine (rsame_own _ _ _ _ _ _ _ rfl HV5.out HVZ.out (by have := HNN.out; have := HN.out; omega)).mono ?_); rintro e w6 ⟨rfl, hb⟩; have HB6 := Aside0.mk (bel_trans HB5.out hb); clear hb))
              all_goals
                go_ret
                exact ⟨rfl, HB6.out⟩
end Go.Proofs.Ytchiobhklbefjaa.Tk
