/- TopkTwo: what two selectors keep, merged, is what one keeps to which all was put. No condition. -/
import Derived.Test.YtchiobhklbefjaaTkI
import Derived.Test.YtchiobhklbefjaaTkD
namespace Go.Proofs.Ytchiobhklbefjaa.Tk
open Go.RowKit Go.Proofs.YtchiobhklbefjaaW.PrintWords Go.Proofs.YtchiobhklbefjaaW.PrintLast Go.Proofs.YtchiobhklbefjaaW.PrintMore Go.Proofs.Ytchiobhklbefjaa.Q
attribute [local go_sem] max2_M min2_M max_two min_two
set_option linter.unusedVariables false
set_option linter.unusedSimpArgs false
theorem both_put (k i : Nat) (A B : List H) (x : H) (hx : B[i]? = some x) : putK k (putAll k (A ++ B.take i)) x = putAll k (A ++ B.take (i + 1)) := by
  obtain ⟨hi, rfl⟩ := List.getElem?_eq_some_iff.1 hx
  rw [List.take_succ_eq_append_getElem hi, ← List.append_assoc, putAll_snoc]
theorem two_same (k : Nat) (A B : List H) : mergeH (putAll k A) (putAll k B) k = putAll k (A ++ B) := by
  have := merge_least (putAll k A) (putAll k B) k
  rw [Int.toNat_natCast, putAll_least, putAll_least, least_both, ← putAll_least, ← putAll_least, ← putAll_least] at this
  exact this
set_option maxHeartbeats 8000000 in
set_option maxRecDepth 100000 in
theorem two_walk (k : Nat) (hk : k ≤ 256) (ao : Option Addr) (ca : Nat) (A : List H) (bo : Option Addr) (cb : Nat) (B : List H) (w : World) (hr : ReadsH w ao ca A) (hr2 : ReadsH w bo cb B) (hA : A.length ≤ 200) (hB : B.length ≤ 200) :
    Calls Try.prog 9 #[.int .i64 k, .slice ao A.length ca, .slice bo B.length cb] w fun e w' => e = .returned (.bool true) ∧ Below w.heap.size w w' := by
  have HA := Aside0.mk hr
  have HB0 := Aside0.mk hr2
  have HL := Aside0.mk (And.intro hA hB)
  have HC1 := Aside0.mk (clamp_nat hk)
  have HKL := Aside0.mk hk
  have d1 : decide ((k : Int) < 0) = false := decide_eq_false (by omega)
  have d2 : decide (256 < (k : Int)) = false := decide_eq_false (by omega)
  have d3 : decide (200 < (A.length : Int)) = false := decide_eq_false (by omega)
  have d4 : decide (200 < (B.length : Int)) = false := decide_eq_false (by omega)
  clear hr hr2 hA hB hk
  go_enter Try.func9, Try.ntmps9
  go_wp2_with (first | (go_at_call 23; (with_reducible refine (alive_calls _).mono ?_); rintro e w1 ⟨rfl, hb⟩; have HB1 := Aside0.mk hb; clear hb) | (go_at_call 24; (first | (have := HK3; (with_reducible refine (knew_calls _ _).mono ?_); rintro e w4 ⟨rfl, hb, hK⟩; rw [HC1.out] at hK; have HN4 := Aside0.mk hb; have HK4 := Aside0.mk hK; clear hb hK) | (have := HK2; (with_reducible refine (knew_calls _ _).mono ?_); rintro e w3 ⟨rfl, hb, hK⟩; rw [HC1.out] at hK; have HN3 := Aside0.mk hb; have HK3 := Aside0.mk hK; clear hb hK) | ((with_reducible refine (knew_calls _ _).mono ?_); rintro e w2 ⟨rfl, hb, hK⟩; rw [HC1.out] at hK; have HN2 := Aside0.mk hb; have HK2 := Aside0.mk hK; clear hb hK))))
  have H0 := Aside0.mk (K3.new HB1.out HN2.out HK2.out HN3.out HK3.out HN4.out HK4.out)
  clear HK2 HK3 HK4 HN2 HN3 HN4 d1 d2 d3 d4
  go_loopg [10] A.length (fun gk v10 wr => ∃ (i : Nat), v10 = .int .i64 i ∧ Aside0 (i ≤ A.length ∧ A.length - i ≤ gk) ∧ Aside0 (K3 w wr w1.heap.size k (putAll k (A.take i)) w2.heap.size k [] w3.heap.size k (putAll k (A.take i))))
  case atStart => exact ⟨0, rfl, ⟨by omega, by omega⟩, by simpa [putAll] using H0⟩
  case round =>
    obtain ⟨i, rfl, HI, HK⟩ := hrel
    have HB := Aside0.mk HK.out.at0
    by_cases hc : i < A.length
    · have h3 := HL.out.1
      have q1 : decide ((i : Int) < (A.length : Int)) = true := decide_eq_true (by omega)
      have q3 : (i : Int) < (A.length : Int) := by omega
      obtain ⟨ad, x, rfl, hx, c0, c1⟩ := HA.out.at (i := i) (by omega)
      have hin : wrap64 ((i : Int) + 1) = ((i + 1 : Nat) : Int) := by rw [wrap_small (by omega) (by omega)]; omega
      have HX := Aside0.mk hx
      have HC := Aside0.mk hc
      have C0 := Aside0.mk c0
      have C1 := Aside0.mk c1
      replace c0 := pw_cell_below HB.out c0
      replace c1 := pw_cell_below HB.out c1
      clear hx hc h3
      go_wp2_with (first | (go_at_call 25; (with_reducible refine (K3.put3 H5.out _ _).mono ?_); rintro e w6 ⟨rfl, hK⟩; have H6 := Aside0.mk hK; clear hK c0 c1) | (go_at_call 25; (with_reducible refine (K3.put HK.out _ _).mono ?_); rintro e w5 ⟨rfl, hK⟩; have H5 := Aside0.mk hK; clear c0 c1; have c0 := pw_cell_below hK.at0 C0.out; have c1 := pw_cell_below hK.at0 C1.out; clear hK))
      obtain ⟨gk, rfl⟩ : ∃ m, gk = m + 1 := ⟨gk - 1, by have := HI.out; have := HC.out; omega⟩
      go_roundg gk
      case measure => omega
      case rel => exact ⟨i + 1, congrArg (Value.int .i64) hin, ⟨by have := HI.out; have := HC.out; omega⟩, ⟨by rw [← own_put k i _ x HX.out]; exact H6.out⟩⟩
    · have q1 : decide ((i : Int) < (A.length : Int)) = false := decide_eq_false (by omega)
      have q2 : decide (i < A.length) = false := decide_eq_false hc
      have q3 : (i < A.length) = False := eq_false hc
      have hT : A.take i = A := List.take_of_length_le (by omega)
      have hK := HK.out
      rw [hT] at hK
      have HK1 := Aside0.mk hK
      clear hT hK HK hc
      go_wp2
      go_loopg [11] B.length (fun gk v11 wr => ∃ (i : Nat), v11 = .int .i64 i ∧ Aside0 (i ≤ B.length ∧ B.length - i ≤ gk) ∧ Aside0 (K3 w wr w1.heap.size k (putAll k A) w2.heap.size k (putAll k (B.take i)) w3.heap.size k (putAll k (A ++ B.take i))))
      case atStart => exact ⟨0, rfl, ⟨by omega, by omega⟩, by simpa [putAll] using HK1⟩
      case round =>
        obtain ⟨j, rfl, HJ, HK⟩ := hrel
        have HB := Aside0.mk HK.out.at0
        by_cases hc : j < B.length
        · have h3 := HL.out.2
          have q1 : decide ((j : Int) < (B.length : Int)) = true := decide_eq_true (by omega)
          have q3 : (j : Int) < (B.length : Int) := by omega
          obtain ⟨ad, x, rfl, hx, c0, c1⟩ := HB0.out.at (i := j) (by omega)
          have hin : wrap64 ((j : Int) + 1) = ((j + 1 : Nat) : Int) := by rw [wrap_small (by omega) (by omega)]; omega
          have HX := Aside0.mk hx
          have HC := Aside0.mk hc
          have C0 := Aside0.mk c0
          have C1 := Aside0.mk c1
          replace c0 := pw_cell_below HB.out c0
          replace c1 := pw_cell_below HB.out c1
          clear hx hc h3
          go_wp2_with (first | (go_at_call 25; (with_reducible refine (K3.put3 H5.out _ _).mono ?_); rintro e w6 ⟨rfl, hK⟩; have H6 := Aside0.mk hK; clear hK c0 c1) | (go_at_call 25; (with_reducible refine (K3.put2 HK.out _ _).mono ?_); rintro e w5 ⟨rfl, hK⟩; have H5 := Aside0.mk hK; clear c0 c1; have c0 := pw_cell_below hK.at0 C0.out; have c1 := pw_cell_below hK.at0 C1.out; clear hK))
          obtain ⟨gk, rfl⟩ : ∃ m, gk = m + 1 := ⟨gk - 1, by have := HJ.out; have := HC.out; omega⟩
          go_roundg gk
          case measure => omega
          case rel => exact ⟨j + 1, congrArg (Value.int .i64) hin, ⟨by have := HJ.out; have := HC.out; omega⟩, ⟨by rw [← own_put k j _ x HX.out, ← both_put k j _ _ x HX.out]; exact H6.out⟩⟩
        · have q1 : decide ((j : Int) < (B.length : Int)) = false := decide_eq_false (by omega)
          have q2 : decide (j < B.length) = false := decide_eq_false hc
          have q3 : (j < B.length) = False := eq_false hc
          have hT : B.take j = B := List.take_of_length_le (by omega)
          have hK := HK.out
          rw [hT] at hK
          have HT := Aside0.mk hK
          have HLn := Aside0.mk (show (putAll k A).length ≤ 400000 ∧ (putAll k B).length ≤ 400000 by have := hK.len; have := hK.rot.len; omega)
          clear hT hK HK hc
          go_wp2_with (first | (go_at_call 30; (first | (have := HM; (with_reducible refine (K3.list HT7.out.rot.rot).mono ?_); rintro e w8 ⟨⟨v8, rfl, hv⟩, hb⟩; have HV8 := Aside0.mk hv; have HT8 := Aside0.mk (HT7.out.below hb); have HM8 := Aside0.mk (HM.out.below hb); clear hv hb) | (have := HT4; (with_reducible refine (K3.list HT4.out.rot).mono ?_); rintro e w8 ⟨⟨v5, rfl, hv⟩, hb⟩; have HVa := Aside0.mk (HVa.out.below hb); have HT5 := Aside0.mk (HT4.out.below hb); obtain ⟨o5, c5, rfl, hr5⟩ := hv.reads; have HR5 := Aside0.mk hr5; clear hv hb hr5; obtain ⟨o4, c4, rfl, hr4⟩ := HVa.out.reads; have HR4 := Aside0.mk hr4; clear hr4) | ((with_reducible refine (K3.list HT.out).mono ?_); rintro e w8 ⟨⟨v4, rfl, hv⟩, hb⟩; have HVa := Aside0.mk hv; have HT4 := Aside0.mk (HT.out.below hb); clear hv hb))) | (go_at_call 34; (with_reducible refine (merge_calls o4 c4 (putAll k A) o5 c5 (putAll k B) k _ HLn.out.1 HLn.out.2 HR4.out HR5.out).mono ?_); rintro e w9 ⟨⟨v7, rfl, hv⟩, hb⟩; have HM := Aside0.mk hv; have HT7 := Aside0.mk (HT5.out.below hb); clear hv hb) | (go_at_call 29; (with_reducible refine (rsame_own _ _ _ _ _ _ _ (two_same k A B) HM8.out HV8.out (Nat.le_trans (merge_le (putAll k A) (putAll k B) k) (by have h1 := HLn.out.1; have h2 := HLn.out.2; rw [List.length_append]; omega))).mono ?_); rintro e w10 ⟨rfl, hb⟩; have HT10 := Aside0.mk (HT8.out.below hb); clear hb))
          all_goals
            go_ret
            exact ⟨rfl, HT10.out.at0⟩
set_option maxHeartbeats 8000000 in
set_option maxRecDepth 100000 in
theorem two_any (k : Int) (ao : Option Addr) (ca : Nat) (A : List H) (bo : Option Addr) (cb : Nat) (B : List H) (w : World) (hr : ReadsH w ao ca A) (hr2 : ReadsH w bo cb B) :
    Calls Try.prog 9 #[.int .i64 k, .slice ao A.length ca, .slice bo B.length cb] w fun e w' => e = .returned (.bool true) ∧ Below w.heap.size w w' := by
  by_cases h1 : k < 0
  · have d1 : decide (k < 0) = true := decide_eq_true h1
    clear h1 hr hr2
    go_enter Try.func9, Try.ntmps9
    go_wp2_with ((go_at_call 23; (with_reducible refine (alive_calls _).mono ?_); rintro e w1 ⟨rfl, hb⟩; have HB1 := Aside0.mk hb; clear hb))
    all_goals
      go_ret
      exact ⟨rfl, HB1.out⟩
  have d1 : decide (k < 0) = false := decide_eq_false h1
  by_cases h2 : 256 < k
  · have d2 : decide (256 < k) = true := decide_eq_true h2
    clear h1 h2 hr hr2
    go_enter Try.func9, Try.ntmps9
    go_wp2_with ((go_at_call 23; (with_reducible refine (alive_calls _).mono ?_); rintro e w1 ⟨rfl, hb⟩; have HB1 := Aside0.mk hb; clear hb))
    all_goals
      go_ret
      exact ⟨rfl, HB1.out⟩
  have d2 : decide (256 < k) = false := decide_eq_false h2
  by_cases h3 : 200 < A.length
  · have d3 : decide (200 < (A.length : Int)) = true := decide_eq_true (by omega)
    clear h1 h2 h3 hr hr2
    go_enter Try.func9, Try.ntmps9
    go_wp2_with ((go_at_call 23; (with_reducible refine (alive_calls _).mono ?_); rintro e w1 ⟨rfl, hb⟩; have HB1 := Aside0.mk hb; clear hb))
    all_goals
      go_ret
      exact ⟨rfl, HB1.out⟩
  have d3 : decide (200 < (A.length : Int)) = false := decide_eq_false (by omega)
  by_cases h4 : 200 < B.length
  · have d4 : decide (200 < (B.length : Int)) = true := decide_eq_true (by omega)
    clear h1 h2 h3 h4 hr hr2
    go_enter Try.func9, Try.ntmps9
    go_wp2_with ((go_at_call 23; (with_reducible refine (alive_calls _).mono ?_); rintro e w1 ⟨rfl, hb⟩; have HB1 := Aside0.mk hb; clear hb))
    all_goals
      go_ret
      exact ⟨rfl, HB1.out⟩
  obtain ⟨kn, rfl⟩ : ∃ m : Nat, k = m := ⟨k.toNat, by omega⟩
  exact two_walk kn (by omega) ao ca A bo cb B w hr hr2 (by omega) (by omega)
theorem two_row (k : Int) (hk : (Lit.int .i64 k).wf = true) (v0 : Value) (s0 : v0 = .slice none 0 0 ∨ ∃ a n c, v0 = .slice (some a) n c) (x0 : List (Int × Int)) {W : World} (K0 : (Kd.slice 29 kp).K W x0 v0.cells.toList) (o0 : okHits x0)
    (v1 : Value) (s1 : v1 = .slice none 0 0 ∨ ∃ a n c, v1 = .slice (some a) n c) (x1 : List (Int × Int)) (K1 : (Kd.slice 29 kp).K W x1 v1.cells.toList) (o1 : okHits x1) (_ : World) :
    Calls Try.prog 9 #[.int .i64 k, v0, v1] W fun e w' => e = .returned (.bool true) ∧ Below W.heap.size W w' := by
  obtain ⟨ao, ca, rfl, hr⟩ := hits_of s0 K0
  obtain ⟨bo, cb, rfl, hr2⟩ := hits_of s1 K1
  exact two_any k ao ca _ bo cb _ W hr hr2
end Go.Proofs.Ytchiobhklbefjaa.Tk
