/- TopkOrder: in what order hits are put makes no difference. No condition. -/
import Derived.Test.YtchiobhklbefjaaTkH
namespace Go.Proofs.Ytchiobhklbefjaa.Tk
open Go.RowKit Go.Proofs.YtchiobhklbefjaaW.PrintWords Go.Proofs.YtchiobhklbefjaaW.PrintLast Go.Proofs.YtchiobhklbefjaaW.PrintMore Go.Proofs.Ytchiobhklbefjaa.Q
attribute [local go_sem] max2_M min2_M max_two min_two
set_option linter.unusedVariables false
set_option linter.unusedSimpArgs false
theorem rev_put (k i m : Nat) (A : List H) (x : H) (hx : A[m]? = some x) (hm : m + i + 1 = A.length) : putK k (putAll k (A.reverse.take i)) x = putAll k (A.reverse.take (i + 1)) := by
  refine own_put k i A.reverse x ?_
  rw [List.getElem?_reverse (by omega), ← hx]
  congr 1
  omega
theorem take_get {A : List H} {n i : Nat} {x : H} (h : A[i]? = some x) (hi : i < n) : (A.take n)[i]? = some x := by rw [List.getElem?_take, if_pos hi]; exact h
set_option maxHeartbeats 8000000 in
set_option maxRecDepth 100000 in
theorem order_walk (k l : Nat) (hk : k ≤ 256) (hl : l ≤ k) (ao : Option Addr) (ca : Nat) (A : List H) (w : World) (hr : ReadsH w ao ca A) (hA : A.length ≤ maxLen) :
    Calls Try.prog 4 #[.int .i64 k, .int .i64 l, .slice ao A.length ca] w fun e w' => e = .returned (.bool true) ∧ Below w.heap.size w w' := by
  have HA := Aside0.mk hr
  have HL := Aside0.mk hA
  have HC1 := Aside0.mk (clamp_nat hk)
  have HC2 := Aside0.mk (clamp_nat (Nat.le_trans hl hk))
  have HKL := Aside0.mk (And.intro hk hl)
  have d1 : decide ((k : Int) < 0) = false := decide_eq_false (by omega)
  have d2 : decide (256 < (k : Int)) = false := decide_eq_false (by omega)
  have d3 : decide ((l : Int) < 0) = false := decide_eq_false (by omega)
  have d4 : decide ((k : Int) < (l : Int)) = false := decide_eq_false (by omega)
  have d5 : decide (k < l) = false := decide_eq_false (by omega)
  have d6 : (k < l) = False := eq_false (by omega)
  obtain ⟨n, hn⟩ : ∃ n, min A.length 300 = n := ⟨_, rfl⟩
  have hmn : min (A.length : Int) 300 = (n : Int) := by omega
  have HN := Aside0.mk (show n ≤ A.length ∧ n ≤ 300 by omega)
  clear hr hA hn hk hl
  go_enter Try.func4, Try.ntmps4
  go_wp2_with (first | (go_at_call 23; (with_reducible refine (alive_calls _).mono ?_); rintro e w1 ⟨rfl, hb⟩; have HB1 := Aside0.mk hb; clear hb) | (go_at_call 24; (first | (have := HK3; (with_reducible refine (knew_calls _ _).mono ?_); rintro e w4 ⟨rfl, hb, hK⟩; rw [HC2.out] at hK; have HN4 := Aside0.mk hb; have HK4 := Aside0.mk hK; clear hb hK) | (have := HK2; (with_reducible refine (knew_calls _ _).mono ?_); rintro e w3 ⟨rfl, hb, hK⟩; rw [HC1.out] at hK; have HN3 := Aside0.mk hb; have HK3 := Aside0.mk hK; clear hb hK) | ((with_reducible refine (knew_calls _ _).mono ?_); rintro e w2 ⟨rfl, hb, hK⟩; rw [HC1.out] at hK; have HN2 := Aside0.mk hb; have HK2 := Aside0.mk hK; clear hb hK))))
  have H0 := Aside0.mk (K3.new HB1.out HN2.out HK2.out HN3.out HK3.out HN4.out HK4.out)
  clear HK2 HK3 HK4 HN2 HN3 HN4 hmn d1 d2 d3 d4 d5 d6
  go_loopg [11] n (fun gk v11 wr => ∃ (i : Nat), v11 = .int .i64 i ∧ Aside0 (i ≤ n ∧ n - i ≤ gk) ∧ Aside0 (K3 w wr w1.heap.size k (putAll k ((A.take n).take i)) w2.heap.size k (putAll k ((A.take n).reverse.take i)) w3.heap.size l (putAll l ((A.take n).take i))))
  case atStart => exact ⟨0, rfl, ⟨by omega, by omega⟩, by simpa [putAll] using H0⟩
  case round =>
    obtain ⟨i, rfl, HI, HK⟩ := hrel
    have HB := Aside0.mk HK.out.at0
    by_cases hc : i < n
    · have hA : n ≤ A.length := HN.out.1
      have h3 : n ≤ 300 := HN.out.2
      have hi := HI.out.1
      have q1 : decide ((i : Int) < (n : Int)) = true := decide_eq_true (by omega)
      have q3 : (i : Int) < (A.length : Int) := by omega
      have q4 : (i : Int) < (n : Int) := by omega
      obtain ⟨p, hp⟩ : ∃ p, n - 1 = p := ⟨_, rfl⟩
      obtain ⟨m, hm⟩ : ∃ m, p - i = m := ⟨_, rfl⟩
      have hw0 : wrap64 ((n : Int) - 1) = (p : Int) := by rw [IntWalk.wrap64_in _ (by omega)]; omega
      have hw1 : wrap64 ((p : Int) - (i : Int)) = (m : Int) := by rw [IntWalk.wrap64_in _ (by omega)]; omega
      have q5 : (m : Int) < (A.length : Int) := by omega
      obtain ⟨ad, x, hao, hx, c0, c1⟩ := HA.out.at (i := i) (by omega)
      obtain ⟨ad2, y, hao2, hy, e0, e1⟩ := HA.out.at (i := m) (by omega)
      have hadd : ad2 = ad := by rw [hao] at hao2; exact (Option.some.inj hao2).symm
      subst hadd
      subst hao
      have hin : wrap64 ((i : Int) + 1) = ((i + 1 : Nat) : Int) := by rw [wrap_small (by omega) (by omega)]; omega
      have HX := Aside0.mk (take_get hx hc)
      have HY := Aside0.mk (take_get (n := n) hy (by omega))
      have HM := Aside0.mk (show m + i + 1 = (A.take n).length by rw [List.length_take]; omega)
      have HC := Aside0.mk hc
      have C0 := Aside0.mk c0
      have C1 := Aside0.mk c1
      have E0 := Aside0.mk e0
      have E1 := Aside0.mk e1
      replace c0 := pw_cell_below HB.out c0
      replace c1 := pw_cell_below HB.out c1
      clear hx hy hao2 hp hm e0 e1 hc hA h3 hi
      go_wp2_with (first | (go_at_call 25; (with_reducible refine (K3.put3 H6.out _ _).mono ?_); rintro e w7 ⟨rfl, hK⟩; have H7 := Aside0.mk hK; clear hK; clear c0 c1) | (go_at_call 25; (with_reducible refine (K3.put2 H5.out _ _).mono ?_); rintro e w6 ⟨rfl, hK⟩; have H6 := Aside0.mk hK; clear e0 e1; have c0 := pw_cell_below hK.at0 C0.out; have c1 := pw_cell_below hK.at0 C1.out; clear hK) | (go_at_call 25; (with_reducible refine (K3.put HK.out _ _).mono ?_); rintro e w5 ⟨rfl, hK⟩; have H5 := Aside0.mk hK; clear c0 c1; have e0 := pw_cell_below hK.at0 E0.out; have e1 := pw_cell_below hK.at0 E1.out; clear hK))
      obtain ⟨gk, rfl⟩ : ∃ m, gk = m + 1 := ⟨gk - 1, by have := HI.out; have := HC.out; omega⟩
      go_roundg gk
      case measure => omega
      case rel => exact ⟨i + 1, congrArg (Value.int .i64) hin, ⟨by have := HI.out; have := HC.out; omega⟩, ⟨by rw [← own_put k i _ x HX.out, ← own_put l i _ x HX.out, ← rev_put k i m _ y HY.out HM.out]; exact H7.out⟩⟩
    · have q1 : decide ((i : Int) < (n : Int)) = false := decide_eq_false (by omega)
      have q2 : decide (i < n) = false := decide_eq_false hc
      have q3 : (i < n) = False := eq_false hc
      have hin : i = n := by have := HI.out.1; omega
      subst hin
      have hT : (A.take i).take i = A.take i := by rw [List.take_take, Nat.min_self]
      have hR : (A.take i).reverse.take i = (A.take i).reverse := List.take_of_length_le (by rw [List.length_reverse, List.length_take]; omega)
      have hLast := HK.out
      rw [hT, hR, putAll_rev, putAll_take k l HKL.out.2] at hLast
      obtain ⟨L, hL⟩ : ∃ L, putAll k (A.take i) = L := ⟨_, rfl⟩
      rw [hL] at hLast
      have HT := Aside0.mk hLast
      have HLn := Aside0.mk (show L.length ≤ 1000 by have := hLast.len; omega)
      clear hLast hL hT hR hc
      go_wp2_with (first | (go_at_call 30; (first | (have := HV5; (with_reducible refine (K3.list HT5.out).mono ?_); rintro e w8 ⟨⟨v8, rfl, hv⟩, hb⟩; have HV8 := Aside0.mk hv; have HT8 := Aside0.mk (HT5.out.below hb); have HV7 := Aside0.mk (HV7.out.below hb); clear hv hb) | (have := HT6; (with_reducible refine (K3.list HT6.out.rot.rot).mono ?_); rintro e w8 ⟨⟨v7, rfl, hv⟩, hb⟩; have HV7 := Aside0.mk hv; have HT5 := Aside0.mk (HT6.out.below hb); have HV5 := Aside0.mk True.intro; clear hv hb) | (have := HT4; (with_reducible refine (K3.list HT4.out.rot).mono ?_); rintro e w8 ⟨⟨v5, rfl, hv⟩, hb⟩; have HVb := Aside0.mk hv; have HVa := Aside0.mk (HVa.out.below hb); have HTb := Aside0.mk (HT4.out.below hb); clear hv hb) | ((with_reducible refine (K3.list HT.out).mono ?_); rintro e w8 ⟨⟨v4, rfl, hv⟩, hb⟩; have HVa := Aside0.mk hv; have HT4 := Aside0.mk (HT.out.below hb); clear hv hb))) | (go_at_call 26; (with_reducible refine (rfirst_own _ _ _ _ _ HV8.out (by have := HLn.out; omega)).mono ?_); rintro e w9 ⟨⟨v9, rfl, hv⟩, hb⟩; have HV9 := Aside0.mk hv; have HT9 := Aside0.mk (HT8.out.below hb); have HV7 := Aside0.mk (HV7.out.below hb); clear hv hb) | (go_at_call 29; (first | (have := HV9; (with_reducible refine (rsame_own _ _ _ _ _ _ _ (by rw [Int.toNat_natCast]) HV7.out HV9.out (by have := HLn.out; rw [List.length_take]; omega)).mono ?_); rintro e w10 ⟨rfl, hb⟩; have HT10 := Aside0.mk (HT9.out.below hb); clear hb) | ((with_reducible refine (rsame_own _ _ _ _ _ _ _ rfl HVa.out HVb.out (by have := HLn.out; omega)).mono ?_); rintro e w8 ⟨rfl, hb⟩; have HT6 := Aside0.mk (HTb.out.below hb); clear hb))))
      all_goals
        go_ret
        exact ⟨rfl, HT10.out.at0⟩
end Go.Proofs.Ytchiobhklbefjaa.Tk
