/- TopkKeeps: what a selector keeps, of whatever is put, is the document's. No condition. -/
import Derived.Test.YtchiobhklbefjaaTkC
import Derived.Test.YtchiobhklbefjaaTkE
import Derived.BigRegion
namespace Go.Proofs.Ytchiobhklbefjaa.Tk
open Go.RowKit Go.Proofs.YtchiobhklbefjaaW.PrintWords Go.Proofs.YtchiobhklbefjaaW.PrintLast Go.Proofs.YtchiobhklbefjaaW.PrintMore Go.Proofs.Ytchiobhklbefjaa.Q
theorem max2_M (k k' : IntKind) (x y : Int) : Builtin.max2 (.int k x) (.int k' y) = pure (.int k (max x y)) := by
  rw [max2_int]
  congr 2
  by_cases h : x < y
  · rw [if_pos h]; omega
  · rw [if_neg h]; omega
theorem min2_M (k k' : IntKind) (x y : Int) : Builtin.min2 (.int k x) (.int k' y) = pure (.int k (min x y)) := by
  rw [min2_int]
  congr 2
  by_cases h : y < x
  · rw [if_pos h]; omega
  · rw [if_neg h]; omega
attribute [local go_sem] max2_M min2_M max_two min_two
set_option linter.unusedVariables false
set_option linter.unusedSimpArgs false
/-- The first n of a list, put one behind the other. -/
def putAll (k : Nat) (l : List H) : List H := l.foldl (putK k) []
theorem putAll_snoc (k : Nat) (l : List H) (h : H) : putAll k (l ++ [h]) = putK k (putAll k l) h := by simp [putAll]
theorem putAll_least (k : Nat) (l : List H) : putAll k l = leastH k l := by
  have key : ∀ (l m : List H), l.foldl (putK k) (leastH k m) = leastH k (m ++ l) := by
    intro l
    induction l with
    | nil => intro m; simp
    | cons a l ih =>
      intro m
      rw [List.foldl_cons]
      have : putK k (leastH k m) a = leastH k (m ++ [a]) := least_snoc k m a
      rw [this, ih, List.append_assoc]
      rfl
  have h0 : leastH k [] = [] := by simp [leastH, sortH_nil]
  have := key l []
  rw [h0] at this
  exact this
theorem take_put (k : Nat) (l : List H) (i : Nat) (h : i < l.length) : putK k (putAll k (l.take i)) l[i] = putAll k (l.take (i + 1)) := by
  rw [List.take_succ_eq_append_getElem h, putAll_snoc]
theorem ReadsH.at {w : World} {ao : Option Addr} {cap : Nat} {A : List H} (h : ReadsH w ao cap A) {i : Nat} (hi : i < A.length) :
    ∃ ad x, ao = some ad ∧ A[i]? = some x ∧ w.cell? (ad.add (i * 2)) = some (.int .i64 x.f0) ∧ w.cell? ⟨(ad.add (i * 2)).block, (ad.add (i * 2)).off + 1, none⟩ = some (.int .u32 x.f1) := by
  rcases h.2 with ⟨_, rfl, _⟩ | ⟨ad, rfl, hr⟩
  · simp at hi
  · obtain ⟨g0, g1⟩ := cellsOf_get A i hi
    refine ⟨ad, A[i], rfl, List.getElem?_eq_getElem hi, hr _ _ g0, ?_⟩
    have := hr _ _ g1
    have e := add_field ad (i * 2) 1 (by omega)
    rw [e] at this
    exact this
theorem put_len (k : Nat) (L : List H) (x : H) : (putK k L x).length ≤ k := by unfold putK; rw [List.length_take]; omega
/-- The last hit of a list that is read. -/
theorem OwnH.last {w : World} {b n : Nat} {c : Nat} {ao : Option Addr} {L : List H} (h : OwnH w b (.slice ao n c) L) (hn : L.length = n) (h0 : 0 < n) :
    ∃ r, ao = some ⟨r, 0, none⟩ ∧ r < w.heap.size ∧ w.cell? ⟨r, (n - 1) * 2, none⟩ = some (.int .i64 (worstH L).f0) ∧ w.cell? ⟨r, (n - 1) * 2 + 1, none⟩ = some (.int .u32 (worstH L).f1) := by
  subst hn
  have hw : worstH L = L[L.length - 1]'(by omega) := by
    unfold worstH
    rw [List.getLastD_eq_getLast?, List.getLast?_eq_getElem?, List.getElem?_eq_getElem (by omega)]
    rfl
  rcases h.row with ⟨_, rfl⟩ | ⟨r, cap, e, _, _, hr⟩
  · simp at h0
  · simp only [Value.slice.injEq] at e
    obtain ⟨g0, g1, _, _⟩ := hr.cells (L.length - 1) (by omega)
    exact ⟨r, e.1, hr.lt, by rw [hw]; exact g0, by rw [hw]; exact g1⟩
theorem kworst_at (S : Nat → Prop) (g k n : Nat) (f : Bool) (L : List H) (w : World) (hB : Kept w S g k L) (hn : L.length = n) (hf : decide (n = k) = f) :
    Calls Try.prog 31 #[.pointer (some ⟨g, 0, none⟩)] w fun e w' => e = .returned (.tuple #[.agg #[.int .i64 (worstH L).f0, .int .u32 (worstH L).f1], .bool f]) ∧ Below w.heap.size w w' := by
  subst hn hf
  exact kworst_calls S g k L w hB
theorem rfirst_put (b k n : Nat) (v : Value) (L M : List H) (x : H) (w : World) (h : OwnH w b v (intoL L ⟨x.f0, x.f1⟩)) (hM : putK k L x = M) (hn : M.length = n) (hl : L.length ≤ 1000) :
    Calls Try.prog 26 #[v, .int .i64 k] w fun e w' => (∃ a c, e = .returned (.slice a n c) ∧ OwnH w' w.heap.size (.slice a n c) M) ∧ Below w.heap.size w w' := by
  refine (rfirst_own b v _ k w h (by rw [intoL_len]; omega)).mono fun e w' ⟨⟨v', he, hv⟩, hb⟩ => ⟨?_, hb⟩
  have e2 : List.take (k : Int).toNat (intoL L ⟨x.f0, x.f1⟩) = M := by rw [Int.toNat_natCast]; exact hM
  rw [e2] at hv
  obtain ⟨a, c, rfl, _⟩ := hv.slice
  rw [hn] at hv he
  exact ⟨a, c, he, hv⟩
set_option maxHeartbeats 8000000 in
set_option maxRecDepth 100000 in
theorem keeps_calls (a : Int) (ao : Option Addr) (ca : Nat) (A : List H) (w : World) (hr : ReadsH w ao ca A) (hl : A.length ≤ maxLen) :
    Calls Try.prog 3 #[.int .i64 a, .slice ao A.length ca] w fun e w' => e = .returned (.bool true) ∧ Below w.heap.size w w' := by
  have HA := Aside0.mk hr
  have HL := Aside0.mk hl
  clear hr hl
  obtain ⟨k, hk⟩ : ∃ k, clamp a = k := ⟨_, rfl⟩
  have mk : max 0 (min a 256) = (k : Int) := by rw [← hk]; unfold clamp; omega
  go_enter Try.func3, Try.ntmps3
  go_wp2_with (first | (go_at_call 23; (with_reducible refine (alive_calls _).mono ?_); rintro e w1 ⟨rfl, hb⟩; have HB1 := Aside0.mk hb; clear hb) | (go_at_call 24; (with_reducible refine (knew_calls _ _).mono ?_); rintro e w2 ⟨rfl, hb, hK⟩; have HB2 := Aside0.mk (bel_trans HB1.out hb); have HK2 := Aside0.mk hK; clear hb hK; rw [hk] at HK2))
  clear mk
  have HL2 := Aside0.mk (own_nil w2 0 29 2)
  go_loopg [6, 7] A.length (fun gk v6 v7 wr => ∃ (i b : Nat) (S : Nat → Prop), v7 = .int .i64 i ∧ Aside0 (i ≤ A.length ∧ i ≤ 400 ∧ A.length - i ≤ gk) ∧ Aside0 (OwnH wr b v6 (putAll k (A.take i))) ∧ Aside0 (Kept wr S w1.heap.size k (putAll k (A.take i)) ∧ (∀ j, S j → w.heap.size ≤ j ∧ v6.ownBlock ≠ some j)) ∧ Aside0 (Below w.heap.size w wr))
  case atStart => exact ⟨0, 0, _, rfl, ⟨by omega, by omega, by omega⟩, HL2, ⟨HK2.out, fun j hj => ⟨Nat.le_trans HB1.out.size hj.1, by simp [Value.ownBlock]⟩⟩, HB2⟩
  case round =>
    obtain ⟨i, b, S, rfl, HI, HV, HK, HB⟩ := hrel
    by_cases hc : i < A.length ∧ i < 400
    · have q1 : decide ((i : Int) < (A.length : Int)) = true := decide_eq_true (by omega)
      have q2 : decide ((i : Int) < 400) = true := decide_eq_true (by omega)
      have q3 : (i : Int) < (A.length : Int) := by omega
      obtain ⟨ad, x, rfl, hx, c0, c1⟩ := HA.out.at hc.1
      have hin : wrap64 ((i : Int) + 1) = ((i + 1 : Nat) : Int) := by rw [wrap_small (by omega) (by omega)]; omega
      have C0 := Aside0.mk c0
      have C1 := Aside0.mk c1
      have HC := Aside0.mk hc
      obtain ⟨L, hL⟩ : ∃ L, putAll k (A.take (i + 1)) = L := ⟨_, rfl⟩
      have hL1 : putK k (putAll k (A.take i)) x = L := by
        obtain ⟨hi, rfl⟩ := List.getElem?_eq_some_iff.1 hx
        rw [take_put k A i hi, hL]
      obtain ⟨n, hn⟩ : ∃ n, L.length = n := ⟨_, rfl⟩
      have HL1 := Aside0.mk hL1
      have HLn := Aside0.mk hn
      have HLL := Aside0.mk hL
      have hl0 := HK.out.1.len
      have HL0 := Aside0.mk (show (putAll k (A.take i)).length ≤ 256 by omega)
      replace c0 := pw_cell_below HB.out c0
      replace c1 := pw_cell_below HB.out c1
      clear hc hx hL hL1 hn hl0
      obtain ⟨f, hf⟩ : ∃ f, decide (n = k) = f := ⟨_, rfl⟩
      have e1 : ((n : Int) == (k : Int)) = f := by
        rw [← hf]
        by_cases h : n = k
        · subst h; simp
        · have h2 : ¬ (n : Int) = (k : Int) := by omega
          simp [h, h2]
      have HF := Aside0.mk hf
      clear hf
      obtain ⟨d, hd⟩ : ∃ d, (worstH L).f0 = d := ⟨_, rfl⟩
      obtain ⟨y, hy⟩ : ∃ y, (worstH L).f1 = y := ⟨_, rfl⟩
      have HD := Aside0.mk hd
      have HY := Aside0.mk hy
      clear hd hy
      by_cases hn0 : n = 0
      · have hLe : L = [] := List.length_eq_zero_iff.1 (by rw [HLn.out]; exact hn0)
        obtain rfl : d = 0 := by have h := HD.out; rw [hLe] at h; exact h.symm
        obtain rfl : y = 0 := by have h := HY.out; rw [hLe] at h; exact h.symm
        clear hLe
        subst hn0
        replace e1 : ((0 : Int) == (k : Int)) = f := e1
        go_wp2_with (first | (go_at_call 25; (with_reducible refine (kput_calls _ _ _ _ _ _ _ HK.out.1).mono ?_); rintro e w3 ⟨rfl, hO, hK⟩; have HO3 := Aside0.mk hO; have HK3 := Aside0.mk (HL1.out ▸ hK : Kept _ _ _ _ L); have HB3 := Aside0.mk (hO.below_of HB.out (fun j hj => (HK.out.2 j hj).1)); have HV3 := Aside0.mk (HV.out.only hO (fun j hj => (HK.out.2 j hj).2)); clear hO hK c0 c1; have c0 := pw_cell_below HB3.out C0.out; have c1 := pw_cell_below HB3.out C1.out) | (go_at_call 27; (with_reducible refine (rinto_own _ _ _ _ _ _ HV3.out (by have := HL0.out; omega)).mono ?_); rintro e w4 ⟨⟨v4, rfl, hv⟩, hb⟩; have HV4 := Aside0.mk hv; have HB4 := Aside0.mk hb; have HK4 := Aside0.mk (HK3.out.below hb); clear hv hb c0 c1) | (go_at_call 26; (with_reducible refine (rfirst_put _ k 0 _ _ L x _ HV4.out HL1.out HLn.out (by have := HL0.out; omega)).mono ?_); rintro e w5 ⟨⟨a5, ca5, rfl, hv⟩, hb⟩; have HV5 := Aside0.mk hv; have HB5 := Aside0.mk (bel_trans HB3.out (bel_trans HB4.out hb)); have HK5 := Aside0.mk (HK4.out.below hb); clear hv hb) | (go_at_call 28; (with_reducible refine (klen_calls _ _ _ _ _ HK5.out).mono ?_); rintro e w6 ⟨rfl, rfl⟩; rw [HLn.out]) | (go_at_call 31; (with_reducible refine (kworst_at _ _ _ 0 f _ _ HK5.out HLn.out HF.out).mono ?_); rintro e w7 ⟨rfl, hb⟩; rw [HD.out, HY.out]; have HV7 := Aside0.mk (HV5.out.below hb); have HB7 := Aside0.mk (bel_trans HB5.out hb); have HK7 := Aside0.mk (HK5.out.below hb); clear hb) | (go_at_call 30; (with_reducible refine (klist_calls _ _ _ _ _ HK5.out).mono ?_); rintro e w6 ⟨⟨vl, rfl, hv⟩, hb⟩; have HVl := Aside0.mk hv; have HK5 := Aside0.mk (HK5.out.below hb); have HV5 := Aside0.mk (HV5.out.below hb); have HB5 := Aside0.mk (bel_trans HB5.out hb); clear hv hb) | (go_at_call 29; (with_reducible refine (rsame_own _ _ _ _ _ _ _ rfl HVl.out HV5.out (by have := HK5.out.len; omega)).mono ?_); rintro e w6 ⟨rfl, hb⟩; have HK5 := Aside0.mk (HK5.out.below hb); have HV5 := Aside0.mk (HV5.out.below hb); have HB5 := Aside0.mk (bel_trans HB5.out hb); clear hb))
        all_goals go_quiet (fail)
        all_goals
          go_wp2
          obtain ⟨gk, rfl⟩ : ∃ m, gk = m + 1 := ⟨gk - 1, by have := HI.out; have := HC.out; omega⟩
          go_roundg gk
          case measure => omega
          case rel =>
            have hb8 := pw_below_drewN (below_alloc (Below.refl w7.heap.size w7) (.cells #[.int .i64 0, .int .u32 0] 29)) nq
            exact ⟨i + 1, w4.heap.size, ext S wr w3, congrArg (Value.int .i64) hin, ⟨by have := HI.out; have := HC.out; omega⟩, ⟨by rw [HLL.out]; exact HV7.out.below hb8⟩, ⟨by rw [HLL.out]; exact HK7.out.below hb8, fun j hj => ⟨ext_new (fun j hj => (HK.out.2 j hj).1) HB.out.size j hj, fun e => by have h1 := own_base HV7.out j e; have h2 := HK3.out.lt j hj; have h3 := HB4.out.size; omega⟩⟩, ⟨bel_trans HB7.out hb8⟩⟩
      have hn1 : 0 < n := by omega
      obtain ⟨m, hm⟩ : ∃ m, n - 1 = m := ⟨_, rfl⟩
      have hnk : n ≤ 256 := by
        have h := put_len k (putAll k (A.take i)) x
        rw [HL1.out, HLn.out] at h
        have := HK.out.1.len
        omega
      have hwr : IntKind.i64.wrap ((n : Int) - 1) = (m : Int) := by rw [IntWalk.i64_in _ (by omega)]; omega
      have hm1 : (m : Int) < (n : Int) := by omega
      have hm0 : (0 : Int) ≤ (m : Int) := by omega
      have HM := Aside0.mk hm
      clear hm
      have r1 : decide (0 < (n : Int)) = true := decide_eq_true (by omega)
      have r2 : ((n : Int) == 0) = false := by simp; omega
      go_wp2_with (first | (go_at_call 25; (with_reducible refine (kput_calls _ _ _ _ _ _ _ HK.out.1).mono ?_); rintro e w3 ⟨rfl, hO, hK⟩; have HO3 := Aside0.mk hO; have HK3 := Aside0.mk (HL1.out ▸ hK : Kept _ _ _ _ L); have HB3 := Aside0.mk (hO.below_of HB.out (fun j hj => (HK.out.2 j hj).1)); have HV3 := Aside0.mk (HV.out.only hO (fun j hj => (HK.out.2 j hj).2)); clear hO hK c0 c1; have c0 := pw_cell_below HB3.out C0.out; have c1 := pw_cell_below HB3.out C1.out) | (go_at_call 27; (with_reducible refine (rinto_own _ _ _ _ _ _ HV3.out (by have := HL0.out; omega)).mono ?_); rintro e w4 ⟨⟨v4, rfl, hv⟩, hb⟩; have HV4 := Aside0.mk hv; have HB4 := Aside0.mk hb; have HK4 := Aside0.mk (HK3.out.below hb); clear hv hb c0 c1) | (go_at_call 26; (with_reducible refine (rfirst_put _ k n _ _ L x _ HV4.out HL1.out HLn.out (by have := HL0.out; omega)).mono ?_); rintro e w5 ⟨⟨a5, ca5, rfl, hv⟩, hb⟩; have HV5 := Aside0.mk hv; have HB5 := Aside0.mk (bel_trans HB3.out (bel_trans HB4.out hb)); have HK5 := Aside0.mk (HK4.out.below hb); clear hv hb) | (go_at_call 28; (with_reducible refine (klen_calls _ _ _ _ _ HK5.out).mono ?_); rintro e w6 ⟨rfl, rfl⟩; rw [HLn.out]) | (go_at_call 31; (with_reducible refine (kworst_at _ _ _ n f _ _ HK5.out HLn.out HF.out).mono ?_); rintro e w7 ⟨rfl, hb⟩; rw [HD.out, HY.out]; have HV7 := Aside0.mk (HV5.out.below hb); have HB7 := Aside0.mk (bel_trans HB5.out hb); have HK7 := Aside0.mk (HK5.out.below hb); clear hb; obtain ⟨r, rfl, hr, z0, z1⟩ := HV7.out.last HLn.out hn1; rw [HD.out] at z0; rw [HY.out] at z1; rw [HM.out] at z0 z1) | (go_at_call 30; (with_reducible refine (klist_calls _ _ _ _ _ HK5.out).mono ?_); rintro e w6 ⟨⟨vl, rfl, hv⟩, hb⟩; have HVl := Aside0.mk hv; have HK5 := Aside0.mk (HK5.out.below hb); have HV5 := Aside0.mk (HV5.out.below hb); have HB5 := Aside0.mk (bel_trans HB5.out hb); clear hv hb) | (go_at_call 29; (with_reducible refine (rsame_own _ _ _ _ _ _ _ rfl HVl.out HV5.out (by have := HK5.out.len; omega)).mono ?_); rintro e w6 ⟨rfl, hb⟩; have HK5 := Aside0.mk (HK5.out.below hb); have HV5 := Aside0.mk (HV5.out.below hb); have HB5 := Aside0.mk (bel_trans HB5.out hb); clear hb))
      all_goals go_quiet (fail)
      all_goals
        go_wp2
        obtain ⟨gk, rfl⟩ : ∃ m, gk = m + 1 := ⟨gk - 1, by have := HI.out; have := HC.out; omega⟩
        go_roundg gk
        case measure => omega
        case rel =>
          have hb8 := pw_below_drewN (below_alloc (Below.refl w7.heap.size w7) (.cells #[.int .i64 d, .int .u32 y] 29)) nq
          exact ⟨i + 1, w4.heap.size, ext S wr w3, congrArg (Value.int .i64) hin, ⟨by have := HI.out; have := HC.out; omega⟩, ⟨by rw [HLL.out]; exact HV7.out.below hb8⟩, ⟨by rw [HLL.out]; exact HK7.out.below hb8, fun j hj => ⟨ext_new (fun j hj => (HK.out.2 j hj).1) HB.out.size j hj, fun e => by have h1 := own_base HV7.out j e; have h2 := HK3.out.lt j hj; have h3 := HB4.out.size; omega⟩⟩, ⟨bel_trans HB7.out hb8⟩⟩
    · by_cases hc1 : i < A.length
      · have q1 : decide ((i : Int) < (A.length : Int)) = true := decide_eq_true (by omega)
        have q2 : decide ((i : Int) < 400) = false := decide_eq_false (by omega)
        clear hc hc1
        go_wp2_with (first | (go_at_call 30; (with_reducible refine (klist_calls _ _ _ _ _ HK.out.1).mono ?_); rintro e w3 ⟨⟨vl, rfl, hv⟩, hb⟩; have HVl := Aside0.mk hv; have HV3 := Aside0.mk (HV.out.below hb); have HB3 := Aside0.mk (bel_trans HB.out hb); clear hv hb) | (go_at_call 29; (with_reducible refine (rsame_own _ _ _ _ _ _ _ rfl HVl.out HV3.out (by have := HK.out.1.len; omega)).mono ?_); rintro e w4 ⟨rfl, hb⟩; have HB4 := Aside0.mk (bel_trans HB3.out hb); clear hb))
        all_goals
          go_ret
          exact ⟨rfl, HB4.out⟩
      · have q1 : decide ((i : Int) < (A.length : Int)) = false := decide_eq_false (by omega)
        have q2 : decide (i < A.length) = false := decide_eq_false hc1
        have q3 : (i < A.length) = False := eq_false hc1
        clear hc
        go_wp2_with (first | (go_at_call 30; (with_reducible refine (klist_calls _ _ _ _ _ HK.out.1).mono ?_); rintro e w3 ⟨⟨vl, rfl, hv⟩, hb⟩; have HVl := Aside0.mk hv; have HV3 := Aside0.mk (HV.out.below hb); have HB3 := Aside0.mk (bel_trans HB.out hb); clear hv hb) | (go_at_call 29; (with_reducible refine (rsame_own _ _ _ _ _ _ _ rfl HVl.out HV3.out (by have := HK.out.1.len; omega)).mono ?_); rintro e w4 ⟨rfl, hb⟩; have HB4 := Aside0.mk (bel_trans HB3.out hb); clear hb))
        all_goals
          go_ret
          exact ⟨rfl, HB4.out⟩
end Go.Proofs.Ytchiobhklbefjaa.Tk
