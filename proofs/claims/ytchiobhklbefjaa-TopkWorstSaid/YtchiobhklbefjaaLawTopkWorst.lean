/- TopkWorst: the worst one that is kept is the last of the list; nothing that was put and isn't kept is less than it. No condition. -/
import Derived.Test.YtchiobhklbefjaaTkG
import Derived.StillTailTactics
import Derived.Deep.QuietTactic
import Derived.BigQuiet
namespace Go.Proofs.Ytchiobhklbefjaa.Tk
open Go.RowKit Go.Proofs.YtchiobhklbefjaaW.PrintWords Go.Proofs.YtchiobhklbefjaaW.PrintLast Go.Proofs.YtchiobhklbefjaaW.PrintMore Go.Proofs.Ytchiobhklbefjaa.Q
attribute [local go_sem] max2_M min2_M max_two min_two
set_option linter.unusedVariables false
set_option linter.unusedSimpArgs false
theorem rless_calls (x y : H) (r : Bool) (hr : ltH x y = r) (w : World) :
    Calls Try.prog 33 #[.agg #[.int .i64 x.f0, .int .u32 x.f1], .agg #[.int .i64 y.f0, .int .u32 y.f1]] w fun e w' => e = .returned (.bool r) ∧ Below w.heap.size w w' := by
  refine lodestarref02_Less.calls _ _ _ _ r w ?_
  subst hr
  unfold lodestarref02_Less.f ltH
  by_cases hq : x.f0 = y.f0
  · rw [if_pos hq, hq]; simp
  · rw [if_neg hq]; simp [hq]
def cnt (x : H) (l : List H) : Nat := l.countP (fun a => ltH a x)
theorem cnt_snoc {x y : H} {A : List H} {i : Nat} {r : Bool} (hy : A[i]? = some y) (hr : ltH y x = r) : cnt x (A.take (i + 1)) = cnt x (A.take i) + if r = true then 1 else 0 := by
  obtain ⟨hi, rfl⟩ := List.getElem?_eq_some_iff.1 hy
  unfold cnt
  rw [List.take_succ_eq_append_getElem hi, List.countP_append, List.countP_cons, hr]
  simp
theorem cnt_le (x : H) (l : List H) : cnt x l ≤ l.length := List.countP_le_length
/-- Less of all that was put than are kept. -/
theorem worst_count (k : Nat) (A : List H) (h : 0 < (putAll k A).length) : cnt (worstH (putAll k A)) A < (putAll k A).length := by
  rw [putAll_least] at *
  unfold cnt
  rw [← (sortH_perm A).countP_eq]
  have hl : (leastH k A).length = min k A.length := least_len k A
  have hw : worstH (leastH k A) = (sortH A)[(leastH k A).length - 1]'(by rw [sortH_len]; omega) := by
    unfold worstH
    rw [List.getLastD_eq_getLast?, List.getLast?_eq_getElem?]
    have e : (leastH k A)[(leastH k A).length - 1]? = (sortH A)[(leastH k A).length - 1]? := by
      unfold leastH
      rw [List.getElem?_take, if_pos (by have := hl; unfold leastH at this h; omega)]
    rw [e, List.getElem?_eq_getElem (by rw [sortH_len]; omega)]
    rfl
  have := count_less (sortH_sorted A) ((leastH k A).length - 1) (by rw [sortH_len]; omega) _ hw
  omega
set_option maxHeartbeats 8000000 in
set_option maxRecDepth 100000 in
theorem worst_calls (a : Int) (ao : Option Addr) (ca : Nat) (A : List H) (w : World) (hr : ReadsH w ao ca A) (hl : A.length ≤ maxLen) :
    Calls Try.prog 7 #[.int .i64 a, .slice ao A.length ca] w fun e w' => e = .returned (.bool true) ∧ Below w.heap.size w w' := by
  have HA := Aside0.mk hr
  have HL := Aside0.mk hl
  obtain ⟨k, hk⟩ : ∃ k, clamp a = k := ⟨_, rfl⟩
  obtain ⟨n, hn⟩ : ∃ n, min A.length 200 = n := ⟨_, rfl⟩
  have hmn : min (A.length : Int) 200 = (n : Int) := by omega
  have HN := Aside0.mk (show n ≤ A.length ∧ n ≤ 200 by omega)
  have HCK := Aside0.mk hk
  have hu := Try.underlying29
  clear hr hl hn hk
  go_enter Try.func7, Try.ntmps7
  go_wp2_with (first | (go_at_call 23; (with_reducible refine (alive_calls _).mono ?_); rintro e w1 ⟨rfl, hb⟩; have HB1 := Aside0.mk hb; clear hb) | (go_at_call 24; (with_reducible refine (knew_calls _ _).mono ?_); rintro e w2 ⟨rfl, hb, hK⟩; rw [HCK.out] at hK; have HB2 := Aside0.mk (bel_trans HB1.out hb); have HK2 := Aside0.mk hK; clear hb hK))
  clear hmn
  go_loopg [7] n (fun gk v7 wr => ∃ (i : Nat) (S : Nat → Prop), v7 = .int .i64 i ∧ Aside0 (i ≤ n ∧ n - i ≤ gk) ∧ Aside0 (Kept wr S w1.heap.size k (putAll k ((A.take n).take i)) ∧ (∀ j, S j → w.heap.size ≤ j)) ∧ Aside0 (Below w.heap.size w wr))
  case atStart => exact ⟨0, _, rfl, ⟨by omega, by omega⟩, ⟨by simpa [putAll] using HK2.out, fun j (hj : fresh _ _ j) => Nat.le_trans HB1.out.size hj.1⟩, HB2⟩
  case round =>
    obtain ⟨i, S, rfl, HI, HK, HB⟩ := hrel
    by_cases hc : i < n
    · have hA := HN.out.1
      have h3 := HN.out.2
      have q1 : decide ((i : Int) < (n : Int)) = true := decide_eq_true (by omega)
      have q3 : (i : Int) < (A.length : Int) := by omega
      have q4 : (i : Int) < (n : Int) := by omega
      obtain ⟨ad, x, rfl, hx, c0, c1⟩ := HA.out.at (i := i) (by omega)
      have hin : wrap64 ((i : Int) + 1) = ((i + 1 : Nat) : Int) := by rw [wrap_small (by omega) (by omega)]; omega
      have HX := Aside0.mk (show (A.take n)[i]? = some x by rw [List.getElem?_take, if_pos hc]; exact hx)
      have HC := Aside0.mk hc
      replace c0 := pw_cell_below HB.out c0
      replace c1 := pw_cell_below HB.out c1
      clear hc hx hA h3
      go_wp2_with ((go_at_call 25; (with_reducible refine (kput_calls _ _ _ _ _ _ _ HK.out.1).mono ?_); rintro e w3 ⟨rfl, hO, hK⟩; have HO3 := Aside0.mk hO; have HK3 := Aside0.mk hK; have HB3 := Aside0.mk (hO.below_of HB.out (fun j hj => HK.out.2 j hj)); clear hO hK c0 c1))
      obtain ⟨gk, rfl⟩ : ∃ m, gk = m + 1 := ⟨gk - 1, by have := HI.out; have := HC.out; omega⟩
      go_roundg gk
      case measure => omega
      case rel => exact ⟨i + 1, ext S wr w3, congrArg (Value.int .i64) hin, ⟨by have := HI.out; have := HC.out; omega⟩, ⟨by rw [← own_put k i _ x HX.out]; exact HK3.out, ext_new (fun j hj => HK.out.2 j hj) HB.out.size⟩, HB3⟩
    · have q1 : decide ((i : Int) < (n : Int)) = false := decide_eq_false (by omega)
      have q2 : decide (i < n) = false := decide_eq_false hc
      have q3 : (i < n) = False := eq_false hc
      have hin : i = n := by have := HI.out.1; omega
      have hT : (A.take n).take i = A.take n := by rw [List.take_take, hin, Nat.min_self]
      have hK := HK.out.1
      rw [hT] at hK
      obtain ⟨L, hL⟩ : ∃ L, putAll k (A.take n) = L := ⟨_, rfl⟩
      rw [hL] at hK
      obtain ⟨m, hm⟩ : ∃ m, L.length = m := ⟨_, rfl⟩
      have HKL := Aside0.mk hK
      have HM := Aside0.mk hm
      have HLL := Aside0.mk hL
      obtain ⟨f, hf⟩ : ∃ f, decide (m = k) = f := ⟨_, rfl⟩
      have HF := Aside0.mk hf
      obtain ⟨z, hz⟩ : ∃ z, worstH L = z := ⟨_, rfl⟩
      have HZ := Aside0.mk hz
      have HMM := Aside0.mk (show m ≤ 256 by have := hK.len; omega)
      clear hc hin hT hK hL hm hf hz HK
      by_cases h0 : m = 0
      · subst h0
        have hLe : L = [] := List.length_eq_zero_iff.1 HM.out
        have HE := Aside0.mk (show worstH L = (⟨0, 0⟩ : H) by rw [hLe]; rfl)
        clear hLe
        go_wp2_with (first | (go_at_call 30; (with_reducible refine (told_at _ _ _ 0 _ _ HKL.out HM.out).mono ?_); rintro e w5 ⟨⟨a5, c5, rfl, hv⟩, hb⟩; have HK5 := Aside0.mk (HKL.out.below hb); have HB5 := Aside0.mk (bel_trans HB.out hb); clear hv hb) | (go_at_call 31; (with_reducible refine (kworst_at _ _ _ 0 f _ _ HK5.out HM.out HF.out).mono ?_); rintro e w6 ⟨rfl, hb⟩; rw [HE.out]; have HB6 := Aside0.mk (bel_trans HB5.out hb); clear hb))
        all_goals
          go_ret
          exact ⟨rfl, bel_alloc HB6.out _⟩
      · have h1 : 0 < m := by omega
        have r1 : ((m : Int) == 0) = false := by simp; omega
        obtain ⟨p, hp⟩ : ∃ p, m - 1 = p := ⟨_, rfl⟩
        have HP := Aside0.mk hp
        have H1 := Aside0.mk h1
        clear hp h0 h1
        go_wp2_with (first | (go_at_call 30; (with_reducible refine (told_at _ _ _ m _ _ HKL.out HM.out).mono ?_); rintro e w5 ⟨⟨a5, c5, rfl, hv⟩, hb⟩; have HV5 := Aside0.mk hv; have HK5 := Aside0.mk (HKL.out.below hb); have HB5 := Aside0.mk (bel_trans HB.out hb); clear hv hb) | (go_at_call 31; (with_reducible refine (kworst_at _ _ _ m f _ _ HK5.out HM.out HF.out).mono ?_); rintro e w6 ⟨rfl, hb⟩; rw [HZ.out]; have HV6 := Aside0.mk (HV5.out.below hb); have HB6 := Aside0.mk (bel_trans HB5.out hb); clear hb))
        obtain ⟨G, hG⟩ : ∃ G, w6.heap.size = G := ⟨_, rfl⟩
        have hg7 : (w6.alloc (.cells #[.int .i64 z.f0, .int .u32 z.f1] 29)).heap[w6.heap.size]? = some (.cells #[.int .i64 z.f0, .int .u32 z.f1] 29 (0, 0)) := heap_alloc_new w6 _
        have HG7 := Aside0.mk (hG ▸ hg7)
        have HV7 := Aside0.mk (HV6.out.below (below_alloc (Below.refl _ _) (.cells #[.int .i64 z.f0, .int .u32 z.f1] 29)))
        have HB7 := Aside0.mk (bel_alloc HB6.out (.cells #[.int .i64 z.f0, .int .u32 z.f1] 29))
        clear hg7
        rw [hG]
        generalize w6.alloc (.cells #[.int .i64 z.f0, .int .u32 z.f1] 29) = w7 at HG7 HV7 HB7 ⊢
        clear HV5 HV6 HK5 HB5 HB6 hG
        have HGL := Aside0.mk (blk_lt HG7.out)
        have HBW := Aside0.mk HB.out.size
        go_loopg [11, 12] n (fun gk v11 v12 wq => ∃ (c j : Nat), v11 = .int .i64 c ∧ v12 = .int .i64 j ∧ Aside0 (j ≤ n ∧ n - j ≤ gk) ∧ Aside0 (c = cnt z ((A.take n).take j) ∧ c ≤ j) ∧ Aside0 (Below w7.heap.size w7 wq))
        case atStart => exact ⟨0, 0, rfl, rfl, ⟨by omega, by omega⟩, ⟨by simp [cnt], by omega⟩, ⟨Below.refl _ _⟩⟩
        case round =>
          obtain ⟨c, j, rfl, rfl, HJ, HC, HBQ⟩ := hrel
          obtain ⟨g0, g1⟩ : wr.cell? ⟨G, 0, none⟩ = some (.int .i64 z.f0) ∧ wr.cell? ⟨G, 1, none⟩ = some (.int .u32 z.f1) := by
            have hb := (HBQ.out.block G HGL.out).trans HG7.out
            exact ⟨by rw [blk_cell hb]; rfl, by rw [blk_cell hb]; rfl⟩
          by_cases hj : j < n
          · have hA := HN.out.1
            have h3 := HN.out.2
            have hcj := HC.out.2
            have p1 : decide ((j : Int) < (n : Int)) = true := decide_eq_true (by omega)
            have p2 : (j : Int) < (n : Int) := by omega
            have p3 : (j : Int) < (A.length : Int) := by omega
            obtain ⟨ad, y, rfl, hy, c0, c1⟩ := HA.out.at (i := j) (by omega)
            have hjn : wrap64 ((j : Int) + 1) = ((j + 1 : Nat) : Int) := by rw [wrap_small (by omega) (by omega)]; omega
            have hcn : wrap64 ((c : Int) + 1) = ((c + 1 : Nat) : Int) := by rw [wrap_small (by omega) (by omega)]; omega
            have HY := Aside0.mk (show (A.take n)[j]? = some y by rw [List.getElem?_take, if_pos hj]; exact hy)
            have HJ2 := Aside0.mk hj
            have HBB := Aside0.mk (bel_trans HB7.out HBQ.out)
            replace c0 := pw_cell_below HBB.out c0
            replace c1 := pw_cell_below HBB.out c1
            clear hj hy hA h3 hcj
            obtain ⟨r, hr⟩ : ∃ r, ltH y z = r := ⟨_, rfl⟩
            have HR := Aside0.mk hr
            clear hr
            go_wp2_with fail
            go_still_tail 5, (by kernel_rfl)
            change wpList _ _ _ _ _ wr.drew
            have HQ := Aside0.mk (bel_trans HBQ.out (below_drew (Below.refl wr.heap.size wr)))
            generalize wr.drew = w8 at HQ ⊢
            clear c0 c1 g0 g1
            cases r with
            | true =>
              go_wp2_with ((go_at_call 33; (with_reducible refine (rless_calls y z _ HR.out _).mono ?_); rintro e w9 ⟨rfl, hb⟩; have HQ9 := Aside0.mk (bel_trans HQ.out hb); clear hb))
              obtain ⟨gk, rfl⟩ : ∃ m, gk = m + 1 := ⟨gk - 1, by have := HJ.out; have := HJ2.out; omega⟩
              go_roundg gk
              case measure => omega
              case rel => exact ⟨c + 1, j + 1, congrArg (Value.int .i64) hcn, congrArg (Value.int .i64) hjn, ⟨by have := HJ.out; have := HJ2.out; omega⟩, ⟨by rw [cnt_snoc HY.out HR.out, ← HC.out.1]; simp, by have := HC.out.2; omega⟩, HQ9⟩
            | false =>
              go_wp2_with ((go_at_call 33; (with_reducible refine (rless_calls y z _ HR.out _).mono ?_); rintro e w9 ⟨rfl, hb⟩; have HQ9 := Aside0.mk (bel_trans HQ.out hb); clear hb))
              obtain ⟨gk, rfl⟩ : ∃ m, gk = m + 1 := ⟨gk - 1, by have := HJ.out; have := HJ2.out; omega⟩
              go_roundg gk
              case measure => omega
              case rel => exact ⟨c, j + 1, rfl, congrArg (Value.int .i64) hjn, ⟨by have := HJ.out; have := HJ2.out; omega⟩, ⟨by rw [cnt_snoc HY.out HR.out, ← HC.out.1]; simp, by have := HC.out.2; omega⟩, HQ9⟩
          · have p1 : decide ((j : Int) < (n : Int)) = false := decide_eq_false (by omega)
            have p2 : decide (j < n) = false := decide_eq_false hj
            have p3 : (j < n) = False := eq_false hj
            have hjn : j = n := by have := HJ.out.1; omega
            have hcm : c < m := by
              have h1 := worst_count k (A.take n) (by rw [HLL.out, HM.out]; exact H1.out)
              rw [HLL.out, HM.out, HZ.out] at h1
              have h2 := HC.out.1
              rw [hjn, List.take_take, Nat.min_self] at h2
              omega
            have hpm := HP.out
            have h1m := H1.out
            have hmm := HMM.out
            obtain ⟨r, rfl, hr, z0, z1⟩ := (HV7.out.below HBQ.out).last HM.out H1.out
            rw [HZ.out, hpm] at z0 z1
            have hwr : IntKind.i64.wrap ((m : Int) - 1) = (p : Int) := by rw [IntWalk.i64_in _ (by omega)]; omega
            have hp1 : (p : Int) < (m : Int) := by omega
            have hp0 : (0 : Int) ≤ (p : Int) := by omega
            have e1 : decide ((c : Int) < (m : Int)) = true := decide_eq_true (by omega)
            have e2 : decide (c < m) = true := decide_eq_true hcm
            have e3 : (c : Int) < (m : Int) := by omega
            clear hj hjn hpm hmm
            go_wp2_with fail
            go_quiet (fail)
            go_wp2
            go_ret
            exact ⟨rfl, bel_trans (bel_trans HB7.out HBQ.out) (pw_below_drewN (Below.refl _ _) _)⟩
theorem worst_row (k : Int) (hk : (Lit.int .i64 k).wf = true) (v0 : Value) (s0 : v0 = .slice none 0 0 ∨ ∃ a n c, v0 = .slice (some a) n c) (x0 : List (Int × Int)) {W : World} (K0 : (Kd.slice 29 kp).K W x0 v0.cells.toList) (o0 : okHits x0) (_ : World) :
    Calls Try.prog 7 #[.int .i64 k, v0] W fun e w' => e = .returned (.bool true) ∧ Below W.heap.size W w' := by
  obtain ⟨ao, ca, rfl, hr⟩ := hits_of s0 K0
  exact worst_calls k ao ca _ W hr (hits_len o0)
end Go.Proofs.Ytchiobhklbefjaa.Tk
