/- Topk: the walk of the heap's way down. No condition. -/
import Derived.Test.YtchiobhklbefjaaTk1
import Derived.Deep.DeepCutAuto
import Derived.IntWalk
namespace Go.Proofs.Ytchiobhklbefjaa.Tk
open Go.RowKit Go.Proofs.YtchiobhklbefjaaW.PrintWords Go.Proofs.Ytchiobhklbefjaa.Q
set_option linter.unusedVariables false
def kid (A : List H) (i : Nat) : Nat := if 2 * i + 2 < A.length ∧ ltH (rdH A (2 * i + 1)) (rdH A (2 * i + 2)) = true then 2 * i + 2 else 2 * i + 1
def downL : Nat → List H → Nat → List H
  | 0, A, _ => A
  | f + 1, A, i => if A.length ≤ 2 * i + 1 then A else if ltH (rdH A i) (rdH A (kid A i)) then downL f (swapL A i (kid A i)) (kid A i) else A
theorem downL_end (f : Nat) (A : List H) {i n : Nat} (hA : A.length = n) (h : n ≤ 2 * i + 1) : downL (f + 1) A i = A := by subst hA; simp only [downL]; rw [if_pos h]
theorem downL_no (f : Nat) (A : List H) {i c n : Nat} (hA : A.length = n) (h : ¬ n ≤ 2 * i + 1) (hc : kid A i = c) (hb : ltH (rdH A i) (rdH A c) = false) : downL (f + 1) A i = A := by
  subst hA; subst hc; simp only [downL]; rw [if_neg h, hb]; rfl
theorem downL_yes (f : Nat) (A : List H) {i c n : Nat} (hA : A.length = n) (h : ¬ n ≤ 2 * i + 1) (hc : kid A i = c) (hb : ltH (rdH A i) (rdH A c) = true) : downL (f + 1) A i = downL f (swapL A i c) c := by
  subst hA; subst hc; simp only [downL]; rw [if_neg h, hb]; rfl
theorem kid_two {A : List H} {i n : Nat} (hA : A.length = n) (h : 2 * i + 2 < n) (hb : ltH (rdH A (2 * i + 1)) (rdH A (2 * i + 2)) = true) : kid A i = 2 * i + 2 := by
  subst hA; unfold kid; rw [if_pos ⟨h, hb⟩]
theorem kid_one {A : List H} {i : Nat} (hb : ltH (rdH A (2 * i + 1)) (rdH A (2 * i + 2)) = false) : kid A i = 2 * i + 1 := by
  unfold kid; rw [hb]; simp
theorem kid_last {A : List H} {i n : Nat} (hA : A.length = n) (h : ¬ 2 * i + 2 < n) : kid A i = 2 * i + 1 := by
  subst hA; unfold kid; rw [if_neg (fun x => h x.1)]
set_option maxHeartbeats 8000000 in
set_option maxRecDepth 100000 in
theorem down_calls (g r cap : Nat) (k : Int) (A : List H) (w : World) (hg : w.heap[g]? = some (.cells #[.int .i64 k, .slice (some ⟨r, 0, none⟩) A.length cap] 107 (0, 0))) (hr : RowAt w r cap A) (hne : g ≠ r) (hl : A.length ≤ 1000) :
    Calls Try.prog 66 #[.pointer (some ⟨g, 0, none⟩)] w fun e w' => e = .returned (.tuple #[]) ∧ Only (· = r) w w' ∧ RowAt w' r cap (downL (A.length + 1) A 0) := by
  have hu := Try.underlying29
  obtain ⟨n, hn⟩ : ∃ n, A.length = n := ⟨_, rfl⟩
  have hnb : n ≤ 1000 := by omega
  have Hg := Aside0.mk hg
  have Hr := Aside0.mk hr
  have HN := Aside0.mk hn
  clear hg hr hn
  go_enter Try.func66, Try.ntmps66
  go_wp2
  go_loopg [2] (n + 1) (fun gk si wr => ∃ (i : Nat) (B : List H), si = .int .i64 i ∧ Aside0 (B.length = n) ∧ i ≤ n ∧ Aside0 (n < gk + i) ∧ Aside0 (Only (· = r) w wr) ∧ Aside0 (RowAt wr r cap B) ∧ Aside0 (downL gk B i = downL (n + 1) A 0))
  case atStart => exact ⟨0, A, by go_num, HN, by omega, ⟨by omega⟩, ⟨Only.refl _ _⟩, Hr, ⟨rfl⟩⟩
  case round =>
    obtain ⟨i, B, rfl, HB, hi, HG, HO, HR, HE⟩ := hrel
    obtain ⟨gk, rfl⟩ : ∃ m, gk = m + 1 := ⟨gk - 1, by have := HG.out; omega⟩
    have hgb := (HO.out.block g (blk_lt Hg.out) hne).trans Hg.out
    have c1 : wr.cell? ⟨g, 1, none⟩ = some (.slice (some ⟨r, 0, none⟩) n cap) := by rw [blk_cell hgb, HN.out]; rfl
    clear hgb
    by_cases h0 : n ≤ 2 * i + 1
    · have h0' : (n : Int) ≤ 2 * (i : Int) + 1 := by omega
      go_wp2
      refine bodyPost_ret (results_none rfl _ _ _) rfl ?_
      exact ⟨rfl, HO.out, by rw [HN.out, ← HE.out, downL_end _ _ HB.out h0]; exact HR.out⟩
    · have h0' : ¬ (n : Int) ≤ 2 * (i : Int) + 1 := by omega
      have hcn : 2 * (i : Int) + 1 < (n : Int) := by omega
      have hin : (i : Int) < (n : Int) := by omega
      obtain ⟨c, hk⟩ : ∃ c, kid B i = c := ⟨_, rfl⟩
      have HK := Aside0.mk hk
      have HC := Aside0.mk (show i < c ∧ c < n by rw [← hk]; unfold kid; split <;> (have := HB.out; omega))
      clear hk
      go_upto_region 3 with (fail)
      go_cut [39] (fun v39 wc => v39 = .bool (decide (c = 2 * i + 2)) ∧ Aside0 (Only (· = r) w wc) ∧ Aside0 (RowAt wc r cap B))
      case first =>
        obtain ⟨p0, p1, q0, q1⟩ := HR.out.rd (2 * i + 1) (by rw [HB.out]; omega)
        have e0 : (2 * (i : Int) + 1).toNat = 2 * i + 1 := by omega
        have e1 : (2 * (i : Int) + 2).toNat = 2 * i + 2 := by omega
        by_cases h2 : 2 * i + 2 < n
        · have h2' : 2 * (i : Int) + 2 < (n : Int) := by omega
          obtain ⟨d, hd⟩ : ∃ d, d = 2 * i + 2 := ⟨_, rfl⟩
          have hwr : IntKind.i64.wrap (2 * (i : Int) + 1 + 1) = (d : Int) := by rw [IntWalk.i64_in _ (by omega)]; omega
          have hdn : (d : Int) < (n : Int) := by omega
          obtain ⟨s0, s1, t0, t1⟩ := HR.out.rd d (by rw [HB.out]; omega)
          have HD := Aside0.mk hd
          have hnn : (0 : Int) ≤ 2 * (i : Int) + 1 := by omega
          clear hd h2' e1
          obtain ⟨b, hb⟩ : ∃ b, ltH (rdH B (2 * i + 1)) (rdH B d) = b := ⟨_, rfl⟩
          have Hb := Aside0.mk hb
          clear hb
          cases b with
          | false =>
            go_wp2_with fail
            go_still_tail 24, (by kernel_rfl)
            change wpList _ _ _ _ _ wr.drew
            have HO2 := Aside0.mk (HO.out.below (below_drew (Below.refl wr.heap.size wr)))
            have HR2 := Aside0.mk (HR.out.below (w1 := wr.drew) rfl)
            generalize wr.drew = w2 at HO2 HR2
            clear c1 p0 p1 q0 q1 s0 s1 t0 t1
            go_wp2_with ((go_at_call 65; (with_reducible refine (less_below (rdH B (2 * i + 1)) (rdH B d) _ Hb.out _).mono ?_); rintro e w3 ⟨rfl, hb3⟩; have HO3 := Aside0.mk (HO2.out.below hb3); have HR3 := Aside0.mk (HR2.out.below (hb3.block r HR2.out.lt)); clear hb3 HO2 HR2))
            go_meet
            case rel => exact ⟨by rw [decide_eq_false]; rw [← HK.out, kid_one (by rw [← HD.out]; exact Hb.out)]; omega, HO3, HR3⟩
          | true =>
            go_wp2_with fail
            go_still_tail 24, (by kernel_rfl)
            change wpList _ _ _ _ _ wr.drew
            have HO2 := Aside0.mk (HO.out.below (below_drew (Below.refl wr.heap.size wr)))
            have HR2 := Aside0.mk (HR.out.below (w1 := wr.drew) rfl)
            generalize wr.drew = w2 at HO2 HR2
            clear c1 p0 p1 q0 q1 s0 s1 t0 t1
            go_wp2_with ((go_at_call 65; (with_reducible refine (less_below (rdH B (2 * i + 1)) (rdH B d) _ Hb.out _).mono ?_); rintro e w3 ⟨rfl, hb3⟩; have HO3 := Aside0.mk (HO2.out.below hb3); have HR3 := Aside0.mk (HR2.out.below (hb3.block r HR2.out.lt)); clear hb3 HO2 HR2))
            go_meet
            case rel => exact ⟨by rw [decide_eq_true]; rw [← HK.out, kid_two HB.out h2 (by rw [← HD.out]; exact Hb.out)], HO3, HR3⟩
        · have h2' : decide (2 * (i : Int) + 1 + 1 < (n : Int)) = false := decide_eq_false (by omega)
          go_wp2_with fail
          go_quiet (fail)
          go_wp2
          go_meet
          case rel => exact ⟨by rw [decide_eq_false]; rw [← HK.out, kid_last HB.out h2]; omega, ⟨HO.out.below (pw_below_drewN (Below.refl _ _) _)⟩, ⟨HR.out.below rfl⟩⟩
      case rest =>
        clear HO HR c1
        obtain ⟨rfl, HO, HR⟩ := hcut
        go_upto_if 39 with (fail)
        go_cut [3] (fun v3 wd => v3 = .int .i64 c ∧ wd = wc)
        case first =>
          have hk2 : c = 2 * i + 1 ∨ c = 2 * i + 2 := by rw [← HK.out]; unfold kid; split <;> simp
          rcases hk2 with hk | hk
          · have hd : decide (c = 2 * i + 2) = false := decide_eq_false (by omega)
            have ec : (2 * (i : Int) + 1) = (c : Int) := by omega
            have HKK := Aside0.mk hk
            clear hk
            go_wp2
            go_meet
            case rel => exact ⟨congrArg (Value.int .i64) (by have := HKK.out; omega), rfl⟩
          · have hd : decide (c = 2 * i + 2) = true := decide_eq_true hk
            have ec : (2 * (i : Int) + 2) = (c : Int) := by omega
            have HKK := Aside0.mk hk
            clear hk
            go_wp2
            go_meet
            case rel => exact ⟨congrArg (Value.int .i64) (by have := HKK.out; omega), rfl⟩
        case rest =>
        obtain ⟨rfl, rfl⟩ := hcut
        have hgb := (HO.out.block g (blk_lt Hg.out) hne).trans Hg.out
        have c1 : wc.cell? ⟨g, 1, none⟩ = some (.slice (some ⟨r, 0, none⟩) n cap) := by rw [blk_cell hgb, HN.out]; rfl
        clear hgb
        have hic := HC.out.1
        have hcn2 := HC.out.2
        have hcn3 : (c : Int) < (n : Int) := by omega
        clear hcn h0'
        obtain ⟨p0, p1, q0, q1⟩ := HR.out.rd i (by rw [HB.out]; omega)
        obtain ⟨s0, s1, t0, t1⟩ := HR.out.rd c (by rw [HB.out]; omega)
        obtain ⟨b, hb⟩ : ∃ b, ltH (rdH B i) (rdH B c) = b := ⟨_, rfl⟩
        have Hb := Aside0.mk hb
        clear hb
        cases b with
        | false =>
          go_wp2_with fail
          go_still_tail 14, (by kernel_rfl)
          change wpList _ _ _ _ _ wc.drew
          have HO2 := Aside0.mk (HO.out.below (below_drew (Below.refl wc.heap.size wc)))
          have HR2 := Aside0.mk (HR.out.below (w1 := wc.drew) rfl)
          generalize wc.drew = w2 at HO2 HR2
          clear HO HR c1 p0 p1 q0 q1 s0 s1 t0 t1
          go_wp2_with ((go_at_call 65; (with_reducible refine (less_below (rdH B i) (rdH B c) _ Hb.out _).mono ?_); rintro e w3 ⟨rfl, hb3⟩; have HO3 := Aside0.mk (HO2.out.below hb3); have HR3 := Aside0.mk (HR2.out.below (hb3.block r HR2.out.lt)); clear hb3 HO2 HR2))
          refine bodyPost_ret (results_none rfl _ _ _) rfl ?_
          exact ⟨rfl, HO3.out, by rw [HN.out, ← HE.out, downL_no _ _ HB.out h0 HK.out Hb.out]; exact HR3.out⟩
        | true =>
          go_wp2_with fail
          go_still_tail 14, (by kernel_rfl)
          change wpList _ _ _ _ _ wc.drew
          have HO2 := Aside0.mk (HO.out.below (below_drew (Below.refl wc.heap.size wc)))
          have HR2 := Aside0.mk (HR.out.below (w1 := wc.drew) rfl)
          generalize wc.drew = w2 at HO2 HR2
          clear HO HR c1 p0 p1 q0 q1 s0 s1 t0 t1
          go_wp2_with ((go_at_call 65; (with_reducible refine (less_below (rdH B i) (rdH B c) _ Hb.out _).mono ?_); rintro e w3 ⟨rfl, hb3⟩; have HO3 := Aside0.mk (HO2.out.below hb3); have HR3 := Aside0.mk (HR2.out.below (hb3.block r HR2.out.lt)); clear hb3 HO2 HR2))
          have hgb := (HO3.out.block g (blk_lt Hg.out) hne).trans Hg.out
          have c1 : w3.cell? ⟨g, 1, none⟩ = some (.slice (some ⟨r, 0, none⟩) n cap) := by rw [blk_cell hgb, HN.out]; rfl
          obtain ⟨p0, p1, q0, q1⟩ := HR3.out.rd i (by rw [HB.out]; omega)
          obtain ⟨s0, s1, t0, t1⟩ := HR3.out.rd c (by rw [HB.out]; omega)
          clear hgb
          go_region
          go_wp2
          go_roundg gk
          case measure => omega
          case rel =>
            refine ⟨c, swapL B i c, rfl, ⟨by rw [swapL_len]; exact HB.out⟩, by omega, ⟨by have := HG.out; omega⟩, ?_, ?_, ⟨?_⟩⟩
            · exact ⟨((((HO3.out.set ⟨r, i * 2, none⟩ _ rfl).set ⟨r, i * 2 + 1, none⟩ _ rfl).set ⟨r, c * 2, none⟩ _ rfl).set ⟨r, c * 2 + 1, none⟩ _ rfl).below (below_drew (Below.refl _ _))⟩
            · exact ⟨(swap_row HR3.out (by rw [HB.out]; omega) (by rw [HB.out]; omega)).below rfl⟩
            · rw [← HE.out, downL_yes _ _ HB.out h0 HK.out Hb.out]
end Go.Proofs.Ytchiobhklbefjaa.Tk
