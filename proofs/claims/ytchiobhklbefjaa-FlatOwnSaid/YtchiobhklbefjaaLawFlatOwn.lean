/- FlatOwn: items, vectors and filters that are handed in stay as they were. No condition. -/
import Derived.Test.YtchiobhklbefjaaFlJ
import Derived.SizedLaws
namespace Go.Proofs.Ytchiobhklbefjaa.Fl
open Go.RowKit Go.Proofs.YtchiobhklbefjaaW.PrintWords Go.Proofs.YtchiobhklbefjaaW.PrintLast Go.Proofs.YtchiobhklbefjaaW.PrintMore Go.Proofs.Ytchiobhklbefjaa.Tk Go.Proofs.Ytchiobhklbefjaa.Q
set_option linter.unusedVariables false
set_option linter.unusedSimpArgs false
def fown.T9 : Bool × List (List Nat × List Nat) := (true, [([], []), ([], []), ([], []), ([1, 2], [1, 2]), ([3], [3]), ([4], [4]), ([], []), ([], []), ([], []), ([7, 8], [7, 8]), ([9], [9]), ([10], [10]), ([6, 11], [6, 11]), ([], []), ([], []), ([], []), ([14, 15], [14, 15]), ([16], [16]), ([17], [17]), ([13, 18, 12], [13, 18]), ([5, 12, 19], [5, 12, 19]), ([20], [20]), ([0, 21, 19], [0, 21]), ([22, 22, 0, 1, 2, 3, 4, 5, 6, 7, 8, 9, 10, 11, 12, 13, 14, 15, 16, 17, 18, 19, 20, 21, 22], [0, 22])])
def fown.B9 : List Nat := [0, 0, 0, 6, 14, 30, 0, 0, 0, 384, 896, 1920, 4032, 0, 0, 0, 49152, 114688, 245760, 524224, 1048574, 2097150, 4194303, 8388607]
theorem fown.tab9 : rtab .any (opsOf Try.f14 9) = fown.T9 := by kernel_rfl
theorem fown.bits9 : waitsOk fown.T9.2 fown.B9 = true := by kernel_rfl
set_option maxHeartbeats 16000000 in
set_option maxRecDepth 100000 in
theorem fown_calls (p : Where) (a : Ask) (l : List It) (k : Int) (w : World) (hL : Lies w p a l) (hm : 0 ≤ a.m ∧ a.m ≤ 255) :
    Calls Try.prog 14 #[.int .u8 a.m, p.vl l, p.vq a, p.vf a, .int .i64 k] w fun e w' => e = .returned (.bool true) ∧ Below w.heap.size w w' := by
  have hu := Try.underlying29
  have hu2 := Try.underlying49
  have hu3 := Try.underlying59
  obtain ⟨r, hfine, hg⟩ := rgreat_calls p a l w hL hm
  obtain ⟨A0, c0, B0, e0, F0, d0, F1, d1, F2, d2⟩ := p
  change Calls Try.prog _ #[.int .u8 a.m, .slice A0 l.length c0, .slice B0 a.q.length e0, .agg #[.slice F0 a.f0.length d0, .slice F1 a.f1.length d1, .slice F2 a.f2.length d2], .int .i64 k] w _
  have HGR := Aside0.mk hg
  have HL := Aside0.mk hL
  have HFI := Aside0.mk hfine
  have HB0 := Aside0.mk (below_alloc (Below.refl w.heap.size w) (.cells #[.slice F0 a.f0.length d0, .slice F1 a.f1.length d1, .slice F2 a.f2.length d2] 49))
  have HF0 := Aside0.mk (fbox_new w ⟨A0, c0, B0, e0, F0, d0, F1, d1, F2, d2⟩ a)
  clear hg hL hfine hm
  cases r with
  | true => as_aux_lemma =>
    go_enter Try.func14, Try.ntmps14
    go_wp2_with (first | (go_at_call 35; (with_reducible refine (alive_calls _).mono ?_); rintro e w1 ⟨rfl, hb⟩; have HB1 := Aside0.mk (bel_trans HB0.out hb); have HF1 := Aside0.mk (HF0.out.below hb); have f0 := HF1.out.f0; have f1 := HF1.out.f1; have f2 := HF1.out.f2; clear hb) | (go_at_call 36; (with_reducible refine (HGR.out _ HB1.out).mono ?_); rintro e w2 ⟨rfl, hb⟩; have HB2 := Aside0.mk (bel_trans HB1.out hb); clear hb f0 f1 f2))
    go_ret
    exact ⟨rfl, HB2.out⟩
  | false => as_aux_lemma =>
    have hF := HFI.out rfl
    have HFN := Aside0.mk hF
    have HLN := Aside0.mk hF.n
    clear hF
    go_enter Try.func14, Try.ntmps14
    go_wp2_with (first | (go_at_call 35; (with_reducible refine (alive_calls _).mono ?_); rintro e w1 ⟨rfl, hb⟩; have HB1 := Aside0.mk (bel_trans HB0.out hb); have HF1 := Aside0.mk (HF0.out.below hb); have f0 := HF1.out.f0; have f1 := HF1.out.f1; have f2 := HF1.out.f2; clear hb) | (go_at_call 36; (with_reducible refine (HGR.out _ HB1.out).mono ?_); rintro e w2 ⟨rfl, hb⟩; have HB2 := Aside0.mk (bel_trans HB1.out hb); have HF2 := Aside0.mk (HF1.out.below hb); clear hb f0 f1 f2))
    go_loopg [11, 12] l.length (fun gk v11 v12 wr => ∃ (i : Nat), v12 = .int .i64 i ∧ Aside0 (i ≤ l.length ∧ l.length - i ≤ gk) ∧ Aside0 (OwnI wr (w.heap.size + 1) v11 (l.take i)) ∧ Aside0 (Below w.heap.size w wr) ∧ Aside0 (FBox wr w.heap.size ⟨A0, c0, B0, e0, F0, d0, F1, d1, F2, d2⟩ a))
    case atStart => exact ⟨0, rfl, ⟨by omega, by omega⟩, ⟨OwnI.nil _ _⟩, HB2, HF2⟩
    case round =>
      obtain ⟨i, rfl, HI, HW, HBr, HF⟩ := hrel
      by_cases hc : i < l.length
      · have q1 : decide ((i : Int) < (l.length : Int)) = true := decide_eq_true (by omega)
        have q1' : decide (i < l.length) = true := decide_eq_true hc
        have q2 : (i : Int) < (l.length : Int) := by omega
        have hin : wrap64 ((i : Int) + 1) = ((i + 1 : Nat) : Int) := succ_wrap hc (by have := HLN.out; omega)
        obtain ⟨ad, A1, c1, A2, c2, x, hA, hx, x0, x1, x2, b1, g1, b2, g2⟩ := HL.out.at hc
        have hA' : A0 = some ad := hA
        subst hA'
        have HX := Aside0.mk hx
        have HX0 := Aside0.mk x0
        have HX1 := Aside0.mk x1
        have HX2 := Aside0.mk x2
        have HC1 := Aside0.mk g1
        have HC2 := Aside0.mk g2
        have HSZ := Aside0.mk (HFN.out.x x (List.mem_of_getElem? hx))
        have HC_ := Aside0.mk hc
        clear hx hc hA x0 x1 x2 b1 g1 b2 g2
        have HBo := Aside0.mk (below_drew HBr.out)
        have HB := Aside0.mk (Below.refl wr.drew.heap.size wr.drew)
        have NHW := Aside0.mk (HW.out.below (below_drew (Below.refl _ _)))
        have NHF := Aside0.mk (HF.out.below (below_drew (Below.refl _ _)))
        clear HW HF HBr
        have HW := NHW
        have HF := NHF
        clear NHW NHF
        go_wp2
        refine start_ (n := 24) (S := fun w' => w'.cell? (ad.add (i * 3)) = some (.int .u32 x.f0) ∧ w'.cell? ⟨(ad.add (i * 3)).block, (ad.add (i * 3)).off + 1, none⟩ = some (.slice A1 x.f1.length c1) ∧ w'.cell? ⟨(ad.add (i * 3)).block, (ad.add (i * 3)).off + 2, none⟩ = some (.slice A2 x.f2.length c2)) (ds := []) #[false, false, false, false, false, false, false, false, false, false, false, false, false, false, false, false, false, false, false, false, false, false, false, false] (by kernel_rfl) rfl rfl ⟨(pw_cell_below (bel_trans HBo.out HB.out) HX0.out), (pw_cell_below (bel_trans HBo.out HB.out) HX1.out), (pw_cell_below (bel_trans HBo.out HB.out) HX2.out)⟩ (fun hHeld => ?_)
        refine with_tabW fown.tab9 fown.bits9 (fun HT_ HW_ => ?_)
        generalize wr.drew = wd at HB HBo HW HF hHeld ⊢
        refine pure_ (i := 0) (N := some 26) (v := ?_) (a' := ?_) #[true, false, false, false, false, false, false, false, false, false, false, false, false, false, false, false, false, false, false, false, false, false, false, false] rfl rfl (any_of HT_.out (by kernel_rfl)) (fun _ _ _ h => h) (Or.inl ⟨by rfl, ?_⟩) ?_ ?_
        rotate_left
        · intro w'
          go_simp
          with_reducible rfl
        rotate_left
        · simp only [Act.put, List.setIfInBounds_toArray, List.set_cons_zero, List.set_cons_succ, i64_w, i32_w]
          rfl
        refine pure_ (i := 1) (N := some 27) (v := ?_) (a' := ?_) #[true, true, false, false, false, false, false, false, false, false, false, false, false, false, false, false, false, false, false, false, false, false, false, false] rfl rfl (any_of HT_.out (by kernel_rfl)) (fun _ _ _ h => h) (Or.inl ⟨by rfl, ?_⟩) ?_ ?_
        rotate_left
        · intro w'
          go_simp
          with_reducible rfl
        rotate_left
        · simp only [Act.put, List.setIfInBounds_toArray, List.set_cons_zero, List.set_cons_succ, i64_w, i32_w]
          rfl
        refine pure_ (i := 2) (N := some 28) (v := ?_) (a' := ?_) #[true, true, true, false, false, false, false, false, false, false, false, false, false, false, false, false, false, false, false, false, false, false, false, false] rfl rfl (any_of HT_.out (by kernel_rfl)) (fun _ _ _ h => h) (Or.inl ⟨by rfl, ?_⟩) ?_ ?_
        rotate_left
        · intro w'
          go_simp
          with_reducible rfl
        rotate_left
        · simp only [Act.put, List.setIfInBounds_toArray, List.set_cons_zero, List.set_cons_succ, i64_w, i32_w]
          rfl
        refine pure_ (i := 3) (N := some 29) (v := ?_) (a' := ?_) #[true, true, true, true, false, false, false, false, false, false, false, false, false, false, false, false, false, false, false, false, false, false, false, false] rfl rfl (any_of HT_.out (by kernel_rfl)) (fun _ _ _ h => h) (Or.inl ⟨by rfl, ?_⟩) ?_ ?_
        rotate_left
        · intro w'
          go_simp
          with_reducible rfl
        rotate_left
        · simp only [Act.put, List.setIfInBounds_toArray, List.set_cons_zero, List.set_cons_succ, i64_w, i32_w]
          rfl
        refine pure_ (i := 4) (N := some 30) (v := ?_) (a' := ?_) #[true, true, true, true, true, false, false, false, false, false, false, false, false, false, false, false, false, false, false, false, false, false, false, false] rfl rfl (any_of HT_.out (by kernel_rfl)) (fun _ _ _ h => h) (Or.inl ⟨by rfl, ?_⟩) ?_ ?_
        rotate_left
        · intro w'
          go_simp
          with_reducible rfl
        rotate_left
        · simp only [Act.put, List.setIfInBounds_toArray, List.set_cons_zero, List.set_cons_succ, i64_w, i32_w]
          rfl
        refine pure_ (i := 7) (N := some 33) (v := ?_) (a' := ?_) #[true, true, true, true, true, false, false, true, false, false, false, false, false, false, false, false, false, false, false, false, false, false, false, false] rfl rfl (any_of HT_.out (by kernel_rfl)) (fun _ _ _ h => h) (Or.inl ⟨by rfl, ?_⟩) ?_ ?_
        rotate_left
        · intro w'
          go_simp
          with_reducible rfl
        rotate_left
        · simp only [Act.put, List.setIfInBounds_toArray, List.set_cons_zero, List.set_cons_succ, i64_w, i32_w]
          rfl
        refine pure_ (i := 8) (N := some 34) (v := ?_) (a' := ?_) #[true, true, true, true, true, false, false, true, true, false, false, false, false, false, false, false, false, false, false, false, false, false, false, false] rfl rfl (any_of HT_.out (by kernel_rfl)) (fun _ _ _ h => h) (Or.inl ⟨by rfl, ?_⟩) ?_ ?_
        rotate_left
        · intro w'
          go_simp
          with_reducible rfl
        rotate_left
        · simp only [Act.put, List.setIfInBounds_toArray, List.set_cons_zero, List.set_cons_succ, i64_w, i32_w]
          rfl
        refine pure_ (i := 9) (N := some 35) (v := ?_) (a' := ?_) #[true, true, true, true, true, false, false, true, true, true, false, false, false, false, false, false, false, false, false, false, false, false, false, false] rfl rfl (any_of HT_.out (by kernel_rfl)) (fun _ _ _ h => h) (Or.inl ⟨by rfl, ?_⟩) ?_ ?_
        rotate_left
        · intro w'
          go_simp
          with_reducible rfl
        rotate_left
        · simp only [Act.put, List.setIfInBounds_toArray, List.set_cons_zero, List.set_cons_succ, i64_w, i32_w]
          rfl
        refine pure_ (i := 10) (N := some 36) (v := ?_) (a' := ?_) #[true, true, true, true, true, false, false, true, true, true, true, false, false, false, false, false, false, false, false, false, false, false, false, false] rfl rfl (any_of HT_.out (by kernel_rfl)) (fun _ _ _ h => h) (Or.inl ⟨by rfl, ?_⟩) ?_ ?_
        rotate_left
        · intro w'
          go_simp
          with_reducible rfl
        rotate_left
        · simp only [Act.put, List.setIfInBounds_toArray, List.set_cons_zero, List.set_cons_succ, i64_w, i32_w]
          rfl
        refine pure_ (i := 14) (N := some 40) (v := ?_) (a' := ?_) #[true, true, true, true, true, false, false, true, true, true, true, false, false, false, true, false, false, false, false, false, false, false, false, false] rfl rfl (any_of HT_.out (by kernel_rfl)) (fun _ _ _ h => h) (Or.inl ⟨by rfl, ?_⟩) ?_ ?_
        rotate_left
        · intro w'
          go_simp
          with_reducible rfl
        rotate_left
        · simp only [Act.put, List.setIfInBounds_toArray, List.set_cons_zero, List.set_cons_succ, i64_w, i32_w]
          rfl
        refine pure_ (i := 15) (N := some 41) (v := ?_) (a' := ?_) #[true, true, true, true, true, false, false, true, true, true, true, false, false, false, true, true, false, false, false, false, false, false, false, false] rfl rfl (any_of HT_.out (by kernel_rfl)) (fun _ _ _ h => h) (Or.inl ⟨by rfl, ?_⟩) ?_ ?_
        rotate_left
        · intro w'
          go_simp
          with_reducible rfl
        rotate_left
        · simp only [Act.put, List.setIfInBounds_toArray, List.set_cons_zero, List.set_cons_succ, i64_w, i32_w]
          rfl
        refine pure_ (i := 16) (N := some 42) (v := ?_) (a' := ?_) #[true, true, true, true, true, false, false, true, true, true, true, false, false, false, true, true, true, false, false, false, false, false, false, false] rfl rfl (any_of HT_.out (by kernel_rfl)) (fun _ _ _ h => h) (Or.inl ⟨by rfl, ?_⟩) ?_ ?_
        rotate_left
        · intro w'
          go_simp
          with_reducible rfl
        rotate_left
        · simp only [Act.put, List.setIfInBounds_toArray, List.set_cons_zero, List.set_cons_succ, i64_w, i32_w]
          rfl
        refine pure_ (i := 17) (N := some 43) (v := ?_) (a' := ?_) #[true, true, true, true, true, false, false, true, true, true, true, false, false, false, true, true, true, true, false, false, false, false, false, false] rfl rfl (any_of HT_.out (by kernel_rfl)) (fun _ _ _ h => h) (Or.inl ⟨by rfl, ?_⟩) ?_ ?_
        rotate_left
        · intro w'
          go_simp
          with_reducible rfl
        rotate_left
        · simp only [Act.put, List.setIfInBounds_toArray, List.set_cons_zero, List.set_cons_succ, i64_w, i32_w]
          rfl
        refine take_ (i := 5) (N := some 31) (v := ?_) (a' := ?_) #[true, true, true, true, true, true, false, true, true, true, true, false, false, false, true, true, true, true, false, false, false, false, false, false] rfl rfl (take_ofW HT_.out HW_.out (by kernel_rfl)) (fun _ _ _ h => h) (Or.inl ⟨by rfl, ?_⟩) hHeld ?_ ?_
        rotate_left
        · rintro w' ⟨s0, s1, s2⟩
          go_simp
          with_reducible rfl
        rotate_left
        · simp only [Act.put, List.setIfInBounds_toArray, List.set_cons_zero, List.set_cons_succ, i64_w, i32_w]
          rfl
        refine take_ (i := 11) (N := some 37) (v := ?_) (a' := ?_) #[true, true, true, true, true, true, false, true, true, true, true, true, false, false, true, true, true, true, false, false, false, false, false, false] rfl rfl (take_ofW HT_.out HW_.out (by kernel_rfl)) (fun _ _ _ h => h) (Or.inl ⟨by rfl, ?_⟩) hHeld ?_ ?_
        rotate_left
        · rintro w' ⟨s0, s1, s2⟩
          go_simp
          with_reducible rfl
        rotate_left
        · simp only [Act.put, List.setIfInBounds_toArray, List.set_cons_zero, List.set_cons_succ, i64_w, i32_w]
          rfl
        refine take_ (i := 18) (N := some 44) (v := ?_) (a' := ?_) #[true, true, true, true, true, true, false, true, true, true, true, true, false, false, true, true, true, true, true, false, false, false, false, false] rfl rfl (take_ofW HT_.out HW_.out (by kernel_rfl)) (fun _ _ _ h => h) (Or.inl ⟨by rfl, ?_⟩) hHeld ?_ ?_
        rotate_left
        · rintro w' ⟨s0, s1, s2⟩
          go_simp
          with_reducible rfl
        rotate_left
        · simp only [Act.put, List.setIfInBounds_toArray, List.set_cons_zero, List.set_cons_succ, i64_w, i32_w]
          rfl
        refine join_ (σ := Value × Value × Value) 5 #[true, true, true, true, true, true, true, true, true, true, true, true, true, true, true, true, true, true, true, false, false, false, false, false] (fun s => [(32, s.1), (38, s.2.1), (39, s.2.2)]) (fun s w' => (Kd.int .i32).R 21 w' wd.heap.size (fun _ => True) s.2.1 x.f1 ∧ Kd.string.R 9 w' wd.heap.size (fun _ => True) s.2.2 [] ∧ Below wd.heap.size wd w') ?_ ?_
        rotate_left
        · intro hCont
          refine two_ (i := 6) (j := 13) (Ni := some 32) (Nj := some 39) #[true, true, true, true, true, true, true, true, true, true, true, true, false, false, true, true, true, true, true, false, false, false, false, false] #[true, true, true, true, true, true, false, true, true, true, true, true, false, true, true, true, true, true, true, false, false, false, false, false] rfl rfl rfl rfl (two_of HT_.out (by kernel_rfl)) (by decide) (by decide) (fun K hK => ?_) (fun K hK => ?_)
          · skip
            refine value_ (w1 := ?_) (v := ?_) (by rfl) rfl ?_ ?_
            rotate_left 2
            · go_simp
              constructor
              · rfl
              · rfl
            have H1 := Aside0.mk (by have h := R_empty (Kd.int .i32) 21 wd wd.heap.size HB.out.size; (try simp only [World.size_alloc] at h); exact h)
            have NHB := Aside0.mk (bel_alloc HB.out (.cells #[] 21))
            clear HB
            have HB := NHB
            clear NHB
            refine hK.out _ _ ⟨(pw_cell_below (bel_trans HBo.out HB.out) HX0.out), (pw_cell_below (bel_trans HBo.out HB.out) HX1.out), (pw_cell_below (bel_trans HBo.out HB.out) HX2.out)⟩ (fun hHeld => ?_)
            clear hK K
            refine norm_ (a' := ?_) ?_ ?_
            rotate_left
            · show Act.put _ (some 32) _ = _
              simp only [Act.put, List.setIfInBounds_toArray, List.set_cons_zero, List.set_cons_succ, i64_w, i32_w]
              rfl
            refine two_ (i := 12) (j := 13) (Ni := some 38) (Nj := some 39) #[true, true, true, true, true, true, true, true, true, true, true, true, true, false, true, true, true, true, true, false, false, false, false, false] #[true, true, true, true, true, true, true, true, true, true, true, true, false, true, true, true, true, true, true, false, false, false, false, false] rfl rfl rfl rfl (two_of HT_.out (by kernel_rfl)) (by decide) (by decide) (fun K hK => ?_) (fun K hK => ?_)
            · skip
              refine Kd.R_append_rows_step (Kd.int .i32) wd.heap.size (by rfl) (.tmp 32) (.tmp 37) 46 21 (.int .i32 0) 4 rfl Try.underlying46 (by kernel_rfl) (by rfl) (by decide) (by decide) _ [] x.f1 A1 x.f1.length c1 (fun _ => True) (fun _ => False) rfl rfl H1.out (Kd.C_below HC1.out (bel_trans HBo.out HB.out)) (fun _ _ h => h) (fun k hk => hk.elim) (fun _ _ => trivial) HB.out HB.out.size (by have := HSZ.out; show (0 + _) * 4 ≤ _; omega) ?_
              intro v2 w2 ha hb hg hat
              rw [List.nil_append] at ha
              have NH1 := Aside0.mk ha
              have NHB := Aside0.mk hb
              clear ha hb hg hat
              clear H1 HB
              have H1 := NH1; have HB := NHB
              clear NH1 NHB
              refine hK.out _ _ ⟨(pw_cell_below (bel_trans HBo.out HB.out) HX0.out), (pw_cell_below (bel_trans HBo.out HB.out) HX1.out), (pw_cell_below (bel_trans HBo.out HB.out) HX2.out)⟩ (fun hHeld => ?_)
              clear hK K
              refine norm_ (a' := ?_) ?_ ?_
              rotate_left
              · show Act.put _ (some 38) _ = _
                simp only [Act.put, List.setIfInBounds_toArray, List.set_cons_zero, List.set_cons_succ, i64_w, i32_w]
                rfl
              refine one_ (i := 13) (N := some 39) #[true, true, true, true, true, true, true, true, true, true, true, true, true, true, true, true, true, true, true, false, false, false, false, false] rfl rfl (one_of HT_.out (by kernel_rfl)) (by decide) (fun K hK => ?_)
              refine value_ (w1 := ?_) (v := ?_) (by rfl) rfl ?_ ?_
              rotate_left 2
              · go_simp
                constructor
                · rfl
                · rfl
              have H2 := Aside0.mk (by have h := R_empty Kd.string 9 w2 wd.heap.size HB.out.size; (try simp only [World.size_alloc] at h); exact h)
              have NHB := Aside0.mk (bel_alloc HB.out (.cells #[] 9))
              have NH1 := Aside0.mk (Kd.R_alloc H1.out (.cells #[] 9))
              clear HB H1
              have HB := NHB; have H1 := NH1
              clear NHB NH1
              refine hK.out _ _ ⟨(pw_cell_below (bel_trans HBo.out HB.out) HX0.out), (pw_cell_below (bel_trans HBo.out HB.out) HX1.out), (pw_cell_below (bel_trans HBo.out HB.out) HX2.out)⟩ (fun hHeld => ?_)
              clear hK K
              refine norm_ (a' := ?_) ?_ ?_
              rotate_left
              · show Act.put _ (some 39) _ = _
                simp only [Act.put, List.setIfInBounds_toArray, List.set_cons_zero, List.set_cons_succ, i64_w, i32_w]
                rfl
              exact norm_ (by simp only [Go.Proofs.YtchiobhklbefjaaW.PrintLast.putAll, Act.put, List.setIfInBounds_toArray, List.set_cons_zero, List.set_cons_succ]) (hCont (.slice (some ⟨(World.heap wd).size, 0, none⟩) 0 0, v2, .slice (some ⟨(World.heap w2).size, 0, none⟩) 0 0) _ ⟨H1.out, H2.out, HB.out⟩)
            · skip
              refine value_ (w1 := ?_) (v := ?_) (by rfl) rfl ?_ ?_
              rotate_left 2
              · go_simp
                constructor
                · rfl
                · rfl
              have H2 := Aside0.mk (by have h := R_empty Kd.string 9 (World.alloc wd (.cells #[] 21)) wd.heap.size HB.out.size; (try simp only [World.size_alloc] at h); exact h)
              have NHB := Aside0.mk (bel_alloc HB.out (.cells #[] 9))
              have NH1 := Aside0.mk (Kd.R_alloc H1.out (.cells #[] 9))
              clear HB H1
              have HB := NHB; have H1 := NH1
              clear NHB NH1
              refine hK.out _ _ ⟨(pw_cell_below (bel_trans HBo.out HB.out) HX0.out), (pw_cell_below (bel_trans HBo.out HB.out) HX1.out), (pw_cell_below (bel_trans HBo.out HB.out) HX2.out)⟩ (fun hHeld => ?_)
              clear hK K
              refine norm_ (a' := ?_) ?_ ?_
              rotate_left
              · show Act.put _ (some 39) _ = _
                simp only [Act.put, List.setIfInBounds_toArray, List.set_cons_zero, List.set_cons_succ, i64_w, i32_w]
                rfl
              refine one_ (i := 12) (N := some 38) #[true, true, true, true, true, true, true, true, true, true, true, true, true, true, true, true, true, true, true, false, false, false, false, false] rfl rfl (one_of HT_.out (by kernel_rfl)) (by decide) (fun K hK => ?_)
              refine Kd.R_append_rows_step (Kd.int .i32) wd.heap.size (by rfl) (.tmp 32) (.tmp 37) 46 21 (.int .i32 0) 4 rfl Try.underlying46 (by kernel_rfl) (by rfl) (by decide) (by decide) _ [] x.f1 A1 x.f1.length c1 (fun _ => True) (fun _ => False) rfl rfl H1.out (Kd.C_below HC1.out (bel_trans HBo.out HB.out)) (fun _ _ h => h) (fun k hk => hk.elim) (fun _ _ => trivial) HB.out HB.out.size (by have := HSZ.out; show (0 + _) * 4 ≤ _; omega) ?_
              intro v2 w2 ha hb hg hat
              rw [List.nil_append] at ha
              have NH1 := Aside0.mk ha
              have NHB := Aside0.mk hb
              have NH2 := Aside0.mk (Kd.R_over H2.out H1.out (by decide) hg)
              clear ha hb hg hat
              clear H1 HB H2
              have H1 := NH1; have HB := NHB; have H2 := NH2
              clear NH1 NHB NH2
              refine hK.out _ _ ⟨(pw_cell_below (bel_trans HBo.out HB.out) HX0.out), (pw_cell_below (bel_trans HBo.out HB.out) HX1.out), (pw_cell_below (bel_trans HBo.out HB.out) HX2.out)⟩ (fun hHeld => ?_)
              clear hK K
              refine norm_ (a' := ?_) ?_ ?_
              rotate_left
              · show Act.put _ (some 38) _ = _
                simp only [Act.put, List.setIfInBounds_toArray, List.set_cons_zero, List.set_cons_succ, i64_w, i32_w]
                rfl
              exact norm_ (by simp only [Go.Proofs.YtchiobhklbefjaaW.PrintLast.putAll, Act.put, List.setIfInBounds_toArray, List.set_cons_zero, List.set_cons_succ]) (hCont (.slice (some ⟨(World.heap wd).size, 0, none⟩) 0 0, v2, .slice (some ⟨((World.heap wd).size + 1), 0, none⟩) 0 0) _ ⟨H1.out, H2.out, HB.out⟩)
          · skip
            refine value_ (w1 := ?_) (v := ?_) (by rfl) rfl ?_ ?_
            rotate_left 2
            · go_simp
              constructor
              · rfl
              · rfl
            have H2 := Aside0.mk (by have h := R_empty Kd.string 9 wd wd.heap.size HB.out.size; (try simp only [World.size_alloc] at h); exact h)
            have NHB := Aside0.mk (bel_alloc HB.out (.cells #[] 9))
            clear HB
            have HB := NHB
            clear NHB
            refine hK.out _ _ ⟨(pw_cell_below (bel_trans HBo.out HB.out) HX0.out), (pw_cell_below (bel_trans HBo.out HB.out) HX1.out), (pw_cell_below (bel_trans HBo.out HB.out) HX2.out)⟩ (fun hHeld => ?_)
            clear hK K
            refine norm_ (a' := ?_) ?_ ?_
            rotate_left
            · show Act.put _ (some 39) _ = _
              simp only [Act.put, List.setIfInBounds_toArray, List.set_cons_zero, List.set_cons_succ, i64_w, i32_w]
              rfl
            refine one_ (i := 6) (N := some 32) #[true, true, true, true, true, true, true, true, true, true, true, true, false, true, true, true, true, true, true, false, false, false, false, false] rfl rfl (one_of HT_.out (by kernel_rfl)) (by decide) (fun K hK => ?_)
            refine value_ (w1 := ?_) (v := ?_) (by rfl) rfl ?_ ?_
            rotate_left 2
            · go_simp
              constructor
              · rfl
              · rfl
            have H1 := Aside0.mk (by have h := R_empty (Kd.int .i32) 21 (World.alloc wd (.cells #[] 9)) wd.heap.size HB.out.size; (try simp only [World.size_alloc] at h); exact h)
            have NHB := Aside0.mk (bel_alloc HB.out (.cells #[] 21))
            have NH2 := Aside0.mk (Kd.R_alloc H2.out (.cells #[] 21))
            clear HB H2
            have HB := NHB; have H2 := NH2
            clear NHB NH2
            refine hK.out _ _ ⟨(pw_cell_below (bel_trans HBo.out HB.out) HX0.out), (pw_cell_below (bel_trans HBo.out HB.out) HX1.out), (pw_cell_below (bel_trans HBo.out HB.out) HX2.out)⟩ (fun hHeld => ?_)
            clear hK K
            refine norm_ (a' := ?_) ?_ ?_
            rotate_left
            · show Act.put _ (some 32) _ = _
              simp only [Act.put, List.setIfInBounds_toArray, List.set_cons_zero, List.set_cons_succ, i64_w, i32_w]
              rfl
            refine one_ (i := 12) (N := some 38) #[true, true, true, true, true, true, true, true, true, true, true, true, true, true, true, true, true, true, true, false, false, false, false, false] rfl rfl (one_of HT_.out (by kernel_rfl)) (by decide) (fun K hK => ?_)
            refine Kd.R_append_rows_step (Kd.int .i32) wd.heap.size (by rfl) (.tmp 32) (.tmp 37) 46 21 (.int .i32 0) 4 rfl Try.underlying46 (by kernel_rfl) (by rfl) (by decide) (by decide) _ [] x.f1 A1 x.f1.length c1 (fun _ => True) (fun _ => False) rfl rfl H1.out (Kd.C_below HC1.out (bel_trans HBo.out HB.out)) (fun _ _ h => h) (fun k hk => hk.elim) (fun _ _ => trivial) HB.out HB.out.size (by have := HSZ.out; show (0 + _) * 4 ≤ _; omega) ?_
            intro v2 w2 ha hb hg hat
            rw [List.nil_append] at ha
            have NH1 := Aside0.mk ha
            have NHB := Aside0.mk hb
            have NH2 := Aside0.mk (Kd.R_over H2.out H1.out (by decide) hg)
            clear ha hb hg hat
            clear H1 HB H2
            have H1 := NH1; have HB := NHB; have H2 := NH2
            clear NH1 NHB NH2
            refine hK.out _ _ ⟨(pw_cell_below (bel_trans HBo.out HB.out) HX0.out), (pw_cell_below (bel_trans HBo.out HB.out) HX1.out), (pw_cell_below (bel_trans HBo.out HB.out) HX2.out)⟩ (fun hHeld => ?_)
            clear hK K
            refine norm_ (a' := ?_) ?_ ?_
            rotate_left
            · show Act.put _ (some 38) _ = _
              simp only [Act.put, List.setIfInBounds_toArray, List.set_cons_zero, List.set_cons_succ, i64_w, i32_w]
              rfl
            exact norm_ (by simp only [Go.Proofs.YtchiobhklbefjaaW.PrintLast.putAll, Act.put, List.setIfInBounds_toArray, List.set_cons_zero, List.set_cons_succ]) (hCont (.slice (some ⟨((World.heap wd).size + 1), 0, none⟩) 0 0, v2, .slice (some ⟨(World.heap wd).size, 0, none⟩) 0 0) _ ⟨H1.out, H2.out, HB.out⟩)
        rintro ⟨va, vb, vc⟩ w5 ⟨h1, h2, hb⟩
        clear HB
        have H1 := Aside0.mk (show (Kd.int .i32).R 21 w5 wd.heap.size (fun _ => True) vb x.f1 from h1)
        have H2 := Aside0.mk (show Kd.string.R 9 w5 wd.heap.size (fun _ => True) vc [] from h2)
        have HB := Aside0.mk hb
        clear h1 h2 hb
        have hHeld := And.intro (pw_cell_below (bel_trans HBo.out HB.out) HX0.out) (And.intro (pw_cell_below (bel_trans HBo.out HB.out) HX1.out) (pw_cell_below (bel_trans HBo.out HB.out) HX2.out))
        refine norm_ (a' := ?_) ?_ ?_
        rotate_left
        · simp only [Go.Proofs.YtchiobhklbefjaaW.PrintLast.putAll, Act.put, List.setIfInBounds_toArray, List.set_cons_zero, List.set_cons_succ]
          rfl
        refine one_ (i := 19) (N := some 45) #[true, true, true, true, true, true, true, true, true, true, true, true, true, true, true, true, true, true, true, true, false, false, false, false] rfl rfl (one_of HT_.out (by kernel_rfl)) (by decide) (fun K hK => ?_)
        refine Kd.R_append_rows_step Kd.string wd.heap.size (by rfl) (.tmp 39) (.tmp 44) 47 9 (.string ByteArray.empty) 16 rfl Try.underlying47 (by kernel_rfl) (by rfl) (by decide) (by decide) _ [] x.f2 A2 x.f2.length c2 (fun _ => True) (fun _ => False) rfl rfl H2.out (Kd.C_below HC2.out (bel_trans HBo.out HB.out)) (fun _ _ h => h) (fun k hk => hk.elim) (fun _ _ => trivial) HB.out HB.out.size (by have := HSZ.out; show (0 + _) * 16 ≤ _; omega) ?_
        intro v6 w6 ha hb hg hat
        rw [List.nil_append] at ha
        have NH2 := Aside0.mk ha
        have NHB := Aside0.mk hb
        have NH1 := Aside0.mk (Kd.R_over H1.out H2.out (by decide) hg)
        clear ha hb hg hat
        clear H1 H2 HB
        have H1 := NH1; have H2 := NH2; have HB := NHB
        clear NH1 NH2 NHB
        obtain ⟨A3, c3, rfl⟩ := Kd.R_slice H1.out
        obtain ⟨A4, c4, rfl⟩ := Kd.R_slice H2.out
        refine hK.out _ _ ⟨(pw_cell_below (bel_trans HBo.out HB.out) HX0.out), (pw_cell_below (bel_trans HBo.out HB.out) HX1.out), (pw_cell_below (bel_trans HBo.out HB.out) HX2.out)⟩ (fun hHeld => ?_)
        clear hK K
        refine norm_ (a' := ?_) ?_ ?_
        rotate_left
        · show Act.put _ (some 45) _ = _
          simp only [Act.put, List.setIfInBounds_toArray, List.set_cons_zero, List.set_cons_succ, i64_w, i32_w]
          rfl
        refine pure_ (i := 20) (N := some 46) (v := ?_) (a' := ?_) #[true, true, true, true, true, true, true, true, true, true, true, true, true, true, true, true, true, true, true, true, true, false, false, false] rfl rfl (any_of HT_.out (by kernel_rfl)) (fun _ _ _ h => h) (Or.inl ⟨by rfl, ?_⟩) ?_ ?_
        rotate_left
        · intro w'
          go_simp
          with_reducible rfl
        rotate_left
        · simp only [Act.put, List.setIfInBounds_toArray, List.set_cons_zero, List.set_cons_succ, i64_w, i32_w]
          rfl
        refine one_ (i := 21) (N := some 47) #[true, true, true, true, true, true, true, true, true, true, true, true, true, true, true, true, true, true, true, true, true, true, false, false] rfl rfl (one_of HT_.out (by kernel_rfl)) (by decide) (fun K hK => ?_)
        refine value_ (w1 := ?_) (v := ?_) (by rfl) rfl ?_ ?_
        rotate_left 2
        · go_simp
          constructor
          · rfl
          · rfl
        have HG := Aside0.mk (heap_alloc_new w6 (.cells #[.int .u32 x.f0, .slice A3 x.f1.length c3, .slice A4 x.f2.length c4] 59))
        have NHB := Aside0.mk (bel_alloc HB.out (.cells #[.int .u32 x.f0, .slice A3 x.f1.length c3, .slice A4 x.f2.length c4] 59))
        have NH1 := Aside0.mk (Kd.R_alloc H1.out (.cells #[.int .u32 x.f0, .slice A3 x.f1.length c3, .slice A4 x.f2.length c4] 59))
        have NH2 := Aside0.mk (Kd.R_alloc H2.out (.cells #[.int .u32 x.f0, .slice A3 x.f1.length c3, .slice A4 x.f2.length c4] 59))
        clear HB H1 H2
        have HB := NHB; have H1 := NH1; have H2 := NH2
        clear NHB NH1 NH2
        refine hK.out _ _ ⟨(pw_cell_below (bel_trans HBo.out HB.out) HX0.out), (pw_cell_below (bel_trans HBo.out HB.out) HX1.out), (pw_cell_below (bel_trans HBo.out HB.out) HX2.out)⟩ (fun hHeld => ?_)
        clear hK K
        refine norm_ (a' := ?_) ?_ ?_
        rotate_left
        · show Act.put _ (some 47) _ = _
          simp only [Act.put, List.setIfInBounds_toArray, List.set_cons_zero, List.set_cons_succ, i64_w, i32_w]
          rfl
        refine one_ (i := 22) (N := some 48) #[true, true, true, true, true, true, true, true, true, true, true, true, true, true, true, true, true, true, true, true, true, true, true, false] rfl rfl (one_of HT_.out (by kernel_rfl)) (by decide) (fun K hK => ?_)
        refine step_append_one rfl (.tmp 26) (.tmp 47) rfl (w.heap.size + 1) _ (l.take i) x w6.heap.size _ _ _ rfl rfl (HW.out.below HB.out) HG.out (fr_new H1.out H2.out HW.out.lt) (by rw [List.length_take]; unfold maxLen; have := HLN.out; omega) (by rw [List.length_take]; have := HLN.out; omega) (by have h1 := HF.out.lt; have h2 := HB.out.size; omega) ?_
        intro v7 w7 hv hO
        have HV7 := Aside0.mk hv
        have HB7 := Aside0.mk (hO.below_of (bel_trans HBo.out HB.out) (fun k hk => by have := HW.out.base k hk; omega))
        have HF7 := Aside0.mk ((HF.out.below HB.out).only hO (fun h => by have := HW.out.base _ h; omega))
        clear hv hO HG H1 H2 HB HW HF HBo
        refine hK.out _ _ ⟨(pw_cell_below HB7.out HX0.out), (pw_cell_below HB7.out HX1.out), (pw_cell_below HB7.out HX2.out)⟩ (fun hHeld => ?_)
        clear hK K
        refine norm_ (a' := ?_) ?_ ?_
        rotate_left
        · show Act.put _ (some 48) _ = _
          simp only [Act.put, List.setIfInBounds_toArray, List.set_cons_zero, List.set_cons_succ, i64_w, i32_w]
          rfl
        refine pure_ (i := 23) (N := some 11) (v := ?_) (a' := ?_) #[true, true, true, true, true, true, true, true, true, true, true, true, true, true, true, true, true, true, true, true, true, true, true, true] rfl rfl (any_of HT_.out (by kernel_rfl)) (fun _ _ _ h => h) (Or.inl ⟨by rfl, ?_⟩) ?_ ?_
        rotate_left
        · intro w'
          go_simp
          with_reducible rfl
        rotate_left
        · simp only [Act.put, List.setIfInBounds_toArray, List.set_cons_zero, List.set_cons_succ, i64_w, i32_w]
          rfl
        refine done_ (done_of HT_.out (by kernel_rfl)) ?_
        go_wp2
        obtain ⟨gk, rfl⟩ : ∃ m, gk = m + 1 := ⟨gk - 1, by have := HI.out; have := HC_.out; omega⟩
        go_roundg gk
        case measure => omega
        case rel => exact ⟨i + 1, congrArg (Value.int .i64) hin, ⟨by have := HI.out; have := HC_.out; omega⟩, ⟨by rw [List.take_add_one, HX.out]; exact HV7.out⟩, HB7, HF7⟩
      · have q1 : decide ((i : Int) < (l.length : Int)) = false := decide_eq_false (by omega)
        have q1' : decide (i < l.length) = false := decide_eq_false hc
        have q1'' : (i < l.length) = False := eq_false hc
        have hil : l.take i = l := List.take_of_length_le (by omega)
        rw [hil] at HW
        obtain ⟨ao, cap, rfl, hcap, hC⟩ := HW.out.C
        have HCW := Aside0.mk hC
        have HCAP := Aside0.mk hcap
        have f0 := HF.out.f0
        have f1 := HF.out.f1
        have f2 := HF.out.f2
        clear hc hil hC hcap HW
        go_wp2_with (first | (go_at_call 44; (with_reducible refine (items_calls rfl rfl (HL.out.below (bel_trans HBr.out HS6.out)).k1 HL.out.h1 (Kd.C_below HCW.out HS6.out) HCAP.out HLN.out HFN.out.x).mono ?_); rintro e w7 ⟨rfl, hb⟩; have HVa7 := Aside0.mk (own_below HVa6.out hb); have HVb7 := Aside0.mk (own_below HVb.out hb); have HS7 := Aside0.mk (bel_trans HS6.out hb); clear hb) | (go_at_call 29; (with_reducible refine (rsame_own _ _ _ _ _ _ _ rfl HVa7.out HVb7.out (by have := hits_small a HFN.out; omega)).mono ?_); rintro e w8 ⟨rfl, hb⟩; have HS8 := Aside0.mk (bel_trans HS7.out hb); clear hb) | (go_at_call 38; (with_reducible refine (rank_calls _ a l _ (HL.out.below (bel_trans HBr.out HS5.out)) HFN.out).mono ?_); rintro e w6 ⟨⟨vb, rfl, hv⟩, hb⟩; have HVb := Aside0.mk hv; have HVa6 := Aside0.mk (own_below HVa5.out hb); have HS6 := Aside0.mk (bel_trans HS5.out hb); clear hb hv f0 f1 f2) | (go_at_call 40; (refine (after_calls _ a l ⟨0, 0⟩ k _ (HL.out.below (bel_trans HBr.out HS4.out)) HFN.out).mono ?_); rintro e w5 ⟨⟨vx, rfl, hv⟩, hb⟩; have HVa5 := Aside0.mk (own_below HVa4.out hb); have HS5 := Aside0.mk (bel_trans HS4.out hb); clear hb hv f0 f1 f2; have f0 := (HF.out.below HS5.out).f0; have f1 := (HF.out.below HS5.out).f1; have f2 := (HF.out.below HS5.out).f2) | (go_at_call 39; (with_reducible refine (search_calls _ a l k _ (HL.out.below (bel_trans HBr.out HS3.out)) HFN.out).mono ?_); rintro e w4 ⟨⟨vy, rfl, hv⟩, hb⟩; have HVa4 := Aside0.mk (own_below HVa3.out hb); have HS4 := Aside0.mk (bel_trans HS3.out hb); clear hb hv f0 f1 f2; have f0 := (HF.out.below HS4.out).f0; have f1 := (HF.out.below HS4.out).f1; have f2 := (HF.out.below HS4.out).f2) | (go_at_call 38; (with_reducible refine (rank_calls _ a l _ (HL.out.below HBr.out) HFN.out).mono ?_); rintro e w3 ⟨⟨va, rfl, hv⟩, hb⟩; have HVa3 := Aside0.mk hv; have HS3 := Aside0.mk hb; clear hb hv f0 f1 f2; have f0 := (HF.out.below HS3.out).f0; have f1 := (HF.out.below HS3.out).f1; have f2 := (HF.out.below HS3.out).f2))
        go_ret
        exact ⟨rfl, bel_trans HBr.out HS8.out⟩
theorem fown_row (m : Int) (hm : (Lit.int .u8 m).wf = true) (v1 : Value) (s1 : v1 = .slice none 0 0 ∨ ∃ a n c, v1 = .slice (some a) n c) (x1 : List (Int × List Int × List ByteArray)) {W : World} (K1 : (Kd.slice 59 kitem).K W x1 v1.cells.toList) (o1 : okItems x1)
    (v2 : Value) (s2 : v2 = .slice none 0 0 ∨ ∃ a n c, v2 = .slice (some a) n c) (x2 : List Int) (K2 : kvec.K W x2 v2.cells.toList) (o2 : okVec x2) (v3 : Value) (s3 : ∃ cs, v3 = .agg cs) (x3 : List ByteArray × List ByteArray × List ByteArray) (K3 : kfilter.K W x3 v3.cells.toList) (o3 : okFilter x3) (k : Int) (hk : (Lit.int .i64 k).wf = true) (_ : World) :
    Calls Try.prog 14 #[.int .u8 m, v1, v2, v3, .int .i64 k] W fun e w' => e = .returned (.bool true) ∧ Below W.heap.size W w' := by
  obtain ⟨p, rfl, rfl, rfl, hL⟩ := lies_of m s1 K1 s2 K2 s3 K3
  exact fown_calls p ⟨m, x2, x3.1, x3.2.1, x3.2.2⟩ (x1.map ofI) k W hL (wf_u8 hm)
end Go.Proofs.Ytchiobhklbefjaa.Fl
