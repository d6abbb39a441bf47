/- PipeLate: bytes that are put in by one piece come out at their tick, all of them, and not ahead of it; a second piece never ahead of the first. No condition. -/
import Derived.Test.YtjbakaplcjkniaaPiC
namespace Go.Proofs.Ytjbakaplcjkniaa.Pi
open Go.RowKit Go.Proofs.YtjbakaplcjkniaaW.PrintWords Go.Proofs.YtjbakaplcjkniaaW.PrintLast Go.Proofs.YtjbakaplcjkniaaW.PrintMore
set_option linter.unusedVariables false
set_option linter.unusedSimpArgs false
attribute [local go_sem] max2_M min2_M max_two min_two
theorem w64 {x : Int} (h : -9223372036854775808 ≤ x ∧ x ≤ 9223372036854775807) : wrap64 x = x := by unfold wrap64; omega
theorem putN_false (room : Int) (L : Pcs) (n : Nat) : putN false room L n = min n (room - total L).toNat := by unfold putN; rw [if_neg (by simp)]
def late.T14 : Bool × List (List Nat × List Nat) := (true, [([], []), ([0], [0]), ([], []), ([1, 2], [1, 2]), ([3], [3]), ([4], [4]), ([5, 4], [4, 5]), ([4], [4]), ([4], [4]), ([7, 8, 4, 4], [4, 7, 8]), ([4], [4]), ([9, 10, 9, 4], [4, 9, 10]), ([4], [4]), ([11, 12, 4], [4, 11, 12]), ([13, 4], [4, 13]), ([6, 14, 4], [4, 6, 14]), ([4, 15], [4, 15]), ([16, 11, 0, 1, 2, 3, 4, 5, 6, 7, 8, 9, 10, 11, 12, 13, 14, 15, 16], [16])])
def late.B14 : List Nat := [0, 1, 0, 7, 15, 31, 63, 31, 31, 415, 31, 1951, 31, 8095, 16287, 32767, 65535, 131071]
theorem late.tab14 : rtab .any (opsOf Try.f4 14) = late.T14 := by kernel_rfl
theorem late.bits14 : waitsOk late.T14.2 late.B14 = true := by kernel_rfl
/-- The first piece, the second. -/
theorem late1 (a : List Int) (one : Int) (h0 : 0 < a.length) (h1 : a.length ≤ 1000) : putL false (max 0 2000) [] a (0 + one) = [(a, one)] := by
  have h2 := putN_false (max 0 2000) [] a.length
  rw [total_nil] at h2
  have h3 : putN false (max 0 2000) [] a.length = a.length := by rw [h2]; omega
  unfold putL
  rw [h3, if_neg (by omega), List.take_length, Int.zero_add]
  rfl
theorem late2 (a b : List Int) (one two : Int) (h0 : 0 < b.length) (ha : a.length ≤ 1000) (h1 : b.length ≤ 1000) : putL false (max 0 2000) [(a, one)] b (0 + two) = [(a, one), (b, max two one)] := by
  have h2 := putN_false (max 0 2000) [(a, one)] b.length
  rw [total_cons, total_nil] at h2
  have h3 : putN false (max 0 2000) [(a, one)] b.length = b.length := by rw [h2]; dsimp only; omega
  unfold putL
  rw [h3, if_neg (by omega), List.take_length, Int.zero_add]
  rfl
/-- What comes out at a tick. -/
theorem late3 (a b : List Int) (one two now : Int) (ha0 : 0 < a.length) (hb0 : 0 < b.length) (ha : a.length ≤ 1000) (hb : b.length ≤ 1000) :
    (takeP now (Int.toNat 5000) [(a, one), (b, max two one)]).1 = (a ++ b).take (if one ≤ now then (if two ≤ now then a.length + b.length else a.length) else 0) := by
  have h5 : Int.toNat 5000 = 5000 := rfl
  rw [h5]
  rw [takeP]
  by_cases h1 : one ≤ now
  · rw [if_neg (by omega), if_neg (by omega), if_pos h1, takeP]
    by_cases h2 : two ≤ now
    · rw [if_neg (by omega), if_neg (by omega), if_pos h2, takeP, ← List.length_append, List.take_length, List.append_nil]
    · rw [if_pos (by omega), if_neg h2, List.append_nil, List.take_left']
      rfl
  · rw [if_pos (.inr (by omega)), if_neg h1]
    rfl
set_option maxHeartbeats 8000000 in
set_option maxRecDepth 100000 in
theorem pipeLate_walk (A : Option Addr) (ca : Nat) (a : List Int) (B : Option Addr) (cb : Nat) (b : List Int) (one two now : Int) (h1 : 0 ≤ one ∧ one ≤ 4294967295) (h2 : 0 ≤ two ∧ two ≤ 4294967295) (h3 : 0 ≤ now ∧ now ≤ 4294967295) (w : World)
    (hla : a.length ≤ ca) (hA : Kd.C (Kd.int .u8) w A a.length a) (hlb : b.length ≤ cb) (hB : Kd.C (Kd.int .u8) w B b.length b) :
    Calls Try.prog 4 #[.slice A a.length ca, .slice B b.length cb, .int .u32 one, .int .u32 two, .int .u32 now] w fun e w' => e = .returned (.bool true) ∧ Below w.heap.size w w' := by
  have HA := Aside0.mk hA
  have HB := Aside0.mk hB
  have H1 := Aside0.mk h1
  have H2 := Aside0.mk h2
  have H3 := Aside0.mk h3
  have HLA := Aside0.mk hla
  have HLB := Aside0.mk hlb
  clear hA hB h1 h2 h3 hla hlb
  by_cases hg : 0 < a.length ∧ 0 < b.length ∧ a.length ≤ 1000 ∧ b.length ≤ 1000
  · have HG := Aside0.mk hg
    have e1 : ((a.length : Int) == 0) = false := by rw [beq_eq_false_iff_ne]; omega
    have e2 : ((b.length : Int) == 0) = false := by rw [beq_eq_false_iff_ne]; omega
    have e1' : (a.length == 0) = false := by rw [beq_eq_false_iff_ne]; omega
    have e2' : (b.length == 0) = false := by rw [beq_eq_false_iff_ne]; omega
    have e3 : decide ((1000 : Int) < (a.length : Int)) = false := decide_eq_false (by omega)
    have e4 : decide ((1000 : Int) < (b.length : Int)) = false := decide_eq_false (by omega)
    have e3' : decide (1000 < a.length) = false := decide_eq_false (by omega)
    have e4' : decide (1000 < b.length) = false := decide_eq_false (by omega)
    have hsum : wrap64 ((a.length : Int) + (b.length : Int)) = ((a.length + b.length : Nat) : Int) := by rw [w64 (by omega)]; omega
    clear hg
    cases q1 : decide (one ≤ now) with
    | false =>
      obtain ⟨n, hn⟩ : ∃ n : Nat, 0 = n := ⟨_, rfl⟩
      obtain ⟨TX, hTX⟩ : ∃ t, (a ++ b).take n = t := ⟨_, rfl⟩
      have hlen : TX.length = n := by rw [← hTX, List.length_take, List.length_append]; omega
      have htk : (takeP now (Int.toNat 5000) [(a, one), (b, max two one)]).1 = TX := by rw [late3 a b one two now HG.out.1 HG.out.2.1 HG.out.2.2.1 HG.out.2.2.2, if_neg (of_decide_eq_false q1), hn, hTX]
      have HTX := Aside0.mk hTX
      have HLEN := Aside0.mk hlen
      have HTK := Aside0.mk htk
      have HNN := Aside0.mk (show n ≤ a.length + b.length by omega)
      clear hTX hlen htk
      subst hn
      go_enter Try.func4, Try.ntmps4
      go_wp2_with (first | (go_at_call 13; (with_reducible refine (alive_calls _).mono ?_); rintro e w1 ⟨rfl, hb⟩; have HB1 := Aside0.mk hb; clear hb) | (go_at_call 14; (with_reducible refine (PS.new (X := NX) HB1.out 2000 (by decide)).mono ?_); rintro e w2 ⟨g, rfl, hP⟩; have HP0 := Aside0.mk hP; clear hP) | (go_at_call 15; (have := HP1; (with_reducible refine (PS.put HP1.out B cb b 0 two (by have := HG.out; simp; omega) (by have := HG.out; omega) (Kd.C_below HB.out HP1.out.at0) HLB.out (by decide) H2.out (fun k hk => hk.elim)).mono ?_); rintro e w4 ⟨rfl, hP, hO⟩; rw [late2 a b one two HG.out.2.1 HG.out.2.2.1 HG.out.2.2.2] at hP; have HP2 := Aside0.mk hP; clear hP hO)) | (go_at_call 15; (with_reducible refine (PS.put HP0.out A ca a 0 one (by decide) (by have := HG.out; omega) (Kd.C_below HA.out HP0.out.at0) HLA.out (by decide) H1.out (fun k hk => hk.elim)).mono ?_); rintro e w3 ⟨rfl, hP, hO⟩; rw [late1 a one HG.out.1 HG.out.2.2.1] at hP; have HP1 := Aside0.mk hP; clear hP hO) | (go_at_call 16; (with_reducible refine (PS.take HP2.out 5000 now (by have := HG.out; simp; omega) H3.out (by decide)).mono ?_); rintro e w5 ⟨⟨o5, rfl, hr⟩, hP, hO⟩; rw [HTK.out] at hr; obtain ⟨ao, co, rfl, _, hr⟩ := Kd.R_reads hr; rw [HLEN.out] at hr ⊢; have HR := Aside0.mk hr; have HP3 := Aside0.mk hP.at0; clear hP hO hr))
      have HR1 := Aside0.mk (Kd.C_drew HR.out)
      have HB5 := Aside0.mk (below_drew HP3.out)
      clear HR HP3
      refine start_ (n := 18) (S := fun w' => (convert 26 9 (.slice ao 0 co)).run Try.prog w' = .ok (.string (strOfNums TX)) w') (ds := []) #[false, false, false, false, false, false, false, false, false, false, false, false, false, false, false, false, false, false] (by kernel_rfl) rfl rfl ((Kd.C_string Try.underlying26 Try.underlying5 Try.underlying9 HR1.out)) (fun hHeld => ?_)
      refine with_tabW late.tab14 late.bits14 (fun HT_ HW_ => ?_)
      generalize w5.drew = wd at HR1 HB5 hHeld ⊢
      refine pure_ (i := 0) (N := some 59) (v := ?_) (a' := ?_) #[true, false, false, false, false, false, false, false, false, false, false, false, false, false, false, false, false, false] rfl rfl (any_of HT_.out (by kernel_rfl)) (fun _ _ _ h => h) (Or.inl ⟨by rfl, ?_⟩) ?_ ?_
      rotate_left
      · intro w'
        go_simp
        with_reducible rfl
      rotate_left
      · simp only [Act.put, List.setIfInBounds_toArray, List.set_cons_zero, List.set_cons_succ, i64_w, i32_w]
        rfl
      refine pure_ (i := 1) (N := some 60) (v := ?_) (a' := ?_) #[true, true, false, false, false, false, false, false, false, false, false, false, false, false, false, false, false, false] rfl rfl (any_of HT_.out (by kernel_rfl)) (fun _ _ _ h => h) (Or.inl ⟨by rfl, ?_⟩) ?_ ?_
      rotate_left
      · intro w'
        go_simp
        with_reducible rfl
      rotate_left
      · simp only [Act.put, List.setIfInBounds_toArray, List.set_cons_zero, List.set_cons_succ, i64_w, i32_w]
        rfl
      refine pure_ (i := 2) (N := some 61) (v := ?_) (a' := ?_) #[true, true, true, false, false, false, false, false, false, false, false, false, false, false, false, false, false, false] rfl rfl (any_of HT_.out (by kernel_rfl)) (fun _ _ _ h => h) (Or.inl ⟨by rfl, ?_⟩) ?_ ?_
      rotate_left
      · intro w'
        go_simp
        with_reducible rfl
      rotate_left
      · simp only [Act.put, List.setIfInBounds_toArray, List.set_cons_zero, List.set_cons_succ, i64_w, i32_w]
        rfl
      refine pure_ (i := 3) (N := some 62) (v := ?_) (a' := ?_) #[true, true, true, true, false, false, false, false, false, false, false, false, false, false, false, false, false, false] rfl rfl (any_of HT_.out (by kernel_rfl)) (fun _ _ _ h => h) (Or.inl ⟨by rfl, ?_⟩) ?_ ?_
      rotate_left
      · intro w'
        go_simp
        with_reducible rfl
      rotate_left
      · simp only [Act.put, List.setIfInBounds_toArray, List.set_cons_zero, List.set_cons_succ, i64_w, i32_w]
        rfl
      refine pure_ (i := 4) (N := some 63) (v := ?_) (a' := ?_) #[true, true, true, true, true, false, false, false, false, false, false, false, false, false, false, false, false, false] rfl rfl (any_of HT_.out (by kernel_rfl)) (fun _ _ _ h => h) (Or.inl ⟨by rfl, ?_⟩) ?_ ?_
      rotate_left
      · intro w'
        go_simp
        with_reducible rfl
      rotate_left
      · simp only [Act.put, List.setIfInBounds_toArray, List.set_cons_zero, List.set_cons_succ, i64_w, i32_w]
        rfl
      refine pure_ (i := 5) (N := some 64) (v := ?_) (a' := ?_) #[true, true, true, true, true, true, false, false, false, false, false, false, false, false, false, false, false, false] rfl rfl (any_of HT_.out (by kernel_rfl)) (fun _ _ _ h => h) (Or.inl ⟨by rfl, ?_⟩) ?_ ?_
      rotate_left
      · intro w'
        go_simp
        with_reducible rfl
      rotate_left
      · simp only [Act.put, List.setIfInBounds_toArray, List.set_cons_zero, List.set_cons_succ, i64_w, i32_w]
        rfl
      refine pure_ (i := 8) (N := some 67) (v := ?_) (a' := ?_) #[true, true, true, true, true, true, false, false, true, false, false, false, false, false, false, false, false, false] rfl rfl (any_of HT_.out (by kernel_rfl)) (fun _ _ _ h => h) (Or.inl ⟨by rfl, ?_⟩) ?_ ?_
      rotate_left
      · intro w'
        go_simp
        with_reducible rfl
      rotate_left
      · simp only [Act.put, List.setIfInBounds_toArray, List.set_cons_zero, List.set_cons_succ, i64_w, i32_w]
        rfl
      refine pure_ (i := 10) (N := some 69) (v := ?_) (a' := ?_) #[true, true, true, true, true, true, false, false, true, false, true, false, false, false, false, false, false, false] rfl rfl (any_of HT_.out (by kernel_rfl)) (fun _ _ _ h => h) (Or.inl ⟨by rfl, ?_⟩) ?_ ?_
      rotate_left
      · intro w'
        go_simp
        with_reducible rfl
      rotate_left
      · simp only [Act.put, List.setIfInBounds_toArray, List.set_cons_zero, List.set_cons_succ, i64_w, i32_w]
        rfl
      refine pure_ (i := 12) (N := some 71) (v := ?_) (a' := ?_) #[true, true, true, true, true, true, false, false, true, false, true, false, true, false, false, false, false, false] rfl rfl (any_of HT_.out (by kernel_rfl)) (fun _ _ _ h => h) (Or.inl ⟨by rfl, ?_⟩) ?_ ?_
      rotate_left
      · intro w'
        go_simp
        with_reducible rfl
      rotate_left
      · simp only [Act.put, List.setIfInBounds_toArray, List.set_cons_zero, List.set_cons_succ, i64_w, i32_w]
        rfl
      refine take_ (i := 6) (N := some 65) (v := ?_) (a' := ?_) #[true, true, true, true, true, true, true, false, true, false, true, false, true, false, false, false, false, false] rfl rfl (take_ofW HT_.out HW_.out (by kernel_rfl)) (fun _ _ _ h => h) (Or.inl ⟨by rfl, ?_⟩) hHeld ?_ ?_
      rotate_left
      · intro w' s0
        go_simp
        with_reducible rfl
      rotate_left
      · simp only [Act.put, List.setIfInBounds_toArray, List.set_cons_zero, List.set_cons_succ, i64_w, i32_w]
        rfl
      refine one_ (i := 7) (N := some 66) #[true, true, true, true, true, true, true, true, true, false, true, false, true, false, false, false, false, false] rfl rfl (one_of HT_.out (by kernel_rfl)) (by decide) (fun K hK => ?_)
      refine value_ (w1 := ?_) (v := ?_) (by rfl) rfl ?_ ?_
      rotate_left 2
      · go_simp
        constructor
        · rfl
        · rfl
      have H1 := Aside0.mk (R_empty (Kd.int .u8) 5 wd wd.heap.size (Nat.le_refl _))
      have HD := Aside0.mk (below_alloc (Below.refl wd.heap.size wd) (.cells #[] 5))
      refine hK.out _ _ ((Kd.C_string Try.underlying26 Try.underlying5 Try.underlying9 (Kd.C_below HR1.out HD.out))) (fun hHeld => ?_)
      clear hK K
      refine norm_ (a' := ?_) ?_ ?_
      rotate_left
      · show Act.put _ (some 66) _ = _
        simp only [Act.put, List.setIfInBounds_toArray, List.set_cons_zero, List.set_cons_succ, i64_w, i32_w]
        rfl
      refine one_ (i := 9) (N := some 68) #[true, true, true, true, true, true, true, true, true, true, true, false, true, false, false, false, false, false] rfl rfl (one_of HT_.out (by kernel_rfl)) (by decide) (fun K hK => ?_)
      refine Kd.R_append_rows_step (Kd.int .u8) wd.heap.size (by rfl) (.tmp 66) (.tmp 67) 26 5 (.int .u8 0) 1 rfl Try.underlying26 (by kernel_rfl) (by rfl) (by decide) (by decide) _ [] a A a.length ca (fun _ => True) (fun _ => False) rfl rfl H1.out (Kd.C_below HA.out (bel_trans HB5.out HD.out)) (fun _ _ h => h) (fun k hk => hk.elim) (fun _ _ => trivial) HD.out HD.out.size (by have := HG.out; show (0 + a.length) * 1 ≤ _; simp; omega) ?_
      intro v1 w6 h1 hb hg hat
      rw [List.nil_append] at h1
      have H2' := Aside0.mk h1
      clear HD
      have HD := Aside0.mk hb
      clear h1 hb hg hat
      refine hK.out _ _ ((Kd.C_string Try.underlying26 Try.underlying5 Try.underlying9 (Kd.C_below HR1.out HD.out))) (fun hHeld => ?_)
      clear hK K
      refine norm_ (a' := ?_) ?_ ?_
      rotate_left
      · show Act.put _ (some 68) _ = _
        simp only [Act.put, List.setIfInBounds_toArray, List.set_cons_zero, List.set_cons_succ, i64_w, i32_w]
        rfl
      refine one_ (i := 11) (N := some 70) #[true, true, true, true, true, true, true, true, true, true, true, true, true, false, false, false, false, false] rfl rfl (one_of HT_.out (by kernel_rfl)) (by decide) (fun K hK => ?_)
      refine Kd.R_append_rows_step (Kd.int .u8) wd.heap.size (by rfl) (.tmp 68) (.tmp 69) 26 5 (.int .u8 0) 1 rfl Try.underlying26 (by kernel_rfl) (by rfl) (by decide) (by decide) _ a b B b.length cb (fun _ => True) (fun _ => False) rfl rfl H2'.out (Kd.C_below HB.out (bel_trans HB5.out HD.out)) (fun _ _ h => h) (fun k hk => hk.elim) (fun _ _ => trivial) HD.out HD.out.size (by have := HG.out; show (a.length + b.length) * 1 ≤ _; simp; omega) ?_
      intro v2 w7 h1 hb hg hat
      clear HD
      have HD := Aside0.mk hb
      obtain ⟨a2, c2, rfl, hc2, hC2⟩ := Kd.R_reads h1
      obtain ⟨ad2, rfl, -⟩ := hC2.2.2 (by rw [List.length_append]; have := HG.out.1; omega)
      have hC3 := Kd.C_take (m := 0) hC2 (by rw [List.length_append]; exact HNN.out)
      rw [HTX.out, HLEN.out] at hC3
      have cv := Kd.C_string (c := c2) Try.underlying26 Try.underlying5 Try.underlying9 hC3
      have s3 : ((0 : Nat) : Int) ≤ (c2 : Int) := Int.ofNat_le.2 (Nat.le_trans (by rw [List.length_append]; exact HNN.out) hc2)
      have s4 : 0 ≤ c2 := Int.ofNat_le.1 s3
      obtain ⟨NN, hNN⟩ : ∃ x, (a ++ b).length = x := ⟨_, rfl⟩
      rw [hNN]
      clear h1 hb hg hat hc2 hC2 hC3 hNN
      refine hK.out _ _ ((Kd.C_string Try.underlying26 Try.underlying5 Try.underlying9 (Kd.C_below HR1.out HD.out))) (fun hHeld => ?_)
      clear hK K
      refine norm_ (a' := ?_) ?_ ?_
      rotate_left
      · show Act.put _ (some 70) _ = _
        simp only [Act.put, List.setIfInBounds_toArray, List.set_cons_zero, List.set_cons_succ, i64_w, i32_w]
        rfl
      refine pure_ (i := 13) (N := some 72) (v := ?_) (a' := ?_) #[true, true, true, true, true, true, true, true, true, true, true, true, true, true, false, false, false, false] rfl rfl (any_of HT_.out (by kernel_rfl)) (fun _ _ _ h => h) (Or.inl ⟨by rfl, ?_⟩) ?_ ?_
      rotate_left
      · intro w'
        go_simp
        with_reducible rfl
      rotate_left
      · simp only [Act.put, List.setIfInBounds_toArray, List.set_cons_zero, List.set_cons_succ, i64_w, i32_w]
        rfl
      refine one_ (i := 14) (N := some 73) #[true, true, true, true, true, true, true, true, true, true, true, true, true, true, true, false, false, false] rfl rfl (one_of HT_.out (by kernel_rfl)) (by decide) (fun K hK => ?_)
      refine value_ (w1 := ?_) (v := ?_) (by rfl) rfl ?_ ?_
      rotate_left 2
      · go_simp
        constructor
        · rfl
        · rfl
      refine hK.out _ _ ((Kd.C_string Try.underlying26 Try.underlying5 Try.underlying9 (Kd.C_below HR1.out HD.out))) (fun hHeld => ?_)
      clear hK K
      refine norm_ (a' := ?_) ?_ ?_
      rotate_left
      · show Act.put _ (some 73) _ = _
        simp only [Act.put, List.setIfInBounds_toArray, List.set_cons_zero, List.set_cons_succ, i64_w, i32_w]
        rfl
      refine pure_ (i := 15) (N := some 74) (v := ?_) (a' := ?_) #[true, true, true, true, true, true, true, true, true, true, true, true, true, true, true, true, false, false] rfl rfl (any_of HT_.out (by kernel_rfl)) (fun _ _ _ h => h) (Or.inl ⟨by rfl, ?_⟩) ?_ ?_
      rotate_left
      · intro w'
        go_simp
        with_reducible rfl
      rotate_left
      · simp only [Act.put, List.setIfInBounds_toArray, List.set_cons_zero, List.set_cons_succ, i64_w, i32_w]
        rfl
      refine pure_ (i := 16) (N := some 75) (v := ?_) (a' := ?_) #[true, true, true, true, true, true, true, true, true, true, true, true, true, true, true, true, true, false] rfl rfl (any_of HT_.out (by kernel_rfl)) (fun _ _ _ h => h) (Or.inl ⟨by rfl, ?_⟩) ?_ ?_
      rotate_left
      · intro w'
        go_simp
        with_reducible rfl
      rotate_left
      · simp only [Act.put, List.setIfInBounds_toArray, List.set_cons_zero, List.set_cons_succ, i64_w, i32_w]
        rfl
      refine pure_ (i := 17) (N := some 10) (v := ?_) (a' := ?_) #[true, true, true, true, true, true, true, true, true, true, true, true, true, true, true, true, true, true] rfl rfl (any_of HT_.out (by kernel_rfl)) (fun _ _ _ h => h) (Or.inl ⟨by rfl, ?_⟩) ?_ ?_
      rotate_left
      · intro w'
        go_simp
        with_reducible rfl
      rotate_left
      · simp only [Act.put, List.setIfInBounds_toArray, List.set_cons_zero, List.set_cons_succ, i64_w, i32_w]
        rfl
      refine done_ (done_of HT_.out (by kernel_rfl)) ?_
      go_wp2
      go_ret
      exact ⟨rfl, bel_trans HB5.out HD.out⟩
    | true =>
      cases q2 : decide (two ≤ now) with
      | false =>
        obtain ⟨n, hn⟩ : ∃ n : Nat, a.length = n := ⟨_, rfl⟩
        obtain ⟨TX, hTX⟩ : ∃ t, (a ++ b).take n = t := ⟨_, rfl⟩
        have hlen : TX.length = n := by rw [← hTX, List.length_take, List.length_append]; omega
        have htk : (takeP now (Int.toNat 5000) [(a, one), (b, max two one)]).1 = TX := by rw [late3 a b one two now HG.out.1 HG.out.2.1 HG.out.2.2.1 HG.out.2.2.2, if_pos (of_decide_eq_true q1), if_neg (of_decide_eq_false q2), hn, hTX]
        have HTX := Aside0.mk hTX
        have HLEN := Aside0.mk hlen
        have HTK := Aside0.mk htk
        have HNN := Aside0.mk (show n ≤ a.length + b.length by omega)
        clear hTX hlen htk
        subst hn
        go_enter Try.func4, Try.ntmps4
        go_wp2_with (first | (go_at_call 13; (with_reducible refine (alive_calls _).mono ?_); rintro e w1 ⟨rfl, hb⟩; have HB1 := Aside0.mk hb; clear hb) | (go_at_call 14; (with_reducible refine (PS.new (X := NX) HB1.out 2000 (by decide)).mono ?_); rintro e w2 ⟨g, rfl, hP⟩; have HP0 := Aside0.mk hP; clear hP) | (go_at_call 15; (have := HP1; (with_reducible refine (PS.put HP1.out B cb b 0 two (by have := HG.out; simp; omega) (by have := HG.out; omega) (Kd.C_below HB.out HP1.out.at0) HLB.out (by decide) H2.out (fun k hk => hk.elim)).mono ?_); rintro e w4 ⟨rfl, hP, hO⟩; rw [late2 a b one two HG.out.2.1 HG.out.2.2.1 HG.out.2.2.2] at hP; have HP2 := Aside0.mk hP; clear hP hO)) | (go_at_call 15; (with_reducible refine (PS.put HP0.out A ca a 0 one (by decide) (by have := HG.out; omega) (Kd.C_below HA.out HP0.out.at0) HLA.out (by decide) H1.out (fun k hk => hk.elim)).mono ?_); rintro e w3 ⟨rfl, hP, hO⟩; rw [late1 a one HG.out.1 HG.out.2.2.1] at hP; have HP1 := Aside0.mk hP; clear hP hO) | (go_at_call 16; (with_reducible refine (PS.take HP2.out 5000 now (by have := HG.out; simp; omega) H3.out (by decide)).mono ?_); rintro e w5 ⟨⟨o5, rfl, hr⟩, hP, hO⟩; rw [HTK.out] at hr; obtain ⟨ao, co, rfl, _, hr⟩ := Kd.R_reads hr; rw [HLEN.out] at hr ⊢; have HR := Aside0.mk hr; have HP3 := Aside0.mk hP.at0; clear hP hO hr))
        have HR1 := Aside0.mk (Kd.C_drew HR.out)
        have HB5 := Aside0.mk (below_drew HP3.out)
        clear HR HP3
        refine start_ (n := 18) (S := fun w' => (convert 26 9 (.slice ao a.length co)).run Try.prog w' = .ok (.string (strOfNums TX)) w') (ds := []) #[false, false, false, false, false, false, false, false, false, false, false, false, false, false, false, false, false, false] (by kernel_rfl) rfl rfl ((Kd.C_string Try.underlying26 Try.underlying5 Try.underlying9 HR1.out)) (fun hHeld => ?_)
        refine with_tabW late.tab14 late.bits14 (fun HT_ HW_ => ?_)
        generalize w5.drew = wd at HR1 HB5 hHeld ⊢
        refine pure_ (i := 0) (N := some 59) (v := ?_) (a' := ?_) #[true, false, false, false, false, false, false, false, false, false, false, false, false, false, false, false, false, false] rfl rfl (any_of HT_.out (by kernel_rfl)) (fun _ _ _ h => h) (Or.inl ⟨by rfl, ?_⟩) ?_ ?_
        rotate_left
        · intro w'
          go_simp
          with_reducible rfl
        rotate_left
        · simp only [Act.put, List.setIfInBounds_toArray, List.set_cons_zero, List.set_cons_succ, i64_w, i32_w]
          rfl
        refine pure_ (i := 1) (N := some 60) (v := ?_) (a' := ?_) #[true, true, false, false, false, false, false, false, false, false, false, false, false, false, false, false, false, false] rfl rfl (any_of HT_.out (by kernel_rfl)) (fun _ _ _ h => h) (Or.inl ⟨by rfl, ?_⟩) ?_ ?_
        rotate_left
        · intro w'
          go_simp
          with_reducible rfl
        rotate_left
        · simp only [Act.put, List.setIfInBounds_toArray, List.set_cons_zero, List.set_cons_succ, i64_w, i32_w]
          rfl
        refine pure_ (i := 2) (N := some 61) (v := ?_) (a' := ?_) #[true, true, true, false, false, false, false, false, false, false, false, false, false, false, false, false, false, false] rfl rfl (any_of HT_.out (by kernel_rfl)) (fun _ _ _ h => h) (Or.inl ⟨by rfl, ?_⟩) ?_ ?_
        rotate_left
        · intro w'
          go_simp
          with_reducible rfl
        rotate_left
        · simp only [Act.put, List.setIfInBounds_toArray, List.set_cons_zero, List.set_cons_succ, i64_w, i32_w]
          rfl
        refine pure_ (i := 3) (N := some 62) (v := ?_) (a' := ?_) #[true, true, true, true, false, false, false, false, false, false, false, false, false, false, false, false, false, false] rfl rfl (any_of HT_.out (by kernel_rfl)) (fun _ _ _ h => h) (Or.inl ⟨by rfl, ?_⟩) ?_ ?_
        rotate_left
        · intro w'
          go_simp
          with_reducible rfl
        rotate_left
        · simp only [Act.put, List.setIfInBounds_toArray, List.set_cons_zero, List.set_cons_succ, i64_w, i32_w]
          rfl
        refine pure_ (i := 4) (N := some 63) (v := ?_) (a' := ?_) #[true, true, true, true, true, false, false, false, false, false, false, false, false, false, false, false, false, false] rfl rfl (any_of HT_.out (by kernel_rfl)) (fun _ _ _ h => h) (Or.inl ⟨by rfl, ?_⟩) ?_ ?_
        rotate_left
        · intro w'
          go_simp
          with_reducible rfl
        rotate_left
        · simp only [Act.put, List.setIfInBounds_toArray, List.set_cons_zero, List.set_cons_succ, i64_w, i32_w]
          rfl
        refine pure_ (i := 5) (N := some 64) (v := ?_) (a' := ?_) #[true, true, true, true, true, true, false, false, false, false, false, false, false, false, false, false, false, false] rfl rfl (any_of HT_.out (by kernel_rfl)) (fun _ _ _ h => h) (Or.inl ⟨by rfl, ?_⟩) ?_ ?_
        rotate_left
        · intro w'
          go_simp
          with_reducible rfl
        rotate_left
        · simp only [Act.put, List.setIfInBounds_toArray, List.set_cons_zero, List.set_cons_succ, i64_w, i32_w]
          rfl
        refine pure_ (i := 8) (N := some 67) (v := ?_) (a' := ?_) #[true, true, true, true, true, true, false, false, true, false, false, false, false, false, false, false, false, false] rfl rfl (any_of HT_.out (by kernel_rfl)) (fun _ _ _ h => h) (Or.inl ⟨by rfl, ?_⟩) ?_ ?_
        rotate_left
        · intro w'
          go_simp
          with_reducible rfl
        rotate_left
        · simp only [Act.put, List.setIfInBounds_toArray, List.set_cons_zero, List.set_cons_succ, i64_w, i32_w]
          rfl
        refine pure_ (i := 10) (N := some 69) (v := ?_) (a' := ?_) #[true, true, true, true, true, true, false, false, true, false, true, false, false, false, false, false, false, false] rfl rfl (any_of HT_.out (by kernel_rfl)) (fun _ _ _ h => h) (Or.inl ⟨by rfl, ?_⟩) ?_ ?_
        rotate_left
        · intro w'
          go_simp
          with_reducible rfl
        rotate_left
        · simp only [Act.put, List.setIfInBounds_toArray, List.set_cons_zero, List.set_cons_succ, i64_w, i32_w]
          rfl
        refine pure_ (i := 12) (N := some 71) (v := ?_) (a' := ?_) #[true, true, true, true, true, true, false, false, true, false, true, false, true, false, false, false, false, false] rfl rfl (any_of HT_.out (by kernel_rfl)) (fun _ _ _ h => h) (Or.inl ⟨by rfl, ?_⟩) ?_ ?_
        rotate_left
        · intro w'
          go_simp
          with_reducible rfl
        rotate_left
        · simp only [Act.put, List.setIfInBounds_toArray, List.set_cons_zero, List.set_cons_succ, i64_w, i32_w]
          rfl
        refine take_ (i := 6) (N := some 65) (v := ?_) (a' := ?_) #[true, true, true, true, true, true, true, false, true, false, true, false, true, false, false, false, false, false] rfl rfl (take_ofW HT_.out HW_.out (by kernel_rfl)) (fun _ _ _ h => h) (Or.inl ⟨by rfl, ?_⟩) hHeld ?_ ?_
        rotate_left
        · intro w' s0
          go_simp
          with_reducible rfl
        rotate_left
        · simp only [Act.put, List.setIfInBounds_toArray, List.set_cons_zero, List.set_cons_succ, i64_w, i32_w]
          rfl
        refine one_ (i := 7) (N := some 66) #[true, true, true, true, true, true, true, true, true, false, true, false, true, false, false, false, false, false] rfl rfl (one_of HT_.out (by kernel_rfl)) (by decide) (fun K hK => ?_)
        refine value_ (w1 := ?_) (v := ?_) (by rfl) rfl ?_ ?_
        rotate_left 2
        · go_simp
          constructor
          · rfl
          · rfl
        have H1 := Aside0.mk (R_empty (Kd.int .u8) 5 wd wd.heap.size (Nat.le_refl _))
        have HD := Aside0.mk (below_alloc (Below.refl wd.heap.size wd) (.cells #[] 5))
        refine hK.out _ _ ((Kd.C_string Try.underlying26 Try.underlying5 Try.underlying9 (Kd.C_below HR1.out HD.out))) (fun hHeld => ?_)
        clear hK K
        refine norm_ (a' := ?_) ?_ ?_
        rotate_left
        · show Act.put _ (some 66) _ = _
          simp only [Act.put, List.setIfInBounds_toArray, List.set_cons_zero, List.set_cons_succ, i64_w, i32_w]
          rfl
        refine one_ (i := 9) (N := some 68) #[true, true, true, true, true, true, true, true, true, true, true, false, true, false, false, false, false, false] rfl rfl (one_of HT_.out (by kernel_rfl)) (by decide) (fun K hK => ?_)
        refine Kd.R_append_rows_step (Kd.int .u8) wd.heap.size (by rfl) (.tmp 66) (.tmp 67) 26 5 (.int .u8 0) 1 rfl Try.underlying26 (by kernel_rfl) (by rfl) (by decide) (by decide) _ [] a A a.length ca (fun _ => True) (fun _ => False) rfl rfl H1.out (Kd.C_below HA.out (bel_trans HB5.out HD.out)) (fun _ _ h => h) (fun k hk => hk.elim) (fun _ _ => trivial) HD.out HD.out.size (by have := HG.out; show (0 + a.length) * 1 ≤ _; simp; omega) ?_
        intro v1 w6 h1 hb hg hat
        rw [List.nil_append] at h1
        have H2' := Aside0.mk h1
        clear HD
        have HD := Aside0.mk hb
        clear h1 hb hg hat
        refine hK.out _ _ ((Kd.C_string Try.underlying26 Try.underlying5 Try.underlying9 (Kd.C_below HR1.out HD.out))) (fun hHeld => ?_)
        clear hK K
        refine norm_ (a' := ?_) ?_ ?_
        rotate_left
        · show Act.put _ (some 68) _ = _
          simp only [Act.put, List.setIfInBounds_toArray, List.set_cons_zero, List.set_cons_succ, i64_w, i32_w]
          rfl
        refine one_ (i := 11) (N := some 70) #[true, true, true, true, true, true, true, true, true, true, true, true, true, false, false, false, false, false] rfl rfl (one_of HT_.out (by kernel_rfl)) (by decide) (fun K hK => ?_)
        refine Kd.R_append_rows_step (Kd.int .u8) wd.heap.size (by rfl) (.tmp 68) (.tmp 69) 26 5 (.int .u8 0) 1 rfl Try.underlying26 (by kernel_rfl) (by rfl) (by decide) (by decide) _ a b B b.length cb (fun _ => True) (fun _ => False) rfl rfl H2'.out (Kd.C_below HB.out (bel_trans HB5.out HD.out)) (fun _ _ h => h) (fun k hk => hk.elim) (fun _ _ => trivial) HD.out HD.out.size (by have := HG.out; show (a.length + b.length) * 1 ≤ _; simp; omega) ?_
        intro v2 w7 h1 hb hg hat
        clear HD
        have HD := Aside0.mk hb
        obtain ⟨a2, c2, rfl, hc2, hC2⟩ := Kd.R_reads h1
        obtain ⟨ad2, rfl, -⟩ := hC2.2.2 (by rw [List.length_append]; have := HG.out.1; omega)
        have hC3 := Kd.C_take (m := a.length) hC2 (by rw [List.length_append]; exact HNN.out)
        rw [HTX.out, HLEN.out] at hC3
        have cv := Kd.C_string (c := c2) Try.underlying26 Try.underlying5 Try.underlying9 hC3
        have s3 : ((a.length : Nat) : Int) ≤ (c2 : Int) := Int.ofNat_le.2 (Nat.le_trans (by rw [List.length_append]; exact HNN.out) hc2)
        have s4 : a.length ≤ c2 := Int.ofNat_le.1 s3
        obtain ⟨NN, hNN⟩ : ∃ x, (a ++ b).length = x := ⟨_, rfl⟩
        rw [hNN]
        clear h1 hb hg hat hc2 hC2 hC3 hNN
        refine hK.out _ _ ((Kd.C_string Try.underlying26 Try.underlying5 Try.underlying9 (Kd.C_below HR1.out HD.out))) (fun hHeld => ?_)
        clear hK K
        refine norm_ (a' := ?_) ?_ ?_
        rotate_left
        · show Act.put _ (some 70) _ = _
          simp only [Act.put, List.setIfInBounds_toArray, List.set_cons_zero, List.set_cons_succ, i64_w, i32_w]
          rfl
        refine pure_ (i := 13) (N := some 72) (v := ?_) (a' := ?_) #[true, true, true, true, true, true, true, true, true, true, true, true, true, true, false, false, false, false] rfl rfl (any_of HT_.out (by kernel_rfl)) (fun _ _ _ h => h) (Or.inl ⟨by rfl, ?_⟩) ?_ ?_
        rotate_left
        · intro w'
          go_simp
          with_reducible rfl
        rotate_left
        · simp only [Act.put, List.setIfInBounds_toArray, List.set_cons_zero, List.set_cons_succ, i64_w, i32_w]
          rfl
        refine one_ (i := 14) (N := some 73) #[true, true, true, true, true, true, true, true, true, true, true, true, true, true, true, false, false, false] rfl rfl (one_of HT_.out (by kernel_rfl)) (by decide) (fun K hK => ?_)
        refine value_ (w1 := ?_) (v := ?_) (by rfl) rfl ?_ ?_
        rotate_left 2
        · go_simp
          constructor
          · rfl
          · rfl
        refine hK.out _ _ ((Kd.C_string Try.underlying26 Try.underlying5 Try.underlying9 (Kd.C_below HR1.out HD.out))) (fun hHeld => ?_)
        clear hK K
        refine norm_ (a' := ?_) ?_ ?_
        rotate_left
        · show Act.put _ (some 73) _ = _
          simp only [Act.put, List.setIfInBounds_toArray, List.set_cons_zero, List.set_cons_succ, i64_w, i32_w]
          rfl
        refine pure_ (i := 15) (N := some 74) (v := ?_) (a' := ?_) #[true, true, true, true, true, true, true, true, true, true, true, true, true, true, true, true, false, false] rfl rfl (any_of HT_.out (by kernel_rfl)) (fun _ _ _ h => h) (Or.inl ⟨by rfl, ?_⟩) ?_ ?_
        rotate_left
        · intro w'
          go_simp
          with_reducible rfl
        rotate_left
        · simp only [Act.put, List.setIfInBounds_toArray, List.set_cons_zero, List.set_cons_succ, i64_w, i32_w]
          rfl
        refine pure_ (i := 16) (N := some 75) (v := ?_) (a' := ?_) #[true, true, true, true, true, true, true, true, true, true, true, true, true, true, true, true, true, false] rfl rfl (any_of HT_.out (by kernel_rfl)) (fun _ _ _ h => h) (Or.inl ⟨by rfl, ?_⟩) ?_ ?_
        rotate_left
        · intro w'
          go_simp
          with_reducible rfl
        rotate_left
        · simp only [Act.put, List.setIfInBounds_toArray, List.set_cons_zero, List.set_cons_succ, i64_w, i32_w]
          rfl
        refine pure_ (i := 17) (N := some 10) (v := ?_) (a' := ?_) #[true, true, true, true, true, true, true, true, true, true, true, true, true, true, true, true, true, true] rfl rfl (any_of HT_.out (by kernel_rfl)) (fun _ _ _ h => h) (Or.inl ⟨by rfl, ?_⟩) ?_ ?_
        rotate_left
        · intro w'
          go_simp
          with_reducible rfl
        rotate_left
        · simp only [Act.put, List.setIfInBounds_toArray, List.set_cons_zero, List.set_cons_succ, i64_w, i32_w]
          rfl
        refine done_ (done_of HT_.out (by kernel_rfl)) ?_
        go_wp2
        go_ret
        exact ⟨rfl, bel_trans HB5.out HD.out⟩
      | true =>
        obtain ⟨n, hn⟩ : ∃ n : Nat, (a.length + b.length) = n := ⟨_, rfl⟩
        obtain ⟨TX, hTX⟩ : ∃ t, (a ++ b).take n = t := ⟨_, rfl⟩
        have hlen : TX.length = n := by rw [← hTX, List.length_take, List.length_append]; omega
        have htk : (takeP now (Int.toNat 5000) [(a, one), (b, max two one)]).1 = TX := by rw [late3 a b one two now HG.out.1 HG.out.2.1 HG.out.2.2.1 HG.out.2.2.2, if_pos (of_decide_eq_true q1), if_pos (of_decide_eq_true q2), hn, hTX]
        have HTX := Aside0.mk hTX
        have HLEN := Aside0.mk hlen
        have HTK := Aside0.mk htk
        have HNN := Aside0.mk (show n ≤ a.length + b.length by omega)
        rw [hn] at hsum
        clear hTX hlen htk
        have HN0 := Aside0.mk hn
        clear hn
        go_enter Try.func4, Try.ntmps4
        go_wp2_with (first | (go_at_call 13; (with_reducible refine (alive_calls _).mono ?_); rintro e w1 ⟨rfl, hb⟩; have HB1 := Aside0.mk hb; clear hb) | (go_at_call 14; (with_reducible refine (PS.new (X := NX) HB1.out 2000 (by decide)).mono ?_); rintro e w2 ⟨g, rfl, hP⟩; have HP0 := Aside0.mk hP; clear hP) | (go_at_call 15; (have := HP1; (with_reducible refine (PS.put HP1.out B cb b 0 two (by have := HG.out; simp; omega) (by have := HG.out; omega) (Kd.C_below HB.out HP1.out.at0) HLB.out (by decide) H2.out (fun k hk => hk.elim)).mono ?_); rintro e w4 ⟨rfl, hP, hO⟩; rw [late2 a b one two HG.out.2.1 HG.out.2.2.1 HG.out.2.2.2] at hP; have HP2 := Aside0.mk hP; clear hP hO)) | (go_at_call 15; (with_reducible refine (PS.put HP0.out A ca a 0 one (by decide) (by have := HG.out; omega) (Kd.C_below HA.out HP0.out.at0) HLA.out (by decide) H1.out (fun k hk => hk.elim)).mono ?_); rintro e w3 ⟨rfl, hP, hO⟩; rw [late1 a one HG.out.1 HG.out.2.2.1] at hP; have HP1 := Aside0.mk hP; clear hP hO) | (go_at_call 16; (with_reducible refine (PS.take HP2.out 5000 now (by have := HG.out; simp; omega) H3.out (by decide)).mono ?_); rintro e w5 ⟨⟨o5, rfl, hr⟩, hP, hO⟩; rw [HTK.out] at hr; obtain ⟨ao, co, rfl, _, hr⟩ := Kd.R_reads hr; rw [HLEN.out] at hr ⊢; have HR := Aside0.mk hr; have HP3 := Aside0.mk hP.at0; clear hP hO hr))
        have HR1 := Aside0.mk (Kd.C_drew HR.out)
        have HB5 := Aside0.mk (below_drew HP3.out)
        clear HR HP3
        refine start_ (n := 18) (S := fun w' => (convert 26 9 (.slice ao n co)).run Try.prog w' = .ok (.string (strOfNums TX)) w') (ds := []) #[false, false, false, false, false, false, false, false, false, false, false, false, false, false, false, false, false, false] (by kernel_rfl) rfl rfl ((Kd.C_string Try.underlying26 Try.underlying5 Try.underlying9 HR1.out)) (fun hHeld => ?_)
        refine with_tabW late.tab14 late.bits14 (fun HT_ HW_ => ?_)
        generalize w5.drew = wd at HR1 HB5 hHeld ⊢
        refine pure_ (i := 0) (N := some 59) (v := ?_) (a' := ?_) #[true, false, false, false, false, false, false, false, false, false, false, false, false, false, false, false, false, false] rfl rfl (any_of HT_.out (by kernel_rfl)) (fun _ _ _ h => h) (Or.inl ⟨by rfl, ?_⟩) ?_ ?_
        rotate_left
        · intro w'
          go_simp
          with_reducible rfl
        rotate_left
        · simp only [Act.put, List.setIfInBounds_toArray, List.set_cons_zero, List.set_cons_succ, i64_w, i32_w]
          rfl
        refine pure_ (i := 1) (N := some 60) (v := ?_) (a' := ?_) #[true, true, false, false, false, false, false, false, false, false, false, false, false, false, false, false, false, false] rfl rfl (any_of HT_.out (by kernel_rfl)) (fun _ _ _ h => h) (Or.inl ⟨by rfl, ?_⟩) ?_ ?_
        rotate_left
        · intro w'
          go_simp
          with_reducible rfl
        rotate_left
        · simp only [Act.put, List.setIfInBounds_toArray, List.set_cons_zero, List.set_cons_succ, i64_w, i32_w]
          rfl
        refine pure_ (i := 2) (N := some 61) (v := ?_) (a' := ?_) #[true, true, true, false, false, false, false, false, false, false, false, false, false, false, false, false, false, false] rfl rfl (any_of HT_.out (by kernel_rfl)) (fun _ _ _ h => h) (Or.inl ⟨by rfl, ?_⟩) ?_ ?_
        rotate_left
        · intro w'
          go_simp
          with_reducible rfl
        rotate_left
        · simp only [Act.put, List.setIfInBounds_toArray, List.set_cons_zero, List.set_cons_succ, i64_w, i32_w]
          rfl
        refine pure_ (i := 3) (N := some 62) (v := ?_) (a' := ?_) #[true, true, true, true, false, false, false, false, false, false, false, false, false, false, false, false, false, false] rfl rfl (any_of HT_.out (by kernel_rfl)) (fun _ _ _ h => h) (Or.inl ⟨by rfl, ?_⟩) ?_ ?_
        rotate_left
        · intro w'
          go_simp
          with_reducible rfl
        rotate_left
        · simp only [Act.put, List.setIfInBounds_toArray, List.set_cons_zero, List.set_cons_succ, i64_w, i32_w]
          rfl
        refine pure_ (i := 4) (N := some 63) (v := ?_) (a' := ?_) #[true, true, true, true, true, false, false, false, false, false, false, false, false, false, false, false, false, false] rfl rfl (any_of HT_.out (by kernel_rfl)) (fun _ _ _ h => h) (Or.inl ⟨by rfl, ?_⟩) ?_ ?_
        rotate_left
        · intro w'
          go_simp
          with_reducible rfl
        rotate_left
        · simp only [Act.put, List.setIfInBounds_toArray, List.set_cons_zero, List.set_cons_succ, i64_w, i32_w]
          rfl
        refine pure_ (i := 5) (N := some 64) (v := ?_) (a' := ?_) #[true, true, true, true, true, true, false, false, false, false, false, false, false, false, false, false, false, false] rfl rfl (any_of HT_.out (by kernel_rfl)) (fun _ _ _ h => h) (Or.inl ⟨by rfl, ?_⟩) ?_ ?_
        rotate_left
        · intro w'
          go_simp
          with_reducible rfl
        rotate_left
        · simp only [Act.put, List.setIfInBounds_toArray, List.set_cons_zero, List.set_cons_succ, i64_w, i32_w]
          rfl
        refine pure_ (i := 8) (N := some 67) (v := ?_) (a' := ?_) #[true, true, true, true, true, true, false, false, true, false, false, false, false, false, false, false, false, false] rfl rfl (any_of HT_.out (by kernel_rfl)) (fun _ _ _ h => h) (Or.inl ⟨by rfl, ?_⟩) ?_ ?_
        rotate_left
        · intro w'
          go_simp
          with_reducible rfl
        rotate_left
        · simp only [Act.put, List.setIfInBounds_toArray, List.set_cons_zero, List.set_cons_succ, i64_w, i32_w]
          rfl
        refine pure_ (i := 10) (N := some 69) (v := ?_) (a' := ?_) #[true, true, true, true, true, true, false, false, true, false, true, false, false, false, false, false, false, false] rfl rfl (any_of HT_.out (by kernel_rfl)) (fun _ _ _ h => h) (Or.inl ⟨by rfl, ?_⟩) ?_ ?_
        rotate_left
        · intro w'
          go_simp
          with_reducible rfl
        rotate_left
        · simp only [Act.put, List.setIfInBounds_toArray, List.set_cons_zero, List.set_cons_succ, i64_w, i32_w]
          rfl
        refine pure_ (i := 12) (N := some 71) (v := ?_) (a' := ?_) #[true, true, true, true, true, true, false, false, true, false, true, false, true, false, false, false, false, false] rfl rfl (any_of HT_.out (by kernel_rfl)) (fun _ _ _ h => h) (Or.inl ⟨by rfl, ?_⟩) ?_ ?_
        rotate_left
        · intro w'
          go_simp
          with_reducible rfl
        rotate_left
        · simp only [Act.put, List.setIfInBounds_toArray, List.set_cons_zero, List.set_cons_succ, i64_w, i32_w]
          rfl
        refine take_ (i := 6) (N := some 65) (v := ?_) (a' := ?_) #[true, true, true, true, true, true, true, false, true, false, true, false, true, false, false, false, false, false] rfl rfl (take_ofW HT_.out HW_.out (by kernel_rfl)) (fun _ _ _ h => h) (Or.inl ⟨by rfl, ?_⟩) hHeld ?_ ?_
        rotate_left
        · intro w' s0
          go_simp
          with_reducible rfl
        rotate_left
        · simp only [Act.put, List.setIfInBounds_toArray, List.set_cons_zero, List.set_cons_succ, i64_w, i32_w]
          rfl
        refine one_ (i := 7) (N := some 66) #[true, true, true, true, true, true, true, true, true, false, true, false, true, false, false, false, false, false] rfl rfl (one_of HT_.out (by kernel_rfl)) (by decide) (fun K hK => ?_)
        refine value_ (w1 := ?_) (v := ?_) (by rfl) rfl ?_ ?_
        rotate_left 2
        · go_simp
          constructor
          · rfl
          · rfl
        have H1 := Aside0.mk (R_empty (Kd.int .u8) 5 wd wd.heap.size (Nat.le_refl _))
        have HD := Aside0.mk (below_alloc (Below.refl wd.heap.size wd) (.cells #[] 5))
        refine hK.out _ _ ((Kd.C_string Try.underlying26 Try.underlying5 Try.underlying9 (Kd.C_below HR1.out HD.out))) (fun hHeld => ?_)
        clear hK K
        refine norm_ (a' := ?_) ?_ ?_
        rotate_left
        · show Act.put _ (some 66) _ = _
          simp only [Act.put, List.setIfInBounds_toArray, List.set_cons_zero, List.set_cons_succ, i64_w, i32_w]
          rfl
        refine one_ (i := 9) (N := some 68) #[true, true, true, true, true, true, true, true, true, true, true, false, true, false, false, false, false, false] rfl rfl (one_of HT_.out (by kernel_rfl)) (by decide) (fun K hK => ?_)
        refine Kd.R_append_rows_step (Kd.int .u8) wd.heap.size (by rfl) (.tmp 66) (.tmp 67) 26 5 (.int .u8 0) 1 rfl Try.underlying26 (by kernel_rfl) (by rfl) (by decide) (by decide) _ [] a A a.length ca (fun _ => True) (fun _ => False) rfl rfl H1.out (Kd.C_below HA.out (bel_trans HB5.out HD.out)) (fun _ _ h => h) (fun k hk => hk.elim) (fun _ _ => trivial) HD.out HD.out.size (by have := HG.out; show (0 + a.length) * 1 ≤ _; simp; omega) ?_
        intro v1 w6 h1 hb hg hat
        rw [List.nil_append] at h1
        have H2' := Aside0.mk h1
        clear HD
        have HD := Aside0.mk hb
        clear h1 hb hg hat
        refine hK.out _ _ ((Kd.C_string Try.underlying26 Try.underlying5 Try.underlying9 (Kd.C_below HR1.out HD.out))) (fun hHeld => ?_)
        clear hK K
        refine norm_ (a' := ?_) ?_ ?_
        rotate_left
        · show Act.put _ (some 68) _ = _
          simp only [Act.put, List.setIfInBounds_toArray, List.set_cons_zero, List.set_cons_succ, i64_w, i32_w]
          rfl
        refine one_ (i := 11) (N := some 70) #[true, true, true, true, true, true, true, true, true, true, true, true, true, false, false, false, false, false] rfl rfl (one_of HT_.out (by kernel_rfl)) (by decide) (fun K hK => ?_)
        refine Kd.R_append_rows_step (Kd.int .u8) wd.heap.size (by rfl) (.tmp 68) (.tmp 69) 26 5 (.int .u8 0) 1 rfl Try.underlying26 (by kernel_rfl) (by rfl) (by decide) (by decide) _ a b B b.length cb (fun _ => True) (fun _ => False) rfl rfl H2'.out (Kd.C_below HB.out (bel_trans HB5.out HD.out)) (fun _ _ h => h) (fun k hk => hk.elim) (fun _ _ => trivial) HD.out HD.out.size (by have := HG.out; show (a.length + b.length) * 1 ≤ _; simp; omega) ?_
        intro v2 w7 h1 hb hg hat
        clear HD
        have HD := Aside0.mk hb
        obtain ⟨a2, c2, rfl, hc2, hC2⟩ := Kd.R_reads h1
        obtain ⟨ad2, rfl, -⟩ := hC2.2.2 (by rw [List.length_append]; have := HG.out.1; omega)
        have hC3 := Kd.C_take (m := n) hC2 (by rw [List.length_append]; exact HNN.out)
        rw [HTX.out, HLEN.out] at hC3
        have cv := Kd.C_string (c := c2) Try.underlying26 Try.underlying5 Try.underlying9 hC3
        have s3 : ((n : Nat) : Int) ≤ (c2 : Int) := Int.ofNat_le.2 (Nat.le_trans (by rw [List.length_append]; exact HNN.out) hc2)
        have s4 : n ≤ c2 := Int.ofNat_le.1 s3
        obtain ⟨NN, hNN⟩ : ∃ x, (a ++ b).length = x := ⟨_, rfl⟩
        rw [hNN]
        clear h1 hb hg hat hc2 hC2 hC3 hNN
        refine hK.out _ _ ((Kd.C_string Try.underlying26 Try.underlying5 Try.underlying9 (Kd.C_below HR1.out HD.out))) (fun hHeld => ?_)
        clear hK K
        refine norm_ (a' := ?_) ?_ ?_
        rotate_left
        · show Act.put _ (some 70) _ = _
          simp only [Act.put, List.setIfInBounds_toArray, List.set_cons_zero, List.set_cons_succ, i64_w, i32_w]
          rfl
        refine pure_ (i := 13) (N := some 72) (v := ?_) (a' := ?_) #[true, true, true, true, true, true, true, true, true, true, true, true, true, true, false, false, false, false] rfl rfl (any_of HT_.out (by kernel_rfl)) (fun _ _ _ h => h) (Or.inl ⟨by rfl, ?_⟩) ?_ ?_
        rotate_left
        · intro w'
          go_simp
          with_reducible rfl
        rotate_left
        · simp only [Act.put, List.setIfInBounds_toArray, List.set_cons_zero, List.set_cons_succ, i64_w, i32_w]
          rfl
        refine one_ (i := 14) (N := some 73) #[true, true, true, true, true, true, true, true, true, true, true, true, true, true, true, false, false, false] rfl rfl (one_of HT_.out (by kernel_rfl)) (by decide) (fun K hK => ?_)
        refine value_ (w1 := ?_) (v := ?_) (by rfl) rfl ?_ ?_
        rotate_left 2
        · go_simp
          constructor
          · rfl
          · rfl
        refine hK.out _ _ ((Kd.C_string Try.underlying26 Try.underlying5 Try.underlying9 (Kd.C_below HR1.out HD.out))) (fun hHeld => ?_)
        clear hK K
        refine norm_ (a' := ?_) ?_ ?_
        rotate_left
        · show Act.put _ (some 73) _ = _
          simp only [Act.put, List.setIfInBounds_toArray, List.set_cons_zero, List.set_cons_succ, i64_w, i32_w]
          rfl
        refine pure_ (i := 15) (N := some 74) (v := ?_) (a' := ?_) #[true, true, true, true, true, true, true, true, true, true, true, true, true, true, true, true, false, false] rfl rfl (any_of HT_.out (by kernel_rfl)) (fun _ _ _ h => h) (Or.inl ⟨by rfl, ?_⟩) ?_ ?_
        rotate_left
        · intro w'
          go_simp
          with_reducible rfl
        rotate_left
        · simp only [Act.put, List.setIfInBounds_toArray, List.set_cons_zero, List.set_cons_succ, i64_w, i32_w]
          rfl
        refine pure_ (i := 16) (N := some 75) (v := ?_) (a' := ?_) #[true, true, true, true, true, true, true, true, true, true, true, true, true, true, true, true, true, false] rfl rfl (any_of HT_.out (by kernel_rfl)) (fun _ _ _ h => h) (Or.inl ⟨by rfl, ?_⟩) ?_ ?_
        rotate_left
        · intro w'
          go_simp
          with_reducible rfl
        rotate_left
        · simp only [Act.put, List.setIfInBounds_toArray, List.set_cons_zero, List.set_cons_succ, i64_w, i32_w]
          rfl
        refine pure_ (i := 17) (N := some 10) (v := ?_) (a' := ?_) #[true, true, true, true, true, true, true, true, true, true, true, true, true, true, true, true, true, true] rfl rfl (any_of HT_.out (by kernel_rfl)) (fun _ _ _ h => h) (Or.inl ⟨by rfl, ?_⟩) ?_ ?_
        rotate_left
        · intro w'
          go_simp
          with_reducible rfl
        rotate_left
        · simp only [Act.put, List.setIfInBounds_toArray, List.set_cons_zero, List.set_cons_succ, i64_w, i32_w]
          rfl
        refine done_ (done_of HT_.out (by kernel_rfl)) ?_
        go_wp2
        go_ret
        exact ⟨rfl, bel_trans HB5.out HD.out⟩
  · have hq : (((a.length : Int) == 0) || ((b.length : Int) == 0) || decide ((1000 : Int) < (a.length : Int)) || decide ((1000 : Int) < (b.length : Int))) = true := by
      simp only [Bool.or_eq_true, decide_eq_true_eq, beq_iff_eq]
      omega
    cases e1 : ((a.length : Int) == 0) <;> cases e2 : ((b.length : Int) == 0) <;> cases e3 : decide ((1000 : Int) < (a.length : Int)) <;> cases e4 : decide ((1000 : Int) < (b.length : Int))
    · rw [e1, e2, e3, e4] at hq; exact absurd hq (by decide)
    all_goals
      clear hq hg
      go_enter Try.func4, Try.ntmps4
      go_wp2_with (go_at_call 13; (with_reducible refine (alive_calls _).mono ?_); rintro e w1 ⟨rfl, hb⟩; have HB1 := Aside0.mk hb; clear hb)
      go_ret
      exact ⟨rfl, HB1.out⟩
theorem late_row (v1 : Value) (s1 : v1 = .slice none 0 0 ∨ ∃ a n c, v1 = .slice (some a) n c) (x1 : List Int) {W : World} (K1 : kbytes.K W x1 v1.cells.toList) (o1 : okBytes x1) (v2 : Value) (s2 : v2 = .slice none 0 0 ∨ ∃ a n c, v2 = .slice (some a) n c) (x2 : List Int) (K2 : kbytes.K W x2 v2.cells.toList) (o2 : okBytes x2)
    (one : Int) (h1 : (Lit.int .u32 one).wf = true) (two : Int) (h2 : (Lit.int .u32 two).wf = true) (now : Int) (h3 : (Lit.int .u32 now).wf = true) (_ : World) :
    Calls Try.prog 4 #[v1, v2, .int .u32 one, .int .u32 two, .int .u32 now] W fun e w' => e = .returned (.bool true) ∧ Below W.heap.size W w' := by
  obtain ⟨A, ca, rfl, g1, g2⟩ := slice_of s1 K1
  obtain ⟨B, cb, rfl, g3, g4⟩ := slice_of s2 K2
  exact pipeLate_walk A ca x1 B cb x2 one two now (wf_u32 h1) (wf_u32 h2) (wf_u32 h3) W g1 g2 g3 g4
end Go.Proofs.Ytjbakaplcjkniaa.Pi
