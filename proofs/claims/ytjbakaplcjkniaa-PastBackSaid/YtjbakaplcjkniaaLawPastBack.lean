/- PastBack: what is put or cut at later versions changes nothing of an earlier one. No condition. -/
import Derived.Test.YtjbakaplcjkniaaPaG
import Derived.Deep.RegionHeld3
import Derived.Deep.AppendLies
namespace Go.Proofs.Ytjbakaplcjkniaa.Pa
open Go.RowKit Go.Maps Go.Proofs.YtjbakaplcjkniaaW.PrintWords Go.Proofs.YtjbakaplcjkniaaW.PrintLast Go.Proofs.YtjbakaplcjkniaaW.PrintMore Go.Proofs.Ytjbakaplcjkniaa.Pi Go.Proofs.Ytjbakaplcjkniaa.Q
set_option linter.unusedVariables false
set_option linter.unusedSimpArgs false
def back2.T10 : Bool × List (List Nat × List Nat) := (true, [([], []), ([], []), ([1], [1]), ([], []), ([], []), ([3, 4], [3, 4]), ([5], [5]), ([6], [6]), ([2, 7, 2], [2, 7]), ([], []), ([], []), ([9, 10], [9, 10]), ([11], [11]), ([12], [12]), ([13], [13]), ([0, 8, 14, 8], [0, 8, 14])])
def back2.B10 : List Nat := [0, 0, 2, 0, 0, 24, 56, 120, 254, 0, 0, 1536, 3584, 7680, 15872, 32767]
theorem back2.tab10 : rtab .any (opsOf Try.f11 10) = back2.T10 := by kernel_rfl
theorem back2.bits10 : waitsOk back2.T10.2 back2.B10 = true := by kernel_rfl
def back2.T11 : Bool × List (List Nat × List Nat) := (true, [([], []), ([], []), ([1], [1]), ([], []), ([], []), ([3, 4], [3, 4]), ([5], [5]), ([6], [6]), ([2, 7, 2], [2, 7]), ([], []), ([], []), ([9, 10], [9, 10]), ([11], [11]), ([12], [12]), ([0, 8, 13, 8], [0, 8, 13])])
def back2.B11 : List Nat := [0, 0, 2, 0, 0, 24, 56, 120, 254, 0, 0, 1536, 3584, 7680, 16383]
theorem back2.tab11 : rtab .any (opsOf Try.f11 11) = back2.T11 := by kernel_rfl
theorem back2.bits11 : waitsOk back2.T11.2 back2.B11 = true := by kernel_rfl
theorem parts_op {w : World} {ad : Addr} {x : OpT} {i : Nat} {A1 : Option Addr} {c1 : Nat} {A2 : Option Addr} {c2 : Nat} {A3 : Option Addr} {c3 : Nat} {v : Int} {gn : Bool} (h : OpAt w ad x i A1 c1 A2 c2 A3 c3) (hl : x.2.2.1.2.1.length ≤ 100000 ∧ x.2.2.1.2.2.length ≤ 100000) : Parts w ⟨v, gn, x.2.2.1.1, x.2.2.1.2.1, x.2.2.1.2.2⟩ A1 c1 A2 c2 := ⟨h.fit1, h.vec, h.fit2, h.tags, hl⟩
theorem u64_w {x : Int} (h1 : 0 ≤ x) (h2 : x ≤ 2000000000000) : IntKind.u64.wrap x = x := by
  unfold IntKind.wrap
  simp only [IntKind.bits, IntKind.signed, Bool.false_and, Bool.false_eq_true, if_false]
  omega
theorem ver_sum {v : Int} {i : Nat} (h : 0 ≤ v ∧ v ≤ 10000) (hi : i < 30) : IntKind.u64.wrap (IntKind.u64.wrap (v + 1) + IntKind.u64.wrap (i : Int)) = v + 1 + (i : Int) := by
  rw [u64_w (x := v + 1) (by omega) (by omega), u64_w (x := (i : Int)) (by omega) (by omega), u64_w (by omega) (by omega)]
theorem sub_len : ∀ {l l' : List Int}, l.Nodup → (∀ x ∈ l, x ∈ l') → l.length ≤ l'.length
  | [], l', _, _ => Nat.zero_le _
  | a :: l, l', hn, hs => by
    obtain ⟨h1, h2⟩ := List.nodup_cons.1 hn
    have ha := hs a List.mem_cons_self
    have := sub_len (l := l) (l' := l'.erase a) h2 (fun x hx => (List.mem_erase_of_ne (fun e => h1 (by subst e; exact hx))).2 (hs x (List.mem_cons_of_mem _ hx)))
    rw [List.length_erase_of_mem ha] at this
    have hp := List.length_pos_of_mem ha
    rw [List.length_cons]
    omega
theorem told_rows {s : St} {v : Int} {d : List Elt} (h : AllIs s.L v (d.map Elt.r)) (hs : s.Small) (hl : s.L.length ≤ 1024) : d.length ≤ 100000 ∧ ∀ e ∈ d, e.r.vec.length ≤ 100000 ∧ e.r.tags.length ≤ 100000 := by
  have hsub : ∀ x ∈ d.map Elt.r, x ∈ s.L := fun x hx => by
    obtain ⟨i, h1, _⟩ := (h.mem x).1 hx
    exact List.mem_of_getElem? h1
  have hnd : ((d.map Elt.r).map Row.id).Nodup := by
    rw [List.Nodup, List.pairwise_map]
    exact h.rise.imp (fun {a b} hab => by omega)
  have hle := sub_len (l' := s.L.map Row.id) hnd (fun x hx => by
    obtain ⟨r, hr, rfl⟩ := List.mem_map.1 hx
    exact List.mem_map.2 ⟨r, hsub r hr, rfl⟩)
  rw [List.length_map, List.length_map, List.length_map] at hle
  exact ⟨by omega, fun e he => hs _ (hsub _ (List.mem_map.2 ⟨e, he, rfl⟩))⟩
set_option maxHeartbeats 32000000 in
set_option maxRecDepth 100000 in
theorem pastBack_walk (A : Option Addr) (c : Nat) (l : List OpT) (B : Option Addr) (c' : Nat) (lat : List OpT) (w : World) (hC : Kd.C kop w A l.length l) (hok : okOps l) (hL : Kd.C kop w B lat.length lat) (hlo : okOps lat) :
    Calls Try.prog 11 #[.slice A l.length c, .slice B lat.length c'] w fun e w' => e = .returned (.bool true) ∧ Below w.heap.size w w' := by
  have hu := Try.underlying70
  have hu4 := Try.underlying54
  have HC := Aside0.mk hC
  have HOPS := Aside0.mk hok
  have HL := Aside0.mk hL
  have HLO := Aside0.mk hlo
  clear hC hok hL hlo
  go_enter Try.func11, Try.ntmps11
  go_wp2_with (first | (go_at_call 23; (with_reducible refine (alive_calls _).mono ?_); rintro e w1 ⟨rfl, hb⟩; have HB1 := Aside0.mk hb; clear hb) | (go_at_call 24; (with_reducible refine (PX.new (Z := fun _ => False) HB1.out (fun k hk => hk.elim)).mono ?_); rintro e w2 ⟨g, rfl, hP, -⟩; have HP0 := Aside0.mk hP; clear hP))
  go_loopg [6] 40 (fun gk v6 wr => ∃ (i : Nat) (s : St), v6 = .int .i64 i ∧ Aside0 (i ≤ 40 ∧ 40 - i ≤ gk) ∧ Aside0 (PX (fun _ => False) w wr g s) ∧ Aside0 (Ok s 10000) ∧ Aside0 (Ok s (i * 127)) ∧ Aside0 (s.floor = 0))
  case atStart => exact ⟨0, .new, rfl, ⟨by omega, by omega⟩, HP0, ⟨Ok.new.mono (by omega)⟩, ⟨Ok.new.mono (by omega)⟩, ⟨rfl⟩⟩
  case round =>
    clear HP0
    obtain ⟨i, s, rfl, HI, HP, HOK, HOM, HFL⟩ := hrel
    have HB := Aside0.mk HP.out.at0
    by_cases hi : i < l.length
    · have q1 : decide ((i : Int) < (l.length : Int)) = true := decide_eq_true (by omega)
      have q1' : (i : Int) < (l.length : Int) := by omega
      by_cases h40 : i < 40
      · have q2 : decide ((i : Int) < 40) = true := decide_eq_true (by omega)
        have q2' : decide (i < 40) = true := decide_eq_true h40
        obtain ⟨ad, x, A1, c1, A2, c2, A3, c3, rfl, hx, hO⟩ := op_at HC.out hi
        have HXO := Aside0.mk (HOPS.out.2 x (List.mem_of_getElem? hx))
        have HO := Aside0.mk hO
        have y0 := (hO.below HB.out).y0
        have y2 := (hO.below HB.out).y2
        have y3 := (hO.below HB.out).y3
        have y4 := (hO.below HB.out).y4
        have HI40 := Aside0.mk h40
        have HIN := Aside0.mk (show wrap64 ((i : Int) + 1) = ((i + 1 : Nat) : Int) by unfold wrap64; omega)
        have HV1 := Aside0.mk (show 0 ≤ s.last ∧ s.last ≤ 1000000000000 by have h1 := HOK.out.low; have h2 := HOK.out.high; omega)
        have HV2 := Aside0.mk (wf_i8' HXO.out.2.1)
        have HVL := Aside0.mk (show 0 ≤ verOf s.last x.2.1 ∧ verOf s.last x.2.1 ≤ ((i + 1 : Nat) : Int) * 127 by have h1 := verOf_le HV1.out.1 HV2.out; have h2 := HOM.out.high; omega)
        have HVM := Aside0.mk (show verOf s.last x.2.1 ≤ 10000 by have h1 := HVL.out; omega)
        have HUP := Aside0.mk (show (i : Int) * 127 ≤ ((i + 1 : Nat) : Int) * 127 by omega)
        obtain ⟨gk, rfl⟩ : ∃ m, gk = m + 1 := ⟨gk - 1, by have := HI.out; omega⟩
        clear hx hO hi h40
        cases q5 : (x.1.tmod 3 == 2) with
        | true =>
          go_wp2_with (go_at_call 30; (with_reducible refine (small_calls x.2.2.1.1 x.2.2.1.2.1 x.2.2.1.2.2 A1 c1 A2 c2 _ HO.out.fit1 (HO.out.below HB.out).vec HO.out.fit2 (HO.out.below HB.out).tags).mono ?_); rintro e w3 ⟨⟨r, rfl, hr⟩, hb⟩; have HP3 := Aside0.mk (HP.out.below hb); have HB3 := Aside0.mk (bel_trans HB.out hb); have y0 := (HO.out.below HB3.out).y0; have y2 := (HO.out.below HB3.out).y2; have y3 := (HO.out.below HB3.out).y3; have y4 := (HO.out.below HB3.out).y4; clear hb; rcases r with _ | _; clear hr; rotate_left; (have HSM := Aside0.mk (hr rfl)); clear hr; rotate_right)
          · go_ret
            exact ⟨rfl, HB3.out⟩
          · skip
            have HP := Aside0.mk (HP3.out.below (below_drew (Below.refl _ _)))
            have HB := Aside0.mk (bel_trans HB3.out (below_drew (Below.refl _ _)))
            clear HP3 HB3 y0 y2 y3 y4
            refine start_ (n := 16) (S := fun w' => w'.cell? ⟨(ad.add (i * 6)).block, (ad.add (i * 6)).off + 1, none⟩ = some (.int .i8 x.2.1) ∧ w'.cell? ⟨(ad.add (i * 6)).block, (ad.add (i * 6)).off + 2, none⟩ = some (.int .u32 x.2.2.1.1)) (ds := [15]) #[false, false, false, false, false, false, false, false, false, false, false, false, false, false, false, false] (by kernel_rfl) rfl rfl ⟨(HO.out.below HB.out).y1, (HO.out.below HB.out).y2⟩ (fun hHeld => ?_)
            refine with_tabW back2.tab10 back2.bits10 (fun HT_ HW_ => ?_)
            generalize w3.drew = wd at HP HB hHeld ⊢
            refine pure_ (i := 0) (N := some 41) (v := ?_) (a' := ?_) #[true, false, false, false, false, false, false, false, false, false, false, false, false, false, false, false] rfl rfl (any_of HT_.out (by kernel_rfl)) (fun _ _ _ h => h) (Or.inl ⟨by rfl, ?_⟩) ?_ ?_
            rotate_left
            · intro w'
              go_simp
              with_reducible rfl
            rotate_left
            · simp only [Act.put, List.setIfInBounds_toArray, List.set_cons_zero, List.set_cons_succ, i64_w, i32_w]
              rfl
            refine pure_ (i := 1) (N := some 42) (v := ?_) (a' := ?_) #[true, true, false, false, false, false, false, false, false, false, false, false, false, false, false, false] rfl rfl (any_of HT_.out (by kernel_rfl)) (fun _ _ _ h => h) (Or.inl ⟨by rfl, ?_⟩) ?_ ?_
            rotate_left
            · intro w'
              go_simp
              with_reducible rfl
            rotate_left
            · simp only [Act.put, List.setIfInBounds_toArray, List.set_cons_zero, List.set_cons_succ, i64_w, i32_w]
              rfl
            refine pure_ (i := 3) (N := some 44) (v := ?_) (a' := ?_) #[true, true, false, true, false, false, false, false, false, false, false, false, false, false, false, false] rfl rfl (any_of HT_.out (by kernel_rfl)) (fun _ _ _ h => h) (Or.inl ⟨by rfl, ?_⟩) ?_ ?_
            rotate_left
            · intro w'
              go_simp
              with_reducible rfl
            rotate_left
            · simp only [Act.put, List.setIfInBounds_toArray, List.set_cons_zero, List.set_cons_succ, i64_w, i32_w]
              rfl
            refine pure_ (i := 4) (N := some 45) (v := ?_) (a' := ?_) #[true, true, false, true, true, false, false, false, false, false, false, false, false, false, false, false] rfl rfl (any_of HT_.out (by kernel_rfl)) (fun _ _ _ h => h) (Or.inl ⟨by rfl, ?_⟩) ?_ ?_
            rotate_left
            · intro w'
              go_simp
              with_reducible rfl
            rotate_left
            · simp only [Act.put, List.setIfInBounds_toArray, List.set_cons_zero, List.set_cons_succ, i64_w, i32_w]
              rfl
            refine pure_ (i := 5) (N := some 46) (v := ?_) (a' := ?_) #[true, true, false, true, true, true, false, false, false, false, false, false, false, false, false, false] rfl rfl (any_of HT_.out (by kernel_rfl)) (fun _ _ _ h => h) (Or.inl ⟨by rfl, ?_⟩) ?_ ?_
            rotate_left
            · intro w'
              go_simp
              with_reducible rfl
            rotate_left
            · simp only [Act.put, List.setIfInBounds_toArray, List.set_cons_zero, List.set_cons_succ, i64_w, i32_w]
              rfl
            refine pure_ (i := 6) (N := some 47) (v := ?_) (a' := ?_) #[true, true, false, true, true, true, true, false, false, false, false, false, false, false, false, false] rfl rfl (any_of HT_.out (by kernel_rfl)) (fun _ _ _ h => h) (Or.inl ⟨by rfl, ?_⟩) ?_ ?_
            rotate_left
            · intro w'
              go_simp
              with_reducible rfl
            rotate_left
            · simp only [Act.put, List.setIfInBounds_toArray, List.set_cons_zero, List.set_cons_succ, i64_w, i32_w]
              rfl
            refine pure_ (i := 9) (N := some 50) (v := ?_) (a' := ?_) #[true, true, false, true, true, true, true, false, false, true, false, false, false, false, false, false] rfl rfl (any_of HT_.out (by kernel_rfl)) (fun _ _ _ h => h) (Or.inl ⟨by rfl, ?_⟩) ?_ ?_
            rotate_left
            · intro w'
              go_simp
              with_reducible rfl
            rotate_left
            · simp only [Act.put, List.setIfInBounds_toArray, List.set_cons_zero, List.set_cons_succ, i64_w, i32_w]
              rfl
            refine pure_ (i := 10) (N := some 51) (v := ?_) (a' := ?_) #[true, true, false, true, true, true, true, false, false, true, true, false, false, false, false, false] rfl rfl (any_of HT_.out (by kernel_rfl)) (fun _ _ _ h => h) (Or.inl ⟨by rfl, ?_⟩) ?_ ?_
            rotate_left
            · intro w'
              go_simp
              with_reducible rfl
            rotate_left
            · simp only [Act.put, List.setIfInBounds_toArray, List.set_cons_zero, List.set_cons_succ, i64_w, i32_w]
              rfl
            refine pure_ (i := 11) (N := some 52) (v := ?_) (a' := ?_) #[true, true, false, true, true, true, true, false, false, true, true, true, false, false, false, false] rfl rfl (any_of HT_.out (by kernel_rfl)) (fun _ _ _ h => h) (Or.inl ⟨by rfl, ?_⟩) ?_ ?_
            rotate_left
            · intro w'
              go_simp
              with_reducible rfl
            rotate_left
            · simp only [Act.put, List.setIfInBounds_toArray, List.set_cons_zero, List.set_cons_succ, i64_w, i32_w]
              rfl
            refine pure_ (i := 12) (N := some 53) (v := ?_) (a' := ?_) #[true, true, false, true, true, true, true, false, false, true, true, true, true, false, false, false] rfl rfl (any_of HT_.out (by kernel_rfl)) (fun _ _ _ h => h) (Or.inl ⟨by rfl, ?_⟩) ?_ ?_
            rotate_left
            · intro w'
              go_simp
              with_reducible rfl
            rotate_left
            · simp only [Act.put, List.setIfInBounds_toArray, List.set_cons_zero, List.set_cons_succ, i64_w, i32_w]
              rfl
            refine pure_ (i := 13) (N := some 54) (v := ?_) (a' := ?_) #[true, true, false, true, true, true, true, false, false, true, true, true, true, true, false, false] rfl rfl (any_of HT_.out (by kernel_rfl)) (fun _ _ _ h => h) (Or.inl ⟨by rfl, ?_⟩) ?_ ?_
            rotate_left
            · intro w'
              go_simp
              with_reducible rfl
            rotate_left
            · simp only [Act.put, List.setIfInBounds_toArray, List.set_cons_zero, List.set_cons_succ, i64_w, i32_w]
              rfl
            refine take_ (i := 7) (N := some 48) (v := ?_) (a' := ?_) #[true, true, false, true, true, true, true, true, false, true, true, true, true, true, false, false] rfl rfl (take_ofW HT_.out HW_.out (by kernel_rfl)) (fun _ _ _ h => h) (Or.inl ⟨by rfl, ?_⟩) hHeld ?_ ?_
            rotate_left
            · rintro w' ⟨s0, s1⟩
              go_simp
              with_reducible rfl
            rotate_left
            · simp only [Act.put, List.setIfInBounds_toArray, List.set_cons_zero, List.set_cons_succ, i64_w, i32_w]
              rfl
            refine take_ (i := 14) (N := some 55) (v := ?_) (a' := ?_) #[true, true, false, true, true, true, true, true, false, true, true, true, true, true, true, false] rfl rfl (take_ofW HT_.out HW_.out (by kernel_rfl)) (fun _ _ _ h => h) (Or.inl ⟨by rfl, ?_⟩) hHeld ?_ ?_
            rotate_left
            · rintro w' ⟨s0, s1⟩
              go_simp
              with_reducible rfl
            rotate_left
            · simp only [Act.put, List.setIfInBounds_toArray, List.set_cons_zero, List.set_cons_succ, i64_w, i32_w]
              rfl
            refine one_ (i := 2) (N := some 43) #[true, true, true, true, true, true, true, true, false, true, true, true, true, true, true, false] rfl rfl (one_of HT_.out (by kernel_rfl)) (by decide) (fun K hK => ?_)
            refine goes_ Try.func27 (by kernel_rfl) rfl #[.pointer (some ⟨g, 0, none⟩)] (by rfl) rfl rfl (by simp only [List.map_toArray, List.map_cons, List.map_nil]; rfl) ?_
            with_reducible refine (PX.last HP.out).mono ?_
            rintro e w4 ⟨rfl, hP, hb⟩
            refine ⟨_, rfl, ?_⟩
            have HP4 := Aside0.mk hP
            have HB4 := Aside0.mk (bel_trans HB.out hb)
            clear hP hb HP HB
            refine hK.out _ _ ⟨(HO.out.below HB4.out).y1, (HO.out.below HB4.out).y2⟩ (fun hHeld => ?_)
            clear hK K
            refine norm_ (a' := ?_) ?_ ?_
            rotate_left
            · show Act.put _ (some 43) _ = _
              simp only [Act.put, List.setIfInBounds_toArray, List.set_cons_zero, List.set_cons_succ, i64_w, i32_w]
              rfl
            refine one_ (i := 8) (N := some 49) #[true, true, true, true, true, true, true, true, true, true, true, true, true, true, true, false] rfl rfl (one_of HT_.out (by kernel_rfl)) (by decide) (fun K hK => ?_)
            refine goes_ Try.func34 (by kernel_rfl) rfl #[.int .u64 s.last, .int .i8 x.2.1] (by rfl) rfl rfl (by simp only [List.map_toArray, List.map_cons, List.map_nil]; rfl) ?_
            with_reducible refine (ver_calls s.last x.2.1 _ HV1.out HV2.out).mono ?_
            rintro e w5 ⟨rfl, hb⟩
            refine ⟨_, rfl, ?_⟩
            have HP5 := Aside0.mk (HP4.out.below hb)
            have HB5 := Aside0.mk (bel_trans HB4.out hb)
            clear hb HP4 HB4
            refine hK.out _ _ ⟨(HO.out.below HB5.out).y1, (HO.out.below HB5.out).y2⟩ (fun hHeld => ?_)
            clear hK K
            refine norm_ (a' := ?_) ?_ ?_
            rotate_left
            · show Act.put _ (some 49) _ = _
              simp only [Act.put, List.setIfInBounds_toArray, List.set_cons_zero, List.set_cons_succ, i64_w, i32_w]
              rfl
            refine last_ (i := 15) (N := some 56) #[true, true, true, true, true, true, true, true, true, true, true, true, true, true, true, true] rfl rfl (one_of HT_.out (by kernel_rfl)) (by decide) (fun K hK => ?_)
            refine goes_ Try.func26 (by kernel_rfl) rfl #[.pointer (some ⟨g, 0, none⟩), .int .u64 (verOf s.last x.2.1), .int .u32 x.2.2.1.1] (by rfl) rfl rfl (by simp only [List.map_toArray, List.map_cons, List.map_nil]; rfl) ?_
            with_reducible refine (PX.cut HP5.out (verOf s.last x.2.1) x.2.2.1.1).mono ?_
            rintro e w6 ⟨rfl, hP, -⟩
            refine ⟨_, rfl, ?_⟩
            have HP6 := Aside0.mk hP
            clear hP
            refine hK.out _ _ ?_
            clear hK K
            refine norm_ (a' := ?_) ?_ ?_
            rotate_left
            · show Act.put _ (some 56) _ = _
              simp only [Act.put, List.setIfInBounds_toArray, List.set_cons_zero, List.set_cons_succ, i64_w, i32_w]
              rfl
            refine done_ (done_of HT_.out (by kernel_rfl)) ?_
            go_wp2
            go_roundg gk
            case measure => omega
            case rel => exact ⟨i + 1, _, congrArg (Value.int .i64) HIN.out, ⟨by have := HI40.out; omega, by have := HI.out; have := HI40.out; omega⟩, HP6, ⟨HOK.out.cut (Int.le_refl _) HXO.out.2.2.1.1 HVL.out.1 HVM.out⟩, ⟨HOM.out.cut HUP.out HXO.out.2.2.1.1 HVL.out.1 HVL.out.2⟩, ⟨(cut_floor _ _ _).1.trans HFL.out⟩⟩
        | false =>
          go_wp2_with (go_at_call 30; (with_reducible refine (small_calls x.2.2.1.1 x.2.2.1.2.1 x.2.2.1.2.2 A1 c1 A2 c2 _ HO.out.fit1 (HO.out.below HB.out).vec HO.out.fit2 (HO.out.below HB.out).tags).mono ?_); rintro e w3 ⟨⟨r, rfl, hr⟩, hb⟩; have HP3 := Aside0.mk (HP.out.below hb); have HB3 := Aside0.mk (bel_trans HB.out hb); have y0 := (HO.out.below HB3.out).y0; have y2 := (HO.out.below HB3.out).y2; have y3 := (HO.out.below HB3.out).y3; have y4 := (HO.out.below HB3.out).y4; clear hb; rcases r with _ | _; clear hr; rotate_left; (have HSM := Aside0.mk (hr rfl)); clear hr; rotate_right)
          · go_ret
            exact ⟨rfl, HB3.out⟩
          · skip
            have HP := Aside0.mk (HP3.out.below (below_drew (Below.refl _ _)))
            have HB := Aside0.mk (bel_trans HB3.out (below_drew (Below.refl _ _)))
            clear HP3 HB3 y0 y2 y3 y4
            refine start_ (n := 15) (S := fun w' => w'.cell? ⟨(ad.add (i * 6)).block, (ad.add (i * 6)).off + 1, none⟩ = some (.int .i8 x.2.1) ∧ w'.cell? ⟨(ad.add (i * 6)).block, (ad.add (i * 6)).off + 2, none⟩ = some (.int .u32 x.2.2.1.1) ∧ w'.cell? ⟨(ad.add (i * 6)).block, (ad.add (i * 6)).off + 2 + 1, none⟩ = some (.slice A1 x.2.2.1.2.1.length c1) ∧ w'.cell? ⟨(ad.add (i * 6)).block, (ad.add (i * 6)).off + 2 + 2, none⟩ = some (.slice A2 x.2.2.1.2.2.length c2)) (ds := [14]) #[false, false, false, false, false, false, false, false, false, false, false, false, false, false, false] (by kernel_rfl) rfl rfl ⟨(HO.out.below HB.out).y1, (HO.out.below HB.out).y2, (HO.out.below HB.out).y3, (HO.out.below HB.out).y4⟩ (fun hHeld => ?_)
            refine with_tabW back2.tab11 back2.bits11 (fun HT_ HW_ => ?_)
            generalize w3.drew = wd at HP HB hHeld ⊢
            refine pure_ (i := 0) (N := some 57) (v := ?_) (a' := ?_) #[true, false, false, false, false, false, false, false, false, false, false, false, false, false, false] rfl rfl (any_of HT_.out (by kernel_rfl)) (fun _ _ _ h => h) (Or.inl ⟨by rfl, ?_⟩) ?_ ?_
            rotate_left
            · intro w'
              go_simp
              with_reducible rfl
            rotate_left
            · simp only [Act.put, List.setIfInBounds_toArray, List.set_cons_zero, List.set_cons_succ, i64_w, i32_w]
              rfl
            refine pure_ (i := 1) (N := some 58) (v := ?_) (a' := ?_) #[true, true, false, false, false, false, false, false, false, false, false, false, false, false, false] rfl rfl (any_of HT_.out (by kernel_rfl)) (fun _ _ _ h => h) (Or.inl ⟨by rfl, ?_⟩) ?_ ?_
            rotate_left
            · intro w'
              go_simp
              with_reducible rfl
            rotate_left
            · simp only [Act.put, List.setIfInBounds_toArray, List.set_cons_zero, List.set_cons_succ, i64_w, i32_w]
              rfl
            refine pure_ (i := 3) (N := some 60) (v := ?_) (a' := ?_) #[true, true, false, true, false, false, false, false, false, false, false, false, false, false, false] rfl rfl (any_of HT_.out (by kernel_rfl)) (fun _ _ _ h => h) (Or.inl ⟨by rfl, ?_⟩) ?_ ?_
            rotate_left
            · intro w'
              go_simp
              with_reducible rfl
            rotate_left
            · simp only [Act.put, List.setIfInBounds_toArray, List.set_cons_zero, List.set_cons_succ, i64_w, i32_w]
              rfl
            refine pure_ (i := 4) (N := some 61) (v := ?_) (a' := ?_) #[true, true, false, true, true, false, false, false, false, false, false, false, false, false, false] rfl rfl (any_of HT_.out (by kernel_rfl)) (fun _ _ _ h => h) (Or.inl ⟨by rfl, ?_⟩) ?_ ?_
            rotate_left
            · intro w'
              go_simp
              with_reducible rfl
            rotate_left
            · simp only [Act.put, List.setIfInBounds_toArray, List.set_cons_zero, List.set_cons_succ, i64_w, i32_w]
              rfl
            refine pure_ (i := 5) (N := some 62) (v := ?_) (a' := ?_) #[true, true, false, true, true, true, false, false, false, false, false, false, false, false, false] rfl rfl (any_of HT_.out (by kernel_rfl)) (fun _ _ _ h => h) (Or.inl ⟨by rfl, ?_⟩) ?_ ?_
            rotate_left
            · intro w'
              go_simp
              with_reducible rfl
            rotate_left
            · simp only [Act.put, List.setIfInBounds_toArray, List.set_cons_zero, List.set_cons_succ, i64_w, i32_w]
              rfl
            refine pure_ (i := 6) (N := some 63) (v := ?_) (a' := ?_) #[true, true, false, true, true, true, true, false, false, false, false, false, false, false, false] rfl rfl (any_of HT_.out (by kernel_rfl)) (fun _ _ _ h => h) (Or.inl ⟨by rfl, ?_⟩) ?_ ?_
            rotate_left
            · intro w'
              go_simp
              with_reducible rfl
            rotate_left
            · simp only [Act.put, List.setIfInBounds_toArray, List.set_cons_zero, List.set_cons_succ, i64_w, i32_w]
              rfl
            refine pure_ (i := 9) (N := some 66) (v := ?_) (a' := ?_) #[true, true, false, true, true, true, true, false, false, true, false, false, false, false, false] rfl rfl (any_of HT_.out (by kernel_rfl)) (fun _ _ _ h => h) (Or.inl ⟨by rfl, ?_⟩) ?_ ?_
            rotate_left
            · intro w'
              go_simp
              with_reducible rfl
            rotate_left
            · simp only [Act.put, List.setIfInBounds_toArray, List.set_cons_zero, List.set_cons_succ, i64_w, i32_w]
              rfl
            refine pure_ (i := 10) (N := some 67) (v := ?_) (a' := ?_) #[true, true, false, true, true, true, true, false, false, true, true, false, false, false, false] rfl rfl (any_of HT_.out (by kernel_rfl)) (fun _ _ _ h => h) (Or.inl ⟨by rfl, ?_⟩) ?_ ?_
            rotate_left
            · intro w'
              go_simp
              with_reducible rfl
            rotate_left
            · simp only [Act.put, List.setIfInBounds_toArray, List.set_cons_zero, List.set_cons_succ, i64_w, i32_w]
              rfl
            refine pure_ (i := 11) (N := some 68) (v := ?_) (a' := ?_) #[true, true, false, true, true, true, true, false, false, true, true, true, false, false, false] rfl rfl (any_of HT_.out (by kernel_rfl)) (fun _ _ _ h => h) (Or.inl ⟨by rfl, ?_⟩) ?_ ?_
            rotate_left
            · intro w'
              go_simp
              with_reducible rfl
            rotate_left
            · simp only [Act.put, List.setIfInBounds_toArray, List.set_cons_zero, List.set_cons_succ, i64_w, i32_w]
              rfl
            refine pure_ (i := 12) (N := some 69) (v := ?_) (a' := ?_) #[true, true, false, true, true, true, true, false, false, true, true, true, true, false, false] rfl rfl (any_of HT_.out (by kernel_rfl)) (fun _ _ _ h => h) (Or.inl ⟨by rfl, ?_⟩) ?_ ?_
            rotate_left
            · intro w'
              go_simp
              with_reducible rfl
            rotate_left
            · simp only [Act.put, List.setIfInBounds_toArray, List.set_cons_zero, List.set_cons_succ, i64_w, i32_w]
              rfl
            refine take_ (i := 7) (N := some 64) (v := ?_) (a' := ?_) #[true, true, false, true, true, true, true, true, false, true, true, true, true, false, false] rfl rfl (take_ofW HT_.out HW_.out (by kernel_rfl)) (fun _ _ _ h => h) (Or.inl ⟨by rfl, ?_⟩) hHeld ?_ ?_
            rotate_left
            · rintro w' ⟨s0, s1, s2, s3⟩
              go_simp
              with_reducible rfl
            rotate_left
            · simp only [Act.put, List.setIfInBounds_toArray, List.set_cons_zero, List.set_cons_succ, i64_w, i32_w]
              rfl
            refine take_ (i := 13) (N := some 70) (v := ?_) (a' := ?_) #[true, true, false, true, true, true, true, true, false, true, true, true, true, true, false] rfl rfl (take_ofW HT_.out HW_.out (by kernel_rfl)) (fun _ _ _ h => h) (Or.inl ⟨by rfl, ?_⟩) hHeld ?_ ?_
            rotate_left
            · rintro w' ⟨s0, s1, s2, s3⟩
              go_simp
              with_reducible rfl
            rotate_left
            · simp only [Act.put, List.setIfInBounds_toArray, List.set_cons_zero, List.set_cons_succ, i64_w, i32_w]
              rfl
            refine one_ (i := 2) (N := some 59) #[true, true, true, true, true, true, true, true, false, true, true, true, true, true, false] rfl rfl (one_of HT_.out (by kernel_rfl)) (by decide) (fun K hK => ?_)
            refine goes_ Try.func27 (by kernel_rfl) rfl #[.pointer (some ⟨g, 0, none⟩)] (by rfl) rfl rfl (by simp only [List.map_toArray, List.map_cons, List.map_nil]; rfl) ?_
            with_reducible refine (PX.last HP.out).mono ?_
            rintro e w4 ⟨rfl, hP, hb⟩
            refine ⟨_, rfl, ?_⟩
            have HP4 := Aside0.mk hP
            have HB4 := Aside0.mk (bel_trans HB.out hb)
            clear hP hb HP HB
            refine hK.out _ _ ⟨(HO.out.below HB4.out).y1, (HO.out.below HB4.out).y2, (HO.out.below HB4.out).y3, (HO.out.below HB4.out).y4⟩ (fun hHeld => ?_)
            clear hK K
            refine norm_ (a' := ?_) ?_ ?_
            rotate_left
            · show Act.put _ (some 59) _ = _
              simp only [Act.put, List.setIfInBounds_toArray, List.set_cons_zero, List.set_cons_succ, i64_w, i32_w]
              rfl
            refine one_ (i := 8) (N := some 65) #[true, true, true, true, true, true, true, true, true, true, true, true, true, true, false] rfl rfl (one_of HT_.out (by kernel_rfl)) (by decide) (fun K hK => ?_)
            refine goes_ Try.func34 (by kernel_rfl) rfl #[.int .u64 s.last, .int .i8 x.2.1] (by rfl) rfl rfl (by simp only [List.map_toArray, List.map_cons, List.map_nil]; rfl) ?_
            with_reducible refine (ver_calls s.last x.2.1 _ HV1.out HV2.out).mono ?_
            rintro e w5 ⟨rfl, hb⟩
            refine ⟨_, rfl, ?_⟩
            have HP5 := Aside0.mk (HP4.out.below hb)
            have HB5 := Aside0.mk (bel_trans HB4.out hb)
            clear hb HP4 HB4
            refine hK.out _ _ ⟨(HO.out.below HB5.out).y1, (HO.out.below HB5.out).y2, (HO.out.below HB5.out).y3, (HO.out.below HB5.out).y4⟩ (fun hHeld => ?_)
            clear hK K
            refine norm_ (a' := ?_) ?_ ?_
            rotate_left
            · show Act.put _ (some 65) _ = _
              simp only [Act.put, List.setIfInBounds_toArray, List.set_cons_zero, List.set_cons_succ, i64_w, i32_w]
              rfl
            refine last_ (i := 14) (N := some 71) #[true, true, true, true, true, true, true, true, true, true, true, true, true, true, true] rfl rfl (one_of HT_.out (by kernel_rfl)) (by decide) (fun K hK => ?_)
            refine goes_ Try.func25 (by kernel_rfl) rfl #[.pointer (some ⟨g, 0, none⟩), .int .u64 (verOf s.last x.2.1), .agg #[.int .u32 x.2.2.1.1, .slice A1 x.2.2.1.2.1.length c1, .slice A2 x.2.2.1.2.2.length c2]] (by rfl) rfl rfl (by simp only [List.map_toArray, List.map_cons, List.map_nil]; rfl) ?_
            with_reducible refine (PX.put HP5.out ⟨verOf s.last x.2.1, false, x.2.2.1.1, x.2.2.1.2.1, x.2.2.1.2.2⟩ A1 c1 A2 c2 rfl (parts_op (HO.out.below HB5.out) HSM.out) HVL.out.1 (fun k hk => hk.elim)).mono ?_
            rintro e w6 ⟨rfl, hP, -⟩
            refine ⟨_, rfl, ?_⟩
            have HP6 := Aside0.mk hP
            clear hP
            refine hK.out _ _ ?_
            clear hK K
            refine norm_ (a' := ?_) ?_ ?_
            rotate_left
            · show Act.put _ (some 71) _ = _
              simp only [Act.put, List.setIfInBounds_toArray, List.set_cons_zero, List.set_cons_succ, i64_w, i32_w]
              rfl
            refine done_ (done_of HT_.out (by kernel_rfl)) ?_
            go_wp2
            go_roundg gk
            case measure => omega
            case rel => exact ⟨i + 1, _, congrArg (Value.int .i64) HIN.out, ⟨by have := HI40.out; omega, by have := HI.out; have := HI40.out; omega⟩, HP6, ⟨HOK.out.lay (Int.le_refl _) HSM.out HXO.out.2.2.1.1 HVL.out.1 HVM.out⟩, ⟨HOM.out.lay HUP.out HSM.out HXO.out.2.2.1.1 HVL.out.1 HVL.out.2⟩, ⟨(lay_floor _ _).1.trans HFL.out⟩⟩
      · have q2 : decide ((i : Int) < 40) = false := decide_eq_false (by omega)
        have q2' : decide (i < 40) = false := decide_eq_false h40
        clear hi h40 HI
        have HB := Aside0.mk HP.out.at0
        obtain ⟨v, hv⟩ : ∃ z, s.last = z := ⟨_, rfl⟩
        have HVE := Aside0.mk hv
        have HV0 := Aside0.mk (show 0 ≤ v ∧ v ≤ 10000 by rw [← hv]; exact ⟨HOK.out.low, HOK.out.high⟩)
        go_wp2_with (first
          | (go_at_call 27; (with_reducible refine (PX.last HP.out).mono ?_); rintro e w3 ⟨rfl, hP, hb⟩; rw [HVE.out]; have HP3 := Aside0.mk hP; clear hP hb)
          | (go_at_call 32; (with_reducible refine (PX.all_known HP3.out HOK.out.small HOK.out.fit v (known_zero HFL.out HV0.out.1)).mono ?_); rintro e w4 ⟨⟨a1, d1, rfl, ho, he, hal⟩, hP, hb⟩; have HT1 := Aside0.mk (show Told w4 w3.heap.size a1 d1 from ⟨ho, he⟩); have HAL := Aside0.mk hal; have HP4 := Aside0.mk hP; clear ho he hal hP hb))
        have HDR := Aside0.mk (told_rows HAL.out HOK.out.small HP3.out.rows)
        have HDL := Aside0.mk HDR.out.1
        have HDX := Aside0.mk HDR.out.2
        clear hv
        go_loopg [10] 30 (fun gk v10 wr => ∃ (i : Nat) (s2 : St), v10 = .int .i64 i ∧ Aside0 (i ≤ lat.length ∧ i ≤ 30 ∧ 30 - i ≤ gk) ∧ Aside0 (PX (fun _ => False) w wr g s2) ∧ Aside0 (Ok s2 20000) ∧ Aside0 (s2.floor = 0) ∧ Aside0 (Young s s2 v) ∧ Aside0 (Told wr w3.heap.size a1 d1))
        case atStart => exact ⟨0, s, rfl, ⟨by omega, by omega, by omega⟩, HP4, ⟨HOK.out.mono (by omega)⟩, HFL, ⟨Young.refl _ _⟩, HT1⟩
        case round =>
          clear HP HP3 HP4 HOK HFL HT1 HB
          obtain ⟨i, s2, rfl, HI, HP, HOK, HFL, HY, HT⟩ := hrel
          have HB := Aside0.mk HP.out.at0
          have HV1 := HV0
          have HV0 := Aside0.mk HV1.out.1
          by_cases hi : i < lat.length
          · have q1 : decide ((i : Int) < (lat.length : Int)) = true := decide_eq_true (by omega)
            have q1' : (i : Int) < (lat.length : Int) := by omega
            by_cases h30 : i < 30
            · have q2 : decide ((i : Int) < 30) = true := decide_eq_true (by omega)
              have q2' : decide (i < 30) = true := decide_eq_true h30
              obtain ⟨ad, x, A1, c1, A2, c2, A3, c3, rfl, hx, hO⟩ := op_at HL.out hi
              have HXO := Aside0.mk (HLO.out.2 x (List.mem_of_getElem? hx))
              have HO := Aside0.mk hO
              have y0 := (hO.below HB.out).y0
              have y2 := (hO.below HB.out).y2
              have y3 := (hO.below HB.out).y3
              have y4 := (hO.below HB.out).y4
              have HI30 := Aside0.mk h30
              have HIL := Aside0.mk hi
              have HIN := Aside0.mk (show wrap64 ((i : Int) + 1) = ((i + 1 : Nat) : Int) by unfold wrap64; omega)
              have HVV := Aside0.mk (show IntKind.u64.wrap (IntKind.u64.wrap (v + 1) + IntKind.u64.wrap (i : Int)) = v + 1 + (i : Int) from ver_sum HV1.out h30)
              obtain ⟨gk, rfl⟩ : ∃ m, gk = m + 1 := ⟨gk - 1, by have := HI.out; omega⟩
              clear hx hO hi h30
              have HVR := Aside0.mk (show 0 ≤ v + 1 + (i : Int) ∧ v + 1 + (i : Int) ≤ 20000 ∧ v < v + 1 + (i : Int) by have := HV1.out; have := HI30.out; omega)
              cases q5 : (x.1.tmod 3 == 2) with
              | true =>
                go_wp2_with (first
                  | (go_at_call 30; (with_reducible refine (small_calls x.2.2.1.1 x.2.2.1.2.1 x.2.2.1.2.2 A1 c1 A2 c2 _ HO.out.fit1 (HO.out.below HB.out).vec HO.out.fit2 (HO.out.below HB.out).tags).mono ?_); rintro e w5 ⟨⟨r, rfl, hr⟩, hb⟩; have HP5 := Aside0.mk (HP.out.below hb); have HB5 := Aside0.mk (bel_trans HB.out hb); have HT5 := Aside0.mk (HT.out.below hb); have y0 := (HO.out.below HB5.out).y0; have y2 := (HO.out.below HB5.out).y2; have y3 := (HO.out.below HB5.out).y3; have y4 := (HO.out.below HB5.out).y4; clear hb; rcases r with _ | _; clear hr; rotate_left; (have HSM := Aside0.mk (hr rfl)); clear hr; rotate_right)
                  | (go_at_call 26; rw [HVV.out]; (with_reducible refine (PX.cut HP5.out (v + 1 + (i : Int)) x.2.2.1.1).mono ?_); rintro e w6 ⟨rfl, hP, hO6⟩; have HP6 := Aside0.mk hP; have HT6 := Aside0.mk (HT5.out.tt hO6); clear hP hO6))
                · go_ret
                  exact ⟨rfl, HB5.out⟩
                · go_roundg gk
                  case measure => omega
                  case rel => exact ⟨i + 1, _, congrArg (Value.int .i64) HIN.out, ⟨by have := HIL.out; omega, by have := HI30.out; omega, by have := HI.out; have := HI30.out; omega⟩, HP6, ⟨HOK.out.cut (by omega) HXO.out.2.2.1.1 HVR.out.1 HVR.out.2.1⟩, ⟨(cut_floor _ _ _).1.trans HFL.out⟩, ⟨HY.out.cut HVR.out.2.2⟩, HT6⟩
              | false =>
                go_wp2_with (first
                  | (go_at_call 30; (with_reducible refine (small_calls x.2.2.1.1 x.2.2.1.2.1 x.2.2.1.2.2 A1 c1 A2 c2 _ HO.out.fit1 (HO.out.below HB.out).vec HO.out.fit2 (HO.out.below HB.out).tags).mono ?_); rintro e w5 ⟨⟨r, rfl, hr⟩, hb⟩; have HP5 := Aside0.mk (HP.out.below hb); have HB5 := Aside0.mk (bel_trans HB.out hb); have HT5 := Aside0.mk (HT.out.below hb); have y0 := (HO.out.below HB5.out).y0; have y2 := (HO.out.below HB5.out).y2; have y3 := (HO.out.below HB5.out).y3; have y4 := (HO.out.below HB5.out).y4; clear hb; rcases r with _ | _; clear hr; rotate_left; (have HSM := Aside0.mk (hr rfl)); clear hr; rotate_right)
                  | (go_at_call 25; rw [HVV.out]; (with_reducible refine (PX.put HP5.out ⟨v + 1 + (i : Int), false, x.2.2.1.1, x.2.2.1.2.1, x.2.2.1.2.2⟩ A1 c1 A2 c2 rfl (parts_op (HO.out.below HB5.out) HSM.out) HVR.out.1 (fun k hk => hk.elim)).mono ?_); rintro e w6 ⟨rfl, hP, hO6⟩; have HP6 := Aside0.mk hP; have HT6 := Aside0.mk (HT5.out.tt hO6); clear hP hO6))
                · go_ret
                  exact ⟨rfl, HB5.out⟩
                · go_roundg gk
                  case measure => omega
                  case rel => exact ⟨i + 1, _, congrArg (Value.int .i64) HIN.out, ⟨by have := HIL.out; omega, by have := HI30.out; omega, by have := HI.out; have := HI30.out; omega⟩, HP6, ⟨HOK.out.lay (by omega) HSM.out HXO.out.2.2.1.1 HVR.out.1 HVR.out.2.1⟩, ⟨(lay_floor _ _).1.trans HFL.out⟩, ⟨HY.out.lay HVR.out.2.2⟩, HT6⟩
            · have q2 : decide ((i : Int) < 30) = false := decide_eq_false (by omega)
              have q2' : decide (i < 30) = false := decide_eq_false h30
              clear hi h30 HI
              go_wp2_with (first
                | (go_at_call 32; (with_reducible refine (PX.all_known HP.out HOK.out.small HOK.out.fit v (known_zero HFL.out HV0.out)).mono ?_); rintro e w8 ⟨⟨a2, d2, rfl, ho, he, hal⟩, hP, hb⟩; have HT2 := Aside0.mk (show Told w8 wr.heap.size a2 d2 from ⟨ho, he⟩); have HT8 := Aside0.mk (HT.out.below hb); have HE8 := Aside0.mk (show d1.map Elt.r = d2.map Elt.r by obtain ⟨E, h1, h2⟩ := HY.out; rw [h1] at hal; exact HAL.out.young hal h2); have HB8 := Aside0.mk (bel_trans HP.out.at0 hb); clear ho he hal hP hb)
                | (go_at_call 35; (with_reducible refine (same_calls HT8.out HT2.out HE8.out HDL.out HDX.out).mono ?_); rintro e w9 ⟨rfl, hb⟩; have HB9 := Aside0.mk (bel_trans HB8.out hb); clear hb))
              go_ret
              exact ⟨rfl, HB9.out⟩
          · have q1 : decide ((i : Int) < (lat.length : Int)) = false := decide_eq_false (by omega)
            have q1' : (i < lat.length) = False := eq_false hi
            have q1'' : decide (i < lat.length) = false := decide_eq_false hi
            clear hi HI
            go_wp2_with (first
              | (go_at_call 32; (with_reducible refine (PX.all_known HP.out HOK.out.small HOK.out.fit v (known_zero HFL.out HV0.out)).mono ?_); rintro e w8 ⟨⟨a2, d2, rfl, ho, he, hal⟩, hP, hb⟩; have HT2 := Aside0.mk (show Told w8 wr.heap.size a2 d2 from ⟨ho, he⟩); have HT8 := Aside0.mk (HT.out.below hb); have HE8 := Aside0.mk (show d1.map Elt.r = d2.map Elt.r by obtain ⟨E, h1, h2⟩ := HY.out; rw [h1] at hal; exact HAL.out.young hal h2); have HB8 := Aside0.mk (bel_trans HP.out.at0 hb); clear ho he hal hP hb)
              | (go_at_call 35; (with_reducible refine (same_calls HT8.out HT2.out HE8.out HDL.out HDX.out).mono ?_); rintro e w9 ⟨rfl, hb⟩; have HB9 := Aside0.mk (bel_trans HB8.out hb); clear hb))
            go_ret
            exact ⟨rfl, HB9.out⟩
    · have q1 : decide ((i : Int) < (l.length : Int)) = false := decide_eq_false (by omega)
      have q1' : (i < l.length) = False := eq_false hi
      have q1'' : decide (i < l.length) = false := decide_eq_false hi
      clear hi HI
      have HB := Aside0.mk HP.out.at0
      obtain ⟨v, hv⟩ : ∃ z, s.last = z := ⟨_, rfl⟩
      have HVE := Aside0.mk hv
      have HV0 := Aside0.mk (show 0 ≤ v ∧ v ≤ 10000 by rw [← hv]; exact ⟨HOK.out.low, HOK.out.high⟩)
      go_wp2_with (first
        | (go_at_call 27; (with_reducible refine (PX.last HP.out).mono ?_); rintro e w3 ⟨rfl, hP, hb⟩; rw [HVE.out]; have HP3 := Aside0.mk hP; clear hP hb)
        | (go_at_call 32; (with_reducible refine (PX.all_known HP3.out HOK.out.small HOK.out.fit v (known_zero HFL.out HV0.out.1)).mono ?_); rintro e w4 ⟨⟨a1, d1, rfl, ho, he, hal⟩, hP, hb⟩; have HT1 := Aside0.mk (show Told w4 w3.heap.size a1 d1 from ⟨ho, he⟩); have HAL := Aside0.mk hal; have HP4 := Aside0.mk hP; clear ho he hal hP hb))
      have HDR := Aside0.mk (told_rows HAL.out HOK.out.small HP3.out.rows)
      have HDL := Aside0.mk HDR.out.1
      have HDX := Aside0.mk HDR.out.2
      clear hv
      go_loopg [10] 30 (fun gk v10 wr => ∃ (i : Nat) (s2 : St), v10 = .int .i64 i ∧ Aside0 (i ≤ lat.length ∧ i ≤ 30 ∧ 30 - i ≤ gk) ∧ Aside0 (PX (fun _ => False) w wr g s2) ∧ Aside0 (Ok s2 20000) ∧ Aside0 (s2.floor = 0) ∧ Aside0 (Young s s2 v) ∧ Aside0 (Told wr w3.heap.size a1 d1))
      case atStart => exact ⟨0, s, rfl, ⟨by omega, by omega, by omega⟩, HP4, ⟨HOK.out.mono (by omega)⟩, HFL, ⟨Young.refl _ _⟩, HT1⟩
      case round =>
        clear HP HP3 HP4 HOK HFL HT1 HB
        obtain ⟨i, s2, rfl, HI, HP, HOK, HFL, HY, HT⟩ := hrel
        have HB := Aside0.mk HP.out.at0
        have HV1 := HV0
        have HV0 := Aside0.mk HV1.out.1
        by_cases hi : i < lat.length
        · have q1 : decide ((i : Int) < (lat.length : Int)) = true := decide_eq_true (by omega)
          have q1' : (i : Int) < (lat.length : Int) := by omega
          by_cases h30 : i < 30
          · have q2 : decide ((i : Int) < 30) = true := decide_eq_true (by omega)
            have q2' : decide (i < 30) = true := decide_eq_true h30
            obtain ⟨ad, x, A1, c1, A2, c2, A3, c3, rfl, hx, hO⟩ := op_at HL.out hi
            have HXO := Aside0.mk (HLO.out.2 x (List.mem_of_getElem? hx))
            have HO := Aside0.mk hO
            have y0 := (hO.below HB.out).y0
            have y2 := (hO.below HB.out).y2
            have y3 := (hO.below HB.out).y3
            have y4 := (hO.below HB.out).y4
            have HI30 := Aside0.mk h30
            have HIL := Aside0.mk hi
            have HIN := Aside0.mk (show wrap64 ((i : Int) + 1) = ((i + 1 : Nat) : Int) by unfold wrap64; omega)
            have HVV := Aside0.mk (show IntKind.u64.wrap (IntKind.u64.wrap (v + 1) + IntKind.u64.wrap (i : Int)) = v + 1 + (i : Int) from ver_sum HV1.out h30)
            obtain ⟨gk, rfl⟩ : ∃ m, gk = m + 1 := ⟨gk - 1, by have := HI.out; omega⟩
            clear hx hO hi h30
            have HVR := Aside0.mk (show 0 ≤ v + 1 + (i : Int) ∧ v + 1 + (i : Int) ≤ 20000 ∧ v < v + 1 + (i : Int) by have := HV1.out; have := HI30.out; omega)
            cases q5 : (x.1.tmod 3 == 2) with
            | true =>
              go_wp2_with (first
                | (go_at_call 30; (with_reducible refine (small_calls x.2.2.1.1 x.2.2.1.2.1 x.2.2.1.2.2 A1 c1 A2 c2 _ HO.out.fit1 (HO.out.below HB.out).vec HO.out.fit2 (HO.out.below HB.out).tags).mono ?_); rintro e w5 ⟨⟨r, rfl, hr⟩, hb⟩; have HP5 := Aside0.mk (HP.out.below hb); have HB5 := Aside0.mk (bel_trans HB.out hb); have HT5 := Aside0.mk (HT.out.below hb); have y0 := (HO.out.below HB5.out).y0; have y2 := (HO.out.below HB5.out).y2; have y3 := (HO.out.below HB5.out).y3; have y4 := (HO.out.below HB5.out).y4; clear hb; rcases r with _ | _; clear hr; rotate_left; (have HSM := Aside0.mk (hr rfl)); clear hr; rotate_right)
                | (go_at_call 26; rw [HVV.out]; (with_reducible refine (PX.cut HP5.out (v + 1 + (i : Int)) x.2.2.1.1).mono ?_); rintro e w6 ⟨rfl, hP, hO6⟩; have HP6 := Aside0.mk hP; have HT6 := Aside0.mk (HT5.out.tt hO6); clear hP hO6))
              · go_ret
                exact ⟨rfl, HB5.out⟩
              · go_roundg gk
                case measure => omega
                case rel => exact ⟨i + 1, _, congrArg (Value.int .i64) HIN.out, ⟨by have := HIL.out; omega, by have := HI30.out; omega, by have := HI.out; have := HI30.out; omega⟩, HP6, ⟨HOK.out.cut (by omega) HXO.out.2.2.1.1 HVR.out.1 HVR.out.2.1⟩, ⟨(cut_floor _ _ _).1.trans HFL.out⟩, ⟨HY.out.cut HVR.out.2.2⟩, HT6⟩
            | false =>
              go_wp2_with (first
                | (go_at_call 30; (with_reducible refine (small_calls x.2.2.1.1 x.2.2.1.2.1 x.2.2.1.2.2 A1 c1 A2 c2 _ HO.out.fit1 (HO.out.below HB.out).vec HO.out.fit2 (HO.out.below HB.out).tags).mono ?_); rintro e w5 ⟨⟨r, rfl, hr⟩, hb⟩; have HP5 := Aside0.mk (HP.out.below hb); have HB5 := Aside0.mk (bel_trans HB.out hb); have HT5 := Aside0.mk (HT.out.below hb); have y0 := (HO.out.below HB5.out).y0; have y2 := (HO.out.below HB5.out).y2; have y3 := (HO.out.below HB5.out).y3; have y4 := (HO.out.below HB5.out).y4; clear hb; rcases r with _ | _; clear hr; rotate_left; (have HSM := Aside0.mk (hr rfl)); clear hr; rotate_right)
                | (go_at_call 25; rw [HVV.out]; (with_reducible refine (PX.put HP5.out ⟨v + 1 + (i : Int), false, x.2.2.1.1, x.2.2.1.2.1, x.2.2.1.2.2⟩ A1 c1 A2 c2 rfl (parts_op (HO.out.below HB5.out) HSM.out) HVR.out.1 (fun k hk => hk.elim)).mono ?_); rintro e w6 ⟨rfl, hP, hO6⟩; have HP6 := Aside0.mk hP; have HT6 := Aside0.mk (HT5.out.tt hO6); clear hP hO6))
              · go_ret
                exact ⟨rfl, HB5.out⟩
              · go_roundg gk
                case measure => omega
                case rel => exact ⟨i + 1, _, congrArg (Value.int .i64) HIN.out, ⟨by have := HIL.out; omega, by have := HI30.out; omega, by have := HI.out; have := HI30.out; omega⟩, HP6, ⟨HOK.out.lay (by omega) HSM.out HXO.out.2.2.1.1 HVR.out.1 HVR.out.2.1⟩, ⟨(lay_floor _ _).1.trans HFL.out⟩, ⟨HY.out.lay HVR.out.2.2⟩, HT6⟩
          · have q2 : decide ((i : Int) < 30) = false := decide_eq_false (by omega)
            have q2' : decide (i < 30) = false := decide_eq_false h30
            clear hi h30 HI
            go_wp2_with (first
              | (go_at_call 32; (with_reducible refine (PX.all_known HP.out HOK.out.small HOK.out.fit v (known_zero HFL.out HV0.out)).mono ?_); rintro e w8 ⟨⟨a2, d2, rfl, ho, he, hal⟩, hP, hb⟩; have HT2 := Aside0.mk (show Told w8 wr.heap.size a2 d2 from ⟨ho, he⟩); have HT8 := Aside0.mk (HT.out.below hb); have HE8 := Aside0.mk (show d1.map Elt.r = d2.map Elt.r by obtain ⟨E, h1, h2⟩ := HY.out; rw [h1] at hal; exact HAL.out.young hal h2); have HB8 := Aside0.mk (bel_trans HP.out.at0 hb); clear ho he hal hP hb)
              | (go_at_call 35; (with_reducible refine (same_calls HT8.out HT2.out HE8.out HDL.out HDX.out).mono ?_); rintro e w9 ⟨rfl, hb⟩; have HB9 := Aside0.mk (bel_trans HB8.out hb); clear hb))
            go_ret
            exact ⟨rfl, HB9.out⟩
        · have q1 : decide ((i : Int) < (lat.length : Int)) = false := decide_eq_false (by omega)
          have q1' : (i < lat.length) = False := eq_false hi
          have q1'' : decide (i < lat.length) = false := decide_eq_false hi
          clear hi HI
          go_wp2_with (first
            | (go_at_call 32; (with_reducible refine (PX.all_known HP.out HOK.out.small HOK.out.fit v (known_zero HFL.out HV0.out)).mono ?_); rintro e w8 ⟨⟨a2, d2, rfl, ho, he, hal⟩, hP, hb⟩; have HT2 := Aside0.mk (show Told w8 wr.heap.size a2 d2 from ⟨ho, he⟩); have HT8 := Aside0.mk (HT.out.below hb); have HE8 := Aside0.mk (show d1.map Elt.r = d2.map Elt.r by obtain ⟨E, h1, h2⟩ := HY.out; rw [h1] at hal; exact HAL.out.young hal h2); have HB8 := Aside0.mk (bel_trans HP.out.at0 hb); clear ho he hal hP hb)
            | (go_at_call 35; (with_reducible refine (same_calls HT8.out HT2.out HE8.out HDL.out HDX.out).mono ?_); rintro e w9 ⟨rfl, hb⟩; have HB9 := Aside0.mk (bel_trans HB8.out hb); clear hb))
          go_ret
          exact ⟨rfl, HB9.out⟩
theorem back_row (v1 : Value) (s1 : v1 = .slice none 0 0 ∨ ∃ a n c, v1 = .slice (some a) n c) (x1 : List OpT) {W : World} (K1 : (Kd.slice 70 kop).K W x1 v1.cells.toList) (o1 : okOps x1) (v2 : Value) (s2 : v2 = .slice none 0 0 ∨ ∃ a n c, v2 = .slice (some a) n c) (x2 : List OpT) (K2 : (Kd.slice 70 kop).K W x2 v2.cells.toList) (o2 : okOps x2) (_ : World) :
    Calls Try.prog 11 #[v1, v2] W fun e w' => e = .returned (.bool true) ∧ Below W.heap.size W w' := by
  obtain ⟨A, ca, rfl, g1, g2⟩ := slice_of s1 K1
  obtain ⟨B, cb, rfl, g3, g4⟩ := slice_of s2 K2
  exact pastBack_walk A ca x1 B cb x2 W g2 o1 g4 o2
end Go.Proofs.Ytjbakaplcjkniaa.Pa
