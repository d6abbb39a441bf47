/- PastSweeps: a sweep changes nothing of what is told of versions that are known behind it. No condition. -/
import Derived.Test.YtjbakaplcjkniaaPaI
import Derived.Deep.RegionHeld3
import Derived.Deep.AppendLies
namespace Go.Proofs.Ytjbakaplcjkniaa.Pa
open Go.RowKit Go.Maps Go.Proofs.YtjbakaplcjkniaaW.PrintWords Go.Proofs.YtjbakaplcjkniaaW.PrintLast Go.Proofs.YtjbakaplcjkniaaW.PrintMore Go.Proofs.Ytjbakaplcjkniaa.Pi Go.Proofs.Ytjbakaplcjkniaa.Q
set_option linter.unusedVariables false
set_option linter.unusedSimpArgs false
def sw.T12 : Bool × List (List Nat × List Nat) := (true, [([], []), ([0], [0]), ([], []), ([2], [2]), ([1, 3, 1], [1, 3]), ([4, 4, 0, 1, 2, 3, 4], [4])])
def sw.B12 : List Nat := [0, 1, 0, 4, 15, 31]
theorem sw.tab12 : rtab .any (opsOf Try.f9 12) = sw.T12 := by kernel_rfl
theorem sw.bits12 : waitsOk sw.T12.2 sw.B12 = true := by kernel_rfl
def sw.T25 : Bool × List (List Nat × List Nat) := (true, [([], []), ([0], [0]), ([], []), ([], []), ([2, 3], [2, 3]), ([4], [4]), ([5], [5]), ([1, 6, 1], [1, 6]), ([7, 7, 0, 1, 2, 3, 4, 5, 6, 7], [7])])
def sw.B25 : List Nat := [0, 1, 0, 0, 12, 28, 60, 127, 255]
theorem sw.tab25 : rtab .any (opsOf Try.f9 25) = sw.T25 := by kernel_rfl
theorem sw.bits25 : waitsOk sw.T25.2 sw.B25 = true := by kernel_rfl
def sw.T26 : Bool × List (List Nat × List Nat) := (true, [([], []), ([], []), ([], []), ([], []), ([2, 3], [2, 3]), ([4], [4]), ([5], [5]), ([0, 1, 6], [0, 1, 6]), ([], []), ([], []), ([], []), ([], []), ([10, 11], [10, 11]), ([12], [12]), ([13], [13]), ([8, 9, 14, 7], [8, 9, 14]), ([7, 15], [7, 15])])
def sw.B26 : List Nat := [0, 0, 0, 0, 12, 28, 60, 127, 0, 0, 0, 0, 3072, 7168, 15360, 32767, 65535]
theorem sw.tab26 : rtab .any (opsOf Try.f9 26) = sw.T26 := by kernel_rfl
theorem sw.bits26 : waitsOk sw.T26.2 sw.B26 = true := by kernel_rfl
theorem parts_op {w : World} {ad : Addr} {x : OpT} {i : Nat} {A1 : Option Addr} {c1 : Nat} {A2 : Option Addr} {c2 : Nat} {A3 : Option Addr} {c3 : Nat} {v : Int} {gn : Bool} (h : OpAt w ad x i A1 c1 A2 c2 A3 c3) (hl : x.2.2.1.2.1.length ≤ 100000 ∧ x.2.2.1.2.2.length ≤ 100000) : Parts w ⟨v, gn, x.2.2.1.1, x.2.2.1.2.1, x.2.2.1.2.2⟩ A1 c1 A2 c2 := ⟨h.fit1, h.vec, h.fit2, h.tags, hl⟩
theorem sub_len : ∀ {l l' : List Int}, l.Nodup → (∀ x ∈ l, x ∈ l') → l.length ≤ l'.length
  | [], l', _, _ => Nat.zero_le _
  | a :: l, l', hn, hs => by
    obtain ⟨h1, h2⟩ := List.nodup_cons.1 hn
    have ha := hs a List.mem_cons_self
    have := sub_len (l := l) (l' := l'.erase a) h2 (fun x hx => (List.mem_erase_of_ne (fun e => h1 (by subst e; exact hx))).2 (hs x (List.mem_cons_of_mem _ hx)))
    rw [List.length_erase_of_mem ha] at this
    have hp := List.length_pos_of_mem ha
    rw [List.length_cons]
    omega
theorem told_rows {s : St} {v : Int} {d : List Elt} (h : AllIs s.L v (d.map Elt.r)) (hs : s.Small) (hl : s.L.length ≤ 1024) : d.length ≤ 100000 ∧ ∀ e ∈ d, e.r.vec.length ≤ 100000 ∧ e.r.tags.length ≤ 100000 := by
  have hsub : ∀ x ∈ d.map Elt.r, x ∈ s.L := fun x hx => by
    obtain ⟨i, h1, _⟩ := (h.mem x).1 hx
    exact List.mem_of_getElem? h1
  have hnd : ((d.map Elt.r).map Row.id).Nodup := by
    rw [List.Nodup, List.pairwise_map]
    exact h.rise.imp (fun {a b} hab => by omega)
  have hle := sub_len (l' := s.L.map Row.id) hnd (fun x hx => by
    obtain ⟨r, hr, rfl⟩ := List.mem_map.1 hx
    exact List.mem_map.2 ⟨r, hsub r hr, rfl⟩)
  rw [List.length_map, List.length_map, List.length_map] at hle
  exact ⟨by omega, fun e he => hs _ (hsub _ (List.mem_map.2 ⟨e, he, rfl⟩))⟩
theorem u64_w {x : Int} (h1 : 0 ≤ x) (h2 : x ≤ 2000000000000) : IntKind.u64.wrap x = x := by
  unfold IntKind.wrap
  simp only [IntKind.bits, IntKind.signed, Bool.false_and, Bool.false_eq_true, if_false]
  omega
theorem R_at {w : World} {base : Nat} {ao : Option Addr} {c : Nat} {L : List Int} (h : (Kd.int .u64).R 50 w base (fun _ => True) (.slice ao L.length c) L) {ad : Addr} (ha : ao = some ad) {i : Nat} {x : Int} (hx : L[i]? = some x) : w.cell? (ad.add i) = some (.int .u64 x) := by
  subst ha
  obtain ⟨ad', x', h1, h2, h3⟩ := C_int_at (Kd.R_reads' h).2.2 (List.getElem?_eq_some_iff.1 hx).1
  injection h1 with h1
  subst h1
  rw [hx] at h2
  injection h2 with h2
  subst h2
  exact h3
set_option maxHeartbeats 32000000 in
set_option maxRecDepth 100000 in
theorem pastSweeps_walk (A : Option Addr) (c : Nat) (l : List OpT) (A0 : Option Addr) (c0 : Nat) (keep : List Int) (B : Option Addr) (c' : Nat) (more : List OpT) (w : World) (hC : Kd.C kop w A l.length l) (hok : okOps l) (hK : Kd.C (Kd.int .u64) w A0 keep.length keep) (hko : okKeep keep) (hM : Kd.C kop w B more.length more) (hmo : okOps more) :
    Calls Try.prog 9 #[.slice A l.length c, .slice A0 keep.length c0, .slice B more.length c'] w fun e w' => e = .returned (.bool true) ∧ Below w.heap.size w w' := by
  have hu := Try.underlying70
  have hu4 := Try.underlying54
  have HC := Aside0.mk hC
  have HOPS := Aside0.mk hok
  have HKC := Aside0.mk hK
  have HKO := Aside0.mk (show ∀ x ∈ keep, 0 ≤ x from fun x hx => (wf_u64' (hko.2 x hx)).1)
  have HMC := Aside0.mk hM
  have HMO := Aside0.mk hmo
  clear hC hok hK hko hM hmo
  by_cases hk50 : keep.length ≤ 50
  · have q0 : decide ((50 : Int) < (keep.length : Int)) = false := decide_eq_false (by omega)
    have q0' : decide (50 < keep.length) = false := decide_eq_false (by omega)
    have HK50 := Aside0.mk hk50
    clear hk50
    go_enter Try.func9, Try.ntmps9
    go_wp2_with (first | (go_at_call 23; (with_reducible refine (alive_calls _).mono ?_); rintro e w1 ⟨rfl, hb⟩; have HB1 := Aside0.mk hb; clear hb) | (go_at_call 24; first | (have := HP0; (with_reducible refine (PX.second HP0.out).mono ?_); rintro e w3 ⟨gq, rfl, hP⟩; have HP := Aside0.mk hP; clear hP) | ((with_reducible refine (PX.new (Z := fun _ => False) HB1.out (fun k hk => hk.elim)).mono ?_); rintro e w2 ⟨gp, rfl, hP, -⟩; have HP0 := Aside0.mk hP; clear hP)))
    clear HP0
    go_loopg [9] 60 (fun gk v9 wr => ∃ (i : Nat) (s : St), v9 = .int .i64 i ∧ Aside0 (i ≤ 60 ∧ 60 - i ≤ gk) ∧ Aside0 (PP (fun _ => False) w wr gp gq s s) ∧ Aside0 (Grows s (i * 127) i))
    case atStart => exact ⟨0, .new, rfl, ⟨by omega, by omega⟩, HP, ⟨Grows.new.mono (by omega) (Nat.le_refl _)⟩⟩
    case round =>
      clear HP
      obtain ⟨i, s, rfl, HI, HP0, HOM⟩ := hrel
      have HB0 := Aside0.mk HP0.out.p.at0
      by_cases hi : i < l.length
      · have q1 : decide ((i : Int) < (l.length : Int)) = true := decide_eq_true (by omega)
        have q1' : (i : Int) < (l.length : Int) := by omega
        by_cases h60 : i < 60
        · have q2 : decide ((i : Int) < 60) = true := decide_eq_true (by omega)
          have q2' : decide (i < 60) = true := decide_eq_true h60
          obtain ⟨ad, x, A1, c1, A2, c2, A3, c3, rfl, hx, hO⟩ := op_at HC.out hi
          have HXO := Aside0.mk (HOPS.out.2 x (List.mem_of_getElem? hx))
          have HO := Aside0.mk hO
          have y0 := (hO.below HB0.out).y0
          have y1 := (hO.below HB0.out).y1
          have y2 := (hO.below HB0.out).y2
          have y3 := (hO.below HB0.out).y3
          have y4 := (hO.below HB0.out).y4
          have y5 := (hO.below HB0.out).y5
          have HI60 := Aside0.mk h60
          have HIN := Aside0.mk (show wrap64 ((i : Int) + 1) = ((i + 1 : Nat) : Int) by unfold wrap64; omega)
          have HV1 := Aside0.mk (show 0 ≤ s.last ∧ s.last ≤ 1000000000000 by have h1 := HOM.out.ok.low; have h2 := HOM.out.ok.high; omega)
          have HV2 := Aside0.mk (wf_i8' HXO.out.2.1)
          have HVL := Aside0.mk (show 0 ≤ verOf s.last x.2.1 ∧ verOf s.last x.2.1 ≤ ((i + 1 : Nat) : Int) * 127 by have h1 := verOf_le HV1.out.1 HV2.out; have h2 := HOM.out.ok.high; omega)
          have HUP := Aside0.mk (show (i : Int) * 127 ≤ ((i + 1 : Nat) : Int) * 127 by omega)
          obtain ⟨gk, rfl⟩ : ∃ m, gk = m + 1 := ⟨gk - 1, by have := HI.out; omega⟩
          have HBX0 := Aside0.mk (heap_alloc_new wr (.cells #[.int .u8 x.1, .int .i8 x.2.1, .int .u32 x.2.2.1.1, .slice A1 x.2.2.1.2.1.length c1, .slice A2 x.2.2.1.2.2.length c2, .slice A3 x.2.2.2.length c3] 70))
          have HBA0 := Aside0.mk (below_alloc (Below.refl wr.heap.size wr) (.cells #[.int .u8 x.1, .int .i8 x.2.1, .int .u32 x.2.2.1.1, .slice A1 x.2.2.1.2.1.length c1, .slice A2 x.2.2.1.2.2.length c2, .slice A3 x.2.2.2.length c3] 70))
          clear hx hO hi h60
          go_wp2_with (go_at_call 30; (with_reducible refine (small_calls x.2.2.1.1 x.2.2.1.2.1 x.2.2.1.2.2 A1 c1 A2 c2 _ HO.out.fit1 (HO.out.below (bel_trans HB0.out HBA0.out)).vec HO.out.fit2 (HO.out.below (bel_trans HB0.out HBA0.out)).tags).mono ?_); rintro e w3 ⟨⟨r, rfl, hr⟩, hb⟩; have hbb := bel_trans HBA0.out hb; have HP3 := Aside0.mk (HP0.out.below hbb); have HB3 := Aside0.mk (bel_trans HB0.out hbb); have HX3 := Aside0.mk (blk_below HBX0.out hb); clear hb hbb; rcases r with _ | _; clear hr; rotate_left; (have HSM := Aside0.mk (hr rfl)); clear hr; rotate_right)
          · go_ret
            exact ⟨rfl, HB3.out⟩
          · obtain ⟨bx, hbx⟩ : ∃ z, wr.heap.size = z := ⟨_, rfl⟩
            rw [hbx] at HX3 ⊢
            have HBXL := Aside0.mk (show w.heap.size ≤ bx by rw [← hbx]; exact HB0.out.size)
            clear hbx HBX0 HBA0 y0 y1 y2 y3 y4 y5 HP0
            have HPD := Aside0.mk (HP3.out.below (below_drew (Below.refl _ _)))
            have HB := Aside0.mk (bel_trans HB3.out (below_drew (Below.refl _ _)))
            have HX := Aside0.mk (blk_below HX3.out (below_drew (Below.refl _ _)))
            clear HP3 HB3 HX3
            refine start_ (n := 6) (S := fun w' => w'.cell? ⟨bx, 1, none⟩ = some (.int .i8 x.2.1)) (ds := []) #[false, false, false, false, false, false] (by kernel_rfl) rfl rfl (((blk_cell HX.out 1).trans rfl)) (fun hHeld => ?_)
            refine with_tabW sw.tab12 sw.bits12 (fun HT_ HW_ => ?_)
            generalize w3.drew = wd at HPD HB HX hHeld ⊢
            refine pure_ (i := 0) (N := some 46) (v := ?_) (a' := ?_) #[true, false, false, false, false, false] rfl rfl (any_of HT_.out (by kernel_rfl)) (fun _ _ _ h => h) (Or.inl ⟨by rfl, ?_⟩) ?_ ?_
            rotate_left
            · intro w'
              go_simp
              with_reducible rfl
            rotate_left
            · simp only [Act.put, List.setIfInBounds_toArray, List.set_cons_zero, List.set_cons_succ, i64_w, i32_w]
              rfl
            refine pure_ (i := 2) (N := some 48) (v := ?_) (a' := ?_) #[true, false, true, false, false, false] rfl rfl (any_of HT_.out (by kernel_rfl)) (fun _ _ _ h => h) (Or.inl ⟨by rfl, ?_⟩) ?_ ?_
            rotate_left
            · intro w'
              go_simp
              with_reducible rfl
            rotate_left
            · simp only [Act.put, List.setIfInBounds_toArray, List.set_cons_zero, List.set_cons_succ, i64_w, i32_w]
              rfl
            refine take_ (i := 3) (N := some 49) (v := ?_) (a' := ?_) #[true, false, true, true, false, false] rfl rfl (take_ofW HT_.out HW_.out (by kernel_rfl)) (fun _ _ _ h => h) (Or.inl ⟨by rfl, ?_⟩) hHeld ?_ ?_
            rotate_left
            · intro w' s0
              go_simp
              with_reducible rfl
            rotate_left
            · simp only [Act.put, List.setIfInBounds_toArray, List.set_cons_zero, List.set_cons_succ, i64_w, i32_w]
              rfl
            refine one_ (i := 1) (N := some 47) #[true, true, true, true, false, false] rfl rfl (one_of HT_.out (by kernel_rfl)) (by decide) (fun K hK => ?_)
            refine goes_ Try.func27 (by kernel_rfl) rfl #[.pointer (some ⟨gp, 0, none⟩)] (by rfl) rfl rfl (by simp only [List.map_toArray, List.map_cons, List.map_nil]; rfl) ?_
            with_reducible refine (PX.last HPD.out.p).mono ?_
            rintro e w5 ⟨rfl, -, hb⟩
            refine ⟨_, rfl, ?_⟩
            have HP5 := Aside0.mk (HPD.out.below hb)
            have HB5 := Aside0.mk (bel_trans HB.out hb)
            have HX5 := Aside0.mk (blk_below HX.out hb)
            clear hb HPD HB HX
            refine hK.out _ _ (((blk_cell HX5.out 1).trans rfl)) (fun hHeld => ?_)
            clear hK K
            refine norm_ (a' := ?_) ?_ ?_
            rotate_left
            · show Act.put _ (some 47) _ = _
              simp only [Act.put, List.setIfInBounds_toArray, List.set_cons_zero, List.set_cons_succ, i64_w, i32_w]
              rfl
            refine one_ (i := 4) (N := some 50) #[true, true, true, true, true, false] rfl rfl (one_of HT_.out (by kernel_rfl)) (by decide) (fun K hK => ?_)
            refine goes_ Try.func34 (by kernel_rfl) rfl #[.int .u64 s.last, .int .i8 x.2.1] (by rfl) rfl rfl (by simp only [List.map_toArray, List.map_cons, List.map_nil]; rfl) ?_
            with_reducible refine (ver_calls s.last x.2.1 _ HV1.out HV2.out).mono ?_
            rintro e w6 ⟨rfl, hb⟩
            refine ⟨_, rfl, ?_⟩
            have HP6 := Aside0.mk (HP5.out.below hb)
            have HB6 := Aside0.mk (bel_trans HB5.out hb)
            have HX6 := Aside0.mk (blk_below HX5.out hb)
            clear hb HP5 HB5 HX5
            refine hK.out _ _ (((blk_cell HX6.out 1).trans rfl)) (fun hHeld => ?_)
            clear hK K
            refine norm_ (a' := ?_) ?_ ?_
            rotate_left
            · show Act.put _ (some 50) _ = _
              simp only [Act.put, List.setIfInBounds_toArray, List.set_cons_zero, List.set_cons_succ, i64_w, i32_w]
              rfl
            refine pure_ (i := 5) (N := some 11) (v := ?_) (a' := ?_) #[true, true, true, true, true, true] rfl rfl (any_of HT_.out (by kernel_rfl)) (fun _ _ _ h => h) (Or.inl ⟨by rfl, ?_⟩) ?_ ?_
            rotate_left
            · intro w'
              go_simp
              with_reducible rfl
            rotate_left
            · simp only [Act.put, List.setIfInBounds_toArray, List.set_cons_zero, List.set_cons_succ, i64_w, i32_w]
              rfl
            refine done_ (done_of HT_.out (by kernel_rfl)) ?_
            have b0 := (blk_cell HX6.out 0).trans rfl
            have b2 := (blk_cell HX6.out 2).trans rfl
            have b3 := (blk_cell HX6.out 3).trans rfl
            have b4 := (blk_cell HX6.out 4).trans rfl
            have b5 := (blk_cell HX6.out 5).trans rfl
            cases k2 : (x.1.tmod 3 == 2) with
            | true =>
              go_wp2_with (go_at_call 26; first | (have := HP7; (with_reducible refine (PX.cutF HP7.out.q (verOf s.last x.2.1) x.2.2.1.1).mono ?_); rintro e w8 ⟨rfl, hP, ht⟩; have HP8 := Aside0.mk (HP7.out.right hP ht); clear hP ht) | ((with_reducible refine (PX.cutF HP6.out.p (verOf s.last x.2.1) x.2.2.1.1).mono ?_); rintro e w7 ⟨rfl, hP, ht⟩; have HP7 := Aside0.mk (HP6.out.left hP ht); have HB7 := Aside0.mk HP7.out.p.at0; have HX7 := Aside0.mk ((ht.only.block bx (blk_lt HX6.out) (fun hs => by obtain ⟨⟨c, hc⟩, _⟩ := hs; rcases hc with hc | hc <;> exact absurd (blk_type HX6.out hc) (by decide))).trans HX6.out); have b0 := (blk_cell HX7.out 0).trans rfl; have b2 := (blk_cell HX7.out 2).trans rfl; have b3 := (blk_cell HX7.out 3).trans rfl; have b4 := (blk_cell HX7.out 4).trans rfl; have b5 := (blk_cell HX7.out 5).trans rfl; clear hP ht))
              go_roundg gk
              case measure => omega
              case rel => exact ⟨i + 1, _, congrArg (Value.int .i64) HIN.out, ⟨by have := HI60.out; omega, by have := HI.out; have := HI60.out; omega⟩, HP8, ⟨HOM.out.cut HUP.out HXO.out.2.2.1.1 HVL.out.1 HVL.out.2⟩⟩
            | false =>
              go_wp2_with (go_at_call 25; first | (have := HP7; (with_reducible refine (PX.putF HP7.out.q ⟨verOf s.last x.2.1, false, x.2.2.1.1, x.2.2.1.2.1, x.2.2.1.2.2⟩ A1 c1 A2 c2 rfl (parts_op (HO.out.below HB7.out) HSM.out) HVL.out.1 (fun k hk => hk.elim)).mono ?_); rintro e w8 ⟨rfl, hP, ht⟩; have HP8 := Aside0.mk (HP7.out.right hP ht); clear hP ht) | ((with_reducible refine (PX.putF HP6.out.p ⟨verOf s.last x.2.1, false, x.2.2.1.1, x.2.2.1.2.1, x.2.2.1.2.2⟩ A1 c1 A2 c2 rfl (parts_op (HO.out.below HB6.out) HSM.out) HVL.out.1 (fun k hk => hk.elim)).mono ?_); rintro e w7 ⟨rfl, hP, ht⟩; have HP7 := Aside0.mk (HP6.out.left hP ht); have HB7 := Aside0.mk HP7.out.p.at0; have HX7 := Aside0.mk ((ht.only.block bx (blk_lt HX6.out) (fun hs => by obtain ⟨⟨c, hc⟩, _⟩ := hs; rcases hc with hc | hc <;> exact absurd (blk_type HX6.out hc) (by decide))).trans HX6.out); have b0 := (blk_cell HX7.out 0).trans rfl; have b2 := (blk_cell HX7.out 2).trans rfl; have b3 := (blk_cell HX7.out 3).trans rfl; have b4 := (blk_cell HX7.out 4).trans rfl; have b5 := (blk_cell HX7.out 5).trans rfl; clear hP ht))
              go_roundg gk
              case measure => omega
              case rel => exact ⟨i + 1, _, congrArg (Value.int .i64) HIN.out, ⟨by have := HI60.out; omega, by have := HI.out; have := HI60.out; omega⟩, HP8, ⟨HOM.out.lay HUP.out HSM.out HXO.out.2.2.1.1 HVL.out.1 HVL.out.2⟩⟩
        · have q2 : decide ((i : Int) < 60) = false := decide_eq_false (by omega)
          have q2' : decide (i < 60) = false := decide_eq_false h60
          have HG := Aside0.mk (HOM.out.mono (m' := 7620) (n' := 60) (by have := HI.out; omega) HI.out.1)
          clear hi h60 HI HOM
          go_wp2_with (first
            | (go_at_call 27; (with_reducible refine (PX.last HP0.out.p).mono ?_); rintro e w3 ⟨rfl, -, hb⟩; have HP3 := Aside0.mk (HP0.out.below hb); have HB3 := Aside0.mk (bel_trans HB0.out hb); clear hb)
            | (go_at_call 28; (with_reducible refine (PX.sweepF HP3.out.p HG.out.ok.fit A0 c0 keep (Kd.C_below HKC.out HB3.out) (by have := HK50.out; omega)).mono ?_); rintro e w4 ⟨rfl, hP, ht⟩; have HP4 := Aside0.mk (HP3.out.left hP ht); clear hP ht))
          clear HP0 HP3 HB0 HB3
          go_loopg [13] 20 (fun gk v13 wr => ∃ (i : Nat) (sp sq : St), v13 = .int .i64 i ∧ Aside0 (i ≤ 20 ∧ 20 - i ≤ gk) ∧ Aside0 (PP (fun _ => False) w wr gp gq sp sq) ∧ Aside0 (After s keep sp sq (7620 + i * 127) (60 + i)))
          case atStart => exact ⟨0, _, _, rfl, ⟨by omega, by omega⟩, HP4, ⟨by have := After.start (keep := keep) HG.out; simpa using this⟩⟩
          case round =>
            clear HP4
            obtain ⟨i, sp, sq, rfl, HI, HP0, HAF⟩ := hrel
            have HB0 := Aside0.mk HP0.out.p.at0
            by_cases hi : i < more.length
            · have q3 : decide ((i : Int) < (more.length : Int)) = true := decide_eq_true (by omega)
              have q3' : (i : Int) < (more.length : Int) := by omega
              by_cases h20 : i < 20
              · have q4 : decide ((i : Int) < 20) = true := decide_eq_true (by omega)
                have q4' : decide (i < 20) = true := decide_eq_true h20
                obtain ⟨ad, x, A1, c1, A2, c2, A3, c3, rfl, hx, hO⟩ := op_at HMC.out hi
                have HXO := Aside0.mk (HMO.out.2 x (List.mem_of_getElem? hx))
                have HO := Aside0.mk hO
                have y1 := (hO.below HB0.out).y1
                have y2 := (hO.below HB0.out).y2
                have y3 := (hO.below HB0.out).y3
                have y4 := (hO.below HB0.out).y4
                have HI20 := Aside0.mk h20
                have HIN := Aside0.mk (show wrap64 ((i : Int) + 1) = ((i + 1 : Nat) : Int) by unfold wrap64; omega)
                have HV1 := Aside0.mk (show 0 ≤ sp.last ∧ sp.last ≤ 1000000000000 by have h1 := HAF.out.okp.low; have h2 := HAF.out.okp.high; omega)
                have HV2 := Aside0.mk (wf_i8' HXO.out.2.1)
                have HVL := Aside0.mk (show 0 ≤ verOf sp.last x.2.1 ∧ verOf sp.last x.2.1 ≤ 7620 + ((i + 1 : Nat) : Int) * 127 by have h1 := verOf_le HV1.out.1 HV2.out; have h2 := HAF.out.okp.high; omega)
                obtain ⟨gk, rfl⟩ : ∃ m, gk = m + 1 := ⟨gk - 1, by have := HI.out; omega⟩
                clear hx hO hi h20
                go_wp2_with (go_at_call 30; (with_reducible refine (small_calls x.2.2.1.1 x.2.2.1.2.1 x.2.2.1.2.2 A1 c1 A2 c2 _ HO.out.fit1 (HO.out.below HB0.out).vec HO.out.fit2 (HO.out.below HB0.out).tags).mono ?_); rintro e w3 ⟨⟨r, rfl, hr⟩, hb⟩; have HP3 := Aside0.mk (HP0.out.below hb); have HB3 := Aside0.mk (bel_trans HB0.out hb); clear hb y1 y2 y3 y4; rcases r with _ | _; clear hr; rotate_left; (have HSM := Aside0.mk (hr rfl)); clear hr; rotate_right)
                · go_ret
                  exact ⟨rfl, HB3.out⟩
                · skip
                  have HPD := Aside0.mk (HP3.out.below (below_drew (Below.refl _ _)))
                  have HB := Aside0.mk (bel_trans HB3.out (below_drew (Below.refl _ _)))
                  clear HP3 HB3
                  refine start_ (n := 9) (S := fun w' => w'.cell? ⟨(ad.add (i * 6)).block, (ad.add (i * 6)).off + 1, none⟩ = some (.int .i8 x.2.1)) (ds := []) #[false, false, false, false, false, false, false, false, false] (by kernel_rfl) rfl rfl ((HO.out.below HB.out).y1) (fun hHeld => ?_)
                  refine with_tabW sw.tab25 sw.bits25 (fun HT_ HW_ => ?_)
                  generalize w3.drew = wd at HPD HB hHeld ⊢
                  refine pure_ (i := 0) (N := some 99) (v := ?_) (a' := ?_) #[true, false, false, false, false, false, false, false, false] rfl rfl (any_of HT_.out (by kernel_rfl)) (fun _ _ _ h => h) (Or.inl ⟨by rfl, ?_⟩) ?_ ?_
                  rotate_left
                  · intro w'
                    go_simp
                    with_reducible rfl
                  rotate_left
                  · simp only [Act.put, List.setIfInBounds_toArray, List.set_cons_zero, List.set_cons_succ, i64_w, i32_w]
                    rfl
                  refine pure_ (i := 2) (N := some 101) (v := ?_) (a' := ?_) #[true, false, true, false, false, false, false, false, false] rfl rfl (any_of HT_.out (by kernel_rfl)) (fun _ _ _ h => h) (Or.inl ⟨by rfl, ?_⟩) ?_ ?_
                  rotate_left
                  · intro w'
                    go_simp
                    with_reducible rfl
                  rotate_left
                  · simp only [Act.put, List.setIfInBounds_toArray, List.set_cons_zero, List.set_cons_succ, i64_w, i32_w]
                    rfl
                  refine pure_ (i := 3) (N := some 102) (v := ?_) (a' := ?_) #[true, false, true, true, false, false, false, false, false] rfl rfl (any_of HT_.out (by kernel_rfl)) (fun _ _ _ h => h) (Or.inl ⟨by rfl, ?_⟩) ?_ ?_
                  rotate_left
                  · intro w'
                    go_simp
                    with_reducible rfl
                  rotate_left
                  · simp only [Act.put, List.setIfInBounds_toArray, List.set_cons_zero, List.set_cons_succ, i64_w, i32_w]
                    rfl
                  refine pure_ (i := 4) (N := some 103) (v := ?_) (a' := ?_) #[true, false, true, true, true, false, false, false, false] rfl rfl (any_of HT_.out (by kernel_rfl)) (fun _ _ _ h => h) (Or.inl ⟨by rfl, ?_⟩) ?_ ?_
                  rotate_left
                  · intro w'
                    go_simp
                    with_reducible rfl
                  rotate_left
                  · simp only [Act.put, List.setIfInBounds_toArray, List.set_cons_zero, List.set_cons_succ, i64_w, i32_w]
                    rfl
                  refine pure_ (i := 5) (N := some 104) (v := ?_) (a' := ?_) #[true, false, true, true, true, true, false, false, false] rfl rfl (any_of HT_.out (by kernel_rfl)) (fun _ _ _ h => h) (Or.inl ⟨by rfl, ?_⟩) ?_ ?_
                  rotate_left
                  · intro w'
                    go_simp
                    with_reducible rfl
                  rotate_left
                  · simp only [Act.put, List.setIfInBounds_toArray, List.set_cons_zero, List.set_cons_succ, i64_w, i32_w]
                    rfl
                  refine take_ (i := 6) (N := some 105) (v := ?_) (a' := ?_) #[true, false, true, true, true, true, true, false, false] rfl rfl (take_ofW HT_.out HW_.out (by kernel_rfl)) (fun _ _ _ h => h) (Or.inl ⟨by rfl, ?_⟩) hHeld ?_ ?_
                  rotate_left
                  · intro w' s0
                    go_simp
                    with_reducible rfl
                  rotate_left
                  · simp only [Act.put, List.setIfInBounds_toArray, List.set_cons_zero, List.set_cons_succ, i64_w, i32_w]
                    rfl
                  refine one_ (i := 1) (N := some 100) #[true, true, true, true, true, true, true, false, false] rfl rfl (one_of HT_.out (by kernel_rfl)) (by decide) (fun K hK => ?_)
                  refine goes_ Try.func27 (by kernel_rfl) rfl #[.pointer (some ⟨gp, 0, none⟩)] (by rfl) rfl rfl (by simp only [List.map_toArray, List.map_cons, List.map_nil]; rfl) ?_
                  with_reducible refine (PX.last HPD.out.p).mono ?_
                  rintro e w4 ⟨rfl, -, hb⟩
                  refine ⟨_, rfl, ?_⟩
                  have HP4 := Aside0.mk (HPD.out.below hb)
                  have HB4 := Aside0.mk (bel_trans HB.out hb)
                  clear hb HPD HB
                  refine hK.out _ _ ((HO.out.below HB4.out).y1) (fun hHeld => ?_)
                  clear hK K
                  refine norm_ (a' := ?_) ?_ ?_
                  rotate_left
                  · show Act.put _ (some 100) _ = _
                    simp only [Act.put, List.setIfInBounds_toArray, List.set_cons_zero, List.set_cons_succ, i64_w, i32_w]
                    rfl
                  refine one_ (i := 7) (N := some 106) #[true, true, true, true, true, true, true, true, false] rfl rfl (one_of HT_.out (by kernel_rfl)) (by decide) (fun K hK => ?_)
                  refine goes_ Try.func34 (by kernel_rfl) rfl #[.int .u64 sp.last, .int .i8 x.2.1] (by rfl) rfl rfl (by simp only [List.map_toArray, List.map_cons, List.map_nil]; rfl) ?_
                  with_reducible refine (ver_calls sp.last x.2.1 _ HV1.out HV2.out).mono ?_
                  rintro e w5 ⟨rfl, hb⟩
                  refine ⟨_, rfl, ?_⟩
                  have HP5 := Aside0.mk (HP4.out.below hb)
                  have HB5 := Aside0.mk (bel_trans HB4.out hb)
                  clear hb HP4 HB4
                  refine hK.out _ _ ((HO.out.below HB5.out).y1) (fun hHeld => ?_)
                  clear hK K
                  refine norm_ (a' := ?_) ?_ ?_
                  rotate_left
                  · show Act.put _ (some 106) _ = _
                    simp only [Act.put, List.setIfInBounds_toArray, List.set_cons_zero, List.set_cons_succ, i64_w, i32_w]
                    rfl
                  refine pure_ (i := 8) (N := some 14) (v := ?_) (a' := ?_) #[true, true, true, true, true, true, true, true, true] rfl rfl (any_of HT_.out (by kernel_rfl)) (fun _ _ _ h => h) (Or.inl ⟨by rfl, ?_⟩) ?_ ?_
                  rotate_left
                  · intro w'
                    go_simp
                    with_reducible rfl
                  rotate_left
                  · simp only [Act.put, List.setIfInBounds_toArray, List.set_cons_zero, List.set_cons_succ, i64_w, i32_w]
                    rfl
                  refine done_ (done_of HT_.out (by kernel_rfl)) ?_
                  have HLAY := Aside0.mk (HAF.out.lay (by have := HI20.out; omega) (m' := 7620 + ((i + 1 : Nat) : Int) * 127) (by omega) (r := ⟨verOf sp.last x.2.1, false, x.2.2.1.1, x.2.2.1.2.1, x.2.2.1.2.2⟩) HSM.out HXO.out.2.2.1.1 HVL.out.1 HVL.out.2)
                  obtain ⟨e1, he1⟩ : ∃ z, (sp.lay ⟨verOf sp.last x.2.1, false, x.2.2.1.1, x.2.2.1.2.1, x.2.2.1.2.2⟩).1 = z := ⟨_, rfl⟩
                  have HE1 := Aside0.mk he1
                  have HE2 := Aside0.mk (show (sq.lay ⟨verOf sp.last x.2.1, false, x.2.2.1.1, x.2.2.1.2.1, x.2.2.1.2.2⟩).1 = e1 by rw [← HLAY.out.1]; exact he1)
                  obtain ⟨s1, hs1⟩ : ∃ z, (sp.lay ⟨verOf sp.last x.2.1, false, x.2.2.1.1, x.2.2.1.2.1, x.2.2.1.2.2⟩).2 = z := ⟨_, rfl⟩
                  have HS1 := Aside0.mk hs1
                  obtain ⟨s2, hs2⟩ : ∃ z, (sq.lay ⟨verOf sp.last x.2.1, false, x.2.2.1.1, x.2.2.1.2.1, x.2.2.1.2.2⟩).2 = z := ⟨_, rfl⟩
                  have HS2 := Aside0.mk hs2
                  have HA2 := Aside0.mk (show After s keep s1 s2 (7620 + ((i + 1 : Nat) : Int) * 127) (60 + (i + 1)) by rw [← hs1, ← hs2]; exact HLAY.out.2)
                  clear he1 hs1 hs2 HLAY
                  go_wp2
                  have HPD := Aside0.mk (HP5.out.below (below_drew (Below.refl _ _)))
                  have HB := Aside0.mk (bel_trans HB5.out (below_drew (Below.refl _ _)))
                  clear HP5 HB5
                  refine start_ (n := 17) (S := fun w' => w'.cell? ⟨(ad.add (i * 6)).block, (ad.add (i * 6)).off + 2, none⟩ = some (.int .u32 x.2.2.1.1) ∧ w'.cell? ⟨(ad.add (i * 6)).block, (ad.add (i * 6)).off + 2 + 1, none⟩ = some (.slice A1 x.2.2.1.2.1.length c1) ∧ w'.cell? ⟨(ad.add (i * 6)).block, (ad.add (i * 6)).off + 2 + 2, none⟩ = some (.slice A2 x.2.2.1.2.2.length c2)) (ds := []) #[false, false, false, false, false, false, false, false, false, false, false, false, false, false, false, false, false] (by kernel_rfl) rfl rfl ⟨(HO.out.below HB.out).y2, (HO.out.below HB.out).y3, (HO.out.below HB.out).y4⟩ (fun hHeld => ?_)
                  refine with_tabW sw.tab26 sw.bits26 (fun HT_ HW_ => ?_)
                  generalize w5.drew = wd at HPD HB hHeld ⊢
                  refine pure_ (i := 0) (N := some 107) (v := ?_) (a' := ?_) #[true, false, false, false, false, false, false, false, false, false, false, false, false, false, false, false, false] rfl rfl (any_of HT_.out (by kernel_rfl)) (fun _ _ _ h => h) (Or.inl ⟨by rfl, ?_⟩) ?_ ?_
                  rotate_left
                  · intro w'
                    go_simp
                    with_reducible rfl
                  rotate_left
                  · simp only [Act.put, List.setIfInBounds_toArray, List.set_cons_zero, List.set_cons_succ, i64_w, i32_w]
                    rfl
                  refine pure_ (i := 1) (N := some 108) (v := ?_) (a' := ?_) #[true, true, false, false, false, false, false, false, false, false, false, false, false, false, false, false, false] rfl rfl (any_of HT_.out (by kernel_rfl)) (fun _ _ _ h => h) (Or.inl ⟨by rfl, ?_⟩) ?_ ?_
                  rotate_left
                  · intro w'
                    go_simp
                    with_reducible rfl
                  rotate_left
                  · simp only [Act.put, List.setIfInBounds_toArray, List.set_cons_zero, List.set_cons_succ, i64_w, i32_w]
                    rfl
                  refine pure_ (i := 2) (N := some 109) (v := ?_) (a' := ?_) #[true, true, true, false, false, false, false, false, false, false, false, false, false, false, false, false, false] rfl rfl (any_of HT_.out (by kernel_rfl)) (fun _ _ _ h => h) (Or.inl ⟨by rfl, ?_⟩) ?_ ?_
                  rotate_left
                  · intro w'
                    go_simp
                    with_reducible rfl
                  rotate_left
                  · simp only [Act.put, List.setIfInBounds_toArray, List.set_cons_zero, List.set_cons_succ, i64_w, i32_w]
                    rfl
                  refine pure_ (i := 3) (N := some 110) (v := ?_) (a' := ?_) #[true, true, true, true, false, false, false, false, false, false, false, false, false, false, false, false, false] rfl rfl (any_of HT_.out (by kernel_rfl)) (fun _ _ _ h => h) (Or.inl ⟨by rfl, ?_⟩) ?_ ?_
                  rotate_left
                  · intro w'
                    go_simp
                    with_reducible rfl
                  rotate_left
                  · simp only [Act.put, List.setIfInBounds_toArray, List.set_cons_zero, List.set_cons_succ, i64_w, i32_w]
                    rfl
                  refine pure_ (i := 4) (N := some 111) (v := ?_) (a' := ?_) #[true, true, true, true, true, false, false, false, false, false, false, false, false, false, false, false, false] rfl rfl (any_of HT_.out (by kernel_rfl)) (fun _ _ _ h => h) (Or.inl ⟨by rfl, ?_⟩) ?_ ?_
                  rotate_left
                  · intro w'
                    go_simp
                    with_reducible rfl
                  rotate_left
                  · simp only [Act.put, List.setIfInBounds_toArray, List.set_cons_zero, List.set_cons_succ, i64_w, i32_w]
                    rfl
                  refine pure_ (i := 5) (N := some 112) (v := ?_) (a' := ?_) #[true, true, true, true, true, true, false, false, false, false, false, false, false, false, false, false, false] rfl rfl (any_of HT_.out (by kernel_rfl)) (fun _ _ _ h => h) (Or.inl ⟨by rfl, ?_⟩) ?_ ?_
                  rotate_left
                  · intro w'
                    go_simp
                    with_reducible rfl
                  rotate_left
                  · simp only [Act.put, List.setIfInBounds_toArray, List.set_cons_zero, List.set_cons_succ, i64_w, i32_w]
                    rfl
                  refine pure_ (i := 8) (N := some 115) (v := ?_) (a' := ?_) #[true, true, true, true, true, true, false, false, true, false, false, false, false, false, false, false, false] rfl rfl (any_of HT_.out (by kernel_rfl)) (fun _ _ _ h => h) (Or.inl ⟨by rfl, ?_⟩) ?_ ?_
                  rotate_left
                  · intro w'
                    go_simp
                    with_reducible rfl
                  rotate_left
                  · simp only [Act.put, List.setIfInBounds_toArray, List.set_cons_zero, List.set_cons_succ, i64_w, i32_w]
                    rfl
                  refine pure_ (i := 9) (N := some 116) (v := ?_) (a' := ?_) #[true, true, true, true, true, true, false, false, true, true, false, false, false, false, false, false, false] rfl rfl (any_of HT_.out (by kernel_rfl)) (fun _ _ _ h => h) (Or.inl ⟨by rfl, ?_⟩) ?_ ?_
                  rotate_left
                  · intro w'
                    go_simp
                    with_reducible rfl
                  rotate_left
                  · simp only [Act.put, List.setIfInBounds_toArray, List.set_cons_zero, List.set_cons_succ, i64_w, i32_w]
                    rfl
                  refine pure_ (i := 10) (N := some 117) (v := ?_) (a' := ?_) #[true, true, true, true, true, true, false, false, true, true, true, false, false, false, false, false, false] rfl rfl (any_of HT_.out (by kernel_rfl)) (fun _ _ _ h => h) (Or.inl ⟨by rfl, ?_⟩) ?_ ?_
                  rotate_left
                  · intro w'
                    go_simp
                    with_reducible rfl
                  rotate_left
                  · simp only [Act.put, List.setIfInBounds_toArray, List.set_cons_zero, List.set_cons_succ, i64_w, i32_w]
                    rfl
                  refine pure_ (i := 11) (N := some 118) (v := ?_) (a' := ?_) #[true, true, true, true, true, true, false, false, true, true, true, true, false, false, false, false, false] rfl rfl (any_of HT_.out (by kernel_rfl)) (fun _ _ _ h => h) (Or.inl ⟨by rfl, ?_⟩) ?_ ?_
                  rotate_left
                  · intro w'
                    go_simp
                    with_reducible rfl
                  rotate_left
                  · simp only [Act.put, List.setIfInBounds_toArray, List.set_cons_zero, List.set_cons_succ, i64_w, i32_w]
                    rfl
                  refine pure_ (i := 12) (N := some 119) (v := ?_) (a' := ?_) #[true, true, true, true, true, true, false, false, true, true, true, true, true, false, false, false, false] rfl rfl (any_of HT_.out (by kernel_rfl)) (fun _ _ _ h => h) (Or.inl ⟨by rfl, ?_⟩) ?_ ?_
                  rotate_left
                  · intro w'
                    go_simp
                    with_reducible rfl
                  rotate_left
                  · simp only [Act.put, List.setIfInBounds_toArray, List.set_cons_zero, List.set_cons_succ, i64_w, i32_w]
                    rfl
                  refine pure_ (i := 13) (N := some 120) (v := ?_) (a' := ?_) #[true, true, true, true, true, true, false, false, true, true, true, true, true, true, false, false, false] rfl rfl (any_of HT_.out (by kernel_rfl)) (fun _ _ _ h => h) (Or.inl ⟨by rfl, ?_⟩) ?_ ?_
                  rotate_left
                  · intro w'
                    go_simp
                    with_reducible rfl
                  rotate_left
                  · simp only [Act.put, List.setIfInBounds_toArray, List.set_cons_zero, List.set_cons_succ, i64_w, i32_w]
                    rfl
                  refine take_ (i := 6) (N := some 113) (v := ?_) (a' := ?_) #[true, true, true, true, true, true, true, false, true, true, true, true, true, true, false, false, false] rfl rfl (take_ofW HT_.out HW_.out (by kernel_rfl)) (fun _ _ _ h => h) (Or.inl ⟨by rfl, ?_⟩) hHeld ?_ ?_
                  rotate_left
                  · rintro w' ⟨s0, s1, s2⟩
                    go_simp
                    with_reducible rfl
                  rotate_left
                  · simp only [Act.put, List.setIfInBounds_toArray, List.set_cons_zero, List.set_cons_succ, i64_w, i32_w]
                    rfl
                  refine take_ (i := 14) (N := some 121) (v := ?_) (a' := ?_) #[true, true, true, true, true, true, true, false, true, true, true, true, true, true, true, false, false] rfl rfl (take_ofW HT_.out HW_.out (by kernel_rfl)) (fun _ _ _ h => h) (Or.inl ⟨by rfl, ?_⟩) hHeld ?_ ?_
                  rotate_left
                  · rintro w' ⟨s0, s1, s2⟩
                    go_simp
                    with_reducible rfl
                  rotate_left
                  · simp only [Act.put, List.setIfInBounds_toArray, List.set_cons_zero, List.set_cons_succ, i64_w, i32_w]
                    rfl
                  refine one_ (i := 7) (N := some 114) #[true, true, true, true, true, true, true, true, true, true, true, true, true, true, true, false, false] rfl rfl (one_of HT_.out (by kernel_rfl)) (by decide) (fun K hK => ?_)
                  refine goes_ Try.func25 (by kernel_rfl) rfl #[.pointer (some ⟨gp, 0, none⟩), .int .u64 (verOf sp.last x.2.1), .agg #[.int .u32 x.2.2.1.1, .slice A1 x.2.2.1.2.1.length c1, .slice A2 x.2.2.1.2.2.length c2]] (by rfl) rfl rfl (by simp only [List.map_toArray, List.map_cons, List.map_nil]; rfl) ?_
                  with_reducible refine (PX.putF HPD.out.p ⟨verOf sp.last x.2.1, false, x.2.2.1.1, x.2.2.1.2.1, x.2.2.1.2.2⟩ A1 c1 A2 c2 rfl (parts_op (HO.out.below HB.out) HSM.out) HVL.out.1 (fun k hk => hk.elim)).mono ?_
                  rintro e w6 ⟨rfl, hP, ht⟩
                  refine ⟨_, rfl, ?_⟩
                  rw [HE1.out]
                  rw [HS1.out] at hP
                  have HP6 := Aside0.mk (HPD.out.left hP ht)
                  have HB6 := Aside0.mk HP6.out.p.at0
                  clear hP ht HPD HB
                  refine hK.out _ _ ⟨(HO.out.below HB6.out).y2, (HO.out.below HB6.out).y3, (HO.out.below HB6.out).y4⟩ (fun hHeld => ?_)
                  clear hK K
                  refine norm_ (a' := ?_) ?_ ?_
                  rotate_left
                  · show Act.put _ (some 114) _ = _
                    simp only [Act.put, List.setIfInBounds_toArray, List.set_cons_zero, List.set_cons_succ, i64_w, i32_w]
                    rfl
                  refine one_ (i := 15) (N := some 122) #[true, true, true, true, true, true, true, true, true, true, true, true, true, true, true, true, false] rfl rfl (one_of HT_.out (by kernel_rfl)) (by decide) (fun K hK => ?_)
                  refine goes_ Try.func25 (by kernel_rfl) rfl #[.pointer (some ⟨gq, 0, none⟩), .int .u64 (verOf sp.last x.2.1), .agg #[.int .u32 x.2.2.1.1, .slice A1 x.2.2.1.2.1.length c1, .slice A2 x.2.2.1.2.2.length c2]] (by rfl) rfl rfl (by simp only [List.map_toArray, List.map_cons, List.map_nil]; rfl) ?_
                  with_reducible refine (PX.putF HP6.out.q ⟨verOf sp.last x.2.1, false, x.2.2.1.1, x.2.2.1.2.1, x.2.2.1.2.2⟩ A1 c1 A2 c2 rfl (parts_op (HO.out.below HB6.out) HSM.out) HVL.out.1 (fun k hk => hk.elim)).mono ?_
                  rintro e w7 ⟨rfl, hP, ht⟩
                  refine ⟨_, rfl, ?_⟩
                  rw [HE2.out]
                  rw [HS2.out] at hP
                  have HP7 := Aside0.mk (HP6.out.right hP ht)
                  have HB7 := Aside0.mk HP7.out.p.at0
                  clear hP ht HP6 HB6
                  refine hK.out _ _ ⟨(HO.out.below HB7.out).y2, (HO.out.below HB7.out).y3, (HO.out.below HB7.out).y4⟩ (fun hHeld => ?_)
                  clear hK K
                  refine norm_ (a' := ?_) ?_ ?_
                  rotate_left
                  · show Act.put _ (some 122) _ = _
                    simp only [Act.put, List.setIfInBounds_toArray, List.set_cons_zero, List.set_cons_succ, i64_w, i32_w]
                    rfl
                  refine pure_ (i := 16) (N := some 123) (v := ?_) (a' := ?_) #[true, true, true, true, true, true, true, true, true, true, true, true, true, true, true, true, true] rfl rfl (any_of HT_.out (by kernel_rfl)) (fun _ _ _ h => h) (Or.inl ⟨by rfl, ?_⟩) ?_ ?_
                  rotate_left
                  · intro w'
                    go_simp
                    with_reducible rfl
                  rotate_left
                  · simp only [Act.put, List.setIfInBounds_toArray, List.set_cons_zero, List.set_cons_succ, i64_w, i32_w]
                    rfl
                  refine done_ (done_of HT_.out (by kernel_rfl)) ?_
                  have qe : (e1 != e1) = false := by simp
                  go_wp2
                  go_roundg gk
                  case measure => omega
                  case rel => exact ⟨i + 1, _, _, congrArg (Value.int .i64) HIN.out, ⟨by have := HI20.out; omega, by have := HI.out; have := HI20.out; omega⟩, HP7, HA2⟩
              · have q4 : decide ((i : Int) < 20) = false := decide_eq_false (by omega)
                have q4' : decide (i < 20) = false := decide_eq_false h20
                have HAF := Aside0.mk (show After s keep sp sq 10160 80 by have h1 := HI.out; obtain ⟨a, b, c, d, e, f, g1, g2, g3, g4⟩ := HAF.out; exact ⟨a.mono (by omega), b.mono (by omega), by omega, by omega, e, f, g1, g2, g3, g4⟩)
                clear hi h20 HI
                have HLE := Aside0.mk HAF.out.from_
                obtain ⟨lp, hlp⟩ : ∃ z, sp.last = z := ⟨_, rfl⟩
                have HLP := Aside0.mk hlp
                have HLQ := Aside0.mk (show s.last ≤ lp by rw [← hlp, HAF.out.last]; exact HAF.out.from_)
                have HLB := Aside0.mk (show 0 ≤ s.last ∧ lp ≤ 20000 by have h1 := HG.out.ok.low; have h2 := HAF.out.okp.high; omega)
                have HW1 := Aside0.mk (show IntKind.u64.wrap (s.last + 1) = s.last + 1 from u64_w (by have := HLB.out; omega) (by have := HLB.out; have := HLQ.out; omega))
                have HW9 := Aside0.mk (show IntKind.u64.wrap (lp + 9) = lp + 9 from u64_w (by have := HLB.out; have := HLQ.out; omega) (by have := HLB.out; omega))
                have hba := below_alloc (Below.refl wr.heap.size wr) (.cells #[] 50)
                have HBE := Aside0.mk hba
                clear hlp hba
                go_wp2_with (first
                  | (at_builtin; have := HP8; go_must (refine Kd.R_append_rows (Kd.int .u64) (w0 := wr) wr.heap.size rfl (.tmp 126) (.tmp 135) 67 50 (.int .u64 0) 8 rfl Try.underlying67 (by kernel_rfl) (by rfl) (by decide) (by decide) _ keep [s.last, IntKind.u64.wrap (s.last + 1), lp, IntKind.u64.wrap (lp + 9)] (some ⟨w8.heap.size, 0, none⟩) 4 4 (fun _ => True) (fun _ => False) rfl rfl (Kd.R_below H8.out (below_alloc (Below.refl _ _) _)) (C_four (heap_alloc_new w8 _)) (fun _ _ h => h) (fun k hk => hk.elim) (fun _ _ => trivial) (bel_alloc HB8.out _) (Nat.le_trans HB8.out.size (by rw [World.size_alloc]; omega)) (by have := HK50.out; omega) ?_); intro v9 w9 h9 hb9 hg9 ha9; rw [HW1.out, HW9.out, HAL.out] at h9; obtain ⟨A9, c9, rfl⟩ := Kd.R_slice h9; have H9 := Aside0.mk h9; have HP9 := Aside0.mk (HP0.out.below hb9); clear h9 hb9 hg9 ha9)
                  | (at_builtin; go_must (refine Kd.R_append_rows (Kd.int .u64) (w0 := wr) wr.heap.size rfl (.tmp 124) (.tmp 125) 67 50 (.int .u64 0) 8 rfl Try.underlying67 (by kernel_rfl) (by rfl) (by decide) (by decide) _ [] keep A0 keep.length c0 (fun _ => True) (fun _ => False) rfl rfl (R_empty (Kd.int .u64) 50 wr wr.heap.size (Nat.le_refl _)) (Kd.C_below HKC.out (bel_trans HP0.out.p.at0 HBE.out)) (fun _ _ h => h) (fun k hk => hk.elim) (fun _ _ => trivial) (below_alloc (Below.refl _ _) _) (by rw [World.size_alloc]; omega) (by have := HK50.out; show (0 + keep.length) * 8 ≤ _; omega) ?_); intro v6 w6 h6 hb6 hg6 ha6; rw [List.nil_append] at h6; obtain ⟨A6, c6, rfl⟩ := Kd.R_slice h6; have H6 := Aside0.mk h6; have HB6 := Aside0.mk hb6; clear h6 hb6 hg6 ha6)
                  | (go_at_call 27; first
                    | (have := HP7; (with_reducible refine (PX.last HP7.out.p).mono ?_); rintro e w8 ⟨rfl, -, hb⟩; rw [HLP.out]; have HP8 := Aside0.mk (HP7.out.below hb); have H8 := Aside0.mk (Kd.R_below H7.out hb); have HB8 := Aside0.mk (bel_trans HB7.out hb); obtain ⟨AL, hAL⟩ : ∃ z, askedL keep s.last lp = z := ⟨_, rfl⟩; have HAL := Aside0.mk (show keep ++ [s.last, s.last + 1, lp, lp + 9] = AL from hAL); have HALE := Aside0.mk hAL; clear hb hAL)
                    | ((with_reducible refine (PX.last (HP0.out.below HB6.out).p).mono ?_); rintro e w7 ⟨rfl, -, hb⟩; rw [HLP.out]; have HP7 := Aside0.mk ((HP0.out.below HB6.out).below hb); have H7 := Aside0.mk (Kd.R_below H6.out hb); have HB7 := Aside0.mk (bel_trans HB6.out hb); clear hb)))
                have HALL := Aside0.mk (show AL.length ≤ 54 by rw [← HALE.out]; unfold askedL; rw [List.length_append]; have := HK50.out; simp; omega)
                have HASK := Aside0.mk (fun v (hv : v ∈ AL) => HAF.out.asked HG.out HKO.out (v := v) (by rw [← HALE.out] at hv; exact asked_mem HLQ.out hv))
                obtain ⟨nb, hnb⟩ : ∃ z, wr.heap.size = z := ⟨_, rfl⟩
                rw [hnb] at H9
                clear hnb HP0 HP7 HP8 H6 H7 H8 HB6 HB7 HB8 HBE HAL HALE
                go_loopg [16] AL.length (fun gk v16 wr => ∃ (k : Nat), v16 = .int .i64 k ∧ Aside0 (k ≤ AL.length ∧ AL.length - k ≤ gk) ∧ Aside0 (PP (fun _ => False) w wr gp gq sp sq) ∧ Aside0 ((Kd.int .u64).R 50 wr nb (fun _ => True) (.slice A9 AL.length c9) AL))
                case atStart => exact ⟨0, rfl, ⟨by omega, by omega⟩, HP9, H9⟩
                case round =>
                  clear HP9 H9
                  obtain ⟨k, rfl, HKK, HP9, H9⟩ := hrel
                  have HB9 := Aside0.mk HP9.out.p.at0
                  by_cases hk : k < AL.length
                  · have q8 : decide ((k : Int) < (AL.length : Int)) = true := decide_eq_true (by omega)
                    have q8' : (k : Int) < (AL.length : Int) := by omega
                    obtain ⟨ad, x, rfl, hx, x0⟩ := C_int_at (Kd.R_reads' H9.out).2.2 hk
                    have HIN := Aside0.mk (show wrap64 ((k : Int) + 1) = ((k + 1 : Nat) : Int) by have := HALL.out; unfold wrap64; omega)
                    have HX := Aside0.mk hx
                    obtain ⟨hk1, hk2, hk3⟩ := HASK.out x (List.mem_of_getElem? hx)
                    have HK1 := Aside0.mk hk1
                    have HK2 := Aside0.mk hk2
                    have HK3 := Aside0.mk hk3
                    obtain ⟨gk, rfl⟩ : ∃ m, gk = m + 1 := ⟨gk - 1, by have := HKK.out; omega⟩
                    have HKL := Aside0.mk hk
                    clear hx hk hk1 hk2 hk3
                    go_wp2_with (first
                      | (go_at_call 32; first
                        | (have := HT4; (with_reducible refine (PX.all_known HP4.out.q HAF.out.okq.small HAF.out.okq.fit x HK2.out).mono ?_); rintro e w5 ⟨⟨a2, d2, rfl, ho, he, hal⟩, -, hb⟩; have HT5 := Aside0.mk (show Told w5 w4.heap.size a2 d2 from ⟨ho, he⟩); have HT1 := Aside0.mk (HT4.out.below hb); have HEQ := Aside0.mk (show d1.map Elt.r = d2.map Elt.r from HK3.out _ _ HAL4.out hal); have HP5 := Aside0.mk (HP4.out.below hb); have H5 := Aside0.mk (Kd.R_below H4.out hb); clear ho he hal hb)
                        | ((with_reducible refine (PX.all_known HP9.out.p HAF.out.okp.small HAF.out.okp.fit x HK1.out).mono ?_); rintro e w4 ⟨⟨a1, d1, rfl, ho, he, hal⟩, -, hb⟩; have HT4 := Aside0.mk (show Told w4 wr.heap.size a1 d1 from ⟨ho, he⟩); have HAL4 := Aside0.mk hal; have HP4 := Aside0.mk (HP9.out.below hb); have H4 := Aside0.mk (Kd.R_below H9.out hb); have x0 := R_at H4.out rfl HX.out; have HDR := Aside0.mk (told_rows hal HAF.out.okp.small HP9.out.p.rows); clear ho he hal hb))
                      | (go_at_call 35; (with_reducible refine (same_calls HT1.out HT5.out HEQ.out HDR.out.1 HDR.out.2).mono ?_); rintro e w6 ⟨rfl, hb⟩; have HP6 := Aside0.mk (HP5.out.below hb); have H6 := Aside0.mk (Kd.R_below H5.out hb); clear hb))
                    go_roundg gk
                    case measure => omega
                    case rel => exact ⟨k + 1, congrArg (Value.int .i64) HIN.out, ⟨by have := HKL.out; omega, by have := HKK.out; have := HKL.out; omega⟩, HP6, H6⟩
                  · have q8 : decide ((k : Int) < (AL.length : Int)) = false := decide_eq_false (by omega)
                    have q8' : (k < AL.length) = False := eq_false hk
                    have q8'' : decide (k < AL.length) = false := decide_eq_false hk
                    clear hk HKK
                    go_wp2
                    go_ret
                    exact ⟨rfl, HB9.out⟩
            · have q3 : decide ((i : Int) < (more.length : Int)) = false := decide_eq_false (by omega)
              have q3' : (i < more.length) = False := eq_false hi
              have q3'' : decide (i < more.length) = false := decide_eq_false hi
              have HAF := Aside0.mk (show After s keep sp sq 10160 80 by have h1 := HI.out; obtain ⟨a, b, c, d, e, f, g1, g2, g3, g4⟩ := HAF.out; exact ⟨a.mono (by omega), b.mono (by omega), by omega, by omega, e, f, g1, g2, g3, g4⟩)
              clear hi HI
              have HLE := Aside0.mk HAF.out.from_
              obtain ⟨lp, hlp⟩ : ∃ z, sp.last = z := ⟨_, rfl⟩
              have HLP := Aside0.mk hlp
              have HLQ := Aside0.mk (show s.last ≤ lp by rw [← hlp, HAF.out.last]; exact HAF.out.from_)
              have HLB := Aside0.mk (show 0 ≤ s.last ∧ lp ≤ 20000 by have h1 := HG.out.ok.low; have h2 := HAF.out.okp.high; omega)
              have HW1 := Aside0.mk (show IntKind.u64.wrap (s.last + 1) = s.last + 1 from u64_w (by have := HLB.out; omega) (by have := HLB.out; have := HLQ.out; omega))
              have HW9 := Aside0.mk (show IntKind.u64.wrap (lp + 9) = lp + 9 from u64_w (by have := HLB.out; have := HLQ.out; omega) (by have := HLB.out; omega))
              have hba := below_alloc (Below.refl wr.heap.size wr) (.cells #[] 50)
              have HBE := Aside0.mk hba
              clear hlp hba
              go_wp2_with (first
                | (at_builtin; have := HP8; go_must (refine Kd.R_append_rows (Kd.int .u64) (w0 := wr) wr.heap.size rfl (.tmp 126) (.tmp 135) 67 50 (.int .u64 0) 8 rfl Try.underlying67 (by kernel_rfl) (by rfl) (by decide) (by decide) _ keep [s.last, IntKind.u64.wrap (s.last + 1), lp, IntKind.u64.wrap (lp + 9)] (some ⟨w8.heap.size, 0, none⟩) 4 4 (fun _ => True) (fun _ => False) rfl rfl (Kd.R_below H8.out (below_alloc (Below.refl _ _) _)) (C_four (heap_alloc_new w8 _)) (fun _ _ h => h) (fun k hk => hk.elim) (fun _ _ => trivial) (bel_alloc HB8.out _) (Nat.le_trans HB8.out.size (by rw [World.size_alloc]; omega)) (by have := HK50.out; omega) ?_); intro v9 w9 h9 hb9 hg9 ha9; rw [HW1.out, HW9.out, HAL.out] at h9; obtain ⟨A9, c9, rfl⟩ := Kd.R_slice h9; have H9 := Aside0.mk h9; have HP9 := Aside0.mk (HP0.out.below hb9); clear h9 hb9 hg9 ha9)
                | (at_builtin; go_must (refine Kd.R_append_rows (Kd.int .u64) (w0 := wr) wr.heap.size rfl (.tmp 124) (.tmp 125) 67 50 (.int .u64 0) 8 rfl Try.underlying67 (by kernel_rfl) (by rfl) (by decide) (by decide) _ [] keep A0 keep.length c0 (fun _ => True) (fun _ => False) rfl rfl (R_empty (Kd.int .u64) 50 wr wr.heap.size (Nat.le_refl _)) (Kd.C_below HKC.out (bel_trans HP0.out.p.at0 HBE.out)) (fun _ _ h => h) (fun k hk => hk.elim) (fun _ _ => trivial) (below_alloc (Below.refl _ _) _) (by rw [World.size_alloc]; omega) (by have := HK50.out; show (0 + keep.length) * 8 ≤ _; omega) ?_); intro v6 w6 h6 hb6 hg6 ha6; rw [List.nil_append] at h6; obtain ⟨A6, c6, rfl⟩ := Kd.R_slice h6; have H6 := Aside0.mk h6; have HB6 := Aside0.mk hb6; clear h6 hb6 hg6 ha6)
                | (go_at_call 27; first
                  | (have := HP7; (with_reducible refine (PX.last HP7.out.p).mono ?_); rintro e w8 ⟨rfl, -, hb⟩; rw [HLP.out]; have HP8 := Aside0.mk (HP7.out.below hb); have H8 := Aside0.mk (Kd.R_below H7.out hb); have HB8 := Aside0.mk (bel_trans HB7.out hb); obtain ⟨AL, hAL⟩ : ∃ z, askedL keep s.last lp = z := ⟨_, rfl⟩; have HAL := Aside0.mk (show keep ++ [s.last, s.last + 1, lp, lp + 9] = AL from hAL); have HALE := Aside0.mk hAL; clear hb hAL)
                  | ((with_reducible refine (PX.last (HP0.out.below HB6.out).p).mono ?_); rintro e w7 ⟨rfl, -, hb⟩; rw [HLP.out]; have HP7 := Aside0.mk ((HP0.out.below HB6.out).below hb); have H7 := Aside0.mk (Kd.R_below H6.out hb); have HB7 := Aside0.mk (bel_trans HB6.out hb); clear hb)))
              have HALL := Aside0.mk (show AL.length ≤ 54 by rw [← HALE.out]; unfold askedL; rw [List.length_append]; have := HK50.out; simp; omega)
              have HASK := Aside0.mk (fun v (hv : v ∈ AL) => HAF.out.asked HG.out HKO.out (v := v) (by rw [← HALE.out] at hv; exact asked_mem HLQ.out hv))
              obtain ⟨nb, hnb⟩ : ∃ z, wr.heap.size = z := ⟨_, rfl⟩
              rw [hnb] at H9
              clear hnb HP0 HP7 HP8 H6 H7 H8 HB6 HB7 HB8 HBE HAL HALE
              go_loopg [16] AL.length (fun gk v16 wr => ∃ (k : Nat), v16 = .int .i64 k ∧ Aside0 (k ≤ AL.length ∧ AL.length - k ≤ gk) ∧ Aside0 (PP (fun _ => False) w wr gp gq sp sq) ∧ Aside0 ((Kd.int .u64).R 50 wr nb (fun _ => True) (.slice A9 AL.length c9) AL))
              case atStart => exact ⟨0, rfl, ⟨by omega, by omega⟩, HP9, H9⟩
              case round =>
                clear HP9 H9
                obtain ⟨k, rfl, HKK, HP9, H9⟩ := hrel
                have HB9 := Aside0.mk HP9.out.p.at0
                by_cases hk : k < AL.length
                · have q8 : decide ((k : Int) < (AL.length : Int)) = true := decide_eq_true (by omega)
                  have q8' : (k : Int) < (AL.length : Int) := by omega
                  obtain ⟨ad, x, rfl, hx, x0⟩ := C_int_at (Kd.R_reads' H9.out).2.2 hk
                  have HIN := Aside0.mk (show wrap64 ((k : Int) + 1) = ((k + 1 : Nat) : Int) by have := HALL.out; unfold wrap64; omega)
                  have HX := Aside0.mk hx
                  obtain ⟨hk1, hk2, hk3⟩ := HASK.out x (List.mem_of_getElem? hx)
                  have HK1 := Aside0.mk hk1
                  have HK2 := Aside0.mk hk2
                  have HK3 := Aside0.mk hk3
                  obtain ⟨gk, rfl⟩ : ∃ m, gk = m + 1 := ⟨gk - 1, by have := HKK.out; omega⟩
                  have HKL := Aside0.mk hk
                  clear hx hk hk1 hk2 hk3
                  go_wp2_with (first
                    | (go_at_call 32; first
                      | (have := HT4; (with_reducible refine (PX.all_known HP4.out.q HAF.out.okq.small HAF.out.okq.fit x HK2.out).mono ?_); rintro e w5 ⟨⟨a2, d2, rfl, ho, he, hal⟩, -, hb⟩; have HT5 := Aside0.mk (show Told w5 w4.heap.size a2 d2 from ⟨ho, he⟩); have HT1 := Aside0.mk (HT4.out.below hb); have HEQ := Aside0.mk (show d1.map Elt.r = d2.map Elt.r from HK3.out _ _ HAL4.out hal); have HP5 := Aside0.mk (HP4.out.below hb); have H5 := Aside0.mk (Kd.R_below H4.out hb); clear ho he hal hb)
                      | ((with_reducible refine (PX.all_known HP9.out.p HAF.out.okp.small HAF.out.okp.fit x HK1.out).mono ?_); rintro e w4 ⟨⟨a1, d1, rfl, ho, he, hal⟩, -, hb⟩; have HT4 := Aside0.mk (show Told w4 wr.heap.size a1 d1 from ⟨ho, he⟩); have HAL4 := Aside0.mk hal; have HP4 := Aside0.mk (HP9.out.below hb); have H4 := Aside0.mk (Kd.R_below H9.out hb); have x0 := R_at H4.out rfl HX.out; have HDR := Aside0.mk (told_rows hal HAF.out.okp.small HP9.out.p.rows); clear ho he hal hb))
                    | (go_at_call 35; (with_reducible refine (same_calls HT1.out HT5.out HEQ.out HDR.out.1 HDR.out.2).mono ?_); rintro e w6 ⟨rfl, hb⟩; have HP6 := Aside0.mk (HP5.out.below hb); have H6 := Aside0.mk (Kd.R_below H5.out hb); clear hb))
                  go_roundg gk
                  case measure => omega
                  case rel => exact ⟨k + 1, congrArg (Value.int .i64) HIN.out, ⟨by have := HKL.out; omega, by have := HKK.out; have := HKL.out; omega⟩, HP6, H6⟩
                · have q8 : decide ((k : Int) < (AL.length : Int)) = false := decide_eq_false (by omega)
                  have q8' : (k < AL.length) = False := eq_false hk
                  have q8'' : decide (k < AL.length) = false := decide_eq_false hk
                  clear hk HKK
                  go_wp2
                  go_ret
                  exact ⟨rfl, HB9.out⟩
      · have q1 : decide ((i : Int) < (l.length : Int)) = false := decide_eq_false (by omega)
        have q1' : (i < l.length) = False := eq_false hi
        have q1'' : decide (i < l.length) = false := decide_eq_false hi
        have HG := Aside0.mk (HOM.out.mono (m' := 7620) (n' := 60) (by have := HI.out; omega) HI.out.1)
        clear hi HI HOM
        go_wp2_with (first
          | (go_at_call 27; (with_reducible refine (PX.last HP0.out.p).mono ?_); rintro e w3 ⟨rfl, -, hb⟩; have HP3 := Aside0.mk (HP0.out.below hb); have HB3 := Aside0.mk (bel_trans HB0.out hb); clear hb)
          | (go_at_call 28; (with_reducible refine (PX.sweepF HP3.out.p HG.out.ok.fit A0 c0 keep (Kd.C_below HKC.out HB3.out) (by have := HK50.out; omega)).mono ?_); rintro e w4 ⟨rfl, hP, ht⟩; have HP4 := Aside0.mk (HP3.out.left hP ht); clear hP ht))
        clear HP0 HP3 HB0 HB3
        go_loopg [13] 20 (fun gk v13 wr => ∃ (i : Nat) (sp sq : St), v13 = .int .i64 i ∧ Aside0 (i ≤ 20 ∧ 20 - i ≤ gk) ∧ Aside0 (PP (fun _ => False) w wr gp gq sp sq) ∧ Aside0 (After s keep sp sq (7620 + i * 127) (60 + i)))
        case atStart => exact ⟨0, _, _, rfl, ⟨by omega, by omega⟩, HP4, ⟨by have := After.start (keep := keep) HG.out; simpa using this⟩⟩
        case round =>
          clear HP4
          obtain ⟨i, sp, sq, rfl, HI, HP0, HAF⟩ := hrel
          have HB0 := Aside0.mk HP0.out.p.at0
          by_cases hi : i < more.length
          · have q3 : decide ((i : Int) < (more.length : Int)) = true := decide_eq_true (by omega)
            have q3' : (i : Int) < (more.length : Int) := by omega
            by_cases h20 : i < 20
            · have q4 : decide ((i : Int) < 20) = true := decide_eq_true (by omega)
              have q4' : decide (i < 20) = true := decide_eq_true h20
              obtain ⟨ad, x, A1, c1, A2, c2, A3, c3, rfl, hx, hO⟩ := op_at HMC.out hi
              have HXO := Aside0.mk (HMO.out.2 x (List.mem_of_getElem? hx))
              have HO := Aside0.mk hO
              have y1 := (hO.below HB0.out).y1
              have y2 := (hO.below HB0.out).y2
              have y3 := (hO.below HB0.out).y3
              have y4 := (hO.below HB0.out).y4
              have HI20 := Aside0.mk h20
              have HIN := Aside0.mk (show wrap64 ((i : Int) + 1) = ((i + 1 : Nat) : Int) by unfold wrap64; omega)
              have HV1 := Aside0.mk (show 0 ≤ sp.last ∧ sp.last ≤ 1000000000000 by have h1 := HAF.out.okp.low; have h2 := HAF.out.okp.high; omega)
              have HV2 := Aside0.mk (wf_i8' HXO.out.2.1)
              have HVL := Aside0.mk (show 0 ≤ verOf sp.last x.2.1 ∧ verOf sp.last x.2.1 ≤ 7620 + ((i + 1 : Nat) : Int) * 127 by have h1 := verOf_le HV1.out.1 HV2.out; have h2 := HAF.out.okp.high; omega)
              obtain ⟨gk, rfl⟩ : ∃ m, gk = m + 1 := ⟨gk - 1, by have := HI.out; omega⟩
              clear hx hO hi h20
              go_wp2_with (go_at_call 30; (with_reducible refine (small_calls x.2.2.1.1 x.2.2.1.2.1 x.2.2.1.2.2 A1 c1 A2 c2 _ HO.out.fit1 (HO.out.below HB0.out).vec HO.out.fit2 (HO.out.below HB0.out).tags).mono ?_); rintro e w3 ⟨⟨r, rfl, hr⟩, hb⟩; have HP3 := Aside0.mk (HP0.out.below hb); have HB3 := Aside0.mk (bel_trans HB0.out hb); clear hb y1 y2 y3 y4; rcases r with _ | _; clear hr; rotate_left; (have HSM := Aside0.mk (hr rfl)); clear hr; rotate_right)
              · go_ret
                exact ⟨rfl, HB3.out⟩
              · skip
                have HPD := Aside0.mk (HP3.out.below (below_drew (Below.refl _ _)))
                have HB := Aside0.mk (bel_trans HB3.out (below_drew (Below.refl _ _)))
                clear HP3 HB3
                refine start_ (n := 9) (S := fun w' => w'.cell? ⟨(ad.add (i * 6)).block, (ad.add (i * 6)).off + 1, none⟩ = some (.int .i8 x.2.1)) (ds := []) #[false, false, false, false, false, false, false, false, false] (by kernel_rfl) rfl rfl ((HO.out.below HB.out).y1) (fun hHeld => ?_)
                refine with_tabW sw.tab25 sw.bits25 (fun HT_ HW_ => ?_)
                generalize w3.drew = wd at HPD HB hHeld ⊢
                refine pure_ (i := 0) (N := some 99) (v := ?_) (a' := ?_) #[true, false, false, false, false, false, false, false, false] rfl rfl (any_of HT_.out (by kernel_rfl)) (fun _ _ _ h => h) (Or.inl ⟨by rfl, ?_⟩) ?_ ?_
                rotate_left
                · intro w'
                  go_simp
                  with_reducible rfl
                rotate_left
                · simp only [Act.put, List.setIfInBounds_toArray, List.set_cons_zero, List.set_cons_succ, i64_w, i32_w]
                  rfl
                refine pure_ (i := 2) (N := some 101) (v := ?_) (a' := ?_) #[true, false, true, false, false, false, false, false, false] rfl rfl (any_of HT_.out (by kernel_rfl)) (fun _ _ _ h => h) (Or.inl ⟨by rfl, ?_⟩) ?_ ?_
                rotate_left
                · intro w'
                  go_simp
                  with_reducible rfl
                rotate_left
                · simp only [Act.put, List.setIfInBounds_toArray, List.set_cons_zero, List.set_cons_succ, i64_w, i32_w]
                  rfl
                refine pure_ (i := 3) (N := some 102) (v := ?_) (a' := ?_) #[true, false, true, true, false, false, false, false, false] rfl rfl (any_of HT_.out (by kernel_rfl)) (fun _ _ _ h => h) (Or.inl ⟨by rfl, ?_⟩) ?_ ?_
                rotate_left
                · intro w'
                  go_simp
                  with_reducible rfl
                rotate_left
                · simp only [Act.put, List.setIfInBounds_toArray, List.set_cons_zero, List.set_cons_succ, i64_w, i32_w]
                  rfl
                refine pure_ (i := 4) (N := some 103) (v := ?_) (a' := ?_) #[true, false, true, true, true, false, false, false, false] rfl rfl (any_of HT_.out (by kernel_rfl)) (fun _ _ _ h => h) (Or.inl ⟨by rfl, ?_⟩) ?_ ?_
                rotate_left
                · intro w'
                  go_simp
                  with_reducible rfl
                rotate_left
                · simp only [Act.put, List.setIfInBounds_toArray, List.set_cons_zero, List.set_cons_succ, i64_w, i32_w]
                  rfl
                refine pure_ (i := 5) (N := some 104) (v := ?_) (a' := ?_) #[true, false, true, true, true, true, false, false, false] rfl rfl (any_of HT_.out (by kernel_rfl)) (fun _ _ _ h => h) (Or.inl ⟨by rfl, ?_⟩) ?_ ?_
                rotate_left
                · intro w'
                  go_simp
                  with_reducible rfl
                rotate_left
                · simp only [Act.put, List.setIfInBounds_toArray, List.set_cons_zero, List.set_cons_succ, i64_w, i32_w]
                  rfl
                refine take_ (i := 6) (N := some 105) (v := ?_) (a' := ?_) #[true, false, true, true, true, true, true, false, false] rfl rfl (take_ofW HT_.out HW_.out (by kernel_rfl)) (fun _ _ _ h => h) (Or.inl ⟨by rfl, ?_⟩) hHeld ?_ ?_
                rotate_left
                · intro w' s0
                  go_simp
                  with_reducible rfl
                rotate_left
                · simp only [Act.put, List.setIfInBounds_toArray, List.set_cons_zero, List.set_cons_succ, i64_w, i32_w]
                  rfl
                refine one_ (i := 1) (N := some 100) #[true, true, true, true, true, true, true, false, false] rfl rfl (one_of HT_.out (by kernel_rfl)) (by decide) (fun K hK => ?_)
                refine goes_ Try.func27 (by kernel_rfl) rfl #[.pointer (some ⟨gp, 0, none⟩)] (by rfl) rfl rfl (by simp only [List.map_toArray, List.map_cons, List.map_nil]; rfl) ?_
                with_reducible refine (PX.last HPD.out.p).mono ?_
                rintro e w4 ⟨rfl, -, hb⟩
                refine ⟨_, rfl, ?_⟩
                have HP4 := Aside0.mk (HPD.out.below hb)
                have HB4 := Aside0.mk (bel_trans HB.out hb)
                clear hb HPD HB
                refine hK.out _ _ ((HO.out.below HB4.out).y1) (fun hHeld => ?_)
                clear hK K
                refine norm_ (a' := ?_) ?_ ?_
                rotate_left
                · show Act.put _ (some 100) _ = _
                  simp only [Act.put, List.setIfInBounds_toArray, List.set_cons_zero, List.set_cons_succ, i64_w, i32_w]
                  rfl
                refine one_ (i := 7) (N := some 106) #[true, true, true, true, true, true, true, true, false] rfl rfl (one_of HT_.out (by kernel_rfl)) (by decide) (fun K hK => ?_)
                refine goes_ Try.func34 (by kernel_rfl) rfl #[.int .u64 sp.last, .int .i8 x.2.1] (by rfl) rfl rfl (by simp only [List.map_toArray, List.map_cons, List.map_nil]; rfl) ?_
                with_reducible refine (ver_calls sp.last x.2.1 _ HV1.out HV2.out).mono ?_
                rintro e w5 ⟨rfl, hb⟩
                refine ⟨_, rfl, ?_⟩
                have HP5 := Aside0.mk (HP4.out.below hb)
                have HB5 := Aside0.mk (bel_trans HB4.out hb)
                clear hb HP4 HB4
                refine hK.out _ _ ((HO.out.below HB5.out).y1) (fun hHeld => ?_)
                clear hK K
                refine norm_ (a' := ?_) ?_ ?_
                rotate_left
                · show Act.put _ (some 106) _ = _
                  simp only [Act.put, List.setIfInBounds_toArray, List.set_cons_zero, List.set_cons_succ, i64_w, i32_w]
                  rfl
                refine pure_ (i := 8) (N := some 14) (v := ?_) (a' := ?_) #[true, true, true, true, true, true, true, true, true] rfl rfl (any_of HT_.out (by kernel_rfl)) (fun _ _ _ h => h) (Or.inl ⟨by rfl, ?_⟩) ?_ ?_
                rotate_left
                · intro w'
                  go_simp
                  with_reducible rfl
                rotate_left
                · simp only [Act.put, List.setIfInBounds_toArray, List.set_cons_zero, List.set_cons_succ, i64_w, i32_w]
                  rfl
                refine done_ (done_of HT_.out (by kernel_rfl)) ?_
                have HLAY := Aside0.mk (HAF.out.lay (by have := HI20.out; omega) (m' := 7620 + ((i + 1 : Nat) : Int) * 127) (by omega) (r := ⟨verOf sp.last x.2.1, false, x.2.2.1.1, x.2.2.1.2.1, x.2.2.1.2.2⟩) HSM.out HXO.out.2.2.1.1 HVL.out.1 HVL.out.2)
                obtain ⟨e1, he1⟩ : ∃ z, (sp.lay ⟨verOf sp.last x.2.1, false, x.2.2.1.1, x.2.2.1.2.1, x.2.2.1.2.2⟩).1 = z := ⟨_, rfl⟩
                have HE1 := Aside0.mk he1
                have HE2 := Aside0.mk (show (sq.lay ⟨verOf sp.last x.2.1, false, x.2.2.1.1, x.2.2.1.2.1, x.2.2.1.2.2⟩).1 = e1 by rw [← HLAY.out.1]; exact he1)
                obtain ⟨s1, hs1⟩ : ∃ z, (sp.lay ⟨verOf sp.last x.2.1, false, x.2.2.1.1, x.2.2.1.2.1, x.2.2.1.2.2⟩).2 = z := ⟨_, rfl⟩
                have HS1 := Aside0.mk hs1
                obtain ⟨s2, hs2⟩ : ∃ z, (sq.lay ⟨verOf sp.last x.2.1, false, x.2.2.1.1, x.2.2.1.2.1, x.2.2.1.2.2⟩).2 = z := ⟨_, rfl⟩
                have HS2 := Aside0.mk hs2
                have HA2 := Aside0.mk (show After s keep s1 s2 (7620 + ((i + 1 : Nat) : Int) * 127) (60 + (i + 1)) by rw [← hs1, ← hs2]; exact HLAY.out.2)
                clear he1 hs1 hs2 HLAY
                go_wp2
                have HPD := Aside0.mk (HP5.out.below (below_drew (Below.refl _ _)))
                have HB := Aside0.mk (bel_trans HB5.out (below_drew (Below.refl _ _)))
                clear HP5 HB5
                refine start_ (n := 17) (S := fun w' => w'.cell? ⟨(ad.add (i * 6)).block, (ad.add (i * 6)).off + 2, none⟩ = some (.int .u32 x.2.2.1.1) ∧ w'.cell? ⟨(ad.add (i * 6)).block, (ad.add (i * 6)).off + 2 + 1, none⟩ = some (.slice A1 x.2.2.1.2.1.length c1) ∧ w'.cell? ⟨(ad.add (i * 6)).block, (ad.add (i * 6)).off + 2 + 2, none⟩ = some (.slice A2 x.2.2.1.2.2.length c2)) (ds := []) #[false, false, false, false, false, false, false, false, false, false, false, false, false, false, false, false, false] (by kernel_rfl) rfl rfl ⟨(HO.out.below HB.out).y2, (HO.out.below HB.out).y3, (HO.out.below HB.out).y4⟩ (fun hHeld => ?_)
                refine with_tabW sw.tab26 sw.bits26 (fun HT_ HW_ => ?_)
                generalize w5.drew = wd at HPD HB hHeld ⊢
                refine pure_ (i := 0) (N := some 107) (v := ?_) (a' := ?_) #[true, false, false, false, false, false, false, false, false, false, false, false, false, false, false, false, false] rfl rfl (any_of HT_.out (by kernel_rfl)) (fun _ _ _ h => h) (Or.inl ⟨by rfl, ?_⟩) ?_ ?_
                rotate_left
                · intro w'
                  go_simp
                  with_reducible rfl
                rotate_left
                · simp only [Act.put, List.setIfInBounds_toArray, List.set_cons_zero, List.set_cons_succ, i64_w, i32_w]
                  rfl
                refine pure_ (i := 1) (N := some 108) (v := ?_) (a' := ?_) #[true, true, false, false, false, false, false, false, false, false, false, false, false, false, false, false, false] rfl rfl (any_of HT_.out (by kernel_rfl)) (fun _ _ _ h => h) (Or.inl ⟨by rfl, ?_⟩) ?_ ?_
                rotate_left
                · intro w'
                  go_simp
                  with_reducible rfl
                rotate_left
                · simp only [Act.put, List.setIfInBounds_toArray, List.set_cons_zero, List.set_cons_succ, i64_w, i32_w]
                  rfl
                refine pure_ (i := 2) (N := some 109) (v := ?_) (a' := ?_) #[true, true, true, false, false, false, false, false, false, false, false, false, false, false, false, false, false] rfl rfl (any_of HT_.out (by kernel_rfl)) (fun _ _ _ h => h) (Or.inl ⟨by rfl, ?_⟩) ?_ ?_
                rotate_left
                · intro w'
                  go_simp
                  with_reducible rfl
                rotate_left
                · simp only [Act.put, List.setIfInBounds_toArray, List.set_cons_zero, List.set_cons_succ, i64_w, i32_w]
                  rfl
                refine pure_ (i := 3) (N := some 110) (v := ?_) (a' := ?_) #[true, true, true, true, false, false, false, false, false, false, false, false, false, false, false, false, false] rfl rfl (any_of HT_.out (by kernel_rfl)) (fun _ _ _ h => h) (Or.inl ⟨by rfl, ?_⟩) ?_ ?_
                rotate_left
                · intro w'
                  go_simp
                  with_reducible rfl
                rotate_left
                · simp only [Act.put, List.setIfInBounds_toArray, List.set_cons_zero, List.set_cons_succ, i64_w, i32_w]
                  rfl
                refine pure_ (i := 4) (N := some 111) (v := ?_) (a' := ?_) #[true, true, true, true, true, false, false, false, false, false, false, false, false, false, false, false, false] rfl rfl (any_of HT_.out (by kernel_rfl)) (fun _ _ _ h => h) (Or.inl ⟨by rfl, ?_⟩) ?_ ?_
                rotate_left
                · intro w'
                  go_simp
                  with_reducible rfl
                rotate_left
                · simp only [Act.put, List.setIfInBounds_toArray, List.set_cons_zero, List.set_cons_succ, i64_w, i32_w]
                  rfl
                refine pure_ (i := 5) (N := some 112) (v := ?_) (a' := ?_) #[true, true, true, true, true, true, false, false, false, false, false, false, false, false, false, false, false] rfl rfl (any_of HT_.out (by kernel_rfl)) (fun _ _ _ h => h) (Or.inl ⟨by rfl, ?_⟩) ?_ ?_
                rotate_left
                · intro w'
                  go_simp
                  with_reducible rfl
                rotate_left
                · simp only [Act.put, List.setIfInBounds_toArray, List.set_cons_zero, List.set_cons_succ, i64_w, i32_w]
                  rfl
                refine pure_ (i := 8) (N := some 115) (v := ?_) (a' := ?_) #[true, true, true, true, true, true, false, false, true, false, false, false, false, false, false, false, false] rfl rfl (any_of HT_.out (by kernel_rfl)) (fun _ _ _ h => h) (Or.inl ⟨by rfl, ?_⟩) ?_ ?_
                rotate_left
                · intro w'
                  go_simp
                  with_reducible rfl
                rotate_left
                · simp only [Act.put, List.setIfInBounds_toArray, List.set_cons_zero, List.set_cons_succ, i64_w, i32_w]
                  rfl
                refine pure_ (i := 9) (N := some 116) (v := ?_) (a' := ?_) #[true, true, true, true, true, true, false, false, true, true, false, false, false, false, false, false, false] rfl rfl (any_of HT_.out (by kernel_rfl)) (fun _ _ _ h => h) (Or.inl ⟨by rfl, ?_⟩) ?_ ?_
                rotate_left
                · intro w'
                  go_simp
                  with_reducible rfl
                rotate_left
                · simp only [Act.put, List.setIfInBounds_toArray, List.set_cons_zero, List.set_cons_succ, i64_w, i32_w]
                  rfl
                refine pure_ (i := 10) (N := some 117) (v := ?_) (a' := ?_) #[true, true, true, true, true, true, false, false, true, true, true, false, false, false, false, false, false] rfl rfl (any_of HT_.out (by kernel_rfl)) (fun _ _ _ h => h) (Or.inl ⟨by rfl, ?_⟩) ?_ ?_
                rotate_left
                · intro w'
                  go_simp
                  with_reducible rfl
                rotate_left
                · simp only [Act.put, List.setIfInBounds_toArray, List.set_cons_zero, List.set_cons_succ, i64_w, i32_w]
                  rfl
                refine pure_ (i := 11) (N := some 118) (v := ?_) (a' := ?_) #[true, true, true, true, true, true, false, false, true, true, true, true, false, false, false, false, false] rfl rfl (any_of HT_.out (by kernel_rfl)) (fun _ _ _ h => h) (Or.inl ⟨by rfl, ?_⟩) ?_ ?_
                rotate_left
                · intro w'
                  go_simp
                  with_reducible rfl
                rotate_left
                · simp only [Act.put, List.setIfInBounds_toArray, List.set_cons_zero, List.set_cons_succ, i64_w, i32_w]
                  rfl
                refine pure_ (i := 12) (N := some 119) (v := ?_) (a' := ?_) #[true, true, true, true, true, true, false, false, true, true, true, true, true, false, false, false, false] rfl rfl (any_of HT_.out (by kernel_rfl)) (fun _ _ _ h => h) (Or.inl ⟨by rfl, ?_⟩) ?_ ?_
                rotate_left
                · intro w'
                  go_simp
                  with_reducible rfl
                rotate_left
                · simp only [Act.put, List.setIfInBounds_toArray, List.set_cons_zero, List.set_cons_succ, i64_w, i32_w]
                  rfl
                refine pure_ (i := 13) (N := some 120) (v := ?_) (a' := ?_) #[true, true, true, true, true, true, false, false, true, true, true, true, true, true, false, false, false] rfl rfl (any_of HT_.out (by kernel_rfl)) (fun _ _ _ h => h) (Or.inl ⟨by rfl, ?_⟩) ?_ ?_
                rotate_left
                · intro w'
                  go_simp
                  with_reducible rfl
                rotate_left
                · simp only [Act.put, List.setIfInBounds_toArray, List.set_cons_zero, List.set_cons_succ, i64_w, i32_w]
                  rfl
                refine take_ (i := 6) (N := some 113) (v := ?_) (a' := ?_) #[true, true, true, true, true, true, true, false, true, true, true, true, true, true, false, false, false] rfl rfl (take_ofW HT_.out HW_.out (by kernel_rfl)) (fun _ _ _ h => h) (Or.inl ⟨by rfl, ?_⟩) hHeld ?_ ?_
                rotate_left
                · rintro w' ⟨s0, s1, s2⟩
                  go_simp
                  with_reducible rfl
                rotate_left
                · simp only [Act.put, List.setIfInBounds_toArray, List.set_cons_zero, List.set_cons_succ, i64_w, i32_w]
                  rfl
                refine take_ (i := 14) (N := some 121) (v := ?_) (a' := ?_) #[true, true, true, true, true, true, true, false, true, true, true, true, true, true, true, false, false] rfl rfl (take_ofW HT_.out HW_.out (by kernel_rfl)) (fun _ _ _ h => h) (Or.inl ⟨by rfl, ?_⟩) hHeld ?_ ?_
                rotate_left
                · rintro w' ⟨s0, s1, s2⟩
                  go_simp
                  with_reducible rfl
                rotate_left
                · simp only [Act.put, List.setIfInBounds_toArray, List.set_cons_zero, List.set_cons_succ, i64_w, i32_w]
                  rfl
                refine one_ (i := 7) (N := some 114) #[true, true, true, true, true, true, true, true, true, true, true, true, true, true, true, false, false] rfl rfl (one_of HT_.out (by kernel_rfl)) (by decide) (fun K hK => ?_)
                refine goes_ Try.func25 (by kernel_rfl) rfl #[.pointer (some ⟨gp, 0, none⟩), .int .u64 (verOf sp.last x.2.1), .agg #[.int .u32 x.2.2.1.1, .slice A1 x.2.2.1.2.1.length c1, .slice A2 x.2.2.1.2.2.length c2]] (by rfl) rfl rfl (by simp only [List.map_toArray, List.map_cons, List.map_nil]; rfl) ?_
                with_reducible refine (PX.putF HPD.out.p ⟨verOf sp.last x.2.1, false, x.2.2.1.1, x.2.2.1.2.1, x.2.2.1.2.2⟩ A1 c1 A2 c2 rfl (parts_op (HO.out.below HB.out) HSM.out) HVL.out.1 (fun k hk => hk.elim)).mono ?_
                rintro e w6 ⟨rfl, hP, ht⟩
                refine ⟨_, rfl, ?_⟩
                rw [HE1.out]
                rw [HS1.out] at hP
                have HP6 := Aside0.mk (HPD.out.left hP ht)
                have HB6 := Aside0.mk HP6.out.p.at0
                clear hP ht HPD HB
                refine hK.out _ _ ⟨(HO.out.below HB6.out).y2, (HO.out.below HB6.out).y3, (HO.out.below HB6.out).y4⟩ (fun hHeld => ?_)
                clear hK K
                refine norm_ (a' := ?_) ?_ ?_
                rotate_left
                · show Act.put _ (some 114) _ = _
                  simp only [Act.put, List.setIfInBounds_toArray, List.set_cons_zero, List.set_cons_succ, i64_w, i32_w]
                  rfl
                refine one_ (i := 15) (N := some 122) #[true, true, true, true, true, true, true, true, true, true, true, true, true, true, true, true, false] rfl rfl (one_of HT_.out (by kernel_rfl)) (by decide) (fun K hK => ?_)
                refine goes_ Try.func25 (by kernel_rfl) rfl #[.pointer (some ⟨gq, 0, none⟩), .int .u64 (verOf sp.last x.2.1), .agg #[.int .u32 x.2.2.1.1, .slice A1 x.2.2.1.2.1.length c1, .slice A2 x.2.2.1.2.2.length c2]] (by rfl) rfl rfl (by simp only [List.map_toArray, List.map_cons, List.map_nil]; rfl) ?_
                with_reducible refine (PX.putF HP6.out.q ⟨verOf sp.last x.2.1, false, x.2.2.1.1, x.2.2.1.2.1, x.2.2.1.2.2⟩ A1 c1 A2 c2 rfl (parts_op (HO.out.below HB6.out) HSM.out) HVL.out.1 (fun k hk => hk.elim)).mono ?_
                rintro e w7 ⟨rfl, hP, ht⟩
                refine ⟨_, rfl, ?_⟩
                rw [HE2.out]
                rw [HS2.out] at hP
                have HP7 := Aside0.mk (HP6.out.right hP ht)
                have HB7 := Aside0.mk HP7.out.p.at0
                clear hP ht HP6 HB6
                refine hK.out _ _ ⟨(HO.out.below HB7.out).y2, (HO.out.below HB7.out).y3, (HO.out.below HB7.out).y4⟩ (fun hHeld => ?_)
                clear hK K
                refine norm_ (a' := ?_) ?_ ?_
                rotate_left
                · show Act.put _ (some 122) _ = _
                  simp only [Act.put, List.setIfInBounds_toArray, List.set_cons_zero, List.set_cons_succ, i64_w, i32_w]
                  rfl
                refine pure_ (i := 16) (N := some 123) (v := ?_) (a' := ?_) #[true, true, true, true, true, true, true, true, true, true, true, true, true, true, true, true, true] rfl rfl (any_of HT_.out (by kernel_rfl)) (fun _ _ _ h => h) (Or.inl ⟨by rfl, ?_⟩) ?_ ?_
                rotate_left
                · intro w'
                  go_simp
                  with_reducible rfl
                rotate_left
                · simp only [Act.put, List.setIfInBounds_toArray, List.set_cons_zero, List.set_cons_succ, i64_w, i32_w]
                  rfl
                refine done_ (done_of HT_.out (by kernel_rfl)) ?_
                have qe : (e1 != e1) = false := by simp
                go_wp2
                go_roundg gk
                case measure => omega
                case rel => exact ⟨i + 1, _, _, congrArg (Value.int .i64) HIN.out, ⟨by have := HI20.out; omega, by have := HI.out; have := HI20.out; omega⟩, HP7, HA2⟩
            · have q4 : decide ((i : Int) < 20) = false := decide_eq_false (by omega)
              have q4' : decide (i < 20) = false := decide_eq_false h20
              have HAF := Aside0.mk (show After s keep sp sq 10160 80 by have h1 := HI.out; obtain ⟨a, b, c, d, e, f, g1, g2, g3, g4⟩ := HAF.out; exact ⟨a.mono (by omega), b.mono (by omega), by omega, by omega, e, f, g1, g2, g3, g4⟩)
              clear hi h20 HI
              have HLE := Aside0.mk HAF.out.from_
              obtain ⟨lp, hlp⟩ : ∃ z, sp.last = z := ⟨_, rfl⟩
              have HLP := Aside0.mk hlp
              have HLQ := Aside0.mk (show s.last ≤ lp by rw [← hlp, HAF.out.last]; exact HAF.out.from_)
              have HLB := Aside0.mk (show 0 ≤ s.last ∧ lp ≤ 20000 by have h1 := HG.out.ok.low; have h2 := HAF.out.okp.high; omega)
              have HW1 := Aside0.mk (show IntKind.u64.wrap (s.last + 1) = s.last + 1 from u64_w (by have := HLB.out; omega) (by have := HLB.out; have := HLQ.out; omega))
              have HW9 := Aside0.mk (show IntKind.u64.wrap (lp + 9) = lp + 9 from u64_w (by have := HLB.out; have := HLQ.out; omega) (by have := HLB.out; omega))
              have hba := below_alloc (Below.refl wr.heap.size wr) (.cells #[] 50)
              have HBE := Aside0.mk hba
              clear hlp hba
              go_wp2_with (first
                | (at_builtin; have := HP8; go_must (refine Kd.R_append_rows (Kd.int .u64) (w0 := wr) wr.heap.size rfl (.tmp 126) (.tmp 135) 67 50 (.int .u64 0) 8 rfl Try.underlying67 (by kernel_rfl) (by rfl) (by decide) (by decide) _ keep [s.last, IntKind.u64.wrap (s.last + 1), lp, IntKind.u64.wrap (lp + 9)] (some ⟨w8.heap.size, 0, none⟩) 4 4 (fun _ => True) (fun _ => False) rfl rfl (Kd.R_below H8.out (below_alloc (Below.refl _ _) _)) (C_four (heap_alloc_new w8 _)) (fun _ _ h => h) (fun k hk => hk.elim) (fun _ _ => trivial) (bel_alloc HB8.out _) (Nat.le_trans HB8.out.size (by rw [World.size_alloc]; omega)) (by have := HK50.out; omega) ?_); intro v9 w9 h9 hb9 hg9 ha9; rw [HW1.out, HW9.out, HAL.out] at h9; obtain ⟨A9, c9, rfl⟩ := Kd.R_slice h9; have H9 := Aside0.mk h9; have HP9 := Aside0.mk (HP0.out.below hb9); clear h9 hb9 hg9 ha9)
                | (at_builtin; go_must (refine Kd.R_append_rows (Kd.int .u64) (w0 := wr) wr.heap.size rfl (.tmp 124) (.tmp 125) 67 50 (.int .u64 0) 8 rfl Try.underlying67 (by kernel_rfl) (by rfl) (by decide) (by decide) _ [] keep A0 keep.length c0 (fun _ => True) (fun _ => False) rfl rfl (R_empty (Kd.int .u64) 50 wr wr.heap.size (Nat.le_refl _)) (Kd.C_below HKC.out (bel_trans HP0.out.p.at0 HBE.out)) (fun _ _ h => h) (fun k hk => hk.elim) (fun _ _ => trivial) (below_alloc (Below.refl _ _) _) (by rw [World.size_alloc]; omega) (by have := HK50.out; show (0 + keep.length) * 8 ≤ _; omega) ?_); intro v6 w6 h6 hb6 hg6 ha6; rw [List.nil_append] at h6; obtain ⟨A6, c6, rfl⟩ := Kd.R_slice h6; have H6 := Aside0.mk h6; have HB6 := Aside0.mk hb6; clear h6 hb6 hg6 ha6)
                | (go_at_call 27; first
                  | (have := HP7; (with_reducible refine (PX.last HP7.out.p).mono ?_); rintro e w8 ⟨rfl, -, hb⟩; rw [HLP.out]; have HP8 := Aside0.mk (HP7.out.below hb); have H8 := Aside0.mk (Kd.R_below H7.out hb); have HB8 := Aside0.mk (bel_trans HB7.out hb); obtain ⟨AL, hAL⟩ : ∃ z, askedL keep s.last lp = z := ⟨_, rfl⟩; have HAL := Aside0.mk (show keep ++ [s.last, s.last + 1, lp, lp + 9] = AL from hAL); have HALE := Aside0.mk hAL; clear hb hAL)
                  | ((with_reducible refine (PX.last (HP0.out.below HB6.out).p).mono ?_); rintro e w7 ⟨rfl, -, hb⟩; rw [HLP.out]; have HP7 := Aside0.mk ((HP0.out.below HB6.out).below hb); have H7 := Aside0.mk (Kd.R_below H6.out hb); have HB7 := Aside0.mk (bel_trans HB6.out hb); clear hb)))
              have HALL := Aside0.mk (show AL.length ≤ 54 by rw [← HALE.out]; unfold askedL; rw [List.length_append]; have := HK50.out; simp; omega)
              have HASK := Aside0.mk (fun v (hv : v ∈ AL) => HAF.out.asked HG.out HKO.out (v := v) (by rw [← HALE.out] at hv; exact asked_mem HLQ.out hv))
              obtain ⟨nb, hnb⟩ : ∃ z, wr.heap.size = z := ⟨_, rfl⟩
              rw [hnb] at H9
              clear hnb HP0 HP7 HP8 H6 H7 H8 HB6 HB7 HB8 HBE HAL HALE
              go_loopg [16] AL.length (fun gk v16 wr => ∃ (k : Nat), v16 = .int .i64 k ∧ Aside0 (k ≤ AL.length ∧ AL.length - k ≤ gk) ∧ Aside0 (PP (fun _ => False) w wr gp gq sp sq) ∧ Aside0 ((Kd.int .u64).R 50 wr nb (fun _ => True) (.slice A9 AL.length c9) AL))
              case atStart => exact ⟨0, rfl, ⟨by omega, by omega⟩, HP9, H9⟩
              case round =>
                clear HP9 H9
                obtain ⟨k, rfl, HKK, HP9, H9⟩ := hrel
                have HB9 := Aside0.mk HP9.out.p.at0
                by_cases hk : k < AL.length
                · have q8 : decide ((k : Int) < (AL.length : Int)) = true := decide_eq_true (by omega)
                  have q8' : (k : Int) < (AL.length : Int) := by omega
                  obtain ⟨ad, x, rfl, hx, x0⟩ := C_int_at (Kd.R_reads' H9.out).2.2 hk
                  have HIN := Aside0.mk (show wrap64 ((k : Int) + 1) = ((k + 1 : Nat) : Int) by have := HALL.out; unfold wrap64; omega)
                  have HX := Aside0.mk hx
                  obtain ⟨hk1, hk2, hk3⟩ := HASK.out x (List.mem_of_getElem? hx)
                  have HK1 := Aside0.mk hk1
                  have HK2 := Aside0.mk hk2
                  have HK3 := Aside0.mk hk3
                  obtain ⟨gk, rfl⟩ : ∃ m, gk = m + 1 := ⟨gk - 1, by have := HKK.out; omega⟩
                  have HKL := Aside0.mk hk
                  clear hx hk hk1 hk2 hk3
                  go_wp2_with (first
                    | (go_at_call 32; first
                      | (have := HT4; (with_reducible refine (PX.all_known HP4.out.q HAF.out.okq.small HAF.out.okq.fit x HK2.out).mono ?_); rintro e w5 ⟨⟨a2, d2, rfl, ho, he, hal⟩, -, hb⟩; have HT5 := Aside0.mk (show Told w5 w4.heap.size a2 d2 from ⟨ho, he⟩); have HT1 := Aside0.mk (HT4.out.below hb); have HEQ := Aside0.mk (show d1.map Elt.r = d2.map Elt.r from HK3.out _ _ HAL4.out hal); have HP5 := Aside0.mk (HP4.out.below hb); have H5 := Aside0.mk (Kd.R_below H4.out hb); clear ho he hal hb)
                      | ((with_reducible refine (PX.all_known HP9.out.p HAF.out.okp.small HAF.out.okp.fit x HK1.out).mono ?_); rintro e w4 ⟨⟨a1, d1, rfl, ho, he, hal⟩, -, hb⟩; have HT4 := Aside0.mk (show Told w4 wr.heap.size a1 d1 from ⟨ho, he⟩); have HAL4 := Aside0.mk hal; have HP4 := Aside0.mk (HP9.out.below hb); have H4 := Aside0.mk (Kd.R_below H9.out hb); have x0 := R_at H4.out rfl HX.out; have HDR := Aside0.mk (told_rows hal HAF.out.okp.small HP9.out.p.rows); clear ho he hal hb))
                    | (go_at_call 35; (with_reducible refine (same_calls HT1.out HT5.out HEQ.out HDR.out.1 HDR.out.2).mono ?_); rintro e w6 ⟨rfl, hb⟩; have HP6 := Aside0.mk (HP5.out.below hb); have H6 := Aside0.mk (Kd.R_below H5.out hb); clear hb))
                  go_roundg gk
                  case measure => omega
                  case rel => exact ⟨k + 1, congrArg (Value.int .i64) HIN.out, ⟨by have := HKL.out; omega, by have := HKK.out; have := HKL.out; omega⟩, HP6, H6⟩
                · have q8 : decide ((k : Int) < (AL.length : Int)) = false := decide_eq_false (by omega)
                  have q8' : (k < AL.length) = False := eq_false hk
                  have q8'' : decide (k < AL.length) = false := decide_eq_false hk
                  clear hk HKK
                  go_wp2
                  go_ret
                  exact ⟨rfl, HB9.out⟩
          · have q3 : decide ((i : Int) < (more.length : Int)) = false := decide_eq_false (by omega)
            have q3' : (i < more.length) = False := eq_false hi
            have q3'' : decide (i < more.length) = false := decide_eq_false hi
            have HAF := Aside0.mk (show After s keep sp sq 10160 80 by have h1 := HI.out; obtain ⟨a, b, c, d, e, f, g1, g2, g3, g4⟩ := HAF.out; exact ⟨a.mono (by omega), b.mono (by omega), by omega, by omega, e, f, g1, g2, g3, g4⟩)
            clear hi HI
            have HLE := Aside0.mk HAF.out.from_
            obtain ⟨lp, hlp⟩ : ∃ z, sp.last = z := ⟨_, rfl⟩
            have HLP := Aside0.mk hlp
            have HLQ := Aside0.mk (show s.last ≤ lp by rw [← hlp, HAF.out.last]; exact HAF.out.from_)
            have HLB := Aside0.mk (show 0 ≤ s.last ∧ lp ≤ 20000 by have h1 := HG.out.ok.low; have h2 := HAF.out.okp.high; omega)
            have HW1 := Aside0.mk (show IntKind.u64.wrap (s.last + 1) = s.last + 1 from u64_w (by have := HLB.out; omega) (by have := HLB.out; have := HLQ.out; omega))
            have HW9 := Aside0.mk (show IntKind.u64.wrap (lp + 9) = lp + 9 from u64_w (by have := HLB.out; have := HLQ.out; omega) (by have := HLB.out; omega))
            have hba := below_alloc (Below.refl wr.heap.size wr) (.cells #[] 50)
            have HBE := Aside0.mk hba
            clear hlp hba
            go_wp2_with (first
              | (at_builtin; have := HP8; go_must (refine Kd.R_append_rows (Kd.int .u64) (w0 := wr) wr.heap.size rfl (.tmp 126) (.tmp 135) 67 50 (.int .u64 0) 8 rfl Try.underlying67 (by kernel_rfl) (by rfl) (by decide) (by decide) _ keep [s.last, IntKind.u64.wrap (s.last + 1), lp, IntKind.u64.wrap (lp + 9)] (some ⟨w8.heap.size, 0, none⟩) 4 4 (fun _ => True) (fun _ => False) rfl rfl (Kd.R_below H8.out (below_alloc (Below.refl _ _) _)) (C_four (heap_alloc_new w8 _)) (fun _ _ h => h) (fun k hk => hk.elim) (fun _ _ => trivial) (bel_alloc HB8.out _) (Nat.le_trans HB8.out.size (by rw [World.size_alloc]; omega)) (by have := HK50.out; omega) ?_); intro v9 w9 h9 hb9 hg9 ha9; rw [HW1.out, HW9.out, HAL.out] at h9; obtain ⟨A9, c9, rfl⟩ := Kd.R_slice h9; have H9 := Aside0.mk h9; have HP9 := Aside0.mk (HP0.out.below hb9); clear h9 hb9 hg9 ha9)
              | (at_builtin; go_must (refine Kd.R_append_rows (Kd.int .u64) (w0 := wr) wr.heap.size rfl (.tmp 124) (.tmp 125) 67 50 (.int .u64 0) 8 rfl Try.underlying67 (by kernel_rfl) (by rfl) (by decide) (by decide) _ [] keep A0 keep.length c0 (fun _ => True) (fun _ => False) rfl rfl (R_empty (Kd.int .u64) 50 wr wr.heap.size (Nat.le_refl _)) (Kd.C_below HKC.out (bel_trans HP0.out.p.at0 HBE.out)) (fun _ _ h => h) (fun k hk => hk.elim) (fun _ _ => trivial) (below_alloc (Below.refl _ _) _) (by rw [World.size_alloc]; omega) (by have := HK50.out; show (0 + keep.length) * 8 ≤ _; omega) ?_); intro v6 w6 h6 hb6 hg6 ha6; rw [List.nil_append] at h6; obtain ⟨A6, c6, rfl⟩ := Kd.R_slice h6; have H6 := Aside0.mk h6; have HB6 := Aside0.mk hb6; clear h6 hb6 hg6 ha6)
              | (go_at_call 27; first
                | (have := HP7; (with_reducible refine (PX.last HP7.out.p).mono ?_); rintro e w8 ⟨rfl, -, hb⟩; rw [HLP.out]; have HP8 := Aside0.mk (HP7.out.below hb); have H8 := Aside0.mk (Kd.R_below H7.out hb); have HB8 := Aside0.mk (bel_trans HB7.out hb); obtain ⟨AL, hAL⟩ : ∃ z, askedL keep s.last lp = z := ⟨_, rfl⟩; have HAL := Aside0.mk (show keep ++ [s.last, s.last + 1, lp, lp + 9] = AL from hAL); have HALE := Aside0.mk hAL; clear hb hAL)
                | ((with_reducible refine (PX.last (HP0.out.below HB6.out).p).mono ?_); rintro e w7 ⟨rfl, -, hb⟩; rw [HLP.out]; have HP7 := Aside0.mk ((HP0.out.below HB6.out).below hb); have H7 := Aside0.mk (Kd.R_below H6.out hb); have HB7 := Aside0.mk (bel_trans HB6.out hb); clear hb)))
            have HALL := Aside0.mk (show AL.length ≤ 54 by rw [← HALE.out]; unfold askedL; rw [List.length_append]; have := HK50.out; simp; omega)
            have HASK := Aside0.mk (fun v (hv : v ∈ AL) => HAF.out.asked HG.out HKO.out (v := v) (by rw [← HALE.out] at hv; exact asked_mem HLQ.out hv))
            obtain ⟨nb, hnb⟩ : ∃ z, wr.heap.size = z := ⟨_, rfl⟩
            rw [hnb] at H9
            clear hnb HP0 HP7 HP8 H6 H7 H8 HB6 HB7 HB8 HBE HAL HALE
            go_loopg [16] AL.length (fun gk v16 wr => ∃ (k : Nat), v16 = .int .i64 k ∧ Aside0 (k ≤ AL.length ∧ AL.length - k ≤ gk) ∧ Aside0 (PP (fun _ => False) w wr gp gq sp sq) ∧ Aside0 ((Kd.int .u64).R 50 wr nb (fun _ => True) (.slice A9 AL.length c9) AL))
            case atStart => exact ⟨0, rfl, ⟨by omega, by omega⟩, HP9, H9⟩
            case round =>
              clear HP9 H9
              obtain ⟨k, rfl, HKK, HP9, H9⟩ := hrel
              have HB9 := Aside0.mk HP9.out.p.at0
              by_cases hk : k < AL.length
              · have q8 : decide ((k : Int) < (AL.length : Int)) = true := decide_eq_true (by omega)
                have q8' : (k : Int) < (AL.length : Int) := by omega
                obtain ⟨ad, x, rfl, hx, x0⟩ := C_int_at (Kd.R_reads' H9.out).2.2 hk
                have HIN := Aside0.mk (show wrap64 ((k : Int) + 1) = ((k + 1 : Nat) : Int) by have := HALL.out; unfold wrap64; omega)
                have HX := Aside0.mk hx
                obtain ⟨hk1, hk2, hk3⟩ := HASK.out x (List.mem_of_getElem? hx)
                have HK1 := Aside0.mk hk1
                have HK2 := Aside0.mk hk2
                have HK3 := Aside0.mk hk3
                obtain ⟨gk, rfl⟩ : ∃ m, gk = m + 1 := ⟨gk - 1, by have := HKK.out; omega⟩
                have HKL := Aside0.mk hk
                clear hx hk hk1 hk2 hk3
                go_wp2_with (first
                  | (go_at_call 32; first
                    | (have := HT4; (with_reducible refine (PX.all_known HP4.out.q HAF.out.okq.small HAF.out.okq.fit x HK2.out).mono ?_); rintro e w5 ⟨⟨a2, d2, rfl, ho, he, hal⟩, -, hb⟩; have HT5 := Aside0.mk (show Told w5 w4.heap.size a2 d2 from ⟨ho, he⟩); have HT1 := Aside0.mk (HT4.out.below hb); have HEQ := Aside0.mk (show d1.map Elt.r = d2.map Elt.r from HK3.out _ _ HAL4.out hal); have HP5 := Aside0.mk (HP4.out.below hb); have H5 := Aside0.mk (Kd.R_below H4.out hb); clear ho he hal hb)
                    | ((with_reducible refine (PX.all_known HP9.out.p HAF.out.okp.small HAF.out.okp.fit x HK1.out).mono ?_); rintro e w4 ⟨⟨a1, d1, rfl, ho, he, hal⟩, -, hb⟩; have HT4 := Aside0.mk (show Told w4 wr.heap.size a1 d1 from ⟨ho, he⟩); have HAL4 := Aside0.mk hal; have HP4 := Aside0.mk (HP9.out.below hb); have H4 := Aside0.mk (Kd.R_below H9.out hb); have x0 := R_at H4.out rfl HX.out; have HDR := Aside0.mk (told_rows hal HAF.out.okp.small HP9.out.p.rows); clear ho he hal hb))
                  | (go_at_call 35; (with_reducible refine (same_calls HT1.out HT5.out HEQ.out HDR.out.1 HDR.out.2).mono ?_); rintro e w6 ⟨rfl, hb⟩; have HP6 := Aside0.mk (HP5.out.below hb); have H6 := Aside0.mk (Kd.R_below H5.out hb); clear hb))
                go_roundg gk
                case measure => omega
                case rel => exact ⟨k + 1, congrArg (Value.int .i64) HIN.out, ⟨by have := HKL.out; omega, by have := HKK.out; have := HKL.out; omega⟩, HP6, H6⟩
              · have q8 : decide ((k : Int) < (AL.length : Int)) = false := decide_eq_false (by omega)
                have q8' : (k < AL.length) = False := eq_false hk
                have q8'' : decide (k < AL.length) = false := decide_eq_false hk
                clear hk HKK
                go_wp2
                go_ret
                exact ⟨rfl, HB9.out⟩
  · have q0 : decide ((50 : Int) < (keep.length : Int)) = true := decide_eq_true (by omega)
    have q0' : decide (50 < keep.length) = true := decide_eq_true (by omega)
    clear hk50
    go_enter Try.func9, Try.ntmps9
    go_wp2_with (go_at_call 23; (with_reducible refine (alive_calls _).mono ?_); rintro e w1 ⟨rfl, hb⟩; have HB1 := Aside0.mk hb; clear hb)
    go_ret
    exact ⟨rfl, HB1.out⟩
theorem sweeps_row (v1 : Value) (s1 : v1 = .slice none 0 0 ∨ ∃ a n c, v1 = .slice (some a) n c) (x1 : List OpT) {W : World} (K1 : (Kd.slice 70 kop).K W x1 v1.cells.toList) (o1 : okOps x1) (v2 : Value) (s2 : v2 = .slice none 0 0 ∨ ∃ a n c, v2 = .slice (some a) n c) (x2 : List Int) (K2 : kkeep.K W x2 v2.cells.toList) (o2 : okKeep x2) (v3 : Value) (s3 : v3 = .slice none 0 0 ∨ ∃ a n c, v3 = .slice (some a) n c) (x3 : List OpT) (K3 : (Kd.slice 70 kop).K W x3 v3.cells.toList) (o3 : okOps x3) (_ : World) :
    Calls Try.prog 9 #[v1, v2, v3] W fun e w' => e = .returned (.bool true) ∧ Below W.heap.size W w' := by
  obtain ⟨A, ca, rfl, g1, g2⟩ := slice_of s1 K1
  obtain ⟨B, cb, rfl, g3, g4⟩ := slice_of s2 K2
  obtain ⟨C, cc, rfl, g5, g6⟩ := slice_of s3 K3
  exact pastSweeps_walk A ca x1 B cb x2 C cc x3 W g2 o1 g4 o2 g6 o3
end Go.Proofs.Ytjbakaplcjkniaa.Pa
