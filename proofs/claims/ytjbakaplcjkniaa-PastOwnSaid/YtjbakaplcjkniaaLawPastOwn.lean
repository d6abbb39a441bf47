/- PastOwn: items that are handed in, and told, are the past's own. No condition. -/
import Derived.Test.YtjbakaplcjkniaaPaJ
import Derived.Deep.RegionHeld3
import Derived.Deep.AppendLies
namespace Go.Proofs.Ytjbakaplcjkniaa.Pa
open Go.RowKit Go.Maps Go.Proofs.YtjbakaplcjkniaaW.PrintWords Go.Proofs.YtjbakaplcjkniaaW.PrintLast Go.Proofs.YtjbakaplcjkniaaW.PrintMore Go.Proofs.Ytjbakaplcjkniaa.Pi Go.Proofs.Ytjbakaplcjkniaa.Q
set_option linter.unusedVariables false
set_option linter.unusedSimpArgs false
def po.T6 : Bool × List (List Nat × List Nat) := (true, [([], []), ([0], [0]), ([], []), ([], []), ([3], [3]), ([2, 4], [2, 4]), ([], []), ([], []), ([7], [7]), ([6, 8, 5], [6, 8]), ([1, 5, 9], [1, 5, 9]), ([], []), ([11, 10, 9, 0, 1, 2, 3, 4, 5, 6, 7, 8, 9, 10, 11], [10, 11])])
def po.B6 : List Nat := [0, 1, 0, 0, 8, 28, 0, 0, 128, 508, 1023, 0, 4095]
theorem po.tab6 : rtab .any (opsOf Try.f8 6) = po.T6 := by kernel_rfl
theorem po.bits6 : waitsOk po.T6.2 po.B6 = true := by kernel_rfl
theorem R_own {α : Type} {d : Kd α} {e : Nat} {w : World} {base : Nat} {ok : Nat → Prop} {v : Value} {xs : List α} (h : d.R e w base ok v xs) : ∀ k, v.ownBlock = some k → base ≤ k ∧ k < w.heap.size ∧ ∃ c, w.heap[k]? = some (.cells c e (0, 0)) := by
  obtain ⟨hok, inner, hown, hr⟩ := h
  exact fun k hk => ⟨own_base hown k hk, own_lt hown k hk, own_typed hown k hk⟩
theorem blk_tt {w w' : World} {k t : Nat} {c : Array Value} (h : w.heap[k]? = some (.cells c t (0, 0))) (hO : Only (TT w) w w') (h1 : t ≠ 102) (h2 : t ≠ 98) : w'.heap[k]? = some (.cells c t (0, 0)) :=
  (hO.block k (blk_lt h) (fun hp => by obtain ⟨c2, hp⟩ := hp; rcases hp with hp | hp; exact h1 (blk_type h hp); exact h2 (blk_type h hp))).trans h
theorem NArr.tt {w w' : World} {A : Option Addr} {b n : Nat} (h : NArr w A b n) (hO : Only (TT w) w w') : NArr w' A b n := fun hn => by
  obtain ⟨h1, c, h2, h3⟩ := h hn
  exact ⟨h1, c, blk_tt h2 hO (by decide) (by decide), h3⟩
theorem SArr.tt {w w' : World} {A : Option Addr} {b n : Nat} (h : SArr w A b n) (hO : Only (TT w) w w') : SArr w' A b n := fun hn => by
  obtain ⟨h1, c, h2, h3⟩ := h hn
  exact ⟨h1, c, blk_tt h2 hO (by decide) (by decide), h3⟩
theorem NArr.below {w w' : World} {A : Option Addr} {b n : Nat} (h : NArr w A b n) (hb : Below w.heap.size w w') : NArr w' A b n := fun hn => ⟨(h hn).1, (h hn).2.below hb⟩
theorem SArr.below {w w' : World} {A : Option Addr} {b n : Nat} (h : SArr w A b n) (hb : Below w.heap.size w w') : SArr w' A b n := fun hn => ⟨(h hn).1, (h hn).2.below hb⟩
theorem blk_grown {α : Type} {d : Kd α} {e t k : Nat} {c : Array Value} {w w1 : World} {base : Nat} {ok : Nat → Prop} {v : Value} {xs : List α} (h : w.heap[k]? = some (.cells c t (0, 0))) (hr : d.R e w base ok v xs) (hg : w.grownBy w1 v.ownBlock) (ht : e ≠ t) : w1.heap[k]? = some (.cells c t (0, 0)) :=
  (hg.block k (blk_lt h) (fun hk => by obtain ⟨_, _, c2, h2⟩ := R_own hr k hk.symm; exact ht (blk_type h2 h))).trans h
theorem wf_one : (1 : Int) ≤ 1 := Int.le_refl _
/-- The one item that was told. -/
def OneIt (w : World) (b : Nat) (v : Value) : Prop := ∃ cells : Array Value, w.heap[b]? = some (.cells cells 54 (0, 0)) ∧ cells[2]? = some v
theorem one_told {w : World} {base : Nat} {a : Value} {d : List Elt} {r : Row} (h : Told w base a d) (e : d.map Elt.r = [r]) : ∃ b cap p2 n2, a = .slice (some ⟨b, 0, none⟩) 1 cap ∧ OneIt w b (.slice p2 r.tags.length n2) ∧ rowT w base (.slice p2 r.tags.length n2) r.tags := by
  obtain ⟨x, rfl⟩ : ∃ x, d = [x] := by
    match d, e with
    | [x], _ => exact ⟨x, rfl⟩
  have er : x.r = r := by simpa using e
  subst er
  obtain ⟨ho, he⟩ := h
  rcases ho.2 with ⟨rfl, h0⟩ | ⟨b, cap, cur, rfl, hb, hh, hc1, hc2, hc3, hc4⟩
  · simp at h0
  · refine ⟨b, cap, x.A2, x.c2, rfl, ⟨cur, hh, ?_⟩, (he x (by simp)).2⟩
    have h3 : (cur.toList.take 3)[2]? = (cellsE [x])[2]? := by
      have := congrArg (fun (l : List Value) => l[2]?) hc4
      simpa using this
    rw [List.getElem?_take, if_pos (by omega), Array.getElem?_toList] at h3
    exact h3
theorem OneIt.at {w : World} {b : Nat} {v : Value} (h : OneIt w b v) : w.cell? ⟨b, 2, none⟩ = some v := by
  obtain ⟨c, h1, h2⟩ := h
  exact (blk_cell h1 2).trans h2
theorem OneIt.far {w : World} {b : Nat} {v : Value} {k n : Nat} (h : OneIt w b v) (h2 : StrArr w k n) (j : Nat) (u : Value) : OneIt (w.setCell ⟨k, j, none⟩ u) b v := by
  obtain ⟨c, e1, e2⟩ := h
  exact ⟨c, h2.far e1 (by decide) j u, e2⟩
set_option maxHeartbeats 32000000 in
set_option maxRecDepth 100000 in
theorem pastOwn_walk (id : Int) (vec : List Int) (tags : List ByteArray) (A1 : Option Addr) (c1 : Nat) (A2 : Option Addr) (c2 : Nat) (w : World) (l1 : vec.length ≤ c1) (h1 : Kd.C (Kd.int .i32) w A1 vec.length vec) (l2 : tags.length ≤ c2) (h2 : Kd.C Kd.string w A2 tags.length tags) (hid : (Lit.int .u32 id).wf = true) :
    Calls Try.prog 8 #[.agg #[.int .u32 id, .slice A1 vec.length c1, .slice A2 tags.length c2]] w fun e w' => e = .returned (.bool true) ∧ Below w.heap.size w w' := by
  have hu4 := Try.underlying54
  have HC1 := Aside0.mk h1
  have HC2 := Aside0.mk h2
  have HL1 := Aside0.mk l1
  have HL2 := Aside0.mk l2
  have HID := Aside0.mk hid
  have HBX0 := Aside0.mk (heap_alloc_new w (.cells #[.int .u32 id, .slice A1 vec.length c1, .slice A2 tags.length c2] 54))
  have HBA0 := Aside0.mk (below_alloc (Below.refl w.heap.size w) (.cells #[.int .u32 id, .slice A1 vec.length c1, .slice A2 tags.length c2] 54))
  clear h1 h2 l1 l2 hid
  go_enter Try.func8, Try.ntmps8
  go_wp2_with (first
    | (go_at_call 23; (with_reducible refine (alive_calls _).mono ?_); rintro e w1 ⟨rfl, hb⟩; have HB1 := Aside0.mk (bel_trans HBA0.out hb); have HX1 := Aside0.mk (blk_below HBX0.out hb); have b0 := (blk_cell HX1.out 0).trans rfl; have b1 := (blk_cell HX1.out 1).trans rfl; have b2 := (blk_cell HX1.out 2).trans rfl; clear hb)
    | (go_at_call 30; (with_reducible refine (small_calls id vec tags A1 c1 A2 c2 _ HL1.out (Kd.C_below HC1.out HB1.out) HL2.out (Kd.C_below HC2.out HB1.out)).mono ?_); rintro e w2 ⟨⟨r, rfl, hr⟩, hb⟩; have HB2 := Aside0.mk (bel_trans HB1.out hb); have HX2 := Aside0.mk (blk_below HX1.out hb); clear hb b0 b1 b2; rcases r with _ | _; clear hr; rotate_left; (have HSM := Aside0.mk (hr rfl)); clear hr; rotate_right)
    | (go_at_call 24; (with_reducible refine (PX.new (Z := fun _ => False) HB2.out (fun k hk => hk.elim)).mono ?_); rintro e w3 ⟨g, rfl, hP, hb⟩; have HP3 := Aside0.mk hP; have HX3 := Aside0.mk (blk_below HX2.out hb); clear hP hb))
  · go_ret
    exact ⟨rfl, HB2.out⟩
  · obtain ⟨bx, hbx⟩ : ∃ z, w.heap.size = z := ⟨_, rfl⟩
    have HBXE := Aside0.mk hbx
    rw [hbx] at HX3 ⊢
    clear hbx HBX0 HBA0 HX1 HX2 HB1 HB2
    have HP := Aside0.mk (HP3.out.below (below_drew (Below.refl _ _)))
    have HBo := Aside0.mk HP.out.at0
    have HX := Aside0.mk (blk_below HX3.out (below_drew (Below.refl _ _)))
    clear HP3 HX3
    refine start_ (n := 13) (S := fun w' => w'.cell? ⟨bx, 0, none⟩ = some (.int .u32 id) ∧ w'.cell? ⟨bx, 1, none⟩ = some (.slice A1 vec.length c1) ∧ w'.cell? ⟨bx, 2, none⟩ = some (.slice A2 tags.length c2)) (ds := [12]) #[false, false, false, false, false, false, false, false, false, false, false, false, false] (by kernel_rfl) rfl rfl ⟨((blk_cell HX.out 0).trans rfl), ((blk_cell HX.out 1).trans rfl), ((blk_cell HX.out 2).trans rfl)⟩ (fun hHeld => ?_)
    refine with_tabW po.tab6 po.bits6 (fun HT_ HW_ => ?_)
    generalize w3.drew = wd at HP HBo HX hHeld ⊢
    have HB := Aside0.mk (Below.refl wd.heap.size wd)
    refine pure_ (i := 0) (N := some 22) (v := ?_) (a' := ?_) #[true, false, false, false, false, false, false, false, false, false, false, false, false] rfl rfl (any_of HT_.out (by kernel_rfl)) (fun _ _ _ h => h) (Or.inl ⟨by rfl, ?_⟩) ?_ ?_
    rotate_left
    · intro w'
      go_simp
      with_reducible rfl
    rotate_left
    · simp only [Act.put, List.setIfInBounds_toArray, List.set_cons_zero, List.set_cons_succ, i64_w, i32_w]
      rfl
    refine pure_ (i := 3) (N := some 25) (v := ?_) (a' := ?_) #[true, false, false, true, false, false, false, false, false, false, false, false, false] rfl rfl (any_of HT_.out (by kernel_rfl)) (fun _ _ _ h => h) (Or.inl ⟨by rfl, ?_⟩) ?_ ?_
    rotate_left
    · intro w'
      go_simp
      with_reducible rfl
    rotate_left
    · simp only [Act.put, List.setIfInBounds_toArray, List.set_cons_zero, List.set_cons_succ, i64_w, i32_w]
      rfl
    refine pure_ (i := 7) (N := some 29) (v := ?_) (a' := ?_) #[true, false, false, true, false, false, false, true, false, false, false, false, false] rfl rfl (any_of HT_.out (by kernel_rfl)) (fun _ _ _ h => h) (Or.inl ⟨by rfl, ?_⟩) ?_ ?_
    rotate_left
    · intro w'
      go_simp
      with_reducible rfl
    rotate_left
    · simp only [Act.put, List.setIfInBounds_toArray, List.set_cons_zero, List.set_cons_succ, i64_w, i32_w]
      rfl
    refine take_ (i := 1) (N := some 23) (v := ?_) (a' := ?_) #[true, true, false, true, false, false, false, true, false, false, false, false, false] rfl rfl (take_ofW HT_.out HW_.out (by kernel_rfl)) (fun _ _ _ h => h) (Or.inl ⟨by rfl, ?_⟩) hHeld ?_ ?_
    rotate_left
    · rintro w' ⟨s0, s1, s2⟩
      go_simp
      with_reducible rfl
    rotate_left
    · simp only [Act.put, List.setIfInBounds_toArray, List.set_cons_zero, List.set_cons_succ, i64_w, i32_w]
      rfl
    refine take_ (i := 4) (N := some 26) (v := ?_) (a' := ?_) #[true, true, false, true, true, false, false, true, false, false, false, false, false] rfl rfl (take_ofW HT_.out HW_.out (by kernel_rfl)) (fun _ _ _ h => h) (Or.inl ⟨by rfl, ?_⟩) hHeld ?_ ?_
    rotate_left
    · rintro w' ⟨s0, s1, s2⟩
      go_simp
      with_reducible rfl
    rotate_left
    · simp only [Act.put, List.setIfInBounds_toArray, List.set_cons_zero, List.set_cons_succ, i64_w, i32_w]
      rfl
    refine take_ (i := 8) (N := some 30) (v := ?_) (a' := ?_) #[true, true, false, true, true, false, false, true, true, false, false, false, false] rfl rfl (take_ofW HT_.out HW_.out (by kernel_rfl)) (fun _ _ _ h => h) (Or.inl ⟨by rfl, ?_⟩) hHeld ?_ ?_
    rotate_left
    · rintro w' ⟨s0, s1, s2⟩
      go_simp
      with_reducible rfl
    rotate_left
    · simp only [Act.put, List.setIfInBounds_toArray, List.set_cons_zero, List.set_cons_succ, i64_w, i32_w]
      rfl
    refine join_ (σ := Value × Value × Value × Value × Nat) 1 #[true, true, true, true, true, true, true, true, true, true, true, true, false] (fun s => [(24, s.1), (27, s.2.1), (28, s.2.2.1), (31, s.2.2.2.1), (4, .pointer (some ⟨s.2.2.2.2, 0, none⟩)), (32, .agg #[.int .u32 id, s.2.1, s.2.2.2.1])]) (fun s w' => (Kd.int .i32).R 21 w' wd.heap.size (fun _ => True) s.2.1 vec ∧ Kd.string.R 9 w' wd.heap.size (fun _ => True) s.2.2.2.1 tags ∧ (World.heap w')[s.2.2.2.2]? = some (.cells #[.int .u32 0, .slice none 0 0, .slice none 0 0] 54 (0, 0)) ∧ wd.heap.size ≤ s.2.2.2.2 ∧ Below wd.heap.size wd w') ?_ ?_
    rotate_left
    · intro hCont
      refine three_ (i := 2) (j := 6) (k := 11) (Ni := some 24) (Nj := some 28) (Nk := some 4) #[true, true, true, true, true, false, false, true, true, false, false, false, false] #[true, true, false, true, true, false, true, true, true, false, false, false, false] #[true, true, false, true, true, false, false, true, true, false, false, true, false] rfl rfl rfl rfl rfl rfl (three_of HT_.out (by kernel_rfl)) (by decide) (by decide) (by decide) (fun K hK => ?_) (fun K hK => ?_) (fun K hK => ?_)
      · skip
        refine value_ (w1 := ?_) (v := ?_) (by rfl) rfl ?_ ?_
        rotate_left 2
        · go_simp
          constructor
          · rfl
          · rfl
        have H1 := Aside0.mk (by have h := R_empty (Kd.int .i32) 21 wd wd.heap.size HB.out.size; (try simp only [World.size_alloc] at h); exact h)
        have NHB := Aside0.mk (bel_alloc HB.out (.cells #[] 21))
        clear HB
        have HB := NHB
        clear NHB
        refine hK.out _ _ ⟨((blk_cell (blk_below HX.out HB.out) 0).trans rfl), ((blk_cell (blk_below HX.out HB.out) 1).trans rfl), ((blk_cell (blk_below HX.out HB.out) 2).trans rfl)⟩ (fun hHeld => ?_)
        clear hK K
        refine norm_ (a' := ?_) ?_ ?_
        rotate_left
        · show Act.put _ (some 24) _ = _
          simp only [Act.put, List.setIfInBounds_toArray, List.set_cons_zero, List.set_cons_succ, i64_w, i32_w]
          rfl
        refine three_ (i := 5) (j := 6) (k := 11) (Ni := some 27) (Nj := some 28) (Nk := some 4) #[true, true, true, true, true, true, false, true, true, false, false, false, false] #[true, true, true, true, true, false, true, true, true, false, false, false, false] #[true, true, true, true, true, false, false, true, true, false, false, true, false] rfl rfl rfl rfl rfl rfl (three_of HT_.out (by kernel_rfl)) (by decide) (by decide) (by decide) (fun K hK => ?_) (fun K hK => ?_) (fun K hK => ?_)
        · skip
          refine Kd.R_append_rows_step (Kd.int .i32) wd.heap.size (by rfl) (.tmp 24) (.tmp 26) 51 21 (.int .i32 0) 4 rfl Try.underlying51 (by kernel_rfl) (by rfl) (by decide) (by decide) _ [] vec A1 vec.length c1 (fun _ => True) (fun _ => False) rfl rfl H1.out (Kd.C_below HC1.out (bel_trans HBo.out HB.out)) (fun _ _ h => h) (fun k hk => hk.elim) (fun _ _ => trivial) HB.out HB.out.size (by have := HSM.out; show (0 + _) * 4 ≤ _; omega) ?_
          intro v4 w4 ha hb hg hat
          rw [List.nil_append] at ha
          have NH1 := Aside0.mk ha
          have NHB := Aside0.mk hb
          clear ha hb hg hat
          clear H1 HB
          have H1 := NH1; have HB := NHB
          clear NH1 NHB
          obtain ⟨A3, c3, rfl⟩ := Kd.R_slice H1.out
          refine hK.out _ _ ⟨((blk_cell (blk_below HX.out HB.out) 0).trans rfl), ((blk_cell (blk_below HX.out HB.out) 1).trans rfl), ((blk_cell (blk_below HX.out HB.out) 2).trans rfl)⟩ (fun hHeld => ?_)
          clear hK K
          refine norm_ (a' := ?_) ?_ ?_
          rotate_left
          · show Act.put _ (some 27) _ = _
            simp only [Act.put, List.setIfInBounds_toArray, List.set_cons_zero, List.set_cons_succ, i64_w, i32_w]
            rfl
          refine two_ (i := 6) (j := 11) (Ni := some 28) (Nj := some 4) #[true, true, true, true, true, true, true, true, true, false, false, false, false] #[true, true, true, true, true, true, false, true, true, false, false, true, false] rfl rfl rfl rfl (two_of HT_.out (by kernel_rfl)) (by decide) (by decide) (fun K hK => ?_) (fun K hK => ?_)
          · skip
            refine value_ (w1 := ?_) (v := ?_) (by rfl) rfl ?_ ?_
            rotate_left 2
            · go_simp
              constructor
              · rfl
              · rfl
            have H2 := Aside0.mk (by have h := R_empty Kd.string 9 w4 wd.heap.size HB.out.size; (try simp only [World.size_alloc] at h); exact h)
            have NHB := Aside0.mk (bel_alloc HB.out (.cells #[] 9))
            have NH1 := Aside0.mk (Kd.R_alloc H1.out (.cells #[] 9))
            clear HB H1
            have HB := NHB; have H1 := NH1
            clear NHB NH1
            refine hK.out _ _ ⟨((blk_cell (blk_below HX.out HB.out) 0).trans rfl), ((blk_cell (blk_below HX.out HB.out) 1).trans rfl), ((blk_cell (blk_below HX.out HB.out) 2).trans rfl)⟩ (fun hHeld => ?_)
            clear hK K
            refine norm_ (a' := ?_) ?_ ?_
            rotate_left
            · show Act.put _ (some 28) _ = _
              simp only [Act.put, List.setIfInBounds_toArray, List.set_cons_zero, List.set_cons_succ, i64_w, i32_w]
              rfl
            refine two_ (i := 9) (j := 11) (Ni := some 31) (Nj := some 4) #[true, true, true, true, true, true, true, true, true, true, false, false, false] #[true, true, true, true, true, true, true, true, true, false, false, true, false] rfl rfl rfl rfl (two_of HT_.out (by kernel_rfl)) (by decide) (by decide) (fun K hK => ?_) (fun K hK => ?_)
            · skip
              refine Kd.R_append_rows_step Kd.string wd.heap.size (by rfl) (.tmp 28) (.tmp 30) 52 9 (.string ByteArray.empty) 16 rfl Try.underlying52 (by kernel_rfl) (by rfl) (by decide) (by decide) _ [] tags A2 tags.length c2 (fun _ => True) (fun _ => False) rfl rfl H2.out (Kd.C_below HC2.out (bel_trans HBo.out HB.out)) (fun _ _ h => h) (fun k hk => hk.elim) (fun _ _ => trivial) HB.out HB.out.size (by have := HSM.out; show (0 + _) * 16 ≤ _; omega) ?_
              intro v6 w6 ha hb hg hat
              rw [List.nil_append] at ha
              have NH2 := Aside0.mk ha
              have NHB := Aside0.mk hb
              have NH1 := Aside0.mk (Kd.R_over H1.out H2.out (by decide) hg)
              clear ha hb hg hat
              clear H2 HB H1
              have H2 := NH2; have HB := NHB; have H1 := NH1
              clear NH2 NHB NH1
              obtain ⟨A4, c4, rfl⟩ := Kd.R_slice H2.out
              refine hK.out _ _ ⟨((blk_cell (blk_below HX.out HB.out) 0).trans rfl), ((blk_cell (blk_below HX.out HB.out) 1).trans rfl), ((blk_cell (blk_below HX.out HB.out) 2).trans rfl)⟩ (fun hHeld => ?_)
              clear hK K
              refine norm_ (a' := ?_) ?_ ?_
              rotate_left
              · show Act.put _ (some 31) _ = _
                simp only [Act.put, List.setIfInBounds_toArray, List.set_cons_zero, List.set_cons_succ, i64_w, i32_w]
                rfl
              refine pure_ (i := 10) (N := some 32) (v := ?_) (a' := ?_) #[true, true, true, true, true, true, true, true, true, true, true, false, false] rfl rfl (any_of HT_.out (by kernel_rfl)) (fun _ _ _ h => h) (Or.inl ⟨by rfl, ?_⟩) ?_ ?_
              rotate_left
              · intro w'
                go_simp
                with_reducible rfl
              rotate_left
              · simp only [Act.put, List.setIfInBounds_toArray, List.set_cons_zero, List.set_cons_succ, i64_w, i32_w]
                rfl
              refine one_ (i := 11) (N := some 4) #[true, true, true, true, true, true, true, true, true, true, true, true, false] rfl rfl (one_of HT_.out (by kernel_rfl)) (by decide) (fun K hK => ?_)
              refine value_ (w1 := ?_) (v := ?_) (by rfl) rfl ?_ ?_
              rotate_left 2
              · go_simp
                constructor
                · rfl
                · rfl
              have HY := Aside0.mk (by have h := heap_alloc_new w6 (.cells #[.int .u32 0, .slice none 0 0, .slice none 0 0] 54); (try simp only [World.size_alloc] at h); exact h)
              have HYN := Aside0.mk (by have h := HB.out.size; (try simp only [World.size_alloc] at h); exact h)
              have NHB := Aside0.mk (bel_alloc HB.out (.cells #[.int .u32 0, .slice none 0 0, .slice none 0 0] 54))
              have NH1 := Aside0.mk (Kd.R_alloc H1.out (.cells #[.int .u32 0, .slice none 0 0, .slice none 0 0] 54))
              have NH2 := Aside0.mk (Kd.R_alloc H2.out (.cells #[.int .u32 0, .slice none 0 0, .slice none 0 0] 54))
              clear HB H1 H2
              have HB := NHB; have H1 := NH1; have H2 := NH2
              clear NHB NH1 NH2
              refine hK.out _ _ ⟨((blk_cell (blk_below HX.out HB.out) 0).trans rfl), ((blk_cell (blk_below HX.out HB.out) 1).trans rfl), ((blk_cell (blk_below HX.out HB.out) 2).trans rfl)⟩ (fun hHeld => ?_)
              clear hK K
              refine norm_ (a' := ?_) ?_ ?_
              rotate_left
              · show Act.put _ (some 4) _ = _
                simp only [Act.put, List.setIfInBounds_toArray, List.set_cons_zero, List.set_cons_succ, i64_w, i32_w]
                rfl
              exact norm_ (by simp only [Go.Proofs.YtjbakaplcjkniaaW.PrintLast.putAll, Act.put, List.setIfInBounds_toArray, List.set_cons_zero, List.set_cons_succ]) (hCont (.slice (some ⟨(World.heap wd).size, 0, none⟩) 0 0, .slice A3 vec.length c3, .slice (some ⟨(World.heap w4).size, 0, none⟩) 0 0, .slice A4 tags.length c4, (World.heap w6).size) _ ⟨H1.out, H2.out, HY.out, HYN.out, HB.out⟩)
            · skip
              refine value_ (w1 := ?_) (v := ?_) (by rfl) rfl ?_ ?_
              rotate_left 2
              · go_simp
                constructor
                · rfl
                · rfl
              have HY := Aside0.mk (by have h := heap_alloc_new (World.alloc w4 (.cells #[] 9)) (.cells #[.int .u32 0, .slice none 0 0, .slice none 0 0] 54); (try simp only [World.size_alloc] at h); exact h)
              have HYN := Aside0.mk (by have h := HB.out.size; (try simp only [World.size_alloc] at h); exact h)
              have NHB := Aside0.mk (bel_alloc HB.out (.cells #[.int .u32 0, .slice none 0 0, .slice none 0 0] 54))
              have NH1 := Aside0.mk (Kd.R_alloc H1.out (.cells #[.int .u32 0, .slice none 0 0, .slice none 0 0] 54))
              have NH2 := Aside0.mk (Kd.R_alloc H2.out (.cells #[.int .u32 0, .slice none 0 0, .slice none 0 0] 54))
              clear HB H1 H2
              have HB := NHB; have H1 := NH1; have H2 := NH2
              clear NHB NH1 NH2
              refine hK.out _ _ ⟨((blk_cell (blk_below HX.out HB.out) 0).trans rfl), ((blk_cell (blk_below HX.out HB.out) 1).trans rfl), ((blk_cell (blk_below HX.out HB.out) 2).trans rfl)⟩ (fun hHeld => ?_)
              clear hK K
              refine norm_ (a' := ?_) ?_ ?_
              rotate_left
              · show Act.put _ (some 4) _ = _
                simp only [Act.put, List.setIfInBounds_toArray, List.set_cons_zero, List.set_cons_succ, i64_w, i32_w]
                rfl
              refine one_ (i := 9) (N := some 31) #[true, true, true, true, true, true, true, true, true, true, false, true, false] rfl rfl (one_of HT_.out (by kernel_rfl)) (by decide) (fun K hK => ?_)
              refine Kd.R_append_rows_step Kd.string wd.heap.size (by rfl) (.tmp 28) (.tmp 30) 52 9 (.string ByteArray.empty) 16 rfl Try.underlying52 (by kernel_rfl) (by rfl) (by decide) (by decide) _ [] tags A2 tags.length c2 (fun _ => True) (fun _ => False) rfl rfl H2.out (Kd.C_below HC2.out (bel_trans HBo.out HB.out)) (fun _ _ h => h) (fun k hk => hk.elim) (fun _ _ => trivial) HB.out HB.out.size (by have := HSM.out; show (0 + _) * 16 ≤ _; omega) ?_
              intro v6 w6 ha hb hg hat
              rw [List.nil_append] at ha
              have NH2 := Aside0.mk ha
              have NHB := Aside0.mk hb
              have NH1 := Aside0.mk (Kd.R_over H1.out H2.out (by decide) hg)
              have NHY := Aside0.mk (blk_grown HY.out H2.out hg (by decide))
              clear ha hb hg hat
              clear H2 HB H1 HY
              have H2 := NH2; have HB := NHB; have H1 := NH1; have HY := NHY
              clear NH2 NHB NH1 NHY
              obtain ⟨A4, c4, rfl⟩ := Kd.R_slice H2.out
              refine hK.out _ _ ⟨((blk_cell (blk_below HX.out HB.out) 0).trans rfl), ((blk_cell (blk_below HX.out HB.out) 1).trans rfl), ((blk_cell (blk_below HX.out HB.out) 2).trans rfl)⟩ (fun hHeld => ?_)
              clear hK K
              refine norm_ (a' := ?_) ?_ ?_
              rotate_left
              · show Act.put _ (some 31) _ = _
                simp only [Act.put, List.setIfInBounds_toArray, List.set_cons_zero, List.set_cons_succ, i64_w, i32_w]
                rfl
              refine pure_ (i := 10) (N := some 32) (v := ?_) (a' := ?_) #[true, true, true, true, true, true, true, true, true, true, true, true, false] rfl rfl (any_of HT_.out (by kernel_rfl)) (fun _ _ _ h => h) (Or.inl ⟨by rfl, ?_⟩) ?_ ?_
              rotate_left
              · intro w'
                go_simp
                with_reducible rfl
              rotate_left
              · simp only [Act.put, List.setIfInBounds_toArray, List.set_cons_zero, List.set_cons_succ, i64_w, i32_w]
                rfl
              exact norm_ (by simp only [Go.Proofs.YtjbakaplcjkniaaW.PrintLast.putAll, Act.put, List.setIfInBounds_toArray, List.set_cons_zero, List.set_cons_succ]) (hCont (.slice (some ⟨(World.heap wd).size, 0, none⟩) 0 0, .slice A3 vec.length c3, .slice (some ⟨(World.heap w4).size, 0, none⟩) 0 0, .slice A4 tags.length c4, ((World.heap w4).size + 1)) _ ⟨H1.out, H2.out, HY.out, HYN.out, HB.out⟩)
          · skip
            refine value_ (w1 := ?_) (v := ?_) (by rfl) rfl ?_ ?_
            rotate_left 2
            · go_simp
              constructor
              · rfl
              · rfl
            have HY := Aside0.mk (by have h := heap_alloc_new w4 (.cells #[.int .u32 0, .slice none 0 0, .slice none 0 0] 54); (try simp only [World.size_alloc] at h); exact h)
            have HYN := Aside0.mk (by have h := HB.out.size; (try simp only [World.size_alloc] at h); exact h)
            have NHB := Aside0.mk (bel_alloc HB.out (.cells #[.int .u32 0, .slice none 0 0, .slice none 0 0] 54))
            have NH1 := Aside0.mk (Kd.R_alloc H1.out (.cells #[.int .u32 0, .slice none 0 0, .slice none 0 0] 54))
            clear HB H1
            have HB := NHB; have H1 := NH1
            clear NHB NH1
            refine hK.out _ _ ⟨((blk_cell (blk_below HX.out HB.out) 0).trans rfl), ((blk_cell (blk_below HX.out HB.out) 1).trans rfl), ((blk_cell (blk_below HX.out HB.out) 2).trans rfl)⟩ (fun hHeld => ?_)
            clear hK K
            refine norm_ (a' := ?_) ?_ ?_
            rotate_left
            · show Act.put _ (some 4) _ = _
              simp only [Act.put, List.setIfInBounds_toArray, List.set_cons_zero, List.set_cons_succ, i64_w, i32_w]
              rfl
            refine one_ (i := 6) (N := some 28) #[true, true, true, true, true, true, true, true, true, false, false, true, false] rfl rfl (one_of HT_.out (by kernel_rfl)) (by decide) (fun K hK => ?_)
            refine value_ (w1 := ?_) (v := ?_) (by rfl) rfl ?_ ?_
            rotate_left 2
            · go_simp
              constructor
              · rfl
              · rfl
            have H2 := Aside0.mk (by have h := R_empty Kd.string 9 (World.alloc w4 (.cells #[.int .u32 0, .slice none 0 0, .slice none 0 0] 54)) wd.heap.size HB.out.size; (try simp only [World.size_alloc] at h); exact h)
            have NHB := Aside0.mk (bel_alloc HB.out (.cells #[] 9))
            have NH1 := Aside0.mk (Kd.R_alloc H1.out (.cells #[] 9))
            have NHY := Aside0.mk (blk_alloc HY.out (.cells #[] 9))
            clear HB H1 HY
            have HB := NHB; have H1 := NH1; have HY := NHY
            clear NHB NH1 NHY
            refine hK.out _ _ ⟨((blk_cell (blk_below HX.out HB.out) 0).trans rfl), ((blk_cell (blk_below HX.out HB.out) 1).trans rfl), ((blk_cell (blk_below HX.out HB.out) 2).trans rfl)⟩ (fun hHeld => ?_)
            clear hK K
            refine norm_ (a' := ?_) ?_ ?_
            rotate_left
            · show Act.put _ (some 28) _ = _
              simp only [Act.put, List.setIfInBounds_toArray, List.set_cons_zero, List.set_cons_succ, i64_w, i32_w]
              rfl
            refine one_ (i := 9) (N := some 31) #[true, true, true, true, true, true, true, true, true, true, false, true, false] rfl rfl (one_of HT_.out (by kernel_rfl)) (by decide) (fun K hK => ?_)
            refine Kd.R_append_rows_step Kd.string wd.heap.size (by rfl) (.tmp 28) (.tmp 30) 52 9 (.string ByteArray.empty) 16 rfl Try.underlying52 (by kernel_rfl) (by rfl) (by decide) (by decide) _ [] tags A2 tags.length c2 (fun _ => True) (fun _ => False) rfl rfl H2.out (Kd.C_below HC2.out (bel_trans HBo.out HB.out)) (fun _ _ h => h) (fun k hk => hk.elim) (fun _ _ => trivial) HB.out HB.out.size (by have := HSM.out; show (0 + _) * 16 ≤ _; omega) ?_
            intro v6 w6 ha hb hg hat
            rw [List.nil_append] at ha
            have NH2 := Aside0.mk ha
            have NHB := Aside0.mk hb
            have NH1 := Aside0.mk (Kd.R_over H1.out H2.out (by decide) hg)
            have NHY := Aside0.mk (blk_grown HY.out H2.out hg (by decide))
            clear ha hb hg hat
            clear H2 HB H1 HY
            have H2 := NH2; have HB := NHB; have H1 := NH1; have HY := NHY
            clear NH2 NHB NH1 NHY
            obtain ⟨A4, c4, rfl⟩ := Kd.R_slice H2.out
            refine hK.out _ _ ⟨((blk_cell (blk_below HX.out HB.out) 0).trans rfl), ((blk_cell (blk_below HX.out HB.out) 1).trans rfl), ((blk_cell (blk_below HX.out HB.out) 2).trans rfl)⟩ (fun hHeld => ?_)
            clear hK K
            refine norm_ (a' := ?_) ?_ ?_
            rotate_left
            · show Act.put _ (some 31) _ = _
              simp only [Act.put, List.setIfInBounds_toArray, List.set_cons_zero, List.set_cons_succ, i64_w, i32_w]
              rfl
            refine pure_ (i := 10) (N := some 32) (v := ?_) (a' := ?_) #[true, true, true, true, true, true, true, true, true, true, true, true, false] rfl rfl (any_of HT_.out (by kernel_rfl)) (fun _ _ _ h => h) (Or.inl ⟨by rfl, ?_⟩) ?_ ?_
            rotate_left
            · intro w'
              go_simp
              with_reducible rfl
            rotate_left
            · simp only [Act.put, List.setIfInBounds_toArray, List.set_cons_zero, List.set_cons_succ, i64_w, i32_w]
              rfl
            exact norm_ (by simp only [Go.Proofs.YtjbakaplcjkniaaW.PrintLast.putAll, Act.put, List.setIfInBounds_toArray, List.set_cons_zero, List.set_cons_succ]) (hCont (.slice (some ⟨(World.heap wd).size, 0, none⟩) 0 0, .slice A3 vec.length c3, .slice (some ⟨((World.heap w4).size + 1), 0, none⟩) 0 0, .slice A4 tags.length c4, (World.heap w4).size) _ ⟨H1.out, H2.out, HY.out, HYN.out, HB.out⟩)
        · skip
          refine value_ (w1 := ?_) (v := ?_) (by rfl) rfl ?_ ?_
          rotate_left 2
          · go_simp
            constructor
            · rfl
            · rfl
          have H2 := Aside0.mk (by have h := R_empty Kd.string 9 (World.alloc wd (.cells #[] 21)) wd.heap.size HB.out.size; (try simp only [World.size_alloc] at h); exact h)
          have NHB := Aside0.mk (bel_alloc HB.out (.cells #[] 9))
          have NH1 := Aside0.mk (Kd.R_alloc H1.out (.cells #[] 9))
          clear HB H1
          have HB := NHB; have H1 := NH1
          clear NHB NH1
          refine hK.out _ _ ⟨((blk_cell (blk_below HX.out HB.out) 0).trans rfl), ((blk_cell (blk_below HX.out HB.out) 1).trans rfl), ((blk_cell (blk_below HX.out HB.out) 2).trans rfl)⟩ (fun hHeld => ?_)
          clear hK K
          refine norm_ (a' := ?_) ?_ ?_
          rotate_left
          · show Act.put _ (some 28) _ = _
            simp only [Act.put, List.setIfInBounds_toArray, List.set_cons_zero, List.set_cons_succ, i64_w, i32_w]
            rfl
          refine two_ (i := 5) (j := 11) (Ni := some 27) (Nj := some 4) #[true, true, true, true, true, true, true, true, true, false, false, false, false] #[true, true, true, true, true, false, true, true, true, false, false, true, false] rfl rfl rfl rfl (two_of HT_.out (by kernel_rfl)) (by decide) (by decide) (fun K hK => ?_) (fun K hK => ?_)
          · skip
            refine Kd.R_append_rows_step (Kd.int .i32) wd.heap.size (by rfl) (.tmp 24) (.tmp 26) 51 21 (.int .i32 0) 4 rfl Try.underlying51 (by kernel_rfl) (by rfl) (by decide) (by decide) _ [] vec A1 vec.length c1 (fun _ => True) (fun _ => False) rfl rfl H1.out (Kd.C_below HC1.out (bel_trans HBo.out HB.out)) (fun _ _ h => h) (fun k hk => hk.elim) (fun _ _ => trivial) HB.out HB.out.size (by have := HSM.out; show (0 + _) * 4 ≤ _; omega) ?_
            intro v4 w4 ha hb hg hat
            rw [List.nil_append] at ha
            have NH1 := Aside0.mk ha
            have NHB := Aside0.mk hb
            have NH2 := Aside0.mk (Kd.R_over H2.out H1.out (by decide) hg)
            clear ha hb hg hat
            clear H1 HB H2
            have H1 := NH1; have HB := NHB; have H2 := NH2
            clear NH1 NHB NH2
            obtain ⟨A3, c3, rfl⟩ := Kd.R_slice H1.out
            refine hK.out _ _ ⟨((blk_cell (blk_below HX.out HB.out) 0).trans rfl), ((blk_cell (blk_below HX.out HB.out) 1).trans rfl), ((blk_cell (blk_below HX.out HB.out) 2).trans rfl)⟩ (fun hHeld => ?_)
            clear hK K
            refine norm_ (a' := ?_) ?_ ?_
            rotate_left
            · show Act.put _ (some 27) _ = _
              simp only [Act.put, List.setIfInBounds_toArray, List.set_cons_zero, List.set_cons_succ, i64_w, i32_w]
              rfl
            refine two_ (i := 9) (j := 11) (Ni := some 31) (Nj := some 4) #[true, true, true, true, true, true, true, true, true, true, false, false, false] #[true, true, true, true, true, true, true, true, true, false, false, true, false] rfl rfl rfl rfl (two_of HT_.out (by kernel_rfl)) (by decide) (by decide) (fun K hK => ?_) (fun K hK => ?_)
            · skip
              refine Kd.R_append_rows_step Kd.string wd.heap.size (by rfl) (.tmp 28) (.tmp 30) 52 9 (.string ByteArray.empty) 16 rfl Try.underlying52 (by kernel_rfl) (by rfl) (by decide) (by decide) _ [] tags A2 tags.length c2 (fun _ => True) (fun _ => False) rfl rfl H2.out (Kd.C_below HC2.out (bel_trans HBo.out HB.out)) (fun _ _ h => h) (fun k hk => hk.elim) (fun _ _ => trivial) HB.out HB.out.size (by have := HSM.out; show (0 + _) * 16 ≤ _; omega) ?_
              intro v6 w6 ha hb hg hat
              rw [List.nil_append] at ha
              have NH2 := Aside0.mk ha
              have NHB := Aside0.mk hb
              have NH1 := Aside0.mk (Kd.R_over H1.out H2.out (by decide) hg)
              clear ha hb hg hat
              clear H2 HB H1
              have H2 := NH2; have HB := NHB; have H1 := NH1
              clear NH2 NHB NH1
              obtain ⟨A4, c4, rfl⟩ := Kd.R_slice H2.out
              refine hK.out _ _ ⟨((blk_cell (blk_below HX.out HB.out) 0).trans rfl), ((blk_cell (blk_below HX.out HB.out) 1).trans rfl), ((blk_cell (blk_below HX.out HB.out) 2).trans rfl)⟩ (fun hHeld => ?_)
              clear hK K
              refine norm_ (a' := ?_) ?_ ?_
              rotate_left
              · show Act.put _ (some 31) _ = _
                simp only [Act.put, List.setIfInBounds_toArray, List.set_cons_zero, List.set_cons_succ, i64_w, i32_w]
                rfl
              refine pure_ (i := 10) (N := some 32) (v := ?_) (a' := ?_) #[true, true, true, true, true, true, true, true, true, true, true, false, false] rfl rfl (any_of HT_.out (by kernel_rfl)) (fun _ _ _ h => h) (Or.inl ⟨by rfl, ?_⟩) ?_ ?_
              rotate_left
              · intro w'
                go_simp
                with_reducible rfl
              rotate_left
              · simp only [Act.put, List.setIfInBounds_toArray, List.set_cons_zero, List.set_cons_succ, i64_w, i32_w]
                rfl
              refine one_ (i := 11) (N := some 4) #[true, true, true, true, true, true, true, true, true, true, true, true, false] rfl rfl (one_of HT_.out (by kernel_rfl)) (by decide) (fun K hK => ?_)
              refine value_ (w1 := ?_) (v := ?_) (by rfl) rfl ?_ ?_
              rotate_left 2
              · go_simp
                constructor
                · rfl
                · rfl
              have HY := Aside0.mk (by have h := heap_alloc_new w6 (.cells #[.int .u32 0, .slice none 0 0, .slice none 0 0] 54); (try simp only [World.size_alloc] at h); exact h)
              have HYN := Aside0.mk (by have h := HB.out.size; (try simp only [World.size_alloc] at h); exact h)
              have NHB := Aside0.mk (bel_alloc HB.out (.cells #[.int .u32 0, .slice none 0 0, .slice none 0 0] 54))
              have NH1 := Aside0.mk (Kd.R_alloc H1.out (.cells #[.int .u32 0, .slice none 0 0, .slice none 0 0] 54))
              have NH2 := Aside0.mk (Kd.R_alloc H2.out (.cells #[.int .u32 0, .slice none 0 0, .slice none 0 0] 54))
              clear HB H1 H2
              have HB := NHB; have H1 := NH1; have H2 := NH2
              clear NHB NH1 NH2
              refine hK.out _ _ ⟨((blk_cell (blk_below HX.out HB.out) 0).trans rfl), ((blk_cell (blk_below HX.out HB.out) 1).trans rfl), ((blk_cell (blk_below HX.out HB.out) 2).trans rfl)⟩ (fun hHeld => ?_)
              clear hK K
              refine norm_ (a' := ?_) ?_ ?_
              rotate_left
              · show Act.put _ (some 4) _ = _
                simp only [Act.put, List.setIfInBounds_toArray, List.set_cons_zero, List.set_cons_succ, i64_w, i32_w]
                rfl
              exact norm_ (by simp only [Go.Proofs.YtjbakaplcjkniaaW.PrintLast.putAll, Act.put, List.setIfInBounds_toArray, List.set_cons_zero, List.set_cons_succ]) (hCont (.slice (some ⟨(World.heap wd).size, 0, none⟩) 0 0, .slice A3 vec.length c3, .slice (some ⟨((World.heap wd).size + 1), 0, none⟩) 0 0, .slice A4 tags.length c4, (World.heap w6).size) _ ⟨H1.out, H2.out, HY.out, HYN.out, HB.out⟩)
            · skip
              refine value_ (w1 := ?_) (v := ?_) (by rfl) rfl ?_ ?_
              rotate_left 2
              · go_simp
                constructor
                · rfl
                · rfl
              have HY := Aside0.mk (by have h := heap_alloc_new w4 (.cells #[.int .u32 0, .slice none 0 0, .slice none 0 0] 54); (try simp only [World.size_alloc] at h); exact h)
              have HYN := Aside0.mk (by have h := HB.out.size; (try simp only [World.size_alloc] at h); exact h)
              have NHB := Aside0.mk (bel_alloc HB.out (.cells #[.int .u32 0, .slice none 0 0, .slice none 0 0] 54))
              have NH1 := Aside0.mk (Kd.R_alloc H1.out (.cells #[.int .u32 0, .slice none 0 0, .slice none 0 0] 54))
              have NH2 := Aside0.mk (Kd.R_alloc H2.out (.cells #[.int .u32 0, .slice none 0 0, .slice none 0 0] 54))
              clear HB H1 H2
              have HB := NHB; have H1 := NH1; have H2 := NH2
              clear NHB NH1 NH2
              refine hK.out _ _ ⟨((blk_cell (blk_below HX.out HB.out) 0).trans rfl), ((blk_cell (blk_below HX.out HB.out) 1).trans rfl), ((blk_cell (blk_below HX.out HB.out) 2).trans rfl)⟩ (fun hHeld => ?_)
              clear hK K
              refine norm_ (a' := ?_) ?_ ?_
              rotate_left
              · show Act.put _ (some 4) _ = _
                simp only [Act.put, List.setIfInBounds_toArray, List.set_cons_zero, List.set_cons_succ, i64_w, i32_w]
                rfl
              refine one_ (i := 9) (N := some 31) #[true, true, true, true, true, true, true, true, true, true, false, true, false] rfl rfl (one_of HT_.out (by kernel_rfl)) (by decide) (fun K hK => ?_)
              refine Kd.R_append_rows_step Kd.string wd.heap.size (by rfl) (.tmp 28) (.tmp 30) 52 9 (.string ByteArray.empty) 16 rfl Try.underlying52 (by kernel_rfl) (by rfl) (by decide) (by decide) _ [] tags A2 tags.length c2 (fun _ => True) (fun _ => False) rfl rfl H2.out (Kd.C_below HC2.out (bel_trans HBo.out HB.out)) (fun _ _ h => h) (fun k hk => hk.elim) (fun _ _ => trivial) HB.out HB.out.size (by have := HSM.out; show (0 + _) * 16 ≤ _; omega) ?_
              intro v6 w6 ha hb hg hat
              rw [List.nil_append] at ha
              have NH2 := Aside0.mk ha
              have NHB := Aside0.mk hb
              have NH1 := Aside0.mk (Kd.R_over H1.out H2.out (by decide) hg)
              have NHY := Aside0.mk (blk_grown HY.out H2.out hg (by decide))
              clear ha hb hg hat
              clear H2 HB H1 HY
              have H2 := NH2; have HB := NHB; have H1 := NH1; have HY := NHY
              clear NH2 NHB NH1 NHY
              obtain ⟨A4, c4, rfl⟩ := Kd.R_slice H2.out
              refine hK.out _ _ ⟨((blk_cell (blk_below HX.out HB.out) 0).trans rfl), ((blk_cell (blk_below HX.out HB.out) 1).trans rfl), ((blk_cell (blk_below HX.out HB.out) 2).trans rfl)⟩ (fun hHeld => ?_)
              clear hK K
              refine norm_ (a' := ?_) ?_ ?_
              rotate_left
              · show Act.put _ (some 31) _ = _
                simp only [Act.put, List.setIfInBounds_toArray, List.set_cons_zero, List.set_cons_succ, i64_w, i32_w]
                rfl
              refine pure_ (i := 10) (N := some 32) (v := ?_) (a' := ?_) #[true, true, true, true, true, true, true, true, true, true, true, true, false] rfl rfl (any_of HT_.out (by kernel_rfl)) (fun _ _ _ h => h) (Or.inl ⟨by rfl, ?_⟩) ?_ ?_
              rotate_left
              · intro w'
                go_simp
                with_reducible rfl
              rotate_left
              · simp only [Act.put, List.setIfInBounds_toArray, List.set_cons_zero, List.set_cons_succ, i64_w, i32_w]
                rfl
              exact norm_ (by simp only [Go.Proofs.YtjbakaplcjkniaaW.PrintLast.putAll, Act.put, List.setIfInBounds_toArray, List.set_cons_zero, List.set_cons_succ]) (hCont (.slice (some ⟨(World.heap wd).size, 0, none⟩) 0 0, .slice A3 vec.length c3, .slice (some ⟨((World.heap wd).size + 1), 0, none⟩) 0 0, .slice A4 tags.length c4, (World.heap w4).size) _ ⟨H1.out, H2.out, HY.out, HYN.out, HB.out⟩)
          · skip
            refine value_ (w1 := ?_) (v := ?_) (by rfl) rfl ?_ ?_
            rotate_left 2
            · go_simp
              constructor
              · rfl
              · rfl
            have HY := Aside0.mk (by have h := heap_alloc_new (World.alloc (World.alloc wd (.cells #[] 21)) (.cells #[] 9)) (.cells #[.int .u32 0, .slice none 0 0, .slice none 0 0] 54); (try simp only [World.size_alloc] at h); exact h)
            have HYN := Aside0.mk (by have h := HB.out.size; (try simp only [World.size_alloc] at h); exact h)
            have NHB := Aside0.mk (bel_alloc HB.out (.cells #[.int .u32 0, .slice none 0 0, .slice none 0 0] 54))
            have NH1 := Aside0.mk (Kd.R_alloc H1.out (.cells #[.int .u32 0, .slice none 0 0, .slice none 0 0] 54))
            have NH2 := Aside0.mk (Kd.R_alloc H2.out (.cells #[.int .u32 0, .slice none 0 0, .slice none 0 0] 54))
            clear HB H1 H2
            have HB := NHB; have H1 := NH1; have H2 := NH2
            clear NHB NH1 NH2
            refine hK.out _ _ ⟨((blk_cell (blk_below HX.out HB.out) 0).trans rfl), ((blk_cell (blk_below HX.out HB.out) 1).trans rfl), ((blk_cell (blk_below HX.out HB.out) 2).trans rfl)⟩ (fun hHeld => ?_)
            clear hK K
            refine norm_ (a' := ?_) ?_ ?_
            rotate_left
            · show Act.put _ (some 4) _ = _
              simp only [Act.put, List.setIfInBounds_toArray, List.set_cons_zero, List.set_cons_succ, i64_w, i32_w]
              rfl
            refine one_ (i := 5) (N := some 27) #[true, true, true, true, true, true, true, true, true, false, false, true, false] rfl rfl (one_of HT_.out (by kernel_rfl)) (by decide) (fun K hK => ?_)
            refine Kd.R_append_rows_step (Kd.int .i32) wd.heap.size (by rfl) (.tmp 24) (.tmp 26) 51 21 (.int .i32 0) 4 rfl Try.underlying51 (by kernel_rfl) (by rfl) (by decide) (by decide) _ [] vec A1 vec.length c1 (fun _ => True) (fun _ => False) rfl rfl H1.out (Kd.C_below HC1.out (bel_trans HBo.out HB.out)) (fun _ _ h => h) (fun k hk => hk.elim) (fun _ _ => trivial) HB.out HB.out.size (by have := HSM.out; show (0 + _) * 4 ≤ _; omega) ?_
            intro v4 w4 ha hb hg hat
            rw [List.nil_append] at ha
            have NH1 := Aside0.mk ha
            have NHB := Aside0.mk hb
            have NH2 := Aside0.mk (Kd.R_over H2.out H1.out (by decide) hg)
            have NHY := Aside0.mk (blk_grown HY.out H1.out hg (by decide))
            clear ha hb hg hat
            clear H1 HB H2 HY
            have H1 := NH1; have HB := NHB; have H2 := NH2; have HY := NHY
            clear NH1 NHB NH2 NHY
            obtain ⟨A3, c3, rfl⟩ := Kd.R_slice H1.out
            refine hK.out _ _ ⟨((blk_cell (blk_below HX.out HB.out) 0).trans rfl), ((blk_cell (blk_below HX.out HB.out) 1).trans rfl), ((blk_cell (blk_below HX.out HB.out) 2).trans rfl)⟩ (fun hHeld => ?_)
            clear hK K
            refine norm_ (a' := ?_) ?_ ?_
            rotate_left
            · show Act.put _ (some 27) _ = _
              simp only [Act.put, List.setIfInBounds_toArray, List.set_cons_zero, List.set_cons_succ, i64_w, i32_w]
              rfl
            refine one_ (i := 9) (N := some 31) #[true, true, true, true, true, true, true, true, true, true, false, true, false] rfl rfl (one_of HT_.out (by kernel_rfl)) (by decide) (fun K hK => ?_)
            refine Kd.R_append_rows_step Kd.string wd.heap.size (by rfl) (.tmp 28) (.tmp 30) 52 9 (.string ByteArray.empty) 16 rfl Try.underlying52 (by kernel_rfl) (by rfl) (by decide) (by decide) _ [] tags A2 tags.length c2 (fun _ => True) (fun _ => False) rfl rfl H2.out (Kd.C_below HC2.out (bel_trans HBo.out HB.out)) (fun _ _ h => h) (fun k hk => hk.elim) (fun _ _ => trivial) HB.out HB.out.size (by have := HSM.out; show (0 + _) * 16 ≤ _; omega) ?_
            intro v6 w6 ha hb hg hat
            rw [List.nil_append] at ha
            have NH2 := Aside0.mk ha
            have NHB := Aside0.mk hb
            have NH1 := Aside0.mk (Kd.R_over H1.out H2.out (by decide) hg)
            have NHY := Aside0.mk (blk_grown HY.out H2.out hg (by decide))
            clear ha hb hg hat
            clear H2 HB H1 HY
            have H2 := NH2; have HB := NHB; have H1 := NH1; have HY := NHY
            clear NH2 NHB NH1 NHY
            obtain ⟨A4, c4, rfl⟩ := Kd.R_slice H2.out
            refine hK.out _ _ ⟨((blk_cell (blk_below HX.out HB.out) 0).trans rfl), ((blk_cell (blk_below HX.out HB.out) 1).trans rfl), ((blk_cell (blk_below HX.out HB.out) 2).trans rfl)⟩ (fun hHeld => ?_)
            clear hK K
            refine norm_ (a' := ?_) ?_ ?_
            rotate_left
            · show Act.put _ (some 31) _ = _
              simp only [Act.put, List.setIfInBounds_toArray, List.set_cons_zero, List.set_cons_succ, i64_w, i32_w]
              rfl
            refine pure_ (i := 10) (N := some 32) (v := ?_) (a' := ?_) #[true, true, true, true, true, true, true, true, true, true, true, true, false] rfl rfl (any_of HT_.out (by kernel_rfl)) (fun _ _ _ h => h) (Or.inl ⟨by rfl, ?_⟩) ?_ ?_
            rotate_left
            · intro w'
              go_simp
              with_reducible rfl
            rotate_left
            · simp only [Act.put, List.setIfInBounds_toArray, List.set_cons_zero, List.set_cons_succ, i64_w, i32_w]
              rfl
            exact norm_ (by simp only [Go.Proofs.YtjbakaplcjkniaaW.PrintLast.putAll, Act.put, List.setIfInBounds_toArray, List.set_cons_zero, List.set_cons_succ]) (hCont (.slice (some ⟨(World.heap wd).size, 0, none⟩) 0 0, .slice A3 vec.length c3, .slice (some ⟨((World.heap wd).size + 1), 0, none⟩) 0 0, .slice A4 tags.length c4, ((World.heap wd).size + 2)) _ ⟨H1.out, H2.out, HY.out, HYN.out, HB.out⟩)
        · skip
          refine value_ (w1 := ?_) (v := ?_) (by rfl) rfl ?_ ?_
          rotate_left 2
          · go_simp
            constructor
            · rfl
            · rfl
          have HY := Aside0.mk (by have h := heap_alloc_new (World.alloc wd (.cells #[] 21)) (.cells #[.int .u32 0, .slice none 0 0, .slice none 0 0] 54); (try simp only [World.size_alloc] at h); exact h)
          have HYN := Aside0.mk (by have h := HB.out.size; (try simp only [World.size_alloc] at h); exact h)
          have NHB := Aside0.mk (bel_alloc HB.out (.cells #[.int .u32 0, .slice none 0 0, .slice none 0 0] 54))
          have NH1 := Aside0.mk (Kd.R_alloc H1.out (.cells #[.int .u32 0, .slice none 0 0, .slice none 0 0] 54))
          clear HB H1
          have HB := NHB; have H1 := NH1
          clear NHB NH1
          refine hK.out _ _ ⟨((blk_cell (blk_below HX.out HB.out) 0).trans rfl), ((blk_cell (blk_below HX.out HB.out) 1).trans rfl), ((blk_cell (blk_below HX.out HB.out) 2).trans rfl)⟩ (fun hHeld => ?_)
          clear hK K
          refine norm_ (a' := ?_) ?_ ?_
          rotate_left
          · show Act.put _ (some 4) _ = _
            simp only [Act.put, List.setIfInBounds_toArray, List.set_cons_zero, List.set_cons_succ, i64_w, i32_w]
            rfl
          refine two_ (i := 5) (j := 6) (Ni := some 27) (Nj := some 28) #[true, true, true, true, true, true, false, true, true, false, false, true, false] #[true, true, true, true, true, false, true, true, true, false, false, true, false] rfl rfl rfl rfl (two_of HT_.out (by kernel_rfl)) (by decide) (by decide) (fun K hK => ?_) (fun K hK => ?_)
          · skip
            refine Kd.R_append_rows_step (Kd.int .i32) wd.heap.size (by rfl) (.tmp 24) (.tmp 26) 51 21 (.int .i32 0) 4 rfl Try.underlying51 (by kernel_rfl) (by rfl) (by decide) (by decide) _ [] vec A1 vec.length c1 (fun _ => True) (fun _ => False) rfl rfl H1.out (Kd.C_below HC1.out (bel_trans HBo.out HB.out)) (fun _ _ h => h) (fun k hk => hk.elim) (fun _ _ => trivial) HB.out HB.out.size (by have := HSM.out; show (0 + _) * 4 ≤ _; omega) ?_
            intro v4 w4 ha hb hg hat
            rw [List.nil_append] at ha
            have NH1 := Aside0.mk ha
            have NHB := Aside0.mk hb
            have NHY := Aside0.mk (blk_grown HY.out H1.out hg (by decide))
            clear ha hb hg hat
            clear H1 HB HY
            have H1 := NH1; have HB := NHB; have HY := NHY
            clear NH1 NHB NHY
            obtain ⟨A3, c3, rfl⟩ := Kd.R_slice H1.out
            refine hK.out _ _ ⟨((blk_cell (blk_below HX.out HB.out) 0).trans rfl), ((blk_cell (blk_below HX.out HB.out) 1).trans rfl), ((blk_cell (blk_below HX.out HB.out) 2).trans rfl)⟩ (fun hHeld => ?_)
            clear hK K
            refine norm_ (a' := ?_) ?_ ?_
            rotate_left
            · show Act.put _ (some 27) _ = _
              simp only [Act.put, List.setIfInBounds_toArray, List.set_cons_zero, List.set_cons_succ, i64_w, i32_w]
              rfl
            refine one_ (i := 6) (N := some 28) #[true, true, true, true, true, true, true, true, true, false, false, true, false] rfl rfl (one_of HT_.out (by kernel_rfl)) (by decide) (fun K hK => ?_)
            refine value_ (w1 := ?_) (v := ?_) (by rfl) rfl ?_ ?_
            rotate_left 2
            · go_simp
              constructor
              · rfl
              · rfl
            have H2 := Aside0.mk (by have h := R_empty Kd.string 9 w4 wd.heap.size HB.out.size; (try simp only [World.size_alloc] at h); exact h)
            have NHB := Aside0.mk (bel_alloc HB.out (.cells #[] 9))
            have NH1 := Aside0.mk (Kd.R_alloc H1.out (.cells #[] 9))
            have NHY := Aside0.mk (blk_alloc HY.out (.cells #[] 9))
            clear HB H1 HY
            have HB := NHB; have H1 := NH1; have HY := NHY
            clear NHB NH1 NHY
            refine hK.out _ _ ⟨((blk_cell (blk_below HX.out HB.out) 0).trans rfl), ((blk_cell (blk_below HX.out HB.out) 1).trans rfl), ((blk_cell (blk_below HX.out HB.out) 2).trans rfl)⟩ (fun hHeld => ?_)
            clear hK K
            refine norm_ (a' := ?_) ?_ ?_
            rotate_left
            · show Act.put _ (some 28) _ = _
              simp only [Act.put, List.setIfInBounds_toArray, List.set_cons_zero, List.set_cons_succ, i64_w, i32_w]
              rfl
            refine one_ (i := 9) (N := some 31) #[true, true, true, true, true, true, true, true, true, true, false, true, false] rfl rfl (one_of HT_.out (by kernel_rfl)) (by decide) (fun K hK => ?_)
            refine Kd.R_append_rows_step Kd.string wd.heap.size (by rfl) (.tmp 28) (.tmp 30) 52 9 (.string ByteArray.empty) 16 rfl Try.underlying52 (by kernel_rfl) (by rfl) (by decide) (by decide) _ [] tags A2 tags.length c2 (fun _ => True) (fun _ => False) rfl rfl H2.out (Kd.C_below HC2.out (bel_trans HBo.out HB.out)) (fun _ _ h => h) (fun k hk => hk.elim) (fun _ _ => trivial) HB.out HB.out.size (by have := HSM.out; show (0 + _) * 16 ≤ _; omega) ?_
            intro v6 w6 ha hb hg hat
            rw [List.nil_append] at ha
            have NH2 := Aside0.mk ha
            have NHB := Aside0.mk hb
            have NH1 := Aside0.mk (Kd.R_over H1.out H2.out (by decide) hg)
            have NHY := Aside0.mk (blk_grown HY.out H2.out hg (by decide))
            clear ha hb hg hat
            clear H2 HB H1 HY
            have H2 := NH2; have HB := NHB; have H1 := NH1; have HY := NHY
            clear NH2 NHB NH1 NHY
            obtain ⟨A4, c4, rfl⟩ := Kd.R_slice H2.out
            refine hK.out _ _ ⟨((blk_cell (blk_below HX.out HB.out) 0).trans rfl), ((blk_cell (blk_below HX.out HB.out) 1).trans rfl), ((blk_cell (blk_below HX.out HB.out) 2).trans rfl)⟩ (fun hHeld => ?_)
            clear hK K
            refine norm_ (a' := ?_) ?_ ?_
            rotate_left
            · show Act.put _ (some 31) _ = _
              simp only [Act.put, List.setIfInBounds_toArray, List.set_cons_zero, List.set_cons_succ, i64_w, i32_w]
              rfl
            refine pure_ (i := 10) (N := some 32) (v := ?_) (a' := ?_) #[true, true, true, true, true, true, true, true, true, true, true, true, false] rfl rfl (any_of HT_.out (by kernel_rfl)) (fun _ _ _ h => h) (Or.inl ⟨by rfl, ?_⟩) ?_ ?_
            rotate_left
            · intro w'
              go_simp
              with_reducible rfl
            rotate_left
            · simp only [Act.put, List.setIfInBounds_toArray, List.set_cons_zero, List.set_cons_succ, i64_w, i32_w]
              rfl
            exact norm_ (by simp only [Go.Proofs.YtjbakaplcjkniaaW.PrintLast.putAll, Act.put, List.setIfInBounds_toArray, List.set_cons_zero, List.set_cons_succ]) (hCont (.slice (some ⟨(World.heap wd).size, 0, none⟩) 0 0, .slice A3 vec.length c3, .slice (some ⟨(World.heap w4).size, 0, none⟩) 0 0, .slice A4 tags.length c4, ((World.heap wd).size + 1)) _ ⟨H1.out, H2.out, HY.out, HYN.out, HB.out⟩)
          · skip
            refine value_ (w1 := ?_) (v := ?_) (by rfl) rfl ?_ ?_
            rotate_left 2
            · go_simp
              constructor
              · rfl
              · rfl
            have H2 := Aside0.mk (by have h := R_empty Kd.string 9 (World.alloc (World.alloc wd (.cells #[] 21)) (.cells #[.int .u32 0, .slice none 0 0, .slice none 0 0] 54)) wd.heap.size HB.out.size; (try simp only [World.size_alloc] at h); exact h)
            have NHB := Aside0.mk (bel_alloc HB.out (.cells #[] 9))
            have NH1 := Aside0.mk (Kd.R_alloc H1.out (.cells #[] 9))
            have NHY := Aside0.mk (blk_alloc HY.out (.cells #[] 9))
            clear HB H1 HY
            have HB := NHB; have H1 := NH1; have HY := NHY
            clear NHB NH1 NHY
            refine hK.out _ _ ⟨((blk_cell (blk_below HX.out HB.out) 0).trans rfl), ((blk_cell (blk_below HX.out HB.out) 1).trans rfl), ((blk_cell (blk_below HX.out HB.out) 2).trans rfl)⟩ (fun hHeld => ?_)
            clear hK K
            refine norm_ (a' := ?_) ?_ ?_
            rotate_left
            · show Act.put _ (some 28) _ = _
              simp only [Act.put, List.setIfInBounds_toArray, List.set_cons_zero, List.set_cons_succ, i64_w, i32_w]
              rfl
            refine one_ (i := 5) (N := some 27) #[true, true, true, true, true, true, true, true, true, false, false, true, false] rfl rfl (one_of HT_.out (by kernel_rfl)) (by decide) (fun K hK => ?_)
            refine Kd.R_append_rows_step (Kd.int .i32) wd.heap.size (by rfl) (.tmp 24) (.tmp 26) 51 21 (.int .i32 0) 4 rfl Try.underlying51 (by kernel_rfl) (by rfl) (by decide) (by decide) _ [] vec A1 vec.length c1 (fun _ => True) (fun _ => False) rfl rfl H1.out (Kd.C_below HC1.out (bel_trans HBo.out HB.out)) (fun _ _ h => h) (fun k hk => hk.elim) (fun _ _ => trivial) HB.out HB.out.size (by have := HSM.out; show (0 + _) * 4 ≤ _; omega) ?_
            intro v4 w4 ha hb hg hat
            rw [List.nil_append] at ha
            have NH1 := Aside0.mk ha
            have NHB := Aside0.mk hb
            have NH2 := Aside0.mk (Kd.R_over H2.out H1.out (by decide) hg)
            have NHY := Aside0.mk (blk_grown HY.out H1.out hg (by decide))
            clear ha hb hg hat
            clear H1 HB H2 HY
            have H1 := NH1; have HB := NHB; have H2 := NH2; have HY := NHY
            clear NH1 NHB NH2 NHY
            obtain ⟨A3, c3, rfl⟩ := Kd.R_slice H1.out
            refine hK.out _ _ ⟨((blk_cell (blk_below HX.out HB.out) 0).trans rfl), ((blk_cell (blk_below HX.out HB.out) 1).trans rfl), ((blk_cell (blk_below HX.out HB.out) 2).trans rfl)⟩ (fun hHeld => ?_)
            clear hK K
            refine norm_ (a' := ?_) ?_ ?_
            rotate_left
            · show Act.put _ (some 27) _ = _
              simp only [Act.put, List.setIfInBounds_toArray, List.set_cons_zero, List.set_cons_succ, i64_w, i32_w]
              rfl
            refine one_ (i := 9) (N := some 31) #[true, true, true, true, true, true, true, true, true, true, false, true, false] rfl rfl (one_of HT_.out (by kernel_rfl)) (by decide) (fun K hK => ?_)
            refine Kd.R_append_rows_step Kd.string wd.heap.size (by rfl) (.tmp 28) (.tmp 30) 52 9 (.string ByteArray.empty) 16 rfl Try.underlying52 (by kernel_rfl) (by rfl) (by decide) (by decide) _ [] tags A2 tags.length c2 (fun _ => True) (fun _ => False) rfl rfl H2.out (Kd.C_below HC2.out (bel_trans HBo.out HB.out)) (fun _ _ h => h) (fun k hk => hk.elim) (fun _ _ => trivial) HB.out HB.out.size (by have := HSM.out; show (0 + _) * 16 ≤ _; omega) ?_
            intro v6 w6 ha hb hg hat
            rw [List.nil_append] at ha
            have NH2 := Aside0.mk ha
            have NHB := Aside0.mk hb
            have NH1 := Aside0.mk (Kd.R_over H1.out H2.out (by decide) hg)
            have NHY := Aside0.mk (blk_grown HY.out H2.out hg (by decide))
            clear ha hb hg hat
            clear H2 HB H1 HY
            have H2 := NH2; have HB := NHB; have H1 := NH1; have HY := NHY
            clear NH2 NHB NH1 NHY
            obtain ⟨A4, c4, rfl⟩ := Kd.R_slice H2.out
            refine hK.out _ _ ⟨((blk_cell (blk_below HX.out HB.out) 0).trans rfl), ((blk_cell (blk_below HX.out HB.out) 1).trans rfl), ((blk_cell (blk_below HX.out HB.out) 2).trans rfl)⟩ (fun hHeld => ?_)
            clear hK K
            refine norm_ (a' := ?_) ?_ ?_
            rotate_left
            · show Act.put _ (some 31) _ = _
              simp only [Act.put, List.setIfInBounds_toArray, List.set_cons_zero, List.set_cons_succ, i64_w, i32_w]
              rfl
            refine pure_ (i := 10) (N := some 32) (v := ?_) (a' := ?_) #[true, true, true, true, true, true, true, true, true, true, true, true, false] rfl rfl (any_of HT_.out (by kernel_rfl)) (fun _ _ _ h => h) (Or.inl ⟨by rfl, ?_⟩) ?_ ?_
            rotate_left
            · intro w'
              go_simp
              with_reducible rfl
            rotate_left
            · simp only [Act.put, List.setIfInBounds_toArray, List.set_cons_zero, List.set_cons_succ, i64_w, i32_w]
              rfl
            exact norm_ (by simp only [Go.Proofs.YtjbakaplcjkniaaW.PrintLast.putAll, Act.put, List.setIfInBounds_toArray, List.set_cons_zero, List.set_cons_succ]) (hCont (.slice (some ⟨(World.heap wd).size, 0, none⟩) 0 0, .slice A3 vec.length c3, .slice (some ⟨((World.heap wd).size + 2), 0, none⟩) 0 0, .slice A4 tags.length c4, ((World.heap wd).size + 1)) _ ⟨H1.out, H2.out, HY.out, HYN.out, HB.out⟩)
      · skip
        refine value_ (w1 := ?_) (v := ?_) (by rfl) rfl ?_ ?_
        rotate_left 2
        · go_simp
          constructor
          · rfl
          · rfl
        have H2 := Aside0.mk (by have h := R_empty Kd.string 9 wd wd.heap.size HB.out.size; (try simp only [World.size_alloc] at h); exact h)
        have NHB := Aside0.mk (bel_alloc HB.out (.cells #[] 9))
        clear HB
        have HB := NHB
        clear NHB
        refine hK.out _ _ ⟨((blk_cell (blk_below HX.out HB.out) 0).trans rfl), ((blk_cell (blk_below HX.out HB.out) 1).trans rfl), ((blk_cell (blk_below HX.out HB.out) 2).trans rfl)⟩ (fun hHeld => ?_)
        clear hK K
        refine norm_ (a' := ?_) ?_ ?_
        rotate_left
        · show Act.put _ (some 28) _ = _
          simp only [Act.put, List.setIfInBounds_toArray, List.set_cons_zero, List.set_cons_succ, i64_w, i32_w]
          rfl
        refine two_ (i := 2) (j := 11) (Ni := some 24) (Nj := some 4) #[true, true, true, true, true, false, true, true, true, false, false, false, false] #[true, true, false, true, true, false, true, true, true, false, false, true, false] rfl rfl rfl rfl (two_of HT_.out (by kernel_rfl)) (by decide) (by decide) (fun K hK => ?_) (fun K hK => ?_)
        · skip
          refine value_ (w1 := ?_) (v := ?_) (by rfl) rfl ?_ ?_
          rotate_left 2
          · go_simp
            constructor
            · rfl
            · rfl
          have H1 := Aside0.mk (by have h := R_empty (Kd.int .i32) 21 (World.alloc wd (.cells #[] 9)) wd.heap.size HB.out.size; (try simp only [World.size_alloc] at h); exact h)
          have NHB := Aside0.mk (bel_alloc HB.out (.cells #[] 21))
          have NH2 := Aside0.mk (Kd.R_alloc H2.out (.cells #[] 21))
          clear HB H2
          have HB := NHB; have H2 := NH2
          clear NHB NH2
          refine hK.out _ _ ⟨((blk_cell (blk_below HX.out HB.out) 0).trans rfl), ((blk_cell (blk_below HX.out HB.out) 1).trans rfl), ((blk_cell (blk_below HX.out HB.out) 2).trans rfl)⟩ (fun hHeld => ?_)
          clear hK K
          refine norm_ (a' := ?_) ?_ ?_
          rotate_left
          · show Act.put _ (some 24) _ = _
            simp only [Act.put, List.setIfInBounds_toArray, List.set_cons_zero, List.set_cons_succ, i64_w, i32_w]
            rfl
          refine two_ (i := 5) (j := 11) (Ni := some 27) (Nj := some 4) #[true, true, true, true, true, true, true, true, true, false, false, false, false] #[true, true, true, true, true, false, true, true, true, false, false, true, false] rfl rfl rfl rfl (two_of HT_.out (by kernel_rfl)) (by decide) (by decide) (fun K hK => ?_) (fun K hK => ?_)
          · skip
            refine Kd.R_append_rows_step (Kd.int .i32) wd.heap.size (by rfl) (.tmp 24) (.tmp 26) 51 21 (.int .i32 0) 4 rfl Try.underlying51 (by kernel_rfl) (by rfl) (by decide) (by decide) _ [] vec A1 vec.length c1 (fun _ => True) (fun _ => False) rfl rfl H1.out (Kd.C_below HC1.out (bel_trans HBo.out HB.out)) (fun _ _ h => h) (fun k hk => hk.elim) (fun _ _ => trivial) HB.out HB.out.size (by have := HSM.out; show (0 + _) * 4 ≤ _; omega) ?_
            intro v4 w4 ha hb hg hat
            rw [List.nil_append] at ha
            have NH1 := Aside0.mk ha
            have NHB := Aside0.mk hb
            have NH2 := Aside0.mk (Kd.R_over H2.out H1.out (by decide) hg)
            clear ha hb hg hat
            clear H1 HB H2
            have H1 := NH1; have HB := NHB; have H2 := NH2
            clear NH1 NHB NH2
            obtain ⟨A3, c3, rfl⟩ := Kd.R_slice H1.out
            refine hK.out _ _ ⟨((blk_cell (blk_below HX.out HB.out) 0).trans rfl), ((blk_cell (blk_below HX.out HB.out) 1).trans rfl), ((blk_cell (blk_below HX.out HB.out) 2).trans rfl)⟩ (fun hHeld => ?_)
            clear hK K
            refine norm_ (a' := ?_) ?_ ?_
            rotate_left
            · show Act.put _ (some 27) _ = _
              simp only [Act.put, List.setIfInBounds_toArray, List.set_cons_zero, List.set_cons_succ, i64_w, i32_w]
              rfl
            refine two_ (i := 9) (j := 11) (Ni := some 31) (Nj := some 4) #[true, true, true, true, true, true, true, true, true, true, false, false, false] #[true, true, true, true, true, true, true, true, true, false, false, true, false] rfl rfl rfl rfl (two_of HT_.out (by kernel_rfl)) (by decide) (by decide) (fun K hK => ?_) (fun K hK => ?_)
            · skip
              refine Kd.R_append_rows_step Kd.string wd.heap.size (by rfl) (.tmp 28) (.tmp 30) 52 9 (.string ByteArray.empty) 16 rfl Try.underlying52 (by kernel_rfl) (by rfl) (by decide) (by decide) _ [] tags A2 tags.length c2 (fun _ => True) (fun _ => False) rfl rfl H2.out (Kd.C_below HC2.out (bel_trans HBo.out HB.out)) (fun _ _ h => h) (fun k hk => hk.elim) (fun _ _ => trivial) HB.out HB.out.size (by have := HSM.out; show (0 + _) * 16 ≤ _; omega) ?_
              intro v6 w6 ha hb hg hat
              rw [List.nil_append] at ha
              have NH2 := Aside0.mk ha
              have NHB := Aside0.mk hb
              have NH1 := Aside0.mk (Kd.R_over H1.out H2.out (by decide) hg)
              clear ha hb hg hat
              clear H2 HB H1
              have H2 := NH2; have HB := NHB; have H1 := NH1
              clear NH2 NHB NH1
              obtain ⟨A4, c4, rfl⟩ := Kd.R_slice H2.out
              refine hK.out _ _ ⟨((blk_cell (blk_below HX.out HB.out) 0).trans rfl), ((blk_cell (blk_below HX.out HB.out) 1).trans rfl), ((blk_cell (blk_below HX.out HB.out) 2).trans rfl)⟩ (fun hHeld => ?_)
              clear hK K
              refine norm_ (a' := ?_) ?_ ?_
              rotate_left
              · show Act.put _ (some 31) _ = _
                simp only [Act.put, List.setIfInBounds_toArray, List.set_cons_zero, List.set_cons_succ, i64_w, i32_w]
                rfl
              refine pure_ (i := 10) (N := some 32) (v := ?_) (a' := ?_) #[true, true, true, true, true, true, true, true, true, true, true, false, false] rfl rfl (any_of HT_.out (by kernel_rfl)) (fun _ _ _ h => h) (Or.inl ⟨by rfl, ?_⟩) ?_ ?_
              rotate_left
              · intro w'
                go_simp
                with_reducible rfl
              rotate_left
              · simp only [Act.put, List.setIfInBounds_toArray, List.set_cons_zero, List.set_cons_succ, i64_w, i32_w]
                rfl
              refine one_ (i := 11) (N := some 4) #[true, true, true, true, true, true, true, true, true, true, true, true, false] rfl rfl (one_of HT_.out (by kernel_rfl)) (by decide) (fun K hK => ?_)
              refine value_ (w1 := ?_) (v := ?_) (by rfl) rfl ?_ ?_
              rotate_left 2
              · go_simp
                constructor
                · rfl
                · rfl
              have HY := Aside0.mk (by have h := heap_alloc_new w6 (.cells #[.int .u32 0, .slice none 0 0, .slice none 0 0] 54); (try simp only [World.size_alloc] at h); exact h)
              have HYN := Aside0.mk (by have h := HB.out.size; (try simp only [World.size_alloc] at h); exact h)
              have NHB := Aside0.mk (bel_alloc HB.out (.cells #[.int .u32 0, .slice none 0 0, .slice none 0 0] 54))
              have NH1 := Aside0.mk (Kd.R_alloc H1.out (.cells #[.int .u32 0, .slice none 0 0, .slice none 0 0] 54))
              have NH2 := Aside0.mk (Kd.R_alloc H2.out (.cells #[.int .u32 0, .slice none 0 0, .slice none 0 0] 54))
              clear HB H1 H2
              have HB := NHB; have H1 := NH1; have H2 := NH2
              clear NHB NH1 NH2
              refine hK.out _ _ ⟨((blk_cell (blk_below HX.out HB.out) 0).trans rfl), ((blk_cell (blk_below HX.out HB.out) 1).trans rfl), ((blk_cell (blk_below HX.out HB.out) 2).trans rfl)⟩ (fun hHeld => ?_)
              clear hK K
              refine norm_ (a' := ?_) ?_ ?_
              rotate_left
              · show Act.put _ (some 4) _ = _
                simp only [Act.put, List.setIfInBounds_toArray, List.set_cons_zero, List.set_cons_succ, i64_w, i32_w]
                rfl
              exact norm_ (by simp only [Go.Proofs.YtjbakaplcjkniaaW.PrintLast.putAll, Act.put, List.setIfInBounds_toArray, List.set_cons_zero, List.set_cons_succ]) (hCont (.slice (some ⟨((World.heap wd).size + 1), 0, none⟩) 0 0, .slice A3 vec.length c3, .slice (some ⟨(World.heap wd).size, 0, none⟩) 0 0, .slice A4 tags.length c4, (World.heap w6).size) _ ⟨H1.out, H2.out, HY.out, HYN.out, HB.out⟩)
            · skip
              refine value_ (w1 := ?_) (v := ?_) (by rfl) rfl ?_ ?_
              rotate_left 2
              · go_simp
                constructor
                · rfl
                · rfl
              have HY := Aside0.mk (by have h := heap_alloc_new w4 (.cells #[.int .u32 0, .slice none 0 0, .slice none 0 0] 54); (try simp only [World.size_alloc] at h); exact h)
              have HYN := Aside0.mk (by have h := HB.out.size; (try simp only [World.size_alloc] at h); exact h)
              have NHB := Aside0.mk (bel_alloc HB.out (.cells #[.int .u32 0, .slice none 0 0, .slice none 0 0] 54))
              have NH1 := Aside0.mk (Kd.R_alloc H1.out (.cells #[.int .u32 0, .slice none 0 0, .slice none 0 0] 54))
              have NH2 := Aside0.mk (Kd.R_alloc H2.out (.cells #[.int .u32 0, .slice none 0 0, .slice none 0 0] 54))
              clear HB H1 H2
              have HB := NHB; have H1 := NH1; have H2 := NH2
              clear NHB NH1 NH2
              refine hK.out _ _ ⟨((blk_cell (blk_below HX.out HB.out) 0).trans rfl), ((blk_cell (blk_below HX.out HB.out) 1).trans rfl), ((blk_cell (blk_below HX.out HB.out) 2).trans rfl)⟩ (fun hHeld => ?_)
              clear hK K
              refine norm_ (a' := ?_) ?_ ?_
              rotate_left
              · show Act.put _ (some 4) _ = _
                simp only [Act.put, List.setIfInBounds_toArray, List.set_cons_zero, List.set_cons_succ, i64_w, i32_w]
                rfl
              refine one_ (i := 9) (N := some 31) #[true, true, true, true, true, true, true, true, true, true, false, true, false] rfl rfl (one_of HT_.out (by kernel_rfl)) (by decide) (fun K hK => ?_)
              refine Kd.R_append_rows_step Kd.string wd.heap.size (by rfl) (.tmp 28) (.tmp 30) 52 9 (.string ByteArray.empty) 16 rfl Try.underlying52 (by kernel_rfl) (by rfl) (by decide) (by decide) _ [] tags A2 tags.length c2 (fun _ => True) (fun _ => False) rfl rfl H2.out (Kd.C_below HC2.out (bel_trans HBo.out HB.out)) (fun _ _ h => h) (fun k hk => hk.elim) (fun _ _ => trivial) HB.out HB.out.size (by have := HSM.out; show (0 + _) * 16 ≤ _; omega) ?_
              intro v6 w6 ha hb hg hat
              rw [List.nil_append] at ha
              have NH2 := Aside0.mk ha
              have NHB := Aside0.mk hb
              have NH1 := Aside0.mk (Kd.R_over H1.out H2.out (by decide) hg)
              have NHY := Aside0.mk (blk_grown HY.out H2.out hg (by decide))
              clear ha hb hg hat
              clear H2 HB H1 HY
              have H2 := NH2; have HB := NHB; have H1 := NH1; have HY := NHY
              clear NH2 NHB NH1 NHY
              obtain ⟨A4, c4, rfl⟩ := Kd.R_slice H2.out
              refine hK.out _ _ ⟨((blk_cell (blk_below HX.out HB.out) 0).trans rfl), ((blk_cell (blk_below HX.out HB.out) 1).trans rfl), ((blk_cell (blk_below HX.out HB.out) 2).trans rfl)⟩ (fun hHeld => ?_)
              clear hK K
              refine norm_ (a' := ?_) ?_ ?_
              rotate_left
              · show Act.put _ (some 31) _ = _
                simp only [Act.put, List.setIfInBounds_toArray, List.set_cons_zero, List.set_cons_succ, i64_w, i32_w]
                rfl
              refine pure_ (i := 10) (N := some 32) (v := ?_) (a' := ?_) #[true, true, true, true, true, true, true, true, true, true, true, true, false] rfl rfl (any_of HT_.out (by kernel_rfl)) (fun _ _ _ h => h) (Or.inl ⟨by rfl, ?_⟩) ?_ ?_
              rotate_left
              · intro w'
                go_simp
                with_reducible rfl
              rotate_left
              · simp only [Act.put, List.setIfInBounds_toArray, List.set_cons_zero, List.set_cons_succ, i64_w, i32_w]
                rfl
              exact norm_ (by simp only [Go.Proofs.YtjbakaplcjkniaaW.PrintLast.putAll, Act.put, List.setIfInBounds_toArray, List.set_cons_zero, List.set_cons_succ]) (hCont (.slice (some ⟨((World.heap wd).size + 1), 0, none⟩) 0 0, .slice A3 vec.length c3, .slice (some ⟨(World.heap wd).size, 0, none⟩) 0 0, .slice A4 tags.length c4, (World.heap w4).size) _ ⟨H1.out, H2.out, HY.out, HYN.out, HB.out⟩)
          · skip
            refine value_ (w1 := ?_) (v := ?_) (by rfl) rfl ?_ ?_
            rotate_left 2
            · go_simp
              constructor
              · rfl
              · rfl
            have HY := Aside0.mk (by have h := heap_alloc_new (World.alloc (World.alloc wd (.cells #[] 9)) (.cells #[] 21)) (.cells #[.int .u32 0, .slice none 0 0, .slice none 0 0] 54); (try simp only [World.size_alloc] at h); exact h)
            have HYN := Aside0.mk (by have h := HB.out.size; (try simp only [World.size_alloc] at h); exact h)
            have NHB := Aside0.mk (bel_alloc HB.out (.cells #[.int .u32 0, .slice none 0 0, .slice none 0 0] 54))
            have NH1 := Aside0.mk (Kd.R_alloc H1.out (.cells #[.int .u32 0, .slice none 0 0, .slice none 0 0] 54))
            have NH2 := Aside0.mk (Kd.R_alloc H2.out (.cells #[.int .u32 0, .slice none 0 0, .slice none 0 0] 54))
            clear HB H1 H2
            have HB := NHB; have H1 := NH1; have H2 := NH2
            clear NHB NH1 NH2
            refine hK.out _ _ ⟨((blk_cell (blk_below HX.out HB.out) 0).trans rfl), ((blk_cell (blk_below HX.out HB.out) 1).trans rfl), ((blk_cell (blk_below HX.out HB.out) 2).trans rfl)⟩ (fun hHeld => ?_)
            clear hK K
            refine norm_ (a' := ?_) ?_ ?_
            rotate_left
            · show Act.put _ (some 4) _ = _
              simp only [Act.put, List.setIfInBounds_toArray, List.set_cons_zero, List.set_cons_succ, i64_w, i32_w]
              rfl
            refine one_ (i := 5) (N := some 27) #[true, true, true, true, true, true, true, true, true, false, false, true, false] rfl rfl (one_of HT_.out (by kernel_rfl)) (by decide) (fun K hK => ?_)
            refine Kd.R_append_rows_step (Kd.int .i32) wd.heap.size (by rfl) (.tmp 24) (.tmp 26) 51 21 (.int .i32 0) 4 rfl Try.underlying51 (by kernel_rfl) (by rfl) (by decide) (by decide) _ [] vec A1 vec.length c1 (fun _ => True) (fun _ => False) rfl rfl H1.out (Kd.C_below HC1.out (bel_trans HBo.out HB.out)) (fun _ _ h => h) (fun k hk => hk.elim) (fun _ _ => trivial) HB.out HB.out.size (by have := HSM.out; show (0 + _) * 4 ≤ _; omega) ?_
            intro v4 w4 ha hb hg hat
            rw [List.nil_append] at ha
            have NH1 := Aside0.mk ha
            have NHB := Aside0.mk hb
            have NH2 := Aside0.mk (Kd.R_over H2.out H1.out (by decide) hg)
            have NHY := Aside0.mk (blk_grown HY.out H1.out hg (by decide))
            clear ha hb hg hat
            clear H1 HB H2 HY
            have H1 := NH1; have HB := NHB; have H2 := NH2; have HY := NHY
            clear NH1 NHB NH2 NHY
            obtain ⟨A3, c3, rfl⟩ := Kd.R_slice H1.out
            refine hK.out _ _ ⟨((blk_cell (blk_below HX.out HB.out) 0).trans rfl), ((blk_cell (blk_below HX.out HB.out) 1).trans rfl), ((blk_cell (blk_below HX.out HB.out) 2).trans rfl)⟩ (fun hHeld => ?_)
            clear hK K
            refine norm_ (a' := ?_) ?_ ?_
            rotate_left
            · show Act.put _ (some 27) _ = _
              simp only [Act.put, List.setIfInBounds_toArray, List.set_cons_zero, List.set_cons_succ, i64_w, i32_w]
              rfl
            refine one_ (i := 9) (N := some 31) #[true, true, true, true, true, true, true, true, true, true, false, true, false] rfl rfl (one_of HT_.out (by kernel_rfl)) (by decide) (fun K hK => ?_)
            refine Kd.R_append_rows_step Kd.string wd.heap.size (by rfl) (.tmp 28) (.tmp 30) 52 9 (.string ByteArray.empty) 16 rfl Try.underlying52 (by kernel_rfl) (by rfl) (by decide) (by decide) _ [] tags A2 tags.length c2 (fun _ => True) (fun _ => False) rfl rfl H2.out (Kd.C_below HC2.out (bel_trans HBo.out HB.out)) (fun _ _ h => h) (fun k hk => hk.elim) (fun _ _ => trivial) HB.out HB.out.size (by have := HSM.out; show (0 + _) * 16 ≤ _; omega) ?_
            intro v6 w6 ha hb hg hat
            rw [List.nil_append] at ha
            have NH2 := Aside0.mk ha
            have NHB := Aside0.mk hb
            have NH1 := Aside0.mk (Kd.R_over H1.out H2.out (by decide) hg)
            have NHY := Aside0.mk (blk_grown HY.out H2.out hg (by decide))
            clear ha hb hg hat
            clear H2 HB H1 HY
            have H2 := NH2; have HB := NHB; have H1 := NH1; have HY := NHY
            clear NH2 NHB NH1 NHY
            obtain ⟨A4, c4, rfl⟩ := Kd.R_slice H2.out
            refine hK.out _ _ ⟨((blk_cell (blk_below HX.out HB.out) 0).trans rfl), ((blk_cell (blk_below HX.out HB.out) 1).trans rfl), ((blk_cell (blk_below HX.out HB.out) 2).trans rfl)⟩ (fun hHeld => ?_)
            clear hK K
            refine norm_ (a' := ?_) ?_ ?_
            rotate_left
            · show Act.put _ (some 31) _ = _
              simp only [Act.put, List.setIfInBounds_toArray, List.set_cons_zero, List.set_cons_succ, i64_w, i32_w]
              rfl
            refine pure_ (i := 10) (N := some 32) (v := ?_) (a' := ?_) #[true, true, true, true, true, true, true, true, true, true, true, true, false] rfl rfl (any_of HT_.out (by kernel_rfl)) (fun _ _ _ h => h) (Or.inl ⟨by rfl, ?_⟩) ?_ ?_
            rotate_left
            · intro w'
              go_simp
              with_reducible rfl
            rotate_left
            · simp only [Act.put, List.setIfInBounds_toArray, List.set_cons_zero, List.set_cons_succ, i64_w, i32_w]
              rfl
            exact norm_ (by simp only [Go.Proofs.YtjbakaplcjkniaaW.PrintLast.putAll, Act.put, List.setIfInBounds_toArray, List.set_cons_zero, List.set_cons_succ]) (hCont (.slice (some ⟨((World.heap wd).size + 1), 0, none⟩) 0 0, .slice A3 vec.length c3, .slice (some ⟨(World.heap wd).size, 0, none⟩) 0 0, .slice A4 tags.length c4, ((World.heap wd).size + 2)) _ ⟨H1.out, H2.out, HY.out, HYN.out, HB.out⟩)
        · skip
          refine value_ (w1 := ?_) (v := ?_) (by rfl) rfl ?_ ?_
          rotate_left 2
          · go_simp
            constructor
            · rfl
            · rfl
          have HY := Aside0.mk (by have h := heap_alloc_new (World.alloc wd (.cells #[] 9)) (.cells #[.int .u32 0, .slice none 0 0, .slice none 0 0] 54); (try simp only [World.size_alloc] at h); exact h)
          have HYN := Aside0.mk (by have h := HB.out.size; (try simp only [World.size_alloc] at h); exact h)
          have NHB := Aside0.mk (bel_alloc HB.out (.cells #[.int .u32 0, .slice none 0 0, .slice none 0 0] 54))
          have NH2 := Aside0.mk (Kd.R_alloc H2.out (.cells #[.int .u32 0, .slice none 0 0, .slice none 0 0] 54))
          clear HB H2
          have HB := NHB; have H2 := NH2
          clear NHB NH2
          refine hK.out _ _ ⟨((blk_cell (blk_below HX.out HB.out) 0).trans rfl), ((blk_cell (blk_below HX.out HB.out) 1).trans rfl), ((blk_cell (blk_below HX.out HB.out) 2).trans rfl)⟩ (fun hHeld => ?_)
          clear hK K
          refine norm_ (a' := ?_) ?_ ?_
          rotate_left
          · show Act.put _ (some 4) _ = _
            simp only [Act.put, List.setIfInBounds_toArray, List.set_cons_zero, List.set_cons_succ, i64_w, i32_w]
            rfl
          refine one_ (i := 2) (N := some 24) #[true, true, true, true, true, false, true, true, true, false, false, true, false] rfl rfl (one_of HT_.out (by kernel_rfl)) (by decide) (fun K hK => ?_)
          refine value_ (w1 := ?_) (v := ?_) (by rfl) rfl ?_ ?_
          rotate_left 2
          · go_simp
            constructor
            · rfl
            · rfl
          have H1 := Aside0.mk (by have h := R_empty (Kd.int .i32) 21 (World.alloc (World.alloc wd (.cells #[] 9)) (.cells #[.int .u32 0, .slice none 0 0, .slice none 0 0] 54)) wd.heap.size HB.out.size; (try simp only [World.size_alloc] at h); exact h)
          have NHB := Aside0.mk (bel_alloc HB.out (.cells #[] 21))
          have NH2 := Aside0.mk (Kd.R_alloc H2.out (.cells #[] 21))
          have NHY := Aside0.mk (blk_alloc HY.out (.cells #[] 21))
          clear HB H2 HY
          have HB := NHB; have H2 := NH2; have HY := NHY
          clear NHB NH2 NHY
          refine hK.out _ _ ⟨((blk_cell (blk_below HX.out HB.out) 0).trans rfl), ((blk_cell (blk_below HX.out HB.out) 1).trans rfl), ((blk_cell (blk_below HX.out HB.out) 2).trans rfl)⟩ (fun hHeld => ?_)
          clear hK K
          refine norm_ (a' := ?_) ?_ ?_
          rotate_left
          · show Act.put _ (some 24) _ = _
            simp only [Act.put, List.setIfInBounds_toArray, List.set_cons_zero, List.set_cons_succ, i64_w, i32_w]
            rfl
          refine one_ (i := 5) (N := some 27) #[true, true, true, true, true, true, true, true, true, false, false, true, false] rfl rfl (one_of HT_.out (by kernel_rfl)) (by decide) (fun K hK => ?_)
          refine Kd.R_append_rows_step (Kd.int .i32) wd.heap.size (by rfl) (.tmp 24) (.tmp 26) 51 21 (.int .i32 0) 4 rfl Try.underlying51 (by kernel_rfl) (by rfl) (by decide) (by decide) _ [] vec A1 vec.length c1 (fun _ => True) (fun _ => False) rfl rfl H1.out (Kd.C_below HC1.out (bel_trans HBo.out HB.out)) (fun _ _ h => h) (fun k hk => hk.elim) (fun _ _ => trivial) HB.out HB.out.size (by have := HSM.out; show (0 + _) * 4 ≤ _; omega) ?_
          intro v4 w4 ha hb hg hat
          rw [List.nil_append] at ha
          have NH1 := Aside0.mk ha
          have NHB := Aside0.mk hb
          have NH2 := Aside0.mk (Kd.R_over H2.out H1.out (by decide) hg)
          have NHY := Aside0.mk (blk_grown HY.out H1.out hg (by decide))
          clear ha hb hg hat
          clear H1 HB H2 HY
          have H1 := NH1; have HB := NHB; have H2 := NH2; have HY := NHY
          clear NH1 NHB NH2 NHY
          obtain ⟨A3, c3, rfl⟩ := Kd.R_slice H1.out
          refine hK.out _ _ ⟨((blk_cell (blk_below HX.out HB.out) 0).trans rfl), ((blk_cell (blk_below HX.out HB.out) 1).trans rfl), ((blk_cell (blk_below HX.out HB.out) 2).trans rfl)⟩ (fun hHeld => ?_)
          clear hK K
          refine norm_ (a' := ?_) ?_ ?_
          rotate_left
          · show Act.put _ (some 27) _ = _
            simp only [Act.put, List.setIfInBounds_toArray, List.set_cons_zero, List.set_cons_succ, i64_w, i32_w]
            rfl
          refine one_ (i := 9) (N := some 31) #[true, true, true, true, true, true, true, true, true, true, false, true, false] rfl rfl (one_of HT_.out (by kernel_rfl)) (by decide) (fun K hK => ?_)
          refine Kd.R_append_rows_step Kd.string wd.heap.size (by rfl) (.tmp 28) (.tmp 30) 52 9 (.string ByteArray.empty) 16 rfl Try.underlying52 (by kernel_rfl) (by rfl) (by decide) (by decide) _ [] tags A2 tags.length c2 (fun _ => True) (fun _ => False) rfl rfl H2.out (Kd.C_below HC2.out (bel_trans HBo.out HB.out)) (fun _ _ h => h) (fun k hk => hk.elim) (fun _ _ => trivial) HB.out HB.out.size (by have := HSM.out; show (0 + _) * 16 ≤ _; omega) ?_
          intro v6 w6 ha hb hg hat
          rw [List.nil_append] at ha
          have NH2 := Aside0.mk ha
          have NHB := Aside0.mk hb
          have NH1 := Aside0.mk (Kd.R_over H1.out H2.out (by decide) hg)
          have NHY := Aside0.mk (blk_grown HY.out H2.out hg (by decide))
          clear ha hb hg hat
          clear H2 HB H1 HY
          have H2 := NH2; have HB := NHB; have H1 := NH1; have HY := NHY
          clear NH2 NHB NH1 NHY
          obtain ⟨A4, c4, rfl⟩ := Kd.R_slice H2.out
          refine hK.out _ _ ⟨((blk_cell (blk_below HX.out HB.out) 0).trans rfl), ((blk_cell (blk_below HX.out HB.out) 1).trans rfl), ((blk_cell (blk_below HX.out HB.out) 2).trans rfl)⟩ (fun hHeld => ?_)
          clear hK K
          refine norm_ (a' := ?_) ?_ ?_
          rotate_left
          · show Act.put _ (some 31) _ = _
            simp only [Act.put, List.setIfInBounds_toArray, List.set_cons_zero, List.set_cons_succ, i64_w, i32_w]
            rfl
          refine pure_ (i := 10) (N := some 32) (v := ?_) (a' := ?_) #[true, true, true, true, true, true, true, true, true, true, true, true, false] rfl rfl (any_of HT_.out (by kernel_rfl)) (fun _ _ _ h => h) (Or.inl ⟨by rfl, ?_⟩) ?_ ?_
          rotate_left
          · intro w'
            go_simp
            with_reducible rfl
          rotate_left
          · simp only [Act.put, List.setIfInBounds_toArray, List.set_cons_zero, List.set_cons_succ, i64_w, i32_w]
            rfl
          exact norm_ (by simp only [Go.Proofs.YtjbakaplcjkniaaW.PrintLast.putAll, Act.put, List.setIfInBounds_toArray, List.set_cons_zero, List.set_cons_succ]) (hCont (.slice (some ⟨((World.heap wd).size + 2), 0, none⟩) 0 0, .slice A3 vec.length c3, .slice (some ⟨(World.heap wd).size, 0, none⟩) 0 0, .slice A4 tags.length c4, ((World.heap wd).size + 1)) _ ⟨H1.out, H2.out, HY.out, HYN.out, HB.out⟩)
      · skip
        refine value_ (w1 := ?_) (v := ?_) (by rfl) rfl ?_ ?_
        rotate_left 2
        · go_simp
          constructor
          · rfl
          · rfl
        have HY := Aside0.mk (by have h := heap_alloc_new wd (.cells #[.int .u32 0, .slice none 0 0, .slice none 0 0] 54); (try simp only [World.size_alloc] at h); exact h)
        have HYN := Aside0.mk (by have h := HB.out.size; (try simp only [World.size_alloc] at h); exact h)
        have NHB := Aside0.mk (bel_alloc HB.out (.cells #[.int .u32 0, .slice none 0 0, .slice none 0 0] 54))
        clear HB
        have HB := NHB
        clear NHB
        refine hK.out _ _ ⟨((blk_cell (blk_below HX.out HB.out) 0).trans rfl), ((blk_cell (blk_below HX.out HB.out) 1).trans rfl), ((blk_cell (blk_below HX.out HB.out) 2).trans rfl)⟩ (fun hHeld => ?_)
        clear hK K
        refine norm_ (a' := ?_) ?_ ?_
        rotate_left
        · show Act.put _ (some 4) _ = _
          simp only [Act.put, List.setIfInBounds_toArray, List.set_cons_zero, List.set_cons_succ, i64_w, i32_w]
          rfl
        refine two_ (i := 2) (j := 6) (Ni := some 24) (Nj := some 28) #[true, true, true, true, true, false, false, true, true, false, false, true, false] #[true, true, false, true, true, false, true, true, true, false, false, true, false] rfl rfl rfl rfl (two_of HT_.out (by kernel_rfl)) (by decide) (by decide) (fun K hK => ?_) (fun K hK => ?_)
        · skip
          refine value_ (w1 := ?_) (v := ?_) (by rfl) rfl ?_ ?_
          rotate_left 2
          · go_simp
            constructor
            · rfl
            · rfl
          have H1 := Aside0.mk (by have h := R_empty (Kd.int .i32) 21 (World.alloc wd (.cells #[.int .u32 0, .slice none 0 0, .slice none 0 0] 54)) wd.heap.size HB.out.size; (try simp only [World.size_alloc] at h); exact h)
          have NHB := Aside0.mk (bel_alloc HB.out (.cells #[] 21))
          have NHY := Aside0.mk (blk_alloc HY.out (.cells #[] 21))
          clear HB HY
          have HB := NHB; have HY := NHY
          clear NHB NHY
          refine hK.out _ _ ⟨((blk_cell (blk_below HX.out HB.out) 0).trans rfl), ((blk_cell (blk_below HX.out HB.out) 1).trans rfl), ((blk_cell (blk_below HX.out HB.out) 2).trans rfl)⟩ (fun hHeld => ?_)
          clear hK K
          refine norm_ (a' := ?_) ?_ ?_
          rotate_left
          · show Act.put _ (some 24) _ = _
            simp only [Act.put, List.setIfInBounds_toArray, List.set_cons_zero, List.set_cons_succ, i64_w, i32_w]
            rfl
          refine two_ (i := 5) (j := 6) (Ni := some 27) (Nj := some 28) #[true, true, true, true, true, true, false, true, true, false, false, true, false] #[true, true, true, true, true, false, true, true, true, false, false, true, false] rfl rfl rfl rfl (two_of HT_.out (by kernel_rfl)) (by decide) (by decide) (fun K hK => ?_) (fun K hK => ?_)
          · skip
            refine Kd.R_append_rows_step (Kd.int .i32) wd.heap.size (by rfl) (.tmp 24) (.tmp 26) 51 21 (.int .i32 0) 4 rfl Try.underlying51 (by kernel_rfl) (by rfl) (by decide) (by decide) _ [] vec A1 vec.length c1 (fun _ => True) (fun _ => False) rfl rfl H1.out (Kd.C_below HC1.out (bel_trans HBo.out HB.out)) (fun _ _ h => h) (fun k hk => hk.elim) (fun _ _ => trivial) HB.out HB.out.size (by have := HSM.out; show (0 + _) * 4 ≤ _; omega) ?_
            intro v4 w4 ha hb hg hat
            rw [List.nil_append] at ha
            have NH1 := Aside0.mk ha
            have NHB := Aside0.mk hb
            have NHY := Aside0.mk (blk_grown HY.out H1.out hg (by decide))
            clear ha hb hg hat
            clear H1 HB HY
            have H1 := NH1; have HB := NHB; have HY := NHY
            clear NH1 NHB NHY
            obtain ⟨A3, c3, rfl⟩ := Kd.R_slice H1.out
            refine hK.out _ _ ⟨((blk_cell (blk_below HX.out HB.out) 0).trans rfl), ((blk_cell (blk_below HX.out HB.out) 1).trans rfl), ((blk_cell (blk_below HX.out HB.out) 2).trans rfl)⟩ (fun hHeld => ?_)
            clear hK K
            refine norm_ (a' := ?_) ?_ ?_
            rotate_left
            · show Act.put _ (some 27) _ = _
              simp only [Act.put, List.setIfInBounds_toArray, List.set_cons_zero, List.set_cons_succ, i64_w, i32_w]
              rfl
            refine one_ (i := 6) (N := some 28) #[true, true, true, true, true, true, true, true, true, false, false, true, false] rfl rfl (one_of HT_.out (by kernel_rfl)) (by decide) (fun K hK => ?_)
            refine value_ (w1 := ?_) (v := ?_) (by rfl) rfl ?_ ?_
            rotate_left 2
            · go_simp
              constructor
              · rfl
              · rfl
            have H2 := Aside0.mk (by have h := R_empty Kd.string 9 w4 wd.heap.size HB.out.size; (try simp only [World.size_alloc] at h); exact h)
            have NHB := Aside0.mk (bel_alloc HB.out (.cells #[] 9))
            have NH1 := Aside0.mk (Kd.R_alloc H1.out (.cells #[] 9))
            have NHY := Aside0.mk (blk_alloc HY.out (.cells #[] 9))
            clear HB H1 HY
            have HB := NHB; have H1 := NH1; have HY := NHY
            clear NHB NH1 NHY
            refine hK.out _ _ ⟨((blk_cell (blk_below HX.out HB.out) 0).trans rfl), ((blk_cell (blk_below HX.out HB.out) 1).trans rfl), ((blk_cell (blk_below HX.out HB.out) 2).trans rfl)⟩ (fun hHeld => ?_)
            clear hK K
            refine norm_ (a' := ?_) ?_ ?_
            rotate_left
            · show Act.put _ (some 28) _ = _
              simp only [Act.put, List.setIfInBounds_toArray, List.set_cons_zero, List.set_cons_succ, i64_w, i32_w]
              rfl
            refine one_ (i := 9) (N := some 31) #[true, true, true, true, true, true, true, true, true, true, false, true, false] rfl rfl (one_of HT_.out (by kernel_rfl)) (by decide) (fun K hK => ?_)
            refine Kd.R_append_rows_step Kd.string wd.heap.size (by rfl) (.tmp 28) (.tmp 30) 52 9 (.string ByteArray.empty) 16 rfl Try.underlying52 (by kernel_rfl) (by rfl) (by decide) (by decide) _ [] tags A2 tags.length c2 (fun _ => True) (fun _ => False) rfl rfl H2.out (Kd.C_below HC2.out (bel_trans HBo.out HB.out)) (fun _ _ h => h) (fun k hk => hk.elim) (fun _ _ => trivial) HB.out HB.out.size (by have := HSM.out; show (0 + _) * 16 ≤ _; omega) ?_
            intro v6 w6 ha hb hg hat
            rw [List.nil_append] at ha
            have NH2 := Aside0.mk ha
            have NHB := Aside0.mk hb
            have NH1 := Aside0.mk (Kd.R_over H1.out H2.out (by decide) hg)
            have NHY := Aside0.mk (blk_grown HY.out H2.out hg (by decide))
            clear ha hb hg hat
            clear H2 HB H1 HY
            have H2 := NH2; have HB := NHB; have H1 := NH1; have HY := NHY
            clear NH2 NHB NH1 NHY
            obtain ⟨A4, c4, rfl⟩ := Kd.R_slice H2.out
            refine hK.out _ _ ⟨((blk_cell (blk_below HX.out HB.out) 0).trans rfl), ((blk_cell (blk_below HX.out HB.out) 1).trans rfl), ((blk_cell (blk_below HX.out HB.out) 2).trans rfl)⟩ (fun hHeld => ?_)
            clear hK K
            refine norm_ (a' := ?_) ?_ ?_
            rotate_left
            · show Act.put _ (some 31) _ = _
              simp only [Act.put, List.setIfInBounds_toArray, List.set_cons_zero, List.set_cons_succ, i64_w, i32_w]
              rfl
            refine pure_ (i := 10) (N := some 32) (v := ?_) (a' := ?_) #[true, true, true, true, true, true, true, true, true, true, true, true, false] rfl rfl (any_of HT_.out (by kernel_rfl)) (fun _ _ _ h => h) (Or.inl ⟨by rfl, ?_⟩) ?_ ?_
            rotate_left
            · intro w'
              go_simp
              with_reducible rfl
            rotate_left
            · simp only [Act.put, List.setIfInBounds_toArray, List.set_cons_zero, List.set_cons_succ, i64_w, i32_w]
              rfl
            exact norm_ (by simp only [Go.Proofs.YtjbakaplcjkniaaW.PrintLast.putAll, Act.put, List.setIfInBounds_toArray, List.set_cons_zero, List.set_cons_succ]) (hCont (.slice (some ⟨((World.heap wd).size + 1), 0, none⟩) 0 0, .slice A3 vec.length c3, .slice (some ⟨(World.heap w4).size, 0, none⟩) 0 0, .slice A4 tags.length c4, (World.heap wd).size) _ ⟨H1.out, H2.out, HY.out, HYN.out, HB.out⟩)
          · skip
            refine value_ (w1 := ?_) (v := ?_) (by rfl) rfl ?_ ?_
            rotate_left 2
            · go_simp
              constructor
              · rfl
              · rfl
            have H2 := Aside0.mk (by have h := R_empty Kd.string 9 (World.alloc (World.alloc wd (.cells #[.int .u32 0, .slice none 0 0, .slice none 0 0] 54)) (.cells #[] 21)) wd.heap.size HB.out.size; (try simp only [World.size_alloc] at h); exact h)
            have NHB := Aside0.mk (bel_alloc HB.out (.cells #[] 9))
            have NH1 := Aside0.mk (Kd.R_alloc H1.out (.cells #[] 9))
            have NHY := Aside0.mk (blk_alloc HY.out (.cells #[] 9))
            clear HB H1 HY
            have HB := NHB; have H1 := NH1; have HY := NHY
            clear NHB NH1 NHY
            refine hK.out _ _ ⟨((blk_cell (blk_below HX.out HB.out) 0).trans rfl), ((blk_cell (blk_below HX.out HB.out) 1).trans rfl), ((blk_cell (blk_below HX.out HB.out) 2).trans rfl)⟩ (fun hHeld => ?_)
            clear hK K
            refine norm_ (a' := ?_) ?_ ?_
            rotate_left
            · show Act.put _ (some 28) _ = _
              simp only [Act.put, List.setIfInBounds_toArray, List.set_cons_zero, List.set_cons_succ, i64_w, i32_w]
              rfl
            refine one_ (i := 5) (N := some 27) #[true, true, true, true, true, true, true, true, true, false, false, true, false] rfl rfl (one_of HT_.out (by kernel_rfl)) (by decide) (fun K hK => ?_)
            refine Kd.R_append_rows_step (Kd.int .i32) wd.heap.size (by rfl) (.tmp 24) (.tmp 26) 51 21 (.int .i32 0) 4 rfl Try.underlying51 (by kernel_rfl) (by rfl) (by decide) (by decide) _ [] vec A1 vec.length c1 (fun _ => True) (fun _ => False) rfl rfl H1.out (Kd.C_below HC1.out (bel_trans HBo.out HB.out)) (fun _ _ h => h) (fun k hk => hk.elim) (fun _ _ => trivial) HB.out HB.out.size (by have := HSM.out; show (0 + _) * 4 ≤ _; omega) ?_
            intro v4 w4 ha hb hg hat
            rw [List.nil_append] at ha
            have NH1 := Aside0.mk ha
            have NHB := Aside0.mk hb
            have NH2 := Aside0.mk (Kd.R_over H2.out H1.out (by decide) hg)
            have NHY := Aside0.mk (blk_grown HY.out H1.out hg (by decide))
            clear ha hb hg hat
            clear H1 HB H2 HY
            have H1 := NH1; have HB := NHB; have H2 := NH2; have HY := NHY
            clear NH1 NHB NH2 NHY
            obtain ⟨A3, c3, rfl⟩ := Kd.R_slice H1.out
            refine hK.out _ _ ⟨((blk_cell (blk_below HX.out HB.out) 0).trans rfl), ((blk_cell (blk_below HX.out HB.out) 1).trans rfl), ((blk_cell (blk_below HX.out HB.out) 2).trans rfl)⟩ (fun hHeld => ?_)
            clear hK K
            refine norm_ (a' := ?_) ?_ ?_
            rotate_left
            · show Act.put _ (some 27) _ = _
              simp only [Act.put, List.setIfInBounds_toArray, List.set_cons_zero, List.set_cons_succ, i64_w, i32_w]
              rfl
            refine one_ (i := 9) (N := some 31) #[true, true, true, true, true, true, true, true, true, true, false, true, false] rfl rfl (one_of HT_.out (by kernel_rfl)) (by decide) (fun K hK => ?_)
            refine Kd.R_append_rows_step Kd.string wd.heap.size (by rfl) (.tmp 28) (.tmp 30) 52 9 (.string ByteArray.empty) 16 rfl Try.underlying52 (by kernel_rfl) (by rfl) (by decide) (by decide) _ [] tags A2 tags.length c2 (fun _ => True) (fun _ => False) rfl rfl H2.out (Kd.C_below HC2.out (bel_trans HBo.out HB.out)) (fun _ _ h => h) (fun k hk => hk.elim) (fun _ _ => trivial) HB.out HB.out.size (by have := HSM.out; show (0 + _) * 16 ≤ _; omega) ?_
            intro v6 w6 ha hb hg hat
            rw [List.nil_append] at ha
            have NH2 := Aside0.mk ha
            have NHB := Aside0.mk hb
            have NH1 := Aside0.mk (Kd.R_over H1.out H2.out (by decide) hg)
            have NHY := Aside0.mk (blk_grown HY.out H2.out hg (by decide))
            clear ha hb hg hat
            clear H2 HB H1 HY
            have H2 := NH2; have HB := NHB; have H1 := NH1; have HY := NHY
            clear NH2 NHB NH1 NHY
            obtain ⟨A4, c4, rfl⟩ := Kd.R_slice H2.out
            refine hK.out _ _ ⟨((blk_cell (blk_below HX.out HB.out) 0).trans rfl), ((blk_cell (blk_below HX.out HB.out) 1).trans rfl), ((blk_cell (blk_below HX.out HB.out) 2).trans rfl)⟩ (fun hHeld => ?_)
            clear hK K
            refine norm_ (a' := ?_) ?_ ?_
            rotate_left
            · show Act.put _ (some 31) _ = _
              simp only [Act.put, List.setIfInBounds_toArray, List.set_cons_zero, List.set_cons_succ, i64_w, i32_w]
              rfl
            refine pure_ (i := 10) (N := some 32) (v := ?_) (a' := ?_) #[true, true, true, true, true, true, true, true, true, true, true, true, false] rfl rfl (any_of HT_.out (by kernel_rfl)) (fun _ _ _ h => h) (Or.inl ⟨by rfl, ?_⟩) ?_ ?_
            rotate_left
            · intro w'
              go_simp
              with_reducible rfl
            rotate_left
            · simp only [Act.put, List.setIfInBounds_toArray, List.set_cons_zero, List.set_cons_succ, i64_w, i32_w]
              rfl
            exact norm_ (by simp only [Go.Proofs.YtjbakaplcjkniaaW.PrintLast.putAll, Act.put, List.setIfInBounds_toArray, List.set_cons_zero, List.set_cons_succ]) (hCont (.slice (some ⟨((World.heap wd).size + 1), 0, none⟩) 0 0, .slice A3 vec.length c3, .slice (some ⟨((World.heap wd).size + 2), 0, none⟩) 0 0, .slice A4 tags.length c4, (World.heap wd).size) _ ⟨H1.out, H2.out, HY.out, HYN.out, HB.out⟩)
        · skip
          refine value_ (w1 := ?_) (v := ?_) (by rfl) rfl ?_ ?_
          rotate_left 2
          · go_simp
            constructor
            · rfl
            · rfl
          have H2 := Aside0.mk (by have h := R_empty Kd.string 9 (World.alloc wd (.cells #[.int .u32 0, .slice none 0 0, .slice none 0 0] 54)) wd.heap.size HB.out.size; (try simp only [World.size_alloc] at h); exact h)
          have NHB := Aside0.mk (bel_alloc HB.out (.cells #[] 9))
          have NHY := Aside0.mk (blk_alloc HY.out (.cells #[] 9))
          clear HB HY
          have HB := NHB; have HY := NHY
          clear NHB NHY
          refine hK.out _ _ ⟨((blk_cell (blk_below HX.out HB.out) 0).trans rfl), ((blk_cell (blk_below HX.out HB.out) 1).trans rfl), ((blk_cell (blk_below HX.out HB.out) 2).trans rfl)⟩ (fun hHeld => ?_)
          clear hK K
          refine norm_ (a' := ?_) ?_ ?_
          rotate_left
          · show Act.put _ (some 28) _ = _
            simp only [Act.put, List.setIfInBounds_toArray, List.set_cons_zero, List.set_cons_succ, i64_w, i32_w]
            rfl
          refine one_ (i := 2) (N := some 24) #[true, true, true, true, true, false, true, true, true, false, false, true, false] rfl rfl (one_of HT_.out (by kernel_rfl)) (by decide) (fun K hK => ?_)
          refine value_ (w1 := ?_) (v := ?_) (by rfl) rfl ?_ ?_
          rotate_left 2
          · go_simp
            constructor
            · rfl
            · rfl
          have H1 := Aside0.mk (by have h := R_empty (Kd.int .i32) 21 (World.alloc (World.alloc wd (.cells #[.int .u32 0, .slice none 0 0, .slice none 0 0] 54)) (.cells #[] 9)) wd.heap.size HB.out.size; (try simp only [World.size_alloc] at h); exact h)
          have NHB := Aside0.mk (bel_alloc HB.out (.cells #[] 21))
          have NH2 := Aside0.mk (Kd.R_alloc H2.out (.cells #[] 21))
          have NHY := Aside0.mk (blk_alloc HY.out (.cells #[] 21))
          clear HB H2 HY
          have HB := NHB; have H2 := NH2; have HY := NHY
          clear NHB NH2 NHY
          refine hK.out _ _ ⟨((blk_cell (blk_below HX.out HB.out) 0).trans rfl), ((blk_cell (blk_below HX.out HB.out) 1).trans rfl), ((blk_cell (blk_below HX.out HB.out) 2).trans rfl)⟩ (fun hHeld => ?_)
          clear hK K
          refine norm_ (a' := ?_) ?_ ?_
          rotate_left
          · show Act.put _ (some 24) _ = _
            simp only [Act.put, List.setIfInBounds_toArray, List.set_cons_zero, List.set_cons_succ, i64_w, i32_w]
            rfl
          refine one_ (i := 5) (N := some 27) #[true, true, true, true, true, true, true, true, true, false, false, true, false] rfl rfl (one_of HT_.out (by kernel_rfl)) (by decide) (fun K hK => ?_)
          refine Kd.R_append_rows_step (Kd.int .i32) wd.heap.size (by rfl) (.tmp 24) (.tmp 26) 51 21 (.int .i32 0) 4 rfl Try.underlying51 (by kernel_rfl) (by rfl) (by decide) (by decide) _ [] vec A1 vec.length c1 (fun _ => True) (fun _ => False) rfl rfl H1.out (Kd.C_below HC1.out (bel_trans HBo.out HB.out)) (fun _ _ h => h) (fun k hk => hk.elim) (fun _ _ => trivial) HB.out HB.out.size (by have := HSM.out; show (0 + _) * 4 ≤ _; omega) ?_
          intro v4 w4 ha hb hg hat
          rw [List.nil_append] at ha
          have NH1 := Aside0.mk ha
          have NHB := Aside0.mk hb
          have NH2 := Aside0.mk (Kd.R_over H2.out H1.out (by decide) hg)
          have NHY := Aside0.mk (blk_grown HY.out H1.out hg (by decide))
          clear ha hb hg hat
          clear H1 HB H2 HY
          have H1 := NH1; have HB := NHB; have H2 := NH2; have HY := NHY
          clear NH1 NHB NH2 NHY
          obtain ⟨A3, c3, rfl⟩ := Kd.R_slice H1.out
          refine hK.out _ _ ⟨((blk_cell (blk_below HX.out HB.out) 0).trans rfl), ((blk_cell (blk_below HX.out HB.out) 1).trans rfl), ((blk_cell (blk_below HX.out HB.out) 2).trans rfl)⟩ (fun hHeld => ?_)
          clear hK K
          refine norm_ (a' := ?_) ?_ ?_
          rotate_left
          · show Act.put _ (some 27) _ = _
            simp only [Act.put, List.setIfInBounds_toArray, List.set_cons_zero, List.set_cons_succ, i64_w, i32_w]
            rfl
          refine one_ (i := 9) (N := some 31) #[true, true, true, true, true, true, true, true, true, true, false, true, false] rfl rfl (one_of HT_.out (by kernel_rfl)) (by decide) (fun K hK => ?_)
          refine Kd.R_append_rows_step Kd.string wd.heap.size (by rfl) (.tmp 28) (.tmp 30) 52 9 (.string ByteArray.empty) 16 rfl Try.underlying52 (by kernel_rfl) (by rfl) (by decide) (by decide) _ [] tags A2 tags.length c2 (fun _ => True) (fun _ => False) rfl rfl H2.out (Kd.C_below HC2.out (bel_trans HBo.out HB.out)) (fun _ _ h => h) (fun k hk => hk.elim) (fun _ _ => trivial) HB.out HB.out.size (by have := HSM.out; show (0 + _) * 16 ≤ _; omega) ?_
          intro v6 w6 ha hb hg hat
          rw [List.nil_append] at ha
          have NH2 := Aside0.mk ha
          have NHB := Aside0.mk hb
          have NH1 := Aside0.mk (Kd.R_over H1.out H2.out (by decide) hg)
          have NHY := Aside0.mk (blk_grown HY.out H2.out hg (by decide))
          clear ha hb hg hat
          clear H2 HB H1 HY
          have H2 := NH2; have HB := NHB; have H1 := NH1; have HY := NHY
          clear NH2 NHB NH1 NHY
          obtain ⟨A4, c4, rfl⟩ := Kd.R_slice H2.out
          refine hK.out _ _ ⟨((blk_cell (blk_below HX.out HB.out) 0).trans rfl), ((blk_cell (blk_below HX.out HB.out) 1).trans rfl), ((blk_cell (blk_below HX.out HB.out) 2).trans rfl)⟩ (fun hHeld => ?_)
          clear hK K
          refine norm_ (a' := ?_) ?_ ?_
          rotate_left
          · show Act.put _ (some 31) _ = _
            simp only [Act.put, List.setIfInBounds_toArray, List.set_cons_zero, List.set_cons_succ, i64_w, i32_w]
            rfl
          refine pure_ (i := 10) (N := some 32) (v := ?_) (a' := ?_) #[true, true, true, true, true, true, true, true, true, true, true, true, false] rfl rfl (any_of HT_.out (by kernel_rfl)) (fun _ _ _ h => h) (Or.inl ⟨by rfl, ?_⟩) ?_ ?_
          rotate_left
          · intro w'
            go_simp
            with_reducible rfl
          rotate_left
          · simp only [Act.put, List.setIfInBounds_toArray, List.set_cons_zero, List.set_cons_succ, i64_w, i32_w]
            rfl
          exact norm_ (by simp only [Go.Proofs.YtjbakaplcjkniaaW.PrintLast.putAll, Act.put, List.setIfInBounds_toArray, List.set_cons_zero, List.set_cons_succ]) (hCont (.slice (some ⟨((World.heap wd).size + 2), 0, none⟩) 0 0, .slice A3 vec.length c3, .slice (some ⟨((World.heap wd).size + 1), 0, none⟩) 0 0, .slice A4 tags.length c4, (World.heap wd).size) _ ⟨H1.out, H2.out, HY.out, HYN.out, HB.out⟩)
    rintro ⟨va, vb, vc, vd, by_⟩ w5 ⟨h1, h2, h3, h4, hb⟩
    clear HB
    have H1 := Aside0.mk (show (Kd.int .i32).R 21 w5 wd.heap.size (fun _ => True) vb vec from h1)
    have H2 := Aside0.mk (show Kd.string.R 9 w5 wd.heap.size (fun _ => True) vd tags from h2)
    have HG := Aside0.mk (show (World.heap w5)[by_]? = some (.cells #[.int .u32 0, .slice none 0 0, .slice none 0 0] 54 (0, 0)) from h3)
    have HBY := Aside0.mk (show wd.heap.size ≤ by_ from h4)
    have HB := Aside0.mk hb
    clear h1 h2 h3 h4 hb
    obtain ⟨A3, c3, rfl⟩ := Kd.R_slice H1.out
    obtain ⟨A4, c4, rfl⟩ := Kd.R_slice H2.out
    have hHeld := And.intro ((blk_cell (blk_below HX.out HB.out) 0).trans rfl) (And.intro ((blk_cell (blk_below HX.out HB.out) 1).trans rfl) ((blk_cell (blk_below HX.out HB.out) 2).trans rfl))
    refine norm_ (a' := ?_) ?_ ?_
    rotate_left
    · simp only [Go.Proofs.YtjbakaplcjkniaaW.PrintLast.putAll, Act.put, List.setIfInBounds_toArray, List.set_cons_zero, List.set_cons_succ]
      rfl
    refine last_ (i := 12) (N := none) #[true, true, true, true, true, true, true, true, true, true, true, true, true] rfl rfl (one_of HT_.out (by kernel_rfl)) (by decide) (fun K hK => ?_)
    have yg0 := (blk_cell HG.out 0).trans rfl
    have yg1 := (blk_cell HG.out 1).trans rfl
    have yg2 := (blk_cell HG.out 2).trans rfl
    have fz : ∀ j, w5.frozen? ⟨by_, j, none⟩ = false := fun j => blk_frozen HG.out j
    refine skip_ (w1 := ?_) (by rfl) rfl ?_ ?_
    rotate_left
    · go_simp
      rfl
    clear yg0 yg1 yg2 fz
    refine hK.out _ _ ?_
    clear hK K
    refine done_ (done_of HT_.out (by kernel_rfl)) ?_
    obtain ⟨w8, hw8⟩ : ∃ z, (((w5.setCell ⟨by_, 0, none⟩ (.int .u32 id)).setCell ⟨by_, 1, none⟩ (.slice A3 vec.length c3)).setCell ⟨by_, 2, none⟩ (.slice A4 tags.length c4)) = z := ⟨_, rfl⟩
    have HB8 := below_set (j := 2) (v := .slice A4 tags.length c4) (below_set (j := 1) (v := .slice A3 vec.length c3) (below_set (j := 0) (v := .int .u32 id) HB.out HBY.out) HBY.out) HBY.out
    have HV := Aside0.mk (Kd.R_set (Kd.R_set (Kd.R_set H1.out HG.out (by decide) 0 (.int .u32 id)) (blk_set HG.out 0 _) (by decide) 1 (.slice A3 vec.length c3)) (blk_set (blk_set HG.out 0 _) 1 _) (by decide) 2 (.slice A4 tags.length c4))
    have HT := Aside0.mk (Kd.R_set (Kd.R_set (Kd.R_set H2.out HG.out (by decide) 0 (.int .u32 id)) (blk_set HG.out 0 _) (by decide) 1 (.slice A3 vec.length c3)) (blk_set (blk_set HG.out 0 _) 1 _) (by decide) 2 (.slice A4 tags.length c4))
    have HY := Aside0.mk (blk_put (blk_put (blk_put HG.out 0 (.int .u32 id) rfl) 1 (.slice A3 vec.length c3) rfl) 2 (.slice A4 tags.length c4) (cs' := #[.int .u32 id, .slice A3 vec.length c3, .slice A4 tags.length c4]) rfl)
    rw [hw8] at HB8 HV HT HY ⊢
    have HSB := Aside0.mk HBo.out.size
    have HP := Aside0.mk (HP.out.below HB8)
    have HX := Aside0.mk (blk_below HX.out HB8)
    clear hw8 HB8 HG H1 H2 HB HBo HBY
    obtain ⟨b3, hn3, hz3⟩ := num_arr HV.out
    obtain ⟨b4, hn4, hz4⟩ := str_arr HT.out
    have HN3 := Aside0.mk hn3
    have HN4 := Aside0.mk hn4
    have HPZ := Aside0.mk (HP.out.rez (Z' := fun k => (Value.slice A3 vec.length c3).ownBlock = some k ∨ (Value.slice A4 tags.length c4).ownBlock = some k) rfl (fun k hk => by have h0 := HSB.out; rcases hk with hk | hk; exact Nat.le_trans h0 (R_own HV.out k hk).1; exact Nat.le_trans h0 (R_own HT.out k hk).1))
    have HZL := Aside0.mk (show ∀ k, ((Value.slice A3 vec.length c3).ownBlock = some k ∨ (Value.slice A4 tags.length c4).ownBlock = some k) → k < w8.heap.size from fun k hk => by rcases hk with hk | hk; exact (R_own HV.out k hk).2.1; exact (R_own HT.out k hk).2.1)
    have HPA := Aside0.mk (show Parts w8 ⟨1, false, id, vec, tags⟩ A3 c3 A4 c4 from ⟨(Kd.R_reads' HV.out).2.1, (Kd.R_reads' HV.out).2.2, (Kd.R_reads' HT.out).2.1, (Kd.R_reads' HT.out).2.2, HSM.out⟩)
    have HZ3 := Aside0.mk (fun h => (hz3 h).2)
    have HZ4 := Aside0.mk (fun h => (hz4 h).2)
    have z0 := (blk_cell HY.out 0).trans rfl
    have z1 := (blk_cell HY.out 1).trans rfl
    have z2 := (blk_cell HY.out 2).trans rfl
    clear hn3 hn4 hz3 hz4 HP HV HT
    go_wp2_with (go_at_call 25; (with_reducible refine (PX.put HPZ.out ⟨1, false, id, vec, tags⟩ A3 c3 A4 c4 rfl HPA.out (by show (0 : Int) ≤ 1; decide) HZL.out).mono ?_); rintro e w9 ⟨rfl, hP, hO⟩; rw [lay_one (r := ⟨1, false, id, vec, tags⟩) (by show (1 : Int) ≤ 1; decide)] at hP ⊢; have HP9 := Aside0.mk hP.free; have HX9 := Aside0.mk (blk_tt HX.out hO (by decide) (by decide)); have HY9 := Aside0.mk (blk_tt HY.out hO (by decide) (by decide)); have HN39 := Aside0.mk (HN3.out.tt hO); have HN49 := Aside0.mk (HN4.out.tt hO); clear hP hO z0 z1 z2)
    obtain ⟨N1, hN1⟩ : ∃ z, w9.heap.size = z := ⟨_, rfl⟩
    rw [hN1] at HP9
    obtain ⟨rr, hrr⟩ : ∃ z : Row, (⟨1, false, id, vec, tags⟩ : Row) = z := ⟨_, rfl⟩
    rw [hrr] at HP9
    have HRR := Aside0.mk hrr
    obtain ⟨Z1, hz1⟩ : ∃ z : Nat → Prop, (fun k => ((Value.slice A3 vec.length c3).ownBlock = some k ∨ (Value.slice A4 tags.length c4).ownBlock = some k) ∨ N1 ≤ k) = z := ⟨_, rfl⟩
    have HZA := Aside0.mk (show 0 < vec.length → Z1 b3 from fun h => by rw [← hz1]; exact .inl (.inl (HZ3.out h)))
    have HZB := Aside0.mk (show 0 < tags.length → Z1 b4 from fun h => by rw [← hz1]; exact .inl (.inr (HZ4.out h)))
    have HZN := Aside0.mk (show ∀ k, N1 ≤ k → Z1 k from fun k h => by rw [← hz1]; exact .inr h)
    rw [hz1] at HP9
    have HS9 := Aside0.mk (Nat.le_of_eq hN1.symm)
    clear hN1 hrr hz1 HX HY HN3 HN4 HPZ HZL HPA HZ3 HZ4
    go_loopg [5] vec.length (fun gk v5 wr => ∃ (i : Nat), v5 = .int .i64 i ∧ Aside0 (i ≤ vec.length ∧ vec.length - i ≤ gk) ∧ Aside0 (PX Z1 w wr g (oneSt rr)) ∧ Aside0 (NArr wr A3 b3 vec.length) ∧ Aside0 (N1 ≤ wr.heap.size) ∧ Aside0 (wr.heap[bx]? = some (.cells #[.int .u32 id, .slice A1 vec.length c1, .slice A2 tags.length c2] 54 (0, 0))) ∧ Aside0 (wr.heap[by_]? = some (.cells #[.int .u32 id, .slice A3 vec.length c3, .slice A4 tags.length c4] 54 (0, 0))) ∧ Aside0 (SArr wr A4 b4 tags.length))
    case atStart => exact ⟨0, rfl, ⟨by omega, by omega⟩, HP9, HN39, HS9, HX9, HY9, HN49⟩
    case round =>
      clear HP9 HN39 HS9 HX9 HY9 HN49
      obtain ⟨i, rfl, HI, HP9, HN39, HS9, HX9, HY9, HN49⟩ := hrel
      have z1 := (blk_cell HY9.out 1).trans rfl
      by_cases hi : i < vec.length
      · have q1 : decide ((i : Int) < (vec.length : Int)) = true := decide_eq_true (by omega)
        have q1' : (i : Int) < (vec.length : Int) := by omega
        obtain ⟨hA3, hna⟩ := HN39.out (by omega)
        obtain ⟨⟨xv, hx⟩, fz⟩ := hna.at hi
        have HNA := Aside0.mk hna
        have HZZ := Aside0.mk (HZA.out (by omega))
        have HIL := Aside0.mk hi
        have HIN := Aside0.mk (show wrap64 ((i : Int) + 1) = ((i + 1 : Nat) : Int) by have := HSM.out; unfold wrap64; omega)
        obtain ⟨gk, rfl⟩ : ∃ m, gk = m + 1 := ⟨gk - 1, by have := HI.out; omega⟩
        have hx' := (congrArg (fun z => World.cell? _ z) (add_plain b3 i)).trans hx
        subst hA3
        clear hi hna
        go_wp2
        go_roundg gk
        case measure => omega
        case rel => exact ⟨i + 1, congrArg (Value.int .i64) HIN.out, ⟨by have := HIL.out; omega, by have := HI.out; have := HIL.out; omega⟩, ⟨HNA.out.write HP9.out HZZ.out _ _⟩, ⟨fun _ => ⟨rfl, HNA.out.set _ _⟩⟩, ⟨by rw [World.size_setCell]; exact HS9.out⟩, ⟨HNA.out.far HX9.out (by decide) _ _⟩, ⟨HNA.out.far HY9.out (by decide) _ _⟩, ⟨fun h => ⟨(HN49.out h).1, StrArr.past HNA.out (HN49.out h).2 _ _⟩⟩⟩
      · have q1 : decide ((i : Int) < (vec.length : Int)) = false := decide_eq_false (by omega)
        have q1' : (i < vec.length) = False := eq_false hi
        have q1'' : decide (i < vec.length) = false := decide_eq_false hi
        clear hi HI HN39
        go_wp2
        clear z1
        go_loopg [6] tags.length (fun gk v6 wr => ∃ (i : Nat), v6 = .int .i64 i ∧ Aside0 (i ≤ tags.length ∧ tags.length - i ≤ gk) ∧ Aside0 (PX Z1 w wr g (oneSt rr)) ∧ Aside0 (SArr wr A4 b4 tags.length) ∧ Aside0 (N1 ≤ wr.heap.size) ∧ Aside0 (wr.heap[bx]? = some (.cells #[.int .u32 id, .slice A1 vec.length c1, .slice A2 tags.length c2] 54 (0, 0))) ∧ Aside0 (wr.heap[by_]? = some (.cells #[.int .u32 id, .slice A3 vec.length c3, .slice A4 tags.length c4] 54 (0, 0))))
        case atStart => exact ⟨0, rfl, ⟨by omega, by omega⟩, HP9, HN49, HS9, HX9, HY9⟩
        case round =>
          clear HP9 HN49 HS9 HX9 HY9
          obtain ⟨i, rfl, HI, HP9, HN49, HS9, HX9, HY9⟩ := hrel
          have z2 := (blk_cell HY9.out 2).trans rfl
          by_cases hi : i < tags.length
          · have q2 : decide ((i : Int) < (tags.length : Int)) = true := decide_eq_true (by omega)
            have q2' : (i : Int) < (tags.length : Int) := by omega
            obtain ⟨hA3, hna⟩ := HN49.out (by omega)
            obtain ⟨⟨xv, hx⟩, fz⟩ := hna.at hi
            have HNA := Aside0.mk hna
            have HZZ := Aside0.mk (HZB.out (by omega))
            have HIL := Aside0.mk hi
            have HIN := Aside0.mk (show wrap64 ((i : Int) + 1) = ((i + 1 : Nat) : Int) by have := HSM.out; unfold wrap64; omega)
            obtain ⟨gk, rfl⟩ : ∃ m, gk = m + 1 := ⟨gk - 1, by have := HI.out; omega⟩
            have hx' := (congrArg (fun z => World.cell? _ z) (add_plain b4 i)).trans hx
            subst hA3
            clear hi hna
            go_wp2
            go_roundg gk
            case measure => omega
            case rel => exact ⟨i + 1, congrArg (Value.int .i64) HIN.out, ⟨by have := HIL.out; omega, by have := HI.out; have := HIL.out; omega⟩, ⟨HNA.out.write HP9.out HZZ.out _ _⟩, ⟨fun _ => ⟨rfl, HNA.out.set _ _⟩⟩, ⟨by rw [World.size_setCell]; exact HS9.out⟩, ⟨HNA.out.far HX9.out (by decide) _ _⟩, ⟨HNA.out.far HY9.out (by decide) _ _⟩⟩
          · have q2 : decide ((i : Int) < (tags.length : Int)) = false := decide_eq_false (by omega)
            have q2' : (i < tags.length) = False := eq_false hi
            have q2'' : decide (i < tags.length) = false := decide_eq_false hi
            clear hi HI HN49
            have HGT := Aside0.mk (show (oneSt rr).get id 1 = (0, some rr) by rw [← HRR.out]; exact get_one ⟨1, false, id, vec, tags⟩ (by decide) (by show (1 : Int) ≤ 1; decide) rfl)
            have HSS := Aside0.mk (show (oneSt rr).Small by rw [← HRR.out]; intro x hx; have e : x = ⟨1, false, id, vec, tags⟩ := (by simpa [oneSt] using hx); subst e; exact HSM.out)
            have HFS := Aside0.mk (show (oneSt rr).Fit by rw [← HRR.out]; intro x hx; have e : x = ⟨1, false, id, vec, tags⟩ := (by simpa [oneSt] using hx); subst e; exact HID.out)
            have x0 := (blk_cell HX9.out 0).trans rfl
            go_wp2_with (go_at_call 31; (with_reducible refine (PX.get HP9.out HSS.out id 1).mono ?_); rintro e w10 ⟨hA, hP, hb⟩; rw [HGT.out] at hA; obtain ⟨a6, rfl, v1, v2, rfl, r1, r2⟩ := hA; rw [← HRR.out] at r1 r2 ⊢; obtain ⟨p1, n1, rfl⟩ := Kd.R_slice r1; obtain ⟨p2, n2, rfl⟩ := Kd.R_slice r2; clear r2; have hbb := bel_alloc hb (.cells #[.int .u32 id, .slice p1 vec.length n1, .slice p2 tags.length n2] 54); obtain ⟨b5, hn5, hz5⟩ := num_arr r1; have HN5 := Aside0.mk (hn5.below (below_alloc (Below.refl _ _) (.cells #[.int .u32 id, .slice p1 vec.length n1, .slice p2 tags.length n2] 54))); have HZ5 := Aside0.mk (show 0 < vec.length → Z1 b5 from fun h => HZN.out _ (Nat.le_trans HS9.out (hz5 h).1)); have HP10 := Aside0.mk (HP9.out.below hbb); have HX10 := Aside0.mk (blk_below HX9.out hbb); have HS10 := Aside0.mk (Nat.le_trans HS9.out hbb.size); have HZB10 := Aside0.mk (heap_alloc_new w10 (.cells #[.int .u32 id, .slice p1 vec.length n1, .slice p2 tags.length n2] 54)); clear hP hb hbb r1 hn5 hz5 x0)
            obtain ⟨bz, hbz⟩ : ∃ z, w10.heap.size = z := ⟨_, rfl⟩
            rw [hbz] at HZB10 ⊢
            clear HP9 HX9 HS9 hbz
            clear z2
            have HP9 := HP10
            have HX9 := HX10
            have HS9 := HS10
            have HY9 := HZB10
            clear HP10 HX10 HS10 HZB10
            go_loopg [9] vec.length (fun gk v9 wr => ∃ (i : Nat), v9 = .int .i64 i ∧ Aside0 (i ≤ vec.length ∧ vec.length - i ≤ gk) ∧ Aside0 (PX Z1 w wr g (oneSt rr)) ∧ Aside0 (NArr wr p1 b5 vec.length) ∧ Aside0 (N1 ≤ wr.heap.size) ∧ Aside0 (wr.heap[bx]? = some (.cells #[.int .u32 id, .slice A1 vec.length c1, .slice A2 tags.length c2] 54 (0, 0))) ∧ Aside0 (wr.heap[bz]? = some (.cells #[.int .u32 id, .slice p1 vec.length n1, .slice p2 tags.length n2] 54 (0, 0))))
            case atStart => exact ⟨0, rfl, ⟨by omega, by omega⟩, HP9, HN5, HS9, HX9, HY9⟩
            case round =>
              clear HP9 HN5 HS9 HX9 HY9
              obtain ⟨i, rfl, HI, HP9, HN5, HS9, HX9, HY9⟩ := hrel
              have z1 := (blk_cell HY9.out 1).trans rfl
              by_cases hi : i < vec.length
              · have q3 : decide ((i : Int) < (vec.length : Int)) = true := decide_eq_true (by omega)
                have q3' : (i : Int) < (vec.length : Int) := by omega
                obtain ⟨hA3, hna⟩ := HN5.out (by omega)
                obtain ⟨⟨xv, hx⟩, fz⟩ := hna.at hi
                have HNA := Aside0.mk hna
                have HZZ := Aside0.mk (HZ5.out (by omega))
                have HIL := Aside0.mk hi
                have HIN := Aside0.mk (show wrap64 ((i : Int) + 1) = ((i + 1 : Nat) : Int) by have := HSM.out; unfold wrap64; omega)
                obtain ⟨gk, rfl⟩ : ∃ m, gk = m + 1 := ⟨gk - 1, by have := HI.out; omega⟩
                have hx' := (congrArg (fun z => World.cell? _ z) (add_plain b5 i)).trans hx
                subst hA3
                clear hi hna
                go_wp2
                go_roundg gk
                case measure => omega
                case rel => exact ⟨i + 1, congrArg (Value.int .i64) HIN.out, ⟨by have := HIL.out; omega, by have := HI.out; have := HIL.out; omega⟩, ⟨HNA.out.write HP9.out HZZ.out _ _⟩, ⟨fun _ => ⟨rfl, HNA.out.set _ _⟩⟩, ⟨by rw [World.size_setCell]; exact HS9.out⟩, ⟨HNA.out.far HX9.out (by decide) _ _⟩, ⟨HNA.out.far HY9.out (by decide) _ _⟩⟩
              · have q3 : decide ((i : Int) < (vec.length : Int)) = false := decide_eq_false (by omega)
                have q3' : (i < vec.length) = False := eq_false hi
                have q3'' : decide (i < vec.length) = false := decide_eq_false hi
                clear hi HI HN5
                go_wp2_with (go_at_call 32; (with_reducible refine (PX.all_known HP9.out HSS.out HFS.out 1 (by exact known_zero rfl (by decide))).mono ?_); rintro e w12 ⟨⟨a1, d1, rfl, ho, he, hal⟩, hP, hb⟩; have htl := one_told (r := rr) ⟨ho, he⟩ (by rw [← HRR.out] at hal ⊢; exact all_one (r := ⟨1, false, id, vec, tags⟩) (by show (1 : Int) ≤ 1; decide) rfl hal); obtain ⟨bo, co, p6, n6, rfl, ho6, r6⟩ := htl; rw [← HRR.out] at ho6 r6; obtain ⟨b6, hn6, hz6⟩ := str_arr r6; have HN6 := Aside0.mk hn6; have HZ6 := Aside0.mk (show 0 < tags.length → Z1 b6 from fun h => HZN.out _ (Nat.le_trans HS9.out (hz6 h).1)); have HO6 := Aside0.mk ho6; have HP12 := Aside0.mk (HP9.out.below hb); have HX12 := Aside0.mk (blk_below HX9.out hb); have HS12 := Aside0.mk (Nat.le_trans HS9.out hb.size); clear ho he hal hP hb ho6 r6 hn6 hz6)
                clear HP9 HX9 HS9
                clear z1 HY9
                have HP9 := HP12
                have HX9 := HX12
                have HS9 := HS12
                clear HP12 HX12 HS12
                go_loopg [12] 1 (fun gk v12 wr => ∃ (z : Int), v12 = .int .i64 z ∧ Aside0 ((z = 0 ∧ 1 ≤ gk) ∨ z = 1) ∧ Aside0 (PX Z1 w wr g (oneSt rr)) ∧ Aside0 (SArr wr p6 b6 tags.length) ∧ Aside0 (N1 ≤ wr.heap.size) ∧ Aside0 (wr.heap[bx]? = some (.cells #[.int .u32 id, .slice A1 vec.length c1, .slice A2 tags.length c2] 54 (0, 0))) ∧ Aside0 (OneIt wr bo (.slice p6 tags.length n6)))
                case atStart => exact ⟨0, rfl, ⟨.inl ⟨rfl, Nat.le_refl _⟩⟩, HP9, HN6, HS9, HX9, HO6⟩
                case round =>
                  clear HP9 HN6 HS9 HX9 HO6
                  obtain ⟨z, rfl, HZI, HP9, HN6, HS9, HX9, HO6⟩ := hrel
                  rcases HZI.out with ⟨rfl, hgk⟩ | rfl
                  · obtain ⟨gk2, rfl⟩ : ∃ m, gk = m + 1 := ⟨gk - 1, by omega⟩
                    clear hgk HZI
                    go_wp2
                    go_loopg [13] tags.length (fun gk v13 wr => ∃ (i : Nat), v13 = .int .i64 i ∧ Aside0 (i ≤ tags.length ∧ tags.length - i ≤ gk) ∧ Aside0 (PX Z1 w wr g (oneSt rr)) ∧ Aside0 (SArr wr p6 b6 tags.length) ∧ Aside0 (N1 ≤ wr.heap.size) ∧ Aside0 (wr.heap[bx]? = some (.cells #[.int .u32 id, .slice A1 vec.length c1, .slice A2 tags.length c2] 54 (0, 0))) ∧ Aside0 (OneIt wr bo (.slice p6 tags.length n6)))
                    case atStart => exact ⟨0, rfl, ⟨by omega, by omega⟩, HP9, HN6, HS9, HX9, HO6⟩
                    case round =>
                      clear HP9 HN6 HS9 HX9 HO6
                      obtain ⟨i, rfl, HI, HP9, HN6, HS9, HX9, HO6⟩ := hrel
                      have z2 := HO6.out.at
                      have HN6k := HN6
                      by_cases hi : i < tags.length
                      · have q4 : decide ((i : Int) < (tags.length : Int)) = true := decide_eq_true (by omega)
                        have q4' : (i : Int) < (tags.length : Int) := by omega
                        obtain ⟨hA3, hna⟩ := HN6.out (by omega)
                        obtain ⟨⟨xv, hx⟩, fz⟩ := hna.at hi
                        have HNA := Aside0.mk hna
                        have HZZ := Aside0.mk (HZ6.out (by omega))
                        have HIL := Aside0.mk hi
                        have HIN := Aside0.mk (show wrap64 ((i : Int) + 1) = ((i + 1 : Nat) : Int) by have := HSM.out; unfold wrap64; omega)
                        obtain ⟨gk, rfl⟩ : ∃ m, gk = m + 1 := ⟨gk - 1, by have := HI.out; omega⟩
                        have hx' := (congrArg (fun z => World.cell? _ z) (add_plain b6 i)).trans hx
                        subst hA3
                        clear hi hna
                        go_wp2
                        go_roundg gk
                        case measure => omega
                        case rel => exact ⟨i + 1, congrArg (Value.int .i64) HIN.out, ⟨by have := HIL.out; omega, by have := HI.out; have := HIL.out; omega⟩, ⟨HNA.out.write HP9.out HZZ.out _ _⟩, ⟨fun _ => ⟨rfl, HNA.out.set _ _⟩⟩, ⟨by rw [World.size_setCell]; exact HS9.out⟩, ⟨HNA.out.far HX9.out (by decide) _ _⟩, ⟨HO6.out.far HNA.out _ _⟩⟩
                      · have q4 : decide ((i : Int) < (tags.length : Int)) = false := decide_eq_false (by omega)
                        have q4' : (i < tags.length) = False := eq_false hi
                        have q4'' : decide (i < tags.length) = false := decide_eq_false hi
                        clear hi HI HN6
                        have HN6 := HN6k
                        go_wp2
                        go_roundg gk2
                        case measure => omega
                        case rel => exact ⟨1, rfl, ⟨.inr rfl⟩, HP9, HN6, HS9, HX9, HO6⟩
                  · skip
                    clear HZI HN6 HO6
                    have x0 := (blk_cell HX9.out 0).trans rfl
                    go_wp2_with (first
                      | (go_at_call 31; (with_reducible refine (PX.get HP9.out HSS.out id 1).mono ?_); rintro e w14 ⟨hA, hP, hb⟩; rw [HGT.out] at hA; obtain ⟨a7, rfl, v1, v2, rfl, r1, r2⟩ := hA; rw [← HRR.out] at r1 r2 ⊢; obtain ⟨p7, n7, rfl⟩ := Kd.R_slice r1; obtain ⟨p8, n8, rfl⟩ := Kd.R_slice r2; have hba := below_alloc (Below.refl w14.heap.size w14) (.cells #[.int .u32 id, .slice p7 vec.length n7, .slice p8 tags.length n8] 54); have hbb := bel_alloc hb (.cells #[.int .u32 id, .slice p7 vec.length n7, .slice p8 tags.length n8] 54); have HR7 := Aside0.mk (Kd.R_reads' (Kd.R_below r1 hba)); have HR8 := Aside0.mk (Kd.R_reads' (Kd.R_below r2 hba)); have HB14 := Aside0.mk (bel_trans HP9.out.at0 hbb); have HX14 := Aside0.mk (blk_below HX9.out hbb); have t0 := (blk_cell HX14.out 0).trans rfl; have t1 := (blk_cell HX14.out 1).trans rfl; have t2 := (blk_cell HX14.out 2).trans rfl; clear hP hb hba hbb r1 r2 x0)
                      | (go_at_call 33; (with_reducible refine (lodestarref06_SameItem.calls 200000 id p7 n7 vec p8 n8 tags id A1 c1 vec A2 c2 tags true _ HR7.out.2.2 HR7.out.2.1 HR8.out.2.2 HR8.out.2.1 (Kd.C_below HC1.out HB14.out) HL1.out (Kd.C_below HC2.out HB14.out) HL2.out (item_f ⟨id, vec, tags⟩ HSM.out.1 HSM.out.2 (by decide))).mono ?_); rintro e w15 ⟨rfl, hb⟩; have HB15 := Aside0.mk (bel_trans HB14.out hb); clear hb))
                    go_ret
                    exact ⟨rfl, HB15.out⟩
theorem item_of {v : Value} {x : ItT} {w : World} (s : ∃ cs, v = .agg cs) (K : kitem.K w x v.cells.toList) :
    ∃ X1 n1 X2 n2, v = .agg #[.int .u32 x.1, .slice X1 x.2.1.length n1, .slice X2 x.2.2.length n2] ∧ Kd.C (Kd.int .i32) w X1 x.2.1.length x.2.1 ∧ x.2.1.length ≤ n1 ∧ Kd.C Kd.string w X2 x.2.2.length x.2.2 ∧ x.2.2.length ≤ n2 := by
  obtain ⟨cs, rfl⟩ := s
  obtain ⟨c0, c1, h, rfl, c2, c3, rfl, ⟨F1, d1, rfl, l1, g1⟩, ⟨F2, d2, rfl, l2, g2⟩⟩ := K
  exact ⟨F1, d1, F2, d2, Frame.arg_agg h, g1, l1, g2, l2⟩
theorem own_row (v1 : Value) (s1 : ∃ cs, v1 = .agg cs) (x1 : ItT) {W : World} (K1 : kitem.K W x1 v1.cells.toList) (o1 : okItem x1) (_ : World) :
    Calls Try.prog 8 #[v1] W fun e w' => e = .returned (.bool true) ∧ Below W.heap.size W w' := by
  obtain ⟨X1, n1, X2, n2, rfl, f1, l1, f2, l2⟩ := item_of s1 K1
  exact pastOwn_walk x1.1 x1.2.1 x1.2.2 X1 n1 X2 n2 W l1 f1 l2 f2 o1.1
end Go.Proofs.Ytjbakaplcjkniaa.Pa
