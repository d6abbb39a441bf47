/- Texts of this claim, one behind the other: words, walks, plain laws. No condition. -/
import Derived.Test.YtofmlajanopniaaPk5
import Derived.Deep.RegionHeld3
namespace Go.Proofs.Ytofmlajanopniaa.Li
open Go.RowKit Go.Maps Go.Proofs.YtofmlajanopniaaW.PrintWords Go.Proofs.YtofmlajanopniaaW.PrintLast Go.Proofs.YtofmlajanopniaaW.PrintMore Go.Proofs.Ytofmlajanopniaa.Q Go.Proofs.Ytofmlajanopniaa.Tk
set_option linter.unusedVariables false
set_option linter.unusedSimpArgs false
def lo.T6 : Bool × List (List Nat × List Nat) := (true, [([], []), ([0], [0]), ([], []), ([], []), ([3], [3]), ([2, 4], [2, 4]), ([], []), ([], []), ([7], [7]), ([6, 8, 5], [6, 8]), ([1, 5, 9], [1, 5, 9]), ([], []), ([11, 10, 9, 0, 1, 2, 3, 4, 5, 6, 7, 8, 9, 10, 11], [10, 11])])
def lo.B6 : List Nat := [0, 1, 0, 0, 8, 28, 0, 0, 128, 508, 1023, 0, 4095]
theorem lo.tab6 : rtab .any (opsOf Try.f3 6) = lo.T6 := by kernel_rfl
theorem lo.bits6 : waitsOk lo.T6.2 lo.B6 = true := by kernel_rfl
theorem R_own {α : Type} {d : Kd α} {e : Nat} {w : World} {base : Nat} {ok : Nat → Prop} {v : Value} {xs : List α} (h : d.R e w base ok v xs) : ∀ k, v.ownBlock = some k → base ≤ k ∧ k < w.heap.size ∧ ∃ c, w.heap[k]? = some (.cells c e (0, 0)) := by
  obtain ⟨hok, inner, hown, hr⟩ := h
  exact fun k hk => ⟨own_base hown k hk, own_lt hown k hk, own_typed hown k hk⟩
theorem blk_grownR {α : Type} {d : Kd α} {e t k : Nat} {c : Array Value} {w w1 : World} {base : Nat} {ok : Nat → Prop} {v : Value} {xs : List α} (h : w.heap[k]? = some (.cells c t (0, 0))) (hr : d.R e w base ok v xs) (hg : w.grownBy w1 v.ownBlock) (ht : e ≠ t) : w1.heap[k]? = some (.cells c t (0, 0)) :=
  (hg.block k (blk_lt h) (fun hk => by obtain ⟨_, _, c2, h2⟩ := R_own hr k hk.symm; exact ht (blk_type h2 h))).trans h
section
variable {w0 w w' : World} {g : Nat} {F : Nat → Prop} {T : Nat → Nat → Prop} {s : Gr}
theorem GT.write (h : GT w0 w g F T s) {b : Nat} (hb : w0.heap.size ≤ b) (hd : ¬ F b) (j : Nat) (u : Value) : GT w0 (w.setCell ⟨b, j, none⟩ u) g F T s :=
  h.beside (S := fun k => k = b) ((Only.refl _ _).set _ _ rfl) (fun k hk e => hd (by subst e; exact hk)) (fun k hk => by subst hk; exact hb)
theorem GT.boxT (h : GT w0 w g F T s) : F g ∧ ∃ c, w.heap[g]? = some (.cells c 84 (0, 0)) := by
  obtain ⟨φ, ψ, vL, h⟩ := h
  exact ⟨h.gF, _, h.box⟩
end
section
variable {w w' : World} {base : Nat} {F : Nat → Prop} {φ : Nat → Nat × Nat} {ψ : Nat → Nat} {i : Nat} {n : Nd} {A1 : Option Addr} {c1 : Nat} {A2 : Option Addr} {c2 r cap : Nat}
theorem NdR.write (h : NdR w base F all2 φ ψ i n A1 c1 A2 c2 r cap) {b : Nat} (hd : ¬ F b) (j : Nat) (u : Value) : NdR (w.setCell ⟨b, j, none⟩ u) base F all2 φ ψ i n A1 c1 A2 c2 r cap :=
  h.only (S := fun k => k = b) ((Only.refl _ _).set _ _ rfl) (fun k hk e => hd (by subst e; exact hk))
theorem NdR.below (h : NdR w base F all2 φ ψ i n A1 c1 A2 c2 r cap) (hb : Below w.heap.size w w') : NdR w' base F all2 φ ψ i n A1 c1 A2 c2 r cap := h.keeps (Keeps.below hb)
theorem NdR.first (h : NdR w base F all2 φ ψ i n A1 c1 A2 c2 r cap) (hl : n.links[0]? = some [1]) : ∃ b c, w.cell? ⟨r, 0, none⟩ = some (.slice (some ⟨b, 0, none⟩) 1 c) ∧ w.cell? ⟨b, 0, none⟩ = some (.int .i64 1) := by
  obtain ⟨k1, k2, k3, k4, cells, k5, k6⟩ := h.lk
  obtain ⟨u, e1, e2⟩ := k6 0 [1] hl
  have hZ := OwnZ.of_R (e2 (all2_i _ _))
  rcases hZ.2 with ⟨rfl, h0⟩ | ⟨b, cp, cur, rfl, hb, hh, hc1, hc2, hc3, hc4⟩
  · simp at h0
  · refine ⟨b, cp, (blk_cell k5 0).trans e1, ?_⟩
    obtain ⟨ad, e4, h4⟩ := OwnZ.cell hZ (i := 0) (by simp)
    injection e4 with e4
    subst e4
    rw [add_plain] at h4
    exact h4
end
theorem GT.node0 {w0 w : World} {g : Nat} {F : Nat → Prop} {s : Gr} {n : Nd} (h : GX w0 w g F s) (hs : s.Small) (hn : s.l[0]? = some n) (hi : s.there ((0 : Nat) : Int) 0 = true) : Calls Try.prog 15 #[.pointer (some ⟨g, 0, none⟩), .int .i64 0] w fun e w' => (∃ B1 d1 B2 d2 r cp φ, e = .returned (.tuple #[.agg #[.int .u32 n.id, .slice B1 n.vec.length d1, .slice B2 n.tags.length d2, .int .u64 n.fr, .int .u64 n.un, .slice (some ⟨r, 0, none⟩) n.links.length cp], .bool true]) ∧ NdR w' w.heap.size (since w w') all2 φ (fun _ => 0) 0 n B1 d1 B2 d2 r cp) ∧ Below w.heap.size w w' := GT.node_yes h hs hn hi
/-! ### Two nodes -/
def own2 (id : Int) (vec : List Int) (tags : List ByteArray) (lv : Int) : Gr := ((⟨0, []⟩ : Gr).add id vec tags lv 1).add 0 [] [] lv 1
theorem own2_there (id : Int) (vec : List Int) (tags : List ByteArray) (lv : Int) : (own2 id vec tags lv).there ((0 : Nat) : Int) ((0 : Nat) : Int) = true ∧ (own2 id vec tags lv).there ((1 : Nat) : Int) ((0 : Nat) : Int) = true := by
  constructor
  · exact there_iff.2 ⟨0, 0, _, rfl, rfl, rfl, by simp⟩
  · exact there_iff.2 ⟨1, 0, _, rfl, rfl, rfl, by simp⟩
def own2n (id : Int) (vec : List Int) (tags : List ByteArray) (lv : Int) : Nd := ⟨id, vec, tags, 1, 0, (List.replicate (clampL lv + 1) []).set 0 [1]⟩
theorem own2_link (id : Int) (vec : List Int) (tags : List ByteArray) (lv : Int) : ((own2 id vec tags lv).setL 0 0 (linked (own2 id vec tags lv) ((0 : Nat) : Int) ((1 : Nat) : Int) ((0 : Nat) : Int) 3)).l[0]? = some (own2n id vec tags lv) := by
  have ha : (own2 id vec tags lv).at_ ((0 : Nat) : Int) ((0 : Nat) : Int) = [] := at_nat (n := ⟨id, vec, tags, 1, 0, List.replicate (clampL lv + 1) []⟩) rfl (by simp)
  have hl : linked (own2 id vec tags lv) ((0 : Nat) : Int) ((1 : Nat) : Int) ((0 : Nat) : Int) 3 = [1] := by
    unfold linked
    rw [ha]
    rfl
  rw [hl]
  rfl
theorem own2_small {id : Int} {vec : List Int} {tags : List ByteArray} {lv : Int} (h1 : vec.length ≤ 100000) (h2 : tags.length ≤ 100000) : ((own2 id vec tags lv).setL 0 0 [1]).Small ∧ (own2n id vec tags lv).Sm ∧ (own2n id vec tags lv).links[0]? = some [1] := by
  have hc : clampL lv ≤ 4 := by unfold clampL; omega
  have hr : ∀ l ∈ (List.replicate (clampL lv + 1) ([] : List Int)), l.length ≤ 90000 := fun l hl => by rw [List.eq_of_mem_replicate hl]; simp
  have hs : ∀ l ∈ ((List.replicate (clampL lv + 1) ([] : List Int)).set 0 [1]), l.length ≤ 90000 := fun l hl => by
    rcases List.mem_or_eq_of_mem_set hl with h | h
    · exact hr l h
    · rw [h]; simp
  refine ⟨⟨by show 2 ≤ 90000; omega, fun i n hn => ?_⟩, ⟨h1, h2, by show ((List.replicate (clampL lv + 1) ([] : List Int)).set 0 [1]).length ≤ 1000; simp; omega, fun x hx => Nat.le_trans (hs x hx) (by omega)⟩, ?_⟩
  · match i, hn with
    | 0, hn =>
      have e : own2n id vec tags lv = n := by injection hn
      subst e
      exact ⟨h1, h2, by show 0 < ((List.replicate (clampL lv + 1) ([] : List Int)).set 0 [1]).length; simp, by show ((List.replicate (clampL lv + 1) ([] : List Int)).set 0 [1]).length ≤ 100; simp; omega, hs⟩
    | 1, hn =>
      have e : (⟨0, [], [], 1, 0, List.replicate (clampL lv + 1) []⟩ : Nd) = n := by injection hn
      subst e
      exact ⟨by simp, by simp, by simp, by show (List.replicate (clampL lv + 1) ([] : List Int)).length ≤ 100; simp; omega, hr⟩
    | i + 2, hn => cases hn
  · show ((List.replicate (clampL lv + 1) ([] : List Int)).set 0 [1])[0]? = some [1]
    simp
theorem own1_len (id : Int) (vec : List Int) (tags : List ByteArray) (lv : Int) : ((⟨0, []⟩ : Gr).add id vec tags lv 1).l.length ≤ 90000 := by show 1 ≤ 90000; omega
theorem own2_lk (id : Int) (vec : List Int) (tags : List ByteArray) (lv : Int) : (own2 id vec tags lv).setL 0 0 (linked (own2 id vec tags lv) ((0 : Nat) : Int) ((1 : Nat) : Int) ((0 : Nat) : Int) 3) = (own2 id vec tags lv).setL 0 0 [1] := by
  have ha : (own2 id vec tags lv).at_ ((0 : Nat) : Int) ((0 : Nat) : Int) = [] := at_nat (n := ⟨id, vec, tags, 1, 0, List.replicate (clampL lv + 1) []⟩) rfl (by simp)
  have hl : linked (own2 id vec tags lv) ((0 : Nat) : Int) ((1 : Nat) : Int) ((0 : Nat) : Int) 3 = [1] := by
    unfold linked
    rw [ha]
    rfl
  rw [hl]
theorem own_linked {w0 w : World} {g : Nat} {F : Nat → Prop} {id : Int} {vec : List Int} {tags : List ByteArray} {lv : Int} (h : GX w0 w g F (own2 id vec tags lv)) :
    Calls Try.prog 14 #[.pointer (some ⟨g, 0, none⟩), .int .i64 0, .int .i64 1, .int .i64 0, .int .i64 3] w fun e w' => e = .returned (.bool true) ∧ (∃ F', GX w0 w' g F' ((own2 id vec tags lv).setL 0 0 (linked (own2 id vec tags lv) ((0 : Nat) : Int) ((1 : Nat) : Int) ((0 : Nat) : Int) 3)) ∧ ∀ k, F' k → more F w w' k) ∧ Only F w w' :=
  GT.link_yes h (by show (0 : Int) ≤ 0; omega) (by show 2 ≤ 100000; omega) (ka := 0) (kb := 1) (j := 0) (n := ⟨id, vec, tags, 1, 0, List.replicate (clampL lv + 1) []⟩) (ls := []) rfl (by simp) (by simp) 3 (own2_there id vec tags lv).1 (own2_there id vec tags lv).2 (by omega)
set_option maxHeartbeats 32000000 in
set_option maxRecDepth 100000 in
theorem linksOwn_walk (id : Int) (vec : List Int) (tags : List ByteArray) (A1 : Option Addr) (c1 : Nat) (A2 : Option Addr) (c2 : Nat) (lv : Int) (w : World) (l1 : vec.length ≤ c1) (h1 : Kd.C (Kd.int .i32) w A1 vec.length vec) (l2 : tags.length ≤ c2) (h2 : Kd.C Kd.string w A2 tags.length tags) :
    Calls Try.prog 3 #[.agg #[.int .u32 id, .slice A1 vec.length c1, .slice A2 tags.length c2], .int .i64 lv] w fun e w' => e = .returned (.bool true) ∧ Below w.heap.size w w' := by
  have hu4 := Try.underlying26
  have hu2 := Try.underlying37
  have HC1 := Aside0.mk h1
  have HC2 := Aside0.mk h2
  have HL1 := Aside0.mk l1
  have HL2 := Aside0.mk l2
  have HBX0 := Aside0.mk (heap_alloc_new w (.cells #[.int .u32 id, .slice A1 vec.length c1, .slice A2 tags.length c2] 26))
  have HBA0 := Aside0.mk (below_alloc (Below.refl w.heap.size w) (.cells #[.int .u32 id, .slice A1 vec.length c1, .slice A2 tags.length c2] 26))
  clear h1 h2 l1 l2
  go_enter Try.func3, Try.ntmps3
  go_wp2_with (first
    | (go_at_call 10; (with_reducible refine (alive_calls _).mono ?_); rintro e w1 ⟨rfl, hb⟩; have HB1 := Aside0.mk (bel_trans HBA0.out hb); have HX1 := Aside0.mk (blk_below HBX0.out hb); have b0 := (blk_cell HX1.out 0).trans rfl; have b1 := (blk_cell HX1.out 1).trans rfl; have b2 := (blk_cell HX1.out 2).trans rfl; clear hb)
    | (go_at_call 11; (with_reducible refine (small_calls id vec tags A1 c1 A2 c2 _ HL1.out (Kd.C_below HC1.out HB1.out) HL2.out (Kd.C_below HC2.out HB1.out)).mono ?_); rintro e w2 ⟨⟨r, rfl, hr⟩, hb⟩; have HB2 := Aside0.mk (bel_trans HB1.out hb); have HX2 := Aside0.mk (blk_below HX1.out hb); clear hb b0 b1 b2; rcases r with _ | _; clear hr; rotate_left; (have HSM := Aside0.mk (hr rfl)); clear hr; rotate_right)
    | (go_at_call 12; (with_reducible refine (gnew_calls 0 _).mono ?_); rintro e w3 ⟨rfl, hw3⟩; go_must (have HP3 := Aside0.mk (show GX w w3 w2.heap.size (fun k => k = w2.heap.size) ⟨0, []⟩ by rw [hw3]; exact GT.new HB2.out 0); have HX3 := Aside0.mk (show w3.heap[w.heap.size]? = some (.cells #[.int .u32 id, .slice A1 vec.length c1, .slice A2 tags.length c2] 26 (0, 0)) by rw [hw3]; exact blk_below HX2.out (below_alloc (Below.refl _ _) _)); clear hw3)))
  · go_ret
    exact ⟨rfl, HB2.out⟩
  · obtain ⟨bx, hbx⟩ : ∃ z, w.heap.size = z := ⟨_, rfl⟩
    obtain ⟨g, hg⟩ : ∃ z, w2.heap.size = z := ⟨_, rfl⟩
    have HBXE := Aside0.mk hbx
    rw [hbx] at HX3
    rw [hg] at HP3
    rw [hbx, hg]
    clear hbx hg HBX0 HBA0 HX1 HX2 HB1 HB2
    have HP := Aside0.mk (HP3.out.below (below_drew (Below.refl _ _)))
    have HBo := Aside0.mk HP.out.at0
    have HX := Aside0.mk (blk_below HX3.out (below_drew (Below.refl _ _)))
    clear HP3 HX3
    refine start_ (n := 13) (S := fun w' => w'.cell? ⟨bx, 0, none⟩ = some (.int .u32 id) ∧ w'.cell? ⟨bx, 1, none⟩ = some (.slice A1 vec.length c1) ∧ w'.cell? ⟨bx, 2, none⟩ = some (.slice A2 tags.length c2)) (ds := [12]) #[false, false, false, false, false, false, false, false, false, false, false, false, false] (by kernel_rfl) rfl rfl ⟨((blk_cell HX.out 0).trans rfl), ((blk_cell HX.out 1).trans rfl), ((blk_cell HX.out 2).trans rfl)⟩ (fun hHeld => ?_)
    refine with_tabW lo.tab6 lo.bits6 (fun HT_ HW_ => ?_)
    generalize w3.drew = wd at HP HBo HX hHeld ⊢
    have HB := Aside0.mk (Below.refl wd.heap.size wd)
    refine pure_ (i := 0) (N := some 23) (v := ?_) (a' := ?_) #[true, false, false, false, false, false, false, false, false, false, false, false, false] rfl rfl (any_of HT_.out (by kernel_rfl)) (fun _ _ _ h => h) (Or.inl ⟨by rfl, ?_⟩) ?_ ?_
    rotate_left
    · intro w'
      go_simp
      with_reducible rfl
    rotate_left
    · simp only [Act.put, List.setIfInBounds_toArray, List.set_cons_zero, List.set_cons_succ, i64_w, i32_w]
      rfl
    refine pure_ (i := 3) (N := some 26) (v := ?_) (a' := ?_) #[true, false, false, true, false, false, false, false, false, false, false, false, false] rfl rfl (any_of HT_.out (by kernel_rfl)) (fun _ _ _ h => h) (Or.inl ⟨by rfl, ?_⟩) ?_ ?_
    rotate_left
    · intro w'
      go_simp
      with_reducible rfl
    rotate_left
    · simp only [Act.put, List.setIfInBounds_toArray, List.set_cons_zero, List.set_cons_succ, i64_w, i32_w]
      rfl
    refine pure_ (i := 7) (N := some 30) (v := ?_) (a' := ?_) #[true, false, false, true, false, false, false, true, false, false, false, false, false] rfl rfl (any_of HT_.out (by kernel_rfl)) (fun _ _ _ h => h) (Or.inl ⟨by rfl, ?_⟩) ?_ ?_
    rotate_left
    · intro w'
      go_simp
      with_reducible rfl
    rotate_left
    · simp only [Act.put, List.setIfInBounds_toArray, List.set_cons_zero, List.set_cons_succ, i64_w, i32_w]
      rfl
    refine take_ (i := 1) (N := some 24) (v := ?_) (a' := ?_) #[true, true, false, true, false, false, false, true, false, false, false, false, false] rfl rfl (take_ofW HT_.out HW_.out (by kernel_rfl)) (fun _ _ _ h => h) (Or.inl ⟨by rfl, ?_⟩) hHeld ?_ ?_
    rotate_left
    · rintro w' ⟨s0, s1, s2⟩
      go_simp
      with_reducible rfl
    rotate_left
    · simp only [Act.put, List.setIfInBounds_toArray, List.set_cons_zero, List.set_cons_succ, i64_w, i32_w]
      rfl
    refine take_ (i := 4) (N := some 27) (v := ?_) (a' := ?_) #[true, true, false, true, true, false, false, true, false, false, false, false, false] rfl rfl (take_ofW HT_.out HW_.out (by kernel_rfl)) (fun _ _ _ h => h) (Or.inl ⟨by rfl, ?_⟩) hHeld ?_ ?_
    rotate_left
    · rintro w' ⟨s0, s1, s2⟩
      go_simp
      with_reducible rfl
    rotate_left
    · simp only [Act.put, List.setIfInBounds_toArray, List.set_cons_zero, List.set_cons_succ, i64_w, i32_w]
      rfl
    refine take_ (i := 8) (N := some 31) (v := ?_) (a' := ?_) #[true, true, false, true, true, false, false, true, true, false, false, false, false] rfl rfl (take_ofW HT_.out HW_.out (by kernel_rfl)) (fun _ _ _ h => h) (Or.inl ⟨by rfl, ?_⟩) hHeld ?_ ?_
    rotate_left
    · rintro w' ⟨s0, s1, s2⟩
      go_simp
      with_reducible rfl
    rotate_left
    · simp only [Act.put, List.setIfInBounds_toArray, List.set_cons_zero, List.set_cons_succ, i64_w, i32_w]
      rfl
    refine join_ (σ := Value × Value × Value × Value × Nat) 1 #[true, true, true, true, true, true, true, true, true, true, true, true, false] (fun s => [(25, s.1), (28, s.2.1), (29, s.2.2.1), (32, s.2.2.2.1), (6, .pointer (some ⟨s.2.2.2.2, 0, none⟩)), (33, .agg #[.int .u32 id, s.2.1, s.2.2.2.1])]) (fun s w' => (Kd.int .i32).R 21 w' wd.heap.size (fun _ => True) s.2.1 vec ∧ Kd.string.R 9 w' wd.heap.size (fun _ => True) s.2.2.2.1 tags ∧ (World.heap w')[s.2.2.2.2]? = some (.cells #[.int .u32 0, .slice none 0 0, .slice none 0 0] 26 (0, 0)) ∧ wd.heap.size ≤ s.2.2.2.2 ∧ Below wd.heap.size wd w') ?_ ?_
    rotate_left
    · intro hCont
      refine three_ (i := 2) (j := 6) (k := 11) (Ni := some 25) (Nj := some 29) (Nk := some 6) #[true, true, true, true, true, false, false, true, true, false, false, false, false] #[true, true, false, true, true, false, true, true, true, false, false, false, false] #[true, true, false, true, true, false, false, true, true, false, false, true, false] rfl rfl rfl rfl rfl rfl (three_of HT_.out (by kernel_rfl)) (by decide) (by decide) (by decide) (fun K hK => ?_) (fun K hK => ?_) (fun K hK => ?_)
      · skip
        refine value_ (w1 := ?_) (v := ?_) (by rfl) rfl ?_ ?_
        rotate_left 2
        · go_simp
          constructor
          · rfl
          · rfl
        have H1 := Aside0.mk (by have h := R_empty (Kd.int .i32) 21 wd wd.heap.size HB.out.size; (try simp only [World.size_alloc] at h); exact h)
        have NHB := Aside0.mk (bel_alloc HB.out (.cells #[] 21))
        clear HB
        have HB := NHB
        clear NHB
        refine hK.out _ _ ⟨((blk_cell (blk_below HX.out HB.out) 0).trans rfl), ((blk_cell (blk_below HX.out HB.out) 1).trans rfl), ((blk_cell (blk_below HX.out HB.out) 2).trans rfl)⟩ (fun hHeld => ?_)
        clear hK K
        refine norm_ (a' := ?_) ?_ ?_
        rotate_left
        · show Act.put _ (some 25) _ = _
          simp only [Act.put, List.setIfInBounds_toArray, List.set_cons_zero, List.set_cons_succ, i64_w, i32_w]
          rfl
        refine three_ (i := 5) (j := 6) (k := 11) (Ni := some 28) (Nj := some 29) (Nk := some 6) #[true, true, true, true, true, true, false, true, true, false, false, false, false] #[true, true, true, true, true, false, true, true, true, false, false, false, false] #[true, true, true, true, true, false, false, true, true, false, false, true, false] rfl rfl rfl rfl rfl rfl (three_of HT_.out (by kernel_rfl)) (by decide) (by decide) (by decide) (fun K hK => ?_) (fun K hK => ?_) (fun K hK => ?_)
        · skip
          refine Kd.R_append_rows_step (Kd.int .i32) wd.heap.size (by rfl) (.tmp 25) (.tmp 27) 23 21 (.int .i32 0) 4 rfl Try.underlying23 (by kernel_rfl) (by rfl) (by decide) (by decide) _ [] vec A1 vec.length c1 (fun _ => True) (fun _ => False) rfl rfl H1.out (Kd.C_below HC1.out (bel_trans HBo.out HB.out)) (fun _ _ h => h) (fun k hk => hk.elim) (fun _ _ => trivial) HB.out HB.out.size (by have := HSM.out; show (0 + _) * 4 ≤ _; omega) ?_
          intro v4 w4 ha hb hg hat
          rw [List.nil_append] at ha
          have NH1 := Aside0.mk ha
          have NHB := Aside0.mk hb
          clear ha hb hg hat
          clear H1 HB
          have H1 := NH1; have HB := NHB
          clear NH1 NHB
          obtain ⟨A3, c3, rfl⟩ := Kd.R_slice H1.out
          refine hK.out _ _ ⟨((blk_cell (blk_below HX.out HB.out) 0).trans rfl), ((blk_cell (blk_below HX.out HB.out) 1).trans rfl), ((blk_cell (blk_below HX.out HB.out) 2).trans rfl)⟩ (fun hHeld => ?_)
          clear hK K
          refine norm_ (a' := ?_) ?_ ?_
          rotate_left
          · show Act.put _ (some 28) _ = _
            simp only [Act.put, List.setIfInBounds_toArray, List.set_cons_zero, List.set_cons_succ, i64_w, i32_w]
            rfl
          refine two_ (i := 6) (j := 11) (Ni := some 29) (Nj := some 6) #[true, true, true, true, true, true, true, true, true, false, false, false, false] #[true, true, true, true, true, true, false, true, true, false, false, true, false] rfl rfl rfl rfl (two_of HT_.out (by kernel_rfl)) (by decide) (by decide) (fun K hK => ?_) (fun K hK => ?_)
          · skip
            refine value_ (w1 := ?_) (v := ?_) (by rfl) rfl ?_ ?_
            rotate_left 2
            · go_simp
              constructor
              · rfl
              · rfl
            have H2 := Aside0.mk (by have h := R_empty Kd.string 9 w4 wd.heap.size HB.out.size; (try simp only [World.size_alloc] at h); exact h)
            have NHB := Aside0.mk (bel_alloc HB.out (.cells #[] 9))
            have NH1 := Aside0.mk (Kd.R_alloc H1.out (.cells #[] 9))
            clear HB H1
            have HB := NHB; have H1 := NH1
            clear NHB NH1
            refine hK.out _ _ ⟨((blk_cell (blk_below HX.out HB.out) 0).trans rfl), ((blk_cell (blk_below HX.out HB.out) 1).trans rfl), ((blk_cell (blk_below HX.out HB.out) 2).trans rfl)⟩ (fun hHeld => ?_)
            clear hK K
            refine norm_ (a' := ?_) ?_ ?_
            rotate_left
            · show Act.put _ (some 29) _ = _
              simp only [Act.put, List.setIfInBounds_toArray, List.set_cons_zero, List.set_cons_succ, i64_w, i32_w]
              rfl
            refine two_ (i := 9) (j := 11) (Ni := some 32) (Nj := some 6) #[true, true, true, true, true, true, true, true, true, true, false, false, false] #[true, true, true, true, true, true, true, true, true, false, false, true, false] rfl rfl rfl rfl (two_of HT_.out (by kernel_rfl)) (by decide) (by decide) (fun K hK => ?_) (fun K hK => ?_)
            · skip
              refine Kd.R_append_rows_step Kd.string wd.heap.size (by rfl) (.tmp 29) (.tmp 31) 24 9 (.string ByteArray.empty) 16 rfl Try.underlying24 (by kernel_rfl) (by rfl) (by decide) (by decide) _ [] tags A2 tags.length c2 (fun _ => True) (fun _ => False) rfl rfl H2.out (Kd.C_below HC2.out (bel_trans HBo.out HB.out)) (fun _ _ h => h) (fun k hk => hk.elim) (fun _ _ => trivial) HB.out HB.out.size (by have := HSM.out; show (0 + _) * 16 ≤ _; omega) ?_
              intro v6 w6 ha hb hg hat
              rw [List.nil_append] at ha
              have NH2 := Aside0.mk ha
              have NHB := Aside0.mk hb
              have NH1 := Aside0.mk (Kd.R_over H1.out H2.out (by decide) hg)
              clear ha hb hg hat
              clear H2 HB H1
              have H2 := NH2; have HB := NHB; have H1 := NH1
              clear NH2 NHB NH1
              obtain ⟨A4, c4, rfl⟩ := Kd.R_slice H2.out
              refine hK.out _ _ ⟨((blk_cell (blk_below HX.out HB.out) 0).trans rfl), ((blk_cell (blk_below HX.out HB.out) 1).trans rfl), ((blk_cell (blk_below HX.out HB.out) 2).trans rfl)⟩ (fun hHeld => ?_)
              clear hK K
              refine norm_ (a' := ?_) ?_ ?_
              rotate_left
              · show Act.put _ (some 32) _ = _
                simp only [Act.put, List.setIfInBounds_toArray, List.set_cons_zero, List.set_cons_succ, i64_w, i32_w]
                rfl
              refine pure_ (i := 10) (N := some 33) (v := ?_) (a' := ?_) #[true, true, true, true, true, true, true, true, true, true, true, false, false] rfl rfl (any_of HT_.out (by kernel_rfl)) (fun _ _ _ h => h) (Or.inl ⟨by rfl, ?_⟩) ?_ ?_
              rotate_left
              · intro w'
                go_simp
                with_reducible rfl
              rotate_left
              · simp only [Act.put, List.setIfInBounds_toArray, List.set_cons_zero, List.set_cons_succ, i64_w, i32_w]
                rfl
              refine one_ (i := 11) (N := some 6) #[true, true, true, true, true, true, true, true, true, true, true, true, false] rfl rfl (one_of HT_.out (by kernel_rfl)) (by decide) (fun K hK => ?_)
              refine value_ (w1 := ?_) (v := ?_) (by rfl) rfl ?_ ?_
              rotate_left 2
              · go_simp
                constructor
                · rfl
                · rfl
              have HY := Aside0.mk (by have h := heap_alloc_new w6 (.cells #[.int .u32 0, .slice none 0 0, .slice none 0 0] 26); (try simp only [World.size_alloc] at h); exact h)
              have HYN := Aside0.mk (by have h := HB.out.size; (try simp only [World.size_alloc] at h); exact h)
              have NHB := Aside0.mk (bel_alloc HB.out (.cells #[.int .u32 0, .slice none 0 0, .slice none 0 0] 26))
              have NH1 := Aside0.mk (Kd.R_alloc H1.out (.cells #[.int .u32 0, .slice none 0 0, .slice none 0 0] 26))
              have NH2 := Aside0.mk (Kd.R_alloc H2.out (.cells #[.int .u32 0, .slice none 0 0, .slice none 0 0] 26))
              clear HB H1 H2
              have HB := NHB; have H1 := NH1; have H2 := NH2
              clear NHB NH1 NH2
              refine hK.out _ _ ⟨((blk_cell (blk_below HX.out HB.out) 0).trans rfl), ((blk_cell (blk_below HX.out HB.out) 1).trans rfl), ((blk_cell (blk_below HX.out HB.out) 2).trans rfl)⟩ (fun hHeld => ?_)
              clear hK K
              refine norm_ (a' := ?_) ?_ ?_
              rotate_left
              · show Act.put _ (some 6) _ = _
                simp only [Act.put, List.setIfInBounds_toArray, List.set_cons_zero, List.set_cons_succ, i64_w, i32_w]
                rfl
              exact norm_ (by simp only [Go.Proofs.YtofmlajanopniaaW.PrintLast.putAll, Act.put, List.setIfInBounds_toArray, List.set_cons_zero, List.set_cons_succ]) (hCont (.slice (some ⟨(World.heap wd).size, 0, none⟩) 0 0, .slice A3 vec.length c3, .slice (some ⟨(World.heap w4).size, 0, none⟩) 0 0, .slice A4 tags.length c4, (World.heap w6).size) _ ⟨H1.out, H2.out, HY.out, HYN.out, HB.out⟩)
            · skip
              refine value_ (w1 := ?_) (v := ?_) (by rfl) rfl ?_ ?_
              rotate_left 2
              · go_simp
                constructor
                · rfl
                · rfl
              have HY := Aside0.mk (by have h := heap_alloc_new (World.alloc w4 (.cells #[] 9)) (.cells #[.int .u32 0, .slice none 0 0, .slice none 0 0] 26); (try simp only [World.size_alloc] at h); exact h)
              have HYN := Aside0.mk (by have h := HB.out.size; (try simp only [World.size_alloc] at h); exact h)
              have NHB := Aside0.mk (bel_alloc HB.out (.cells #[.int .u32 0, .slice none 0 0, .slice none 0 0] 26))
              have NH1 := Aside0.mk (Kd.R_alloc H1.out (.cells #[.int .u32 0, .slice none 0 0, .slice none 0 0] 26))
              have NH2 := Aside0.mk (Kd.R_alloc H2.out (.cells #[.int .u32 0, .slice none 0 0, .slice none 0 0] 26))
              clear HB H1 H2
              have HB := NHB; have H1 := NH1; have H2 := NH2
              clear NHB NH1 NH2
              refine hK.out _ _ ⟨((blk_cell (blk_below HX.out HB.out) 0).trans rfl), ((blk_cell (blk_below HX.out HB.out) 1).trans rfl), ((blk_cell (blk_below HX.out HB.out) 2).trans rfl)⟩ (fun hHeld => ?_)
              clear hK K
              refine norm_ (a' := ?_) ?_ ?_
              rotate_left
              · show Act.put _ (some 6) _ = _
                simp only [Act.put, List.setIfInBounds_toArray, List.set_cons_zero, List.set_cons_succ, i64_w, i32_w]
                rfl
              refine one_ (i := 9) (N := some 32) #[true, true, true, true, true, true, true, true, true, true, false, true, false] rfl rfl (one_of HT_.out (by kernel_rfl)) (by decide) (fun K hK => ?_)
              refine Kd.R_append_rows_step Kd.string wd.heap.size (by rfl) (.tmp 29) (.tmp 31) 24 9 (.string ByteArray.empty) 16 rfl Try.underlying24 (by kernel_rfl) (by rfl) (by decide) (by decide) _ [] tags A2 tags.length c2 (fun _ => True) (fun _ => False) rfl rfl H2.out (Kd.C_below HC2.out (bel_trans HBo.out HB.out)) (fun _ _ h => h) (fun k hk => hk.elim) (fun _ _ => trivial) HB.out HB.out.size (by have := HSM.out; show (0 + _) * 16 ≤ _; omega) ?_
              intro v6 w6 ha hb hg hat
              rw [List.nil_append] at ha
              have NH2 := Aside0.mk ha
              have NHB := Aside0.mk hb
              have NH1 := Aside0.mk (Kd.R_over H1.out H2.out (by decide) hg)
              have NHY := Aside0.mk (blk_grownR HY.out H2.out hg (by decide))
              clear ha hb hg hat
              clear H2 HB H1 HY
              have H2 := NH2; have HB := NHB; have H1 := NH1; have HY := NHY
              clear NH2 NHB NH1 NHY
              obtain ⟨A4, c4, rfl⟩ := Kd.R_slice H2.out
              refine hK.out _ _ ⟨((blk_cell (blk_below HX.out HB.out) 0).trans rfl), ((blk_cell (blk_below HX.out HB.out) 1).trans rfl), ((blk_cell (blk_below HX.out HB.out) 2).trans rfl)⟩ (fun hHeld => ?_)
              clear hK K
              refine norm_ (a' := ?_) ?_ ?_
              rotate_left
              · show Act.put _ (some 32) _ = _
                simp only [Act.put, List.setIfInBounds_toArray, List.set_cons_zero, List.set_cons_succ, i64_w, i32_w]
                rfl
              refine pure_ (i := 10) (N := some 33) (v := ?_) (a' := ?_) #[true, true, true, true, true, true, true, true, true, true, true, true, false] rfl rfl (any_of HT_.out (by kernel_rfl)) (fun _ _ _ h => h) (Or.inl ⟨by rfl, ?_⟩) ?_ ?_
              rotate_left
              · intro w'
                go_simp
                with_reducible rfl
              rotate_left
              · simp only [Act.put, List.setIfInBounds_toArray, List.set_cons_zero, List.set_cons_succ, i64_w, i32_w]
                rfl
              exact norm_ (by simp only [Go.Proofs.YtofmlajanopniaaW.PrintLast.putAll, Act.put, List.setIfInBounds_toArray, List.set_cons_zero, List.set_cons_succ]) (hCont (.slice (some ⟨(World.heap wd).size, 0, none⟩) 0 0, .slice A3 vec.length c3, .slice (some ⟨(World.heap w4).size, 0, none⟩) 0 0, .slice A4 tags.length c4, ((World.heap w4).size + 1)) _ ⟨H1.out, H2.out, HY.out, HYN.out, HB.out⟩)
          · skip
            refine value_ (w1 := ?_) (v := ?_) (by rfl) rfl ?_ ?_
            rotate_left 2
            · go_simp
              constructor
              · rfl
              · rfl
            have HY := Aside0.mk (by have h := heap_alloc_new w4 (.cells #[.int .u32 0, .slice none 0 0, .slice none 0 0] 26); (try simp only [World.size_alloc] at h); exact h)
            have HYN := Aside0.mk (by have h := HB.out.size; (try simp only [World.size_alloc] at h); exact h)
            have NHB := Aside0.mk (bel_alloc HB.out (.cells #[.int .u32 0, .slice none 0 0, .slice none 0 0] 26))
            have NH1 := Aside0.mk (Kd.R_alloc H1.out (.cells #[.int .u32 0, .slice none 0 0, .slice none 0 0] 26))
            clear HB H1
            have HB := NHB; have H1 := NH1
            clear NHB NH1
            refine hK.out _ _ ⟨((blk_cell (blk_below HX.out HB.out) 0).trans rfl), ((blk_cell (blk_below HX.out HB.out) 1).trans rfl), ((blk_cell (blk_below HX.out HB.out) 2).trans rfl)⟩ (fun hHeld => ?_)
            clear hK K
            refine norm_ (a' := ?_) ?_ ?_
            rotate_left
            · show Act.put _ (some 6) _ = _
              simp only [Act.put, List.setIfInBounds_toArray, List.set_cons_zero, List.set_cons_succ, i64_w, i32_w]
              rfl
            refine one_ (i := 6) (N := some 29) #[true, true, true, true, true, true, true, true, true, false, false, true, false] rfl rfl (one_of HT_.out (by kernel_rfl)) (by decide) (fun K hK => ?_)
            refine value_ (w1 := ?_) (v := ?_) (by rfl) rfl ?_ ?_
            rotate_left 2
            · go_simp
              constructor
              · rfl
              · rfl
            have H2 := Aside0.mk (by have h := R_empty Kd.string 9 (World.alloc w4 (.cells #[.int .u32 0, .slice none 0 0, .slice none 0 0] 26)) wd.heap.size HB.out.size; (try simp only [World.size_alloc] at h); exact h)
            have NHB := Aside0.mk (bel_alloc HB.out (.cells #[] 9))
            have NH1 := Aside0.mk (Kd.R_alloc H1.out (.cells #[] 9))
            have NHY := Aside0.mk (blk_alloc HY.out (.cells #[] 9))
            clear HB H1 HY
            have HB := NHB; have H1 := NH1; have HY := NHY
            clear NHB NH1 NHY
            refine hK.out _ _ ⟨((blk_cell (blk_below HX.out HB.out) 0).trans rfl), ((blk_cell (blk_below HX.out HB.out) 1).trans rfl), ((blk_cell (blk_below HX.out HB.out) 2).trans rfl)⟩ (fun hHeld => ?_)
            clear hK K
            refine norm_ (a' := ?_) ?_ ?_
            rotate_left
            · show Act.put _ (some 29) _ = _
              simp only [Act.put, List.setIfInBounds_toArray, List.set_cons_zero, List.set_cons_succ, i64_w, i32_w]
              rfl
            refine one_ (i := 9) (N := some 32) #[true, true, true, true, true, true, true, true, true, true, false, true, false] rfl rfl (one_of HT_.out (by kernel_rfl)) (by decide) (fun K hK => ?_)
            refine Kd.R_append_rows_step Kd.string wd.heap.size (by rfl) (.tmp 29) (.tmp 31) 24 9 (.string ByteArray.empty) 16 rfl Try.underlying24 (by kernel_rfl) (by rfl) (by decide) (by decide) _ [] tags A2 tags.length c2 (fun _ => True) (fun _ => False) rfl rfl H2.out (Kd.C_below HC2.out (bel_trans HBo.out HB.out)) (fun _ _ h => h) (fun k hk => hk.elim) (fun _ _ => trivial) HB.out HB.out.size (by have := HSM.out; show (0 + _) * 16 ≤ _; omega) ?_
            intro v6 w6 ha hb hg hat
            rw [List.nil_append] at ha
            have NH2 := Aside0.mk ha
            have NHB := Aside0.mk hb
            have NH1 := Aside0.mk (Kd.R_over H1.out H2.out (by decide) hg)
            have NHY := Aside0.mk (blk_grownR HY.out H2.out hg (by decide))
            clear ha hb hg hat
            clear H2 HB H1 HY
            have H2 := NH2; have HB := NHB; have H1 := NH1; have HY := NHY
            clear NH2 NHB NH1 NHY
            obtain ⟨A4, c4, rfl⟩ := Kd.R_slice H2.out
            refine hK.out _ _ ⟨((blk_cell (blk_below HX.out HB.out) 0).trans rfl), ((blk_cell (blk_below HX.out HB.out) 1).trans rfl), ((blk_cell (blk_below HX.out HB.out) 2).trans rfl)⟩ (fun hHeld => ?_)
            clear hK K
            refine norm_ (a' := ?_) ?_ ?_
            rotate_left
            · show Act.put _ (some 32) _ = _
              simp only [Act.put, List.setIfInBounds_toArray, List.set_cons_zero, List.set_cons_succ, i64_w, i32_w]
              rfl
            refine pure_ (i := 10) (N := some 33) (v := ?_) (a' := ?_) #[true, true, true, true, true, true, true, true, true, true, true, true, false] rfl rfl (any_of HT_.out (by kernel_rfl)) (fun _ _ _ h => h) (Or.inl ⟨by rfl, ?_⟩) ?_ ?_
            rotate_left
            · intro w'
              go_simp
              with_reducible rfl
            rotate_left
            · simp only [Act.put, List.setIfInBounds_toArray, List.set_cons_zero, List.set_cons_succ, i64_w, i32_w]
              rfl
            exact norm_ (by simp only [Go.Proofs.YtofmlajanopniaaW.PrintLast.putAll, Act.put, List.setIfInBounds_toArray, List.set_cons_zero, List.set_cons_succ]) (hCont (.slice (some ⟨(World.heap wd).size, 0, none⟩) 0 0, .slice A3 vec.length c3, .slice (some ⟨((World.heap w4).size + 1), 0, none⟩) 0 0, .slice A4 tags.length c4, (World.heap w4).size) _ ⟨H1.out, H2.out, HY.out, HYN.out, HB.out⟩)
        · skip
          refine value_ (w1 := ?_) (v := ?_) (by rfl) rfl ?_ ?_
          rotate_left 2
          · go_simp
            constructor
            · rfl
            · rfl
          have H2 := Aside0.mk (by have h := R_empty Kd.string 9 (World.alloc wd (.cells #[] 21)) wd.heap.size HB.out.size; (try simp only [World.size_alloc] at h); exact h)
          have NHB := Aside0.mk (bel_alloc HB.out (.cells #[] 9))
          have NH1 := Aside0.mk (Kd.R_alloc H1.out (.cells #[] 9))
          clear HB H1
          have HB := NHB; have H1 := NH1
          clear NHB NH1
          refine hK.out _ _ ⟨((blk_cell (blk_below HX.out HB.out) 0).trans rfl), ((blk_cell (blk_below HX.out HB.out) 1).trans rfl), ((blk_cell (blk_below HX.out HB.out) 2).trans rfl)⟩ (fun hHeld => ?_)
          clear hK K
          refine norm_ (a' := ?_) ?_ ?_
          rotate_left
          · show Act.put _ (some 29) _ = _
            simp only [Act.put, List.setIfInBounds_toArray, List.set_cons_zero, List.set_cons_succ, i64_w, i32_w]
            rfl
          refine two_ (i := 5) (j := 11) (Ni := some 28) (Nj := some 6) #[true, true, true, true, true, true, true, true, true, false, false, false, false] #[true, true, true, true, true, false, true, true, true, false, false, true, false] rfl rfl rfl rfl (two_of HT_.out (by kernel_rfl)) (by decide) (by decide) (fun K hK => ?_) (fun K hK => ?_)
          · skip
            refine Kd.R_append_rows_step (Kd.int .i32) wd.heap.size (by rfl) (.tmp 25) (.tmp 27) 23 21 (.int .i32 0) 4 rfl Try.underlying23 (by kernel_rfl) (by rfl) (by decide) (by decide) _ [] vec A1 vec.length c1 (fun _ => True) (fun _ => False) rfl rfl H1.out (Kd.C_below HC1.out (bel_trans HBo.out HB.out)) (fun _ _ h => h) (fun k hk => hk.elim) (fun _ _ => trivial) HB.out HB.out.size (by have := HSM.out; show (0 + _) * 4 ≤ _; omega) ?_
            intro v4 w4 ha hb hg hat
            rw [List.nil_append] at ha
            have NH1 := Aside0.mk ha
            have NHB := Aside0.mk hb
            have NH2 := Aside0.mk (Kd.R_over H2.out H1.out (by decide) hg)
            clear ha hb hg hat
            clear H1 HB H2
            have H1 := NH1; have HB := NHB; have H2 := NH2
            clear NH1 NHB NH2
            obtain ⟨A3, c3, rfl⟩ := Kd.R_slice H1.out
            refine hK.out _ _ ⟨((blk_cell (blk_below HX.out HB.out) 0).trans rfl), ((blk_cell (blk_below HX.out HB.out) 1).trans rfl), ((blk_cell (blk_below HX.out HB.out) 2).trans rfl)⟩ (fun hHeld => ?_)
            clear hK K
            refine norm_ (a' := ?_) ?_ ?_
            rotate_left
            · show Act.put _ (some 28) _ = _
              simp only [Act.put, List.setIfInBounds_toArray, List.set_cons_zero, List.set_cons_succ, i64_w, i32_w]
              rfl
            refine two_ (i := 9) (j := 11) (Ni := some 32) (Nj := some 6) #[true, true, true, true, true, true, true, true, true, true, false, false, false] #[true, true, true, true, true, true, true, true, true, false, false, true, false] rfl rfl rfl rfl (two_of HT_.out (by kernel_rfl)) (by decide) (by decide) (fun K hK => ?_) (fun K hK => ?_)
            · skip
              refine Kd.R_append_rows_step Kd.string wd.heap.size (by rfl) (.tmp 29) (.tmp 31) 24 9 (.string ByteArray.empty) 16 rfl Try.underlying24 (by kernel_rfl) (by rfl) (by decide) (by decide) _ [] tags A2 tags.length c2 (fun _ => True) (fun _ => False) rfl rfl H2.out (Kd.C_below HC2.out (bel_trans HBo.out HB.out)) (fun _ _ h => h) (fun k hk => hk.elim) (fun _ _ => trivial) HB.out HB.out.size (by have := HSM.out; show (0 + _) * 16 ≤ _; omega) ?_
              intro v6 w6 ha hb hg hat
              rw [List.nil_append] at ha
              have NH2 := Aside0.mk ha
              have NHB := Aside0.mk hb
              have NH1 := Aside0.mk (Kd.R_over H1.out H2.out (by decide) hg)
              clear ha hb hg hat
              clear H2 HB H1
              have H2 := NH2; have HB := NHB; have H1 := NH1
              clear NH2 NHB NH1
              obtain ⟨A4, c4, rfl⟩ := Kd.R_slice H2.out
              refine hK.out _ _ ⟨((blk_cell (blk_below HX.out HB.out) 0).trans rfl), ((blk_cell (blk_below HX.out HB.out) 1).trans rfl), ((blk_cell (blk_below HX.out HB.out) 2).trans rfl)⟩ (fun hHeld => ?_)
              clear hK K
              refine norm_ (a' := ?_) ?_ ?_
              rotate_left
              · show Act.put _ (some 32) _ = _
                simp only [Act.put, List.setIfInBounds_toArray, List.set_cons_zero, List.set_cons_succ, i64_w, i32_w]
                rfl
              refine pure_ (i := 10) (N := some 33) (v := ?_) (a' := ?_) #[true, true, true, true, true, true, true, true, true, true, true, false, false] rfl rfl (any_of HT_.out (by kernel_rfl)) (fun _ _ _ h => h) (Or.inl ⟨by rfl, ?_⟩) ?_ ?_
              rotate_left
              · intro w'
                go_simp
                with_reducible rfl
              rotate_left
              · simp only [Act.put, List.setIfInBounds_toArray, List.set_cons_zero, List.set_cons_succ, i64_w, i32_w]
                rfl
              refine one_ (i := 11) (N := some 6) #[true, true, true, true, true, true, true, true, true, true, true, true, false] rfl rfl (one_of HT_.out (by kernel_rfl)) (by decide) (fun K hK => ?_)
              refine value_ (w1 := ?_) (v := ?_) (by rfl) rfl ?_ ?_
              rotate_left 2
              · go_simp
                constructor
                · rfl
                · rfl
              have HY := Aside0.mk (by have h := heap_alloc_new w6 (.cells #[.int .u32 0, .slice none 0 0, .slice none 0 0] 26); (try simp only [World.size_alloc] at h); exact h)
              have HYN := Aside0.mk (by have h := HB.out.size; (try simp only [World.size_alloc] at h); exact h)
              have NHB := Aside0.mk (bel_alloc HB.out (.cells #[.int .u32 0, .slice none 0 0, .slice none 0 0] 26))
              have NH1 := Aside0.mk (Kd.R_alloc H1.out (.cells #[.int .u32 0, .slice none 0 0, .slice none 0 0] 26))
              have NH2 := Aside0.mk (Kd.R_alloc H2.out (.cells #[.int .u32 0, .slice none 0 0, .slice none 0 0] 26))
              clear HB H1 H2
              have HB := NHB; have H1 := NH1; have H2 := NH2
              clear NHB NH1 NH2
              refine hK.out _ _ ⟨((blk_cell (blk_below HX.out HB.out) 0).trans rfl), ((blk_cell (blk_below HX.out HB.out) 1).trans rfl), ((blk_cell (blk_below HX.out HB.out) 2).trans rfl)⟩ (fun hHeld => ?_)
              clear hK K
              refine norm_ (a' := ?_) ?_ ?_
              rotate_left
              · show Act.put _ (some 6) _ = _
                simp only [Act.put, List.setIfInBounds_toArray, List.set_cons_zero, List.set_cons_succ, i64_w, i32_w]
                rfl
              exact norm_ (by simp only [Go.Proofs.YtofmlajanopniaaW.PrintLast.putAll, Act.put, List.setIfInBounds_toArray, List.set_cons_zero, List.set_cons_succ]) (hCont (.slice (some ⟨(World.heap wd).size, 0, none⟩) 0 0, .slice A3 vec.length c3, .slice (some ⟨((World.heap wd).size + 1), 0, none⟩) 0 0, .slice A4 tags.length c4, (World.heap w6).size) _ ⟨H1.out, H2.out, HY.out, HYN.out, HB.out⟩)
            · skip
              refine value_ (w1 := ?_) (v := ?_) (by rfl) rfl ?_ ?_
              rotate_left 2
              · go_simp
                constructor
                · rfl
                · rfl
              have HY := Aside0.mk (by have h := heap_alloc_new w4 (.cells #[.int .u32 0, .slice none 0 0, .slice none 0 0] 26); (try simp only [World.size_alloc] at h); exact h)
              have HYN := Aside0.mk (by have h := HB.out.size; (try simp only [World.size_alloc] at h); exact h)
              have NHB := Aside0.mk (bel_alloc HB.out (.cells #[.int .u32 0, .slice none 0 0, .slice none 0 0] 26))
              have NH1 := Aside0.mk (Kd.R_alloc H1.out (.cells #[.int .u32 0, .slice none 0 0, .slice none 0 0] 26))
              have NH2 := Aside0.mk (Kd.R_alloc H2.out (.cells #[.int .u32 0, .slice none 0 0, .slice none 0 0] 26))
              clear HB H1 H2
              have HB := NHB; have H1 := NH1; have H2 := NH2
              clear NHB NH1 NH2
              refine hK.out _ _ ⟨((blk_cell (blk_below HX.out HB.out) 0).trans rfl), ((blk_cell (blk_below HX.out HB.out) 1).trans rfl), ((blk_cell (blk_below HX.out HB.out) 2).trans rfl)⟩ (fun hHeld => ?_)
              clear hK K
              refine norm_ (a' := ?_) ?_ ?_
              rotate_left
              · show Act.put _ (some 6) _ = _
                simp only [Act.put, List.setIfInBounds_toArray, List.set_cons_zero, List.set_cons_succ, i64_w, i32_w]
                rfl
              refine one_ (i := 9) (N := some 32) #[true, true, true, true, true, true, true, true, true, true, false, true, false] rfl rfl (one_of HT_.out (by kernel_rfl)) (by decide) (fun K hK => ?_)
              refine Kd.R_append_rows_step Kd.string wd.heap.size (by rfl) (.tmp 29) (.tmp 31) 24 9 (.string ByteArray.empty) 16 rfl Try.underlying24 (by kernel_rfl) (by rfl) (by decide) (by decide) _ [] tags A2 tags.length c2 (fun _ => True) (fun _ => False) rfl rfl H2.out (Kd.C_below HC2.out (bel_trans HBo.out HB.out)) (fun _ _ h => h) (fun k hk => hk.elim) (fun _ _ => trivial) HB.out HB.out.size (by have := HSM.out; show (0 + _) * 16 ≤ _; omega) ?_
              intro v6 w6 ha hb hg hat
              rw [List.nil_append] at ha
              have NH2 := Aside0.mk ha
              have NHB := Aside0.mk hb
              have NH1 := Aside0.mk (Kd.R_over H1.out H2.out (by decide) hg)
              have NHY := Aside0.mk (blk_grownR HY.out H2.out hg (by decide))
              clear ha hb hg hat
              clear H2 HB H1 HY
              have H2 := NH2; have HB := NHB; have H1 := NH1; have HY := NHY
              clear NH2 NHB NH1 NHY
              obtain ⟨A4, c4, rfl⟩ := Kd.R_slice H2.out
              refine hK.out _ _ ⟨((blk_cell (blk_below HX.out HB.out) 0).trans rfl), ((blk_cell (blk_below HX.out HB.out) 1).trans rfl), ((blk_cell (blk_below HX.out HB.out) 2).trans rfl)⟩ (fun hHeld => ?_)
              clear hK K
              refine norm_ (a' := ?_) ?_ ?_
              rotate_left
              · show Act.put _ (some 32) _ = _
                simp only [Act.put, List.setIfInBounds_toArray, List.set_cons_zero, List.set_cons_succ, i64_w, i32_w]
                rfl
              refine pure_ (i := 10) (N := some 33) (v := ?_) (a' := ?_) #[true, true, true, true, true, true, true, true, true, true, true, true, false] rfl rfl (any_of HT_.out (by kernel_rfl)) (fun _ _ _ h => h) (Or.inl ⟨by rfl, ?_⟩) ?_ ?_
              rotate_left
              · intro w'
                go_simp
                with_reducible rfl
              rotate_left
              · simp only [Act.put, List.setIfInBounds_toArray, List.set_cons_zero, List.set_cons_succ, i64_w, i32_w]
                rfl
              exact norm_ (by simp only [Go.Proofs.YtofmlajanopniaaW.PrintLast.putAll, Act.put, List.setIfInBounds_toArray, List.set_cons_zero, List.set_cons_succ]) (hCont (.slice (some ⟨(World.heap wd).size, 0, none⟩) 0 0, .slice A3 vec.length c3, .slice (some ⟨((World.heap wd).size + 1), 0, none⟩) 0 0, .slice A4 tags.length c4, (World.heap w4).size) _ ⟨H1.out, H2.out, HY.out, HYN.out, HB.out⟩)
          · skip
            refine value_ (w1 := ?_) (v := ?_) (by rfl) rfl ?_ ?_
            rotate_left 2
            · go_simp
              constructor
              · rfl
              · rfl
            have HY := Aside0.mk (by have h := heap_alloc_new (World.alloc (World.alloc wd (.cells #[] 21)) (.cells #[] 9)) (.cells #[.int .u32 0, .slice none 0 0, .slice none 0 0] 26); (try simp only [World.size_alloc] at h); exact h)
            have HYN := Aside0.mk (by have h := HB.out.size; (try simp only [World.size_alloc] at h); exact h)
            have NHB := Aside0.mk (bel_alloc HB.out (.cells #[.int .u32 0, .slice none 0 0, .slice none 0 0] 26))
            have NH1 := Aside0.mk (Kd.R_alloc H1.out (.cells #[.int .u32 0, .slice none 0 0, .slice none 0 0] 26))
            have NH2 := Aside0.mk (Kd.R_alloc H2.out (.cells #[.int .u32 0, .slice none 0 0, .slice none 0 0] 26))
            clear HB H1 H2
            have HB := NHB; have H1 := NH1; have H2 := NH2
            clear NHB NH1 NH2
            refine hK.out _ _ ⟨((blk_cell (blk_below HX.out HB.out) 0).trans rfl), ((blk_cell (blk_below HX.out HB.out) 1).trans rfl), ((blk_cell (blk_below HX.out HB.out) 2).trans rfl)⟩ (fun hHeld => ?_)
            clear hK K
            refine norm_ (a' := ?_) ?_ ?_
            rotate_left
            · show Act.put _ (some 6) _ = _
              simp only [Act.put, List.setIfInBounds_toArray, List.set_cons_zero, List.set_cons_succ, i64_w, i32_w]
              rfl
            refine one_ (i := 5) (N := some 28) #[true, true, true, true, true, true, true, true, true, false, false, true, false] rfl rfl (one_of HT_.out (by kernel_rfl)) (by decide) (fun K hK => ?_)
            refine Kd.R_append_rows_step (Kd.int .i32) wd.heap.size (by rfl) (.tmp 25) (.tmp 27) 23 21 (.int .i32 0) 4 rfl Try.underlying23 (by kernel_rfl) (by rfl) (by decide) (by decide) _ [] vec A1 vec.length c1 (fun _ => True) (fun _ => False) rfl rfl H1.out (Kd.C_below HC1.out (bel_trans HBo.out HB.out)) (fun _ _ h => h) (fun k hk => hk.elim) (fun _ _ => trivial) HB.out HB.out.size (by have := HSM.out; show (0 + _) * 4 ≤ _; omega) ?_
            intro v4 w4 ha hb hg hat
            rw [List.nil_append] at ha
            have NH1 := Aside0.mk ha
            have NHB := Aside0.mk hb
            have NH2 := Aside0.mk (Kd.R_over H2.out H1.out (by decide) hg)
            have NHY := Aside0.mk (blk_grownR HY.out H1.out hg (by decide))
            clear ha hb hg hat
            clear H1 HB H2 HY
            have H1 := NH1; have HB := NHB; have H2 := NH2; have HY := NHY
            clear NH1 NHB NH2 NHY
            obtain ⟨A3, c3, rfl⟩ := Kd.R_slice H1.out
            refine hK.out _ _ ⟨((blk_cell (blk_below HX.out HB.out) 0).trans rfl), ((blk_cell (blk_below HX.out HB.out) 1).trans rfl), ((blk_cell (blk_below HX.out HB.out) 2).trans rfl)⟩ (fun hHeld => ?_)
            clear hK K
            refine norm_ (a' := ?_) ?_ ?_
            rotate_left
            · show Act.put _ (some 28) _ = _
              simp only [Act.put, List.setIfInBounds_toArray, List.set_cons_zero, List.set_cons_succ, i64_w, i32_w]
              rfl
            refine one_ (i := 9) (N := some 32) #[true, true, true, true, true, true, true, true, true, true, false, true, false] rfl rfl (one_of HT_.out (by kernel_rfl)) (by decide) (fun K hK => ?_)
            refine Kd.R_append_rows_step Kd.string wd.heap.size (by rfl) (.tmp 29) (.tmp 31) 24 9 (.string ByteArray.empty) 16 rfl Try.underlying24 (by kernel_rfl) (by rfl) (by decide) (by decide) _ [] tags A2 tags.length c2 (fun _ => True) (fun _ => False) rfl rfl H2.out (Kd.C_below HC2.out (bel_trans HBo.out HB.out)) (fun _ _ h => h) (fun k hk => hk.elim) (fun _ _ => trivial) HB.out HB.out.size (by have := HSM.out; show (0 + _) * 16 ≤ _; omega) ?_
            intro v6 w6 ha hb hg hat
            rw [List.nil_append] at ha
            have NH2 := Aside0.mk ha
            have NHB := Aside0.mk hb
            have NH1 := Aside0.mk (Kd.R_over H1.out H2.out (by decide) hg)
            have NHY := Aside0.mk (blk_grownR HY.out H2.out hg (by decide))
            clear ha hb hg hat
            clear H2 HB H1 HY
            have H2 := NH2; have HB := NHB; have H1 := NH1; have HY := NHY
            clear NH2 NHB NH1 NHY
            obtain ⟨A4, c4, rfl⟩ := Kd.R_slice H2.out
            refine hK.out _ _ ⟨((blk_cell (blk_below HX.out HB.out) 0).trans rfl), ((blk_cell (blk_below HX.out HB.out) 1).trans rfl), ((blk_cell (blk_below HX.out HB.out) 2).trans rfl)⟩ (fun hHeld => ?_)
            clear hK K
            refine norm_ (a' := ?_) ?_ ?_
            rotate_left
            · show Act.put _ (some 32) _ = _
              simp only [Act.put, List.setIfInBounds_toArray, List.set_cons_zero, List.set_cons_succ, i64_w, i32_w]
              rfl
            refine pure_ (i := 10) (N := some 33) (v := ?_) (a' := ?_) #[true, true, true, true, true, true, true, true, true, true, true, true, false] rfl rfl (any_of HT_.out (by kernel_rfl)) (fun _ _ _ h => h) (Or.inl ⟨by rfl, ?_⟩) ?_ ?_
            rotate_left
            · intro w'
              go_simp
              with_reducible rfl
            rotate_left
            · simp only [Act.put, List.setIfInBounds_toArray, List.set_cons_zero, List.set_cons_succ, i64_w, i32_w]
              rfl
            exact norm_ (by simp only [Go.Proofs.YtofmlajanopniaaW.PrintLast.putAll, Act.put, List.setIfInBounds_toArray, List.set_cons_zero, List.set_cons_succ]) (hCont (.slice (some ⟨(World.heap wd).size, 0, none⟩) 0 0, .slice A3 vec.length c3, .slice (some ⟨((World.heap wd).size + 1), 0, none⟩) 0 0, .slice A4 tags.length c4, ((World.heap wd).size + 2)) _ ⟨H1.out, H2.out, HY.out, HYN.out, HB.out⟩)
        · skip
          refine value_ (w1 := ?_) (v := ?_) (by rfl) rfl ?_ ?_
          rotate_left 2
          · go_simp
            constructor
            · rfl
            · rfl
          have HY := Aside0.mk (by have h := heap_alloc_new (World.alloc wd (.cells #[] 21)) (.cells #[.int .u32 0, .slice none 0 0, .slice none 0 0] 26); (try simp only [World.size_alloc] at h); exact h)
          have HYN := Aside0.mk (by have h := HB.out.size; (try simp only [World.size_alloc] at h); exact h)
          have NHB := Aside0.mk (bel_alloc HB.out (.cells #[.int .u32 0, .slice none 0 0, .slice none 0 0] 26))
          have NH1 := Aside0.mk (Kd.R_alloc H1.out (.cells #[.int .u32 0, .slice none 0 0, .slice none 0 0] 26))
          clear HB H1
          have HB := NHB; have H1 := NH1
          clear NHB NH1
          refine hK.out _ _ ⟨((blk_cell (blk_below HX.out HB.out) 0).trans rfl), ((blk_cell (blk_below HX.out HB.out) 1).trans rfl), ((blk_cell (blk_below HX.out HB.out) 2).trans rfl)⟩ (fun hHeld => ?_)
          clear hK K
          refine norm_ (a' := ?_) ?_ ?_
          rotate_left
          · show Act.put _ (some 6) _ = _
            simp only [Act.put, List.setIfInBounds_toArray, List.set_cons_zero, List.set_cons_succ, i64_w, i32_w]
            rfl
          refine two_ (i := 5) (j := 6) (Ni := some 28) (Nj := some 29) #[true, true, true, true, true, true, false, true, true, false, false, true, false] #[true, true, true, true, true, false, true, true, true, false, false, true, false] rfl rfl rfl rfl (two_of HT_.out (by kernel_rfl)) (by decide) (by decide) (fun K hK => ?_) (fun K hK => ?_)
          · skip
            refine Kd.R_append_rows_step (Kd.int .i32) wd.heap.size (by rfl) (.tmp 25) (.tmp 27) 23 21 (.int .i32 0) 4 rfl Try.underlying23 (by kernel_rfl) (by rfl) (by decide) (by decide) _ [] vec A1 vec.length c1 (fun _ => True) (fun _ => False) rfl rfl H1.out (Kd.C_below HC1.out (bel_trans HBo.out HB.out)) (fun _ _ h => h) (fun k hk => hk.elim) (fun _ _ => trivial) HB.out HB.out.size (by have := HSM.out; show (0 + _) * 4 ≤ _; omega) ?_
            intro v4 w4 ha hb hg hat
            rw [List.nil_append] at ha
            have NH1 := Aside0.mk ha
            have NHB := Aside0.mk hb
            have NHY := Aside0.mk (blk_grownR HY.out H1.out hg (by decide))
            clear ha hb hg hat
            clear H1 HB HY
            have H1 := NH1; have HB := NHB; have HY := NHY
            clear NH1 NHB NHY
            obtain ⟨A3, c3, rfl⟩ := Kd.R_slice H1.out
            refine hK.out _ _ ⟨((blk_cell (blk_below HX.out HB.out) 0).trans rfl), ((blk_cell (blk_below HX.out HB.out) 1).trans rfl), ((blk_cell (blk_below HX.out HB.out) 2).trans rfl)⟩ (fun hHeld => ?_)
            clear hK K
            refine norm_ (a' := ?_) ?_ ?_
            rotate_left
            · show Act.put _ (some 28) _ = _
              simp only [Act.put, List.setIfInBounds_toArray, List.set_cons_zero, List.set_cons_succ, i64_w, i32_w]
              rfl
            refine one_ (i := 6) (N := some 29) #[true, true, true, true, true, true, true, true, true, false, false, true, false] rfl rfl (one_of HT_.out (by kernel_rfl)) (by decide) (fun K hK => ?_)
            refine value_ (w1 := ?_) (v := ?_) (by rfl) rfl ?_ ?_
            rotate_left 2
            · go_simp
              constructor
              · rfl
              · rfl
            have H2 := Aside0.mk (by have h := R_empty Kd.string 9 w4 wd.heap.size HB.out.size; (try simp only [World.size_alloc] at h); exact h)
            have NHB := Aside0.mk (bel_alloc HB.out (.cells #[] 9))
            have NH1 := Aside0.mk (Kd.R_alloc H1.out (.cells #[] 9))
            have NHY := Aside0.mk (blk_alloc HY.out (.cells #[] 9))
            clear HB H1 HY
            have HB := NHB; have H1 := NH1; have HY := NHY
            clear NHB NH1 NHY
            refine hK.out _ _ ⟨((blk_cell (blk_below HX.out HB.out) 0).trans rfl), ((blk_cell (blk_below HX.out HB.out) 1).trans rfl), ((blk_cell (blk_below HX.out HB.out) 2).trans rfl)⟩ (fun hHeld => ?_)
            clear hK K
            refine norm_ (a' := ?_) ?_ ?_
            rotate_left
            · show Act.put _ (some 29) _ = _
              simp only [Act.put, List.setIfInBounds_toArray, List.set_cons_zero, List.set_cons_succ, i64_w, i32_w]
              rfl
            refine one_ (i := 9) (N := some 32) #[true, true, true, true, true, true, true, true, true, true, false, true, false] rfl rfl (one_of HT_.out (by kernel_rfl)) (by decide) (fun K hK => ?_)
            refine Kd.R_append_rows_step Kd.string wd.heap.size (by rfl) (.tmp 29) (.tmp 31) 24 9 (.string ByteArray.empty) 16 rfl Try.underlying24 (by kernel_rfl) (by rfl) (by decide) (by decide) _ [] tags A2 tags.length c2 (fun _ => True) (fun _ => False) rfl rfl H2.out (Kd.C_below HC2.out (bel_trans HBo.out HB.out)) (fun _ _ h => h) (fun k hk => hk.elim) (fun _ _ => trivial) HB.out HB.out.size (by have := HSM.out; show (0 + _) * 16 ≤ _; omega) ?_
            intro v6 w6 ha hb hg hat
            rw [List.nil_append] at ha
            have NH2 := Aside0.mk ha
            have NHB := Aside0.mk hb
            have NH1 := Aside0.mk (Kd.R_over H1.out H2.out (by decide) hg)
            have NHY := Aside0.mk (blk_grownR HY.out H2.out hg (by decide))
            clear ha hb hg hat
            clear H2 HB H1 HY
            have H2 := NH2; have HB := NHB; have H1 := NH1; have HY := NHY
            clear NH2 NHB NH1 NHY
            obtain ⟨A4, c4, rfl⟩ := Kd.R_slice H2.out
            refine hK.out _ _ ⟨((blk_cell (blk_below HX.out HB.out) 0).trans rfl), ((blk_cell (blk_below HX.out HB.out) 1).trans rfl), ((blk_cell (blk_below HX.out HB.out) 2).trans rfl)⟩ (fun hHeld => ?_)
            clear hK K
            refine norm_ (a' := ?_) ?_ ?_
            rotate_left
            · show Act.put _ (some 32) _ = _
              simp only [Act.put, List.setIfInBounds_toArray, List.set_cons_zero, List.set_cons_succ, i64_w, i32_w]
              rfl
            refine pure_ (i := 10) (N := some 33) (v := ?_) (a' := ?_) #[true, true, true, true, true, true, true, true, true, true, true, true, false] rfl rfl (any_of HT_.out (by kernel_rfl)) (fun _ _ _ h => h) (Or.inl ⟨by rfl, ?_⟩) ?_ ?_
            rotate_left
            · intro w'
              go_simp
              with_reducible rfl
            rotate_left
            · simp only [Act.put, List.setIfInBounds_toArray, List.set_cons_zero, List.set_cons_succ, i64_w, i32_w]
              rfl
            exact norm_ (by simp only [Go.Proofs.YtofmlajanopniaaW.PrintLast.putAll, Act.put, List.setIfInBounds_toArray, List.set_cons_zero, List.set_cons_succ]) (hCont (.slice (some ⟨(World.heap wd).size, 0, none⟩) 0 0, .slice A3 vec.length c3, .slice (some ⟨(World.heap w4).size, 0, none⟩) 0 0, .slice A4 tags.length c4, ((World.heap wd).size + 1)) _ ⟨H1.out, H2.out, HY.out, HYN.out, HB.out⟩)
          · skip
            refine value_ (w1 := ?_) (v := ?_) (by rfl) rfl ?_ ?_
            rotate_left 2
            · go_simp
              constructor
              · rfl
              · rfl
            have H2 := Aside0.mk (by have h := R_empty Kd.string 9 (World.alloc (World.alloc wd (.cells #[] 21)) (.cells #[.int .u32 0, .slice none 0 0, .slice none 0 0] 26)) wd.heap.size HB.out.size; (try simp only [World.size_alloc] at h); exact h)
            have NHB := Aside0.mk (bel_alloc HB.out (.cells #[] 9))
            have NH1 := Aside0.mk (Kd.R_alloc H1.out (.cells #[] 9))
            have NHY := Aside0.mk (blk_alloc HY.out (.cells #[] 9))
            clear HB H1 HY
            have HB := NHB; have H1 := NH1; have HY := NHY
            clear NHB NH1 NHY
            refine hK.out _ _ ⟨((blk_cell (blk_below HX.out HB.out) 0).trans rfl), ((blk_cell (blk_below HX.out HB.out) 1).trans rfl), ((blk_cell (blk_below HX.out HB.out) 2).trans rfl)⟩ (fun hHeld => ?_)
            clear hK K
            refine norm_ (a' := ?_) ?_ ?_
            rotate_left
            · show Act.put _ (some 29) _ = _
              simp only [Act.put, List.setIfInBounds_toArray, List.set_cons_zero, List.set_cons_succ, i64_w, i32_w]
              rfl
            refine one_ (i := 5) (N := some 28) #[true, true, true, true, true, true, true, true, true, false, false, true, false] rfl rfl (one_of HT_.out (by kernel_rfl)) (by decide) (fun K hK => ?_)
            refine Kd.R_append_rows_step (Kd.int .i32) wd.heap.size (by rfl) (.tmp 25) (.tmp 27) 23 21 (.int .i32 0) 4 rfl Try.underlying23 (by kernel_rfl) (by rfl) (by decide) (by decide) _ [] vec A1 vec.length c1 (fun _ => True) (fun _ => False) rfl rfl H1.out (Kd.C_below HC1.out (bel_trans HBo.out HB.out)) (fun _ _ h => h) (fun k hk => hk.elim) (fun _ _ => trivial) HB.out HB.out.size (by have := HSM.out; show (0 + _) * 4 ≤ _; omega) ?_
            intro v4 w4 ha hb hg hat
            rw [List.nil_append] at ha
            have NH1 := Aside0.mk ha
            have NHB := Aside0.mk hb
            have NH2 := Aside0.mk (Kd.R_over H2.out H1.out (by decide) hg)
            have NHY := Aside0.mk (blk_grownR HY.out H1.out hg (by decide))
            clear ha hb hg hat
            clear H1 HB H2 HY
            have H1 := NH1; have HB := NHB; have H2 := NH2; have HY := NHY
            clear NH1 NHB NH2 NHY
            obtain ⟨A3, c3, rfl⟩ := Kd.R_slice H1.out
            refine hK.out _ _ ⟨((blk_cell (blk_below HX.out HB.out) 0).trans rfl), ((blk_cell (blk_below HX.out HB.out) 1).trans rfl), ((blk_cell (blk_below HX.out HB.out) 2).trans rfl)⟩ (fun hHeld => ?_)
            clear hK K
            refine norm_ (a' := ?_) ?_ ?_
            rotate_left
            · show Act.put _ (some 28) _ = _
              simp only [Act.put, List.setIfInBounds_toArray, List.set_cons_zero, List.set_cons_succ, i64_w, i32_w]
              rfl
            refine one_ (i := 9) (N := some 32) #[true, true, true, true, true, true, true, true, true, true, false, true, false] rfl rfl (one_of HT_.out (by kernel_rfl)) (by decide) (fun K hK => ?_)
            refine Kd.R_append_rows_step Kd.string wd.heap.size (by rfl) (.tmp 29) (.tmp 31) 24 9 (.string ByteArray.empty) 16 rfl Try.underlying24 (by kernel_rfl) (by rfl) (by decide) (by decide) _ [] tags A2 tags.length c2 (fun _ => True) (fun _ => False) rfl rfl H2.out (Kd.C_below HC2.out (bel_trans HBo.out HB.out)) (fun _ _ h => h) (fun k hk => hk.elim) (fun _ _ => trivial) HB.out HB.out.size (by have := HSM.out; show (0 + _) * 16 ≤ _; omega) ?_
            intro v6 w6 ha hb hg hat
            rw [List.nil_append] at ha
            have NH2 := Aside0.mk ha
            have NHB := Aside0.mk hb
            have NH1 := Aside0.mk (Kd.R_over H1.out H2.out (by decide) hg)
            have NHY := Aside0.mk (blk_grownR HY.out H2.out hg (by decide))
            clear ha hb hg hat
            clear H2 HB H1 HY
            have H2 := NH2; have HB := NHB; have H1 := NH1; have HY := NHY
            clear NH2 NHB NH1 NHY
            obtain ⟨A4, c4, rfl⟩ := Kd.R_slice H2.out
            refine hK.out _ _ ⟨((blk_cell (blk_below HX.out HB.out) 0).trans rfl), ((blk_cell (blk_below HX.out HB.out) 1).trans rfl), ((blk_cell (blk_below HX.out HB.out) 2).trans rfl)⟩ (fun hHeld => ?_)
            clear hK K
            refine norm_ (a' := ?_) ?_ ?_
            rotate_left
            · show Act.put _ (some 32) _ = _
              simp only [Act.put, List.setIfInBounds_toArray, List.set_cons_zero, List.set_cons_succ, i64_w, i32_w]
              rfl
            refine pure_ (i := 10) (N := some 33) (v := ?_) (a' := ?_) #[true, true, true, true, true, true, true, true, true, true, true, true, false] rfl rfl (any_of HT_.out (by kernel_rfl)) (fun _ _ _ h => h) (Or.inl ⟨by rfl, ?_⟩) ?_ ?_
            rotate_left
            · intro w'
              go_simp
              with_reducible rfl
            rotate_left
            · simp only [Act.put, List.setIfInBounds_toArray, List.set_cons_zero, List.set_cons_succ, i64_w, i32_w]
              rfl
            exact norm_ (by simp only [Go.Proofs.YtofmlajanopniaaW.PrintLast.putAll, Act.put, List.setIfInBounds_toArray, List.set_cons_zero, List.set_cons_succ]) (hCont (.slice (some ⟨(World.heap wd).size, 0, none⟩) 0 0, .slice A3 vec.length c3, .slice (some ⟨((World.heap wd).size + 2), 0, none⟩) 0 0, .slice A4 tags.length c4, ((World.heap wd).size + 1)) _ ⟨H1.out, H2.out, HY.out, HYN.out, HB.out⟩)
      · skip
        refine value_ (w1 := ?_) (v := ?_) (by rfl) rfl ?_ ?_
        rotate_left 2
        · go_simp
          constructor
          · rfl
          · rfl
        have H2 := Aside0.mk (by have h := R_empty Kd.string 9 wd wd.heap.size HB.out.size; (try simp only [World.size_alloc] at h); exact h)
        have NHB := Aside0.mk (bel_alloc HB.out (.cells #[] 9))
        clear HB
        have HB := NHB
        clear NHB
        refine hK.out _ _ ⟨((blk_cell (blk_below HX.out HB.out) 0).trans rfl), ((blk_cell (blk_below HX.out HB.out) 1).trans rfl), ((blk_cell (blk_below HX.out HB.out) 2).trans rfl)⟩ (fun hHeld => ?_)
        clear hK K
        refine norm_ (a' := ?_) ?_ ?_
        rotate_left
        · show Act.put _ (some 29) _ = _
          simp only [Act.put, List.setIfInBounds_toArray, List.set_cons_zero, List.set_cons_succ, i64_w, i32_w]
          rfl
        refine two_ (i := 2) (j := 11) (Ni := some 25) (Nj := some 6) #[true, true, true, true, true, false, true, true, true, false, false, false, false] #[true, true, false, true, true, false, true, true, true, false, false, true, false] rfl rfl rfl rfl (two_of HT_.out (by kernel_rfl)) (by decide) (by decide) (fun K hK => ?_) (fun K hK => ?_)
        · skip
          refine value_ (w1 := ?_) (v := ?_) (by rfl) rfl ?_ ?_
          rotate_left 2
          · go_simp
            constructor
            · rfl
            · rfl
          have H1 := Aside0.mk (by have h := R_empty (Kd.int .i32) 21 (World.alloc wd (.cells #[] 9)) wd.heap.size HB.out.size; (try simp only [World.size_alloc] at h); exact h)
          have NHB := Aside0.mk (bel_alloc HB.out (.cells #[] 21))
          have NH2 := Aside0.mk (Kd.R_alloc H2.out (.cells #[] 21))
          clear HB H2
          have HB := NHB; have H2 := NH2
          clear NHB NH2
          refine hK.out _ _ ⟨((blk_cell (blk_below HX.out HB.out) 0).trans rfl), ((blk_cell (blk_below HX.out HB.out) 1).trans rfl), ((blk_cell (blk_below HX.out HB.out) 2).trans rfl)⟩ (fun hHeld => ?_)
          clear hK K
          refine norm_ (a' := ?_) ?_ ?_
          rotate_left
          · show Act.put _ (some 25) _ = _
            simp only [Act.put, List.setIfInBounds_toArray, List.set_cons_zero, List.set_cons_succ, i64_w, i32_w]
            rfl
          refine two_ (i := 5) (j := 11) (Ni := some 28) (Nj := some 6) #[true, true, true, true, true, true, true, true, true, false, false, false, false] #[true, true, true, true, true, false, true, true, true, false, false, true, false] rfl rfl rfl rfl (two_of HT_.out (by kernel_rfl)) (by decide) (by decide) (fun K hK => ?_) (fun K hK => ?_)
          · skip
            refine Kd.R_append_rows_step (Kd.int .i32) wd.heap.size (by rfl) (.tmp 25) (.tmp 27) 23 21 (.int .i32 0) 4 rfl Try.underlying23 (by kernel_rfl) (by rfl) (by decide) (by decide) _ [] vec A1 vec.length c1 (fun _ => True) (fun _ => False) rfl rfl H1.out (Kd.C_below HC1.out (bel_trans HBo.out HB.out)) (fun _ _ h => h) (fun k hk => hk.elim) (fun _ _ => trivial) HB.out HB.out.size (by have := HSM.out; show (0 + _) * 4 ≤ _; omega) ?_
            intro v4 w4 ha hb hg hat
            rw [List.nil_append] at ha
            have NH1 := Aside0.mk ha
            have NHB := Aside0.mk hb
            have NH2 := Aside0.mk (Kd.R_over H2.out H1.out (by decide) hg)
            clear ha hb hg hat
            clear H1 HB H2
            have H1 := NH1; have HB := NHB; have H2 := NH2
            clear NH1 NHB NH2
            obtain ⟨A3, c3, rfl⟩ := Kd.R_slice H1.out
            refine hK.out _ _ ⟨((blk_cell (blk_below HX.out HB.out) 0).trans rfl), ((blk_cell (blk_below HX.out HB.out) 1).trans rfl), ((blk_cell (blk_below HX.out HB.out) 2).trans rfl)⟩ (fun hHeld => ?_)
            clear hK K
            refine norm_ (a' := ?_) ?_ ?_
            rotate_left
            · show Act.put _ (some 28) _ = _
              simp only [Act.put, List.setIfInBounds_toArray, List.set_cons_zero, List.set_cons_succ, i64_w, i32_w]
              rfl
            refine two_ (i := 9) (j := 11) (Ni := some 32) (Nj := some 6) #[true, true, true, true, true, true, true, true, true, true, false, false, false] #[true, true, true, true, true, true, true, true, true, false, false, true, false] rfl rfl rfl rfl (two_of HT_.out (by kernel_rfl)) (by decide) (by decide) (fun K hK => ?_) (fun K hK => ?_)
            · skip
              refine Kd.R_append_rows_step Kd.string wd.heap.size (by rfl) (.tmp 29) (.tmp 31) 24 9 (.string ByteArray.empty) 16 rfl Try.underlying24 (by kernel_rfl) (by rfl) (by decide) (by decide) _ [] tags A2 tags.length c2 (fun _ => True) (fun _ => False) rfl rfl H2.out (Kd.C_below HC2.out (bel_trans HBo.out HB.out)) (fun _ _ h => h) (fun k hk => hk.elim) (fun _ _ => trivial) HB.out HB.out.size (by have := HSM.out; show (0 + _) * 16 ≤ _; omega) ?_
              intro v6 w6 ha hb hg hat
              rw [List.nil_append] at ha
              have NH2 := Aside0.mk ha
              have NHB := Aside0.mk hb
              have NH1 := Aside0.mk (Kd.R_over H1.out H2.out (by decide) hg)
              clear ha hb hg hat
              clear H2 HB H1
              have H2 := NH2; have HB := NHB; have H1 := NH1
              clear NH2 NHB NH1
              obtain ⟨A4, c4, rfl⟩ := Kd.R_slice H2.out
              refine hK.out _ _ ⟨((blk_cell (blk_below HX.out HB.out) 0).trans rfl), ((blk_cell (blk_below HX.out HB.out) 1).trans rfl), ((blk_cell (blk_below HX.out HB.out) 2).trans rfl)⟩ (fun hHeld => ?_)
              clear hK K
              refine norm_ (a' := ?_) ?_ ?_
              rotate_left
              · show Act.put _ (some 32) _ = _
                simp only [Act.put, List.setIfInBounds_toArray, List.set_cons_zero, List.set_cons_succ, i64_w, i32_w]
                rfl
              refine pure_ (i := 10) (N := some 33) (v := ?_) (a' := ?_) #[true, true, true, true, true, true, true, true, true, true, true, false, false] rfl rfl (any_of HT_.out (by kernel_rfl)) (fun _ _ _ h => h) (Or.inl ⟨by rfl, ?_⟩) ?_ ?_
              rotate_left
              · intro w'
                go_simp
                with_reducible rfl
              rotate_left
              · simp only [Act.put, List.setIfInBounds_toArray, List.set_cons_zero, List.set_cons_succ, i64_w, i32_w]
                rfl
              refine one_ (i := 11) (N := some 6) #[true, true, true, true, true, true, true, true, true, true, true, true, false] rfl rfl (one_of HT_.out (by kernel_rfl)) (by decide) (fun K hK => ?_)
              refine value_ (w1 := ?_) (v := ?_) (by rfl) rfl ?_ ?_
              rotate_left 2
              · go_simp
                constructor
                · rfl
                · rfl
              have HY := Aside0.mk (by have h := heap_alloc_new w6 (.cells #[.int .u32 0, .slice none 0 0, .slice none 0 0] 26); (try simp only [World.size_alloc] at h); exact h)
              have HYN := Aside0.mk (by have h := HB.out.size; (try simp only [World.size_alloc] at h); exact h)
              have NHB := Aside0.mk (bel_alloc HB.out (.cells #[.int .u32 0, .slice none 0 0, .slice none 0 0] 26))
              have NH1 := Aside0.mk (Kd.R_alloc H1.out (.cells #[.int .u32 0, .slice none 0 0, .slice none 0 0] 26))
              have NH2 := Aside0.mk (Kd.R_alloc H2.out (.cells #[.int .u32 0, .slice none 0 0, .slice none 0 0] 26))
              clear HB H1 H2
              have HB := NHB; have H1 := NH1; have H2 := NH2
              clear NHB NH1 NH2
              refine hK.out _ _ ⟨((blk_cell (blk_below HX.out HB.out) 0).trans rfl), ((blk_cell (blk_below HX.out HB.out) 1).trans rfl), ((blk_cell (blk_below HX.out HB.out) 2).trans rfl)⟩ (fun hHeld => ?_)
              clear hK K
              refine norm_ (a' := ?_) ?_ ?_
              rotate_left
              · show Act.put _ (some 6) _ = _
                simp only [Act.put, List.setIfInBounds_toArray, List.set_cons_zero, List.set_cons_succ, i64_w, i32_w]
                rfl
              exact norm_ (by simp only [Go.Proofs.YtofmlajanopniaaW.PrintLast.putAll, Act.put, List.setIfInBounds_toArray, List.set_cons_zero, List.set_cons_succ]) (hCont (.slice (some ⟨((World.heap wd).size + 1), 0, none⟩) 0 0, .slice A3 vec.length c3, .slice (some ⟨(World.heap wd).size, 0, none⟩) 0 0, .slice A4 tags.length c4, (World.heap w6).size) _ ⟨H1.out, H2.out, HY.out, HYN.out, HB.out⟩)
            · skip
              refine value_ (w1 := ?_) (v := ?_) (by rfl) rfl ?_ ?_
              rotate_left 2
              · go_simp
                constructor
                · rfl
                · rfl
              have HY := Aside0.mk (by have h := heap_alloc_new w4 (.cells #[.int .u32 0, .slice none 0 0, .slice none 0 0] 26); (try simp only [World.size_alloc] at h); exact h)
              have HYN := Aside0.mk (by have h := HB.out.size; (try simp only [World.size_alloc] at h); exact h)
              have NHB := Aside0.mk (bel_alloc HB.out (.cells #[.int .u32 0, .slice none 0 0, .slice none 0 0] 26))
              have NH1 := Aside0.mk (Kd.R_alloc H1.out (.cells #[.int .u32 0, .slice none 0 0, .slice none 0 0] 26))
              have NH2 := Aside0.mk (Kd.R_alloc H2.out (.cells #[.int .u32 0, .slice none 0 0, .slice none 0 0] 26))
              clear HB H1 H2
              have HB := NHB; have H1 := NH1; have H2 := NH2
              clear NHB NH1 NH2
              refine hK.out _ _ ⟨((blk_cell (blk_below HX.out HB.out) 0).trans rfl), ((blk_cell (blk_below HX.out HB.out) 1).trans rfl), ((blk_cell (blk_below HX.out HB.out) 2).trans rfl)⟩ (fun hHeld => ?_)
              clear hK K
              refine norm_ (a' := ?_) ?_ ?_
              rotate_left
              · show Act.put _ (some 6) _ = _
                simp only [Act.put, List.setIfInBounds_toArray, List.set_cons_zero, List.set_cons_succ, i64_w, i32_w]
                rfl
              refine one_ (i := 9) (N := some 32) #[true, true, true, true, true, true, true, true, true, true, false, true, false] rfl rfl (one_of HT_.out (by kernel_rfl)) (by decide) (fun K hK => ?_)
              refine Kd.R_append_rows_step Kd.string wd.heap.size (by rfl) (.tmp 29) (.tmp 31) 24 9 (.string ByteArray.empty) 16 rfl Try.underlying24 (by kernel_rfl) (by rfl) (by decide) (by decide) _ [] tags A2 tags.length c2 (fun _ => True) (fun _ => False) rfl rfl H2.out (Kd.C_below HC2.out (bel_trans HBo.out HB.out)) (fun _ _ h => h) (fun k hk => hk.elim) (fun _ _ => trivial) HB.out HB.out.size (by have := HSM.out; show (0 + _) * 16 ≤ _; omega) ?_
              intro v6 w6 ha hb hg hat
              rw [List.nil_append] at ha
              have NH2 := Aside0.mk ha
              have NHB := Aside0.mk hb
              have NH1 := Aside0.mk (Kd.R_over H1.out H2.out (by decide) hg)
              have NHY := Aside0.mk (blk_grownR HY.out H2.out hg (by decide))
              clear ha hb hg hat
              clear H2 HB H1 HY
              have H2 := NH2; have HB := NHB; have H1 := NH1; have HY := NHY
              clear NH2 NHB NH1 NHY
              obtain ⟨A4, c4, rfl⟩ := Kd.R_slice H2.out
              refine hK.out _ _ ⟨((blk_cell (blk_below HX.out HB.out) 0).trans rfl), ((blk_cell (blk_below HX.out HB.out) 1).trans rfl), ((blk_cell (blk_below HX.out HB.out) 2).trans rfl)⟩ (fun hHeld => ?_)
              clear hK K
              refine norm_ (a' := ?_) ?_ ?_
              rotate_left
              · show Act.put _ (some 32) _ = _
                simp only [Act.put, List.setIfInBounds_toArray, List.set_cons_zero, List.set_cons_succ, i64_w, i32_w]
                rfl
              refine pure_ (i := 10) (N := some 33) (v := ?_) (a' := ?_) #[true, true, true, true, true, true, true, true, true, true, true, true, false] rfl rfl (any_of HT_.out (by kernel_rfl)) (fun _ _ _ h => h) (Or.inl ⟨by rfl, ?_⟩) ?_ ?_
              rotate_left
              · intro w'
                go_simp
                with_reducible rfl
              rotate_left
              · simp only [Act.put, List.setIfInBounds_toArray, List.set_cons_zero, List.set_cons_succ, i64_w, i32_w]
                rfl
              exact norm_ (by simp only [Go.Proofs.YtofmlajanopniaaW.PrintLast.putAll, Act.put, List.setIfInBounds_toArray, List.set_cons_zero, List.set_cons_succ]) (hCont (.slice (some ⟨((World.heap wd).size + 1), 0, none⟩) 0 0, .slice A3 vec.length c3, .slice (some ⟨(World.heap wd).size, 0, none⟩) 0 0, .slice A4 tags.length c4, (World.heap w4).size) _ ⟨H1.out, H2.out, HY.out, HYN.out, HB.out⟩)
          · skip
            refine value_ (w1 := ?_) (v := ?_) (by rfl) rfl ?_ ?_
            rotate_left 2
            · go_simp
              constructor
              · rfl
              · rfl
            have HY := Aside0.mk (by have h := heap_alloc_new (World.alloc (World.alloc wd (.cells #[] 9)) (.cells #[] 21)) (.cells #[.int .u32 0, .slice none 0 0, .slice none 0 0] 26); (try simp only [World.size_alloc] at h); exact h)
            have HYN := Aside0.mk (by have h := HB.out.size; (try simp only [World.size_alloc] at h); exact h)
            have NHB := Aside0.mk (bel_alloc HB.out (.cells #[.int .u32 0, .slice none 0 0, .slice none 0 0] 26))
            have NH1 := Aside0.mk (Kd.R_alloc H1.out (.cells #[.int .u32 0, .slice none 0 0, .slice none 0 0] 26))
            have NH2 := Aside0.mk (Kd.R_alloc H2.out (.cells #[.int .u32 0, .slice none 0 0, .slice none 0 0] 26))
            clear HB H1 H2
            have HB := NHB; have H1 := NH1; have H2 := NH2
            clear NHB NH1 NH2
            refine hK.out _ _ ⟨((blk_cell (blk_below HX.out HB.out) 0).trans rfl), ((blk_cell (blk_below HX.out HB.out) 1).trans rfl), ((blk_cell (blk_below HX.out HB.out) 2).trans rfl)⟩ (fun hHeld => ?_)
            clear hK K
            refine norm_ (a' := ?_) ?_ ?_
            rotate_left
            · show Act.put _ (some 6) _ = _
              simp only [Act.put, List.setIfInBounds_toArray, List.set_cons_zero, List.set_cons_succ, i64_w, i32_w]
              rfl
            refine one_ (i := 5) (N := some 28) #[true, true, true, true, true, true, true, true, true, false, false, true, false] rfl rfl (one_of HT_.out (by kernel_rfl)) (by decide) (fun K hK => ?_)
            refine Kd.R_append_rows_step (Kd.int .i32) wd.heap.size (by rfl) (.tmp 25) (.tmp 27) 23 21 (.int .i32 0) 4 rfl Try.underlying23 (by kernel_rfl) (by rfl) (by decide) (by decide) _ [] vec A1 vec.length c1 (fun _ => True) (fun _ => False) rfl rfl H1.out (Kd.C_below HC1.out (bel_trans HBo.out HB.out)) (fun _ _ h => h) (fun k hk => hk.elim) (fun _ _ => trivial) HB.out HB.out.size (by have := HSM.out; show (0 + _) * 4 ≤ _; omega) ?_
            intro v4 w4 ha hb hg hat
            rw [List.nil_append] at ha
            have NH1 := Aside0.mk ha
            have NHB := Aside0.mk hb
            have NH2 := Aside0.mk (Kd.R_over H2.out H1.out (by decide) hg)
            have NHY := Aside0.mk (blk_grownR HY.out H1.out hg (by decide))
            clear ha hb hg hat
            clear H1 HB H2 HY
            have H1 := NH1; have HB := NHB; have H2 := NH2; have HY := NHY
            clear NH1 NHB NH2 NHY
            obtain ⟨A3, c3, rfl⟩ := Kd.R_slice H1.out
            refine hK.out _ _ ⟨((blk_cell (blk_below HX.out HB.out) 0).trans rfl), ((blk_cell (blk_below HX.out HB.out) 1).trans rfl), ((blk_cell (blk_below HX.out HB.out) 2).trans rfl)⟩ (fun hHeld => ?_)
            clear hK K
            refine norm_ (a' := ?_) ?_ ?_
            rotate_left
            · show Act.put _ (some 28) _ = _
              simp only [Act.put, List.setIfInBounds_toArray, List.set_cons_zero, List.set_cons_succ, i64_w, i32_w]
              rfl
            refine one_ (i := 9) (N := some 32) #[true, true, true, true, true, true, true, true, true, true, false, true, false] rfl rfl (one_of HT_.out (by kernel_rfl)) (by decide) (fun K hK => ?_)
            refine Kd.R_append_rows_step Kd.string wd.heap.size (by rfl) (.tmp 29) (.tmp 31) 24 9 (.string ByteArray.empty) 16 rfl Try.underlying24 (by kernel_rfl) (by rfl) (by decide) (by decide) _ [] tags A2 tags.length c2 (fun _ => True) (fun _ => False) rfl rfl H2.out (Kd.C_below HC2.out (bel_trans HBo.out HB.out)) (fun _ _ h => h) (fun k hk => hk.elim) (fun _ _ => trivial) HB.out HB.out.size (by have := HSM.out; show (0 + _) * 16 ≤ _; omega) ?_
            intro v6 w6 ha hb hg hat
            rw [List.nil_append] at ha
            have NH2 := Aside0.mk ha
            have NHB := Aside0.mk hb
            have NH1 := Aside0.mk (Kd.R_over H1.out H2.out (by decide) hg)
            have NHY := Aside0.mk (blk_grownR HY.out H2.out hg (by decide))
            clear ha hb hg hat
            clear H2 HB H1 HY
            have H2 := NH2; have HB := NHB; have H1 := NH1; have HY := NHY
            clear NH2 NHB NH1 NHY
            obtain ⟨A4, c4, rfl⟩ := Kd.R_slice H2.out
            refine hK.out _ _ ⟨((blk_cell (blk_below HX.out HB.out) 0).trans rfl), ((blk_cell (blk_below HX.out HB.out) 1).trans rfl), ((blk_cell (blk_below HX.out HB.out) 2).trans rfl)⟩ (fun hHeld => ?_)
            clear hK K
            refine norm_ (a' := ?_) ?_ ?_
            rotate_left
            · show Act.put _ (some 32) _ = _
              simp only [Act.put, List.setIfInBounds_toArray, List.set_cons_zero, List.set_cons_succ, i64_w, i32_w]
              rfl
            refine pure_ (i := 10) (N := some 33) (v := ?_) (a' := ?_) #[true, true, true, true, true, true, true, true, true, true, true, true, false] rfl rfl (any_of HT_.out (by kernel_rfl)) (fun _ _ _ h => h) (Or.inl ⟨by rfl, ?_⟩) ?_ ?_
            rotate_left
            · intro w'
              go_simp
              with_reducible rfl
            rotate_left
            · simp only [Act.put, List.setIfInBounds_toArray, List.set_cons_zero, List.set_cons_succ, i64_w, i32_w]
              rfl
            exact norm_ (by simp only [Go.Proofs.YtofmlajanopniaaW.PrintLast.putAll, Act.put, List.setIfInBounds_toArray, List.set_cons_zero, List.set_cons_succ]) (hCont (.slice (some ⟨((World.heap wd).size + 1), 0, none⟩) 0 0, .slice A3 vec.length c3, .slice (some ⟨(World.heap wd).size, 0, none⟩) 0 0, .slice A4 tags.length c4, ((World.heap wd).size + 2)) _ ⟨H1.out, H2.out, HY.out, HYN.out, HB.out⟩)
        · skip
          refine value_ (w1 := ?_) (v := ?_) (by rfl) rfl ?_ ?_
          rotate_left 2
          · go_simp
            constructor
            · rfl
            · rfl
          have HY := Aside0.mk (by have h := heap_alloc_new (World.alloc wd (.cells #[] 9)) (.cells #[.int .u32 0, .slice none 0 0, .slice none 0 0] 26); (try simp only [World.size_alloc] at h); exact h)
          have HYN := Aside0.mk (by have h := HB.out.size; (try simp only [World.size_alloc] at h); exact h)
          have NHB := Aside0.mk (bel_alloc HB.out (.cells #[.int .u32 0, .slice none 0 0, .slice none 0 0] 26))
          have NH2 := Aside0.mk (Kd.R_alloc H2.out (.cells #[.int .u32 0, .slice none 0 0, .slice none 0 0] 26))
          clear HB H2
          have HB := NHB; have H2 := NH2
          clear NHB NH2
          refine hK.out _ _ ⟨((blk_cell (blk_below HX.out HB.out) 0).trans rfl), ((blk_cell (blk_below HX.out HB.out) 1).trans rfl), ((blk_cell (blk_below HX.out HB.out) 2).trans rfl)⟩ (fun hHeld => ?_)
          clear hK K
          refine norm_ (a' := ?_) ?_ ?_
          rotate_left
          · show Act.put _ (some 6) _ = _
            simp only [Act.put, List.setIfInBounds_toArray, List.set_cons_zero, List.set_cons_succ, i64_w, i32_w]
            rfl
          refine one_ (i := 2) (N := some 25) #[true, true, true, true, true, false, true, true, true, false, false, true, false] rfl rfl (one_of HT_.out (by kernel_rfl)) (by decide) (fun K hK => ?_)
          refine value_ (w1 := ?_) (v := ?_) (by rfl) rfl ?_ ?_
          rotate_left 2
          · go_simp
            constructor
            · rfl
            · rfl
          have H1 := Aside0.mk (by have h := R_empty (Kd.int .i32) 21 (World.alloc (World.alloc wd (.cells #[] 9)) (.cells #[.int .u32 0, .slice none 0 0, .slice none 0 0] 26)) wd.heap.size HB.out.size; (try simp only [World.size_alloc] at h); exact h)
          have NHB := Aside0.mk (bel_alloc HB.out (.cells #[] 21))
          have NH2 := Aside0.mk (Kd.R_alloc H2.out (.cells #[] 21))
          have NHY := Aside0.mk (blk_alloc HY.out (.cells #[] 21))
          clear HB H2 HY
          have HB := NHB; have H2 := NH2; have HY := NHY
          clear NHB NH2 NHY
          refine hK.out _ _ ⟨((blk_cell (blk_below HX.out HB.out) 0).trans rfl), ((blk_cell (blk_below HX.out HB.out) 1).trans rfl), ((blk_cell (blk_below HX.out HB.out) 2).trans rfl)⟩ (fun hHeld => ?_)
          clear hK K
          refine norm_ (a' := ?_) ?_ ?_
          rotate_left
          · show Act.put _ (some 25) _ = _
            simp only [Act.put, List.setIfInBounds_toArray, List.set_cons_zero, List.set_cons_succ, i64_w, i32_w]
            rfl
          refine one_ (i := 5) (N := some 28) #[true, true, true, true, true, true, true, true, true, false, false, true, false] rfl rfl (one_of HT_.out (by kernel_rfl)) (by decide) (fun K hK => ?_)
          refine Kd.R_append_rows_step (Kd.int .i32) wd.heap.size (by rfl) (.tmp 25) (.tmp 27) 23 21 (.int .i32 0) 4 rfl Try.underlying23 (by kernel_rfl) (by rfl) (by decide) (by decide) _ [] vec A1 vec.length c1 (fun _ => True) (fun _ => False) rfl rfl H1.out (Kd.C_below HC1.out (bel_trans HBo.out HB.out)) (fun _ _ h => h) (fun k hk => hk.elim) (fun _ _ => trivial) HB.out HB.out.size (by have := HSM.out; show (0 + _) * 4 ≤ _; omega) ?_
          intro v4 w4 ha hb hg hat
          rw [List.nil_append] at ha
          have NH1 := Aside0.mk ha
          have NHB := Aside0.mk hb
          have NH2 := Aside0.mk (Kd.R_over H2.out H1.out (by decide) hg)
          have NHY := Aside0.mk (blk_grownR HY.out H1.out hg (by decide))
          clear ha hb hg hat
          clear H1 HB H2 HY
          have H1 := NH1; have HB := NHB; have H2 := NH2; have HY := NHY
          clear NH1 NHB NH2 NHY
          obtain ⟨A3, c3, rfl⟩ := Kd.R_slice H1.out
          refine hK.out _ _ ⟨((blk_cell (blk_below HX.out HB.out) 0).trans rfl), ((blk_cell (blk_below HX.out HB.out) 1).trans rfl), ((blk_cell (blk_below HX.out HB.out) 2).trans rfl)⟩ (fun hHeld => ?_)
          clear hK K
          refine norm_ (a' := ?_) ?_ ?_
          rotate_left
          · show Act.put _ (some 28) _ = _
            simp only [Act.put, List.setIfInBounds_toArray, List.set_cons_zero, List.set_cons_succ, i64_w, i32_w]
            rfl
          refine one_ (i := 9) (N := some 32) #[true, true, true, true, true, true, true, true, true, true, false, true, false] rfl rfl (one_of HT_.out (by kernel_rfl)) (by decide) (fun K hK => ?_)
          refine Kd.R_append_rows_step Kd.string wd.heap.size (by rfl) (.tmp 29) (.tmp 31) 24 9 (.string ByteArray.empty) 16 rfl Try.underlying24 (by kernel_rfl) (by rfl) (by decide) (by decide) _ [] tags A2 tags.length c2 (fun _ => True) (fun _ => False) rfl rfl H2.out (Kd.C_below HC2.out (bel_trans HBo.out HB.out)) (fun _ _ h => h) (fun k hk => hk.elim) (fun _ _ => trivial) HB.out HB.out.size (by have := HSM.out; show (0 + _) * 16 ≤ _; omega) ?_
          intro v6 w6 ha hb hg hat
          rw [List.nil_append] at ha
          have NH2 := Aside0.mk ha
          have NHB := Aside0.mk hb
          have NH1 := Aside0.mk (Kd.R_over H1.out H2.out (by decide) hg)
          have NHY := Aside0.mk (blk_grownR HY.out H2.out hg (by decide))
          clear ha hb hg hat
          clear H2 HB H1 HY
          have H2 := NH2; have HB := NHB; have H1 := NH1; have HY := NHY
          clear NH2 NHB NH1 NHY
          obtain ⟨A4, c4, rfl⟩ := Kd.R_slice H2.out
          refine hK.out _ _ ⟨((blk_cell (blk_below HX.out HB.out) 0).trans rfl), ((blk_cell (blk_below HX.out HB.out) 1).trans rfl), ((blk_cell (blk_below HX.out HB.out) 2).trans rfl)⟩ (fun hHeld => ?_)
          clear hK K
          refine norm_ (a' := ?_) ?_ ?_
          rotate_left
          · show Act.put _ (some 32) _ = _
            simp only [Act.put, List.setIfInBounds_toArray, List.set_cons_zero, List.set_cons_succ, i64_w, i32_w]
            rfl
          refine pure_ (i := 10) (N := some 33) (v := ?_) (a' := ?_) #[true, true, true, true, true, true, true, true, true, true, true, true, false] rfl rfl (any_of HT_.out (by kernel_rfl)) (fun _ _ _ h => h) (Or.inl ⟨by rfl, ?_⟩) ?_ ?_
          rotate_left
          · intro w'
            go_simp
            with_reducible rfl
          rotate_left
          · simp only [Act.put, List.setIfInBounds_toArray, List.set_cons_zero, List.set_cons_succ, i64_w, i32_w]
            rfl
          exact norm_ (by simp only [Go.Proofs.YtofmlajanopniaaW.PrintLast.putAll, Act.put, List.setIfInBounds_toArray, List.set_cons_zero, List.set_cons_succ]) (hCont (.slice (some ⟨((World.heap wd).size + 2), 0, none⟩) 0 0, .slice A3 vec.length c3, .slice (some ⟨(World.heap wd).size, 0, none⟩) 0 0, .slice A4 tags.length c4, ((World.heap wd).size + 1)) _ ⟨H1.out, H2.out, HY.out, HYN.out, HB.out⟩)
      · skip
        refine value_ (w1 := ?_) (v := ?_) (by rfl) rfl ?_ ?_
        rotate_left 2
        · go_simp
          constructor
          · rfl
          · rfl
        have HY := Aside0.mk (by have h := heap_alloc_new wd (.cells #[.int .u32 0, .slice none 0 0, .slice none 0 0] 26); (try simp only [World.size_alloc] at h); exact h)
        have HYN := Aside0.mk (by have h := HB.out.size; (try simp only [World.size_alloc] at h); exact h)
        have NHB := Aside0.mk (bel_alloc HB.out (.cells #[.int .u32 0, .slice none 0 0, .slice none 0 0] 26))
        clear HB
        have HB := NHB
        clear NHB
        refine hK.out _ _ ⟨((blk_cell (blk_below HX.out HB.out) 0).trans rfl), ((blk_cell (blk_below HX.out HB.out) 1).trans rfl), ((blk_cell (blk_below HX.out HB.out) 2).trans rfl)⟩ (fun hHeld => ?_)
        clear hK K
        refine norm_ (a' := ?_) ?_ ?_
        rotate_left
        · show Act.put _ (some 6) _ = _
          simp only [Act.put, List.setIfInBounds_toArray, List.set_cons_zero, List.set_cons_succ, i64_w, i32_w]
          rfl
        refine two_ (i := 2) (j := 6) (Ni := some 25) (Nj := some 29) #[true, true, true, true, true, false, false, true, true, false, false, true, false] #[true, true, false, true, true, false, true, true, true, false, false, true, false] rfl rfl rfl rfl (two_of HT_.out (by kernel_rfl)) (by decide) (by decide) (fun K hK => ?_) (fun K hK => ?_)
        · skip
          refine value_ (w1 := ?_) (v := ?_) (by rfl) rfl ?_ ?_
          rotate_left 2
          · go_simp
            constructor
            · rfl
            · rfl
          have H1 := Aside0.mk (by have h := R_empty (Kd.int .i32) 21 (World.alloc wd (.cells #[.int .u32 0, .slice none 0 0, .slice none 0 0] 26)) wd.heap.size HB.out.size; (try simp only [World.size_alloc] at h); exact h)
          have NHB := Aside0.mk (bel_alloc HB.out (.cells #[] 21))
          have NHY := Aside0.mk (blk_alloc HY.out (.cells #[] 21))
          clear HB HY
          have HB := NHB; have HY := NHY
          clear NHB NHY
          refine hK.out _ _ ⟨((blk_cell (blk_below HX.out HB.out) 0).trans rfl), ((blk_cell (blk_below HX.out HB.out) 1).trans rfl), ((blk_cell (blk_below HX.out HB.out) 2).trans rfl)⟩ (fun hHeld => ?_)
          clear hK K
          refine norm_ (a' := ?_) ?_ ?_
          rotate_left
          · show Act.put _ (some 25) _ = _
            simp only [Act.put, List.setIfInBounds_toArray, List.set_cons_zero, List.set_cons_succ, i64_w, i32_w]
            rfl
          refine two_ (i := 5) (j := 6) (Ni := some 28) (Nj := some 29) #[true, true, true, true, true, true, false, true, true, false, false, true, false] #[true, true, true, true, true, false, true, true, true, false, false, true, false] rfl rfl rfl rfl (two_of HT_.out (by kernel_rfl)) (by decide) (by decide) (fun K hK => ?_) (fun K hK => ?_)
          · skip
            refine Kd.R_append_rows_step (Kd.int .i32) wd.heap.size (by rfl) (.tmp 25) (.tmp 27) 23 21 (.int .i32 0) 4 rfl Try.underlying23 (by kernel_rfl) (by rfl) (by decide) (by decide) _ [] vec A1 vec.length c1 (fun _ => True) (fun _ => False) rfl rfl H1.out (Kd.C_below HC1.out (bel_trans HBo.out HB.out)) (fun _ _ h => h) (fun k hk => hk.elim) (fun _ _ => trivial) HB.out HB.out.size (by have := HSM.out; show (0 + _) * 4 ≤ _; omega) ?_
            intro v4 w4 ha hb hg hat
            rw [List.nil_append] at ha
            have NH1 := Aside0.mk ha
            have NHB := Aside0.mk hb
            have NHY := Aside0.mk (blk_grownR HY.out H1.out hg (by decide))
            clear ha hb hg hat
            clear H1 HB HY
            have H1 := NH1; have HB := NHB; have HY := NHY
            clear NH1 NHB NHY
            obtain ⟨A3, c3, rfl⟩ := Kd.R_slice H1.out
            refine hK.out _ _ ⟨((blk_cell (blk_below HX.out HB.out) 0).trans rfl), ((blk_cell (blk_below HX.out HB.out) 1).trans rfl), ((blk_cell (blk_below HX.out HB.out) 2).trans rfl)⟩ (fun hHeld => ?_)
            clear hK K
            refine norm_ (a' := ?_) ?_ ?_
            rotate_left
            · show Act.put _ (some 28) _ = _
              simp only [Act.put, List.setIfInBounds_toArray, List.set_cons_zero, List.set_cons_succ, i64_w, i32_w]
              rfl
            refine one_ (i := 6) (N := some 29) #[true, true, true, true, true, true, true, true, true, false, false, true, false] rfl rfl (one_of HT_.out (by kernel_rfl)) (by decide) (fun K hK => ?_)
            refine value_ (w1 := ?_) (v := ?_) (by rfl) rfl ?_ ?_
            rotate_left 2
            · go_simp
              constructor
              · rfl
              · rfl
            have H2 := Aside0.mk (by have h := R_empty Kd.string 9 w4 wd.heap.size HB.out.size; (try simp only [World.size_alloc] at h); exact h)
            have NHB := Aside0.mk (bel_alloc HB.out (.cells #[] 9))
            have NH1 := Aside0.mk (Kd.R_alloc H1.out (.cells #[] 9))
            have NHY := Aside0.mk (blk_alloc HY.out (.cells #[] 9))
            clear HB H1 HY
            have HB := NHB; have H1 := NH1; have HY := NHY
            clear NHB NH1 NHY
            refine hK.out _ _ ⟨((blk_cell (blk_below HX.out HB.out) 0).trans rfl), ((blk_cell (blk_below HX.out HB.out) 1).trans rfl), ((blk_cell (blk_below HX.out HB.out) 2).trans rfl)⟩ (fun hHeld => ?_)
            clear hK K
            refine norm_ (a' := ?_) ?_ ?_
            rotate_left
            · show Act.put _ (some 29) _ = _
              simp only [Act.put, List.setIfInBounds_toArray, List.set_cons_zero, List.set_cons_succ, i64_w, i32_w]
              rfl
            refine one_ (i := 9) (N := some 32) #[true, true, true, true, true, true, true, true, true, true, false, true, false] rfl rfl (one_of HT_.out (by kernel_rfl)) (by decide) (fun K hK => ?_)
            refine Kd.R_append_rows_step Kd.string wd.heap.size (by rfl) (.tmp 29) (.tmp 31) 24 9 (.string ByteArray.empty) 16 rfl Try.underlying24 (by kernel_rfl) (by rfl) (by decide) (by decide) _ [] tags A2 tags.length c2 (fun _ => True) (fun _ => False) rfl rfl H2.out (Kd.C_below HC2.out (bel_trans HBo.out HB.out)) (fun _ _ h => h) (fun k hk => hk.elim) (fun _ _ => trivial) HB.out HB.out.size (by have := HSM.out; show (0 + _) * 16 ≤ _; omega) ?_
            intro v6 w6 ha hb hg hat
            rw [List.nil_append] at ha
            have NH2 := Aside0.mk ha
            have NHB := Aside0.mk hb
            have NH1 := Aside0.mk (Kd.R_over H1.out H2.out (by decide) hg)
            have NHY := Aside0.mk (blk_grownR HY.out H2.out hg (by decide))
            clear ha hb hg hat
            clear H2 HB H1 HY
            have H2 := NH2; have HB := NHB; have H1 := NH1; have HY := NHY
            clear NH2 NHB NH1 NHY
            obtain ⟨A4, c4, rfl⟩ := Kd.R_slice H2.out
            refine hK.out _ _ ⟨((blk_cell (blk_below HX.out HB.out) 0).trans rfl), ((blk_cell (blk_below HX.out HB.out) 1).trans rfl), ((blk_cell (blk_below HX.out HB.out) 2).trans rfl)⟩ (fun hHeld => ?_)
            clear hK K
            refine norm_ (a' := ?_) ?_ ?_
            rotate_left
            · show Act.put _ (some 32) _ = _
              simp only [Act.put, List.setIfInBounds_toArray, List.set_cons_zero, List.set_cons_succ, i64_w, i32_w]
              rfl
            refine pure_ (i := 10) (N := some 33) (v := ?_) (a' := ?_) #[true, true, true, true, true, true, true, true, true, true, true, true, false] rfl rfl (any_of HT_.out (by kernel_rfl)) (fun _ _ _ h => h) (Or.inl ⟨by rfl, ?_⟩) ?_ ?_
            rotate_left
            · intro w'
              go_simp
              with_reducible rfl
            rotate_left
            · simp only [Act.put, List.setIfInBounds_toArray, List.set_cons_zero, List.set_cons_succ, i64_w, i32_w]
              rfl
            exact norm_ (by simp only [Go.Proofs.YtofmlajanopniaaW.PrintLast.putAll, Act.put, List.setIfInBounds_toArray, List.set_cons_zero, List.set_cons_succ]) (hCont (.slice (some ⟨((World.heap wd).size + 1), 0, none⟩) 0 0, .slice A3 vec.length c3, .slice (some ⟨(World.heap w4).size, 0, none⟩) 0 0, .slice A4 tags.length c4, (World.heap wd).size) _ ⟨H1.out, H2.out, HY.out, HYN.out, HB.out⟩)
          · skip
            refine value_ (w1 := ?_) (v := ?_) (by rfl) rfl ?_ ?_
            rotate_left 2
            · go_simp
              constructor
              · rfl
              · rfl
            have H2 := Aside0.mk (by have h := R_empty Kd.string 9 (World.alloc (World.alloc wd (.cells #[.int .u32 0, .slice none 0 0, .slice none 0 0] 26)) (.cells #[] 21)) wd.heap.size HB.out.size; (try simp only [World.size_alloc] at h); exact h)
            have NHB := Aside0.mk (bel_alloc HB.out (.cells #[] 9))
            have NH1 := Aside0.mk (Kd.R_alloc H1.out (.cells #[] 9))
            have NHY := Aside0.mk (blk_alloc HY.out (.cells #[] 9))
            clear HB H1 HY
            have HB := NHB; have H1 := NH1; have HY := NHY
            clear NHB NH1 NHY
            refine hK.out _ _ ⟨((blk_cell (blk_below HX.out HB.out) 0).trans rfl), ((blk_cell (blk_below HX.out HB.out) 1).trans rfl), ((blk_cell (blk_below HX.out HB.out) 2).trans rfl)⟩ (fun hHeld => ?_)
            clear hK K
            refine norm_ (a' := ?_) ?_ ?_
            rotate_left
            · show Act.put _ (some 29) _ = _
              simp only [Act.put, List.setIfInBounds_toArray, List.set_cons_zero, List.set_cons_succ, i64_w, i32_w]
              rfl
            refine one_ (i := 5) (N := some 28) #[true, true, true, true, true, true, true, true, true, false, false, true, false] rfl rfl (one_of HT_.out (by kernel_rfl)) (by decide) (fun K hK => ?_)
            refine Kd.R_append_rows_step (Kd.int .i32) wd.heap.size (by rfl) (.tmp 25) (.tmp 27) 23 21 (.int .i32 0) 4 rfl Try.underlying23 (by kernel_rfl) (by rfl) (by decide) (by decide) _ [] vec A1 vec.length c1 (fun _ => True) (fun _ => False) rfl rfl H1.out (Kd.C_below HC1.out (bel_trans HBo.out HB.out)) (fun _ _ h => h) (fun k hk => hk.elim) (fun _ _ => trivial) HB.out HB.out.size (by have := HSM.out; show (0 + _) * 4 ≤ _; omega) ?_
            intro v4 w4 ha hb hg hat
            rw [List.nil_append] at ha
            have NH1 := Aside0.mk ha
            have NHB := Aside0.mk hb
            have NH2 := Aside0.mk (Kd.R_over H2.out H1.out (by decide) hg)
            have NHY := Aside0.mk (blk_grownR HY.out H1.out hg (by decide))
            clear ha hb hg hat
            clear H1 HB H2 HY
            have H1 := NH1; have HB := NHB; have H2 := NH2; have HY := NHY
            clear NH1 NHB NH2 NHY
            obtain ⟨A3, c3, rfl⟩ := Kd.R_slice H1.out
            refine hK.out _ _ ⟨((blk_cell (blk_below HX.out HB.out) 0).trans rfl), ((blk_cell (blk_below HX.out HB.out) 1).trans rfl), ((blk_cell (blk_below HX.out HB.out) 2).trans rfl)⟩ (fun hHeld => ?_)
            clear hK K
            refine norm_ (a' := ?_) ?_ ?_
            rotate_left
            · show Act.put _ (some 28) _ = _
              simp only [Act.put, List.setIfInBounds_toArray, List.set_cons_zero, List.set_cons_succ, i64_w, i32_w]
              rfl
            refine one_ (i := 9) (N := some 32) #[true, true, true, true, true, true, true, true, true, true, false, true, false] rfl rfl (one_of HT_.out (by kernel_rfl)) (by decide) (fun K hK => ?_)
            refine Kd.R_append_rows_step Kd.string wd.heap.size (by rfl) (.tmp 29) (.tmp 31) 24 9 (.string ByteArray.empty) 16 rfl Try.underlying24 (by kernel_rfl) (by rfl) (by decide) (by decide) _ [] tags A2 tags.length c2 (fun _ => True) (fun _ => False) rfl rfl H2.out (Kd.C_below HC2.out (bel_trans HBo.out HB.out)) (fun _ _ h => h) (fun k hk => hk.elim) (fun _ _ => trivial) HB.out HB.out.size (by have := HSM.out; show (0 + _) * 16 ≤ _; omega) ?_
            intro v6 w6 ha hb hg hat
            rw [List.nil_append] at ha
            have NH2 := Aside0.mk ha
            have NHB := Aside0.mk hb
            have NH1 := Aside0.mk (Kd.R_over H1.out H2.out (by decide) hg)
            have NHY := Aside0.mk (blk_grownR HY.out H2.out hg (by decide))
            clear ha hb hg hat
            clear H2 HB H1 HY
            have H2 := NH2; have HB := NHB; have H1 := NH1; have HY := NHY
            clear NH2 NHB NH1 NHY
            obtain ⟨A4, c4, rfl⟩ := Kd.R_slice H2.out
            refine hK.out _ _ ⟨((blk_cell (blk_below HX.out HB.out) 0).trans rfl), ((blk_cell (blk_below HX.out HB.out) 1).trans rfl), ((blk_cell (blk_below HX.out HB.out) 2).trans rfl)⟩ (fun hHeld => ?_)
            clear hK K
            refine norm_ (a' := ?_) ?_ ?_
            rotate_left
            · show Act.put _ (some 32) _ = _
              simp only [Act.put, List.setIfInBounds_toArray, List.set_cons_zero, List.set_cons_succ, i64_w, i32_w]
              rfl
            refine pure_ (i := 10) (N := some 33) (v := ?_) (a' := ?_) #[true, true, true, true, true, true, true, true, true, true, true, true, false] rfl rfl (any_of HT_.out (by kernel_rfl)) (fun _ _ _ h => h) (Or.inl ⟨by rfl, ?_⟩) ?_ ?_
            rotate_left
            · intro w'
              go_simp
              with_reducible rfl
            rotate_left
            · simp only [Act.put, List.setIfInBounds_toArray, List.set_cons_zero, List.set_cons_succ, i64_w, i32_w]
              rfl
            exact norm_ (by simp only [Go.Proofs.YtofmlajanopniaaW.PrintLast.putAll, Act.put, List.setIfInBounds_toArray, List.set_cons_zero, List.set_cons_succ]) (hCont (.slice (some ⟨((World.heap wd).size + 1), 0, none⟩) 0 0, .slice A3 vec.length c3, .slice (some ⟨((World.heap wd).size + 2), 0, none⟩) 0 0, .slice A4 tags.length c4, (World.heap wd).size) _ ⟨H1.out, H2.out, HY.out, HYN.out, HB.out⟩)
        · skip
          refine value_ (w1 := ?_) (v := ?_) (by rfl) rfl ?_ ?_
          rotate_left 2
          · go_simp
            constructor
            · rfl
            · rfl
          have H2 := Aside0.mk (by have h := R_empty Kd.string 9 (World.alloc wd (.cells #[.int .u32 0, .slice none 0 0, .slice none 0 0] 26)) wd.heap.size HB.out.size; (try simp only [World.size_alloc] at h); exact h)
          have NHB := Aside0.mk (bel_alloc HB.out (.cells #[] 9))
          have NHY := Aside0.mk (blk_alloc HY.out (.cells #[] 9))
          clear HB HY
          have HB := NHB; have HY := NHY
          clear NHB NHY
          refine hK.out _ _ ⟨((blk_cell (blk_below HX.out HB.out) 0).trans rfl), ((blk_cell (blk_below HX.out HB.out) 1).trans rfl), ((blk_cell (blk_below HX.out HB.out) 2).trans rfl)⟩ (fun hHeld => ?_)
          clear hK K
          refine norm_ (a' := ?_) ?_ ?_
          rotate_left
          · show Act.put _ (some 29) _ = _
            simp only [Act.put, List.setIfInBounds_toArray, List.set_cons_zero, List.set_cons_succ, i64_w, i32_w]
            rfl
          refine one_ (i := 2) (N := some 25) #[true, true, true, true, true, false, true, true, true, false, false, true, false] rfl rfl (one_of HT_.out (by kernel_rfl)) (by decide) (fun K hK => ?_)
          refine value_ (w1 := ?_) (v := ?_) (by rfl) rfl ?_ ?_
          rotate_left 2
          · go_simp
            constructor
            · rfl
            · rfl
          have H1 := Aside0.mk (by have h := R_empty (Kd.int .i32) 21 (World.alloc (World.alloc wd (.cells #[.int .u32 0, .slice none 0 0, .slice none 0 0] 26)) (.cells #[] 9)) wd.heap.size HB.out.size; (try simp only [World.size_alloc] at h); exact h)
          have NHB := Aside0.mk (bel_alloc HB.out (.cells #[] 21))
          have NH2 := Aside0.mk (Kd.R_alloc H2.out (.cells #[] 21))
          have NHY := Aside0.mk (blk_alloc HY.out (.cells #[] 21))
          clear HB H2 HY
          have HB := NHB; have H2 := NH2; have HY := NHY
          clear NHB NH2 NHY
          refine hK.out _ _ ⟨((blk_cell (blk_below HX.out HB.out) 0).trans rfl), ((blk_cell (blk_below HX.out HB.out) 1).trans rfl), ((blk_cell (blk_below HX.out HB.out) 2).trans rfl)⟩ (fun hHeld => ?_)
          clear hK K
          refine norm_ (a' := ?_) ?_ ?_
          rotate_left
          · show Act.put _ (some 25) _ = _
            simp only [Act.put, List.setIfInBounds_toArray, List.set_cons_zero, List.set_cons_succ, i64_w, i32_w]
            rfl
          refine one_ (i := 5) (N := some 28) #[true, true, true, true, true, true, true, true, true, false, false, true, false] rfl rfl (one_of HT_.out (by kernel_rfl)) (by decide) (fun K hK => ?_)
          refine Kd.R_append_rows_step (Kd.int .i32) wd.heap.size (by rfl) (.tmp 25) (.tmp 27) 23 21 (.int .i32 0) 4 rfl Try.underlying23 (by kernel_rfl) (by rfl) (by decide) (by decide) _ [] vec A1 vec.length c1 (fun _ => True) (fun _ => False) rfl rfl H1.out (Kd.C_below HC1.out (bel_trans HBo.out HB.out)) (fun _ _ h => h) (fun k hk => hk.elim) (fun _ _ => trivial) HB.out HB.out.size (by have := HSM.out; show (0 + _) * 4 ≤ _; omega) ?_
          intro v4 w4 ha hb hg hat
          rw [List.nil_append] at ha
          have NH1 := Aside0.mk ha
          have NHB := Aside0.mk hb
          have NH2 := Aside0.mk (Kd.R_over H2.out H1.out (by decide) hg)
          have NHY := Aside0.mk (blk_grownR HY.out H1.out hg (by decide))
          clear ha hb hg hat
          clear H1 HB H2 HY
          have H1 := NH1; have HB := NHB; have H2 := NH2; have HY := NHY
          clear NH1 NHB NH2 NHY
          obtain ⟨A3, c3, rfl⟩ := Kd.R_slice H1.out
          refine hK.out _ _ ⟨((blk_cell (blk_below HX.out HB.out) 0).trans rfl), ((blk_cell (blk_below HX.out HB.out) 1).trans rfl), ((blk_cell (blk_below HX.out HB.out) 2).trans rfl)⟩ (fun hHeld => ?_)
          clear hK K
          refine norm_ (a' := ?_) ?_ ?_
          rotate_left
          · show Act.put _ (some 28) _ = _
            simp only [Act.put, List.setIfInBounds_toArray, List.set_cons_zero, List.set_cons_succ, i64_w, i32_w]
            rfl
          refine one_ (i := 9) (N := some 32) #[true, true, true, true, true, true, true, true, true, true, false, true, false] rfl rfl (one_of HT_.out (by kernel_rfl)) (by decide) (fun K hK => ?_)
          refine Kd.R_append_rows_step Kd.string wd.heap.size (by rfl) (.tmp 29) (.tmp 31) 24 9 (.string ByteArray.empty) 16 rfl Try.underlying24 (by kernel_rfl) (by rfl) (by decide) (by decide) _ [] tags A2 tags.length c2 (fun _ => True) (fun _ => False) rfl rfl H2.out (Kd.C_below HC2.out (bel_trans HBo.out HB.out)) (fun _ _ h => h) (fun k hk => hk.elim) (fun _ _ => trivial) HB.out HB.out.size (by have := HSM.out; show (0 + _) * 16 ≤ _; omega) ?_
          intro v6 w6 ha hb hg hat
          rw [List.nil_append] at ha
          have NH2 := Aside0.mk ha
          have NHB := Aside0.mk hb
          have NH1 := Aside0.mk (Kd.R_over H1.out H2.out (by decide) hg)
          have NHY := Aside0.mk (blk_grownR HY.out H2.out hg (by decide))
          clear ha hb hg hat
          clear H2 HB H1 HY
          have H2 := NH2; have HB := NHB; have H1 := NH1; have HY := NHY
          clear NH2 NHB NH1 NHY
          obtain ⟨A4, c4, rfl⟩ := Kd.R_slice H2.out
          refine hK.out _ _ ⟨((blk_cell (blk_below HX.out HB.out) 0).trans rfl), ((blk_cell (blk_below HX.out HB.out) 1).trans rfl), ((blk_cell (blk_below HX.out HB.out) 2).trans rfl)⟩ (fun hHeld => ?_)
          clear hK K
          refine norm_ (a' := ?_) ?_ ?_
          rotate_left
          · show Act.put _ (some 32) _ = _
            simp only [Act.put, List.setIfInBounds_toArray, List.set_cons_zero, List.set_cons_succ, i64_w, i32_w]
            rfl
          refine pure_ (i := 10) (N := some 33) (v := ?_) (a' := ?_) #[true, true, true, true, true, true, true, true, true, true, true, true, false] rfl rfl (any_of HT_.out (by kernel_rfl)) (fun _ _ _ h => h) (Or.inl ⟨by rfl, ?_⟩) ?_ ?_
          rotate_left
          · intro w'
            go_simp
            with_reducible rfl
          rotate_left
          · simp only [Act.put, List.setIfInBounds_toArray, List.set_cons_zero, List.set_cons_succ, i64_w, i32_w]
            rfl
          exact norm_ (by simp only [Go.Proofs.YtofmlajanopniaaW.PrintLast.putAll, Act.put, List.setIfInBounds_toArray, List.set_cons_zero, List.set_cons_succ]) (hCont (.slice (some ⟨((World.heap wd).size + 2), 0, none⟩) 0 0, .slice A3 vec.length c3, .slice (some ⟨((World.heap wd).size + 1), 0, none⟩) 0 0, .slice A4 tags.length c4, (World.heap wd).size) _ ⟨H1.out, H2.out, HY.out, HYN.out, HB.out⟩)
    rintro ⟨va, vb, vc, vd, by_⟩ w5 ⟨h1, h2, h3, h4, hb⟩
    clear HB
    have H1 := Aside0.mk (show (Kd.int .i32).R 21 w5 wd.heap.size (fun _ => True) vb vec from h1)
    have H2 := Aside0.mk (show Kd.string.R 9 w5 wd.heap.size (fun _ => True) vd tags from h2)
    have HG := Aside0.mk (show (World.heap w5)[by_]? = some (.cells #[.int .u32 0, .slice none 0 0, .slice none 0 0] 26 (0, 0)) from h3)
    have HBY := Aside0.mk (show wd.heap.size ≤ by_ from h4)
    have HB := Aside0.mk hb
    clear h1 h2 h3 h4 hb
    obtain ⟨A3, c3, rfl⟩ := Kd.R_slice H1.out
    obtain ⟨A4, c4, rfl⟩ := Kd.R_slice H2.out
    have hHeld := And.intro ((blk_cell (blk_below HX.out HB.out) 0).trans rfl) (And.intro ((blk_cell (blk_below HX.out HB.out) 1).trans rfl) ((blk_cell (blk_below HX.out HB.out) 2).trans rfl))
    refine norm_ (a' := ?_) ?_ ?_
    rotate_left
    · simp only [Go.Proofs.YtofmlajanopniaaW.PrintLast.putAll, Act.put, List.setIfInBounds_toArray, List.set_cons_zero, List.set_cons_succ]
      rfl
    refine last_ (i := 12) (N := none) #[true, true, true, true, true, true, true, true, true, true, true, true, true] rfl rfl (one_of HT_.out (by kernel_rfl)) (by decide) (fun K hK => ?_)
    have yg0 := (blk_cell HG.out 0).trans rfl
    have yg1 := (blk_cell HG.out 1).trans rfl
    have yg2 := (blk_cell HG.out 2).trans rfl
    have fz : ∀ j, w5.frozen? ⟨by_, j, none⟩ = false := fun j => blk_frozen HG.out j
    refine skip_ (w1 := ?_) (by rfl) rfl ?_ ?_
    rotate_left
    · go_simp
      rfl
    clear yg0 yg1 yg2 fz
    refine hK.out _ _ ?_
    clear hK K
    refine done_ (done_of HT_.out (by kernel_rfl)) ?_
    obtain ⟨w8, hw8⟩ : ∃ z, (((w5.setCell ⟨by_, 0, none⟩ (.int .u32 id)).setCell ⟨by_, 1, none⟩ (.slice A3 vec.length c3)).setCell ⟨by_, 2, none⟩ (.slice A4 tags.length c4)) = z := ⟨_, rfl⟩
    have HB8 := below_set (j := 2) (v := .slice A4 tags.length c4) (below_set (j := 1) (v := .slice A3 vec.length c3) (below_set (j := 0) (v := .int .u32 id) HB.out HBY.out) HBY.out) HBY.out
    have HV := Aside0.mk (Kd.R_set (Kd.R_set (Kd.R_set H1.out HG.out (by decide) 0 (.int .u32 id)) (blk_set HG.out 0 _) (by decide) 1 (.slice A3 vec.length c3)) (blk_set (blk_set HG.out 0 _) 1 _) (by decide) 2 (.slice A4 tags.length c4))
    have HT := Aside0.mk (Kd.R_set (Kd.R_set (Kd.R_set H2.out HG.out (by decide) 0 (.int .u32 id)) (blk_set HG.out 0 _) (by decide) 1 (.slice A3 vec.length c3)) (blk_set (blk_set HG.out 0 _) 1 _) (by decide) 2 (.slice A4 tags.length c4))
    have HY := Aside0.mk (blk_put (blk_put (blk_put HG.out 0 (.int .u32 id) rfl) 1 (.slice A3 vec.length c3) rfl) 2 (.slice A4 tags.length c4) (cs' := #[.int .u32 id, .slice A3 vec.length c3, .slice A4 tags.length c4]) rfl)
    rw [hw8] at HB8 HV HT HY ⊢
    have HSB := Aside0.mk HBo.out.size
    have HP := Aside0.mk (HP.out.below HB8)
    have HX := Aside0.mk (blk_below HX.out HB8)
    clear hw8 HB8 HG H1 H2 HB HBo HBY
    obtain ⟨b3, hn3, hz3⟩ := arr_int HV.out
    have HN3 := Aside0.mk hn3
    have HR1 := Aside0.mk (Kd.R_reads' HV.out)
    have HR2 := Aside0.mk (Kd.R_reads' HT.out)
    obtain ⟨N8, hN8⟩ : ∃ z, w8.heap.size = z := ⟨_, rfl⟩
    have HN8 := Aside0.mk hN8
    have HGB := Aside0.mk (show g < N8 ∧ w.heap.size ≤ g by rw [← hN8]; have := HP.out.low g rfl; exact ⟨this.2, this.1⟩)
    have HGT := Aside0.mk HP.out.boxT.2
    have HBN := Aside0.mk (show by_ < N8 ∧ by_ ≠ g from ⟨by rw [← hN8]; exact blk_lt HY.out, fun e => by obtain ⟨c, hc⟩ := HGT.out; rw [← e] at hc; exact absurd (blk_type HY.out hc) (by decide)⟩)
    have HB3 := Aside0.mk (show 0 < vec.length → w.heap.size ≤ b3 ∧ b3 < N8 ∧ b3 ≠ g from fun hn => ⟨Nat.le_trans HSB.out (hz3 hn).1, by rw [← hN8]; exact (hz3 hn).2.1, fun e => by obtain ⟨c, hc⟩ := HGT.out; obtain ⟨c2, hc2, -⟩ := (hn3 hn).2; rw [e] at hc2; exact absurd (blk_type hc2 hc) (by decide)⟩)
    have HF0 := Aside0.mk (show ∀ k, (fun k => k = g) k → k = g ∨ N8 ≤ k from fun k hk => .inl hk)
    obtain ⟨F0, hF0⟩ : ∃ z : Nat → Prop, (fun k => k = g) = z := ⟨_, rfl⟩
    rw [hF0] at HP HF0
    have z0 := (blk_cell HY.out 0).trans rfl
    have z1 := (blk_cell HY.out 1).trans rfl
    have z2 := (blk_cell HY.out 2).trans rfl
    have HS2 := Aside0.mk (own2_small (id := id) (lv := lv) HSM.out.1 HSM.out.2)
    have HLK := Aside0.mk (own2_link id vec tags lv)
    have HT2 := Aside0.mk (own2_there id vec tags lv)
    clear hn3 hz3 hN8 hF0 HX HV HT HBXE HGT
    go_wp2_with (first
      | (have := HG11; go_at_call 15; go_must (with_reducible refine (HG11.out.node0 HSM3.out HNN.out HTH.out).mono ?_); rintro e w12 ⟨⟨B1, d1, B2, d2, r1, cp1, φ1, rfl, hR⟩, hb⟩; have HR12 := Aside0.mk hR; have HB12 := Aside0.mk hb; have HG12 := Aside0.mk (HG11.out.below hb); have HY12 := Aside0.mk (blk_below HY11.out hb); have HN12 := Aside0.mk (HN11.out.below hb); clear hR hb)
      | (have := HG10; go_at_call 14; go_must (with_reducible refine (own_linked HG10.out).mono ?_); rintro e w11 ⟨rfl, ⟨F3, hG, hF3⟩, hO⟩; have HF3 := Aside0.mk (show ∀ k, F3 k → k = g ∨ N8 ≤ k from fun k hk => by rcases hF3 k hk with h | h; exact HF2.out k h; exact .inr (Nat.le_trans (Nat.le_trans (Nat.le_of_eq HN8.out.symm) HS10.out) h.1)); have HS11 := Aside0.mk (Nat.le_trans HS10.out hO.size); have HY11 := Aside0.mk ((hO.block by_ (blk_lt HY10.out) (fun e => by have h1 := HF2.out by_ e; have h2 := HBN.out; omega)).trans HY10.out); have HN11 := Aside0.mk (HN10.out.only hO (fun hn e => by have h1 := HF2.out b3 e; have h2 := HB3.out hn; omega)); obtain ⟨s3, hs3⟩ : ∃ z, (own2 id vec tags lv).setL 0 0 (linked (own2 id vec tags lv) ((0 : Nat) : Int) ((1 : Nat) : Int) ((0 : Nat) : Int) 3) = z := ⟨_, rfl⟩; rw [hs3] at hG HLK; obtain ⟨n0, hn0⟩ : ∃ z, own2n id vec tags lv = z := ⟨_, rfl⟩; rw [hn0] at HLK; have HSM3 := Aside0.mk (show s3.Small by rw [← hs3, own2_lk]; exact HS2.out.1); have HNS := Aside0.mk (show n0.Sm ∧ n0.links[0]? = some [1] ∧ n0.vec.length = vec.length by rw [← hn0]; exact ⟨HS2.out.2.1, HS2.out.2.2, rfl⟩); have HNN := Aside0.mk HLK.out; have HTH := Aside0.mk (show s3.there ((0 : Nat) : Int) 0 = true from there_iff.2 ⟨0, 0, n0, rfl, rfl, HLK.out, by have := (List.getElem?_eq_some_iff.1 HNS.out.2.1).1; exact this⟩); have HG11 := Aside0.mk hG; clear hG hF3 hO hs3 hn0)
      | (have := HG9; go_at_call 13; go_must (with_reducible refine (GT.add_n HG9.out (own1_len _ _ _ _) 0 [] [] none 0 0 none 0 0 rfl rfl (Nat.le_refl _) (Kd.C_nil _ _) (Nat.le_refl _) (Kd.C_nil _ _) (by omega) (by omega) lv 1).mono ?_); rintro e w10 ⟨rfl, hG, hO⟩; have HF2 := Aside0.mk (show ∀ k, more F1 w9 w10 k → k = g ∨ N8 ≤ k from fun k hk => by rcases hk with h | h; exact HF1.out k h; exact .inr (Nat.le_trans (Nat.le_trans (Nat.le_of_eq HN8.out.symm) HS9.out) h.1)); have HG10 := Aside0.mk (show GX w w10 g (more F1 w9 w10) (own2 id vec tags lv) from hG); have HS10 := Aside0.mk (Nat.le_trans HS9.out hO.size); have HY10 := Aside0.mk ((hO.block by_ (blk_lt HY9.out) (fun e => by have h1 := HF1.out by_ e; have h2 := HBN.out; omega)).trans HY9.out); have HN10 := Aside0.mk (HN9.out.only hO (fun hn e => by have h1 := HF1.out b3 e; have h2 := HB3.out hn; omega)); clear hG hO)
      | (go_at_call 13; go_must (with_reducible refine (GT.add_ HP.out (by simp) id vec tags A3 c3 A4 c4 HR1.out.2.1 HR1.out.2.2 HR2.out.2.1 HR2.out.2.2 HSM.out.1 HSM.out.2 lv 1).mono ?_); rintro e w9 ⟨rfl, hG, hO⟩; have HF1' := Aside0.mk (show ∀ k, more F0 w8 w9 k → k = g ∨ N8 ≤ k from fun k hk => by rcases hk with h | h; exact HF0.out k h; exact .inr (Nat.le_trans (Nat.le_of_eq HN8.out.symm) h.1)); obtain ⟨F1, hF1⟩ : ∃ z, more F0 w8 w9 = z := ⟨_, rfl⟩; rw [hF1] at hG HF1'; have HF1 := HF1'; have HG9 := Aside0.mk hG; have HS9 := Aside0.mk hO.size; have HY9 := Aside0.mk ((hO.block by_ (blk_lt HY.out) (fun e => by have h1 := HF0.out by_ e; have h2 := HBN.out; omega)).trans HY.out); have HN9 := Aside0.mk (HN3.out.only hO (fun hn e => by have h1 := HF0.out b3 e; have h2 := HB3.out hn; omega)); clear hG hO hF1 z0 z1 z2 HP HF1'))
    have hba := below_alloc (Below.refl w12.heap.size w12) (.cells #[.int .u32 n0.id, .slice B1 n0.vec.length d1, .slice B2 n0.tags.length d2, .int .u64 n0.fr, .int .u64 n0.un, .slice (some ⟨r1, 0, none⟩) n0.links.length cp1] 37)
    have HG := Aside0.mk (HG12.out.below hba)
    have HA := Aside0.mk (HR12.out.below hba)
    have HBW := Aside0.mk (heap_alloc_new w12 (.cells #[.int .u32 n0.id, .slice B1 n0.vec.length d1, .slice B2 n0.tags.length d2, .int .u64 n0.fr, .int .u64 n0.un, .slice (some ⟨r1, 0, none⟩) n0.links.length cp1] 37))
    have HY := Aside0.mk (blk_below HY12.out hba)
    have HN := Aside0.mk (HN12.out.below hba)
    have HFL := Aside0.mk HG11.out.low
    have HSS := Aside0.mk (show N8 ≤ w11.heap.size ∧ w11.heap.size ≤ w12.heap.size from ⟨by have h1 := HGB.out; have h2 := HF3.out; have h3 := HS11.out; have h4 := HN8.out; omega, HB12.out.size⟩)
    have HP1' := Aside0.mk (show ∀ k, since w11 w12 k → w11.heap.size ≤ k ∧ k < w12.heap.size from fun k hk => hk)
    obtain ⟨P1, hP1⟩ : ∃ z, since w11 w12 = z := ⟨_, rfl⟩
    rw [hP1] at HA HP1'
    have HP1 := HP1'
    obtain ⟨N11, hN11⟩ : ∃ z, w11.heap.size = z := ⟨_, rfl⟩
    obtain ⟨bn, hbn⟩ : ∃ z, w12.heap.size = z := ⟨_, rfl⟩
    have HZ := Aside0.mk (show bn < (w12.alloc (.cells #[.int .u32 n0.id, .slice B1 n0.vec.length d1, .slice B2 n0.tags.length d2, .int .u64 n0.fr, .int .u64 n0.un, .slice (some ⟨r1, 0, none⟩) n0.links.length cp1] 37)).heap.size by rw [World.size_alloc, hbn]; omega)
    rw [hN11] at HA HFL HSS HP1
    rw [hbn] at HBW HSS HP1 ⊢
    generalize w12.alloc (.cells #[.int .u32 n0.id, .slice B1 n0.vec.length d1, .slice B2 n0.tags.length d2, .int .u64 n0.fr, .int .u64 n0.un, .slice (some ⟨r1, 0, none⟩) n0.links.length cp1] 37) = w13 at HG HA HBW HY HN HZ ⊢
    clear hba hP1 hN11 hbn HP1' HG11 HG12 HR12 HY12 HN12 HB12 HY11 HN11 HG10 HY10 HN10 HG9 HY9 HN9 HF2 HF1 HF0 HS2 HT2 HLK HN3 HS9 HS10 HS11 HN8 HR1 HR2
    go_loopg [9] vec.length (fun gk v9 wr => ∃ (i : Nat), v9 = .int .i64 i ∧ Aside0 (i ≤ vec.length ∧ vec.length - i ≤ gk) ∧ Aside0 (GX w wr g F3 s3) ∧ Aside0 (NdR wr N11 P1 all2 φ1 (fun _ => 0) 0 n0 B1 d1 B2 d2 r1 cp1) ∧ Aside0 (wr.heap[bn]? = some (.cells #[.int .u32 n0.id, .slice B1 n0.vec.length d1, .slice B2 n0.tags.length d2, .int .u64 n0.fr, .int .u64 n0.un, .slice (some ⟨r1, 0, none⟩) n0.links.length cp1] 37 (0, 0))) ∧ Aside0 (wr.heap[by_]? = some (.cells #[.int .u32 id, .slice A3 vec.length c3, .slice A4 tags.length c4] 26 (0, 0))) ∧ Aside0 (LArr 21 (isI .i32) wr A3 b3 vec.length) ∧ Aside0 (bn < wr.heap.size))
    case atStart => exact ⟨0, rfl, ⟨by omega⟩, HG, HA, HBW, HY, HN, HZ⟩
    case round =>
      clear HG HA HBW HY HN HZ
      obtain ⟨i, rfl, HI, HG, HA, HBW, HY, HN, HZ⟩ := hrel
      have z1 := (blk_cell HY.out 1).trans rfl
      by_cases hi : i < vec.length
      · have q1 : decide ((i : Int) < (vec.length : Int)) = true := decide_eq_true (by omega)
        have q1' : (i : Int) < (vec.length : Int) := by omega
        obtain ⟨hA3, hna⟩ := HN.out (by omega)
        obtain ⟨⟨xv, hx, x5, rfl⟩, fz⟩ := hna.at hi
        have HNA := Aside0.mk hna
        have HIL := Aside0.mk hi
        have HB3i := Aside0.mk (HB3.out (by omega))
        have HIN := Aside0.mk (show wrap64 ((i : Int) + 1) = ((i + 1 : Nat) : Int) by have := HSM.out; unfold wrap64; omega)
        obtain ⟨gk, rfl⟩ : ∃ m, gk = m + 1 := ⟨gk - 1, by have := HI.out; omega⟩
        have hx' := (congrArg (fun z => World.cell? _ z) (add_plain b3 i)).trans hx
        subst hA3
        clear hi hna
        go_wp2
        go_roundg gk
        case measure => omega
        case rel => exact ⟨i + 1, congrArg (Value.int .i64) HIN.out, ⟨by have := HIL.out; have := HI.out; omega⟩, ⟨HG.out.write HB3i.out.1 (fun hf => by have h1 := HF3.out _ hf; have h2 := HB3i.out; omega) _ _⟩, ⟨HA.out.write (fun hf => by have h1 := HP1.out _ hf; have h2 := HB3i.out; have h3 := HSS.out; omega) _ _⟩, ⟨HNA.out.far HBW.out (by decide) _ _⟩, ⟨HNA.out.far HY.out (by decide) _ _⟩, ⟨fun _ => ⟨rfl, HNA.out.set _ ⟨_, rfl⟩⟩⟩, ⟨by rw [World.size_setCell]; exact HZ.out⟩⟩
      · have q1 : decide ((i : Int) < (vec.length : Int)) = false := decide_eq_false (by omega)
        have q1' : (i < vec.length) = False := eq_false hi
        have q1'' : decide (i < vec.length) = false := decide_eq_false hi
        clear hi HI HN
        go_wp2_with (go_at_call 15; go_must (with_reducible refine (HG.out.node0 HSM3.out HNN.out HTH.out).mono ?_); rintro e w14 ⟨⟨E1, e1, E2, e2, r2, cp2, φ2, rfl, hR⟩, hb⟩; have HR14 := Aside0.mk hR; have HB14 := Aside0.mk hb; have HG14 := Aside0.mk (HG.out.below hb); have HA14 := Aside0.mk (HA.out.below hb); have HBW14 := Aside0.mk (blk_below HBW.out hb); clear hR hb z1)
        have hba := below_alloc (Below.refl w14.heap.size w14) (.cells #[.int .u32 n0.id, .slice E1 n0.vec.length e1, .slice E2 n0.tags.length e2, .int .u64 n0.fr, .int .u64 n0.un, .slice (some ⟨r2, 0, none⟩) n0.links.length cp2] 37)
        obtain ⟨bt, hbt1, hbt2⟩ := arr_str HR14.out.tags
        have HT := Aside0.mk (hbt1.below hba)
        have HBT := Aside0.mk (show 0 < n0.tags.length → bn < bt from fun hn => Nat.lt_of_lt_of_le HZ.out (hbt2 hn).1)
        have HLS := Aside0.mk ((HR14.out.lists).below hba)
        have HP2' := Aside0.mk (show ∀ k, since wr w14 k → bn < k from fun k hk => Nat.lt_of_lt_of_le HZ.out hk.1)
        have HBE := Aside0.mk (heap_alloc_new w14 (.cells #[.int .u32 n0.id, .slice E1 n0.vec.length e1, .slice E2 n0.tags.length e2, .int .u64 n0.fr, .int .u64 n0.un, .slice (some ⟨r2, 0, none⟩) n0.links.length cp2] 37))
        have HG2 := Aside0.mk (HG14.out.below hba)
        have HA2 := Aside0.mk (HA14.out.below hba)
        have HBW2 := Aside0.mk (blk_below HBW14.out hba)
        obtain ⟨P2, hP2⟩ : ∃ z, since wr w14 = z := ⟨_, rfl⟩
        rw [hP2] at HLS HP2'
        have HP2 := HP2'
        obtain ⟨be, hbe⟩ : ∃ z, w14.heap.size = z := ⟨_, rfl⟩
        rw [hbe] at HBE ⊢
        generalize w14.alloc (.cells #[.int .u32 n0.id, .slice E1 n0.vec.length e1, .slice E2 n0.tags.length e2, .int .u64 n0.fr, .int .u64 n0.un, .slice (some ⟨r2, 0, none⟩) n0.links.length cp2] 37) = w15 at HT HLS HBE HG2 HA2 HBW2 ⊢
        clear hba hbt1 hbt2 hP2 hbe HP2' HG HA HBW HG14 HA14 HBW14 HR14 HB14 HZ HY q1 q1' q1''
        have HG := HG2
        have HA := HA2
        have HBW := HBW2
        clear HG2 HA2 HBW2
        go_loopg [12] n0.tags.length (fun gk v12 wr => ∃ (i : Nat), v12 = .int .i64 i ∧ Aside0 (i ≤ n0.tags.length ∧ n0.tags.length - i ≤ gk) ∧ Aside0 (GX w wr g F3 s3) ∧ Aside0 (NdR wr N11 P1 all2 φ1 (fun _ => 0) 0 n0 B1 d1 B2 d2 r1 cp1) ∧ Aside0 (wr.heap[bn]? = some (.cells #[.int .u32 n0.id, .slice B1 n0.vec.length d1, .slice B2 n0.tags.length d2, .int .u64 n0.fr, .int .u64 n0.un, .slice (some ⟨r1, 0, none⟩) n0.links.length cp1] 37 (0, 0))) ∧ Aside0 (wr.heap[be]? = some (.cells #[.int .u32 n0.id, .slice E1 n0.vec.length e1, .slice E2 n0.tags.length e2, .int .u64 n0.fr, .int .u64 n0.un, .slice (some ⟨r2, 0, none⟩) n0.links.length cp2] 37 (0, 0))) ∧ Aside0 (LArr 9 isS wr E2 bt n0.tags.length) ∧ Aside0 (LsArr P2 wr r2 n0.links))
        case atStart => exact ⟨0, rfl, ⟨by omega⟩, HG, HA, HBW, HBE, HT, HLS⟩
        case round =>
          clear HG HA HBW HBE HT HLS
          obtain ⟨i, rfl, HI, HG, HA, HBW, HBE, HT, HLS⟩ := hrel
          have z2 := (blk_cell HBE.out 2).trans rfl
          by_cases hi : i < n0.tags.length
          · have q1 : decide ((i : Int) < (n0.tags.length : Int)) = true := decide_eq_true (by omega)
            have q1' : (i : Int) < (n0.tags.length : Int) := by omega
            obtain ⟨hA3, hna⟩ := HT.out (by omega)
            obtain ⟨⟨xv, hx, x5, rfl⟩, fz⟩ := hna.at hi
            have HNA := Aside0.mk hna
            have HIL := Aside0.mk hi
            have HBTi := Aside0.mk (HBT.out (by omega))
            have HIN := Aside0.mk (show wrap64 ((i : Int) + 1) = ((i + 1 : Nat) : Int) by have := HNS.out.1.2.1; unfold wrap64; omega)
            obtain ⟨gk, rfl⟩ : ∃ m, gk = m + 1 := ⟨gk - 1, by have := HI.out; omega⟩
            have hx' := (congrArg (fun z => World.cell? _ z) (add_plain bt i)).trans hx
            subst hA3
            clear hi hna
            go_wp2
            go_roundg gk
            case measure => omega
            case rel => exact ⟨i + 1, congrArg (Value.int .i64) HIN.out, ⟨by have := HIL.out; have := HI.out; omega⟩, ⟨HG.out.write (Nat.le_trans (Nat.le_trans HGB.out.2 (by have h1 := HGB.out; have h2 := HSS.out; omega)) (Nat.le_of_lt HBTi.out)) (fun hf => by have h1 := HFL.out _ hf; have h2 := HBTi.out; have h3 := HSS.out; omega) _ _⟩, ⟨HA.out.write (fun hf => by have h1 := HP1.out _ hf; have h2 := HBTi.out; omega) _ _⟩, ⟨HNA.out.far HBW.out (by decide) _ _⟩, ⟨HNA.out.far HBE.out (by decide) _ _⟩, ⟨fun _ => ⟨rfl, HNA.out.set _ ⟨_, rfl⟩⟩⟩, ⟨HLS.out.far HNA.out (by decide) (by decide) _ _⟩⟩
          · have q1 : decide ((i : Int) < (n0.tags.length : Int)) = false := decide_eq_false (by omega)
            have q1' : (i < n0.tags.length) = False := eq_false hi
            have q1'' : decide (i < n0.tags.length) = false := decide_eq_false hi
            clear hi HI HT
            go_wp2
            clear q1 q1' q1'' z2
            go_loopg [13] n0.links.length (fun gk v13 wr => ∃ (i : Nat), v13 = .int .i64 i ∧ Aside0 (i ≤ n0.links.length ∧ n0.links.length - i ≤ gk) ∧ Aside0 (GX w wr g F3 s3) ∧ Aside0 (NdR wr N11 P1 all2 φ1 (fun _ => 0) 0 n0 B1 d1 B2 d2 r1 cp1) ∧ Aside0 (wr.heap[bn]? = some (.cells #[.int .u32 n0.id, .slice B1 n0.vec.length d1, .slice B2 n0.tags.length d2, .int .u64 n0.fr, .int .u64 n0.un, .slice (some ⟨r1, 0, none⟩) n0.links.length cp1] 37 (0, 0))) ∧ Aside0 (wr.heap[be]? = some (.cells #[.int .u32 n0.id, .slice E1 n0.vec.length e1, .slice E2 n0.tags.length e2, .int .u64 n0.fr, .int .u64 n0.un, .slice (some ⟨r2, 0, none⟩) n0.links.length cp2] 37 (0, 0))) ∧ Aside0 (LsArr P2 wr r2 n0.links))
            case atStart => exact ⟨0, rfl, ⟨by omega⟩, HG, HA, HBW, HBE, HLS⟩
            case round =>
              clear HG HA HBW HBE HLS
              obtain ⟨i, rfl, HI, HG, HA, HBW, HBE, HLS⟩ := hrel
              have z5 := (blk_cell HBE.out 5).trans rfl
              by_cases hi : i < n0.links.length
              · have q1 : decide ((i : Int) < (n0.links.length : Int)) = true := decide_eq_true (by omega)
                have q1' : (i : Int) < (n0.links.length : Int) := by omega
                obtain ⟨l, hl⟩ : ∃ l, n0.links[i]? = some l := ⟨_, List.getElem?_eq_getElem hi⟩
                have HLI := Aside0.mk hl
                have HLL := Aside0.mk (HNS.out.1.2.2.2 l (List.mem_of_getElem? hl))
                have HIL := Aside0.mk hi
                have HIN := Aside0.mk (show wrap64 ((i : Int) + 1) = ((i + 1 : Nat) : Int) by have := HNS.out.1.2.2.1; unfold wrap64; omega)
                obtain ⟨go, rfl⟩ : ∃ m, gk = m + 1 := ⟨gk - 1, by have := HI.out; omega⟩
                clear hi hl
                go_wp2
                clear z5
                go_loopg [14] l.length (fun gk v14 wr => ∃ (k : Nat), v14 = .int .i64 k ∧ Aside0 (k ≤ l.length ∧ l.length - k ≤ gk) ∧ Aside0 (GX w wr g F3 s3) ∧ Aside0 (NdR wr N11 P1 all2 φ1 (fun _ => 0) 0 n0 B1 d1 B2 d2 r1 cp1) ∧ Aside0 (wr.heap[bn]? = some (.cells #[.int .u32 n0.id, .slice B1 n0.vec.length d1, .slice B2 n0.tags.length d2, .int .u64 n0.fr, .int .u64 n0.un, .slice (some ⟨r1, 0, none⟩) n0.links.length cp1] 37 (0, 0))) ∧ Aside0 (wr.heap[be]? = some (.cells #[.int .u32 n0.id, .slice E1 n0.vec.length e1, .slice E2 n0.tags.length e2, .int .u64 n0.fr, .int .u64 n0.un, .slice (some ⟨r2, 0, none⟩) n0.links.length cp2] 37 (0, 0))) ∧ Aside0 (LsArr P2 wr r2 n0.links))
                case atStart => exact ⟨0, rfl, ⟨by omega⟩, HG, HA, HBW, HBE, HLS⟩
                case round =>
                  clear HG HA HBW HBE HLS
                  obtain ⟨k, rfl, HK, HG, HA, HBW, HBE, HLS⟩ := hrel
                  have z5 := (blk_cell HBE.out 5).trans rfl
                  obtain ⟨LA, Lc, Lb, hl1, hl2, hl3⟩ := HLS.out.at HLI.out
                  have hl1' := (congrArg (fun z => World.cell? _ z) (add_plain r2 i)).trans hl1
                  by_cases hi : k < l.length
                  · have q2 : decide ((k : Int) < (l.length : Int)) = true := decide_eq_true (by omega)
                    have q2' : (k : Int) < (l.length : Int) := by omega
                    obtain ⟨hA3, hna⟩ := hl2 (by omega)
                    obtain ⟨⟨xv, hx, x5, rfl⟩, fz⟩ := hna.at hi
                    have HNA := Aside0.mk hna
                    have HKL := Aside0.mk hi
                    have HPB := Aside0.mk (HP2.out _ (hl3 (by omega)))
                    have HKN := Aside0.mk (show wrap64 ((k : Int) + 1) = ((k + 1 : Nat) : Int) by have := HLL.out; unfold wrap64; omega)
                    obtain ⟨gk, rfl⟩ : ∃ m, gk = m + 1 := ⟨gk - 1, by have := HK.out; omega⟩
                    have hx' := (congrArg (fun z => World.cell? _ z) (add_plain Lb k)).trans hx
                    subst hA3
                    clear hi hna hl2 hl3
                    go_wp2
                    go_roundg gk
                    case measure => omega
                    case rel => exact ⟨k + 1, congrArg (Value.int .i64) HKN.out, ⟨by have := HKL.out; have := HK.out; omega⟩, ⟨HG.out.write (Nat.le_trans (Nat.le_trans HGB.out.2 (by have h1 := HGB.out; have h2 := HSS.out; omega)) (Nat.le_of_lt HPB.out)) (fun hf => by have h1 := HFL.out _ hf; have h2 := HPB.out; have h3 := HSS.out; omega) _ _⟩, ⟨HA.out.write (fun hf => by have h1 := HP1.out _ hf; have h2 := HPB.out; omega) _ _⟩, ⟨HNA.out.far HBW.out (by decide) _ _⟩, ⟨HNA.out.far HBE.out (by decide) _ _⟩, ⟨HLS.out.set HNA.out _ _⟩⟩
                  · have q2 : decide ((k : Int) < (l.length : Int)) = false := decide_eq_false (by omega)
                    have q2' : (k < l.length) = False := eq_false hi
                    have q2'' : decide (k < l.length) = false := decide_eq_false hi
                    clear hi HK hl2 hl3
                    go_wp2
                    go_roundg go
                    case measure => omega
                    case rel => exact ⟨i + 1, congrArg (Value.int .i64) HIN.out, ⟨by have := HIL.out; have := HI.out; omega⟩, HG, HA, HBW, HBE, HLS⟩
              · have q1 : decide ((i : Int) < (n0.links.length : Int)) = false := decide_eq_false (by omega)
                have q1' : (i < n0.links.length) = False := eq_false hi
                have q1'' : decide (i < n0.links.length) = false := decide_eq_false hi
                clear hi HI HLS
                have hlen : 0 < n0.links.length := (List.getElem?_eq_some_iff.1 HNS.out.2.1).1
                have hlen' : (0 : Int) < (n0.links.length : Int) := by omega
                have HWBN := Aside0.mk (blk_lt HBW.out)
                go_wp2_with (first | (have := HR20; go_at_call 16; go_must (with_reducible refine (same_node n0.vec.length n0.tags.length n0.links.length rfl rfl rfl HA20.out HR20.out HNS.out.1).mono ?_); rintro e w21 ⟨rfl, hb⟩; have HG21 := Aside0.mk (HG20.out.below hb); have g0 := pw_cell_below hb HFI20.out.1; have g1 := pw_cell_below hb HFI20.out.2; have y5 := (blk_cell (blk_below HBG20.out hb) 5).trans rfl; clear hb x0 x1 x2 x3 x4 x5 y0 y1 y2 y3 y4) | (go_at_call 15; go_must (with_reducible refine (HG.out.node0 HSM3.out HNN.out HTH.out).mono ?_); rintro e w19 ⟨⟨G1, q1, G2, q2, r3, cp3, φ3, rfl, hR⟩, hb⟩; have hba := below_alloc (Below.refl w19.heap.size w19) (.cells #[.int .u32 n0.id, .slice G1 n0.vec.length q1, .slice G2 n0.tags.length q2, .int .u64 n0.fr, .int .u64 n0.un, .slice (some ⟨r3, 0, none⟩) n0.links.length cp3] 37); have hbb := bel_trans hb hba; have HR20 := Aside0.mk (hR.below hba); have HA20 := Aside0.mk (HA.out.below hbb); have HG20 := Aside0.mk (HG.out.below hbb); have HBW20 := Aside0.mk (blk_below HBW.out hbb); have HBG20 := Aside0.mk (heap_alloc_new w19 (.cells #[.int .u32 n0.id, .slice G1 n0.vec.length q1, .slice G2 n0.tags.length q2, .int .u64 n0.fr, .int .u64 n0.un, .slice (some ⟨r3, 0, none⟩) n0.links.length cp3] 37)); obtain ⟨Lb, Lc, hf1, hf2⟩ := hR.first HNS.out.2.1; have HFI20 := Aside0.mk (And.intro (pw_cell_below hba hf1) (pw_cell_below hba hf2)); have x0 := (blk_cell HBW20.out 0).trans rfl; have x1 := (blk_cell HBW20.out 1).trans rfl; have x2 := (blk_cell HBW20.out 2).trans rfl; have x3 := (blk_cell HBW20.out 3).trans rfl; have x4 := (blk_cell HBW20.out 4).trans rfl; have x5 := (blk_cell HBW20.out 5).trans rfl; have y0 := (blk_cell HBG20.out 0).trans rfl; have y1 := (blk_cell HBG20.out 1).trans rfl; have y2 := (blk_cell HBG20.out 2).trans rfl; have y3 := (blk_cell HBG20.out 3).trans rfl; have y4 := (blk_cell HBG20.out 4).trans rfl; have y5 := (blk_cell HBG20.out 5).trans rfl; clear hR hb hba hbb hf1 hf2 z5 q1' q1''))
                go_ret
                exact ⟨rfl, HG21.out.at0⟩
theorem own_row (v1 : Value) (s1 : ∃ cs, v1 = .agg cs) (x1 : ItT) {W : World} (K1 : kitem.K W x1 v1.cells.toList) (o1 : okItem x1) (lv : Int) (hlv : (Lit.int .i64 lv).wf = true) (_ : World) :
    Calls Try.prog 3 #[v1, .int .i64 lv] W fun e w' => e = .returned (.bool true) ∧ Below W.heap.size W w' := by
  obtain ⟨X1, n1, X2, n2, rfl, f1, l1, f2, l2⟩ := item_of s1 K1
  exact linksOwn_walk x1.1 x1.2.1 x1.2.2 X1 n1 X2 n2 lv W l1 f1 l2 f2
end Go.Proofs.Ytofmlajanopniaa.Li
