/- Pipe: Put. No condition. -/
import Derived.Test.YtjbakaplcjkniaaPi5
import Derived.Test.YtjbakaplcjkniaaWTab
namespace Go.Proofs.Ytjbakaplcjkniaa.Pi
open Go.RowKit Go.Proofs.YtjbakaplcjkniaaW.PrintWords Go.Proofs.YtjbakaplcjkniaaW.PrintLast Go.Proofs.YtjbakaplcjkniaaW.PrintMore
variable {X : Nat → Prop}
set_option linter.unusedVariables false
set_option linter.unusedSimpArgs false
attribute [local go_sem] max2_M min2_M max_two min_two
theorem Pipe.lt {w : World} {base g : Nat} {room : Int} {v : Value} {L : Pcs} {cut : Bool} (h : Pipe X w base g room v L cut) : g < w.heap.size := (Array.getElem?_eq_some_iff.1 h.box).1
theorem Pipe.y0 {w : World} {base g : Nat} {room : Int} {v : Value} {L : Pcs} {cut : Bool} (h : Pipe X w base g room v L cut) : w.cell? ⟨g, 0, none⟩ = some (.int .i64 room) := by rw [blk_cell h.box]; rfl
theorem Pipe.y1 {w : World} {base g : Nat} {room : Int} {v : Value} {L : Pcs} {cut : Bool} (h : Pipe X w base g room v L cut) : w.cell? ⟨g, 1, none⟩ = some v := by rw [blk_cell h.box]; rfl
theorem Pipe.y2 {w : World} {base g : Nat} {room : Int} {v : Value} {L : Pcs} {cut : Bool} (h : Pipe X w base g room v L cut) : w.cell? ⟨g, 2, none⟩ = some (.bool cut) := by rw [blk_cell h.box]; rfl
def put.T1 : Bool × List (List Nat × List Nat) := (true, [([], []), ([0], [0]), ([], []), ([2], [2]), ([3], [3]), ([4], [4]), ([], []), ([6], [6]), ([5, 7], [5, 7]), ([1, 8], [1, 8]), ([9, 7, 0, 1, 2, 3, 4, 5, 6, 7, 8, 9], [9])])
def put.B1 : List Nat := [0, 1, 0, 4, 12, 28, 0, 64, 252, 511, 1023]
theorem put.tab1 : rtab .any (opsOf Try.f15 1) = put.T1 := by kernel_rfl
theorem put.bits1 : waitsOk put.T1.2 put.B1 = true := by kernel_rfl
def put.T8 : Bool × List (List Nat × List Nat) := (true, [([], []), ([], []), ([1], [1]), ([2], [2]), ([3], [3]), ([], []), ([], []), ([], []), ([5, 6, 7], [5, 6, 7]), ([8], [8]), ([], []), ([9, 10], [9, 10]), ([11], [11]), ([4, 12, 9], [4, 12]), ([0, 0, 1, 2, 3, 4, 5, 6, 7, 8, 9, 10, 11, 12, 13], [0]), ([14, 0, 1, 2, 3, 4, 5, 6, 7, 8, 9, 10, 11, 12, 13], [14]), ([15, 13, 13, 0, 1, 2, 3, 4, 5, 6, 7, 8, 9, 10, 11, 12, 13], [13, 15])])
def put.B8 : List Nat := [0, 0, 2, 6, 14, 0, 0, 0, 224, 480, 0, 2016, 4064, 8190, 16383, 32767, 65535]
theorem put.tab8 : rtab .any (opsOf Try.f15 8) = put.T8 := by kernel_rfl
theorem put.bits8 : waitsOk put.T8.2 put.B8 = true := by kernel_rfl
/-- What a put leaves. -/
def putR (room : Int) (cut : Bool) (L : Pcs) (B : List Int) (d : Int) : Nat × Pcs :=
  if cut = true ∨ min B.length (room - total L).toNat = 0 then (0, L) else (min B.length (room - total L).toNat, putP L (B.take (min B.length (room - total L).toNat)) d)
set_option maxHeartbeats 4000000 in
set_option maxRecDepth 100000 in
theorem put_none (base g : Nat) (room : Int) (v : Value) (L : Pcs) (cut : Bool) (A0 : Option Addr) (c0 : Nat) (B : List Int) (now delay : Int) (w : World) (hP : Pipe X w base g room v L cut) (ht : total L ≤ 1000000000000) (hn : L.length ≤ 1000000) (hr : (total L : Int) ≤ room) (hr2 : room ≤ 9223372036854775807)
    (hz : cut = true ∨ min B.length (room - total L).toNat = 0) (hl : B.length ≤ 1000000) :
    Calls Try.prog 15 #[.pointer (some ⟨g, 0, none⟩), .slice A0 B.length c0, .int .u32 now, .int .u32 delay] w fun e w' => e = .returned (.int .i64 0) ∧ Below w.heap.size w w' := by
  have hu := Try.underlying92
  have hu2 := Try.underlying90
  obtain ⟨ao, cap, rfl, hread⟩ := hP.row.reads
  have HP := Aside0.mk (hP.below (below_drew (Below.refl _ _)))
  have HB := Aside0.mk (below_drew (Below.refl w.heap.size w))
  have HRD := Aside0.mk (hread.below (below_drew (Below.refl _ _)))
  have HT := Aside0.mk ht
  have HN := Aside0.mk (show L.length ≤ 1000000000 by omega)
  have rs : wrap64 (room - (total L : Int)) = room - (total L : Int) := by unfold wrap64; omega
  obtain ⟨n, hn'⟩ : ∃ n : Nat, min (B.length : Int) (room - (total L : Int)) = (n : Int) := ⟨min B.length (room - total L).toNat, by omega⟩
  have hz' : cut = true ∨ n = 0 := by (rcases hz with h | h; exact .inl h; exact .inr (by omega))
  clear hP ht hn hr hr2 hread hz
  go_enter Try.func15, Try.ntmps15
  go_wp2
  refine start_ (n := 11) (S := fun w' => w'.cell? ⟨g, 0, none⟩ = some (.int .i64 room)) (ds := []) #[false, false, false, false, false, false, false, false, false, false, false] (by kernel_rfl) rfl rfl (HP.out.y0) (fun hHeld => ?_)
  refine with_tabW put.tab1 put.bits1 (fun HT_ HW_ => ?_)
  generalize w.drew = wd at HP HB HRD hHeld ⊢
  refine pure_ (i := 0) (N := some 12) (v := ?_) (a' := ?_) #[true, false, false, false, false, false, false, false, false, false, false] rfl rfl (any_of HT_.out (by kernel_rfl)) (fun _ _ _ h => h) (Or.inl ⟨by rfl, ?_⟩) ?_ ?_
  rotate_left
  · intro w'
    go_simp
    with_reducible rfl
  rotate_left
  · simp only [Act.put, List.setIfInBounds_toArray, List.set_cons_zero, List.set_cons_succ, i64_w, i32_w]
    rfl
  refine pure_ (i := 1) (N := some 13) (v := ?_) (a' := ?_) #[true, true, false, false, false, false, false, false, false, false, false] rfl rfl (any_of HT_.out (by kernel_rfl)) (fun _ _ _ h => h) (Or.inl ⟨by rfl, ?_⟩) ?_ ?_
  rotate_left
  · intro w'
    go_simp
    with_reducible rfl
  rotate_left
  · simp only [Act.put, List.setIfInBounds_toArray, List.set_cons_zero, List.set_cons_succ, i64_w, i32_w]
    rfl
  refine pure_ (i := 2) (N := some 14) (v := ?_) (a' := ?_) #[true, true, true, false, false, false, false, false, false, false, false] rfl rfl (any_of HT_.out (by kernel_rfl)) (fun _ _ _ h => h) (Or.inl ⟨by rfl, ?_⟩) ?_ ?_
  rotate_left
  · intro w'
    go_simp
    with_reducible rfl
  rotate_left
  · simp only [Act.put, List.setIfInBounds_toArray, List.set_cons_zero, List.set_cons_succ, i64_w, i32_w]
    rfl
  refine pure_ (i := 3) (N := some 15) (v := ?_) (a' := ?_) #[true, true, true, true, false, false, false, false, false, false, false] rfl rfl (any_of HT_.out (by kernel_rfl)) (fun _ _ _ h => h) (Or.inl ⟨by rfl, ?_⟩) ?_ ?_
  rotate_left
  · intro w'
    go_simp
    with_reducible rfl
  rotate_left
  · simp only [Act.put, List.setIfInBounds_toArray, List.set_cons_zero, List.set_cons_succ, i64_w, i32_w]
    rfl
  refine pure_ (i := 4) (N := some 16) (v := ?_) (a' := ?_) #[true, true, true, true, true, false, false, false, false, false, false] rfl rfl (any_of HT_.out (by kernel_rfl)) (fun _ _ _ h => h) (Or.inl ⟨by rfl, ?_⟩) ?_ ?_
  rotate_left
  · intro w'
    go_simp
    with_reducible rfl
  rotate_left
  · simp only [Act.put, List.setIfInBounds_toArray, List.set_cons_zero, List.set_cons_succ, i64_w, i32_w]
    rfl
  refine pure_ (i := 6) (N := some 18) (v := ?_) (a' := ?_) #[true, true, true, true, true, false, true, false, false, false, false] rfl rfl (any_of HT_.out (by kernel_rfl)) (fun _ _ _ h => h) (Or.inl ⟨by rfl, ?_⟩) ?_ ?_
  rotate_left
  · intro w'
    go_simp
    with_reducible rfl
  rotate_left
  · simp only [Act.put, List.setIfInBounds_toArray, List.set_cons_zero, List.set_cons_succ, i64_w, i32_w]
    rfl
  refine take_ (i := 5) (N := some 17) (v := ?_) (a' := ?_) #[true, true, true, true, true, true, true, false, false, false, false] rfl rfl (take_ofW HT_.out HW_.out (by kernel_rfl)) (fun _ _ _ h => h) (Or.inl ⟨by rfl, ?_⟩) hHeld ?_ ?_
  rotate_left
  · intro w' s0
    go_simp
    with_reducible rfl
  rotate_left
  · simp only [Act.put, List.setIfInBounds_toArray, List.set_cons_zero, List.set_cons_succ, i64_w, i32_w]
    rfl
  refine one_ (i := 7) (N := some 19) #[true, true, true, true, true, true, true, true, false, false, false] rfl rfl (one_of HT_.out (by kernel_rfl)) (by decide) (fun K hK => ?_)
  refine goes_ Try.func17 (by kernel_rfl) rfl #[.pointer (some ⟨g, 0, none⟩)] (by rfl) rfl rfl (by simp only [List.map_toArray, List.map_cons, List.map_nil]; rfl) ?_
  with_reducible refine (len_calls g room ao cap L _ _ HP.out.box HRD.out HT.out HN.out).mono ?_
  rintro e w1 ⟨rfl, hb⟩
  refine ⟨_, rfl, ?_⟩
  have NHP := Aside0.mk (HP.out.below hb)
  have NHB := Aside0.mk (bel_trans HB.out hb)
  clear HP HB hb HRD
  have HP := NHP
  have HB := NHB
  clear NHP NHB
  refine hK.out _ _ (HP.out.y0) (fun hHeld => ?_)
  clear hK K
  refine norm_ (a' := ?_) ?_ ?_
  rotate_left
  · show Act.put _ (some 19) _ = _
    simp only [Act.put, List.setIfInBounds_toArray, List.set_cons_zero, List.set_cons_succ, i64_w, i32_w]
    rfl
  refine pure_ (i := 8) (N := some 20) (v := ?_) (a' := ?_) #[true, true, true, true, true, true, true, true, true, false, false] rfl rfl (any_of HT_.out (by kernel_rfl)) (fun _ _ _ h => h) (Or.inl ⟨by rfl, ?_⟩) ?_ ?_
  rotate_left
  · intro w'
    go_simp
    with_reducible rfl
  rotate_left
  · simp only [Act.put, List.setIfInBounds_toArray, List.set_cons_zero, List.set_cons_succ, i64_w, i32_w]
    rfl
  refine pure_ (i := 9) (N := some 21) (v := ?_) (a' := ?_) #[true, true, true, true, true, true, true, true, true, true, false] rfl rfl (any_of HT_.out (by kernel_rfl)) (fun _ _ _ h => h) (Or.inl ⟨by rfl, ?_⟩) ?_ ?_
  rotate_left
  · intro w'
    go_simp
    with_reducible rfl
  rotate_left
  · simp only [Act.put, List.setIfInBounds_toArray, List.set_cons_zero, List.set_cons_succ, i64_w, i32_w]
    rfl
  refine pure_ (i := 10) (N := some 9) (v := ?_) (a' := ?_) #[true, true, true, true, true, true, true, true, true, true, true] rfl rfl (any_of HT_.out (by kernel_rfl)) (fun _ _ _ h => h) (Or.inl ⟨by rfl, ?_⟩) ?_ ?_
  rotate_left
  · intro w'
    go_simp
    with_reducible rfl
  rotate_left
  · simp only [Act.put, List.setIfInBounds_toArray, List.set_cons_zero, List.set_cons_succ, i64_w, i32_w]
    rfl
  refine done_ (done_of HT_.out (by kernel_rfl)) ?_
  have y2 := HP.out.y2
  cases cut with
  | true =>
    go_wp2
    go_ret
    exact ⟨rfl, HB.out⟩
  | false =>
    have h0 : n = 0 := by simpa using hz'
    subst h0
    have e0 : ((0 : Int) == 0) = true := rfl
    go_wp2
    go_ret
    exact ⟨rfl, HB.out⟩
theorem OwnP.put {w : World} {base g : Nat} {v u : Value} {L : Pcs} {j : Nat} (h : OwnP X w base g v L) (hap : v.ownBlock ≠ some g) : OwnP X (w.setCell ⟨g, j, none⟩ u) base g v L := by
  obtain ⟨inner, h1, h2⟩ := h
  exact ⟨inner, own_setCell h1 (fun e => hap e.symm) _, fun i x hx => (h2 i x hx).on ((Only.refl _ _).set _ _ (.inr rfl))⟩
set_option maxHeartbeats 8000000 in
set_option maxRecDepth 100000 in
theorem put_some (base g : Nat) (room : Int) (v : Value) (L : Pcs) (A0 : Option Addr) (c0 : Nat) (B : List Int) (now delay : Int) (n : Nat) (w : World) (hP : Pipe X w base g room v L false) (ht : total L ≤ 1000000000000) (hn : L.length ≤ 1000000) (hr : (total L : Int) ≤ room) (hr2 : room ≤ 9223372036854775807)
    (hm : min B.length (room - total L).toNat = n) (hpos : 0 < n) (hl : B.length ≤ 1000000) (hC : Kd.C (Kd.int .u8) w A0 B.length B) (hc : B.length ≤ c0) (hw : 0 ≤ now ∧ now ≤ 4294967295) (hdl : 0 ≤ delay ∧ delay ≤ 4294967295) (hbs : base ≤ w.heap.size) (hX : ∀ k, X k → k < w.heap.size) :
    Calls Try.prog 15 #[.pointer (some ⟨g, 0, none⟩), .slice A0 B.length c0, .int .u32 now, .int .u32 delay] w fun e w' => e = .returned (.int .i64 (n : Int)) ∧ ∃ v', Pipe X w' base g room v' (putP L (B.take n) (now + delay)) false ∧ Only (Sv v g) w w' := by
  have hu := Try.underlying92
  have hu2 := Try.underlying90
  obtain ⟨ao, cap, rfl, hread⟩ := hP.row.reads
  have HP := Aside0.mk (hP.below (below_drew (Below.refl _ _)))
  have HB := Aside0.mk (below_drew (Below.refl w.heap.size w))
  have HRD := Aside0.mk (hread.below (below_drew (Below.refl _ _)))
  have HT := Aside0.mk ht
  have HN := Aside0.mk (show L.length ≤ 1000000000 by omega)
  have HLN := Aside0.mk hn
  have HBS := Aside0.mk hbs
  have HXX := Aside0.mk hX
  have HG0 := Aside0.mk hP.lt
  have HVB := Aside0.mk hP.row.lt
  have rs : wrap64 (room - (total L : Int)) = room - (total L : Int) := by unfold wrap64; omega
  have hn' : min (B.length : Int) (room - (total L : Int)) = (n : Int) := by omega
  obtain ⟨bd, rfl, _⟩ := hC.2.2 (by omega)
  have hnl : n ≤ B.length := by omega
  have hCt := Kd.C_take hC hnl
  obtain ⟨BT, hBT⟩ : ∃ x, B.take n = x := ⟨_, rfl⟩
  have HNL := Aside0.mk (show BT.length = n by rw [← hBT, List.length_take]; omega)
  rw [hBT, HNL.out] at hCt
  have HBT := Aside0.mk hBT
  clear hBT
  have HBC := Aside0.mk (fun w' (hb : Below w.heap.size w w') => Kd.C_below hCt hb)
  have HNS := Aside0.mk (show n ≤ 1000000 by omega)
  have s1 : (n : Int) ≤ (c0 : Int) := by omega
  have s2 : n ≤ c0 := by omega
  have e0 : ((n : Int) == 0) = false := by rw [beq_eq_false_iff_ne]; omega
  have e0' : (n == 0) = false := by rw [beq_eq_false_iff_ne]; omega
  have u1 : IntKind.u64.wrap now = now := by rw [IntKind.wrap]; simp [IntKind.bits, IntKind.signed]; omega
  have u2 : IntKind.u64.wrap delay = delay := by rw [IntKind.wrap]; simp [IntKind.bits, IntKind.signed]; omega
  have u3 : IntKind.u64.wrap (now + delay) = now + delay := by rw [IntKind.wrap]; simp [IntKind.bits, IntKind.signed]; omega
  clear hP ht hn hr hr2 hread hm hpos hl hC hc hw hdl hbs hX hnl hCt
  by_cases hL : 0 < L.length
  · obtain ⟨m, hm⟩ : ∃ m, L.length = m + 1 := ⟨L.length - 1, by omega⟩
    have z1 : decide (0 < (L.length : Int)) = true := decide_eq_true (by omega)
    have z2 : decide (0 < L.length) = true := decide_eq_true hL
    have z4 : 0 < L.length := hL
    have zw : wrap64 ((L.length : Int) - 1) = (m : Int) := by have := HN.out; unfold wrap64; omega
    have zb : (m : Int) < (L.length : Int) := by omega
    obtain ⟨x, hx⟩ : ∃ x, L[m]? = some x := ⟨_, List.getElem?_eq_getElem (by omega)⟩
    obtain ⟨d, hd⟩ : ∃ d, max (now + delay) x.2 = d := ⟨_, rfl⟩
    have HXM := Aside0.mk hx
    have HMM := Aside0.mk hm
    rcases HRD.out.2 with ⟨_, e, _⟩ | ⟨ad, rfl, _⟩
    · rw [e] at hm; simp at hm
    clear hL hx hm
    go_enter Try.func15, Try.ntmps15
    go_wp2
    refine start_ (n := 11) (S := fun w' => w'.cell? ⟨g, 0, none⟩ = some (.int .i64 room)) (ds := []) #[false, false, false, false, false, false, false, false, false, false, false] (by kernel_rfl) rfl rfl (HP.out.y0) (fun hHeld => ?_)
    refine with_tabW put.tab1 put.bits1 (fun HT_ HW_ => ?_)
    generalize w.drew = wd at HP HB HRD hHeld ⊢
    refine pure_ (i := 0) (N := some 12) (v := ?_) (a' := ?_) #[true, false, false, false, false, false, false, false, false, false, false] rfl rfl (any_of HT_.out (by kernel_rfl)) (fun _ _ _ h => h) (Or.inl ⟨by rfl, ?_⟩) ?_ ?_
    rotate_left
    · intro w'
      go_simp
      with_reducible rfl
    rotate_left
    · simp only [Act.put, List.setIfInBounds_toArray, List.set_cons_zero, List.set_cons_succ, i64_w, i32_w]
      rfl
    refine pure_ (i := 1) (N := some 13) (v := ?_) (a' := ?_) #[true, true, false, false, false, false, false, false, false, false, false] rfl rfl (any_of HT_.out (by kernel_rfl)) (fun _ _ _ h => h) (Or.inl ⟨by rfl, ?_⟩) ?_ ?_
    rotate_left
    · intro w'
      go_simp
      with_reducible rfl
    rotate_left
    · simp only [Act.put, List.setIfInBounds_toArray, List.set_cons_zero, List.set_cons_succ, i64_w, i32_w]
      rfl
    refine pure_ (i := 2) (N := some 14) (v := ?_) (a' := ?_) #[true, true, true, false, false, false, false, false, false, false, false] rfl rfl (any_of HT_.out (by kernel_rfl)) (fun _ _ _ h => h) (Or.inl ⟨by rfl, ?_⟩) ?_ ?_
    rotate_left
    · intro w'
      go_simp
      with_reducible rfl
    rotate_left
    · simp only [Act.put, List.setIfInBounds_toArray, List.set_cons_zero, List.set_cons_succ, i64_w, i32_w]
      rfl
    refine pure_ (i := 3) (N := some 15) (v := ?_) (a' := ?_) #[true, true, true, true, false, false, false, false, false, false, false] rfl rfl (any_of HT_.out (by kernel_rfl)) (fun _ _ _ h => h) (Or.inl ⟨by rfl, ?_⟩) ?_ ?_
    rotate_left
    · intro w'
      go_simp
      with_reducible rfl
    rotate_left
    · simp only [Act.put, List.setIfInBounds_toArray, List.set_cons_zero, List.set_cons_succ, i64_w, i32_w]
      rfl
    refine pure_ (i := 4) (N := some 16) (v := ?_) (a' := ?_) #[true, true, true, true, true, false, false, false, false, false, false] rfl rfl (any_of HT_.out (by kernel_rfl)) (fun _ _ _ h => h) (Or.inl ⟨by rfl, ?_⟩) ?_ ?_
    rotate_left
    · intro w'
      go_simp
      with_reducible rfl
    rotate_left
    · simp only [Act.put, List.setIfInBounds_toArray, List.set_cons_zero, List.set_cons_succ, i64_w, i32_w]
      rfl
    refine pure_ (i := 6) (N := some 18) (v := ?_) (a' := ?_) #[true, true, true, true, true, false, true, false, false, false, false] rfl rfl (any_of HT_.out (by kernel_rfl)) (fun _ _ _ h => h) (Or.inl ⟨by rfl, ?_⟩) ?_ ?_
    rotate_left
    · intro w'
      go_simp
      with_reducible rfl
    rotate_left
    · simp only [Act.put, List.setIfInBounds_toArray, List.set_cons_zero, List.set_cons_succ, i64_w, i32_w]
      rfl
    refine take_ (i := 5) (N := some 17) (v := ?_) (a' := ?_) #[true, true, true, true, true, true, true, false, false, false, false] rfl rfl (take_ofW HT_.out HW_.out (by kernel_rfl)) (fun _ _ _ h => h) (Or.inl ⟨by rfl, ?_⟩) hHeld ?_ ?_
    rotate_left
    · intro w' s0
      go_simp
      with_reducible rfl
    rotate_left
    · simp only [Act.put, List.setIfInBounds_toArray, List.set_cons_zero, List.set_cons_succ, i64_w, i32_w]
      rfl
    refine one_ (i := 7) (N := some 19) #[true, true, true, true, true, true, true, true, false, false, false] rfl rfl (one_of HT_.out (by kernel_rfl)) (by decide) (fun K hK => ?_)
    refine goes_ Try.func17 (by kernel_rfl) rfl #[.pointer (some ⟨g, 0, none⟩)] (by rfl) rfl rfl (by simp only [List.map_toArray, List.map_cons, List.map_nil]; rfl) ?_
    with_reducible refine (len_calls g room (some ad) cap L _ _ HP.out.box HRD.out HT.out HN.out).mono ?_
    rintro e w1 ⟨rfl, hb⟩
    refine ⟨_, rfl, ?_⟩
    have NHP := Aside0.mk (HP.out.below hb)
    have NHB := Aside0.mk (bel_trans HB.out hb)
    clear HP HB hb HRD
    have HP := NHP
    have HB := NHB
    clear NHP NHB
    refine hK.out _ _ (HP.out.y0) (fun hHeld => ?_)
    clear hK K
    refine norm_ (a' := ?_) ?_ ?_
    rotate_left
    · show Act.put _ (some 19) _ = _
      simp only [Act.put, List.setIfInBounds_toArray, List.set_cons_zero, List.set_cons_succ, i64_w, i32_w]
      rfl
    refine pure_ (i := 8) (N := some 20) (v := ?_) (a' := ?_) #[true, true, true, true, true, true, true, true, true, false, false] rfl rfl (any_of HT_.out (by kernel_rfl)) (fun _ _ _ h => h) (Or.inl ⟨by rfl, ?_⟩) ?_ ?_
    rotate_left
    · intro w'
      go_simp
      with_reducible rfl
    rotate_left
    · simp only [Act.put, List.setIfInBounds_toArray, List.set_cons_zero, List.set_cons_succ, i64_w, i32_w]
      rfl
    refine pure_ (i := 9) (N := some 21) (v := ?_) (a' := ?_) #[true, true, true, true, true, true, true, true, true, true, false] rfl rfl (any_of HT_.out (by kernel_rfl)) (fun _ _ _ h => h) (Or.inl ⟨by rfl, ?_⟩) ?_ ?_
    rotate_left
    · intro w'
      go_simp
      with_reducible rfl
    rotate_left
    · simp only [Act.put, List.setIfInBounds_toArray, List.set_cons_zero, List.set_cons_succ, i64_w, i32_w]
      rfl
    refine pure_ (i := 10) (N := some 9) (v := ?_) (a' := ?_) #[true, true, true, true, true, true, true, true, true, true, true] rfl rfl (any_of HT_.out (by kernel_rfl)) (fun _ _ _ h => h) (Or.inl ⟨by rfl, ?_⟩) ?_ ?_
    rotate_left
    · intro w'
      go_simp
      with_reducible rfl
    rotate_left
    · simp only [Act.put, List.setIfInBounds_toArray, List.set_cons_zero, List.set_cons_succ, i64_w, i32_w]
      rfl
    refine done_ (done_of HT_.out (by kernel_rfl)) ?_
    have y1 := HP.out.y1
    have y2 := HP.out.y2
    obtain ⟨ao', cap', e, hrd⟩ := HP.out.row.reads
    cases e
    rcases hrd.2 with ⟨e, _⟩ | ⟨ad', e, hrow⟩
    · cases e
    cases e
    obtain ⟨A, c, x0, x1, hd1, hd2⟩ := hrow m x HXM.out
    clear hrd hrow hd1 hd2
    go_wp2
    clear x0 x1
    have NHP := Aside0.mk (HP.out.below (below_drew (Below.refl _ _)))
    have NHB := Aside0.mk (below_drew HB.out)
    clear HP HB y1 y2
    have HP := NHP
    have HB := NHB
    clear NHP NHB
    refine start_ (n := 17) (S := fun w' => w'.cell? ⟨g, 1, none⟩ = some (.slice (some ad) L.length cap)) (ds := [16]) #[false, false, false, false, false, false, false, false, false, false, false, false, false, false, false, false, false] (by kernel_rfl) rfl rfl (HP.out.y1) (fun hHeld => ?_)
    refine with_tabW put.tab8 put.bits8 (fun HT_ HW_ => ?_)
    generalize w1.drew = wd at HP HB hHeld ⊢
    refine pure_ (i := 0) (N := some 53) (v := ?_) (a' := ?_) #[true, false, false, false, false, false, false, false, false, false, false, false, false, false, false, false, false] rfl rfl (any_of HT_.out (by kernel_rfl)) (fun _ _ _ h => h) (Or.inl ⟨by rfl, ?_⟩) ?_ ?_
    rotate_left
    · intro w'
      go_simp
      with_reducible rfl
    rotate_left
    · simp only [Act.put, List.setIfInBounds_toArray, List.set_cons_zero, List.set_cons_succ, i64_w, i32_w]
      rfl
    refine pure_ (i := 1) (N := some 54) (v := ?_) (a' := ?_) #[true, true, false, false, false, false, false, false, false, false, false, false, false, false, false, false, false] rfl rfl (any_of HT_.out (by kernel_rfl)) (fun _ _ _ h => h) (Or.inl ⟨by rfl, ?_⟩) ?_ ?_
    rotate_left
    · intro w'
      go_simp
      with_reducible rfl
    rotate_left
    · simp only [Act.put, List.setIfInBounds_toArray, List.set_cons_zero, List.set_cons_succ, i64_w, i32_w]
      rfl
    refine pure_ (i := 2) (N := some 55) (v := ?_) (a' := ?_) #[true, true, true, false, false, false, false, false, false, false, false, false, false, false, false, false, false] rfl rfl (any_of HT_.out (by kernel_rfl)) (fun _ _ _ h => h) (Or.inl ⟨by rfl, ?_⟩) ?_ ?_
    rotate_left
    · intro w'
      go_simp
      with_reducible rfl
    rotate_left
    · simp only [Act.put, List.setIfInBounds_toArray, List.set_cons_zero, List.set_cons_succ, i64_w, i32_w]
      rfl
    refine pure_ (i := 3) (N := some 56) (v := ?_) (a' := ?_) #[true, true, true, true, false, false, false, false, false, false, false, false, false, false, false, false, false] rfl rfl (any_of HT_.out (by kernel_rfl)) (fun _ _ _ h => h) (Or.inl ⟨by rfl, ?_⟩) ?_ ?_
    rotate_left
    · intro w'
      go_simp
      with_reducible rfl
    rotate_left
    · simp only [Act.put, List.setIfInBounds_toArray, List.set_cons_zero, List.set_cons_succ, i64_w, i32_w]
      rfl
    refine pure_ (i := 5) (N := some 58) (v := ?_) (a' := ?_) #[true, true, true, true, false, true, false, false, false, false, false, false, false, false, false, false, false] rfl rfl (any_of HT_.out (by kernel_rfl)) (fun _ _ _ h => h) (Or.inl ⟨by rfl, ?_⟩) ?_ ?_
    rotate_left
    · intro w'
      go_simp
      with_reducible rfl
    rotate_left
    · simp only [Act.put, List.setIfInBounds_toArray, List.set_cons_zero, List.set_cons_succ, i64_w, i32_w]
      rfl
    refine pure_ (i := 6) (N := some 59) (v := ?_) (a' := ?_) #[true, true, true, true, false, true, true, false, false, false, false, false, false, false, false, false, false] rfl rfl (any_of HT_.out (by kernel_rfl)) (fun _ _ _ h => h) (Or.inl ⟨by rfl, ?_⟩) ?_ ?_
    rotate_left
    · intro w'
      go_simp
      with_reducible rfl
    rotate_left
    · simp only [Act.put, List.setIfInBounds_toArray, List.set_cons_zero, List.set_cons_succ, i64_w, i32_w]
      rfl
    refine pure_ (i := 7) (N := some 60) (v := ?_) (a' := ?_) #[true, true, true, true, false, true, true, true, false, false, false, false, false, false, false, false, false] rfl rfl (any_of HT_.out (by kernel_rfl)) (fun _ _ _ h => h) (Or.inl ⟨by rfl, ?_⟩) ?_ ?_
    rotate_left
    · intro w'
      go_simp
      with_reducible rfl
    rotate_left
    · simp only [Act.put, List.setIfInBounds_toArray, List.set_cons_zero, List.set_cons_succ, i64_w, i32_w]
      rfl
    refine pure_ (i := 8) (N := some 61) (v := ?_) (a' := ?_) #[true, true, true, true, false, true, true, true, true, false, false, false, false, false, false, false, false] rfl rfl (any_of HT_.out (by kernel_rfl)) (fun _ _ _ h => h) (Or.inl ⟨by rfl, ?_⟩) ?_ ?_
    rotate_left
    · intro w'
      go_simp
      with_reducible rfl
    rotate_left
    · simp only [Act.put, List.setIfInBounds_toArray, List.set_cons_zero, List.set_cons_succ, i64_w, i32_w]
      rfl
    refine pure_ (i := 10) (N := some 63) (v := ?_) (a' := ?_) #[true, true, true, true, false, true, true, true, true, false, true, false, false, false, false, false, false] rfl rfl (any_of HT_.out (by kernel_rfl)) (fun _ _ _ h => h) (Or.inl ⟨by rfl, ?_⟩) ?_ ?_
    rotate_left
    · intro w'
      go_simp
      with_reducible rfl
    rotate_left
    · simp only [Act.put, List.setIfInBounds_toArray, List.set_cons_zero, List.set_cons_succ, i64_w, i32_w]
      rfl
    refine take_ (i := 4) (N := some 57) (v := ?_) (a' := ?_) #[true, true, true, true, true, true, true, true, true, false, true, false, false, false, false, false, false] rfl rfl (take_ofW HT_.out HW_.out (by kernel_rfl)) (fun _ _ _ h => h) (Or.inl ⟨by rfl, ?_⟩) hHeld ?_ ?_
    rotate_left
    · intro w' s0
      go_simp
      with_reducible rfl
    rotate_left
    · simp only [Act.put, List.setIfInBounds_toArray, List.set_cons_zero, List.set_cons_succ, i64_w, i32_w]
      rfl
    refine one_ (i := 9) (N := some 62) #[true, true, true, true, true, true, true, true, true, true, true, false, false, false, false, false, false] rfl rfl (one_of HT_.out (by kernel_rfl)) (by decide) (fun K hK => ?_)
    refine goes_ Try.func40 (by kernel_rfl) rfl #[.slice (some bd) n n] (by rfl) rfl rfl (by simp only [List.map_toArray, List.map_cons, List.map_nil]; rfl) ?_
    with_reducible refine (clone_calls bd n n BT _ HNL.out (HBC.out _ HB.out) HNS.out).mono ?_
    rintro e w2 ⟨⟨vb, rfl, hv⟩, hb⟩
    refine ⟨_, rfl, ?_⟩
    obtain ⟨Ab, cb, rfl⟩ := Kd.R_slice hv
    have HV := Aside0.mk hv
    have HSZ := Aside0.mk HP.out.lt
    have HVL := Aside0.mk HP.out.row.lt
    have HBW := Aside0.mk HB.out.size
    have NHP := Aside0.mk (HP.out.below hb)
    have NHB := Aside0.mk (bel_trans HB.out hb)
    clear HP HB hb hv
    have HP := NHP
    have HB := NHB
    clear NHP NHB
    refine hK.out _ _ (HP.out.y1) (fun hHeld => ?_)
    clear hK K
    refine norm_ (a' := ?_) ?_ ?_
    rotate_left
    · show Act.put _ (some 62) _ = _
      simp only [Act.put, List.setIfInBounds_toArray, List.set_cons_zero, List.set_cons_succ, i64_w, i32_w]
      rfl
    refine pure_ (i := 11) (N := some 64) (v := ?_) (a' := ?_) #[true, true, true, true, true, true, true, true, true, true, true, true, false, false, false, false, false] rfl rfl (any_of HT_.out (by kernel_rfl)) (fun _ _ _ h => h) (Or.inl ⟨by rfl, ?_⟩) ?_ ?_
    rotate_left
    · intro w'
      go_simp
      with_reducible rfl
    rotate_left
    · simp only [Act.put, List.setIfInBounds_toArray, List.set_cons_zero, List.set_cons_succ, i64_w, i32_w]
      rfl
    refine one_ (i := 12) (N := some 65) #[true, true, true, true, true, true, true, true, true, true, true, true, true, false, false, false, false] rfl rfl (one_of HT_.out (by kernel_rfl)) (by decide) (fun K hK => ?_)
    refine value_ (w1 := ?_) (v := ?_) (by rfl) rfl ?_ ?_
    rotate_left 2
    · go_simp
      constructor
      · rfl
      · rfl
    have HG := Aside0.mk (heap_alloc_new w2 (.cells #[.slice Ab BT.length cb, .int .u64 d] 92))
    have NHP := Aside0.mk (HP.out.below (below_alloc (Below.refl _ _) (.cells #[.slice Ab BT.length cb, .int .u64 d] 92)))
    have NHB := Aside0.mk (bel_alloc HB.out (.cells #[.slice Ab BT.length cb, .int .u64 d] 92))
    have NHV := Aside0.mk (Kd.R_alloc HV.out (.cells #[.slice Ab BT.length cb, .int .u64 d] 92))
    clear HP HB HV
    have HP := NHP
    have HB := NHB
    have HV := NHV
    clear NHP NHB NHV
    refine hK.out _ _ (HP.out.y1) (fun hHeld => ?_)
    clear hK K
    refine norm_ (a' := ?_) ?_ ?_
    rotate_left
    · show Act.put _ (some 65) _ = _
      simp only [Act.put, List.setIfInBounds_toArray, List.set_cons_zero, List.set_cons_succ, i64_w, i32_w]
      rfl
    refine one_ (i := 13) (N := some 66) #[true, true, true, true, true, true, true, true, true, true, true, true, true, true, false, false, false] rfl rfl (one_of HT_.out (by kernel_rfl)) (by decide) (fun K hK => ?_)
    refine step_append_P rfl (.tmp 57) (.tmp 65) rfl base g (.slice (some ad) L.length cap) L (BT, d) w2.heap.size _ _ rfl rfl HP.out.row HG.out (frP_new HV.out HVL.out HSZ.out (fun k hk => Nat.lt_of_lt_of_le (HXX.out k hk) HBW.out)) HLN.out (Nat.le_trans HBS.out HB.out.size) HP.out.lt HP.out.apart (fun k hk => Nat.lt_of_lt_of_le (HXX.out k hk) HB.out.size) ?_
    intro v3 w3 hv hO hap
    obtain ⟨L3, hL3⟩ : ∃ x, L ++ [(BT, d)] = x := ⟨_, rfl⟩
    rw [hL3] at hv
    have HL3 := Aside0.mk hL3
    obtain ⟨ao3, cap3, rfl, -⟩ := hv.reads
    clear hL3
    have HV3 := Aside0.mk hv
    have HO3 := Aside0.mk hO
    have HAP := Aside0.mk hap
    have HX3 := Aside0.mk ((hO.block g HP.out.lt HP.out.apart).trans HP.out.box)
    clear hv hO hap
    refine hK.out _ _ ((show World.cell? _ ⟨g, 1, none⟩ = _ by rw [blk_cell HX3.out]; rfl)) (fun hHeld => ?_)
    clear hK K
    refine norm_ (a' := ?_) ?_ ?_
    rotate_left
    · show Act.put _ (some 66) _ = _
      simp only [Act.put, List.setIfInBounds_toArray, List.set_cons_zero, List.set_cons_succ, i64_w, i32_w]
      rfl
    refine pure_ (i := 14) (N := some 67) (v := ?_) (a' := ?_) #[true, true, true, true, true, true, true, true, true, true, true, true, true, true, true, false, false] rfl rfl (any_of HT_.out (by kernel_rfl)) (fun _ _ _ h => h) (Or.inl ⟨by rfl, ?_⟩) ?_ ?_
    rotate_left
    · intro w'
      go_simp
      with_reducible rfl
    rotate_left
    · simp only [Act.put, List.setIfInBounds_toArray, List.set_cons_zero, List.set_cons_succ, i64_w, i32_w]
      rfl
    refine pure_ (i := 15) (N := some 68) (v := ?_) (a' := ?_) #[true, true, true, true, true, true, true, true, true, true, true, true, true, true, true, true, false] rfl rfl (any_of HT_.out (by kernel_rfl)) (fun _ _ _ h => h) (Or.inl ⟨by rfl, ?_⟩) ?_ ?_
    rotate_left
    · intro w'
      go_simp
      with_reducible rfl
    rotate_left
    · simp only [Act.put, List.setIfInBounds_toArray, List.set_cons_zero, List.set_cons_succ, i64_w, i32_w]
      rfl
    refine last_ (i := 16) (N := none) #[true, true, true, true, true, true, true, true, true, true, true, true, true, true, true, true, true] rfl rfl (one_of HT_.out (by kernel_rfl)) (by decide) (fun K hK => ?_)
    have fz : w3.frozen? ⟨g, 1, none⟩ = false := blk_frozen HX3.out 1
    refine skip_ (w1 := ?_) (by rfl) rfl ?_ ?_
    rotate_left
    · go_simp
      rfl
    refine hK.out _ _ ?_
    clear hK K
    refine done_ (done_of HT_.out (by kernel_rfl)) ?_
    go_wp2
    go_ret
    refine ⟨rfl, .slice ao3 L3.length cap3, ⟨?_, ?_, HP.out.gb, HAP.out⟩, ?_⟩
    · exact blk_put HX3.out 1 _ rfl
    · have h1 := HV3.out.put (j := 1) (u := .slice ao3 L3.length cap3) HAP.out
      have h2 : putP L (B.take n) (now + delay) = L3 := by
        rw [HBT.out, ← HL3.out]; unfold putP; rw [List.getLast?_eq_getElem?, HMM.out, Nat.add_sub_cancel, HXM.out, ← hd]
      rw [h2]
      exact h1
    · have h1 : Only (Sv (.slice (some ad) L.length cap) g) w w3 := (Only.of_below HB.out).trans (HO3.out.mono (fun k h => .inl h))
      exact h1.set _ _ (.inr rfl)
  · have HLE := Aside0.mk (show L = [] from List.length_eq_zero_iff.1 (by omega))
    have z1 : decide (0 < (L.length : Int)) = false := decide_eq_false (by omega)
    have z2 : decide (0 < L.length) = false := decide_eq_false hL
    have z3 : (0 < L.length) = False := eq_false hL
    obtain ⟨d, hd⟩ : ∃ d, now + delay = d := ⟨_, rfl⟩
    rw [hd] at u3
    clear hL
    go_enter Try.func15, Try.ntmps15
    go_wp2
    refine start_ (n := 11) (S := fun w' => w'.cell? ⟨g, 0, none⟩ = some (.int .i64 room)) (ds := []) #[false, false, false, false, false, false, false, false, false, false, false] (by kernel_rfl) rfl rfl (HP.out.y0) (fun hHeld => ?_)
    refine with_tabW put.tab1 put.bits1 (fun HT_ HW_ => ?_)
    generalize w.drew = wd at HP HB HRD hHeld ⊢
    refine pure_ (i := 0) (N := some 12) (v := ?_) (a' := ?_) #[true, false, false, false, false, false, false, false, false, false, false] rfl rfl (any_of HT_.out (by kernel_rfl)) (fun _ _ _ h => h) (Or.inl ⟨by rfl, ?_⟩) ?_ ?_
    rotate_left
    · intro w'
      go_simp
      with_reducible rfl
    rotate_left
    · simp only [Act.put, List.setIfInBounds_toArray, List.set_cons_zero, List.set_cons_succ, i64_w, i32_w]
      rfl
    refine pure_ (i := 1) (N := some 13) (v := ?_) (a' := ?_) #[true, true, false, false, false, false, false, false, false, false, false] rfl rfl (any_of HT_.out (by kernel_rfl)) (fun _ _ _ h => h) (Or.inl ⟨by rfl, ?_⟩) ?_ ?_
    rotate_left
    · intro w'
      go_simp
      with_reducible rfl
    rotate_left
    · simp only [Act.put, List.setIfInBounds_toArray, List.set_cons_zero, List.set_cons_succ, i64_w, i32_w]
      rfl
    refine pure_ (i := 2) (N := some 14) (v := ?_) (a' := ?_) #[true, true, true, false, false, false, false, false, false, false, false] rfl rfl (any_of HT_.out (by kernel_rfl)) (fun _ _ _ h => h) (Or.inl ⟨by rfl, ?_⟩) ?_ ?_
    rotate_left
    · intro w'
      go_simp
      with_reducible rfl
    rotate_left
    · simp only [Act.put, List.setIfInBounds_toArray, List.set_cons_zero, List.set_cons_succ, i64_w, i32_w]
      rfl
    refine pure_ (i := 3) (N := some 15) (v := ?_) (a' := ?_) #[true, true, true, true, false, false, false, false, false, false, false] rfl rfl (any_of HT_.out (by kernel_rfl)) (fun _ _ _ h => h) (Or.inl ⟨by rfl, ?_⟩) ?_ ?_
    rotate_left
    · intro w'
      go_simp
      with_reducible rfl
    rotate_left
    · simp only [Act.put, List.setIfInBounds_toArray, List.set_cons_zero, List.set_cons_succ, i64_w, i32_w]
      rfl
    refine pure_ (i := 4) (N := some 16) (v := ?_) (a' := ?_) #[true, true, true, true, true, false, false, false, false, false, false] rfl rfl (any_of HT_.out (by kernel_rfl)) (fun _ _ _ h => h) (Or.inl ⟨by rfl, ?_⟩) ?_ ?_
    rotate_left
    · intro w'
      go_simp
      with_reducible rfl
    rotate_left
    · simp only [Act.put, List.setIfInBounds_toArray, List.set_cons_zero, List.set_cons_succ, i64_w, i32_w]
      rfl
    refine pure_ (i := 6) (N := some 18) (v := ?_) (a' := ?_) #[true, true, true, true, true, false, true, false, false, false, false] rfl rfl (any_of HT_.out (by kernel_rfl)) (fun _ _ _ h => h) (Or.inl ⟨by rfl, ?_⟩) ?_ ?_
    rotate_left
    · intro w'
      go_simp
      with_reducible rfl
    rotate_left
    · simp only [Act.put, List.setIfInBounds_toArray, List.set_cons_zero, List.set_cons_succ, i64_w, i32_w]
      rfl
    refine take_ (i := 5) (N := some 17) (v := ?_) (a' := ?_) #[true, true, true, true, true, true, true, false, false, false, false] rfl rfl (take_ofW HT_.out HW_.out (by kernel_rfl)) (fun _ _ _ h => h) (Or.inl ⟨by rfl, ?_⟩) hHeld ?_ ?_
    rotate_left
    · intro w' s0
      go_simp
      with_reducible rfl
    rotate_left
    · simp only [Act.put, List.setIfInBounds_toArray, List.set_cons_zero, List.set_cons_succ, i64_w, i32_w]
      rfl
    refine one_ (i := 7) (N := some 19) #[true, true, true, true, true, true, true, true, false, false, false] rfl rfl (one_of HT_.out (by kernel_rfl)) (by decide) (fun K hK => ?_)
    refine goes_ Try.func17 (by kernel_rfl) rfl #[.pointer (some ⟨g, 0, none⟩)] (by rfl) rfl rfl (by simp only [List.map_toArray, List.map_cons, List.map_nil]; rfl) ?_
    with_reducible refine (len_calls g room ao cap L _ _ HP.out.box HRD.out HT.out HN.out).mono ?_
    rintro e w1 ⟨rfl, hb⟩
    refine ⟨_, rfl, ?_⟩
    have NHP := Aside0.mk (HP.out.below hb)
    have NHB := Aside0.mk (bel_trans HB.out hb)
    clear HP HB hb HRD
    have HP := NHP
    have HB := NHB
    clear NHP NHB
    refine hK.out _ _ (HP.out.y0) (fun hHeld => ?_)
    clear hK K
    refine norm_ (a' := ?_) ?_ ?_
    rotate_left
    · show Act.put _ (some 19) _ = _
      simp only [Act.put, List.setIfInBounds_toArray, List.set_cons_zero, List.set_cons_succ, i64_w, i32_w]
      rfl
    refine pure_ (i := 8) (N := some 20) (v := ?_) (a' := ?_) #[true, true, true, true, true, true, true, true, true, false, false] rfl rfl (any_of HT_.out (by kernel_rfl)) (fun _ _ _ h => h) (Or.inl ⟨by rfl, ?_⟩) ?_ ?_
    rotate_left
    · intro w'
      go_simp
      with_reducible rfl
    rotate_left
    · simp only [Act.put, List.setIfInBounds_toArray, List.set_cons_zero, List.set_cons_succ, i64_w, i32_w]
      rfl
    refine pure_ (i := 9) (N := some 21) (v := ?_) (a' := ?_) #[true, true, true, true, true, true, true, true, true, true, false] rfl rfl (any_of HT_.out (by kernel_rfl)) (fun _ _ _ h => h) (Or.inl ⟨by rfl, ?_⟩) ?_ ?_
    rotate_left
    · intro w'
      go_simp
      with_reducible rfl
    rotate_left
    · simp only [Act.put, List.setIfInBounds_toArray, List.set_cons_zero, List.set_cons_succ, i64_w, i32_w]
      rfl
    refine pure_ (i := 10) (N := some 9) (v := ?_) (a' := ?_) #[true, true, true, true, true, true, true, true, true, true, true] rfl rfl (any_of HT_.out (by kernel_rfl)) (fun _ _ _ h => h) (Or.inl ⟨by rfl, ?_⟩) ?_ ?_
    rotate_left
    · intro w'
      go_simp
      with_reducible rfl
    rotate_left
    · simp only [Act.put, List.setIfInBounds_toArray, List.set_cons_zero, List.set_cons_succ, i64_w, i32_w]
      rfl
    refine done_ (done_of HT_.out (by kernel_rfl)) ?_
    have y1 := HP.out.y1
    have y2 := HP.out.y2
    go_wp2
    have NHP := Aside0.mk (HP.out.below (below_drew (Below.refl _ _)))
    have NHB := Aside0.mk (below_drew HB.out)
    clear HP HB y1 y2
    have HP := NHP
    have HB := NHB
    clear NHP NHB
    refine start_ (n := 17) (S := fun w' => w'.cell? ⟨g, 1, none⟩ = some (.slice ao L.length cap)) (ds := [16]) #[false, false, false, false, false, false, false, false, false, false, false, false, false, false, false, false, false] (by kernel_rfl) rfl rfl (HP.out.y1) (fun hHeld => ?_)
    refine with_tabW put.tab8 put.bits8 (fun HT_ HW_ => ?_)
    generalize w1.drew = wd at HP HB hHeld ⊢
    refine pure_ (i := 0) (N := some 53) (v := ?_) (a' := ?_) #[true, false, false, false, false, false, false, false, false, false, false, false, false, false, false, false, false] rfl rfl (any_of HT_.out (by kernel_rfl)) (fun _ _ _ h => h) (Or.inl ⟨by rfl, ?_⟩) ?_ ?_
    rotate_left
    · intro w'
      go_simp
      with_reducible rfl
    rotate_left
    · simp only [Act.put, List.setIfInBounds_toArray, List.set_cons_zero, List.set_cons_succ, i64_w, i32_w]
      rfl
    refine pure_ (i := 1) (N := some 54) (v := ?_) (a' := ?_) #[true, true, false, false, false, false, false, false, false, false, false, false, false, false, false, false, false] rfl rfl (any_of HT_.out (by kernel_rfl)) (fun _ _ _ h => h) (Or.inl ⟨by rfl, ?_⟩) ?_ ?_
    rotate_left
    · intro w'
      go_simp
      with_reducible rfl
    rotate_left
    · simp only [Act.put, List.setIfInBounds_toArray, List.set_cons_zero, List.set_cons_succ, i64_w, i32_w]
      rfl
    refine pure_ (i := 2) (N := some 55) (v := ?_) (a' := ?_) #[true, true, true, false, false, false, false, false, false, false, false, false, false, false, false, false, false] rfl rfl (any_of HT_.out (by kernel_rfl)) (fun _ _ _ h => h) (Or.inl ⟨by rfl, ?_⟩) ?_ ?_
    rotate_left
    · intro w'
      go_simp
      with_reducible rfl
    rotate_left
    · simp only [Act.put, List.setIfInBounds_toArray, List.set_cons_zero, List.set_cons_succ, i64_w, i32_w]
      rfl
    refine pure_ (i := 3) (N := some 56) (v := ?_) (a' := ?_) #[true, true, true, true, false, false, false, false, false, false, false, false, false, false, false, false, false] rfl rfl (any_of HT_.out (by kernel_rfl)) (fun _ _ _ h => h) (Or.inl ⟨by rfl, ?_⟩) ?_ ?_
    rotate_left
    · intro w'
      go_simp
      with_reducible rfl
    rotate_left
    · simp only [Act.put, List.setIfInBounds_toArray, List.set_cons_zero, List.set_cons_succ, i64_w, i32_w]
      rfl
    refine pure_ (i := 5) (N := some 58) (v := ?_) (a' := ?_) #[true, true, true, true, false, true, false, false, false, false, false, false, false, false, false, false, false] rfl rfl (any_of HT_.out (by kernel_rfl)) (fun _ _ _ h => h) (Or.inl ⟨by rfl, ?_⟩) ?_ ?_
    rotate_left
    · intro w'
      go_simp
      with_reducible rfl
    rotate_left
    · simp only [Act.put, List.setIfInBounds_toArray, List.set_cons_zero, List.set_cons_succ, i64_w, i32_w]
      rfl
    refine pure_ (i := 6) (N := some 59) (v := ?_) (a' := ?_) #[true, true, true, true, false, true, true, false, false, false, false, false, false, false, false, false, false] rfl rfl (any_of HT_.out (by kernel_rfl)) (fun _ _ _ h => h) (Or.inl ⟨by rfl, ?_⟩) ?_ ?_
    rotate_left
    · intro w'
      go_simp
      with_reducible rfl
    rotate_left
    · simp only [Act.put, List.setIfInBounds_toArray, List.set_cons_zero, List.set_cons_succ, i64_w, i32_w]
      rfl
    refine pure_ (i := 7) (N := some 60) (v := ?_) (a' := ?_) #[true, true, true, true, false, true, true, true, false, false, false, false, false, false, false, false, false] rfl rfl (any_of HT_.out (by kernel_rfl)) (fun _ _ _ h => h) (Or.inl ⟨by rfl, ?_⟩) ?_ ?_
    rotate_left
    · intro w'
      go_simp
      with_reducible rfl
    rotate_left
    · simp only [Act.put, List.setIfInBounds_toArray, List.set_cons_zero, List.set_cons_succ, i64_w, i32_w]
      rfl
    refine pure_ (i := 8) (N := some 61) (v := ?_) (a' := ?_) #[true, true, true, true, false, true, true, true, true, false, false, false, false, false, false, false, false] rfl rfl (any_of HT_.out (by kernel_rfl)) (fun _ _ _ h => h) (Or.inl ⟨by rfl, ?_⟩) ?_ ?_
    rotate_left
    · intro w'
      go_simp
      with_reducible rfl
    rotate_left
    · simp only [Act.put, List.setIfInBounds_toArray, List.set_cons_zero, List.set_cons_succ, i64_w, i32_w]
      rfl
    refine pure_ (i := 10) (N := some 63) (v := ?_) (a' := ?_) #[true, true, true, true, false, true, true, true, true, false, true, false, false, false, false, false, false] rfl rfl (any_of HT_.out (by kernel_rfl)) (fun _ _ _ h => h) (Or.inl ⟨by rfl, ?_⟩) ?_ ?_
    rotate_left
    · intro w'
      go_simp
      with_reducible rfl
    rotate_left
    · simp only [Act.put, List.setIfInBounds_toArray, List.set_cons_zero, List.set_cons_succ, i64_w, i32_w]
      rfl
    refine take_ (i := 4) (N := some 57) (v := ?_) (a' := ?_) #[true, true, true, true, true, true, true, true, true, false, true, false, false, false, false, false, false] rfl rfl (take_ofW HT_.out HW_.out (by kernel_rfl)) (fun _ _ _ h => h) (Or.inl ⟨by rfl, ?_⟩) hHeld ?_ ?_
    rotate_left
    · intro w' s0
      go_simp
      with_reducible rfl
    rotate_left
    · simp only [Act.put, List.setIfInBounds_toArray, List.set_cons_zero, List.set_cons_succ, i64_w, i32_w]
      rfl
    refine one_ (i := 9) (N := some 62) #[true, true, true, true, true, true, true, true, true, true, true, false, false, false, false, false, false] rfl rfl (one_of HT_.out (by kernel_rfl)) (by decide) (fun K hK => ?_)
    refine goes_ Try.func40 (by kernel_rfl) rfl #[.slice (some bd) n n] (by rfl) rfl rfl (by simp only [List.map_toArray, List.map_cons, List.map_nil]; rfl) ?_
    with_reducible refine (clone_calls bd n n BT _ HNL.out (HBC.out _ HB.out) HNS.out).mono ?_
    rintro e w2 ⟨⟨vb, rfl, hv⟩, hb⟩
    refine ⟨_, rfl, ?_⟩
    obtain ⟨Ab, cb, rfl⟩ := Kd.R_slice hv
    have HV := Aside0.mk hv
    have HSZ := Aside0.mk HP.out.lt
    have HVL := Aside0.mk HP.out.row.lt
    have HBW := Aside0.mk HB.out.size
    have NHP := Aside0.mk (HP.out.below hb)
    have NHB := Aside0.mk (bel_trans HB.out hb)
    clear HP HB hb hv
    have HP := NHP
    have HB := NHB
    clear NHP NHB
    refine hK.out _ _ (HP.out.y1) (fun hHeld => ?_)
    clear hK K
    refine norm_ (a' := ?_) ?_ ?_
    rotate_left
    · show Act.put _ (some 62) _ = _
      simp only [Act.put, List.setIfInBounds_toArray, List.set_cons_zero, List.set_cons_succ, i64_w, i32_w]
      rfl
    refine pure_ (i := 11) (N := some 64) (v := ?_) (a' := ?_) #[true, true, true, true, true, true, true, true, true, true, true, true, false, false, false, false, false] rfl rfl (any_of HT_.out (by kernel_rfl)) (fun _ _ _ h => h) (Or.inl ⟨by rfl, ?_⟩) ?_ ?_
    rotate_left
    · intro w'
      go_simp
      with_reducible rfl
    rotate_left
    · simp only [Act.put, List.setIfInBounds_toArray, List.set_cons_zero, List.set_cons_succ, i64_w, i32_w]
      rfl
    refine one_ (i := 12) (N := some 65) #[true, true, true, true, true, true, true, true, true, true, true, true, true, false, false, false, false] rfl rfl (one_of HT_.out (by kernel_rfl)) (by decide) (fun K hK => ?_)
    refine value_ (w1 := ?_) (v := ?_) (by rfl) rfl ?_ ?_
    rotate_left 2
    · go_simp
      constructor
      · rfl
      · rfl
    have HG := Aside0.mk (heap_alloc_new w2 (.cells #[.slice Ab BT.length cb, .int .u64 d] 92))
    have NHP := Aside0.mk (HP.out.below (below_alloc (Below.refl _ _) (.cells #[.slice Ab BT.length cb, .int .u64 d] 92)))
    have NHB := Aside0.mk (bel_alloc HB.out (.cells #[.slice Ab BT.length cb, .int .u64 d] 92))
    have NHV := Aside0.mk (Kd.R_alloc HV.out (.cells #[.slice Ab BT.length cb, .int .u64 d] 92))
    clear HP HB HV
    have HP := NHP
    have HB := NHB
    have HV := NHV
    clear NHP NHB NHV
    refine hK.out _ _ (HP.out.y1) (fun hHeld => ?_)
    clear hK K
    refine norm_ (a' := ?_) ?_ ?_
    rotate_left
    · show Act.put _ (some 65) _ = _
      simp only [Act.put, List.setIfInBounds_toArray, List.set_cons_zero, List.set_cons_succ, i64_w, i32_w]
      rfl
    refine one_ (i := 13) (N := some 66) #[true, true, true, true, true, true, true, true, true, true, true, true, true, true, false, false, false] rfl rfl (one_of HT_.out (by kernel_rfl)) (by decide) (fun K hK => ?_)
    refine step_append_P rfl (.tmp 57) (.tmp 65) rfl base g (.slice ao L.length cap) L (BT, d) w2.heap.size _ _ rfl rfl HP.out.row HG.out (frP_new HV.out HVL.out HSZ.out (fun k hk => Nat.lt_of_lt_of_le (HXX.out k hk) HBW.out)) HLN.out (Nat.le_trans HBS.out HB.out.size) HP.out.lt HP.out.apart (fun k hk => Nat.lt_of_lt_of_le (HXX.out k hk) HB.out.size) ?_
    intro v3 w3 hv hO hap
    obtain ⟨L3, hL3⟩ : ∃ x, L ++ [(BT, d)] = x := ⟨_, rfl⟩
    rw [hL3] at hv
    have HL3 := Aside0.mk hL3
    obtain ⟨ao3, cap3, rfl, -⟩ := hv.reads
    clear hL3
    have HV3 := Aside0.mk hv
    have HO3 := Aside0.mk hO
    have HAP := Aside0.mk hap
    have HX3 := Aside0.mk ((hO.block g HP.out.lt HP.out.apart).trans HP.out.box)
    clear hv hO hap
    refine hK.out _ _ ((show World.cell? _ ⟨g, 1, none⟩ = _ by rw [blk_cell HX3.out]; rfl)) (fun hHeld => ?_)
    clear hK K
    refine norm_ (a' := ?_) ?_ ?_
    rotate_left
    · show Act.put _ (some 66) _ = _
      simp only [Act.put, List.setIfInBounds_toArray, List.set_cons_zero, List.set_cons_succ, i64_w, i32_w]
      rfl
    refine pure_ (i := 14) (N := some 67) (v := ?_) (a' := ?_) #[true, true, true, true, true, true, true, true, true, true, true, true, true, true, true, false, false] rfl rfl (any_of HT_.out (by kernel_rfl)) (fun _ _ _ h => h) (Or.inl ⟨by rfl, ?_⟩) ?_ ?_
    rotate_left
    · intro w'
      go_simp
      with_reducible rfl
    rotate_left
    · simp only [Act.put, List.setIfInBounds_toArray, List.set_cons_zero, List.set_cons_succ, i64_w, i32_w]
      rfl
    refine pure_ (i := 15) (N := some 68) (v := ?_) (a' := ?_) #[true, true, true, true, true, true, true, true, true, true, true, true, true, true, true, true, false] rfl rfl (any_of HT_.out (by kernel_rfl)) (fun _ _ _ h => h) (Or.inl ⟨by rfl, ?_⟩) ?_ ?_
    rotate_left
    · intro w'
      go_simp
      with_reducible rfl
    rotate_left
    · simp only [Act.put, List.setIfInBounds_toArray, List.set_cons_zero, List.set_cons_succ, i64_w, i32_w]
      rfl
    refine last_ (i := 16) (N := none) #[true, true, true, true, true, true, true, true, true, true, true, true, true, true, true, true, true] rfl rfl (one_of HT_.out (by kernel_rfl)) (by decide) (fun K hK => ?_)
    have fz : w3.frozen? ⟨g, 1, none⟩ = false := blk_frozen HX3.out 1
    refine skip_ (w1 := ?_) (by rfl) rfl ?_ ?_
    rotate_left
    · go_simp
      rfl
    refine hK.out _ _ ?_
    clear hK K
    refine done_ (done_of HT_.out (by kernel_rfl)) ?_
    go_wp2
    go_ret
    refine ⟨rfl, .slice ao3 L3.length cap3, ⟨?_, ?_, HP.out.gb, HAP.out⟩, ?_⟩
    · exact blk_put HX3.out 1 _ rfl
    · have h1 := HV3.out.put (j := 1) (u := .slice ao3 L3.length cap3) HAP.out
      have h2 : putP L (B.take n) (now + delay) = L3 := by
        rw [HBT.out, hd, ← HL3.out]; unfold putP; rw [HLE.out]; rfl
      rw [h2]
      exact h1
    · have h1 : Only (Sv (.slice ao L.length cap) g) w w3 := (Only.of_below HB.out).trans (HO3.out.mono (fun k h => .inl h))
      exact h1.set _ _ (.inr rfl)
end Go.Proofs.Ytjbakaplcjkniaa.Pi
