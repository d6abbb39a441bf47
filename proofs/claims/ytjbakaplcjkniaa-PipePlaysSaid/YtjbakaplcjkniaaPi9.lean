/- Pipe: Take. No condition. -/
import Derived.Test.YtjbakaplcjkniaaPi8
namespace Go.Proofs.Ytjbakaplcjkniaa.Pi
open Go.RowKit Go.Proofs.YtjbakaplcjkniaaW.PrintWords Go.Proofs.YtjbakaplcjkniaaW.PrintLast Go.Proofs.YtjbakaplcjkniaaW.PrintMore
variable {X : Nat → Prop}
set_option linter.unusedVariables false
set_option linter.unusedSimpArgs false
attribute [local go_sem] max2_M min2_M max_two min_two
def take.T6 : Bool × List (List Nat × List Nat) := (true, [([], []), ([], []), ([1], [1]), ([2], [2]), ([3], [3]), ([], []), ([], []), ([6], [6]), ([7], [7]), ([8], [8]), ([9], [9]), ([], []), ([11], [11]), ([12], [12]), ([13], [13]), ([14], [14]), ([4, 5, 10, 15], [4, 5, 10, 15]), ([0, 0, 1, 2, 3, 4, 5, 6, 7, 8, 9, 10, 11, 12, 13, 14, 15, 16], [0]), ([17, 0, 1, 2, 3, 4, 5, 6, 7, 8, 9, 10, 11, 12, 13, 14, 15, 16], [17]), ([18, 16, 0, 1, 2, 3, 4, 5, 6, 7, 8, 9, 10, 11, 12, 13, 14, 15, 16], [16, 18])])
def take.B6 : List Nat := [0, 0, 2, 6, 14, 0, 0, 64, 192, 448, 960, 0, 2048, 6144, 14336, 30720, 65534, 131071, 262143, 524287]
theorem take.tab6 : rtab .any (opsOf Try.f16 6) = take.T6 := by kernel_rfl
theorem take.bits6 : waitsOk take.T6.2 take.B6 = true := by kernel_rfl
/-- How things lie in memory ahead of a round: w at the call, wr now; M what is left, O what was taken. -/
structure TB (X : Nat → Prop) (w wr : World) (base g : Nat) (room : Int) (cut : Bool) (v v1 o : Value) (M : Pcs) (O : List Int) : Prop where
  box : wr.heap[g]? = some (.cells #[.int .i64 room, v1, .bool cut] 90)
  row : OwnP2 X w wr base g v v1 M
  own : v1.ownBlock = v.ownBlock
  out : (Kd.int .u8).R 5 wr w.heap.size (fun _ => True) o O
  only : Only (Sv v g) w wr
  glt : g < w.heap.size
  vlt : ∀ k, v.ownBlock = some k → k < w.heap.size
  apart : v.ownBlock ≠ some g
/-- What was taken and what is left, of L. -/
structure TE (L : Pcs) (now : Int) (m : Nat) (M : Pcs) (O : List Int) : Prop where
  eqn : takeP now m L = (O ++ (takeP now (m - O.length) M).1, (takeP now (m - O.length) M).2)
  full : Full M
  sum : O.length + total M = total L
  few : O.length ≤ m ∧ M.length ≤ L.length
section
variable {w wr w1 : World} {base g m : Nat} {room now : Int} {cut : Bool} {v v1 o : Value} {L M : Pcs} {O : List Int}
theorem TB.y1 (h : TB X w wr base g room cut v v1 o M O) : wr.cell? ⟨g, 1, none⟩ = some v1 := by rw [blk_cell h.box]; rfl
theorem TB.slice (h : TB X w wr base g room cut v v1 o M O) : ∃ ao c, v1 = .slice ao M.length c := by
  obtain ⟨inner, h1, _⟩ := h.row
  exact own_slice h1
theorem TB.outs (h : TB X w wr base g room cut v v1 o M O) : ∃ ao c, o = .slice ao O.length c := Kd.R_slice h.out
theorem TB.below (h : TB X w wr base g room cut v v1 o M O) (hb : Below wr.heap.size wr w1) : TB X w w1 base g room cut v v1 o M O :=
  ⟨blk_below h.box hb, h.row.move (fun k hk => hb.block k (by have := h.vlt k (h.own ▸ hk); have := h.only.size; omega)), h.own, Kd.R_below h.out hb, h.only.below hb, h.glt, h.vlt, h.apart⟩
theorem TB.far (h : TB X w wr base g room cut v v1 o M O) (k : Nat) (hk : o.ownBlock = some k) : w.heap.size ≤ k := Kd.R_base h.out k hk
/-- Behind an append to what was taken. -/
theorem TB.grown {o1 : Value} {O1 : List Int} (h : TB X w wr base g room cut v v1 o M O) (hr : (Kd.int .u8).R 5 w1 w.heap.size (fun _ => True) o1 O1) (hg : wr.grownBy w1 o.ownBlock) : TB X w w1 base g room cut v v1 o1 M O1 := by
  have hs := h.only.size
  refine ⟨(hg.block g (by have := h.glt; omega) (fun e => by have := h.far g e.symm; have := h.glt; omega)).trans h.box, h.row.move (fun k hk => ?_), h.own, hr, h.only.grown hg (fun k hk hlt => by have := h.far k hk; omega), h.glt, h.vlt, h.apart⟩
  have hv := h.vlt k (h.own ▸ hk)
  exact hg.block k (by omega) (fun e => by have := h.far k e.symm; omega)
/-- The first piece's bytes are cut off. -/
theorem TB.cutF {b : List Int} {d : Int} {M2 : Pcs} {r cap c k : Nat} {cur : Array Value} {A : Addr} (h : TB X w wr base g room cut v (.slice (some ⟨r, 0, none⟩) (M2.length + 1) cap) o ((b, d) :: M2) O) (f : First X w wr g v r cap cur A c b d M2.length) (hk : k ≤ b.length) :
    TB X w (wr.setCell ⟨r, 0, none⟩ (.slice (if b.length = k then some A else some (A.add k)) (b.length - k) (b.length - k))) base g room cut v (.slice (some ⟨r, 0, none⟩) (M2.length + 1) cap) o ((b.drop k, d) :: M2) O := by
  have hv : v.ownBlock = some r := h.own.symm
  have hg : g ≠ r := fun e => h.apart (by rw [hv, e])
  have hlt := h.vlt r hv
  refine ⟨blk_far h.box (p := ⟨r, 0, none⟩) hg _, h.row.cut f hk, h.own, Kd.R_mono (Kd.R_step (Kd.R_bound h.out) (fun k hk _ => Below.heap_setCell wr ⟨r, 0, none⟩ _ k (by have := hk.2.1; show k ≠ r; omega))) (fun _ _ => trivial), h.only.set _ _ (.inl hv), h.glt, h.vlt, h.apart⟩
/-- The first piece is deleted, and the list stored. -/
theorem TB.del {x : List Int × Int} {M2 : Pcs} {r cap : Nat} {cur : Array Value} (h : TB X w wr base g room cut v (.slice (some ⟨r, 0, none⟩) (M2.length + 1) cap) o (x :: M2) O) (hh : wr.heap[r]? = some (.cells cur 92 (0, 0))) (z0 z1 : Value) (W : World)
    (hW : W = (wr.drew.setCells r 0 ((cur.toList.drop 2).take (M2.length * 2))).setCells r (M2.length * 2) [z0, z1]) :
    W.heap[g]? = some (.cells #[.int .i64 room, .slice (some ⟨r, 0, none⟩) (M2.length + 1) cap, .bool cut] 90) ∧
    TB X w (W.setCell ⟨g, 1, none⟩ (.slice (some ⟨r, 0, none⟩) M2.length cap)) base g room cut v (.slice (some ⟨r, 0, none⟩) M2.length cap) o M2 O := by
  have hv : v.ownBlock = some r := h.own.symm
  have hg : g ≠ r := fun e => h.apart (by rw [hv, e])
  have hlt := h.vlt r hv
  have hs := h.only.size
  obtain ⟨h1, h2⟩ := h.row.delete hh z0 z1
  rw [← hW] at h1 h2
  have hb : W.heap[g]? = some (.cells #[.int .i64 room, .slice (some ⟨r, 0, none⟩) (M2.length + 1) cap, .bool cut] 90) := (h2.block g (by have := h.glt; omega) hg).trans h.box
  refine ⟨hb, blk_put hb 1 _ rfl, h1.move (fun k hk => ?_), hv ▸ rfl, ?_, (h.only.trans (h2.mono (fun i hi => .inl (hi ▸ hv)))).set _ _ (.inr rfl), h.glt, h.vlt, h.apart⟩
  · have : k = r := by simpa [Value.ownBlock] using hk.symm
    exact Below.heap_setCell W ⟨g, 1, none⟩ _ k (by rw [this]; exact hg.symm)
  · have hh' := Kd.R_bound h.out
    refine Kd.R_mono (Kd.R_step hh' (fun k hk hkl => ?_)) (fun _ _ => trivial)
    have h3 := hk.2.1
    rw [Below.heap_setCell W ⟨g, 1, none⟩ _ k (by have := h.glt; show k ≠ g; omega)]
    exact h2.block k hkl (by omega)
theorem First.step {b : List Int} {d : Int} {r cap c n : Nat} {cur : Array Value} {A : Addr} (h : First X w wr g v r cap cur A c b d n) (hm : w1.heap[r]? = wr.heap[r]?) : First X w w1 g v r cap cur A c b d n := by
  have hb := hm.trans h.blk
  refine ⟨hb, h.size, h.fit, ?_, ?_, h.room, h.reads, h.one⟩
  · rw [blk_cell hb, ← blk_cell h.blk]; exact h.y0
  · rw [blk_cell hb, ← blk_cell h.blk]; exact h.y1
theorem First.after {b : List Int} {d : Int} {r cap c n : Nat} {cur : Array Value} {A : Addr} (h : First X w wr g v r cap cur A c b d n) (u : Value) :
    (wr.setCell ⟨r, 0, none⟩ u).heap[r]? = some (.cells (cur.setIfInBounds 0 u) 92 (0, 0)) ∧ (cur.setIfInBounds 0 u).size = cap * 2 ∧ (wr.setCell ⟨r, 0, none⟩ u).cell? ⟨r, 0, none⟩ = some u ∧ ∀ x ∈ ((cur.setIfInBounds 0 u).toList.drop 2).take (n * 2), x.oneCell' = true := by
  have hb := blk_set h.blk 0 u
  have hs : 0 < cur.size := by have := h.size; have := h.fit; omega
  refine ⟨hb, by simpa using h.size, by rw [blk_cell hb]; simp [hs], ?_⟩
  rw [Array.toList_setIfInBounds, List.drop_set_of_lt (by omega)]
  exact h.one
end
theorem TB.start {w : World} {base g : Nat} {room : Int} {v : Value} {L : Pcs} {cut : Bool} (hP : Pipe X w base g room v L cut) : TB X w w base g room cut v v (.slice none 0 0) L [] :=
  ⟨hP.box, .of hP.row, rfl, Kd.R_nil _ _ _ _ _, Only.refl _ _, hP.lt, hP.row.lt, hP.apart⟩
theorem TE.start {L : Pcs} (hf : Full L) (now : Int) (m : Nat) : TE L now m L [] := ⟨by simp, hf, by simp, by simp⟩
/-- A round: k bytes of the first piece. -/
theorem TE.round {L M2 : Pcs} {now d : Int} {m k : Nat} {b O : List Int} (h : TE L now m ((b, d) :: M2) O) (hd : d ≤ now) (hm : O.length < m) (hk : min (m - O.length) b.length = k) :
    (k = b.length → TE L now m M2 (O ++ b.take k)) ∧ (k ≠ b.length → TE L now m ((b.drop k, d) :: M2) (O ++ b.take k)) := by
  have hb := h.full.head
  have hb' : 0 < b.length := hb
  have hl : (b.take k).length = k := by rw [List.length_take]; omega
  have e := h.eqn
  have hsum := h.sum
  rw [total_cons] at hsum
  dsimp only at hsum
  have hfew := h.few
  rw [List.length_cons] at hfew
  rw [takeP, if_neg (by omega)] at e
  refine ⟨fun hk1 => ⟨?_, h.full.tail, ?_, ?_⟩, fun hk1 => ⟨?_, ?_, ?_, ?_⟩⟩
  · rw [if_neg (by omega)] at e
    rw [e, List.length_append, hl, hk1, List.take_length, Nat.sub_sub, List.append_assoc]
  · rw [List.length_append, hl]; omega
  · rw [List.length_append, hl]; omega
  · rw [if_pos (by omega)] at e
    have hmk : m - O.length = k := by omega
    rw [e, List.length_append, hl, show m - (O.length + k) = 0 by omega, takeP, if_pos (.inl rfl), hmk, List.append_nil]
  · intro y hy
    rcases List.mem_cons.1 hy with rfl | hy
    · show 0 < (b.drop k).length
      rw [List.length_drop]; omega
    · exact h.full.tail y hy
  · rw [List.length_append, hl, total_cons]
    show O.length + k + ((b.drop k).length + total M2) = _
    rw [List.length_drop]; omega
  · rw [List.length_append, hl, List.length_cons]; omega
set_option maxHeartbeats 4000000 in
set_option maxRecDepth 100000 in
theorem take_calls (base g : Nat) (room : Int) (v : Value) (L : Pcs) (cut : Bool) (n now : Int) (w : World) (hP : Pipe X w base g room v L cut) (hf : Full L) (ht : total L ≤ 1000000) (hn : L.length ≤ 1000000) (hw : 0 ≤ now ∧ now ≤ 4294967295) (hi : -9223372036854775808 ≤ n ∧ n ≤ 9223372036854775807) (hbs : base ≤ w.heap.size) :
    Calls Try.prog 16 #[.pointer (some ⟨g, 0, none⟩), .int .i64 n, .int .u32 now] w fun e w' => ∃ o, e = .returned o ∧ ∃ v1 M O, TB X w w' base g room cut v v1 o M O ∧ TE L now n.toNat M O ∧ takeP now (n.toNat - O.length) M = ([], M) := by
  have hu := Try.underlying92
  have hu2 := Try.underlying90
  have T0 := Aside0.mk (TB.start hP)
  have E0 := Aside0.mk (TE.start hf now n.toNat)
  have HT := Aside0.mk ht
  have HN := Aside0.mk hn
  have HBS := Aside0.mk hbs
  have HI := Aside0.mk hi
  have wu : IntKind.u64.wrap now = now := by rw [IntKind.wrap]; simp [IntKind.bits, IntKind.signed]; omega
  clear hP hf ht hn hbs hi hw
  go_enter Try.func16, Try.ntmps16
  go_wp2
  go_loopg [7, 8, 9] n.toNat (fun gk v7 v8 v9 wr => ∃ v1 M O, Aside0 (TB X w wr base g room cut v v1 v7 M O) ∧ Aside0 (TE L now n.toNat M O) ∧ Aside0 (n.toNat - O.length ≤ gk))
  case atStart => exact ⟨v, L, [], T0, E0, ⟨by simp⟩⟩
  case round =>
    obtain ⟨v1, M, O, HK, HE, HG⟩ := hrel
    obtain ⟨oa, oc, rfl⟩ := HK.out.outs
    obtain ⟨ao, cap, rfl⟩ := HK.out.slice
    have y1 := HK.out.y1
    by_cases hc : (O.length : Int) < n
    · have q1 : decide ((O.length : Int) < n) = true := decide_eq_true hc
      match M with
      | [] =>
        go_wp2
        go_ret
        exact ⟨_, rfl, _, [], O, HK.out, HE.out, by simp [takeP]⟩
      | (b, d) :: M2 =>
        have z1 : decide ((0 : Int) < (((b, d) :: M2).length : Int)) = true := decide_eq_true (by simp)
        have hfb := HE.out.full.head
        obtain ⟨r, rcap, cur, A, c, e, F⟩ := HK.out.row.first hfb
        simp only [List.length_cons] at y1 HK e z1
        simp only [Value.slice.injEq] at e
        obtain ⟨rfl, -, rfl⟩ := e
        have x0 := F.y0
        have x1 := F.y1
        have HF := Aside0.mk F
        clear F
        by_cases hd : d ≤ now
        · have q2 : decide (d ≤ now) = true := decide_eq_true hd
          obtain ⟨k, hk⟩ : ∃ k, min (n.toNat - O.length) b.length = k := ⟨_, rfl⟩
          have hkw : min (wrap64 (n - (O.length : Int))) (b.length : Int) = (k : Int) := by have := HI.out; have := HE.out.sum; have := HT.out; unfold wrap64; omega
          have k1 : (k : Int) ≤ (c : Int) := by have := HF.out.room; omega
          have k2 : k ≤ b.length := by omega
          have k3 : (k : Int) ≤ (b.length : Int) := by omega
          have k4 : (b.length : Int) ≤ (c : Int) := by have := HF.out.room; omega
          have hC := Kd.C_take (HF.out.reads wr (HK.out.only.mono (fun _ h => .inl h))) k2
          obtain ⟨BT, hBT⟩ : ∃ x, b.take k = x := ⟨_, rfl⟩
          have hbl : BT.length = k := by rw [← hBT, List.length_take]; omega
          rw [hBT, hbl] at hC
          have HC := Aside0.mk hC
          have HBT := Aside0.mk hBT
          have HBL := Aside0.mk hbl
          have HBB := Aside0.mk (show O.length + k ≤ 1000000 by have h3 := HE.out.sum; rw [total_cons] at h3; dsimp only at h3; have := HT.out; omega)
          have HKK := Aside0.mk hk
          have HFB := Aside0.mk hfb
          have HD := Aside0.mk hd
          have HCC := Aside0.mk hc
          clear hC hBT hbl hk hfb hd hc
          go_wp2_with (at_builtin; go_must (refine Kd.R_append_rows (Kd.int .u8) (w0 := wr) w.heap.size rfl (.tmp 49) (.tmp 55) 26 5 (.int .u8 0) 1 rfl Try.underlying26 (by kernel_rfl) (by rfl) (by decide) (by decide) _ O BT (some A) k c (fun _ => True) (fun _ => False) rfl rfl HK.out.out HC.out (fun _ _ h => h) (fun k hk => hk.elim) (fun _ _ => trivial) (Below.refl _ _) HK.out.only.size (by have := HBB.out; omega) ?_); intro o1 w1 h1 hb hg hat; have H1 := Aside0.mk (HK.out.grown h1 hg); have HF1 := Aside0.mk (HF.out.step (hg.block r (blk_lt HF.out.blk) (fun e => by have h3 := HK.out.far r e.symm; have h4 := HK.out.vlt r HK.out.own.symm; omega))); clear h1 hb hg hat)
          clear x0 x1 y1
          have HB1 := Aside0.mk (H1.out.below (below_drew (Below.refl _ _)))
          have HF2 := Aside0.mk (HF1.out.step (w1 := w1.drew) rfl)
          clear H1 HF1
          refine start_ (n := 20) (S := fun w' => w'.cell? ⟨r, 0, none⟩ = some (.slice (some A) b.length c)) (ds := [19]) #[false, false, false, false, false, false, false, false, false, false, false, false, false, false, false, false, false, false, false, false] (by kernel_rfl) rfl rfl (HF2.out.y0) (fun hHeld => ?_)
          refine with_tabW take.tab6 take.bits6 (fun HT_ HW_ => ?_)
          generalize w1.drew = wd at HB1 HF2 hHeld ⊢
          refine pure_ (i := 0) (N := some 57) (v := ?_) (a' := ?_) #[true, false, false, false, false, false, false, false, false, false, false, false, false, false, false, false, false, false, false, false] rfl rfl (any_of HT_.out (by kernel_rfl)) (fun _ _ _ h => h) (Or.inl ⟨by rfl, ?_⟩) ?_ ?_
          rotate_left
          · intro w'
            go_simp
            with_reducible rfl
          rotate_left
          · simp only [Act.put, List.setIfInBounds_toArray, List.set_cons_zero, List.set_cons_succ, i64_w, i32_w]
            rfl
          refine pure_ (i := 1) (N := some 58) (v := ?_) (a' := ?_) #[true, true, false, false, false, false, false, false, false, false, false, false, false, false, false, false, false, false, false, false] rfl rfl (any_of HT_.out (by kernel_rfl)) (fun _ _ _ h => h) (Or.inl ⟨by rfl, ?_⟩) ?_ ?_
          rotate_left
          · intro w'
            go_simp
            with_reducible rfl
          rotate_left
          · simp only [Act.put, List.setIfInBounds_toArray, List.set_cons_zero, List.set_cons_succ, i64_w, i32_w]
            rfl
          refine pure_ (i := 2) (N := some 59) (v := ?_) (a' := ?_) #[true, true, true, false, false, false, false, false, false, false, false, false, false, false, false, false, false, false, false, false] rfl rfl (any_of HT_.out (by kernel_rfl)) (fun _ _ _ h => h) (Or.inl ⟨by rfl, ?_⟩) ?_ ?_
          rotate_left
          · intro w'
            go_simp
            with_reducible rfl
          rotate_left
          · simp only [Act.put, List.setIfInBounds_toArray, List.set_cons_zero, List.set_cons_succ, i64_w, i32_w]
            rfl
          refine pure_ (i := 3) (N := some 60) (v := ?_) (a' := ?_) #[true, true, true, true, false, false, false, false, false, false, false, false, false, false, false, false, false, false, false, false] rfl rfl (any_of HT_.out (by kernel_rfl)) (fun _ _ _ h => h) (Or.inl ⟨by rfl, ?_⟩) ?_ ?_
          rotate_left
          · intro w'
            go_simp
            with_reducible rfl
          rotate_left
          · simp only [Act.put, List.setIfInBounds_toArray, List.set_cons_zero, List.set_cons_succ, i64_w, i32_w]
            rfl
          refine pure_ (i := 5) (N := some 62) (v := ?_) (a' := ?_) #[true, true, true, true, false, true, false, false, false, false, false, false, false, false, false, false, false, false, false, false] rfl rfl (any_of HT_.out (by kernel_rfl)) (fun _ _ _ h => h) (Or.inl ⟨by rfl, ?_⟩) ?_ ?_
          rotate_left
          · intro w'
            go_simp
            with_reducible rfl
          rotate_left
          · simp only [Act.put, List.setIfInBounds_toArray, List.set_cons_zero, List.set_cons_succ, i64_w, i32_w]
            rfl
          refine pure_ (i := 6) (N := some 63) (v := ?_) (a' := ?_) #[true, true, true, true, false, true, true, false, false, false, false, false, false, false, false, false, false, false, false, false] rfl rfl (any_of HT_.out (by kernel_rfl)) (fun _ _ _ h => h) (Or.inl ⟨by rfl, ?_⟩) ?_ ?_
          rotate_left
          · intro w'
            go_simp
            with_reducible rfl
          rotate_left
          · simp only [Act.put, List.setIfInBounds_toArray, List.set_cons_zero, List.set_cons_succ, i64_w, i32_w]
            rfl
          refine pure_ (i := 7) (N := some 64) (v := ?_) (a' := ?_) #[true, true, true, true, false, true, true, true, false, false, false, false, false, false, false, false, false, false, false, false] rfl rfl (any_of HT_.out (by kernel_rfl)) (fun _ _ _ h => h) (Or.inl ⟨by rfl, ?_⟩) ?_ ?_
          rotate_left
          · intro w'
            go_simp
            with_reducible rfl
          rotate_left
          · simp only [Act.put, List.setIfInBounds_toArray, List.set_cons_zero, List.set_cons_succ, i64_w, i32_w]
            rfl
          refine pure_ (i := 8) (N := some 65) (v := ?_) (a' := ?_) #[true, true, true, true, false, true, true, true, true, false, false, false, false, false, false, false, false, false, false, false] rfl rfl (any_of HT_.out (by kernel_rfl)) (fun _ _ _ h => h) (Or.inl ⟨by rfl, ?_⟩) ?_ ?_
          rotate_left
          · intro w'
            go_simp
            with_reducible rfl
          rotate_left
          · simp only [Act.put, List.setIfInBounds_toArray, List.set_cons_zero, List.set_cons_succ, i64_w, i32_w]
            rfl
          refine pure_ (i := 11) (N := some 68) (v := ?_) (a' := ?_) #[true, true, true, true, false, true, true, true, true, false, false, true, false, false, false, false, false, false, false, false] rfl rfl (any_of HT_.out (by kernel_rfl)) (fun _ _ _ h => h) (Or.inl ⟨by rfl, ?_⟩) ?_ ?_
          rotate_left
          · intro w'
            go_simp
            with_reducible rfl
          rotate_left
          · simp only [Act.put, List.setIfInBounds_toArray, List.set_cons_zero, List.set_cons_succ, i64_w, i32_w]
            rfl
          refine pure_ (i := 12) (N := some 69) (v := ?_) (a' := ?_) #[true, true, true, true, false, true, true, true, true, false, false, true, true, false, false, false, false, false, false, false] rfl rfl (any_of HT_.out (by kernel_rfl)) (fun _ _ _ h => h) (Or.inl ⟨by rfl, ?_⟩) ?_ ?_
          rotate_left
          · intro w'
            go_simp
            with_reducible rfl
          rotate_left
          · simp only [Act.put, List.setIfInBounds_toArray, List.set_cons_zero, List.set_cons_succ, i64_w, i32_w]
            rfl
          refine pure_ (i := 13) (N := some 70) (v := ?_) (a' := ?_) #[true, true, true, true, false, true, true, true, true, false, false, true, true, true, false, false, false, false, false, false] rfl rfl (any_of HT_.out (by kernel_rfl)) (fun _ _ _ h => h) (Or.inl ⟨by rfl, ?_⟩) ?_ ?_
          rotate_left
          · intro w'
            go_simp
            with_reducible rfl
          rotate_left
          · simp only [Act.put, List.setIfInBounds_toArray, List.set_cons_zero, List.set_cons_succ, i64_w, i32_w]
            rfl
          refine take_ (i := 4) (N := some 61) (v := ?_) (a' := ?_) #[true, true, true, true, true, true, true, true, true, false, false, true, true, true, false, false, false, false, false, false] rfl rfl (take_ofW HT_.out HW_.out (by kernel_rfl)) (fun _ _ _ h => h) (Or.inl ⟨by rfl, ?_⟩) hHeld ?_ ?_
          rotate_left
          · intro w' s0
            go_simp
            with_reducible rfl
          rotate_left
          · simp only [Act.put, List.setIfInBounds_toArray, List.set_cons_zero, List.set_cons_succ, i64_w, i32_w]
            rfl
          refine take_ (i := 9) (N := some 66) (v := ?_) (a' := ?_) #[true, true, true, true, true, true, true, true, true, true, false, true, true, true, false, false, false, false, false, false] rfl rfl (take_ofW HT_.out HW_.out (by kernel_rfl)) (fun _ _ _ h => h) (Or.inl ⟨by rfl, ?_⟩) hHeld ?_ ?_
          rotate_left
          · intro w' s0
            go_simp
            with_reducible rfl
          rotate_left
          · simp only [Act.put, List.setIfInBounds_toArray, List.set_cons_zero, List.set_cons_succ, i64_w, i32_w]
            rfl
          refine pure_ (i := 10) (N := some 67) (v := ?_) (a' := ?_) #[true, true, true, true, true, true, true, true, true, true, true, true, true, true, false, false, false, false, false, false] rfl rfl (any_of HT_.out (by kernel_rfl)) (fun _ _ _ h => h) (Or.inl ⟨by rfl, ?_⟩) ?_ ?_
          rotate_left
          · intro w'
            go_simp
            with_reducible rfl
          rotate_left
          · simp only [Act.put, List.setIfInBounds_toArray, List.set_cons_zero, List.set_cons_succ, i64_w, i32_w]
            rfl
          refine take_ (i := 14) (N := some 71) (v := ?_) (a' := ?_) #[true, true, true, true, true, true, true, true, true, true, true, true, true, true, true, false, false, false, false, false] rfl rfl (take_ofW HT_.out HW_.out (by kernel_rfl)) (fun _ _ _ h => h) (Or.inl ⟨by rfl, ?_⟩) hHeld ?_ ?_
          rotate_left
          · intro w' s0
            go_simp
            with_reducible rfl
          rotate_left
          · simp only [Act.put, List.setIfInBounds_toArray, List.set_cons_zero, List.set_cons_succ, i64_w, i32_w]
            rfl
          refine pure_ (i := 15) (N := some 72) (v := ?_) (a' := ?_) #[true, true, true, true, true, true, true, true, true, true, true, true, true, true, true, true, false, false, false, false] rfl rfl (any_of HT_.out (by kernel_rfl)) (fun _ _ _ h => h) (Or.inl ⟨by rfl, ?_⟩) ?_ ?_
          rotate_left
          · intro w'
            go_simp
            with_reducible rfl
          rotate_left
          · simp only [Act.put, List.setIfInBounds_toArray, List.set_cons_zero, List.set_cons_succ, i64_w, i32_w]
            rfl
          refine pure_ (i := 16) (N := some 73) (v := ?_) (a' := ?_) #[true, true, true, true, true, true, true, true, true, true, true, true, true, true, true, true, true, false, false, false] rfl rfl (any_of HT_.out (by kernel_rfl)) (fun _ _ _ h => h) (Or.inl ⟨by rfl, ?_⟩) ?_ ?_
          rotate_left
          · intro w'
            go_simp
            with_reducible rfl
          rotate_left
          · simp only [Act.put, List.setIfInBounds_toArray, List.set_cons_zero, List.set_cons_succ, i64_w, i32_w]
            rfl
          refine pure_ (i := 17) (N := some 74) (v := ?_) (a' := ?_) #[true, true, true, true, true, true, true, true, true, true, true, true, true, true, true, true, true, true, false, false] rfl rfl (any_of HT_.out (by kernel_rfl)) (fun _ _ _ h => h) (Or.inl ⟨by rfl, ?_⟩) ?_ ?_
          rotate_left
          · intro w'
            go_simp
            with_reducible rfl
          rotate_left
          · simp only [Act.put, List.setIfInBounds_toArray, List.set_cons_zero, List.set_cons_succ, i64_w, i32_w]
            rfl
          refine pure_ (i := 18) (N := some 75) (v := ?_) (a' := ?_) #[true, true, true, true, true, true, true, true, true, true, true, true, true, true, true, true, true, true, true, false] rfl rfl (any_of HT_.out (by kernel_rfl)) (fun _ _ _ h => h) (Or.inl ⟨by rfl, ?_⟩) ?_ ?_
          rotate_left
          · intro w'
            go_simp
            with_reducible rfl
          rotate_left
          · simp only [Act.put, List.setIfInBounds_toArray, List.set_cons_zero, List.set_cons_succ, i64_w, i32_w]
            rfl
          refine last_ (i := 19) (N := none) #[true, true, true, true, true, true, true, true, true, true, true, true, true, true, true, true, true, true, true, true] rfl rfl (one_of HT_.out (by kernel_rfl)) (by decide) (fun K hK => ?_)
          have fz : wd.frozen? ⟨r, 0, none⟩ = false := blk_frozen HF2.out.blk 0
          refine skip_ (w1 := ?_) (by rfl) rfl ?_ ?_
          rotate_left
          · go_simp
            rfl
          refine hK.out _ _ ?_
          clear hK K
          refine done_ (done_of HT_.out (by kernel_rfl)) ?_
          have z0 : wd.cell? ⟨r, 0, none⟩ = some (.slice (some A) b.length c) := HF2.out.y0
          have HB3 := Aside0.mk (HB1.out.cutF HF2.out k2)
          obtain ⟨hk5, hk6⟩ := TE.round HE.out HD.out (by have := HCC.out; omega) HKK.out
          rw [HBT.out] at hk5 hk6
          have HK5 := Aside0.mk hk5
          have HK6 := Aside0.mk hk6
          clear hk5 hk6
          by_cases hb : b.length = k
          · have u0 : (if b.length = k then some A else some (A.add k)) = some A := if_pos hb
            have u1 : b.length - k = 0 := by omega
            rw [u0, u1] at HB3
            have y1 := HB3.out.y1
            have HD1 := Aside0.mk (HK5.out hb.symm)
            rw [u0, u1]
            obtain ⟨w2, hw2⟩ : ∃ x, wd.setCell ⟨r, 0, none⟩ (.slice (some A) 0 0) = x := ⟨_, rfl⟩
            rw [hw2] at HB3 y1 ⊢
            obtain ⟨a1, a2, x0, a4⟩ := HF2.out.after (.slice (some A) 0 0)
            rw [hw2] at a1 x0
            have X1 := Aside0.mk a1
            have X2 := Aside0.mk a2
            have X4 := Aside0.mk a4
            have HFIT := Aside0.mk HF2.out.fit
            clear hw2 HB1 HK HF z0 hHeld fz hb u0 u1 HK5 HK6 a1 a2 a4 HF2 q1 q2 z1 hkw k1 k2 k3 k4
            go_wp2_with (go_at_call 41; go_loud ((with_reducible refine (delete_cells r M2.length cap _ _ X1.out X2.out HFIT.out (by have h3 := HE.out.few.2; rw [List.length_cons] at h3; have := HN.out; omega) X4.out).mono ?_); rintro e w3 ⟨rfl, hw3⟩; have HD3 := Aside0.mk (HB3.out.del X1.out _ _ w3 hw3); have y1 : w3.cell? ⟨g, 1, none⟩ = some (.slice (some ⟨r, 0, none⟩) (M2.length + 1) cap) := (blk_cell HD3.out.1 1).trans rfl; have fz : w3.frozen? ⟨g, 1, none⟩ = false := blk_frozen HD3.out.1 1; clear hw3))
            obtain ⟨gk, rfl⟩ : ∃ m, gk = m + 1 := ⟨gk - 1, by have := HG.out; have := HCC.out; omega⟩
            go_roundg gk
            case measure => omega
            case rel => exact ⟨_, M2, _, ⟨HD3.out.2⟩, HD1, ⟨by rw [List.length_append, HBL.out]; have := HG.out; have := HCC.out; have := HKK.out; have := HFB.out; omega⟩⟩
          · have u0 : (if b.length = k then some A else some (A.add k)) = some (A.add k) := if_neg hb
            have HD1 := Aside0.mk (HK6.out (fun e => hb e.symm))
            rw [u0] at HB3
            rw [u0]
            have e1 : (((b.length - k : Nat) : Int) == 0) = false := by rw [beq_eq_false_iff_ne]; omega
            have e2 : ((b.length - k : Nat) == 0) = false := by rw [beq_eq_false_iff_ne]; omega
            obtain ⟨bk, hbk⟩ : ∃ x, b.length - k = x := ⟨_, rfl⟩
            rw [hbk] at HB3 e1 e2 ⊢
            obtain ⟨w2, hw2⟩ : ∃ x, wd.setCell ⟨r, 0, none⟩ (.slice (some (A.add k)) bk bk) = x := ⟨_, rfl⟩
            rw [hw2] at HB3 ⊢
            obtain ⟨a1, a2, x0, a4⟩ := HF2.out.after (.slice (some (A.add k)) bk bk)
            rw [hw2] at x0
            clear hw2 HB1 HK HF z0 hHeld fz hb u0 HK5 HK6 a1 a2 a4 HF2 q1 q2 z1 hkw k1 k2 k3 k4
            go_wp2
            obtain ⟨gk, rfl⟩ : ∃ m, gk = m + 1 := ⟨gk - 1, by have := HG.out; have := HCC.out; omega⟩
            go_roundg gk
            case measure => omega
            case rel => exact ⟨_, _, _, HB3, HD1, ⟨by rw [List.length_append, HBL.out]; have := HG.out; have := HCC.out; have := HKK.out; have := HFB.out; omega⟩⟩
        · have q2 : decide (d ≤ now) = false := decide_eq_false hd
          go_wp2
          go_ret
          refine ⟨_, rfl, _, _, O, HK.out, HE.out, ?_⟩
          rw [takeP, if_pos (.inr (by omega))]
    · have q1 : decide ((O.length : Int) < n) = false := decide_eq_false hc
      go_wp2
      go_ret
      refine ⟨_, rfl, _, M, O, HK.out, HE.out, ?_⟩
      rw [show n.toNat - O.length = 0 by omega]
      cases M with
      | nil => rfl
      | cons x M2 => obtain ⟨b, d⟩ := x; rw [takeP, if_pos (.inl rfl)]
end Go.Proofs.Ytjbakaplcjkniaa.Pi
