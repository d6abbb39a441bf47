/- PipePlays: whatever is put in, taken and cut, as ticks go by, each answer is the document's. No condition. -/
import Derived.Test.YtjbakaplcjkniaaPiG
namespace Go.Proofs.Ytjbakaplcjkniaa.Pi
open Go.RowKit Go.Proofs.YtjbakaplcjkniaaW.PrintWords Go.Proofs.YtjbakaplcjkniaaW.PrintLast Go.Proofs.YtjbakaplcjkniaaW.PrintMore
set_option linter.unusedVariables false
set_option linter.unusedSimpArgs false
attribute [local go_sem] max2_M min2_M max_two min_two
def plays.T14 : Bool × List (List Nat × List Nat) := (true, [([], []), ([0], [0]), ([], []), ([2], [2]), ([3], [3]), ([4], [4]), ([5], [5]), ([1, 6], [1, 6])])
def plays.B14 : List Nat := [0, 1, 0, 4, 12, 28, 60, 127]
theorem plays.tab14 : rtab .any (opsOf Try.f5 14) = plays.T14 := by kernel_rfl
theorem plays.bits14 : waitsOk plays.T14.2 plays.B14 = true := by kernel_rfl
def plays.T21 : Bool × List (List Nat × List Nat) := (true, [([], []), ([], []), ([1], [1]), ([], []), ([], []), ([4], [4]), ([0, 2, 3, 5], [0, 2, 3, 5]), ([], []), ([], []), ([8], [8]), ([], []), ([10], [10]), ([], []), ([12], [12]), ([13], [13]), ([7, 9, 11, 14, 6], [7, 9, 11, 14]), ([6, 15], [6, 15])])
def plays.B21 : List Nat := [0, 0, 2, 0, 0, 16, 63, 0, 0, 256, 0, 1024, 0, 4096, 12288, 32767, 65535]
theorem plays.tab21 : rtab .any (opsOf Try.f5 21) = plays.T21 := by kernel_rfl
theorem plays.bits21 : waitsOk plays.T21.2 plays.B21 = true := by kernel_rfl
def plays.T25 : Bool × List (List Nat × List Nat) := (true, [([], []), ([], []), ([1], [1]), ([], []), ([0, 2, 3], [0, 2, 3]), ([4], [4]), ([], []), ([], []), ([7], [7]), ([], []), ([9], [9]), ([6, 8, 10, 4], [6, 8, 10]), ([11], [11]), ([5, 12], [5, 12])])
def plays.B25 : List Nat := [0, 0, 2, 0, 15, 31, 0, 0, 128, 0, 512, 2015, 4063, 8191]
theorem plays.tab25 : rtab .any (opsOf Try.f5 25) = plays.T25 := by kernel_rfl
theorem plays.bits25 : waitsOk plays.T25.2 plays.B25 = true := by kernel_rfl
def plays.T27 : Bool × List (List Nat × List Nat) := (true, [([], []), ([0], [0]), ([], []), ([2], [2]), ([3], [3]), ([4], [4]), ([5], [5]), ([1, 6], [1, 6]), ([7, 1], [7]), ([8], [8]), ([8], [8]), ([9, 10, 8, 8], [8, 9, 10]), ([8], [8]), ([8], [8]), ([13, 8], [8, 13]), ([12, 14, 11, 8], [8, 12, 14]), ([11, 15, 8], [8, 11, 15]), ([8, 16], [8, 16])])
def plays.B27 : List Nat := [0, 1, 0, 4, 12, 28, 60, 127, 255, 511, 511, 2047, 511, 511, 8703, 32767, 65535, 131071]
theorem plays.tab27 : rtab .any (opsOf Try.f5 27) = plays.T27 := by kernel_rfl
theorem plays.bits27 : waitsOk plays.T27.2 plays.B27 = true := by kernel_rfl
section
variable {w0 w w' w1 : World} {g g2 : Nat} {room : Int} {L : Pcs} {B A : List Int} {cut gone : Bool}
theorem PX.keep (h : PX w0 w g g2 room L B A cut gone) (hO : Only (PT w) w w1) {j : Nat} {v : Value} (hc : w.cell? ⟨g2, j, none⟩ = some v) : w1.cell? ⟨g2, j, none⟩ = some v := by
  obtain ⟨vB, vA, h1, h2⟩ := h
  exact cell_only hO hc (not_PT h2.box (by decide))
theorem PX.box2 (h : PX w0 w g g2 room L B A cut gone) : ∃ cells, w.heap[g2]? = some (.cells cells 38 (0, 0)) := by
  obtain ⟨vB, vA, h1, h2⟩ := h
  exact ⟨_, h2.box⟩
theorem R_only2 {α : Type} {d : Kd α} {e : Nat} {base b t : Nat} {ok : Nat → Prop} {v : Value} {xs : List α} {cells : Array Value} (h : d.R e w base ok v xs) (hO : Only (fun i => i = b) w w1) (hb : w.heap[b]? = some (.cells cells t (0, 0))) (ht : ∀ q, q ∈ e :: d.E → q ≠ t) : d.R e w1 base ok v xs := by
  refine Kd.R_mono (Kd.R_step (Kd.R_bound h) (fun k hk hlt => hO.block k hlt (fun hp => ?_))) (fun k hk => hk.1)
  obtain ⟨_, _, _, q, hq, cells', hc⟩ := hk
  subst hp
  rw [hc] at hb; injection hb with hb; injection hb with _ hb; exact ht q hq hb
theorem blk_only2 {b t b2 t2 : Nat} {cells c2 : Array Value} (h : w.heap[b]? = some (.cells cells t (0, 0))) (hO : Only (fun i => i = b2) w w1) (hb : w.heap[b2]? = some (.cells c2 t2 (0, 0))) (ht : t ≠ t2) : w1.heap[b]? = some (.cells cells t (0, 0)) :=
  (hO.block b (blk_lt h) (fun e => by rw [e, hb] at h; injection h with h; injection h with _ h; exact ht h.symm)).trans h
/-- The document's pipe is cut. -/
theorem PX.cutoff (h : PX w0 w g g2 room [] B A true gone) : PX w0 (((w.setCell ⟨g2, 1, none⟩ (.slice none 0 0)).setCell ⟨g2, 2, none⟩ (.slice none 0 0)).setCell ⟨g2, 3, none⟩ (.bool true)) g g2 room [] (bytes []) (ats []) true true := by
  obtain ⟨vB, vA, h1, h2⟩ := h
  have hx := h2.xr
  refine ⟨.slice none 0 0, .slice none 0 0, h1.moved (T := fun i => i = g2) ((((Only.refl (fun i => i = g2) w).set ⟨g2, 1, none⟩ _ rfl).set ⟨g2, 2, none⟩ _ rfl).set ⟨g2, 3, none⟩ _ rfl) (fun k hk => ⟨.inl hk, (hx k (.inl hk)).1, (hx k (.inl hk)).2.2⟩) (fun k hk => .inl ?_), ⟨?_, Kd.Q_nil _ _ _ _ _, Kd.Q_nil _ _ _ _ _, h2.gb⟩⟩
  · rcases hk with hk | hk | hk
    · exact .inl hk
    · simp [Value.ownBlock] at hk
    · simp [Value.ownBlock] at hk
  · exact blk_put (blk_put (blk_put h2.box 1 _ rfl) 2 _ rfl) 3 _ rfl
theorem PX.start {w0 w1 : World} {g : Nat} {r : Int} (h : PS (XR w1.heap.size (.slice none 0 0) (.slice none 0 0)) w0 w1 g r [] false) : PX w0 (w1.alloc (.cells #[.int .i64 r, .slice none 0 0, .slice none 0 0, .bool false] 38)) g w1.heap.size r [] (bytes []) (ats []) false false :=
  ⟨_, _, h.below (below_alloc (Below.refl _ _) _), heap_alloc_new w1 _, Kd.Q_nil _ _ _ _ _, Kd.Q_nil _ _ _ _ _, h.at0.size⟩
end
theorem putL_ats (cut : Bool) (room : Int) (L : Pcs) (B : List Int) (d : Int) (h : Full L) : ats (putL cut room L B d) = ats L ++ List.replicate (putN cut room L B.length) (lastmax (ats L) d) := by
  have hle := putN_le cut room L B.length
  unfold putL
  split
  · rename_i h0; rw [h0]; simp
  · rw [put_ats L _ d h, List.length_take, Nat.min_eq_left hle]; rfl
theorem putL_rising {cut : Bool} {room : Int} {L : Pcs} {B : List Int} {d : Int} (h : Full L) (hr : Rising (ats L)) : Rising (ats (putL cut room L B d)) := by
  unfold putL
  split
  · exact hr
  · exact put_rising h hr
theorem rputN_same (cut : Bool) (room : Int) (L : Pcs) (n : Nat) : rputN cut room (bytes L).length n = putN cut room L n := rfl
theorem due_same {now : Int} {L : Pcs} (h : Rising (ats L)) : dueT now L = dueN now (ats L) := by rw [dueT_ats, due_all h]
theorem take_all (now : Int) (L : Pcs) (m : Nat) (h : Full L) : ∃ k, min m (dueN now (ats L)) = k ∧ (takeP now m L).1 = (bytes L).take k ∧ ((bytes L).take k).length = k ∧ bytes (takeP now m L).2 = (bytes L).drop k ∧ ats (takeP now m L).2 = (ats L).drop k := by
  obtain ⟨h1, h2, h3, _⟩ := take_bytes now L m h
  refine ⟨_, rfl, h1, ?_, h2, h3⟩
  rw [List.length_take, ← ats_len]
  have := dueN_le now (ats L)
  omega
theorem take_total (now : Int) (L : Pcs) (m : Nat) (h : Full L) : total (takeP now m L).2 ≤ total L := by
  have := (take_bytes now L m h).2.1
  unfold total
  rw [this, List.length_drop]
  omega
set_option maxHeartbeats 16000000 in
set_option maxRecDepth 100000 in
theorem pipePlays_walk (a : Int) (ha : -9223372036854775808 ≤ a ∧ a ≤ 9223372036854775807) (A : Option Addr) (c : Nat) (l : List OpT) (w : World) (hc : l.length ≤ c) (hC : Kd.C kop w A l.length l) (hok : okOps l) :
    Calls Try.prog 5 #[.int .i64 a, .slice A l.length c] w fun e w' => e = .returned (.bool true) ∧ Below w.heap.size w w' := by
  have hu := Try.underlying29
  have hu2 := Try.underlying38
  have HC := Aside0.mk hC
  have HOK := Aside0.mk hok
  have HA := Aside0.mk ha
  clear hC hok ha
  go_enter Try.func5, Try.ntmps5
  go_wp2_with (first | (go_at_call 13; (with_reducible refine (alive_calls _).mono ?_); rintro e w1 ⟨rfl, hb⟩; have HB1 := Aside0.mk hb; clear hb) | (go_at_call 14; (with_reducible refine (new_calls a w1).mono ?_); rintro e w2 ⟨rfl, hw2⟩; have HP0 := Aside0.mk (show PS (XR w2.heap.size (.slice none 0 0) (.slice none 0 0)) w w2 w1.heap.size (max 0 a) [] false by rw [hw2]; exact PS.new_ HB1.out _ (by omega) (by have := HA.out; omega)); clear hw2))
  have S0 := Aside0.mk (PX.start HP0.out)
  obtain ⟨g, hg⟩ : ∃ z, w1.heap.size = z := ⟨_, rfl⟩
  obtain ⟨g2, hg2⟩ : ∃ z, w2.heap.size = z := ⟨_, rfl⟩
  obtain ⟨rm, hrm⟩ : ∃ z, max 0 a = z := ⟨_, rfl⟩
  have HRM := Aside0.mk (show 0 ≤ rm by omega)
  rw [hg, hg2, hrm] at S0
  rw [hg, hg2, hrm]
  obtain ⟨w3, hw3⟩ : ∃ z, w2.alloc (.cells #[.int .i64 rm, .slice none 0 0, .slice none 0 0, .bool false] 38) = z := ⟨_, rfl⟩
  rw [hw3] at S0 ⊢
  clear hw3 hg hg2 hrm HP0
  go_loopg [7, 8, 9, 60, 80] 80 (fun gk v7 v8 v9 v60 v80 wr => ∃ (i : Nat) (L : Pcs) (now : Int) (cut : Bool), v8 = .int .i64 i ∧ v7 = .int .u32 now ∧ Aside0 (i ≤ l.length ∧ i ≤ 80 ∧ 80 - i ≤ gk) ∧ Aside0 (PX w wr g g2 rm L (bytes L) (ats L) cut cut) ∧ Aside0 (Rising (ats L) ∧ total L ≤ 2000 * i ∧ 0 ≤ now ∧ now ≤ 4294967295))
  case atStart => exact ⟨0, [], 0, false, rfl, rfl, ⟨by omega, by omega, by omega⟩, S0, ⟨List.Pairwise.nil, by simp, by decide, by decide⟩⟩
  case round =>
    obtain ⟨i, L, now, cut, rfl, rfl, HI, HP, HR⟩ := hrel
    have HB := Aside0.mk HP.out.at0
    by_cases hi : i < l.length
    · have q1 : decide ((i : Int) < (l.length : Int)) = true := decide_eq_true (by omega)
      have q1' : (i : Int) < (l.length : Int) := by omega
      by_cases h80 : i < 80
      · have q2 : decide ((i : Int) < 80) = true := decide_eq_true (by omega)
        have q2' : decide (i < 80) = true := decide_eq_true h80
        obtain ⟨ad, X, cx, x, rfl, hx, hO⟩ := op_at HC.out hi
        have HXO := Aside0.mk (HOK.out.2 x (List.mem_of_getElem? hx))
        have HX := Aside0.mk hO
        have y0 := (hO.below HB.out).y0
        have y1 := (hO.below HB.out).y1
        have y2 := (hO.below HB.out).y2
        have y3 := (hO.below HB.out).y3
        have y4 := (hO.below HB.out).y4
        have HI80 := Aside0.mk h80
        have HIL := Aside0.mk hi
        have hin : wrap64 ((i : Int) + 1) = ((i + 1 : Nat) : Int) := by unfold wrap64; omega
        clear hx hO hi h80
        by_cases hb : x.2.1.length ≤ 2000
        · have q4 : decide ((2000 : Int) < (x.2.1.length : Int)) = false := decide_eq_false (by omega)
          have q4' : decide (2000 < x.2.1.length) = false := decide_eq_false (by omega)
          obtain ⟨now2, hn2⟩ : ∃ z, (now + x.2.2.2.2) % 4294967296 = z := ⟨_, rfl⟩
          have HN2 := Aside0.mk (show 0 ≤ now2 ∧ now2 ≤ 4294967295 by omega)
          have HDL := Aside0.mk (wf_u32 HXO.out.2.2.2.1)
          have hc1 : IntKind.i64.wrap now2 = now2 := by have := HN2.out; rw [IntKind.wrap]; simp [IntKind.bits, IntKind.signed]; omega
          have hc2 : wrap64 now2 = now2 := by have := HN2.out; unfold wrap64; omega
          have hc3 : IntKind.i64.wrap x.2.2.2.1 = x.2.2.2.1 := by have := HDL.out; rw [IntKind.wrap]; simp [IntKind.bits, IntKind.signed]; omega
          have hc4 : wrap64 x.2.2.2.1 = x.2.2.2.1 := by have := HDL.out; unfold wrap64; omega
          have HBL := Aside0.mk hb
          have HTL := Aside0.mk (show total L ≤ 160000 by have h1 := HR.out.2.1; have h2 := HI80.out; omega)
          have HFL := Aside0.mk HP.out.full
          have HP1 := Aside0.mk (HP.out.below (below_alloc (Below.refl _ _) (.cells #[.int .u8 x.1, .slice X x.2.1.length cx, .int .i64 x.2.2.1, .int .u32 x.2.2.2.1, .int .u32 x.2.2.2.2] 29)))
          have HBX := Aside0.mk (heap_alloc_new wr (.cells #[.int .u8 x.1, .slice X x.2.1.length cx, .int .i64 x.2.2.1, .int .u32 x.2.2.2.1, .int .u32 x.2.2.2.2] 29))
          obtain ⟨kk, hkk⟩ : ∃ z, x.1.tmod 5 = z := ⟨_, rfl⟩
          have hkr : kk = 0 ∨ kk = 1 ∨ kk = 2 ∨ kk = 3 ∨ kk = 4 := by have h1 := wf_u8 HXO.out.1; rw [Int.tmod_eq_emod_of_nonneg h1.1] at hkk; omega
          clear hb
          rcases hkr with rfl | rfl | rfl | rfl | rfl
          · obtain ⟨n, hn⟩ : ∃ n, putN cut rm L x.2.1.length = n := ⟨_, rfl⟩
            obtain ⟨L2, hL2⟩ : ∃ z, putL cut rm L x.2.1 (now2 + x.2.2.2.1) = z := ⟨_, rfl⟩
            have HEB := Aside0.mk (show bytes L ++ x.2.1.take n = bytes L2 by rw [← hL2, putL_bytes, hn])
            have HEA := Aside0.mk (show ats L ++ List.replicate n (lastmax (ats L) (now2 + x.2.2.2.1)) = ats L2 by rw [← hL2, putL_ats _ _ _ _ _ HFL.out, hn])
            have HRZ := Aside0.mk (show Rising (ats L2) by rw [← hL2]; exact putL_rising HFL.out HR.out.1)
            have HTZ := Aside0.mk (show total L2 ≤ 2000 * (i + 1) by rw [← hL2, putL_total]; have := putN_le cut rm L x.2.1.length; have := HR.out.2.1; have := HBL.out; omega)
            have HN := Aside0.mk hn
            have HL2 := Aside0.mk hL2
            clear hn hL2
            go_wp2
            generalize hwb : wr.alloc (.cells #[.int .u8 x.1, .slice X x.2.1.length cx, .int .i64 x.2.2.1, .int .u32 x.2.2.2.1, .int .u32 x.2.2.2.2] 29) = wb at HP1 HBX ⊢
            have HP2 := Aside0.mk (HP1.out.below (below_drew (Below.refl _ _)))
            have HBX2 := Aside0.mk (blk_below HBX.out (below_drew (Below.refl _ _)))
            clear y0 y1 y2 y3 y4 hwb HP1 HBX
            refine start_ (n := 17) (S := fun w' => w'.cell? ⟨wr.heap.size, 1, none⟩ = some (.slice X x.2.1.length cx) ∧ w'.cell? ⟨wr.heap.size, 3, none⟩ = some (.int .u32 x.2.2.2.1)) (ds := [15]) #[false, false, false, false, false, false, false, false, false, false, false, false, false, false, false, false, false] (by kernel_rfl) rfl rfl ⟨((blk_cell HBX2.out 1).trans rfl), ((blk_cell HBX2.out 3).trans rfl)⟩ (fun hHeld => ?_)
            refine with_tabW plays.tab21 plays.bits21 (fun HT_ HW_ => ?_)
            generalize wb.drew = wd at HP2 HBX2 hHeld ⊢
            refine pure_ (i := 0) (N := some 63) (v := ?_) (a' := ?_) #[true, false, false, false, false, false, false, false, false, false, false, false, false, false, false, false, false] rfl rfl (any_of HT_.out (by kernel_rfl)) (fun _ _ _ h => h) (Or.inl ⟨by rfl, ?_⟩) ?_ ?_
            rotate_left
            · intro w'
              go_simp
              with_reducible rfl
            rotate_left
            · simp only [Act.put, List.setIfInBounds_toArray, List.set_cons_zero, List.set_cons_succ, i64_w, i32_w]
              rfl
            refine pure_ (i := 1) (N := some 64) (v := ?_) (a' := ?_) #[true, true, false, false, false, false, false, false, false, false, false, false, false, false, false, false, false] rfl rfl (any_of HT_.out (by kernel_rfl)) (fun _ _ _ h => h) (Or.inl ⟨by rfl, ?_⟩) ?_ ?_
            rotate_left
            · intro w'
              go_simp
              with_reducible rfl
            rotate_left
            · simp only [Act.put, List.setIfInBounds_toArray, List.set_cons_zero, List.set_cons_succ, i64_w, i32_w]
              rfl
            refine pure_ (i := 3) (N := some 66) (v := ?_) (a' := ?_) #[true, true, false, true, false, false, false, false, false, false, false, false, false, false, false, false, false] rfl rfl (any_of HT_.out (by kernel_rfl)) (fun _ _ _ h => h) (Or.inl ⟨by rfl, ?_⟩) ?_ ?_
            rotate_left
            · intro w'
              go_simp
              with_reducible rfl
            rotate_left
            · simp only [Act.put, List.setIfInBounds_toArray, List.set_cons_zero, List.set_cons_succ, i64_w, i32_w]
              rfl
            refine pure_ (i := 4) (N := some 67) (v := ?_) (a' := ?_) #[true, true, false, true, true, false, false, false, false, false, false, false, false, false, false, false, false] rfl rfl (any_of HT_.out (by kernel_rfl)) (fun _ _ _ h => h) (Or.inl ⟨by rfl, ?_⟩) ?_ ?_
            rotate_left
            · intro w'
              go_simp
              with_reducible rfl
            rotate_left
            · simp only [Act.put, List.setIfInBounds_toArray, List.set_cons_zero, List.set_cons_succ, i64_w, i32_w]
              rfl
            refine pure_ (i := 7) (N := some 70) (v := ?_) (a' := ?_) #[true, true, false, true, true, false, false, true, false, false, false, false, false, false, false, false, false] rfl rfl (any_of HT_.out (by kernel_rfl)) (fun _ _ _ h => h) (Or.inl ⟨by rfl, ?_⟩) ?_ ?_
            rotate_left
            · intro w'
              go_simp
              with_reducible rfl
            rotate_left
            · simp only [Act.put, List.setIfInBounds_toArray, List.set_cons_zero, List.set_cons_succ, i64_w, i32_w]
              rfl
            refine pure_ (i := 8) (N := some 71) (v := ?_) (a' := ?_) #[true, true, false, true, true, false, false, true, true, false, false, false, false, false, false, false, false] rfl rfl (any_of HT_.out (by kernel_rfl)) (fun _ _ _ h => h) (Or.inl ⟨by rfl, ?_⟩) ?_ ?_
            rotate_left
            · intro w'
              go_simp
              with_reducible rfl
            rotate_left
            · simp only [Act.put, List.setIfInBounds_toArray, List.set_cons_zero, List.set_cons_succ, i64_w, i32_w]
              rfl
            refine pure_ (i := 10) (N := some 73) (v := ?_) (a' := ?_) #[true, true, false, true, true, false, false, true, true, false, true, false, false, false, false, false, false] rfl rfl (any_of HT_.out (by kernel_rfl)) (fun _ _ _ h => h) (Or.inl ⟨by rfl, ?_⟩) ?_ ?_
            rotate_left
            · intro w'
              go_simp
              with_reducible rfl
            rotate_left
            · simp only [Act.put, List.setIfInBounds_toArray, List.set_cons_zero, List.set_cons_succ, i64_w, i32_w]
              rfl
            refine pure_ (i := 11) (N := some 74) (v := ?_) (a' := ?_) #[true, true, false, true, true, false, false, true, true, false, true, true, false, false, false, false, false] rfl rfl (any_of HT_.out (by kernel_rfl)) (fun _ _ _ h => h) (Or.inl ⟨by rfl, ?_⟩) ?_ ?_
            rotate_left
            · intro w'
              go_simp
              with_reducible rfl
            rotate_left
            · simp only [Act.put, List.setIfInBounds_toArray, List.set_cons_zero, List.set_cons_succ, i64_w, i32_w]
              rfl
            refine pure_ (i := 12) (N := some 75) (v := ?_) (a' := ?_) #[true, true, false, true, true, false, false, true, true, false, true, true, true, false, false, false, false] rfl rfl (any_of HT_.out (by kernel_rfl)) (fun _ _ _ h => h) (Or.inl ⟨by rfl, ?_⟩) ?_ ?_
            rotate_left
            · intro w'
              go_simp
              with_reducible rfl
            rotate_left
            · simp only [Act.put, List.setIfInBounds_toArray, List.set_cons_zero, List.set_cons_succ, i64_w, i32_w]
              rfl
            refine take_ (i := 2) (N := some 65) (v := ?_) (a' := ?_) #[true, true, true, true, true, false, false, true, true, false, true, true, true, false, false, false, false] rfl rfl (take_ofW HT_.out HW_.out (by kernel_rfl)) (fun _ _ _ h => h) (Or.inl ⟨by rfl, ?_⟩) hHeld ?_ ?_
            rotate_left
            · rintro w' ⟨s0, s1⟩
              go_simp
              with_reducible rfl
            rotate_left
            · simp only [Act.put, List.setIfInBounds_toArray, List.set_cons_zero, List.set_cons_succ, i64_w, i32_w]
              rfl
            refine take_ (i := 5) (N := some 68) (v := ?_) (a' := ?_) #[true, true, true, true, true, true, false, true, true, false, true, true, true, false, false, false, false] rfl rfl (take_ofW HT_.out HW_.out (by kernel_rfl)) (fun _ _ _ h => h) (Or.inl ⟨by rfl, ?_⟩) hHeld ?_ ?_
            rotate_left
            · rintro w' ⟨s0, s1⟩
              go_simp
              with_reducible rfl
            rotate_left
            · simp only [Act.put, List.setIfInBounds_toArray, List.set_cons_zero, List.set_cons_succ, i64_w, i32_w]
              rfl
            refine take_ (i := 9) (N := some 72) (v := ?_) (a' := ?_) #[true, true, true, true, true, true, false, true, true, true, true, true, true, false, false, false, false] rfl rfl (take_ofW HT_.out HW_.out (by kernel_rfl)) (fun _ _ _ h => h) (Or.inl ⟨by rfl, ?_⟩) hHeld ?_ ?_
            rotate_left
            · rintro w' ⟨s0, s1⟩
              go_simp
              with_reducible rfl
            rotate_left
            · simp only [Act.put, List.setIfInBounds_toArray, List.set_cons_zero, List.set_cons_succ, i64_w, i32_w]
              rfl
            refine take_ (i := 13) (N := some 76) (v := ?_) (a' := ?_) #[true, true, true, true, true, true, false, true, true, true, true, true, true, true, false, false, false] rfl rfl (take_ofW HT_.out HW_.out (by kernel_rfl)) (fun _ _ _ h => h) (Or.inl ⟨by rfl, ?_⟩) hHeld ?_ ?_
            rotate_left
            · rintro w' ⟨s0, s1⟩
              go_simp
              with_reducible rfl
            rotate_left
            · simp only [Act.put, List.setIfInBounds_toArray, List.set_cons_zero, List.set_cons_succ, i64_w, i32_w]
              rfl
            refine pure_ (i := 14) (N := some 77) (v := ?_) (a' := ?_) #[true, true, true, true, true, true, false, true, true, true, true, true, true, true, true, false, false] rfl rfl (any_of HT_.out (by kernel_rfl)) (fun _ _ _ h => h) (Or.inl ⟨by rfl, ?_⟩) ?_ ?_
            rotate_left
            · intro w'
              go_simp
              with_reducible rfl
            rotate_left
            · simp only [Act.put, List.setIfInBounds_toArray, List.set_cons_zero, List.set_cons_succ, i64_w, i32_w]
              rfl
            refine one_ (i := 6) (N := some 69) #[true, true, true, true, true, true, true, true, true, true, true, true, true, true, true, false, false] rfl rfl (one_of HT_.out (by kernel_rfl)) (by decide) (fun K hK => ?_)
            refine goes_ Try.func15 (by kernel_rfl) rfl #[.pointer (some ⟨g, 0, none⟩), .slice X x.2.1.length cx, .int .u32 now2, .int .u32 x.2.2.2.1] (by rfl) rfl rfl (by simp only [List.map_toArray, List.map_cons, List.map_nil]; rfl) ?_
            with_reducible refine (PX.put HP2.out X cx x.2.1 now2 x.2.2.2.1 (by have := HTL.out; omega) (by have := HBL.out; omega) (Kd.C_below HX.out.reads HP2.out.at0) HX.out.fit HN2.out HDL.out).mono ?_
            rintro e w4 ⟨rfl, hP, hO⟩
            refine ⟨_, rfl, ?_⟩
            rw [HN.out]
            rw [HL2.out] at hP
            have HP3 := Aside0.mk hP
            have HBX3 := Aside0.mk (blk_only HBX2.out hO (by decide))
            clear hP hO HP2 HBX2
            refine hK.out _ _ ⟨((blk_cell HBX3.out 1).trans rfl), ((blk_cell HBX3.out 3).trans rfl)⟩ (fun hHeld => ?_)
            clear hK K
            refine norm_ (a' := ?_) ?_ ?_
            rotate_left
            · show Act.put _ (some 69) _ = _
              simp only [Act.put, List.setIfInBounds_toArray, List.set_cons_zero, List.set_cons_succ, i64_w, i32_w]
              rfl
            refine last_ (i := 15) (N := some 78) #[true, true, true, true, true, true, true, true, true, true, true, true, true, true, true, true, false] rfl rfl (one_of HT_.out (by kernel_rfl)) (by decide) (fun K hK => ?_)
            refine goes_ Try.func18 (by kernel_rfl) rfl #[.pointer (some ⟨g2, 0, none⟩), .slice X x.2.1.length cx, .int .i64 now2, .int .i64 x.2.2.2.1] (by rfl) rfl rfl (by simp only [List.map_toArray, List.map_cons, List.map_nil]; rfl) ?_
            with_reducible refine (PX.rput HP3.out X cx x.2.1 now2 x.2.2.2.1 (ats_len L) (by rw [ats_len]; have h1 := HTL.out; have h2 := HBL.out; unfold total at h1; omega) HX.out.reads HX.out.fit (by have := HN2.out; have := HDL.out; omega) HRM.out).mono ?_
            rintro e w5 ⟨i5, rfl, hi5, hP⟩
            refine ⟨_, rfl, ?_⟩
            rw [rputN_same, HN.out] at hi5
            subst hi5
            rw [HEB.out, HEA.out] at hP
            have HPZ := Aside0.mk hP
            clear hP HP3 HBX3
            refine hK.out _ _ ?_
            clear hK K
            refine norm_ (a' := ?_) ?_ ?_
            rotate_left
            · show Act.put _ (some 78) _ = _
              simp only [Act.put, List.setIfInBounds_toArray, List.set_cons_zero, List.set_cons_succ, i64_w, i32_w]
              rfl
            refine pure_ (i := 16) (N := some 79) (v := ?_) (a' := ?_) #[true, true, true, true, true, true, true, true, true, true, true, true, true, true, true, true, true] rfl rfl (any_of HT_.out (by kernel_rfl)) (fun _ _ _ h => h) (Or.inl ⟨by rfl, ?_⟩) ?_ ?_
            rotate_left
            · intro w'
              go_simp
              with_reducible rfl
            rotate_left
            · simp only [Act.put, List.setIfInBounds_toArray, List.set_cons_zero, List.set_cons_succ, i64_w, i32_w]
              rfl
            refine done_ (done_of HT_.out (by kernel_rfl)) ?_
            go_wp2
            have HQ := Aside0.mk (HPZ.out.below (below_drew (Below.refl _ _)))
            obtain ⟨ab, cb, yb⟩ := HQ.out.b
            clear HPZ
            refine start_ (n := 18) (S := fun w' => w'.cell? ⟨g2, 1, none⟩ = some (.slice ab (bytes L2).length cb)) (ds := []) #[false, false, false, false, false, false, false, false, false, false, false, false, false, false, false, false, false, false] (by kernel_rfl) rfl rfl (yb) (fun hHeld => ?_)
            refine with_tabW plays.tab27 plays.bits27 (fun HT_ HW_ => ?_)
            generalize w5.drew = we at HQ yb hHeld ⊢
            refine pure_ (i := 0) (N := some 97) (v := ?_) (a' := ?_) #[true, false, false, false, false, false, false, false, false, false, false, false, false, false, false, false, false, false] rfl rfl (any_of HT_.out (by kernel_rfl)) (fun _ _ _ h => h) (Or.inl ⟨by rfl, ?_⟩) ?_ ?_
            rotate_left
            · intro w'
              go_simp
              with_reducible rfl
            rotate_left
            · simp only [Act.put, List.setIfInBounds_toArray, List.set_cons_zero, List.set_cons_succ, i64_w, i32_w]
              rfl
            refine pure_ (i := 2) (N := some 99) (v := ?_) (a' := ?_) #[true, false, true, false, false, false, false, false, false, false, false, false, false, false, false, false, false, false] rfl rfl (any_of HT_.out (by kernel_rfl)) (fun _ _ _ h => h) (Or.inl ⟨by rfl, ?_⟩) ?_ ?_
            rotate_left
            · intro w'
              go_simp
              with_reducible rfl
            rotate_left
            · simp only [Act.put, List.setIfInBounds_toArray, List.set_cons_zero, List.set_cons_succ, i64_w, i32_w]
              rfl
            refine pure_ (i := 3) (N := some 100) (v := ?_) (a' := ?_) #[true, false, true, true, false, false, false, false, false, false, false, false, false, false, false, false, false, false] rfl rfl (any_of HT_.out (by kernel_rfl)) (fun _ _ _ h => h) (Or.inl ⟨by rfl, ?_⟩) ?_ ?_
            rotate_left
            · intro w'
              go_simp
              with_reducible rfl
            rotate_left
            · simp only [Act.put, List.setIfInBounds_toArray, List.set_cons_zero, List.set_cons_succ, i64_w, i32_w]
              rfl
            refine pure_ (i := 4) (N := some 101) (v := ?_) (a' := ?_) #[true, false, true, true, true, false, false, false, false, false, false, false, false, false, false, false, false, false] rfl rfl (any_of HT_.out (by kernel_rfl)) (fun _ _ _ h => h) (Or.inl ⟨by rfl, ?_⟩) ?_ ?_
            rotate_left
            · intro w'
              go_simp
              with_reducible rfl
            rotate_left
            · simp only [Act.put, List.setIfInBounds_toArray, List.set_cons_zero, List.set_cons_succ, i64_w, i32_w]
              rfl
            refine take_ (i := 5) (N := some 102) (v := ?_) (a' := ?_) #[true, false, true, true, true, true, false, false, false, false, false, false, false, false, false, false, false, false] rfl rfl (take_ofW HT_.out HW_.out (by kernel_rfl)) (fun _ _ _ h => h) (Or.inl ⟨by rfl, ?_⟩) hHeld ?_ ?_
            rotate_left
            · intro w' s0
              go_simp
              with_reducible rfl
            rotate_left
            · simp only [Act.put, List.setIfInBounds_toArray, List.set_cons_zero, List.set_cons_succ, i64_w, i32_w]
              rfl
            refine pure_ (i := 6) (N := some 103) (v := ?_) (a' := ?_) #[true, false, true, true, true, true, true, false, false, false, false, false, false, false, false, false, false, false] rfl rfl (any_of HT_.out (by kernel_rfl)) (fun _ _ _ h => h) (Or.inl ⟨by rfl, ?_⟩) ?_ ?_
            rotate_left
            · intro w'
              go_simp
              with_reducible rfl
            rotate_left
            · simp only [Act.put, List.setIfInBounds_toArray, List.set_cons_zero, List.set_cons_succ, i64_w, i32_w]
              rfl
            refine one_ (i := 1) (N := some 98) #[true, true, true, true, true, true, true, false, false, false, false, false, false, false, false, false, false, false] rfl rfl (one_of HT_.out (by kernel_rfl)) (by decide) (fun K hK => ?_)
            refine goes_ Try.func17 (by kernel_rfl) rfl #[.pointer (some ⟨g, 0, none⟩)] (by rfl) rfl rfl (by simp only [List.map_toArray, List.map_cons, List.map_nil]; rfl) ?_
            with_reducible refine (PX.len HQ.out (by have := HTZ.out; have := HI80.out; omega)).mono ?_
            rintro e w6 ⟨rfl, hP, hb⟩
            refine ⟨_, rfl, ?_⟩
            rw [show total L2 = (bytes L2).length from rfl]
            clear HQ
            have HQ := Aside0.mk hP
            replace yb := pw_cell_below hb yb
            clear hP hb
            refine hK.out _ _ (yb) (fun hHeld => ?_)
            clear hK K
            refine norm_ (a' := ?_) ?_ ?_
            rotate_left
            · show Act.put _ (some 98) _ = _
              simp only [Act.put, List.setIfInBounds_toArray, List.set_cons_zero, List.set_cons_succ, i64_w, i32_w]
              rfl
            refine pure_ (i := 7) (N := some 104) (v := ?_) (a' := ?_) #[true, true, true, true, true, true, true, true, false, false, false, false, false, false, false, false, false, false] rfl rfl (any_of HT_.out (by kernel_rfl)) (fun _ _ _ h => h) (Or.inl ⟨by rfl, ?_⟩) ?_ ?_
            rotate_left
            · intro w'
              go_simp
              with_reducible rfl
            rotate_left
            · simp only [Act.put, List.setIfInBounds_toArray, List.set_cons_zero, List.set_cons_succ, i64_w, i32_w]
              rfl
            refine pure_ (i := 8) (N := some 105) (v := ?_) (a' := ?_) #[true, true, true, true, true, true, true, true, true, false, false, false, false, false, false, false, false, false] rfl rfl (any_of HT_.out (by kernel_rfl)) (fun _ _ _ h => h) (Or.inl ⟨by rfl, ?_⟩) ?_ ?_
            rotate_left
            · intro w'
              go_simp
              with_reducible rfl
            rotate_left
            · simp only [Act.put, List.setIfInBounds_toArray, List.set_cons_zero, List.set_cons_succ, i64_w, i32_w]
              rfl
            refine pure_ (i := 9) (N := some 106) (v := ?_) (a' := ?_) #[true, true, true, true, true, true, true, true, true, true, false, false, false, false, false, false, false, false] rfl rfl (any_of HT_.out (by kernel_rfl)) (fun _ _ _ h => h) (Or.inl ⟨by rfl, ?_⟩) ?_ ?_
            rotate_left
            · intro w'
              go_simp
              with_reducible rfl
            rotate_left
            · simp only [Act.put, List.setIfInBounds_toArray, List.set_cons_zero, List.set_cons_succ, i64_w, i32_w]
              rfl
            refine pure_ (i := 10) (N := some 107) (v := ?_) (a' := ?_) #[true, true, true, true, true, true, true, true, true, true, true, false, false, false, false, false, false, false] rfl rfl (any_of HT_.out (by kernel_rfl)) (fun _ _ _ h => h) (Or.inl ⟨by rfl, ?_⟩) ?_ ?_
            rotate_left
            · intro w'
              go_simp
              with_reducible rfl
            rotate_left
            · simp only [Act.put, List.setIfInBounds_toArray, List.set_cons_zero, List.set_cons_succ, i64_w, i32_w]
              rfl
            refine pure_ (i := 12) (N := some 109) (v := ?_) (a' := ?_) #[true, true, true, true, true, true, true, true, true, true, true, false, true, false, false, false, false, false] rfl rfl (any_of HT_.out (by kernel_rfl)) (fun _ _ _ h => h) (Or.inl ⟨by rfl, ?_⟩) ?_ ?_
            rotate_left
            · intro w'
              go_simp
              with_reducible rfl
            rotate_left
            · simp only [Act.put, List.setIfInBounds_toArray, List.set_cons_zero, List.set_cons_succ, i64_w, i32_w]
              rfl
            refine pure_ (i := 13) (N := some 110) (v := ?_) (a' := ?_) #[true, true, true, true, true, true, true, true, true, true, true, false, true, true, false, false, false, false] rfl rfl (any_of HT_.out (by kernel_rfl)) (fun _ _ _ h => h) (Or.inl ⟨by rfl, ?_⟩) ?_ ?_
            rotate_left
            · intro w'
              go_simp
              with_reducible rfl
            rotate_left
            · simp only [Act.put, List.setIfInBounds_toArray, List.set_cons_zero, List.set_cons_succ, i64_w, i32_w]
              rfl
            refine pure_ (i := 14) (N := some 111) (v := ?_) (a' := ?_) #[true, true, true, true, true, true, true, true, true, true, true, false, true, true, true, false, false, false] rfl rfl (any_of HT_.out (by kernel_rfl)) (fun _ _ _ h => h) (Or.inl ⟨by rfl, ?_⟩) ?_ ?_
            rotate_left
            · intro w'
              go_simp
              with_reducible rfl
            rotate_left
            · simp only [Act.put, List.setIfInBounds_toArray, List.set_cons_zero, List.set_cons_succ, i64_w, i32_w]
              rfl
            refine one_ (i := 11) (N := some 108) #[true, true, true, true, true, true, true, true, true, true, true, true, true, true, true, false, false, false] rfl rfl (one_of HT_.out (by kernel_rfl)) (by decide) (fun K hK => ?_)
            refine goes_ Try.func21 (by kernel_rfl) rfl #[.pointer (some ⟨g, 0, none⟩), .int .u32 now2] (by rfl) rfl rfl (by simp only [List.map_toArray, List.map_cons, List.map_nil]; rfl) ?_
            with_reducible refine (PX.due HQ.out (by have := HTZ.out; have := HI80.out; omega) now2 HN2.out).mono ?_
            rintro e w7 ⟨rfl, hP, hb⟩
            refine ⟨_, rfl, ?_⟩
            rw [due_same HRZ.out]
            clear HQ
            have HQ := Aside0.mk hP
            replace yb := pw_cell_below hb yb
            clear hP hb
            refine hK.out _ _ (yb) (fun hHeld => ?_)
            clear hK K
            refine norm_ (a' := ?_) ?_ ?_
            rotate_left
            · show Act.put _ (some 108) _ = _
              simp only [Act.put, List.setIfInBounds_toArray, List.set_cons_zero, List.set_cons_succ, i64_w, i32_w]
              rfl
            refine one_ (i := 15) (N := some 112) #[true, true, true, true, true, true, true, true, true, true, true, true, true, true, true, true, false, false] rfl rfl (one_of HT_.out (by kernel_rfl)) (by decide) (fun K hK => ?_)
            refine goes_ Try.func22 (by kernel_rfl) rfl #[.pointer (some ⟨g2, 0, none⟩), .int .i64 now2] (by rfl) rfl rfl (by simp only [List.map_toArray, List.map_cons, List.map_nil]; rfl) ?_
            with_reducible refine (PX.rdue HQ.out (by rw [ats_len]; have := HTZ.out; have := HI80.out; unfold total at this; unfold total at *; omega) now2).mono ?_
            rintro e w8 ⟨rfl, hP, hb⟩
            refine ⟨_, rfl, ?_⟩
            clear HQ
            have HQ := Aside0.mk hP
            replace yb := pw_cell_below hb yb
            clear hP hb
            refine hK.out _ _ (yb) (fun hHeld => ?_)
            clear hK K
            refine norm_ (a' := ?_) ?_ ?_
            rotate_left
            · show Act.put _ (some 112) _ = _
              simp only [Act.put, List.setIfInBounds_toArray, List.set_cons_zero, List.set_cons_succ, i64_w, i32_w]
              rfl
            refine pure_ (i := 16) (N := some 113) (v := ?_) (a' := ?_) #[true, true, true, true, true, true, true, true, true, true, true, true, true, true, true, true, true, false] rfl rfl (any_of HT_.out (by kernel_rfl)) (fun _ _ _ h => h) (Or.inl ⟨by rfl, ?_⟩) ?_ ?_
            rotate_left
            · intro w'
              go_simp
              with_reducible rfl
            rotate_left
            · simp only [Act.put, List.setIfInBounds_toArray, List.set_cons_zero, List.set_cons_succ, i64_w, i32_w]
              rfl
            refine pure_ (i := 17) (N := some 114) (v := ?_) (a' := ?_) #[true, true, true, true, true, true, true, true, true, true, true, true, true, true, true, true, true, true] rfl rfl (any_of HT_.out (by kernel_rfl)) (fun _ _ _ h => h) (Or.inl ⟨by rfl, ?_⟩) ?_ ?_
            rotate_left
            · intro w'
              go_simp
              with_reducible rfl
            rotate_left
            · simp only [Act.put, List.setIfInBounds_toArray, List.set_cons_zero, List.set_cons_succ, i64_w, i32_w]
              rfl
            refine done_ (done_of HT_.out (by kernel_rfl)) ?_
            go_wp2
            obtain ⟨gk, rfl⟩ : ∃ m, gk = m + 1 := ⟨gk - 1, by have := HI.out; have := HI80.out; omega⟩
            go_roundg gk
            case measure => omega
            case rel => exact ⟨i + 1, L2, now2, _, congrArg (Value.int .i64) hin, congrArg (Value.int .u32) hn2, ⟨by have := HI.out; have := HI80.out; have := HIL.out; omega⟩, HQ, ⟨HRZ.out, HTZ.out, HN2.out.1, HN2.out.2⟩⟩
          · obtain ⟨n, hn⟩ : ∃ n, putN cut rm L x.2.1.length = n := ⟨_, rfl⟩
            obtain ⟨L2, hL2⟩ : ∃ z, putL cut rm L x.2.1 (now2 + x.2.2.2.1) = z := ⟨_, rfl⟩
            have HEB := Aside0.mk (show bytes L ++ x.2.1.take n = bytes L2 by rw [← hL2, putL_bytes, hn])
            have HEA := Aside0.mk (show ats L ++ List.replicate n (lastmax (ats L) (now2 + x.2.2.2.1)) = ats L2 by rw [← hL2, putL_ats _ _ _ _ _ HFL.out, hn])
            have HRZ := Aside0.mk (show Rising (ats L2) by rw [← hL2]; exact putL_rising HFL.out HR.out.1)
            have HTZ := Aside0.mk (show total L2 ≤ 2000 * (i + 1) by rw [← hL2, putL_total]; have := putN_le cut rm L x.2.1.length; have := HR.out.2.1; have := HBL.out; omega)
            have HN := Aside0.mk hn
            have HL2 := Aside0.mk hL2
            clear hn hL2
            go_wp2
            generalize hwb : wr.alloc (.cells #[.int .u8 x.1, .slice X x.2.1.length cx, .int .i64 x.2.2.1, .int .u32 x.2.2.2.1, .int .u32 x.2.2.2.2] 29) = wb at HP1 HBX ⊢
            have HP2 := Aside0.mk (HP1.out.below (below_drew (Below.refl _ _)))
            have HBX2 := Aside0.mk (blk_below HBX.out (below_drew (Below.refl _ _)))
            clear y0 y1 y2 y3 y4 hwb HP1 HBX
            refine start_ (n := 17) (S := fun w' => w'.cell? ⟨wr.heap.size, 1, none⟩ = some (.slice X x.2.1.length cx) ∧ w'.cell? ⟨wr.heap.size, 3, none⟩ = some (.int .u32 x.2.2.2.1)) (ds := [15]) #[false, false, false, false, false, false, false, false, false, false, false, false, false, false, false, false, false] (by kernel_rfl) rfl rfl ⟨((blk_cell HBX2.out 1).trans rfl), ((blk_cell HBX2.out 3).trans rfl)⟩ (fun hHeld => ?_)
            refine with_tabW plays.tab21 plays.bits21 (fun HT_ HW_ => ?_)
            generalize wb.drew = wd at HP2 HBX2 hHeld ⊢
            refine pure_ (i := 0) (N := some 63) (v := ?_) (a' := ?_) #[true, false, false, false, false, false, false, false, false, false, false, false, false, false, false, false, false] rfl rfl (any_of HT_.out (by kernel_rfl)) (fun _ _ _ h => h) (Or.inl ⟨by rfl, ?_⟩) ?_ ?_
            rotate_left
            · intro w'
              go_simp
              with_reducible rfl
            rotate_left
            · simp only [Act.put, List.setIfInBounds_toArray, List.set_cons_zero, List.set_cons_succ, i64_w, i32_w]
              rfl
            refine pure_ (i := 1) (N := some 64) (v := ?_) (a' := ?_) #[true, true, false, false, false, false, false, false, false, false, false, false, false, false, false, false, false] rfl rfl (any_of HT_.out (by kernel_rfl)) (fun _ _ _ h => h) (Or.inl ⟨by rfl, ?_⟩) ?_ ?_
            rotate_left
            · intro w'
              go_simp
              with_reducible rfl
            rotate_left
            · simp only [Act.put, List.setIfInBounds_toArray, List.set_cons_zero, List.set_cons_succ, i64_w, i32_w]
              rfl
            refine pure_ (i := 3) (N := some 66) (v := ?_) (a' := ?_) #[true, true, false, true, false, false, false, false, false, false, false, false, false, false, false, false, false] rfl rfl (any_of HT_.out (by kernel_rfl)) (fun _ _ _ h => h) (Or.inl ⟨by rfl, ?_⟩) ?_ ?_
            rotate_left
            · intro w'
              go_simp
              with_reducible rfl
            rotate_left
            · simp only [Act.put, List.setIfInBounds_toArray, List.set_cons_zero, List.set_cons_succ, i64_w, i32_w]
              rfl
            refine pure_ (i := 4) (N := some 67) (v := ?_) (a' := ?_) #[true, true, false, true, true, false, false, false, false, false, false, false, false, false, false, false, false] rfl rfl (any_of HT_.out (by kernel_rfl)) (fun _ _ _ h => h) (Or.inl ⟨by rfl, ?_⟩) ?_ ?_
            rotate_left
            · intro w'
              go_simp
              with_reducible rfl
            rotate_left
            · simp only [Act.put, List.setIfInBounds_toArray, List.set_cons_zero, List.set_cons_succ, i64_w, i32_w]
              rfl
            refine pure_ (i := 7) (N := some 70) (v := ?_) (a' := ?_) #[true, true, false, true, true, false, false, true, false, false, false, false, false, false, false, false, false] rfl rfl (any_of HT_.out (by kernel_rfl)) (fun _ _ _ h => h) (Or.inl ⟨by rfl, ?_⟩) ?_ ?_
            rotate_left
            · intro w'
              go_simp
              with_reducible rfl
            rotate_left
            · simp only [Act.put, List.setIfInBounds_toArray, List.set_cons_zero, List.set_cons_succ, i64_w, i32_w]
              rfl
            refine pure_ (i := 8) (N := some 71) (v := ?_) (a' := ?_) #[true, true, false, true, true, false, false, true, true, false, false, false, false, false, false, false, false] rfl rfl (any_of HT_.out (by kernel_rfl)) (fun _ _ _ h => h) (Or.inl ⟨by rfl, ?_⟩) ?_ ?_
            rotate_left
            · intro w'
              go_simp
              with_reducible rfl
            rotate_left
            · simp only [Act.put, List.setIfInBounds_toArray, List.set_cons_zero, List.set_cons_succ, i64_w, i32_w]
              rfl
            refine pure_ (i := 10) (N := some 73) (v := ?_) (a' := ?_) #[true, true, false, true, true, false, false, true, true, false, true, false, false, false, false, false, false] rfl rfl (any_of HT_.out (by kernel_rfl)) (fun _ _ _ h => h) (Or.inl ⟨by rfl, ?_⟩) ?_ ?_
            rotate_left
            · intro w'
              go_simp
              with_reducible rfl
            rotate_left
            · simp only [Act.put, List.setIfInBounds_toArray, List.set_cons_zero, List.set_cons_succ, i64_w, i32_w]
              rfl
            refine pure_ (i := 11) (N := some 74) (v := ?_) (a' := ?_) #[true, true, false, true, true, false, false, true, true, false, true, true, false, false, false, false, false] rfl rfl (any_of HT_.out (by kernel_rfl)) (fun _ _ _ h => h) (Or.inl ⟨by rfl, ?_⟩) ?_ ?_
            rotate_left
            · intro w'
              go_simp
              with_reducible rfl
            rotate_left
            · simp only [Act.put, List.setIfInBounds_toArray, List.set_cons_zero, List.set_cons_succ, i64_w, i32_w]
              rfl
            refine pure_ (i := 12) (N := some 75) (v := ?_) (a' := ?_) #[true, true, false, true, true, false, false, true, true, false, true, true, true, false, false, false, false] rfl rfl (any_of HT_.out (by kernel_rfl)) (fun _ _ _ h => h) (Or.inl ⟨by rfl, ?_⟩) ?_ ?_
            rotate_left
            · intro w'
              go_simp
              with_reducible rfl
            rotate_left
            · simp only [Act.put, List.setIfInBounds_toArray, List.set_cons_zero, List.set_cons_succ, i64_w, i32_w]
              rfl
            refine take_ (i := 2) (N := some 65) (v := ?_) (a' := ?_) #[true, true, true, true, true, false, false, true, true, false, true, true, true, false, false, false, false] rfl rfl (take_ofW HT_.out HW_.out (by kernel_rfl)) (fun _ _ _ h => h) (Or.inl ⟨by rfl, ?_⟩) hHeld ?_ ?_
            rotate_left
            · rintro w' ⟨s0, s1⟩
              go_simp
              with_reducible rfl
            rotate_left
            · simp only [Act.put, List.setIfInBounds_toArray, List.set_cons_zero, List.set_cons_succ, i64_w, i32_w]
              rfl
            refine take_ (i := 5) (N := some 68) (v := ?_) (a' := ?_) #[true, true, true, true, true, true, false, true, true, false, true, true, true, false, false, false, false] rfl rfl (take_ofW HT_.out HW_.out (by kernel_rfl)) (fun _ _ _ h => h) (Or.inl ⟨by rfl, ?_⟩) hHeld ?_ ?_
            rotate_left
            · rintro w' ⟨s0, s1⟩
              go_simp
              with_reducible rfl
            rotate_left
            · simp only [Act.put, List.setIfInBounds_toArray, List.set_cons_zero, List.set_cons_succ, i64_w, i32_w]
              rfl
            refine take_ (i := 9) (N := some 72) (v := ?_) (a' := ?_) #[true, true, true, true, true, true, false, true, true, true, true, true, true, false, false, false, false] rfl rfl (take_ofW HT_.out HW_.out (by kernel_rfl)) (fun _ _ _ h => h) (Or.inl ⟨by rfl, ?_⟩) hHeld ?_ ?_
            rotate_left
            · rintro w' ⟨s0, s1⟩
              go_simp
              with_reducible rfl
            rotate_left
            · simp only [Act.put, List.setIfInBounds_toArray, List.set_cons_zero, List.set_cons_succ, i64_w, i32_w]
              rfl
            refine take_ (i := 13) (N := some 76) (v := ?_) (a' := ?_) #[true, true, true, true, true, true, false, true, true, true, true, true, true, true, false, false, false] rfl rfl (take_ofW HT_.out HW_.out (by kernel_rfl)) (fun _ _ _ h => h) (Or.inl ⟨by rfl, ?_⟩) hHeld ?_ ?_
            rotate_left
            · rintro w' ⟨s0, s1⟩
              go_simp
              with_reducible rfl
            rotate_left
            · simp only [Act.put, List.setIfInBounds_toArray, List.set_cons_zero, List.set_cons_succ, i64_w, i32_w]
              rfl
            refine pure_ (i := 14) (N := some 77) (v := ?_) (a' := ?_) #[true, true, true, true, true, true, false, true, true, true, true, true, true, true, true, false, false] rfl rfl (any_of HT_.out (by kernel_rfl)) (fun _ _ _ h => h) (Or.inl ⟨by rfl, ?_⟩) ?_ ?_
            rotate_left
            · intro w'
              go_simp
              with_reducible rfl
            rotate_left
            · simp only [Act.put, List.setIfInBounds_toArray, List.set_cons_zero, List.set_cons_succ, i64_w, i32_w]
              rfl
            refine one_ (i := 6) (N := some 69) #[true, true, true, true, true, true, true, true, true, true, true, true, true, true, true, false, false] rfl rfl (one_of HT_.out (by kernel_rfl)) (by decide) (fun K hK => ?_)
            refine goes_ Try.func15 (by kernel_rfl) rfl #[.pointer (some ⟨g, 0, none⟩), .slice X x.2.1.length cx, .int .u32 now2, .int .u32 x.2.2.2.1] (by rfl) rfl rfl (by simp only [List.map_toArray, List.map_cons, List.map_nil]; rfl) ?_
            with_reducible refine (PX.put HP2.out X cx x.2.1 now2 x.2.2.2.1 (by have := HTL.out; omega) (by have := HBL.out; omega) (Kd.C_below HX.out.reads HP2.out.at0) HX.out.fit HN2.out HDL.out).mono ?_
            rintro e w4 ⟨rfl, hP, hO⟩
            refine ⟨_, rfl, ?_⟩
            rw [HN.out]
            rw [HL2.out] at hP
            have HP3 := Aside0.mk hP
            have HBX3 := Aside0.mk (blk_only HBX2.out hO (by decide))
            clear hP hO HP2 HBX2
            refine hK.out _ _ ⟨((blk_cell HBX3.out 1).trans rfl), ((blk_cell HBX3.out 3).trans rfl)⟩ (fun hHeld => ?_)
            clear hK K
            refine norm_ (a' := ?_) ?_ ?_
            rotate_left
            · show Act.put _ (some 69) _ = _
              simp only [Act.put, List.setIfInBounds_toArray, List.set_cons_zero, List.set_cons_succ, i64_w, i32_w]
              rfl
            refine last_ (i := 15) (N := some 78) #[true, true, true, true, true, true, true, true, true, true, true, true, true, true, true, true, false] rfl rfl (one_of HT_.out (by kernel_rfl)) (by decide) (fun K hK => ?_)
            refine goes_ Try.func18 (by kernel_rfl) rfl #[.pointer (some ⟨g2, 0, none⟩), .slice X x.2.1.length cx, .int .i64 now2, .int .i64 x.2.2.2.1] (by rfl) rfl rfl (by simp only [List.map_toArray, List.map_cons, List.map_nil]; rfl) ?_
            with_reducible refine (PX.rput HP3.out X cx x.2.1 now2 x.2.2.2.1 (ats_len L) (by rw [ats_len]; have h1 := HTL.out; have h2 := HBL.out; unfold total at h1; omega) HX.out.reads HX.out.fit (by have := HN2.out; have := HDL.out; omega) HRM.out).mono ?_
            rintro e w5 ⟨i5, rfl, hi5, hP⟩
            refine ⟨_, rfl, ?_⟩
            rw [rputN_same, HN.out] at hi5
            subst hi5
            rw [HEB.out, HEA.out] at hP
            have HPZ := Aside0.mk hP
            clear hP HP3 HBX3
            refine hK.out _ _ ?_
            clear hK K
            refine norm_ (a' := ?_) ?_ ?_
            rotate_left
            · show Act.put _ (some 78) _ = _
              simp only [Act.put, List.setIfInBounds_toArray, List.set_cons_zero, List.set_cons_succ, i64_w, i32_w]
              rfl
            refine pure_ (i := 16) (N := some 79) (v := ?_) (a' := ?_) #[true, true, true, true, true, true, true, true, true, true, true, true, true, true, true, true, true] rfl rfl (any_of HT_.out (by kernel_rfl)) (fun _ _ _ h => h) (Or.inl ⟨by rfl, ?_⟩) ?_ ?_
            rotate_left
            · intro w'
              go_simp
              with_reducible rfl
            rotate_left
            · simp only [Act.put, List.setIfInBounds_toArray, List.set_cons_zero, List.set_cons_succ, i64_w, i32_w]
              rfl
            refine done_ (done_of HT_.out (by kernel_rfl)) ?_
            go_wp2
            have HQ := Aside0.mk (HPZ.out.below (below_drew (Below.refl _ _)))
            obtain ⟨ab, cb, yb⟩ := HQ.out.b
            clear HPZ
            refine start_ (n := 18) (S := fun w' => w'.cell? ⟨g2, 1, none⟩ = some (.slice ab (bytes L2).length cb)) (ds := []) #[false, false, false, false, false, false, false, false, false, false, false, false, false, false, false, false, false, false] (by kernel_rfl) rfl rfl (yb) (fun hHeld => ?_)
            refine with_tabW plays.tab27 plays.bits27 (fun HT_ HW_ => ?_)
            generalize w5.drew = we at HQ yb hHeld ⊢
            refine pure_ (i := 0) (N := some 97) (v := ?_) (a' := ?_) #[true, false, false, false, false, false, false, false, false, false, false, false, false, false, false, false, false, false] rfl rfl (any_of HT_.out (by kernel_rfl)) (fun _ _ _ h => h) (Or.inl ⟨by rfl, ?_⟩) ?_ ?_
            rotate_left
            · intro w'
              go_simp
              with_reducible rfl
            rotate_left
            · simp only [Act.put, List.setIfInBounds_toArray, List.set_cons_zero, List.set_cons_succ, i64_w, i32_w]
              rfl
            refine pure_ (i := 2) (N := some 99) (v := ?_) (a' := ?_) #[true, false, true, false, false, false, false, false, false, false, false, false, false, false, false, false, false, false] rfl rfl (any_of HT_.out (by kernel_rfl)) (fun _ _ _ h => h) (Or.inl ⟨by rfl, ?_⟩) ?_ ?_
            rotate_left
            · intro w'
              go_simp
              with_reducible rfl
            rotate_left
            · simp only [Act.put, List.setIfInBounds_toArray, List.set_cons_zero, List.set_cons_succ, i64_w, i32_w]
              rfl
            refine pure_ (i := 3) (N := some 100) (v := ?_) (a' := ?_) #[true, false, true, true, false, false, false, false, false, false, false, false, false, false, false, false, false, false] rfl rfl (any_of HT_.out (by kernel_rfl)) (fun _ _ _ h => h) (Or.inl ⟨by rfl, ?_⟩) ?_ ?_
            rotate_left
            · intro w'
              go_simp
              with_reducible rfl
            rotate_left
            · simp only [Act.put, List.setIfInBounds_toArray, List.set_cons_zero, List.set_cons_succ, i64_w, i32_w]
              rfl
            refine pure_ (i := 4) (N := some 101) (v := ?_) (a' := ?_) #[true, false, true, true, true, false, false, false, false, false, false, false, false, false, false, false, false, false] rfl rfl (any_of HT_.out (by kernel_rfl)) (fun _ _ _ h => h) (Or.inl ⟨by rfl, ?_⟩) ?_ ?_
            rotate_left
            · intro w'
              go_simp
              with_reducible rfl
            rotate_left
            · simp only [Act.put, List.setIfInBounds_toArray, List.set_cons_zero, List.set_cons_succ, i64_w, i32_w]
              rfl
            refine take_ (i := 5) (N := some 102) (v := ?_) (a' := ?_) #[true, false, true, true, true, true, false, false, false, false, false, false, false, false, false, false, false, false] rfl rfl (take_ofW HT_.out HW_.out (by kernel_rfl)) (fun _ _ _ h => h) (Or.inl ⟨by rfl, ?_⟩) hHeld ?_ ?_
            rotate_left
            · intro w' s0
              go_simp
              with_reducible rfl
            rotate_left
            · simp only [Act.put, List.setIfInBounds_toArray, List.set_cons_zero, List.set_cons_succ, i64_w, i32_w]
              rfl
            refine pure_ (i := 6) (N := some 103) (v := ?_) (a' := ?_) #[true, false, true, true, true, true, true, false, false, false, false, false, false, false, false, false, false, false] rfl rfl (any_of HT_.out (by kernel_rfl)) (fun _ _ _ h => h) (Or.inl ⟨by rfl, ?_⟩) ?_ ?_
            rotate_left
            · intro w'
              go_simp
              with_reducible rfl
            rotate_left
            · simp only [Act.put, List.setIfInBounds_toArray, List.set_cons_zero, List.set_cons_succ, i64_w, i32_w]
              rfl
            refine one_ (i := 1) (N := some 98) #[true, true, true, true, true, true, true, false, false, false, false, false, false, false, false, false, false, false] rfl rfl (one_of HT_.out (by kernel_rfl)) (by decide) (fun K hK => ?_)
            refine goes_ Try.func17 (by kernel_rfl) rfl #[.pointer (some ⟨g, 0, none⟩)] (by rfl) rfl rfl (by simp only [List.map_toArray, List.map_cons, List.map_nil]; rfl) ?_
            with_reducible refine (PX.len HQ.out (by have := HTZ.out; have := HI80.out; omega)).mono ?_
            rintro e w6 ⟨rfl, hP, hb⟩
            refine ⟨_, rfl, ?_⟩
            rw [show total L2 = (bytes L2).length from rfl]
            clear HQ
            have HQ := Aside0.mk hP
            replace yb := pw_cell_below hb yb
            clear hP hb
            refine hK.out _ _ (yb) (fun hHeld => ?_)
            clear hK K
            refine norm_ (a' := ?_) ?_ ?_
            rotate_left
            · show Act.put _ (some 98) _ = _
              simp only [Act.put, List.setIfInBounds_toArray, List.set_cons_zero, List.set_cons_succ, i64_w, i32_w]
              rfl
            refine pure_ (i := 7) (N := some 104) (v := ?_) (a' := ?_) #[true, true, true, true, true, true, true, true, false, false, false, false, false, false, false, false, false, false] rfl rfl (any_of HT_.out (by kernel_rfl)) (fun _ _ _ h => h) (Or.inl ⟨by rfl, ?_⟩) ?_ ?_
            rotate_left
            · intro w'
              go_simp
              with_reducible rfl
            rotate_left
            · simp only [Act.put, List.setIfInBounds_toArray, List.set_cons_zero, List.set_cons_succ, i64_w, i32_w]
              rfl
            refine pure_ (i := 8) (N := some 105) (v := ?_) (a' := ?_) #[true, true, true, true, true, true, true, true, true, false, false, false, false, false, false, false, false, false] rfl rfl (any_of HT_.out (by kernel_rfl)) (fun _ _ _ h => h) (Or.inl ⟨by rfl, ?_⟩) ?_ ?_
            rotate_left
            · intro w'
              go_simp
              with_reducible rfl
            rotate_left
            · simp only [Act.put, List.setIfInBounds_toArray, List.set_cons_zero, List.set_cons_succ, i64_w, i32_w]
              rfl
            refine pure_ (i := 9) (N := some 106) (v := ?_) (a' := ?_) #[true, true, true, true, true, true, true, true, true, true, false, false, false, false, false, false, false, false] rfl rfl (any_of HT_.out (by kernel_rfl)) (fun _ _ _ h => h) (Or.inl ⟨by rfl, ?_⟩) ?_ ?_
            rotate_left
            · intro w'
              go_simp
              with_reducible rfl
            rotate_left
            · simp only [Act.put, List.setIfInBounds_toArray, List.set_cons_zero, List.set_cons_succ, i64_w, i32_w]
              rfl
            refine pure_ (i := 10) (N := some 107) (v := ?_) (a' := ?_) #[true, true, true, true, true, true, true, true, true, true, true, false, false, false, false, false, false, false] rfl rfl (any_of HT_.out (by kernel_rfl)) (fun _ _ _ h => h) (Or.inl ⟨by rfl, ?_⟩) ?_ ?_
            rotate_left
            · intro w'
              go_simp
              with_reducible rfl
            rotate_left
            · simp only [Act.put, List.setIfInBounds_toArray, List.set_cons_zero, List.set_cons_succ, i64_w, i32_w]
              rfl
            refine pure_ (i := 12) (N := some 109) (v := ?_) (a' := ?_) #[true, true, true, true, true, true, true, true, true, true, true, false, true, false, false, false, false, false] rfl rfl (any_of HT_.out (by kernel_rfl)) (fun _ _ _ h => h) (Or.inl ⟨by rfl, ?_⟩) ?_ ?_
            rotate_left
            · intro w'
              go_simp
              with_reducible rfl
            rotate_left
            · simp only [Act.put, List.setIfInBounds_toArray, List.set_cons_zero, List.set_cons_succ, i64_w, i32_w]
              rfl
            refine pure_ (i := 13) (N := some 110) (v := ?_) (a' := ?_) #[true, true, true, true, true, true, true, true, true, true, true, false, true, true, false, false, false, false] rfl rfl (any_of HT_.out (by kernel_rfl)) (fun _ _ _ h => h) (Or.inl ⟨by rfl, ?_⟩) ?_ ?_
            rotate_left
            · intro w'
              go_simp
              with_reducible rfl
            rotate_left
            · simp only [Act.put, List.setIfInBounds_toArray, List.set_cons_zero, List.set_cons_succ, i64_w, i32_w]
              rfl
            refine pure_ (i := 14) (N := some 111) (v := ?_) (a' := ?_) #[true, true, true, true, true, true, true, true, true, true, true, false, true, true, true, false, false, false] rfl rfl (any_of HT_.out (by kernel_rfl)) (fun _ _ _ h => h) (Or.inl ⟨by rfl, ?_⟩) ?_ ?_
            rotate_left
            · intro w'
              go_simp
              with_reducible rfl
            rotate_left
            · simp only [Act.put, List.setIfInBounds_toArray, List.set_cons_zero, List.set_cons_succ, i64_w, i32_w]
              rfl
            refine one_ (i := 11) (N := some 108) #[true, true, true, true, true, true, true, true, true, true, true, true, true, true, true, false, false, false] rfl rfl (one_of HT_.out (by kernel_rfl)) (by decide) (fun K hK => ?_)
            refine goes_ Try.func21 (by kernel_rfl) rfl #[.pointer (some ⟨g, 0, none⟩), .int .u32 now2] (by rfl) rfl rfl (by simp only [List.map_toArray, List.map_cons, List.map_nil]; rfl) ?_
            with_reducible refine (PX.due HQ.out (by have := HTZ.out; have := HI80.out; omega) now2 HN2.out).mono ?_
            rintro e w7 ⟨rfl, hP, hb⟩
            refine ⟨_, rfl, ?_⟩
            rw [due_same HRZ.out]
            clear HQ
            have HQ := Aside0.mk hP
            replace yb := pw_cell_below hb yb
            clear hP hb
            refine hK.out _ _ (yb) (fun hHeld => ?_)
            clear hK K
            refine norm_ (a' := ?_) ?_ ?_
            rotate_left
            · show Act.put _ (some 108) _ = _
              simp only [Act.put, List.setIfInBounds_toArray, List.set_cons_zero, List.set_cons_succ, i64_w, i32_w]
              rfl
            refine one_ (i := 15) (N := some 112) #[true, true, true, true, true, true, true, true, true, true, true, true, true, true, true, true, false, false] rfl rfl (one_of HT_.out (by kernel_rfl)) (by decide) (fun K hK => ?_)
            refine goes_ Try.func22 (by kernel_rfl) rfl #[.pointer (some ⟨g2, 0, none⟩), .int .i64 now2] (by rfl) rfl rfl (by simp only [List.map_toArray, List.map_cons, List.map_nil]; rfl) ?_
            with_reducible refine (PX.rdue HQ.out (by rw [ats_len]; have := HTZ.out; have := HI80.out; unfold total at this; unfold total at *; omega) now2).mono ?_
            rintro e w8 ⟨rfl, hP, hb⟩
            refine ⟨_, rfl, ?_⟩
            clear HQ
            have HQ := Aside0.mk hP
            replace yb := pw_cell_below hb yb
            clear hP hb
            refine hK.out _ _ (yb) (fun hHeld => ?_)
            clear hK K
            refine norm_ (a' := ?_) ?_ ?_
            rotate_left
            · show Act.put _ (some 112) _ = _
              simp only [Act.put, List.setIfInBounds_toArray, List.set_cons_zero, List.set_cons_succ, i64_w, i32_w]
              rfl
            refine pure_ (i := 16) (N := some 113) (v := ?_) (a' := ?_) #[true, true, true, true, true, true, true, true, true, true, true, true, true, true, true, true, true, false] rfl rfl (any_of HT_.out (by kernel_rfl)) (fun _ _ _ h => h) (Or.inl ⟨by rfl, ?_⟩) ?_ ?_
            rotate_left
            · intro w'
              go_simp
              with_reducible rfl
            rotate_left
            · simp only [Act.put, List.setIfInBounds_toArray, List.set_cons_zero, List.set_cons_succ, i64_w, i32_w]
              rfl
            refine pure_ (i := 17) (N := some 114) (v := ?_) (a' := ?_) #[true, true, true, true, true, true, true, true, true, true, true, true, true, true, true, true, true, true] rfl rfl (any_of HT_.out (by kernel_rfl)) (fun _ _ _ h => h) (Or.inl ⟨by rfl, ?_⟩) ?_ ?_
            rotate_left
            · intro w'
              go_simp
              with_reducible rfl
            rotate_left
            · simp only [Act.put, List.setIfInBounds_toArray, List.set_cons_zero, List.set_cons_succ, i64_w, i32_w]
              rfl
            refine done_ (done_of HT_.out (by kernel_rfl)) ?_
            go_wp2
            obtain ⟨gk, rfl⟩ : ∃ m, gk = m + 1 := ⟨gk - 1, by have := HI.out; have := HI80.out; omega⟩
            go_roundg gk
            case measure => omega
            case rel => exact ⟨i + 1, L2, now2, _, congrArg (Value.int .i64) hin, congrArg (Value.int .u32) hn2, ⟨by have := HI.out; have := HI80.out; have := HIL.out; omega⟩, HQ, ⟨HRZ.out, HTZ.out, HN2.out.1, HN2.out.2⟩⟩
          · obtain ⟨k, hk, ht1, htl, ht2, ht3⟩ := take_all now2 L x.2.2.1.toNat HFL.out
            obtain ⟨L2, hL2⟩ : ∃ z, (takeP now2 x.2.2.1.toNat L).2 = z := ⟨_, rfl⟩
            obtain ⟨TT, hTT⟩ : ∃ z, (bytes L).take k = z := ⟨_, rfl⟩
            rw [hTT] at ht1 htl
            rw [hL2] at ht2 ht3
            have HRZ := Aside0.mk (show Rising (ats L2) by rw [← hL2]; exact take_rising HFL.out HR.out.1)
            have HTZ := Aside0.mk (show total L2 ≤ 2000 * (i + 1) by rw [← hL2]; have := take_total now2 L x.2.2.1.toNat HFL.out; have := HR.out.2.1; omega)
            have HK := Aside0.mk hk
            have HT1 := Aside0.mk ht1
            have HTLN := Aside0.mk htl
            have HEB := Aside0.mk ht2
            have HEA := Aside0.mk ht3
            have HTT := Aside0.mk hTT
            have HL2 := Aside0.mk hL2
            have HNI := Aside0.mk (wf_i64 HXO.out.2.2.1)
            clear hk ht1 htl ht2 ht3 hTT hL2
            go_wp2
            generalize hwb : wr.alloc (.cells #[.int .u8 x.1, .slice X x.2.1.length cx, .int .i64 x.2.2.1, .int .u32 x.2.2.2.1, .int .u32 x.2.2.2.2] 29) = wb at HP1 HBX ⊢
            have HP2 := Aside0.mk (HP1.out.below (below_drew (Below.refl _ _)))
            have HBX2 := Aside0.mk (blk_below HBX.out (below_drew (Below.refl _ _)))
            clear y0 y1 y2 y3 y4 hwb HP1 HBX
            refine start_ (n := 14) (S := fun w' => w'.cell? ⟨wr.heap.size, 2, none⟩ = some (.int .i64 x.2.2.1)) (ds := []) #[false, false, false, false, false, false, false, false, false, false, false, false, false, false] (by kernel_rfl) rfl rfl (((blk_cell HBX2.out 2).trans rfl)) (fun hHeld => ?_)
            refine with_tabW plays.tab25 plays.bits25 (fun HT_ HW_ => ?_)
            generalize wb.drew = wd at HP2 HBX2 hHeld ⊢
            refine pure_ (i := 0) (N := some 83) (v := ?_) (a' := ?_) #[true, false, false, false, false, false, false, false, false, false, false, false, false, false] rfl rfl (any_of HT_.out (by kernel_rfl)) (fun _ _ _ h => h) (Or.inl ⟨by rfl, ?_⟩) ?_ ?_
            rotate_left
            · intro w'
              go_simp
              with_reducible rfl
            rotate_left
            · simp only [Act.put, List.setIfInBounds_toArray, List.set_cons_zero, List.set_cons_succ, i64_w, i32_w]
              rfl
            refine pure_ (i := 1) (N := some 84) (v := ?_) (a' := ?_) #[true, true, false, false, false, false, false, false, false, false, false, false, false, false] rfl rfl (any_of HT_.out (by kernel_rfl)) (fun _ _ _ h => h) (Or.inl ⟨by rfl, ?_⟩) ?_ ?_
            rotate_left
            · intro w'
              go_simp
              with_reducible rfl
            rotate_left
            · simp only [Act.put, List.setIfInBounds_toArray, List.set_cons_zero, List.set_cons_succ, i64_w, i32_w]
              rfl
            refine pure_ (i := 3) (N := some 86) (v := ?_) (a' := ?_) #[true, true, false, true, false, false, false, false, false, false, false, false, false, false] rfl rfl (any_of HT_.out (by kernel_rfl)) (fun _ _ _ h => h) (Or.inl ⟨by rfl, ?_⟩) ?_ ?_
            rotate_left
            · intro w'
              go_simp
              with_reducible rfl
            rotate_left
            · simp only [Act.put, List.setIfInBounds_toArray, List.set_cons_zero, List.set_cons_succ, i64_w, i32_w]
              rfl
            refine pure_ (i := 6) (N := some 89) (v := ?_) (a' := ?_) #[true, true, false, true, false, false, true, false, false, false, false, false, false, false] rfl rfl (any_of HT_.out (by kernel_rfl)) (fun _ _ _ h => h) (Or.inl ⟨by rfl, ?_⟩) ?_ ?_
            rotate_left
            · intro w'
              go_simp
              with_reducible rfl
            rotate_left
            · simp only [Act.put, List.setIfInBounds_toArray, List.set_cons_zero, List.set_cons_succ, i64_w, i32_w]
              rfl
            refine pure_ (i := 7) (N := some 90) (v := ?_) (a' := ?_) #[true, true, false, true, false, false, true, true, false, false, false, false, false, false] rfl rfl (any_of HT_.out (by kernel_rfl)) (fun _ _ _ h => h) (Or.inl ⟨by rfl, ?_⟩) ?_ ?_
            rotate_left
            · intro w'
              go_simp
              with_reducible rfl
            rotate_left
            · simp only [Act.put, List.setIfInBounds_toArray, List.set_cons_zero, List.set_cons_succ, i64_w, i32_w]
              rfl
            refine pure_ (i := 9) (N := some 92) (v := ?_) (a' := ?_) #[true, true, false, true, false, false, true, true, false, true, false, false, false, false] rfl rfl (any_of HT_.out (by kernel_rfl)) (fun _ _ _ h => h) (Or.inl ⟨by rfl, ?_⟩) ?_ ?_
            rotate_left
            · intro w'
              go_simp
              with_reducible rfl
            rotate_left
            · simp only [Act.put, List.setIfInBounds_toArray, List.set_cons_zero, List.set_cons_succ, i64_w, i32_w]
              rfl
            refine pure_ (i := 10) (N := some 93) (v := ?_) (a' := ?_) #[true, true, false, true, false, false, true, true, false, true, true, false, false, false] rfl rfl (any_of HT_.out (by kernel_rfl)) (fun _ _ _ h => h) (Or.inl ⟨by rfl, ?_⟩) ?_ ?_
            rotate_left
            · intro w'
              go_simp
              with_reducible rfl
            rotate_left
            · simp only [Act.put, List.setIfInBounds_toArray, List.set_cons_zero, List.set_cons_succ, i64_w, i32_w]
              rfl
            refine take_ (i := 2) (N := some 85) (v := ?_) (a' := ?_) #[true, true, true, true, false, false, true, true, false, true, true, false, false, false] rfl rfl (take_ofW HT_.out HW_.out (by kernel_rfl)) (fun _ _ _ h => h) (Or.inl ⟨by rfl, ?_⟩) hHeld ?_ ?_
            rotate_left
            · intro w' s0
              go_simp
              with_reducible rfl
            rotate_left
            · simp only [Act.put, List.setIfInBounds_toArray, List.set_cons_zero, List.set_cons_succ, i64_w, i32_w]
              rfl
            refine take_ (i := 8) (N := some 91) (v := ?_) (a' := ?_) #[true, true, true, true, false, false, true, true, true, true, true, false, false, false] rfl rfl (take_ofW HT_.out HW_.out (by kernel_rfl)) (fun _ _ _ h => h) (Or.inl ⟨by rfl, ?_⟩) hHeld ?_ ?_
            rotate_left
            · intro w' s0
              go_simp
              with_reducible rfl
            rotate_left
            · simp only [Act.put, List.setIfInBounds_toArray, List.set_cons_zero, List.set_cons_succ, i64_w, i32_w]
              rfl
            refine one_ (i := 4) (N := some 87) #[true, true, true, true, true, false, true, true, true, true, true, false, false, false] rfl rfl (one_of HT_.out (by kernel_rfl)) (by decide) (fun K hK => ?_)
            refine goes_ Try.func16 (by kernel_rfl) rfl #[.pointer (some ⟨g, 0, none⟩), .int .i64 x.2.2.1, .int .u32 now2] (by rfl) rfl rfl (by simp only [List.map_toArray, List.map_cons, List.map_nil]; rfl) ?_
            with_reducible refine (PX.take HP2.out x.2.2.1 now2 (by have := HTL.out; omega) HN2.out HNI.out).mono ?_
            rintro e w4 ⟨⟨o4, rfl, hr⟩, hP, hO⟩
            refine ⟨_, rfl, ?_⟩
            rw [HT1.out] at hr
            rw [HL2.out] at hP
            obtain ⟨a4, c4, rfl⟩ := Kd.R_slice hr
            have hC4 := (Kd.R_reads' hr).2.2
            rw [HTLN.out] at hr hC4 ⊢
            have HR4 := Aside0.mk hr
            have HC4 := Aside0.mk hC4
            have HP3 := Aside0.mk hP
            have HBX3 := Aside0.mk (blk_only HBX2.out hO (by decide))
            clear hP hO hr hC4 HP2 HBX2
            refine hK.out _ _ (((blk_cell HBX3.out 2).trans rfl)) (fun hHeld => ?_)
            clear hK K
            refine norm_ (a' := ?_) ?_ ?_
            rotate_left
            · show Act.put _ (some 87) _ = _
              simp only [Act.put, List.setIfInBounds_toArray, List.set_cons_zero, List.set_cons_succ, i64_w, i32_w]
              rfl
            refine join_ (σ := Value) 1 #[true, true, true, true, true, true, true, true, true, true, true, true, true, false] (fun s => [(88, .string (strOfNums TT)), (94, s), (95, .string (strOfNums TT))]) (fun s w' => PX w w' g g2 rm L2 (bytes L2) (ats L2) cut cut ∧ w'.cell? ⟨wr.heap.size, 2, none⟩ = some (.int .i64 x.2.2.1)) ?_ ?_
            rotate_left
            · intro hCont
              refine two_ (i := 5) (j := 11) (Ni := some 88) (Nj := some 94) #[true, true, true, true, true, true, true, true, true, true, true, false, false, false] #[true, true, true, true, true, false, true, true, true, true, true, true, false, false] rfl rfl rfl rfl (two_of HT_.out (by kernel_rfl)) (by decide) (by decide) (fun K hK => ?_) (fun K hK => ?_)
              · skip
                have cv4 := Kd.C_string (c := c4) Try.underlying26 Try.underlying5 Try.underlying9 HC4.out
                refine value_ (w1 := ?_) (v := ?_) (by rfl) rfl ?_ ?_
                rotate_left 2
                · go_simp
                  constructor
                  · rfl
                  · rfl
                clear cv4
                refine hK.out _ _ (((blk_cell HBX3.out 2).trans rfl)) (fun hHeld => ?_)
                clear hK K
                refine norm_ (a' := ?_) ?_ ?_
                rotate_left
                · show Act.put _ (some 88) _ = _
                  simp only [Act.put, List.setIfInBounds_toArray, List.set_cons_zero, List.set_cons_succ, i64_w, i32_w]
                  rfl
                refine one_ (i := 11) (N := some 94) #[true, true, true, true, true, true, true, true, true, true, true, true, false, false] rfl rfl (one_of HT_.out (by kernel_rfl)) (by decide) (fun K hK => ?_)
                refine goes_ Try.func19 (by kernel_rfl) rfl #[.pointer (some ⟨g2, 0, none⟩), .int .i64 x.2.2.1, .int .i64 now2] (by rfl) rfl rfl (by simp only [List.map_toArray, List.map_cons, List.map_nil]; rfl) ?_
                with_reducible refine (PX.rtake HP3.out x.2.2.1 now2 (by rw [ats_len]; have h1 := HTL.out; unfold total at h1; omega) (ats_len L) k HK.out).mono ?_
                rintro e w5 ⟨⟨a5, c5, rfl, hC5⟩, hP, hO⟩
                refine ⟨_, rfl, ?_⟩
                rw [HTT.out] at hC5
                rw [← HEB.out, ← HEA.out] at hP
                obtain ⟨cg, hcg⟩ := HP3.out.box2
                have HC5 := Aside0.mk hC5
                have HP5 := Aside0.mk hP
                have HC45 := Aside0.mk (Kd.R_reads' (R_only2 HR4.out hO hcg (by decide))).2.2
                have HBX5 := Aside0.mk (blk_only2 HBX3.out hO hcg (by decide))
                rw [HTLN.out] at HC45
                clear hP hO hC5 hcg
                refine hK.out _ _ (((blk_cell HBX5.out 2).trans rfl)) (fun hHeld => ?_)
                clear hK K
                refine norm_ (a' := ?_) ?_ ?_
                rotate_left
                · show Act.put _ (some 94) _ = _
                  simp only [Act.put, List.setIfInBounds_toArray, List.set_cons_zero, List.set_cons_succ, i64_w, i32_w]
                  rfl
                refine one_ (i := 12) (N := some 95) #[true, true, true, true, true, true, true, true, true, true, true, true, true, false] rfl rfl (one_of HT_.out (by kernel_rfl)) (by decide) (fun K hK => ?_)
                have cv5 := Kd.C_string (c := c5) Try.underlying26 Try.underlying5 Try.underlying9 HC5.out
                refine value_ (w1 := ?_) (v := ?_) (by rfl) rfl ?_ ?_
                rotate_left 2
                · go_simp
                  constructor
                  · rfl
                  · rfl
                clear cv5
                refine hK.out _ _ (((blk_cell HBX5.out 2).trans rfl)) (fun hHeld => ?_)
                clear hK K
                refine norm_ (a' := ?_) ?_ ?_
                rotate_left
                · show Act.put _ (some 95) _ = _
                  simp only [Act.put, List.setIfInBounds_toArray, List.set_cons_zero, List.set_cons_succ, i64_w, i32_w]
                  rfl
                exact norm_ (by simp only [Go.Proofs.YtjbakaplcjkniaaW.PrintLast.putAll, Act.put, List.setIfInBounds_toArray, List.set_cons_zero, List.set_cons_succ]) (hCont (.slice a5 k c5) _ ⟨HP5.out, ((blk_cell HBX5.out 2).trans rfl)⟩)
              · skip
                refine goes_ Try.func19 (by kernel_rfl) rfl #[.pointer (some ⟨g2, 0, none⟩), .int .i64 x.2.2.1, .int .i64 now2] (by rfl) rfl rfl (by simp only [List.map_toArray, List.map_cons, List.map_nil]; rfl) ?_
                with_reducible refine (PX.rtake HP3.out x.2.2.1 now2 (by rw [ats_len]; have h1 := HTL.out; unfold total at h1; omega) (ats_len L) k HK.out).mono ?_
                rintro e w5 ⟨⟨a5, c5, rfl, hC5⟩, hP, hO⟩
                refine ⟨_, rfl, ?_⟩
                rw [HTT.out] at hC5
                rw [← HEB.out, ← HEA.out] at hP
                obtain ⟨cg, hcg⟩ := HP3.out.box2
                have HC5 := Aside0.mk hC5
                have HP5 := Aside0.mk hP
                have HC45 := Aside0.mk (Kd.R_reads' (R_only2 HR4.out hO hcg (by decide))).2.2
                have HBX5 := Aside0.mk (blk_only2 HBX3.out hO hcg (by decide))
                rw [HTLN.out] at HC45
                clear hP hO hC5 hcg
                refine hK.out _ _ (((blk_cell HBX5.out 2).trans rfl)) (fun hHeld => ?_)
                clear hK K
                refine norm_ (a' := ?_) ?_ ?_
                rotate_left
                · show Act.put _ (some 94) _ = _
                  simp only [Act.put, List.setIfInBounds_toArray, List.set_cons_zero, List.set_cons_succ, i64_w, i32_w]
                  rfl
                refine two_ (i := 5) (j := 12) (Ni := some 88) (Nj := some 95) #[true, true, true, true, true, true, true, true, true, true, true, true, false, false] #[true, true, true, true, true, false, true, true, true, true, true, true, true, false] rfl rfl rfl rfl (two_of HT_.out (by kernel_rfl)) (by decide) (by decide) (fun K hK => ?_) (fun K hK => ?_)
                · skip
                  have cv4 := Kd.C_string (c := c4) Try.underlying26 Try.underlying5 Try.underlying9 HC45.out
                  refine value_ (w1 := ?_) (v := ?_) (by rfl) rfl ?_ ?_
                  rotate_left 2
                  · go_simp
                    constructor
                    · rfl
                    · rfl
                  clear cv4
                  refine hK.out _ _ (((blk_cell HBX5.out 2).trans rfl)) (fun hHeld => ?_)
                  clear hK K
                  refine norm_ (a' := ?_) ?_ ?_
                  rotate_left
                  · show Act.put _ (some 88) _ = _
                    simp only [Act.put, List.setIfInBounds_toArray, List.set_cons_zero, List.set_cons_succ, i64_w, i32_w]
                    rfl
                  refine one_ (i := 12) (N := some 95) #[true, true, true, true, true, true, true, true, true, true, true, true, true, false] rfl rfl (one_of HT_.out (by kernel_rfl)) (by decide) (fun K hK => ?_)
                  have cv5 := Kd.C_string (c := c5) Try.underlying26 Try.underlying5 Try.underlying9 HC5.out
                  refine value_ (w1 := ?_) (v := ?_) (by rfl) rfl ?_ ?_
                  rotate_left 2
                  · go_simp
                    constructor
                    · rfl
                    · rfl
                  clear cv5
                  refine hK.out _ _ (((blk_cell HBX5.out 2).trans rfl)) (fun hHeld => ?_)
                  clear hK K
                  refine norm_ (a' := ?_) ?_ ?_
                  rotate_left
                  · show Act.put _ (some 95) _ = _
                    simp only [Act.put, List.setIfInBounds_toArray, List.set_cons_zero, List.set_cons_succ, i64_w, i32_w]
                    rfl
                  exact norm_ (by simp only [Go.Proofs.YtjbakaplcjkniaaW.PrintLast.putAll, Act.put, List.setIfInBounds_toArray, List.set_cons_zero, List.set_cons_succ]) (hCont (.slice a5 k c5) _ ⟨HP5.out, ((blk_cell HBX5.out 2).trans rfl)⟩)
                · skip
                  have cv5 := Kd.C_string (c := c5) Try.underlying26 Try.underlying5 Try.underlying9 HC5.out
                  refine value_ (w1 := ?_) (v := ?_) (by rfl) rfl ?_ ?_
                  rotate_left 2
                  · go_simp
                    constructor
                    · rfl
                    · rfl
                  clear cv5
                  refine hK.out _ _ (((blk_cell HBX5.out 2).trans rfl)) (fun hHeld => ?_)
                  clear hK K
                  refine norm_ (a' := ?_) ?_ ?_
                  rotate_left
                  · show Act.put _ (some 95) _ = _
                    simp only [Act.put, List.setIfInBounds_toArray, List.set_cons_zero, List.set_cons_succ, i64_w, i32_w]
                    rfl
                  refine one_ (i := 5) (N := some 88) #[true, true, true, true, true, true, true, true, true, true, true, true, true, false] rfl rfl (one_of HT_.out (by kernel_rfl)) (by decide) (fun K hK => ?_)
                  have cv4 := Kd.C_string (c := c4) Try.underlying26 Try.underlying5 Try.underlying9 HC45.out
                  refine value_ (w1 := ?_) (v := ?_) (by rfl) rfl ?_ ?_
                  rotate_left 2
                  · go_simp
                    constructor
                    · rfl
                    · rfl
                  clear cv4
                  refine hK.out _ _ (((blk_cell HBX5.out 2).trans rfl)) (fun hHeld => ?_)
                  clear hK K
                  refine norm_ (a' := ?_) ?_ ?_
                  rotate_left
                  · show Act.put _ (some 88) _ = _
                    simp only [Act.put, List.setIfInBounds_toArray, List.set_cons_zero, List.set_cons_succ, i64_w, i32_w]
                    rfl
                  exact norm_ (by simp only [Go.Proofs.YtjbakaplcjkniaaW.PrintLast.putAll, Act.put, List.setIfInBounds_toArray, List.set_cons_zero, List.set_cons_succ]) (hCont (.slice a5 k c5) _ ⟨HP5.out, ((blk_cell HBX5.out 2).trans rfl)⟩)
            rintro s5 w5 ⟨hP, hHeld⟩
            have HPZ := Aside0.mk hP
            clear hP HP3 HBX3
            refine norm_ (a' := ?_) ?_ ?_
            rotate_left
            · simp only [Go.Proofs.YtjbakaplcjkniaaW.PrintLast.putAll, Act.put, List.setIfInBounds_toArray, List.set_cons_zero, List.set_cons_succ]
              rfl
            refine pure_ (i := 13) (N := some 96) (v := ?_) (a' := ?_) #[true, true, true, true, true, true, true, true, true, true, true, true, true, true] rfl rfl (any_of HT_.out (by kernel_rfl)) (fun _ _ _ h => h) (Or.inl ⟨by rfl, ?_⟩) ?_ ?_
            rotate_left
            · intro w'
              go_simp
              with_reducible rfl
            rotate_left
            · simp only [Act.put, List.setIfInBounds_toArray, List.set_cons_zero, List.set_cons_succ, i64_w, i32_w]
              rfl
            refine done_ (done_of HT_.out (by kernel_rfl)) ?_
            go_wp2
            have HQ := Aside0.mk (HPZ.out.below (below_drew (Below.refl _ _)))
            obtain ⟨ab, cb, yb⟩ := HQ.out.b
            clear HPZ
            refine start_ (n := 18) (S := fun w' => w'.cell? ⟨g2, 1, none⟩ = some (.slice ab (bytes L2).length cb)) (ds := []) #[false, false, false, false, false, false, false, false, false, false, false, false, false, false, false, false, false, false] (by kernel_rfl) rfl rfl (yb) (fun hHeld => ?_)
            refine with_tabW plays.tab27 plays.bits27 (fun HT_ HW_ => ?_)
            generalize w5.drew = we at HQ yb hHeld ⊢
            refine pure_ (i := 0) (N := some 97) (v := ?_) (a' := ?_) #[true, false, false, false, false, false, false, false, false, false, false, false, false, false, false, false, false, false] rfl rfl (any_of HT_.out (by kernel_rfl)) (fun _ _ _ h => h) (Or.inl ⟨by rfl, ?_⟩) ?_ ?_
            rotate_left
            · intro w'
              go_simp
              with_reducible rfl
            rotate_left
            · simp only [Act.put, List.setIfInBounds_toArray, List.set_cons_zero, List.set_cons_succ, i64_w, i32_w]
              rfl
            refine pure_ (i := 2) (N := some 99) (v := ?_) (a' := ?_) #[true, false, true, false, false, false, false, false, false, false, false, false, false, false, false, false, false, false] rfl rfl (any_of HT_.out (by kernel_rfl)) (fun _ _ _ h => h) (Or.inl ⟨by rfl, ?_⟩) ?_ ?_
            rotate_left
            · intro w'
              go_simp
              with_reducible rfl
            rotate_left
            · simp only [Act.put, List.setIfInBounds_toArray, List.set_cons_zero, List.set_cons_succ, i64_w, i32_w]
              rfl
            refine pure_ (i := 3) (N := some 100) (v := ?_) (a' := ?_) #[true, false, true, true, false, false, false, false, false, false, false, false, false, false, false, false, false, false] rfl rfl (any_of HT_.out (by kernel_rfl)) (fun _ _ _ h => h) (Or.inl ⟨by rfl, ?_⟩) ?_ ?_
            rotate_left
            · intro w'
              go_simp
              with_reducible rfl
            rotate_left
            · simp only [Act.put, List.setIfInBounds_toArray, List.set_cons_zero, List.set_cons_succ, i64_w, i32_w]
              rfl
            refine pure_ (i := 4) (N := some 101) (v := ?_) (a' := ?_) #[true, false, true, true, true, false, false, false, false, false, false, false, false, false, false, false, false, false] rfl rfl (any_of HT_.out (by kernel_rfl)) (fun _ _ _ h => h) (Or.inl ⟨by rfl, ?_⟩) ?_ ?_
            rotate_left
            · intro w'
              go_simp
              with_reducible rfl
            rotate_left
            · simp only [Act.put, List.setIfInBounds_toArray, List.set_cons_zero, List.set_cons_succ, i64_w, i32_w]
              rfl
            refine take_ (i := 5) (N := some 102) (v := ?_) (a' := ?_) #[true, false, true, true, true, true, false, false, false, false, false, false, false, false, false, false, false, false] rfl rfl (take_ofW HT_.out HW_.out (by kernel_rfl)) (fun _ _ _ h => h) (Or.inl ⟨by rfl, ?_⟩) hHeld ?_ ?_
            rotate_left
            · intro w' s0
              go_simp
              with_reducible rfl
            rotate_left
            · simp only [Act.put, List.setIfInBounds_toArray, List.set_cons_zero, List.set_cons_succ, i64_w, i32_w]
              rfl
            refine pure_ (i := 6) (N := some 103) (v := ?_) (a' := ?_) #[true, false, true, true, true, true, true, false, false, false, false, false, false, false, false, false, false, false] rfl rfl (any_of HT_.out (by kernel_rfl)) (fun _ _ _ h => h) (Or.inl ⟨by rfl, ?_⟩) ?_ ?_
            rotate_left
            · intro w'
              go_simp
              with_reducible rfl
            rotate_left
            · simp only [Act.put, List.setIfInBounds_toArray, List.set_cons_zero, List.set_cons_succ, i64_w, i32_w]
              rfl
            refine one_ (i := 1) (N := some 98) #[true, true, true, true, true, true, true, false, false, false, false, false, false, false, false, false, false, false] rfl rfl (one_of HT_.out (by kernel_rfl)) (by decide) (fun K hK => ?_)
            refine goes_ Try.func17 (by kernel_rfl) rfl #[.pointer (some ⟨g, 0, none⟩)] (by rfl) rfl rfl (by simp only [List.map_toArray, List.map_cons, List.map_nil]; rfl) ?_
            with_reducible refine (PX.len HQ.out (by have := HTZ.out; have := HI80.out; omega)).mono ?_
            rintro e w6 ⟨rfl, hP, hb⟩
            refine ⟨_, rfl, ?_⟩
            rw [show total L2 = (bytes L2).length from rfl]
            clear HQ
            have HQ := Aside0.mk hP
            replace yb := pw_cell_below hb yb
            clear hP hb
            refine hK.out _ _ (yb) (fun hHeld => ?_)
            clear hK K
            refine norm_ (a' := ?_) ?_ ?_
            rotate_left
            · show Act.put _ (some 98) _ = _
              simp only [Act.put, List.setIfInBounds_toArray, List.set_cons_zero, List.set_cons_succ, i64_w, i32_w]
              rfl
            refine pure_ (i := 7) (N := some 104) (v := ?_) (a' := ?_) #[true, true, true, true, true, true, true, true, false, false, false, false, false, false, false, false, false, false] rfl rfl (any_of HT_.out (by kernel_rfl)) (fun _ _ _ h => h) (Or.inl ⟨by rfl, ?_⟩) ?_ ?_
            rotate_left
            · intro w'
              go_simp
              with_reducible rfl
            rotate_left
            · simp only [Act.put, List.setIfInBounds_toArray, List.set_cons_zero, List.set_cons_succ, i64_w, i32_w]
              rfl
            refine pure_ (i := 8) (N := some 105) (v := ?_) (a' := ?_) #[true, true, true, true, true, true, true, true, true, false, false, false, false, false, false, false, false, false] rfl rfl (any_of HT_.out (by kernel_rfl)) (fun _ _ _ h => h) (Or.inl ⟨by rfl, ?_⟩) ?_ ?_
            rotate_left
            · intro w'
              go_simp
              with_reducible rfl
            rotate_left
            · simp only [Act.put, List.setIfInBounds_toArray, List.set_cons_zero, List.set_cons_succ, i64_w, i32_w]
              rfl
            refine pure_ (i := 9) (N := some 106) (v := ?_) (a' := ?_) #[true, true, true, true, true, true, true, true, true, true, false, false, false, false, false, false, false, false] rfl rfl (any_of HT_.out (by kernel_rfl)) (fun _ _ _ h => h) (Or.inl ⟨by rfl, ?_⟩) ?_ ?_
            rotate_left
            · intro w'
              go_simp
              with_reducible rfl
            rotate_left
            · simp only [Act.put, List.setIfInBounds_toArray, List.set_cons_zero, List.set_cons_succ, i64_w, i32_w]
              rfl
            refine pure_ (i := 10) (N := some 107) (v := ?_) (a' := ?_) #[true, true, true, true, true, true, true, true, true, true, true, false, false, false, false, false, false, false] rfl rfl (any_of HT_.out (by kernel_rfl)) (fun _ _ _ h => h) (Or.inl ⟨by rfl, ?_⟩) ?_ ?_
            rotate_left
            · intro w'
              go_simp
              with_reducible rfl
            rotate_left
            · simp only [Act.put, List.setIfInBounds_toArray, List.set_cons_zero, List.set_cons_succ, i64_w, i32_w]
              rfl
            refine pure_ (i := 12) (N := some 109) (v := ?_) (a' := ?_) #[true, true, true, true, true, true, true, true, true, true, true, false, true, false, false, false, false, false] rfl rfl (any_of HT_.out (by kernel_rfl)) (fun _ _ _ h => h) (Or.inl ⟨by rfl, ?_⟩) ?_ ?_
            rotate_left
            · intro w'
              go_simp
              with_reducible rfl
            rotate_left
            · simp only [Act.put, List.setIfInBounds_toArray, List.set_cons_zero, List.set_cons_succ, i64_w, i32_w]
              rfl
            refine pure_ (i := 13) (N := some 110) (v := ?_) (a' := ?_) #[true, true, true, true, true, true, true, true, true, true, true, false, true, true, false, false, false, false] rfl rfl (any_of HT_.out (by kernel_rfl)) (fun _ _ _ h => h) (Or.inl ⟨by rfl, ?_⟩) ?_ ?_
            rotate_left
            · intro w'
              go_simp
              with_reducible rfl
            rotate_left
            · simp only [Act.put, List.setIfInBounds_toArray, List.set_cons_zero, List.set_cons_succ, i64_w, i32_w]
              rfl
            refine pure_ (i := 14) (N := some 111) (v := ?_) (a' := ?_) #[true, true, true, true, true, true, true, true, true, true, true, false, true, true, true, false, false, false] rfl rfl (any_of HT_.out (by kernel_rfl)) (fun _ _ _ h => h) (Or.inl ⟨by rfl, ?_⟩) ?_ ?_
            rotate_left
            · intro w'
              go_simp
              with_reducible rfl
            rotate_left
            · simp only [Act.put, List.setIfInBounds_toArray, List.set_cons_zero, List.set_cons_succ, i64_w, i32_w]
              rfl
            refine one_ (i := 11) (N := some 108) #[true, true, true, true, true, true, true, true, true, true, true, true, true, true, true, false, false, false] rfl rfl (one_of HT_.out (by kernel_rfl)) (by decide) (fun K hK => ?_)
            refine goes_ Try.func21 (by kernel_rfl) rfl #[.pointer (some ⟨g, 0, none⟩), .int .u32 now2] (by rfl) rfl rfl (by simp only [List.map_toArray, List.map_cons, List.map_nil]; rfl) ?_
            with_reducible refine (PX.due HQ.out (by have := HTZ.out; have := HI80.out; omega) now2 HN2.out).mono ?_
            rintro e w7 ⟨rfl, hP, hb⟩
            refine ⟨_, rfl, ?_⟩
            rw [due_same HRZ.out]
            clear HQ
            have HQ := Aside0.mk hP
            replace yb := pw_cell_below hb yb
            clear hP hb
            refine hK.out _ _ (yb) (fun hHeld => ?_)
            clear hK K
            refine norm_ (a' := ?_) ?_ ?_
            rotate_left
            · show Act.put _ (some 108) _ = _
              simp only [Act.put, List.setIfInBounds_toArray, List.set_cons_zero, List.set_cons_succ, i64_w, i32_w]
              rfl
            refine one_ (i := 15) (N := some 112) #[true, true, true, true, true, true, true, true, true, true, true, true, true, true, true, true, false, false] rfl rfl (one_of HT_.out (by kernel_rfl)) (by decide) (fun K hK => ?_)
            refine goes_ Try.func22 (by kernel_rfl) rfl #[.pointer (some ⟨g2, 0, none⟩), .int .i64 now2] (by rfl) rfl rfl (by simp only [List.map_toArray, List.map_cons, List.map_nil]; rfl) ?_
            with_reducible refine (PX.rdue HQ.out (by rw [ats_len]; have := HTZ.out; have := HI80.out; unfold total at this; unfold total at *; omega) now2).mono ?_
            rintro e w8 ⟨rfl, hP, hb⟩
            refine ⟨_, rfl, ?_⟩
            clear HQ
            have HQ := Aside0.mk hP
            replace yb := pw_cell_below hb yb
            clear hP hb
            refine hK.out _ _ (yb) (fun hHeld => ?_)
            clear hK K
            refine norm_ (a' := ?_) ?_ ?_
            rotate_left
            · show Act.put _ (some 112) _ = _
              simp only [Act.put, List.setIfInBounds_toArray, List.set_cons_zero, List.set_cons_succ, i64_w, i32_w]
              rfl
            refine pure_ (i := 16) (N := some 113) (v := ?_) (a' := ?_) #[true, true, true, true, true, true, true, true, true, true, true, true, true, true, true, true, true, false] rfl rfl (any_of HT_.out (by kernel_rfl)) (fun _ _ _ h => h) (Or.inl ⟨by rfl, ?_⟩) ?_ ?_
            rotate_left
            · intro w'
              go_simp
              with_reducible rfl
            rotate_left
            · simp only [Act.put, List.setIfInBounds_toArray, List.set_cons_zero, List.set_cons_succ, i64_w, i32_w]
              rfl
            refine pure_ (i := 17) (N := some 114) (v := ?_) (a' := ?_) #[true, true, true, true, true, true, true, true, true, true, true, true, true, true, true, true, true, true] rfl rfl (any_of HT_.out (by kernel_rfl)) (fun _ _ _ h => h) (Or.inl ⟨by rfl, ?_⟩) ?_ ?_
            rotate_left
            · intro w'
              go_simp
              with_reducible rfl
            rotate_left
            · simp only [Act.put, List.setIfInBounds_toArray, List.set_cons_zero, List.set_cons_succ, i64_w, i32_w]
              rfl
            refine done_ (done_of HT_.out (by kernel_rfl)) ?_
            go_wp2
            obtain ⟨gk, rfl⟩ : ∃ m, gk = m + 1 := ⟨gk - 1, by have := HI.out; have := HI80.out; omega⟩
            go_roundg gk
            case measure => omega
            case rel => exact ⟨i + 1, L2, now2, _, congrArg (Value.int .i64) hin, congrArg (Value.int .u32) hn2, ⟨by have := HI.out; have := HI80.out; have := HIL.out; omega⟩, HQ, ⟨HRZ.out, HTZ.out, HN2.out.1, HN2.out.2⟩⟩
          · obtain ⟨k, hk, ht1, htl, ht2, ht3⟩ := take_all now2 L x.2.2.1.toNat HFL.out
            obtain ⟨L2, hL2⟩ : ∃ z, (takeP now2 x.2.2.1.toNat L).2 = z := ⟨_, rfl⟩
            obtain ⟨TT, hTT⟩ : ∃ z, (bytes L).take k = z := ⟨_, rfl⟩
            rw [hTT] at ht1 htl
            rw [hL2] at ht2 ht3
            have HRZ := Aside0.mk (show Rising (ats L2) by rw [← hL2]; exact take_rising HFL.out HR.out.1)
            have HTZ := Aside0.mk (show total L2 ≤ 2000 * (i + 1) by rw [← hL2]; have := take_total now2 L x.2.2.1.toNat HFL.out; have := HR.out.2.1; omega)
            have HK := Aside0.mk hk
            have HT1 := Aside0.mk ht1
            have HTLN := Aside0.mk htl
            have HEB := Aside0.mk ht2
            have HEA := Aside0.mk ht3
            have HTT := Aside0.mk hTT
            have HL2 := Aside0.mk hL2
            have HNI := Aside0.mk (wf_i64 HXO.out.2.2.1)
            clear hk ht1 htl ht2 ht3 hTT hL2
            go_wp2
            generalize hwb : wr.alloc (.cells #[.int .u8 x.1, .slice X x.2.1.length cx, .int .i64 x.2.2.1, .int .u32 x.2.2.2.1, .int .u32 x.2.2.2.2] 29) = wb at HP1 HBX ⊢
            have HP2 := Aside0.mk (HP1.out.below (below_drew (Below.refl _ _)))
            have HBX2 := Aside0.mk (blk_below HBX.out (below_drew (Below.refl _ _)))
            clear y0 y1 y2 y3 y4 hwb HP1 HBX
            refine start_ (n := 14) (S := fun w' => w'.cell? ⟨wr.heap.size, 2, none⟩ = some (.int .i64 x.2.2.1)) (ds := []) #[false, false, false, false, false, false, false, false, false, false, false, false, false, false] (by kernel_rfl) rfl rfl (((blk_cell HBX2.out 2).trans rfl)) (fun hHeld => ?_)
            refine with_tabW plays.tab25 plays.bits25 (fun HT_ HW_ => ?_)
            generalize wb.drew = wd at HP2 HBX2 hHeld ⊢
            refine pure_ (i := 0) (N := some 83) (v := ?_) (a' := ?_) #[true, false, false, false, false, false, false, false, false, false, false, false, false, false] rfl rfl (any_of HT_.out (by kernel_rfl)) (fun _ _ _ h => h) (Or.inl ⟨by rfl, ?_⟩) ?_ ?_
            rotate_left
            · intro w'
              go_simp
              with_reducible rfl
            rotate_left
            · simp only [Act.put, List.setIfInBounds_toArray, List.set_cons_zero, List.set_cons_succ, i64_w, i32_w]
              rfl
            refine pure_ (i := 1) (N := some 84) (v := ?_) (a' := ?_) #[true, true, false, false, false, false, false, false, false, false, false, false, false, false] rfl rfl (any_of HT_.out (by kernel_rfl)) (fun _ _ _ h => h) (Or.inl ⟨by rfl, ?_⟩) ?_ ?_
            rotate_left
            · intro w'
              go_simp
              with_reducible rfl
            rotate_left
            · simp only [Act.put, List.setIfInBounds_toArray, List.set_cons_zero, List.set_cons_succ, i64_w, i32_w]
              rfl
            refine pure_ (i := 3) (N := some 86) (v := ?_) (a' := ?_) #[true, true, false, true, false, false, false, false, false, false, false, false, false, false] rfl rfl (any_of HT_.out (by kernel_rfl)) (fun _ _ _ h => h) (Or.inl ⟨by rfl, ?_⟩) ?_ ?_
            rotate_left
            · intro w'
              go_simp
              with_reducible rfl
            rotate_left
            · simp only [Act.put, List.setIfInBounds_toArray, List.set_cons_zero, List.set_cons_succ, i64_w, i32_w]
              rfl
            refine pure_ (i := 6) (N := some 89) (v := ?_) (a' := ?_) #[true, true, false, true, false, false, true, false, false, false, false, false, false, false] rfl rfl (any_of HT_.out (by kernel_rfl)) (fun _ _ _ h => h) (Or.inl ⟨by rfl, ?_⟩) ?_ ?_
            rotate_left
            · intro w'
              go_simp
              with_reducible rfl
            rotate_left
            · simp only [Act.put, List.setIfInBounds_toArray, List.set_cons_zero, List.set_cons_succ, i64_w, i32_w]
              rfl
            refine pure_ (i := 7) (N := some 90) (v := ?_) (a' := ?_) #[true, true, false, true, false, false, true, true, false, false, false, false, false, false] rfl rfl (any_of HT_.out (by kernel_rfl)) (fun _ _ _ h => h) (Or.inl ⟨by rfl, ?_⟩) ?_ ?_
            rotate_left
            · intro w'
              go_simp
              with_reducible rfl
            rotate_left
            · simp only [Act.put, List.setIfInBounds_toArray, List.set_cons_zero, List.set_cons_succ, i64_w, i32_w]
              rfl
            refine pure_ (i := 9) (N := some 92) (v := ?_) (a' := ?_) #[true, true, false, true, false, false, true, true, false, true, false, false, false, false] rfl rfl (any_of HT_.out (by kernel_rfl)) (fun _ _ _ h => h) (Or.inl ⟨by rfl, ?_⟩) ?_ ?_
            rotate_left
            · intro w'
              go_simp
              with_reducible rfl
            rotate_left
            · simp only [Act.put, List.setIfInBounds_toArray, List.set_cons_zero, List.set_cons_succ, i64_w, i32_w]
              rfl
            refine pure_ (i := 10) (N := some 93) (v := ?_) (a' := ?_) #[true, true, false, true, false, false, true, true, false, true, true, false, false, false] rfl rfl (any_of HT_.out (by kernel_rfl)) (fun _ _ _ h => h) (Or.inl ⟨by rfl, ?_⟩) ?_ ?_
            rotate_left
            · intro w'
              go_simp
              with_reducible rfl
            rotate_left
            · simp only [Act.put, List.setIfInBounds_toArray, List.set_cons_zero, List.set_cons_succ, i64_w, i32_w]
              rfl
            refine take_ (i := 2) (N := some 85) (v := ?_) (a' := ?_) #[true, true, true, true, false, false, true, true, false, true, true, false, false, false] rfl rfl (take_ofW HT_.out HW_.out (by kernel_rfl)) (fun _ _ _ h => h) (Or.inl ⟨by rfl, ?_⟩) hHeld ?_ ?_
            rotate_left
            · intro w' s0
              go_simp
              with_reducible rfl
            rotate_left
            · simp only [Act.put, List.setIfInBounds_toArray, List.set_cons_zero, List.set_cons_succ, i64_w, i32_w]
              rfl
            refine take_ (i := 8) (N := some 91) (v := ?_) (a' := ?_) #[true, true, true, true, false, false, true, true, true, true, true, false, false, false] rfl rfl (take_ofW HT_.out HW_.out (by kernel_rfl)) (fun _ _ _ h => h) (Or.inl ⟨by rfl, ?_⟩) hHeld ?_ ?_
            rotate_left
            · intro w' s0
              go_simp
              with_reducible rfl
            rotate_left
            · simp only [Act.put, List.setIfInBounds_toArray, List.set_cons_zero, List.set_cons_succ, i64_w, i32_w]
              rfl
            refine one_ (i := 4) (N := some 87) #[true, true, true, true, true, false, true, true, true, true, true, false, false, false] rfl rfl (one_of HT_.out (by kernel_rfl)) (by decide) (fun K hK => ?_)
            refine goes_ Try.func16 (by kernel_rfl) rfl #[.pointer (some ⟨g, 0, none⟩), .int .i64 x.2.2.1, .int .u32 now2] (by rfl) rfl rfl (by simp only [List.map_toArray, List.map_cons, List.map_nil]; rfl) ?_
            with_reducible refine (PX.take HP2.out x.2.2.1 now2 (by have := HTL.out; omega) HN2.out HNI.out).mono ?_
            rintro e w4 ⟨⟨o4, rfl, hr⟩, hP, hO⟩
            refine ⟨_, rfl, ?_⟩
            rw [HT1.out] at hr
            rw [HL2.out] at hP
            obtain ⟨a4, c4, rfl⟩ := Kd.R_slice hr
            have hC4 := (Kd.R_reads' hr).2.2
            rw [HTLN.out] at hr hC4 ⊢
            have HR4 := Aside0.mk hr
            have HC4 := Aside0.mk hC4
            have HP3 := Aside0.mk hP
            have HBX3 := Aside0.mk (blk_only HBX2.out hO (by decide))
            clear hP hO hr hC4 HP2 HBX2
            refine hK.out _ _ (((blk_cell HBX3.out 2).trans rfl)) (fun hHeld => ?_)
            clear hK K
            refine norm_ (a' := ?_) ?_ ?_
            rotate_left
            · show Act.put _ (some 87) _ = _
              simp only [Act.put, List.setIfInBounds_toArray, List.set_cons_zero, List.set_cons_succ, i64_w, i32_w]
              rfl
            refine join_ (σ := Value) 1 #[true, true, true, true, true, true, true, true, true, true, true, true, true, false] (fun s => [(88, .string (strOfNums TT)), (94, s), (95, .string (strOfNums TT))]) (fun s w' => PX w w' g g2 rm L2 (bytes L2) (ats L2) cut cut ∧ w'.cell? ⟨wr.heap.size, 2, none⟩ = some (.int .i64 x.2.2.1)) ?_ ?_
            rotate_left
            · intro hCont
              refine two_ (i := 5) (j := 11) (Ni := some 88) (Nj := some 94) #[true, true, true, true, true, true, true, true, true, true, true, false, false, false] #[true, true, true, true, true, false, true, true, true, true, true, true, false, false] rfl rfl rfl rfl (two_of HT_.out (by kernel_rfl)) (by decide) (by decide) (fun K hK => ?_) (fun K hK => ?_)
              · skip
                have cv4 := Kd.C_string (c := c4) Try.underlying26 Try.underlying5 Try.underlying9 HC4.out
                refine value_ (w1 := ?_) (v := ?_) (by rfl) rfl ?_ ?_
                rotate_left 2
                · go_simp
                  constructor
                  · rfl
                  · rfl
                clear cv4
                refine hK.out _ _ (((blk_cell HBX3.out 2).trans rfl)) (fun hHeld => ?_)
                clear hK K
                refine norm_ (a' := ?_) ?_ ?_
                rotate_left
                · show Act.put _ (some 88) _ = _
                  simp only [Act.put, List.setIfInBounds_toArray, List.set_cons_zero, List.set_cons_succ, i64_w, i32_w]
                  rfl
                refine one_ (i := 11) (N := some 94) #[true, true, true, true, true, true, true, true, true, true, true, true, false, false] rfl rfl (one_of HT_.out (by kernel_rfl)) (by decide) (fun K hK => ?_)
                refine goes_ Try.func19 (by kernel_rfl) rfl #[.pointer (some ⟨g2, 0, none⟩), .int .i64 x.2.2.1, .int .i64 now2] (by rfl) rfl rfl (by simp only [List.map_toArray, List.map_cons, List.map_nil]; rfl) ?_
                with_reducible refine (PX.rtake HP3.out x.2.2.1 now2 (by rw [ats_len]; have h1 := HTL.out; unfold total at h1; omega) (ats_len L) k HK.out).mono ?_
                rintro e w5 ⟨⟨a5, c5, rfl, hC5⟩, hP, hO⟩
                refine ⟨_, rfl, ?_⟩
                rw [HTT.out] at hC5
                rw [← HEB.out, ← HEA.out] at hP
                obtain ⟨cg, hcg⟩ := HP3.out.box2
                have HC5 := Aside0.mk hC5
                have HP5 := Aside0.mk hP
                have HC45 := Aside0.mk (Kd.R_reads' (R_only2 HR4.out hO hcg (by decide))).2.2
                have HBX5 := Aside0.mk (blk_only2 HBX3.out hO hcg (by decide))
                rw [HTLN.out] at HC45
                clear hP hO hC5 hcg
                refine hK.out _ _ (((blk_cell HBX5.out 2).trans rfl)) (fun hHeld => ?_)
                clear hK K
                refine norm_ (a' := ?_) ?_ ?_
                rotate_left
                · show Act.put _ (some 94) _ = _
                  simp only [Act.put, List.setIfInBounds_toArray, List.set_cons_zero, List.set_cons_succ, i64_w, i32_w]
                  rfl
                refine one_ (i := 12) (N := some 95) #[true, true, true, true, true, true, true, true, true, true, true, true, true, false] rfl rfl (one_of HT_.out (by kernel_rfl)) (by decide) (fun K hK => ?_)
                have cv5 := Kd.C_string (c := c5) Try.underlying26 Try.underlying5 Try.underlying9 HC5.out
                refine value_ (w1 := ?_) (v := ?_) (by rfl) rfl ?_ ?_
                rotate_left 2
                · go_simp
                  constructor
                  · rfl
                  · rfl
                clear cv5
                refine hK.out _ _ (((blk_cell HBX5.out 2).trans rfl)) (fun hHeld => ?_)
                clear hK K
                refine norm_ (a' := ?_) ?_ ?_
                rotate_left
                · show Act.put _ (some 95) _ = _
                  simp only [Act.put, List.setIfInBounds_toArray, List.set_cons_zero, List.set_cons_succ, i64_w, i32_w]
                  rfl
                exact norm_ (by simp only [Go.Proofs.YtjbakaplcjkniaaW.PrintLast.putAll, Act.put, List.setIfInBounds_toArray, List.set_cons_zero, List.set_cons_succ]) (hCont (.slice a5 k c5) _ ⟨HP5.out, ((blk_cell HBX5.out 2).trans rfl)⟩)
              · skip
                refine goes_ Try.func19 (by kernel_rfl) rfl #[.pointer (some ⟨g2, 0, none⟩), .int .i64 x.2.2.1, .int .i64 now2] (by rfl) rfl rfl (by simp only [List.map_toArray, List.map_cons, List.map_nil]; rfl) ?_
                with_reducible refine (PX.rtake HP3.out x.2.2.1 now2 (by rw [ats_len]; have h1 := HTL.out; unfold total at h1; omega) (ats_len L) k HK.out).mono ?_
                rintro e w5 ⟨⟨a5, c5, rfl, hC5⟩, hP, hO⟩
                refine ⟨_, rfl, ?_⟩
                rw [HTT.out] at hC5
                rw [← HEB.out, ← HEA.out] at hP
                obtain ⟨cg, hcg⟩ := HP3.out.box2
                have HC5 := Aside0.mk hC5
                have HP5 := Aside0.mk hP
                have HC45 := Aside0.mk (Kd.R_reads' (R_only2 HR4.out hO hcg (by decide))).2.2
                have HBX5 := Aside0.mk (blk_only2 HBX3.out hO hcg (by decide))
                rw [HTLN.out] at HC45
                clear hP hO hC5 hcg
                refine hK.out _ _ (((blk_cell HBX5.out 2).trans rfl)) (fun hHeld => ?_)
                clear hK K
                refine norm_ (a' := ?_) ?_ ?_
                rotate_left
                · show Act.put _ (some 94) _ = _
                  simp only [Act.put, List.setIfInBounds_toArray, List.set_cons_zero, List.set_cons_succ, i64_w, i32_w]
                  rfl
                refine two_ (i := 5) (j := 12) (Ni := some 88) (Nj := some 95) #[true, true, true, true, true, true, true, true, true, true, true, true, false, false] #[true, true, true, true, true, false, true, true, true, true, true, true, true, false] rfl rfl rfl rfl (two_of HT_.out (by kernel_rfl)) (by decide) (by decide) (fun K hK => ?_) (fun K hK => ?_)
                · skip
                  have cv4 := Kd.C_string (c := c4) Try.underlying26 Try.underlying5 Try.underlying9 HC45.out
                  refine value_ (w1 := ?_) (v := ?_) (by rfl) rfl ?_ ?_
                  rotate_left 2
                  · go_simp
                    constructor
                    · rfl
                    · rfl
                  clear cv4
                  refine hK.out _ _ (((blk_cell HBX5.out 2).trans rfl)) (fun hHeld => ?_)
                  clear hK K
                  refine norm_ (a' := ?_) ?_ ?_
                  rotate_left
                  · show Act.put _ (some 88) _ = _
                    simp only [Act.put, List.setIfInBounds_toArray, List.set_cons_zero, List.set_cons_succ, i64_w, i32_w]
                    rfl
                  refine one_ (i := 12) (N := some 95) #[true, true, true, true, true, true, true, true, true, true, true, true, true, false] rfl rfl (one_of HT_.out (by kernel_rfl)) (by decide) (fun K hK => ?_)
                  have cv5 := Kd.C_string (c := c5) Try.underlying26 Try.underlying5 Try.underlying9 HC5.out
                  refine value_ (w1 := ?_) (v := ?_) (by rfl) rfl ?_ ?_
                  rotate_left 2
                  · go_simp
                    constructor
                    · rfl
                    · rfl
                  clear cv5
                  refine hK.out _ _ (((blk_cell HBX5.out 2).trans rfl)) (fun hHeld => ?_)
                  clear hK K
                  refine norm_ (a' := ?_) ?_ ?_
                  rotate_left
                  · show Act.put _ (some 95) _ = _
                    simp only [Act.put, List.setIfInBounds_toArray, List.set_cons_zero, List.set_cons_succ, i64_w, i32_w]
                    rfl
                  exact norm_ (by simp only [Go.Proofs.YtjbakaplcjkniaaW.PrintLast.putAll, Act.put, List.setIfInBounds_toArray, List.set_cons_zero, List.set_cons_succ]) (hCont (.slice a5 k c5) _ ⟨HP5.out, ((blk_cell HBX5.out 2).trans rfl)⟩)
                · skip
                  have cv5 := Kd.C_string (c := c5) Try.underlying26 Try.underlying5 Try.underlying9 HC5.out
                  refine value_ (w1 := ?_) (v := ?_) (by rfl) rfl ?_ ?_
                  rotate_left 2
                  · go_simp
                    constructor
                    · rfl
                    · rfl
                  clear cv5
                  refine hK.out _ _ (((blk_cell HBX5.out 2).trans rfl)) (fun hHeld => ?_)
                  clear hK K
                  refine norm_ (a' := ?_) ?_ ?_
                  rotate_left
                  · show Act.put _ (some 95) _ = _
                    simp only [Act.put, List.setIfInBounds_toArray, List.set_cons_zero, List.set_cons_succ, i64_w, i32_w]
                    rfl
                  refine one_ (i := 5) (N := some 88) #[true, true, true, true, true, true, true, true, true, true, true, true, true, false] rfl rfl (one_of HT_.out (by kernel_rfl)) (by decide) (fun K hK => ?_)
                  have cv4 := Kd.C_string (c := c4) Try.underlying26 Try.underlying5 Try.underlying9 HC45.out
                  refine value_ (w1 := ?_) (v := ?_) (by rfl) rfl ?_ ?_
                  rotate_left 2
                  · go_simp
                    constructor
                    · rfl
                    · rfl
                  clear cv4
                  refine hK.out _ _ (((blk_cell HBX5.out 2).trans rfl)) (fun hHeld => ?_)
                  clear hK K
                  refine norm_ (a' := ?_) ?_ ?_
                  rotate_left
                  · show Act.put _ (some 88) _ = _
                    simp only [Act.put, List.setIfInBounds_toArray, List.set_cons_zero, List.set_cons_succ, i64_w, i32_w]
                    rfl
                  exact norm_ (by simp only [Go.Proofs.YtjbakaplcjkniaaW.PrintLast.putAll, Act.put, List.setIfInBounds_toArray, List.set_cons_zero, List.set_cons_succ]) (hCont (.slice a5 k c5) _ ⟨HP5.out, ((blk_cell HBX5.out 2).trans rfl)⟩)
            rintro s5 w5 ⟨hP, hHeld⟩
            have HPZ := Aside0.mk hP
            clear hP HP3 HBX3
            refine norm_ (a' := ?_) ?_ ?_
            rotate_left
            · simp only [Go.Proofs.YtjbakaplcjkniaaW.PrintLast.putAll, Act.put, List.setIfInBounds_toArray, List.set_cons_zero, List.set_cons_succ]
              rfl
            refine pure_ (i := 13) (N := some 96) (v := ?_) (a' := ?_) #[true, true, true, true, true, true, true, true, true, true, true, true, true, true] rfl rfl (any_of HT_.out (by kernel_rfl)) (fun _ _ _ h => h) (Or.inl ⟨by rfl, ?_⟩) ?_ ?_
            rotate_left
            · intro w'
              go_simp
              with_reducible rfl
            rotate_left
            · simp only [Act.put, List.setIfInBounds_toArray, List.set_cons_zero, List.set_cons_succ, i64_w, i32_w]
              rfl
            refine done_ (done_of HT_.out (by kernel_rfl)) ?_
            go_wp2
            have HQ := Aside0.mk (HPZ.out.below (below_drew (Below.refl _ _)))
            obtain ⟨ab, cb, yb⟩ := HQ.out.b
            clear HPZ
            refine start_ (n := 18) (S := fun w' => w'.cell? ⟨g2, 1, none⟩ = some (.slice ab (bytes L2).length cb)) (ds := []) #[false, false, false, false, false, false, false, false, false, false, false, false, false, false, false, false, false, false] (by kernel_rfl) rfl rfl (yb) (fun hHeld => ?_)
            refine with_tabW plays.tab27 plays.bits27 (fun HT_ HW_ => ?_)
            generalize w5.drew = we at HQ yb hHeld ⊢
            refine pure_ (i := 0) (N := some 97) (v := ?_) (a' := ?_) #[true, false, false, false, false, false, false, false, false, false, false, false, false, false, false, false, false, false] rfl rfl (any_of HT_.out (by kernel_rfl)) (fun _ _ _ h => h) (Or.inl ⟨by rfl, ?_⟩) ?_ ?_
            rotate_left
            · intro w'
              go_simp
              with_reducible rfl
            rotate_left
            · simp only [Act.put, List.setIfInBounds_toArray, List.set_cons_zero, List.set_cons_succ, i64_w, i32_w]
              rfl
            refine pure_ (i := 2) (N := some 99) (v := ?_) (a' := ?_) #[true, false, true, false, false, false, false, false, false, false, false, false, false, false, false, false, false, false] rfl rfl (any_of HT_.out (by kernel_rfl)) (fun _ _ _ h => h) (Or.inl ⟨by rfl, ?_⟩) ?_ ?_
            rotate_left
            · intro w'
              go_simp
              with_reducible rfl
            rotate_left
            · simp only [Act.put, List.setIfInBounds_toArray, List.set_cons_zero, List.set_cons_succ, i64_w, i32_w]
              rfl
            refine pure_ (i := 3) (N := some 100) (v := ?_) (a' := ?_) #[true, false, true, true, false, false, false, false, false, false, false, false, false, false, false, false, false, false] rfl rfl (any_of HT_.out (by kernel_rfl)) (fun _ _ _ h => h) (Or.inl ⟨by rfl, ?_⟩) ?_ ?_
            rotate_left
            · intro w'
              go_simp
              with_reducible rfl
            rotate_left
            · simp only [Act.put, List.setIfInBounds_toArray, List.set_cons_zero, List.set_cons_succ, i64_w, i32_w]
              rfl
            refine pure_ (i := 4) (N := some 101) (v := ?_) (a' := ?_) #[true, false, true, true, true, false, false, false, false, false, false, false, false, false, false, false, false, false] rfl rfl (any_of HT_.out (by kernel_rfl)) (fun _ _ _ h => h) (Or.inl ⟨by rfl, ?_⟩) ?_ ?_
            rotate_left
            · intro w'
              go_simp
              with_reducible rfl
            rotate_left
            · simp only [Act.put, List.setIfInBounds_toArray, List.set_cons_zero, List.set_cons_succ, i64_w, i32_w]
              rfl
            refine take_ (i := 5) (N := some 102) (v := ?_) (a' := ?_) #[true, false, true, true, true, true, false, false, false, false, false, false, false, false, false, false, false, false] rfl rfl (take_ofW HT_.out HW_.out (by kernel_rfl)) (fun _ _ _ h => h) (Or.inl ⟨by rfl, ?_⟩) hHeld ?_ ?_
            rotate_left
            · intro w' s0
              go_simp
              with_reducible rfl
            rotate_left
            · simp only [Act.put, List.setIfInBounds_toArray, List.set_cons_zero, List.set_cons_succ, i64_w, i32_w]
              rfl
            refine pure_ (i := 6) (N := some 103) (v := ?_) (a' := ?_) #[true, false, true, true, true, true, true, false, false, false, false, false, false, false, false, false, false, false] rfl rfl (any_of HT_.out (by kernel_rfl)) (fun _ _ _ h => h) (Or.inl ⟨by rfl, ?_⟩) ?_ ?_
            rotate_left
            · intro w'
              go_simp
              with_reducible rfl
            rotate_left
            · simp only [Act.put, List.setIfInBounds_toArray, List.set_cons_zero, List.set_cons_succ, i64_w, i32_w]
              rfl
            refine one_ (i := 1) (N := some 98) #[true, true, true, true, true, true, true, false, false, false, false, false, false, false, false, false, false, false] rfl rfl (one_of HT_.out (by kernel_rfl)) (by decide) (fun K hK => ?_)
            refine goes_ Try.func17 (by kernel_rfl) rfl #[.pointer (some ⟨g, 0, none⟩)] (by rfl) rfl rfl (by simp only [List.map_toArray, List.map_cons, List.map_nil]; rfl) ?_
            with_reducible refine (PX.len HQ.out (by have := HTZ.out; have := HI80.out; omega)).mono ?_
            rintro e w6 ⟨rfl, hP, hb⟩
            refine ⟨_, rfl, ?_⟩
            rw [show total L2 = (bytes L2).length from rfl]
            clear HQ
            have HQ := Aside0.mk hP
            replace yb := pw_cell_below hb yb
            clear hP hb
            refine hK.out _ _ (yb) (fun hHeld => ?_)
            clear hK K
            refine norm_ (a' := ?_) ?_ ?_
            rotate_left
            · show Act.put _ (some 98) _ = _
              simp only [Act.put, List.setIfInBounds_toArray, List.set_cons_zero, List.set_cons_succ, i64_w, i32_w]
              rfl
            refine pure_ (i := 7) (N := some 104) (v := ?_) (a' := ?_) #[true, true, true, true, true, true, true, true, false, false, false, false, false, false, false, false, false, false] rfl rfl (any_of HT_.out (by kernel_rfl)) (fun _ _ _ h => h) (Or.inl ⟨by rfl, ?_⟩) ?_ ?_
            rotate_left
            · intro w'
              go_simp
              with_reducible rfl
            rotate_left
            · simp only [Act.put, List.setIfInBounds_toArray, List.set_cons_zero, List.set_cons_succ, i64_w, i32_w]
              rfl
            refine pure_ (i := 8) (N := some 105) (v := ?_) (a' := ?_) #[true, true, true, true, true, true, true, true, true, false, false, false, false, false, false, false, false, false] rfl rfl (any_of HT_.out (by kernel_rfl)) (fun _ _ _ h => h) (Or.inl ⟨by rfl, ?_⟩) ?_ ?_
            rotate_left
            · intro w'
              go_simp
              with_reducible rfl
            rotate_left
            · simp only [Act.put, List.setIfInBounds_toArray, List.set_cons_zero, List.set_cons_succ, i64_w, i32_w]
              rfl
            refine pure_ (i := 9) (N := some 106) (v := ?_) (a' := ?_) #[true, true, true, true, true, true, true, true, true, true, false, false, false, false, false, false, false, false] rfl rfl (any_of HT_.out (by kernel_rfl)) (fun _ _ _ h => h) (Or.inl ⟨by rfl, ?_⟩) ?_ ?_
            rotate_left
            · intro w'
              go_simp
              with_reducible rfl
            rotate_left
            · simp only [Act.put, List.setIfInBounds_toArray, List.set_cons_zero, List.set_cons_succ, i64_w, i32_w]
              rfl
            refine pure_ (i := 10) (N := some 107) (v := ?_) (a' := ?_) #[true, true, true, true, true, true, true, true, true, true, true, false, false, false, false, false, false, false] rfl rfl (any_of HT_.out (by kernel_rfl)) (fun _ _ _ h => h) (Or.inl ⟨by rfl, ?_⟩) ?_ ?_
            rotate_left
            · intro w'
              go_simp
              with_reducible rfl
            rotate_left
            · simp only [Act.put, List.setIfInBounds_toArray, List.set_cons_zero, List.set_cons_succ, i64_w, i32_w]
              rfl
            refine pure_ (i := 12) (N := some 109) (v := ?_) (a' := ?_) #[true, true, true, true, true, true, true, true, true, true, true, false, true, false, false, false, false, false] rfl rfl (any_of HT_.out (by kernel_rfl)) (fun _ _ _ h => h) (Or.inl ⟨by rfl, ?_⟩) ?_ ?_
            rotate_left
            · intro w'
              go_simp
              with_reducible rfl
            rotate_left
            · simp only [Act.put, List.setIfInBounds_toArray, List.set_cons_zero, List.set_cons_succ, i64_w, i32_w]
              rfl
            refine pure_ (i := 13) (N := some 110) (v := ?_) (a' := ?_) #[true, true, true, true, true, true, true, true, true, true, true, false, true, true, false, false, false, false] rfl rfl (any_of HT_.out (by kernel_rfl)) (fun _ _ _ h => h) (Or.inl ⟨by rfl, ?_⟩) ?_ ?_
            rotate_left
            · intro w'
              go_simp
              with_reducible rfl
            rotate_left
            · simp only [Act.put, List.setIfInBounds_toArray, List.set_cons_zero, List.set_cons_succ, i64_w, i32_w]
              rfl
            refine pure_ (i := 14) (N := some 111) (v := ?_) (a' := ?_) #[true, true, true, true, true, true, true, true, true, true, true, false, true, true, true, false, false, false] rfl rfl (any_of HT_.out (by kernel_rfl)) (fun _ _ _ h => h) (Or.inl ⟨by rfl, ?_⟩) ?_ ?_
            rotate_left
            · intro w'
              go_simp
              with_reducible rfl
            rotate_left
            · simp only [Act.put, List.setIfInBounds_toArray, List.set_cons_zero, List.set_cons_succ, i64_w, i32_w]
              rfl
            refine one_ (i := 11) (N := some 108) #[true, true, true, true, true, true, true, true, true, true, true, true, true, true, true, false, false, false] rfl rfl (one_of HT_.out (by kernel_rfl)) (by decide) (fun K hK => ?_)
            refine goes_ Try.func21 (by kernel_rfl) rfl #[.pointer (some ⟨g, 0, none⟩), .int .u32 now2] (by rfl) rfl rfl (by simp only [List.map_toArray, List.map_cons, List.map_nil]; rfl) ?_
            with_reducible refine (PX.due HQ.out (by have := HTZ.out; have := HI80.out; omega) now2 HN2.out).mono ?_
            rintro e w7 ⟨rfl, hP, hb⟩
            refine ⟨_, rfl, ?_⟩
            rw [due_same HRZ.out]
            clear HQ
            have HQ := Aside0.mk hP
            replace yb := pw_cell_below hb yb
            clear hP hb
            refine hK.out _ _ (yb) (fun hHeld => ?_)
            clear hK K
            refine norm_ (a' := ?_) ?_ ?_
            rotate_left
            · show Act.put _ (some 108) _ = _
              simp only [Act.put, List.setIfInBounds_toArray, List.set_cons_zero, List.set_cons_succ, i64_w, i32_w]
              rfl
            refine one_ (i := 15) (N := some 112) #[true, true, true, true, true, true, true, true, true, true, true, true, true, true, true, true, false, false] rfl rfl (one_of HT_.out (by kernel_rfl)) (by decide) (fun K hK => ?_)
            refine goes_ Try.func22 (by kernel_rfl) rfl #[.pointer (some ⟨g2, 0, none⟩), .int .i64 now2] (by rfl) rfl rfl (by simp only [List.map_toArray, List.map_cons, List.map_nil]; rfl) ?_
            with_reducible refine (PX.rdue HQ.out (by rw [ats_len]; have := HTZ.out; have := HI80.out; unfold total at this; unfold total at *; omega) now2).mono ?_
            rintro e w8 ⟨rfl, hP, hb⟩
            refine ⟨_, rfl, ?_⟩
            clear HQ
            have HQ := Aside0.mk hP
            replace yb := pw_cell_below hb yb
            clear hP hb
            refine hK.out _ _ (yb) (fun hHeld => ?_)
            clear hK K
            refine norm_ (a' := ?_) ?_ ?_
            rotate_left
            · show Act.put _ (some 112) _ = _
              simp only [Act.put, List.setIfInBounds_toArray, List.set_cons_zero, List.set_cons_succ, i64_w, i32_w]
              rfl
            refine pure_ (i := 16) (N := some 113) (v := ?_) (a' := ?_) #[true, true, true, true, true, true, true, true, true, true, true, true, true, true, true, true, true, false] rfl rfl (any_of HT_.out (by kernel_rfl)) (fun _ _ _ h => h) (Or.inl ⟨by rfl, ?_⟩) ?_ ?_
            rotate_left
            · intro w'
              go_simp
              with_reducible rfl
            rotate_left
            · simp only [Act.put, List.setIfInBounds_toArray, List.set_cons_zero, List.set_cons_succ, i64_w, i32_w]
              rfl
            refine pure_ (i := 17) (N := some 114) (v := ?_) (a' := ?_) #[true, true, true, true, true, true, true, true, true, true, true, true, true, true, true, true, true, true] rfl rfl (any_of HT_.out (by kernel_rfl)) (fun _ _ _ h => h) (Or.inl ⟨by rfl, ?_⟩) ?_ ?_
            rotate_left
            · intro w'
              go_simp
              with_reducible rfl
            rotate_left
            · simp only [Act.put, List.setIfInBounds_toArray, List.set_cons_zero, List.set_cons_succ, i64_w, i32_w]
              rfl
            refine done_ (done_of HT_.out (by kernel_rfl)) ?_
            go_wp2
            obtain ⟨gk, rfl⟩ : ∃ m, gk = m + 1 := ⟨gk - 1, by have := HI.out; have := HI80.out; omega⟩
            go_roundg gk
            case measure => omega
            case rel => exact ⟨i + 1, L2, now2, _, congrArg (Value.int .i64) hin, congrArg (Value.int .u32) hn2, ⟨by have := HI.out; have := HI80.out; have := HIL.out; omega⟩, HQ, ⟨HRZ.out, HTZ.out, HN2.out.1, HN2.out.2⟩⟩
          · obtain ⟨L2, hL2⟩ : ∃ z : Pcs, [] = z := ⟨_, rfl⟩
            have HRZ := Aside0.mk (show Rising (ats L2) by rw [← hL2]; exact List.Pairwise.nil)
            have HTZ := Aside0.mk (show total L2 ≤ 2000 * (i + 1) by rw [← hL2]; simp)
            go_wp2
            generalize hwb : wr.alloc (.cells #[.int .u8 x.1, .slice X x.2.1.length cx, .int .i64 x.2.2.1, .int .u32 x.2.2.2.1, .int .u32 x.2.2.2.2] 29) = wb at HP1 HBX ⊢
            have HP2 := Aside0.mk (HP1.out.below (below_drew (Below.refl _ _)))
            have HBX2 := Aside0.mk (blk_below HBX.out (below_drew (Below.refl _ _)))
            clear y0 y1 y2 y3 y4 hwb HP1 HBX
            obtain ⟨ab0, cb0, yb0⟩ := HP2.out.b
            refine start_ (n := 8) (S := fun w' => w'.cell? ⟨g2, 1, none⟩ = some (.slice ab0 (bytes L).length cb0)) (ds := []) #[false, false, false, false, false, false, false, false] (by kernel_rfl) rfl rfl (yb0) (fun hHeld => ?_)
            refine with_tabW plays.tab14 plays.bits14 (fun HT_ HW_ => ?_)
            generalize wb.drew = wd at HP2 HBX2 yb0 hHeld ⊢
            refine pure_ (i := 0) (N := some 43) (v := ?_) (a' := ?_) #[true, false, false, false, false, false, false, false] rfl rfl (any_of HT_.out (by kernel_rfl)) (fun _ _ _ h => h) (Or.inl ⟨by rfl, ?_⟩) ?_ ?_
            rotate_left
            · intro w'
              go_simp
              with_reducible rfl
            rotate_left
            · simp only [Act.put, List.setIfInBounds_toArray, List.set_cons_zero, List.set_cons_succ, i64_w, i32_w]
              rfl
            refine pure_ (i := 2) (N := some 45) (v := ?_) (a' := ?_) #[true, false, true, false, false, false, false, false] rfl rfl (any_of HT_.out (by kernel_rfl)) (fun _ _ _ h => h) (Or.inl ⟨by rfl, ?_⟩) ?_ ?_
            rotate_left
            · intro w'
              go_simp
              with_reducible rfl
            rotate_left
            · simp only [Act.put, List.setIfInBounds_toArray, List.set_cons_zero, List.set_cons_succ, i64_w, i32_w]
              rfl
            refine pure_ (i := 3) (N := some 46) (v := ?_) (a' := ?_) #[true, false, true, true, false, false, false, false] rfl rfl (any_of HT_.out (by kernel_rfl)) (fun _ _ _ h => h) (Or.inl ⟨by rfl, ?_⟩) ?_ ?_
            rotate_left
            · intro w'
              go_simp
              with_reducible rfl
            rotate_left
            · simp only [Act.put, List.setIfInBounds_toArray, List.set_cons_zero, List.set_cons_succ, i64_w, i32_w]
              rfl
            refine pure_ (i := 4) (N := some 47) (v := ?_) (a' := ?_) #[true, false, true, true, true, false, false, false] rfl rfl (any_of HT_.out (by kernel_rfl)) (fun _ _ _ h => h) (Or.inl ⟨by rfl, ?_⟩) ?_ ?_
            rotate_left
            · intro w'
              go_simp
              with_reducible rfl
            rotate_left
            · simp only [Act.put, List.setIfInBounds_toArray, List.set_cons_zero, List.set_cons_succ, i64_w, i32_w]
              rfl
            refine take_ (i := 5) (N := some 48) (v := ?_) (a' := ?_) #[true, false, true, true, true, true, false, false] rfl rfl (take_ofW HT_.out HW_.out (by kernel_rfl)) (fun _ _ _ h => h) (Or.inl ⟨by rfl, ?_⟩) hHeld ?_ ?_
            rotate_left
            · intro w' s0
              go_simp
              with_reducible rfl
            rotate_left
            · simp only [Act.put, List.setIfInBounds_toArray, List.set_cons_zero, List.set_cons_succ, i64_w, i32_w]
              rfl
            refine pure_ (i := 6) (N := some 49) (v := ?_) (a' := ?_) #[true, false, true, true, true, true, true, false] rfl rfl (any_of HT_.out (by kernel_rfl)) (fun _ _ _ h => h) (Or.inl ⟨by rfl, ?_⟩) ?_ ?_
            rotate_left
            · intro w'
              go_simp
              with_reducible rfl
            rotate_left
            · simp only [Act.put, List.setIfInBounds_toArray, List.set_cons_zero, List.set_cons_succ, i64_w, i32_w]
              rfl
            refine one_ (i := 1) (N := some 44) #[true, true, true, true, true, true, true, false] rfl rfl (one_of HT_.out (by kernel_rfl)) (by decide) (fun K hK => ?_)
            refine goes_ Try.func20 (by kernel_rfl) rfl #[.pointer (some ⟨g, 0, none⟩)] (by rfl) rfl rfl (by simp only [List.map_toArray, List.map_cons, List.map_nil]; rfl) ?_
            with_reducible refine (PX.cut_ HP2.out (by have := HTL.out; omega)).mono ?_
            rintro e w4 ⟨rfl, hP, hO⟩
            refine ⟨_, rfl, ?_⟩
            rw [show total L = (bytes L).length from rfl]
            replace yb0 := HP2.out.keep hO yb0
            have HP3 := Aside0.mk hP
            clear hP hO HP2 HBX2
            refine hK.out _ _ (yb0) (fun hHeld => ?_)
            clear hK K
            refine norm_ (a' := ?_) ?_ ?_
            rotate_left
            · show Act.put _ (some 44) _ = _
              simp only [Act.put, List.setIfInBounds_toArray, List.set_cons_zero, List.set_cons_succ, i64_w, i32_w]
              rfl
            refine pure_ (i := 7) (N := some 50) (v := ?_) (a' := ?_) #[true, true, true, true, true, true, true, true] rfl rfl (any_of HT_.out (by kernel_rfl)) (fun _ _ _ h => h) (Or.inl ⟨by rfl, ?_⟩) ?_ ?_
            rotate_left
            · intro w'
              go_simp
              with_reducible rfl
            rotate_left
            · simp only [Act.put, List.setIfInBounds_toArray, List.set_cons_zero, List.set_cons_succ, i64_w, i32_w]
              rfl
            refine done_ (done_of HT_.out (by kernel_rfl)) ?_
            obtain ⟨vB, vA, hS, hR⟩ := HP3.out
            have f1 := hR.y1
            have f2 := hR.y2
            have f3 := hR.y3
            have fz1 : w4.frozen? ⟨g2, 1, none⟩ = false := blk_frozen hR.box 1
            have fz2 : ∀ u, (w4.setCell ⟨g2, 1, none⟩ u).frozen? ⟨g2, 2, none⟩ = false := fun u => blk_frozen (blk_set hR.box 1 u) 2
            have fz3 : ∀ u u2, ((w4.setCell ⟨g2, 1, none⟩ u).setCell ⟨g2, 2, none⟩ u2).frozen? ⟨g2, 3, none⟩ = false := fun u u2 => blk_frozen (blk_set (blk_set hR.box 1 u) 2 u2) 3
            clear hS hR yb0 hHeld
            have HPC := Aside0.mk HP3.out.cutoff
            rw [hL2] at HPC
            go_wp2
            generalize hwz : ((w4.setCell ⟨g2, 1, none⟩ (.slice none 0 0)).setCell ⟨g2, 2, none⟩ (.slice none 0 0)).setCell ⟨g2, 3, none⟩ (.bool true) = wz at HPC ⊢
            have HPZ := HPC
            clear hwz HPC f1 f2 f3 fz1 fz2 fz3 HP3
            skip
            have HQ := Aside0.mk (HPZ.out.below (below_drew (Below.refl _ _)))
            obtain ⟨ab, cb, yb⟩ := HQ.out.b
            clear HPZ
            refine start_ (n := 18) (S := fun w' => w'.cell? ⟨g2, 1, none⟩ = some (.slice ab (bytes L2).length cb)) (ds := []) #[false, false, false, false, false, false, false, false, false, false, false, false, false, false, false, false, false, false] (by kernel_rfl) rfl rfl (yb) (fun hHeld => ?_)
            refine with_tabW plays.tab27 plays.bits27 (fun HT_ HW_ => ?_)
            generalize wz.drew = we at HQ yb hHeld ⊢
            refine pure_ (i := 0) (N := some 97) (v := ?_) (a' := ?_) #[true, false, false, false, false, false, false, false, false, false, false, false, false, false, false, false, false, false] rfl rfl (any_of HT_.out (by kernel_rfl)) (fun _ _ _ h => h) (Or.inl ⟨by rfl, ?_⟩) ?_ ?_
            rotate_left
            · intro w'
              go_simp
              with_reducible rfl
            rotate_left
            · simp only [Act.put, List.setIfInBounds_toArray, List.set_cons_zero, List.set_cons_succ, i64_w, i32_w]
              rfl
            refine pure_ (i := 2) (N := some 99) (v := ?_) (a' := ?_) #[true, false, true, false, false, false, false, false, false, false, false, false, false, false, false, false, false, false] rfl rfl (any_of HT_.out (by kernel_rfl)) (fun _ _ _ h => h) (Or.inl ⟨by rfl, ?_⟩) ?_ ?_
            rotate_left
            · intro w'
              go_simp
              with_reducible rfl
            rotate_left
            · simp only [Act.put, List.setIfInBounds_toArray, List.set_cons_zero, List.set_cons_succ, i64_w, i32_w]
              rfl
            refine pure_ (i := 3) (N := some 100) (v := ?_) (a' := ?_) #[true, false, true, true, false, false, false, false, false, false, false, false, false, false, false, false, false, false] rfl rfl (any_of HT_.out (by kernel_rfl)) (fun _ _ _ h => h) (Or.inl ⟨by rfl, ?_⟩) ?_ ?_
            rotate_left
            · intro w'
              go_simp
              with_reducible rfl
            rotate_left
            · simp only [Act.put, List.setIfInBounds_toArray, List.set_cons_zero, List.set_cons_succ, i64_w, i32_w]
              rfl
            refine pure_ (i := 4) (N := some 101) (v := ?_) (a' := ?_) #[true, false, true, true, true, false, false, false, false, false, false, false, false, false, false, false, false, false] rfl rfl (any_of HT_.out (by kernel_rfl)) (fun _ _ _ h => h) (Or.inl ⟨by rfl, ?_⟩) ?_ ?_
            rotate_left
            · intro w'
              go_simp
              with_reducible rfl
            rotate_left
            · simp only [Act.put, List.setIfInBounds_toArray, List.set_cons_zero, List.set_cons_succ, i64_w, i32_w]
              rfl
            refine take_ (i := 5) (N := some 102) (v := ?_) (a' := ?_) #[true, false, true, true, true, true, false, false, false, false, false, false, false, false, false, false, false, false] rfl rfl (take_ofW HT_.out HW_.out (by kernel_rfl)) (fun _ _ _ h => h) (Or.inl ⟨by rfl, ?_⟩) hHeld ?_ ?_
            rotate_left
            · intro w' s0
              go_simp
              with_reducible rfl
            rotate_left
            · simp only [Act.put, List.setIfInBounds_toArray, List.set_cons_zero, List.set_cons_succ, i64_w, i32_w]
              rfl
            refine pure_ (i := 6) (N := some 103) (v := ?_) (a' := ?_) #[true, false, true, true, true, true, true, false, false, false, false, false, false, false, false, false, false, false] rfl rfl (any_of HT_.out (by kernel_rfl)) (fun _ _ _ h => h) (Or.inl ⟨by rfl, ?_⟩) ?_ ?_
            rotate_left
            · intro w'
              go_simp
              with_reducible rfl
            rotate_left
            · simp only [Act.put, List.setIfInBounds_toArray, List.set_cons_zero, List.set_cons_succ, i64_w, i32_w]
              rfl
            refine one_ (i := 1) (N := some 98) #[true, true, true, true, true, true, true, false, false, false, false, false, false, false, false, false, false, false] rfl rfl (one_of HT_.out (by kernel_rfl)) (by decide) (fun K hK => ?_)
            refine goes_ Try.func17 (by kernel_rfl) rfl #[.pointer (some ⟨g, 0, none⟩)] (by rfl) rfl rfl (by simp only [List.map_toArray, List.map_cons, List.map_nil]; rfl) ?_
            with_reducible refine (PX.len HQ.out (by have := HTZ.out; have := HI80.out; omega)).mono ?_
            rintro e w6 ⟨rfl, hP, hb⟩
            refine ⟨_, rfl, ?_⟩
            rw [show total L2 = (bytes L2).length from rfl]
            clear HQ
            have HQ := Aside0.mk hP
            replace yb := pw_cell_below hb yb
            clear hP hb
            refine hK.out _ _ (yb) (fun hHeld => ?_)
            clear hK K
            refine norm_ (a' := ?_) ?_ ?_
            rotate_left
            · show Act.put _ (some 98) _ = _
              simp only [Act.put, List.setIfInBounds_toArray, List.set_cons_zero, List.set_cons_succ, i64_w, i32_w]
              rfl
            refine pure_ (i := 7) (N := some 104) (v := ?_) (a' := ?_) #[true, true, true, true, true, true, true, true, false, false, false, false, false, false, false, false, false, false] rfl rfl (any_of HT_.out (by kernel_rfl)) (fun _ _ _ h => h) (Or.inl ⟨by rfl, ?_⟩) ?_ ?_
            rotate_left
            · intro w'
              go_simp
              with_reducible rfl
            rotate_left
            · simp only [Act.put, List.setIfInBounds_toArray, List.set_cons_zero, List.set_cons_succ, i64_w, i32_w]
              rfl
            refine pure_ (i := 8) (N := some 105) (v := ?_) (a' := ?_) #[true, true, true, true, true, true, true, true, true, false, false, false, false, false, false, false, false, false] rfl rfl (any_of HT_.out (by kernel_rfl)) (fun _ _ _ h => h) (Or.inl ⟨by rfl, ?_⟩) ?_ ?_
            rotate_left
            · intro w'
              go_simp
              with_reducible rfl
            rotate_left
            · simp only [Act.put, List.setIfInBounds_toArray, List.set_cons_zero, List.set_cons_succ, i64_w, i32_w]
              rfl
            refine pure_ (i := 9) (N := some 106) (v := ?_) (a' := ?_) #[true, true, true, true, true, true, true, true, true, true, false, false, false, false, false, false, false, false] rfl rfl (any_of HT_.out (by kernel_rfl)) (fun _ _ _ h => h) (Or.inl ⟨by rfl, ?_⟩) ?_ ?_
            rotate_left
            · intro w'
              go_simp
              with_reducible rfl
            rotate_left
            · simp only [Act.put, List.setIfInBounds_toArray, List.set_cons_zero, List.set_cons_succ, i64_w, i32_w]
              rfl
            refine pure_ (i := 10) (N := some 107) (v := ?_) (a' := ?_) #[true, true, true, true, true, true, true, true, true, true, true, false, false, false, false, false, false, false] rfl rfl (any_of HT_.out (by kernel_rfl)) (fun _ _ _ h => h) (Or.inl ⟨by rfl, ?_⟩) ?_ ?_
            rotate_left
            · intro w'
              go_simp
              with_reducible rfl
            rotate_left
            · simp only [Act.put, List.setIfInBounds_toArray, List.set_cons_zero, List.set_cons_succ, i64_w, i32_w]
              rfl
            refine pure_ (i := 12) (N := some 109) (v := ?_) (a' := ?_) #[true, true, true, true, true, true, true, true, true, true, true, false, true, false, false, false, false, false] rfl rfl (any_of HT_.out (by kernel_rfl)) (fun _ _ _ h => h) (Or.inl ⟨by rfl, ?_⟩) ?_ ?_
            rotate_left
            · intro w'
              go_simp
              with_reducible rfl
            rotate_left
            · simp only [Act.put, List.setIfInBounds_toArray, List.set_cons_zero, List.set_cons_succ, i64_w, i32_w]
              rfl
            refine pure_ (i := 13) (N := some 110) (v := ?_) (a' := ?_) #[true, true, true, true, true, true, true, true, true, true, true, false, true, true, false, false, false, false] rfl rfl (any_of HT_.out (by kernel_rfl)) (fun _ _ _ h => h) (Or.inl ⟨by rfl, ?_⟩) ?_ ?_
            rotate_left
            · intro w'
              go_simp
              with_reducible rfl
            rotate_left
            · simp only [Act.put, List.setIfInBounds_toArray, List.set_cons_zero, List.set_cons_succ, i64_w, i32_w]
              rfl
            refine pure_ (i := 14) (N := some 111) (v := ?_) (a' := ?_) #[true, true, true, true, true, true, true, true, true, true, true, false, true, true, true, false, false, false] rfl rfl (any_of HT_.out (by kernel_rfl)) (fun _ _ _ h => h) (Or.inl ⟨by rfl, ?_⟩) ?_ ?_
            rotate_left
            · intro w'
              go_simp
              with_reducible rfl
            rotate_left
            · simp only [Act.put, List.setIfInBounds_toArray, List.set_cons_zero, List.set_cons_succ, i64_w, i32_w]
              rfl
            refine one_ (i := 11) (N := some 108) #[true, true, true, true, true, true, true, true, true, true, true, true, true, true, true, false, false, false] rfl rfl (one_of HT_.out (by kernel_rfl)) (by decide) (fun K hK => ?_)
            refine goes_ Try.func21 (by kernel_rfl) rfl #[.pointer (some ⟨g, 0, none⟩), .int .u32 now2] (by rfl) rfl rfl (by simp only [List.map_toArray, List.map_cons, List.map_nil]; rfl) ?_
            with_reducible refine (PX.due HQ.out (by have := HTZ.out; have := HI80.out; omega) now2 HN2.out).mono ?_
            rintro e w7 ⟨rfl, hP, hb⟩
            refine ⟨_, rfl, ?_⟩
            rw [due_same HRZ.out]
            clear HQ
            have HQ := Aside0.mk hP
            replace yb := pw_cell_below hb yb
            clear hP hb
            refine hK.out _ _ (yb) (fun hHeld => ?_)
            clear hK K
            refine norm_ (a' := ?_) ?_ ?_
            rotate_left
            · show Act.put _ (some 108) _ = _
              simp only [Act.put, List.setIfInBounds_toArray, List.set_cons_zero, List.set_cons_succ, i64_w, i32_w]
              rfl
            refine one_ (i := 15) (N := some 112) #[true, true, true, true, true, true, true, true, true, true, true, true, true, true, true, true, false, false] rfl rfl (one_of HT_.out (by kernel_rfl)) (by decide) (fun K hK => ?_)
            refine goes_ Try.func22 (by kernel_rfl) rfl #[.pointer (some ⟨g2, 0, none⟩), .int .i64 now2] (by rfl) rfl rfl (by simp only [List.map_toArray, List.map_cons, List.map_nil]; rfl) ?_
            with_reducible refine (PX.rdue HQ.out (by rw [ats_len]; have := HTZ.out; have := HI80.out; unfold total at this; unfold total at *; omega) now2).mono ?_
            rintro e w8 ⟨rfl, hP, hb⟩
            refine ⟨_, rfl, ?_⟩
            clear HQ
            have HQ := Aside0.mk hP
            replace yb := pw_cell_below hb yb
            clear hP hb
            refine hK.out _ _ (yb) (fun hHeld => ?_)
            clear hK K
            refine norm_ (a' := ?_) ?_ ?_
            rotate_left
            · show Act.put _ (some 112) _ = _
              simp only [Act.put, List.setIfInBounds_toArray, List.set_cons_zero, List.set_cons_succ, i64_w, i32_w]
              rfl
            refine pure_ (i := 16) (N := some 113) (v := ?_) (a' := ?_) #[true, true, true, true, true, true, true, true, true, true, true, true, true, true, true, true, true, false] rfl rfl (any_of HT_.out (by kernel_rfl)) (fun _ _ _ h => h) (Or.inl ⟨by rfl, ?_⟩) ?_ ?_
            rotate_left
            · intro w'
              go_simp
              with_reducible rfl
            rotate_left
            · simp only [Act.put, List.setIfInBounds_toArray, List.set_cons_zero, List.set_cons_succ, i64_w, i32_w]
              rfl
            refine pure_ (i := 17) (N := some 114) (v := ?_) (a' := ?_) #[true, true, true, true, true, true, true, true, true, true, true, true, true, true, true, true, true, true] rfl rfl (any_of HT_.out (by kernel_rfl)) (fun _ _ _ h => h) (Or.inl ⟨by rfl, ?_⟩) ?_ ?_
            rotate_left
            · intro w'
              go_simp
              with_reducible rfl
            rotate_left
            · simp only [Act.put, List.setIfInBounds_toArray, List.set_cons_zero, List.set_cons_succ, i64_w, i32_w]
              rfl
            refine done_ (done_of HT_.out (by kernel_rfl)) ?_
            go_wp2
            obtain ⟨gk, rfl⟩ : ∃ m, gk = m + 1 := ⟨gk - 1, by have := HI.out; have := HI80.out; omega⟩
            go_roundg gk
            case measure => omega
            case rel => exact ⟨i + 1, L2, now2, _, congrArg (Value.int .i64) hin, congrArg (Value.int .u32) hn2, ⟨by have := HI.out; have := HI80.out; have := HIL.out; omega⟩, HQ, ⟨HRZ.out, HTZ.out, HN2.out.1, HN2.out.2⟩⟩
        · have q4 : decide ((2000 : Int) < (x.2.1.length : Int)) = true := decide_eq_true (by omega)
          have q4' : decide (2000 < x.2.1.length) = true := decide_eq_true (by omega)
          go_wp2
          go_ret
          exact ⟨rfl, bel_alloc HB.out _⟩
      · have q2 : decide ((i : Int) < 80) = false := decide_eq_false (by omega)
        have q2' : decide (i < 80) = false := decide_eq_false h80
        go_wp2
        go_ret
        exact ⟨rfl, HB.out⟩
    · have q1 : decide ((i : Int) < (l.length : Int)) = false := decide_eq_false (by omega)
      have q1' : (i < l.length) = False := eq_false hi
      have q1'' : decide (i < l.length) = false := decide_eq_false hi
      clear hi
      go_wp2
      go_ret
      exact ⟨rfl, HB.out⟩
theorem plays_row (a : Int) (ha : (Lit.int .i64 a).wf = true) (v : Value) (s : v = .slice none 0 0 ∨ ∃ a n c, v = .slice (some a) n c) (x : List OpT) {W : World} (K : (Kd.slice 29 kop).K W x v.cells.toList) (o : okOps x) (_ : World) :
    Calls Try.prog 5 #[.int .i64 a, v] W fun e w' => e = .returned (.bool true) ∧ Below W.heap.size W w' := by
  obtain ⟨A, c, rfl, h1, h2⟩ := slice_of s K
  exact pipePlays_walk a (wf_i64 ha) A c x W h1 h2 o
end Go.Proofs.Ytjbakaplcjkniaa.Pi
