/- Past: Cut, Get. No condition. -/
import Derived.Test.YtjbakaplcjkniaaPa6
namespace Go.Proofs.Ytjbakaplcjkniaa.Pa
open Go.RowKit Go.Proofs.YtjbakaplcjkniaaW.PrintWords Go.Proofs.YtjbakaplcjkniaaW.PrintLast Go.Proofs.YtjbakaplcjkniaaW.PrintMore Go.Proofs.Ytjbakaplcjkniaa.Pi
set_option linter.unusedVariables false
set_option linter.unusedSimpArgs false
section
variable {Z : Nat → Prop} {w0 w w' : World} {g : Nat} {s : St}
theorem frR_cut (Z : Nat → Prop) (w : World) (v id : Int) : FrR Z w ⟨v, true, id, [], []⟩ [.int .u64 v, .bool true, .int .u32 id, .slice none 0 0, .slice none 0 0] := fun W hW =>
  ⟨none, 0, none, 0, rfl, Nat.le_refl _, Kd.C_nil _ _, Nat.le_refl _, Kd.C_nil _ _⟩
theorem PX.lay_cutF (h : PX Z w0 w g s) (v id : Int) (hr : ¬ (v = 0 ∨ v < s.last)) :
    Calls Try.prog 42 #[.pointer (some ⟨g, 0, none⟩), .agg #[.int .u64 v, .bool true, .int .u32 id, .slice none 0 0, .slice none 0 0]] w fun e w' => e = .returned (.int .i64 (s.lay ⟨v, true, id, [], []⟩).1) ∧ PX Z w0 w' g (s.lay ⟨v, true, id, [], []⟩).2 ∧ Turns g w w' :=
  h.layF ⟨v, true, id, [], []⟩ none 0 none 0 true rfl hr (frR_cut Z w v id)
/-- The row at a place. -/
theorem PX.row_at (h : PX Z w0 w g s) {i : Nat} {x : Row} (hx : s.L[i]? = some x) : ∃ ad cap A1 c1 A2 c2, w.cell? ⟨g, 0, none⟩ = some (.slice (some ad) s.L.length cap) ∧ RowAt w ad i x A1 c1 A2 c2 := by
  obtain ⟨vL, vK, h1, h2, h3, h4, h5⟩ := h
  obtain ⟨ao, cap, rfl, _, hr⟩ := h1.row.reads
  obtain ⟨ad, A1, c1, A2, c2, rfl, hA⟩ := hr.at hx
  exact ⟨ad, cap, A1, c1, A2, c2, h1.y0, hA⟩
theorem PX.glt (h : PX Z w0 w g s) : g < w.heap.size := by
  obtain ⟨vL, vK, h1, _⟩ := h
  exact h1.lt
theorem PX.cells (h : PX Z w0 w g s) : ∃ ao cap, w.cell? ⟨g, 0, none⟩ = some (.slice ao s.L.length cap) ∧ w.cell? ⟨g, 1, none⟩ = some (.int .u64 s.last) := by
  obtain ⟨vL, vK, h1, h2, h3, h4, h5⟩ := h
  obtain ⟨ao, cap, rfl, _, hr⟩ := h1.row.reads
  exact ⟨ao, cap, h1.y0, h1.y1⟩
theorem atI_none {L : List Row} {id v : Int} (h : atP L id v = none) : atI L id v = -1 := by unfold atI; rw [h]
theorem atI_some {L : List Row} {id v : Int} {i : Nat} (h : atP L id v = some i) : atI L id v = (i : Int) := by unfold atI; rw [h]
set_option maxHeartbeats 4000000 in
set_option maxRecDepth 100000 in
theorem PX.cutF (h : PX Z w0 w g s) (v id : Int) :
    Calls Try.prog 26 #[.pointer (some ⟨g, 0, none⟩), .int .u64 v, .int .u32 id] w fun e w' => e = .returned (.int .i64 (s.cut v id).1) ∧ PX Z w0 w' g (s.cut v id).2 ∧ Turns g w w' := by
  have hu2 := Try.underlying98
  have hu3 := Try.underlying102
  obtain ⟨ao, cap, _, y1⟩ := h.cells
  have HX := Aside0.mk h
  have HGL := Aside0.mk h.glt
  by_cases hbad : v = 0 ∨ v < s.last
  · have e1 : s.cut v id = (1, s) := by unfold St.cut; rw [if_pos hbad]
    rw [e1]
    clear h
    cases q1 : (v == 0) with
    | true =>
      clear hbad e1
      go_enter Try.func26, Try.ntmps26
      go_wp2
      go_ret
      exact ⟨rfl, HX.out, Turns.of_below HGL.out (Below.refl _ _)⟩
    | false =>
      have q2 : decide (v < s.last) = true := decide_eq_true (by rcases hbad with h | h; exact absurd h (by simpa using q1); exact h)
      clear hbad e1
      go_enter Try.func26, Try.ntmps26
      go_wp2
      go_ret
      exact ⟨rfl, HX.out, Turns.of_below HGL.out (Below.refl _ _)⟩
  · have q1 : (v == 0) = false := by rw [beq_eq_false_iff_ne]; exact fun h => hbad (.inl h)
    have q2 : decide (v < s.last) = false := decide_eq_false (fun h => hbad (.inr h))
    have HBD := Aside0.mk hbad
    have e0 : s.cut v id = if missing s.L id v = true then (2, s) else s.lay ⟨v, true, id, [], []⟩ := by unfold St.cut; rw [if_neg hbad]
    rw [e0]
    clear hbad e0 h
    cases ha : atP s.L id v with
    | none =>
      have e1 : missing s.L id v = true := by unfold missing; rw [ha]
      rw [if_pos e1]
      have HI := Aside0.mk (atI_none ha)
      clear e1 ha
      go_enter Try.func26, Try.ntmps26
      go_wp2_with (go_at_call 44; (with_reducible refine (PX.at_ HX.out id v).mono ?_); rintro e w1 ⟨rfl, hP, hb⟩; rw [HI.out]; have HP := Aside0.mk hP; have HB := Aside0.mk hb; clear hP hb)
      go_ret
      exact ⟨rfl, HP.out, Turns.of_below HGL.out HB.out⟩
    | some i =>
      obtain ⟨x, hx, hid, hv⟩ := atP_some ha
      have e1 : missing s.L id v = x.gone := by unfold missing; rw [ha]; dsimp only; rw [hx]
      rw [e1]
      have HI := Aside0.mk (atI_some ha)
      have HXI := Aside0.mk hx
      have hil := atP_lt ha
      have q3 : (i : Int) < (s.L.length : Int) := by omega
      clear e1 ha hx hid hv
      cases hgo : x.gone with
      | true =>
        rw [if_pos rfl]
        go_enter Try.func26, Try.ntmps26
        go_wp2_with (go_at_call 44; (with_reducible refine (PX.at_ HX.out id v).mono ?_); rintro e w1 ⟨rfl, hP, hb⟩; rw [HI.out]; have HP := Aside0.mk hP; have HB := Aside0.mk hb; obtain ⟨ad, cap1, A1, c1, A2, c2, yy, hr⟩ := hP.row_at HXI.out; have x1 := hr.y1; rw [hgo] at x1; clear hP hb hr)
        go_ret
        exact ⟨rfl, HP.out, Turns.of_below HGL.out HB.out⟩
      | false =>
        rw [if_neg (by simp)]
        obtain ⟨er, her⟩ : ∃ z, (s.lay ⟨v, true, id, [], []⟩).1 = z := ⟨_, rfl⟩
        obtain ⟨s2, hs2⟩ : ∃ z, (s.lay ⟨v, true, id, [], []⟩).2 = z := ⟨_, rfl⟩
        rw [her, hs2]
        have HER := Aside0.mk her
        have HS2 := Aside0.mk hs2
        clear her hs2
        go_enter Try.func26, Try.ntmps26
        go_wp2_with (first | (go_at_call 44; (with_reducible refine (PX.at_ HX.out id v).mono ?_); rintro e w1 ⟨rfl, hP, hb⟩; rw [HI.out]; have HP := Aside0.mk hP; have HB := Aside0.mk hb; obtain ⟨ad, cap1, A1, c1, A2, c2, yy, hr⟩ := hP.row_at HXI.out; have x1 := hr.y1; rw [hgo] at x1; clear hP hb hr) | (go_at_call 42; (with_reducible refine (PX.lay_cutF HP.out v id HBD.out).mono ?_); rintro e w2 ⟨rfl, hP, hO⟩; rw [HER.out]; rw [HS2.out] at hP; have HP2 := Aside0.mk hP; have HO2 := Aside0.mk hO; clear hP hO))
        go_ret
        exact ⟨rfl, HP2.out, HO2.out.behind HGL.out HB.out⟩
theorem PX.cut (h : PX Z w0 w g s) (v id : Int) :
    Calls Try.prog 26 #[.pointer (some ⟨g, 0, none⟩), .int .u64 v, .int .u32 id] w fun e w' => e = .returned (.int .i64 (s.cut v id).1) ∧ PX Z w0 w' g (s.cut v id).2 ∧ Only (TT w) w w' :=
  (h.cutF v id).mono fun e w' ⟨h1, h2, h3⟩ => ⟨h1, h2, h3.only.mono (fun k hk => hk.1)⟩
theorem RowAt.z3 {w : World} {ad : Addr} {i : Nat} {x : Row} {A1 : Option Addr} {c1 : Nat} {A2 : Option Addr} {c2 : Nat} (h : RowAt w ad i x A1 c1 A2 c2) : w.cell? ⟨(ad.add (i * 5)).block, (ad.add (i * 5)).off + 2 + 1, none⟩ = some (.slice A1 x.vec.length c1) := h.y3
theorem RowAt.z4 {w : World} {ad : Addr} {i : Nat} {x : Row} {A1 : Option Addr} {c1 : Nat} {A2 : Option Addr} {c2 : Nat} (h : RowAt w ad i x A1 c1 A2 c2) : w.cell? ⟨(ad.add (i * 5)).block, (ad.add (i * 5)).off + 2 + 2, none⟩ = some (.slice A2 x.tags.length c2) := h.y4
theorem RowAt.parts {w : World} {ad : Addr} {i : Nat} {x : Row} {A1 : Option Addr} {c1 : Nat} {A2 : Option Addr} {c2 : Nat} (h : RowAt w ad i x A1 c1 A2 c2) (hl : x.vec.length ≤ 100000 ∧ x.tags.length ≤ 100000) : Parts w x A1 c1 A2 c2 := ⟨h.fit1, h.vec, h.fit2, h.tags, hl⟩
/-- What Get tells. -/
def GetR (w w' : World) (a : Value) : Option Row → Prop
  | none => a = .agg #[.int .u32 0, .slice none 0 0, .slice none 0 0]
  | some x => ∃ v1 v2, a = .agg #[.int .u32 x.id, v1, v2] ∧ rowV w' w.heap.size v1 x.vec ∧ rowT w' w.heap.size v2 x.tags
def GetAns (w w' : World) (e : Ending) (r : Int × Option Row) : Prop := ∃ a, e = .returned (.tuple #[a, .int .i64 r.1]) ∧ GetR w w' a r.2
theorem only_sets {w W : World} {b : Nat} (h : Below w.heap.size w W) (hb : w.heap.size ≤ b) (u0 u1 u2 : Value) : Below w.heap.size w (((W.setCell ⟨b, 0, none⟩ u0).setCell ⟨b, 1, none⟩ u1).setCell ⟨b, 2, none⟩ u2) :=
  ((((Only.refl (fun i => i = b) W).set ⟨b, 0, none⟩ u0 rfl).set ⟨b, 1, none⟩ u1 rfl).set ⟨b, 2, none⟩ u2 rfl).below_of h (fun i hi => by omega)
theorem PX.sets (h : PX Z w0 w g s) {W : World} {b : Nat} (hb : Below w.heap.size w W) (hl : w.heap.size ≤ b) (u0 u1 u2 : Value) : PX Z w0 (((W.setCell ⟨b, 0, none⟩ u0).setCell ⟨b, 1, none⟩ u1).setCell ⟨b, 2, none⟩ u2) g s := h.below (only_sets hb hl u0 u1 u2)
theorem PX.small (h : PX Z w0 w g s) (hs : s.Small) {i : Nat} {x : Row} (hx : s.L[i]? = some x) : x.vec.length ≤ 100000 ∧ x.tags.length ≤ 100000 := hs x (List.mem_of_getElem? hx)
set_option maxHeartbeats 4000000 in
set_option maxRecDepth 100000 in
theorem PX.get (h : PX Z w0 w g s) (hs : s.Small) (id v : Int) :
    Calls Try.prog 31 #[.pointer (some ⟨g, 0, none⟩), .int .u32 id, .int .u64 v] w fun e w' => GetAns w w' e (s.get id v) ∧ PX Z w0 w' g s ∧ Below w.heap.size w w' := by
  have hu2 := Try.underlying98
  have hu3 := Try.underlying102
  have hu4 := Try.underlying54
  have hb1 := below_alloc (Below.refl w.heap.size w) (.cells #[.int .u32 0, .slice none 0 0, .slice none 0 0] 54)
  have HBX := Aside0.mk (heap_alloc_new w (.cells #[.int .u32 0, .slice none 0 0, .slice none 0 0] 54))
  have HX0 := Aside0.mk h
  have HX := Aside0.mk (h.below hb1)
  have HB := Aside0.mk hb1
  have HS := Aside0.mk hs
  clear h hb1 hs
  cases hk : s.known v with
  | false =>
    have e1 : s.get id v = (80, none) := by unfold St.get; rw [if_pos hk]
    rw [e1]
    have HK := Aside0.mk hk
    clear e1 hk
    go_enter Try.func31, Try.ntmps31
    go_wp2_with (go_at_call 45; (with_reducible refine (PX.known HX.out v).mono ?_); rintro e w1 ⟨rfl, hP, hb⟩; rw [HK.out]; have HP := Aside0.mk hP; have HB1 := Aside0.mk (bel_trans HB.out hb); have hy := blk_below HBX.out hb; have HY := Aside0.mk hy; have z0 := (blk_cell hy 0).trans rfl; have z1 := (blk_cell hy 1).trans rfl; have z2 := (blk_cell hy 2).trans rfl; have fz : ∀ j, w1.frozen? ⟨w.heap.size, j, none⟩ = false := (fun j => blk_frozen HY.out j); clear hP hb hy)
    refine bodyPost_ret (results_ct rfl _ _ w.heap.size 54 #[.int .u32 0, .slice none 0 0, .slice none 0 0] (0,0) _ rfl (blk_put (blk_put (blk_put HY.out 0 _ rfl) 1 _ rfl) 2 _ rfl) Try.underlying54 rfl (by kernel_rfl)) rfl ?_
    exact ⟨⟨_, rfl, rfl⟩, PX.sets HX0.out HB1.out (Nat.le_refl _) _ _ _, only_sets HB1.out (Nat.le_refl _) _ _ _⟩
  | true =>
    have HK := Aside0.mk hk
    cases ha : atP s.L id v with
    | none =>
      have e1 : s.get id v = (2, none) := by unfold St.get; rw [if_neg (by rw [hk]; simp), ha]
      rw [e1]
      have HI := Aside0.mk (atI_none ha)
      clear e1 ha hk
      go_enter Try.func31, Try.ntmps31
      go_wp2_with (first | (go_at_call 45; (with_reducible refine (PX.known HX.out v).mono ?_); rintro e w1 ⟨rfl, hP, hb⟩; rw [HK.out]; have HP := Aside0.mk hP; have HB1 := Aside0.mk (bel_trans HB.out hb); have HY := Aside0.mk (blk_below HBX.out hb); clear hP hb) | (go_at_call 44; (with_reducible refine (PX.at_ HP.out id v).mono ?_); rintro e w2 ⟨rfl, hP, hb⟩; rw [HI.out]; have HP2 := Aside0.mk hP; have HB2 := Aside0.mk (bel_trans HB1.out hb); have hy := blk_below HY.out hb; have HY2 := Aside0.mk hy; have z0 := (blk_cell hy 0).trans rfl; have z1 := (blk_cell hy 1).trans rfl; have z2 := (blk_cell hy 2).trans rfl; have fz : ∀ j, w2.frozen? ⟨w.heap.size, j, none⟩ = false := (fun j => blk_frozen HY2.out j); clear hP hb hy))
      refine bodyPost_ret (results_ct rfl _ _ w.heap.size 54 #[.int .u32 0, .slice none 0 0, .slice none 0 0] (0,0) _ rfl (blk_put (blk_put (blk_put HY2.out 0 _ rfl) 1 _ rfl) 2 _ rfl) Try.underlying54 rfl (by kernel_rfl)) rfl ?_
      exact ⟨⟨_, rfl, rfl⟩, PX.sets HX0.out HB2.out (Nat.le_refl _) _ _ _, only_sets HB2.out (Nat.le_refl _) _ _ _⟩
    | some i =>
      obtain ⟨x, hx, hid, hv⟩ := atP_some ha
      have e1 : s.get id v = if x.gone = true then (2, none) else (0, some x) := by unfold St.get; rw [if_neg (by rw [hk]; simp), ha]; dsimp only; rw [hx]
      rw [e1]
      have HI := Aside0.mk (atI_some ha)
      have HXI := Aside0.mk hx
      have hil := atP_lt ha
      have q3 : (i : Int) < (s.L.length : Int) := by omega
      have HSX := Aside0.mk (PX.small HX0.out HS.out hx)
      clear e1 ha hx hid hv hk
      cases hgo : x.gone with
      | true =>
        rw [if_pos rfl]
        go_enter Try.func31, Try.ntmps31
        go_wp2_with (first | (go_at_call 45; (with_reducible refine (PX.known HX.out v).mono ?_); rintro e w1 ⟨rfl, hP, hb⟩; rw [HK.out]; have HP := Aside0.mk hP; have HB1 := Aside0.mk (bel_trans HB.out hb); have HY := Aside0.mk (blk_below HBX.out hb); clear hP hb) | (go_at_call 44; (with_reducible refine (PX.at_ HP.out id v).mono ?_); rintro e w2 ⟨rfl, hP, hb⟩; rw [HI.out]; have HP2 := Aside0.mk hP; have HB2 := Aside0.mk (bel_trans HB1.out hb); have hy := blk_below HY.out hb; have HY2 := Aside0.mk hy; have z0 := (blk_cell hy 0).trans rfl; have z1 := (blk_cell hy 1).trans rfl; have z2 := (blk_cell hy 2).trans rfl; have fz : ∀ j, w2.frozen? ⟨w.heap.size, j, none⟩ = false := (fun j => blk_frozen HY2.out j); obtain ⟨ad, cap1, A1, c1, A2, c2, yy, hr⟩ := hP.row_at HXI.out; have x1 := hr.y1; rw [hgo] at x1; clear hP hb hy hr))
        refine bodyPost_ret (results_ct rfl _ _ w.heap.size 54 #[.int .u32 0, .slice none 0 0, .slice none 0 0] (0,0) _ rfl (blk_put (blk_put (blk_put HY2.out 0 _ rfl) 1 _ rfl) 2 _ rfl) Try.underlying54 rfl (by kernel_rfl)) rfl ?_
        exact ⟨⟨_, rfl, rfl⟩, PX.sets HX0.out HB2.out (Nat.le_refl _) _ _ _, only_sets HB2.out (Nat.le_refl _) _ _ _⟩
      | false =>
        rw [if_neg (by simp)]
        go_enter Try.func31, Try.ntmps31
        go_wp2_with (first | (go_at_call 45; (with_reducible refine (PX.known HX.out v).mono ?_); rintro e w1 ⟨rfl, hP, hb⟩; rw [HK.out]; have HP := Aside0.mk hP; have HB1 := Aside0.mk (bel_trans HB.out hb); have HY := Aside0.mk (blk_below HBX.out hb); clear hP hb) | (go_at_call 44; (with_reducible refine (PX.at_ HP.out id v).mono ?_); rintro e w2 ⟨rfl, hP, hb⟩; rw [HI.out]; have HP2 := Aside0.mk hP; have HB2 := Aside0.mk (bel_trans HB1.out hb); have hy := blk_below HY.out hb; have HY2 := Aside0.mk hy; skip; obtain ⟨ad, cap1, A1, c1, A2, c2, yy, hr⟩ := hP.row_at HXI.out; have x1 := hr.y1; rw [hgo] at x1; have HRW := Aside0.mk (hr.parts HSX.out); have x2 := hr.y2; have x3 := hr.z3; have x4 := hr.z4; clear hP hb hy hr) | (go_at_call 43; (with_reducible refine (own_calls x A1 c1 A2 c2 _ HRW.out).mono ?_); rintro e w3 ⟨⟨v1, v2, rfl, r1, r2⟩, hb⟩; obtain ⟨a1, d1, rfl⟩ := Kd.R_slice r1; obtain ⟨a2, d2, rfl⟩ := Kd.R_slice r2; have HR1 := Aside0.mk r1; have HR2 := Aside0.mk r2; have HB3 := Aside0.mk (bel_trans HB2.out hb); have hy := blk_below HY2.out hb; have HY3 := Aside0.mk hy; have z0 := (blk_cell hy 0).trans rfl; have z1 := (blk_cell hy 1).trans rfl; have z2 := (blk_cell hy 2).trans rfl; have fz : ∀ j, w3.frozen? ⟨w.heap.size, j, none⟩ = false := (fun j => blk_frozen HY3.out j); clear r1 r2 hb hy))
        refine bodyPost_ret (results_ct rfl _ _ w.heap.size 54 #[.int .u32 x.id, .slice a1 x.vec.length d1, .slice a2 x.tags.length d2] (0,0) _ rfl (blk_put (blk_put (blk_put HY3.out 0 _ rfl) 1 _ rfl) 2 _ rfl) Try.underlying54 rfl (by kernel_rfl)) rfl ?_
        have r1 := Kd.R_lower (HR1.out) HB2.out.size
        have r2 := Kd.R_lower (HR2.out) HB2.out.size
        have t1 : ∀ q, q ∈ 21 :: (Kd.int .i32).E → q ≠ 54 := by
          intro q hq
          have hq : q ∈ [21] := hq
          have e : q = 21 := by simpa using hq
          rw [e]; decide
        have t2 : ∀ q, q ∈ 9 :: Kd.string.E → q ≠ 54 := by
          intro q hq
          have hq : q ∈ [9] := hq
          have e : q = 9 := by simpa using hq
          rw [e]; decide
        refine ⟨⟨_, rfl, _, _, rfl, Kd.R_set (Kd.R_set (Kd.R_set r1 HY3.out t1 0 _) (blk_put HY3.out 0 _ rfl) t1 1 _) (blk_put (blk_put HY3.out 0 _ rfl) 1 _ rfl) t1 2 _, Kd.R_set (Kd.R_set (Kd.R_set r2 HY3.out t2 0 _) (blk_put HY3.out 0 _ rfl) t2 1 _) (blk_put (blk_put HY3.out 0 _ rfl) 1 _ rfl) t2 2 _⟩, PX.sets HX0.out HB3.out (Nat.le_refl _) _ _ _, only_sets HB3.out (Nat.le_refl _) _ _ _⟩
end
end Go.Proofs.Ytjbakaplcjkniaa.Pa
