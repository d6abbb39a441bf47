/- FixvecLess: the walks of 'fixvec.Less' and of the law FixvecLess. No condition beyond the statement's own. -/
import Derived.Test.YtbfocfdnejddpaaFix
import Derived.Test.YtbfocfdnejddpaaFrame
import Derived.Deep.RegionHeld3
import Derived.Laws.StructEq
namespace Go.Proofs.Ytbfocfdnejddpaa.Less
open Go.RowKit Go.Proofs.Ytbfocfdnejddpaa.Q Go.Proofs.YtbfocfdnejddpaaW.PrintWords Go.Proofs.Ytbfocfdnejddpaa.Fix
/-- Which of two hits is less. -/
def lt2 (d1 i1 d2 i2 : Int) : Bool := decide (d1 < d2) || (d1 == d2 && decide (i1 < i2))
abbrev hit (d i : Int) : Value := .agg #[.int .i64 d, .int .u32 i]
set_option maxHeartbeats 1000000 in
theorem less_calls (d1 i1 d2 i2 : Int) (r : Bool) (hr : lt2 d1 i1 d2 i2 = r) (w : World) :
    Calls Try.prog 16 #[hit d1 i1, hit d2 i2] w fun e w' => e = .returned (.bool r) ∧ Below w.heap.size w w' := by
  subst hr
  have hu := Try.underlying38
  unfold lt2
  by_cases h1 : d1 < d2
  · have e1 : decide (d1 < d2) = true := decide_eq_true h1
    clear h1
    go_enter Try.func16, Try.ntmps16
    go_wp2
    go_ret
    exact ⟨by simp [e1], ((Below.refl _ _).alloc (Nat.le_refl _) _).alloc (by simp) _⟩
  · have e1 : decide (d1 < d2) = false := decide_eq_false h1
    clear h1
    by_cases h2 : d1 = d2
    · have e2 : (d1 == d2) = true := beq_iff_eq.mpr h2
      clear h2
      go_enter Try.func16, Try.ntmps16
      go_wp2
      go_ret
      exact ⟨by simp [e1, e2], ((Below.refl _ _).alloc (Nat.le_refl _) _).alloc (by simp) _⟩
    · have e2 : (d1 == d2) = false := beq_eq_false_iff_ne.mpr h2
      clear h2
      go_enter Try.func16, Try.ntmps16
      go_wp2
      go_ret
      exact ⟨by simp [e1, e2], ((Below.refl _ _).alloc (Nat.le_refl _) _).alloc (by simp) _⟩
theorem alive_calls (w : World) : Calls Try.prog 10 #[] w fun e w' => e = .returned (.bool true) ∧ Below w.heap.size w w' := lodestarlaw01_alive.calls 60 true w (alive_f 60 (by omega))
theorem cellB {w w1 : World} (h : Below w.heap.size w w1) {b o : Nat} {v : Value} (hc : w.cell? ⟨b, o, none⟩ = some v) : w1.cell? ⟨b, o, none⟩ = some v := pw_cell_below h hc
def Six (B : Nat) (da ia db ib dc ic : Int) (w : World) : Prop :=
  w.cell? ⟨B, 0, none⟩ = some (.int .i64 da) ∧ w.cell? ⟨B, 1, none⟩ = some (.int .u32 ia) ∧ w.cell? ⟨B + 1, 0, none⟩ = some (.int .i64 db) ∧ w.cell? ⟨B + 1, 1, none⟩ = some (.int .u32 ib) ∧
  w.cell? ⟨B + 1 + 1, 0, none⟩ = some (.int .i64 dc) ∧ w.cell? ⟨B + 1 + 1, 1, none⟩ = some (.int .u32 ic)
theorem Six.below {B : Nat} {da ia db ib dc ic : Int} {w w1 : World} (h : Six B da ia db ib dc ic w) (hb : Below w.heap.size w w1) : Six B da ia db ib dc ic w1 := by
  obtain ⟨a, b, c, d, e, f⟩ := h
  exact ⟨cellB hb a, cellB hb b, cellB hb c, cellB hb d, cellB hb e, cellB hb f⟩
theorem six_new (da ia db ib dc ic : Int) (w : World) : Six w.heap.size da ia db ib dc ic (((w.alloc (Obj.cells #[Value.int IntKind.i64 da, Value.int IntKind.u32 ia] 38)).alloc (Obj.cells #[Value.int IntKind.i64 db, Value.int IntKind.u32 ib] 38)).alloc (Obj.cells #[Value.int IntKind.i64 dc, Value.int IntKind.u32 ic] 38)) := by
  refine ⟨?_, ?_, ?_, ?_, ?_, ?_⟩ <;> go_simp
theorem held_step {B : Nat} {da ia db ib dc ic : Int} {w w' w2 : World} (h : w'.cell? ⟨B, 0, none⟩ = some (.int .i64 da) ∧ w'.cell? ⟨B, 1, none⟩ = some (.int .u32 ia) ∧ w'.cell? ⟨B + 1, 0, none⟩ = some (.int .i64 db) ∧ w'.cell? ⟨B + 1, 1, none⟩ = some (.int .u32 ib) ∧ w'.cell? ⟨B + 1 + 1, 0, none⟩ = some (.int .i64 dc) ∧ w'.cell? ⟨B + 1 + 1, 1, none⟩ = some (.int .u32 ic) ∧ Below w.heap.size w w') (hb : Below w'.heap.size w' w2) :
    w2.cell? ⟨B, 0, none⟩ = some (.int .i64 da) ∧ w2.cell? ⟨B, 1, none⟩ = some (.int .u32 ia) ∧ w2.cell? ⟨B + 1, 0, none⟩ = some (.int .i64 db) ∧ w2.cell? ⟨B + 1, 1, none⟩ = some (.int .u32 ib) ∧ w2.cell? ⟨B + 1 + 1, 0, none⟩ = some (.int .i64 dc) ∧ w2.cell? ⟨B + 1 + 1, 1, none⟩ = some (.int .u32 ic) ∧ Below w.heap.size w w2 :=
  ⟨cellB hb h.1, cellB hb h.2.1, cellB hb h.2.2.1, cellB hb h.2.2.2.1, cellB hb h.2.2.2.2.1, cellB hb h.2.2.2.2.2.1, below_then h.2.2.2.2.2.2 h.2.2.2.2.2.2.size hb⟩
set_option maxHeartbeats 4000000 in
theorem law_calls (da ia db ib dc ic : Int) (x y z t wl we wi : Bool) (w : World)
    (hx : lt2 da ia db ib = x) (hy : lt2 db ib da ia = y) (hz : lt2 db ib dc ic = z) (ht : lt2 da ia dc ic = t)
    (hwl : decide (da < db) = wl) (hwe : (da == db) = we) (hwi : decide (ia < ib) = wi) 
    (h1 : x = (wl || we && wi)) (h2 : (y = true ∧ x = false) ∨ (y = false ∧ x = true) ∨ (x = false ∧ y = false ∧ da = db ∧ ia = ib)) (h3 : x = true → z = true → t = true) :
    Calls Try.prog 9 #[hit da ia, hit db ib, hit dc ic] w fun e w' => e = .returned (.bool true) ∧ Below w.heap.size w w' := by
  have H1 := Aside0.mk h1
  have H2 := Aside0.mk h2
  have H3 := Aside0.mk h3
  have HX := Aside0.mk hx
  have HY := Aside0.mk hy
  have HZ := Aside0.mk hz
  have HT := Aside0.mk ht
  clear hx hy hz ht h1 h2 h3
  have hu := Try.underlying38
  go_enter Try.func9, Try.ntmps9
  go_wp2_with ((go_at_call 10; refine (alive_calls _).mono ?_; rintro e w1 ⟨rfl, hb⟩; have HS := Aside0.mk ((six_new da ia db ib dc ic w).below hb); have HB := Aside0.mk (below_then ((((Below.refl _ w).alloc (Nat.le_refl _) _).alloc (by simp) _).alloc (by simp; try omega) _) (by simp; try omega) hb); clear hb))
  obtain ⟨s0, s1, s2, s3, s4, s5⟩ := HS.out
  clear HS
  have hB := HB.out
  clear HB
  have hS := held_step ⟨s0, s1, s2, s3, s4, s5, hB⟩ (below_drew (Below.refl w1.heap.size w1))
  clear s0 s1 s2 s3 s4 s5 hB
  go_region_held3 (fun w' => w'.cell? ⟨w.heap.size, 0, none⟩ = some (.int .i64 da) ∧ w'.cell? ⟨w.heap.size, 1, none⟩ = some (.int .u32 ia) ∧ w'.cell? ⟨w.heap.size + 1, 0, none⟩ = some (.int .i64 db) ∧ w'.cell? ⟨w.heap.size + 1, 1, none⟩ = some (.int .u32 ib) ∧ w'.cell? ⟨w.heap.size + 1 + 1, 0, none⟩ = some (.int .i64 dc) ∧ w'.cell? ⟨w.heap.size + 1 + 1, 1, none⟩ = some (.int .u32 ic) ∧ Below w.heap.size w w') (first | exact hS | exact held_step ‹_› hb) (first | (go_at_call 16; (with_reducible refine (less_calls da ia db ib x HX.out _).mono ?_); rintro e w2 ⟨rfl, hb⟩) | (go_at_call 16; (with_reducible refine (less_calls db ib da ia y HY.out _).mono ?_); rintro e w2 ⟨rfl, hb⟩))
  have hS2 := ‹_ ∧ _›
  obtain ⟨s0, s1, s2, s3, s4, s5, hB⟩ := hS2
  rcases H2.out with ⟨rfl, rfl⟩ | ⟨rfl, rfl⟩ | ⟨rfl, rfl, e1, e2⟩
  · cases wl with
    | true => exact absurd H1.out (by simp)
    | false =>
      cases we with
      | true =>
        cases wi with
        | true => exact absurd H1.out (by simp)
        | false =>
          go_wp2
          go_ret
          exact ⟨rfl, hB⟩
      | false =>
        go_wp2
        go_ret
        exact ⟨rfl, hB⟩
  · cases wl with
    | true =>
      cases z with
      | false =>
        go_wp2_with (first | (go_at_call 16; (with_reducible refine (less_calls db ib dc ic _ HZ.out _).mono ?_); rintro e w3 ⟨rfl, hb⟩; have hB2 := below_then hB hB.size hb; have t0 := cellB hb s0; have t1 := cellB hb s1; have t2 := cellB hb s2; have t3 := cellB hb s3; have t4 := cellB hb s4; have t5 := cellB hb s5; clear hb) | (go_at_call 16; (with_reducible refine (less_calls da ia dc ic _ HT.out _).mono ?_); rintro e w4 ⟨rfl, hb⟩; have hB3 := below_then hB2 hB2.size hb; clear hb))
        go_ret
        exact ⟨rfl, hB2⟩
      | true =>
        obtain rfl := H3.out rfl rfl
        go_wp2_with (first | (go_at_call 16; (with_reducible refine (less_calls db ib dc ic _ HZ.out _).mono ?_); rintro e w3 ⟨rfl, hb⟩; have hB2 := below_then hB hB.size hb; have t0 := cellB hb s0; have t1 := cellB hb s1; have t2 := cellB hb s2; have t3 := cellB hb s3; have t4 := cellB hb s4; have t5 := cellB hb s5; clear hb) | (go_at_call 16; (with_reducible refine (less_calls da ia dc ic _ HT.out _).mono ?_); rintro e w4 ⟨rfl, hb⟩; have hB3 := below_then hB2 hB2.size hb; clear hb))
        go_ret
        exact ⟨rfl, hB3⟩
    | false =>
      cases we with
      | false => exact absurd H1.out (by simp)
      | true =>
        cases wi with
        | false => exact absurd H1.out (by simp)
        | true =>
          cases z with
          | false =>
            go_wp2_with (first | (go_at_call 16; (with_reducible refine (less_calls db ib dc ic _ HZ.out _).mono ?_); rintro e w3 ⟨rfl, hb⟩; have hB2 := below_then hB hB.size hb; have t0 := cellB hb s0; have t1 := cellB hb s1; have t2 := cellB hb s2; have t3 := cellB hb s3; have t4 := cellB hb s4; have t5 := cellB hb s5; clear hb) | (go_at_call 16; (with_reducible refine (less_calls da ia dc ic _ HT.out _).mono ?_); rintro e w4 ⟨rfl, hb⟩; have hB3 := below_then hB2 hB2.size hb; clear hb))
            go_ret
            exact ⟨rfl, hB2⟩
          | true =>
            obtain rfl := H3.out rfl rfl
            go_wp2_with (first | (go_at_call 16; (with_reducible refine (less_calls db ib dc ic _ HZ.out _).mono ?_); rintro e w3 ⟨rfl, hb⟩; have hB2 := below_then hB hB.size hb; have t0 := cellB hb s0; have t1 := cellB hb s1; have t2 := cellB hb s2; have t3 := cellB hb s3; have t4 := cellB hb s4; have t5 := cellB hb s5; clear hb) | (go_at_call 16; (with_reducible refine (less_calls da ia dc ic _ HT.out _).mono ?_); rintro e w4 ⟨rfl, hb⟩; have hB3 := below_then hB2 hB2.size hb; clear hb))
            go_ret
            exact ⟨rfl, hB3⟩
  · subst e1 e2
    obtain rfl : wl = false := by rw [← hwl]; simp
    obtain rfl : we = true := by rw [← hwe]; simp
    obtain rfl : wi = false := by rw [← hwi]; simp
    go_wp2
    go_ret
    exact ⟨rfl, hB⟩
theorem law_any (da ia db ib dc ic : Int) (w : World) : Calls Try.prog 9 #[hit da ia, hit db ib, hit dc ic] w fun e w' => e = .returned (.bool true) ∧ Below w.heap.size w w' := by
  refine law_calls da ia db ib dc ic _ _ _ _ _ _ _ w rfl rfl rfl rfl rfl rfl rfl rfl ?_ ?_
  · unfold lt2
    rcases Int.lt_trichotomy da db with h | h | h
    · have h' : ¬ db < da := by omega
      have h'' : ¬ db = da := by omega
      simp [h, h', h'']
    · subst h
      rcases Int.lt_trichotomy ia ib with g | g | g
      · have g' : ¬ ib < ia := by omega
        simp [g, g']
      · subst g; simp
      · have g' : ¬ ia < ib := by omega
        simp [g, g']
    · have h' : ¬ da < db := by omega
      have h'' : ¬ da = db := by omega
      simp [h, h', h'']
  · unfold lt2
    simp only [Bool.or_eq_true, Bool.and_eq_true, decide_eq_true_eq, beq_iff_eq]
    intro h g
    omega
theorem cells38 : Try.prog.cellsOf 38 = 2 := by kernel_rfl
theorem cells2 : Try.prog.cellsOf 2 = 1 := by kernel_rfl
theorem cells36 : Try.prog.cellsOf 36 = 1 := by kernel_rfl
theorem opens_hit : Frame.Opens Try.prog 38 (Kd.pair (Kd.int .i64) (Kd.int .u32)) (fun x => (Lit.int .i64 x.1).wf = true ∧ (Lit.int .u32 x.2).wf = true) :=
  Frame.Opens.struct Try.underlying38 cells38 (Frame.OpensFrom.cons (by rfl) (by rfl) cells2 (Frame.Opens.int Try.underlying2) (Frame.OpensFrom.last (by rfl) (by rfl) cells36 (Frame.Opens.int Try.underlying36)))
theorem hit_of {v : Value} {x : Int × Int} {w : World} (s : ∃ cs, v = .agg cs) (K : (Kd.pair (Kd.int .i64) (Kd.int .u32)).K w x v.cells.toList) : v = hit x.1 x.2 := by
  obtain ⟨cs, rfl⟩ := s
  obtain ⟨c0, c1, h, rfl, rfl⟩ := K
  exact Frame.arg_agg h
theorem law_row (v0 : Value) (s0 : ∃ cs, v0 = .agg cs) (x0 : Int × Int) {W : World} (K0 : (Kd.pair (Kd.int .i64) (Kd.int .u32)).K W x0 v0.cells.toList) (_ : (Lit.int .i64 x0.1).wf = true ∧ (Lit.int .u32 x0.2).wf = true)
    (v1 : Value) (s1 : ∃ cs, v1 = .agg cs) (x1 : Int × Int) (K1 : (Kd.pair (Kd.int .i64) (Kd.int .u32)).K W x1 v1.cells.toList) (_ : (Lit.int .i64 x1.1).wf = true ∧ (Lit.int .u32 x1.2).wf = true)
    (v2 : Value) (s2 : ∃ cs, v2 = .agg cs) (x2 : Int × Int) (K2 : (Kd.pair (Kd.int .i64) (Kd.int .u32)).K W x2 v2.cells.toList) (_ : (Lit.int .i64 x2.1).wf = true ∧ (Lit.int .u32 x2.2).wf = true) (w : World) :
    Calls Try.prog 9 #[v0, v1, v2] w fun e w' => e = .returned (.bool true) ∧ Below w.heap.size w w' := by
  rw [hit_of s0 K0, hit_of s1 K1, hit_of s2 K2]
  exact law_any _ _ _ _ _ _ w
end Go.Proofs.Ytbfocfdnejddpaa.Less
