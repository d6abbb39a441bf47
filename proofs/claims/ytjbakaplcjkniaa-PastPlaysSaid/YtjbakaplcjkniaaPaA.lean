/- Past: the document's example. No condition. -/
import Derived.Test.YtjbakaplcjkniaaPa9
namespace Go.Proofs.Ytjbakaplcjkniaa.Pa
open Go.RowKit Go.Maps Go.Proofs.YtjbakaplcjkniaaW.PrintWords Go.Proofs.YtjbakaplcjkniaaW.PrintLast Go.Proofs.YtjbakaplcjkniaaW.PrintMore Go.Proofs.Ytjbakaplcjkniaa.Pi
set_option linter.unusedVariables false
set_option linter.unusedSimpArgs false
section
variable {Z : Nat → Prop} {w0 w w' : World} {g : Nat} {s : St}
theorem C_one32 {w : World} {p t : Nat} {x : Int} (h : w.heap[p]? = some (.cells #[.int .i32 x] t (0, 0))) : Kd.C (Kd.int .i32) w (some ⟨p, 0, none⟩) 1 [x] := by
  refine ⟨rfl, by omega, fun _ => ⟨_, rfl, fun j y hj => ?_⟩⟩
  obtain ⟨hl, hy⟩ := List.getElem?_eq_some_iff.1 hj
  have : j = 0 := by simp at hl; exact hl
  subst this
  have : x = y := hy
  subst this
  refine ⟨[.int .i32 x], rfl, rfl, fun i u hu => ?_⟩
  obtain ⟨hl2, hy2⟩ := List.getElem?_eq_some_iff.1 hu
  have : i = 0 := by simp at hl2; exact hl2
  subst this
  have : Value.int .i32 x = u := hy2
  subst this
  have e : w.cell? ⟨p, 0, none⟩ = some (.int .i32 x) := (blk_cell h 0).trans rfl
  rw [add_plain]
  exact e
/-- An item of one number is put. -/
theorem PX.put1 (h : PX Z w0 w g s) (v id x : Int) (hv : 0 ≤ v) (hZ : ∀ k, Z k → k < w.heap.size) :
    Calls Try.prog 25 #[.pointer (some ⟨g, 0, none⟩), .int .u64 v, .agg #[.int .u32 id, .slice (some ⟨w.heap.size, 0, none⟩) 1 1, .slice none 0 0]] (w.alloc (.cells #[.int .i32 x] 21)) fun e w' => e = .returned (.int .i64 (s.lay ⟨v, false, id, [x], []⟩).1) ∧ PX Z w0 w' g (s.lay ⟨v, false, id, [x], []⟩).2 ∧ Below w0.heap.size w0 w' := by
  have hb := below_alloc (Below.refl w.heap.size w) (.cells #[.int .i32 x] 21)
  exact ((h.below hb).put ⟨v, false, id, [x], []⟩ (some ⟨w.heap.size, 0, none⟩) 1 none 0 rfl ⟨Nat.le_refl _, C_one32 (heap_alloc_new w _), Nat.le_refl _, Kd.C_nil _ _, by simp⟩ hv (fun k hk => Nat.lt_of_lt_of_le (hZ k hk) hb.size)).mono fun e w' ⟨h1, h2, h3⟩ => ⟨h1, h2, h2.at0⟩
/-- An item of nothing is put. -/
theorem PX.put0 (h : PX Z w0 w g s) (v id : Int) (hv : 0 ≤ v) (hZ : ∀ k, Z k → k < w.heap.size) :
    Calls Try.prog 25 #[.pointer (some ⟨g, 0, none⟩), .int .u64 v, .agg #[.int .u32 id, .slice none 0 0, .slice none 0 0]] w fun e w' => e = .returned (.int .i64 (s.lay ⟨v, false, id, [], []⟩).1) ∧ PX Z w0 w' g (s.lay ⟨v, false, id, [], []⟩).2 ∧ Below w0.heap.size w0 w' :=
  (h.put ⟨v, false, id, [], []⟩ none 0 none 0 rfl ⟨Nat.le_refl _, Kd.C_nil _ _, Nat.le_refl _, Kd.C_nil _ _, by simp⟩ hv hZ).mono fun e w' ⟨h1, h2, h3⟩ => ⟨h1, h2, h2.at0⟩
theorem PX.sweep1 (h : PX Z w0 w g s) (hf : s.Fit) (x : Int) :
    Calls Try.prog 28 #[.pointer (some ⟨g, 0, none⟩), .slice (some ⟨w.heap.size, 0, none⟩) 1 1] (w.alloc (.cells #[.int .u64 x] 50)) fun e w' => e = .returned (.int .i64 (s.sweep [x]).1) ∧ PX Z w0 w' g (s.sweep [x]).2 := by
  have hb := below_alloc (Below.refl w.heap.size w) (.cells #[.int .u64 x] 50)
  exact ((h.below hb).sweep hf (some ⟨w.heap.size, 0, none⟩) 1 [x] (C_one (heap_alloc_new w _)) (by simp)).mono fun e w' ⟨h1, h2, h3⟩ => ⟨h1, h2⟩
theorem PX.sweep0 (h : PX Z w0 w g s) (hf : s.Fit) :
    Calls Try.prog 28 #[.pointer (some ⟨g, 0, none⟩), .slice none 0 0] w fun e w' => e = .returned (.int .i64 (s.sweep []).1) ∧ PX Z w0 w' g (s.sweep []).2 :=
  (h.sweep hf none 0 [] (Kd.C_nil _ _) (by simp)).mono fun e w' ⟨h1, h2, h3⟩ => ⟨h1, h2⟩
end
theorem add_nil (ad : Addr) : ad.add 0 = ad := by simp [Addr.add]
def al1 : St := ⟨[⟨1, false, 7, [1], []⟩], 1, 0, []⟩
def al2 : St := ⟨[⟨1, false, 7, [1], []⟩, ⟨2, false, 7, [2], []⟩], 2, 0, []⟩
def al3 : St := ⟨[⟨1, false, 7, [1], []⟩, ⟨2, false, 7, [2], []⟩, ⟨3, true, 7, [], []⟩], 3, 0, []⟩
def al4 : St := ⟨[⟨1, false, 7, [1], []⟩, ⟨3, true, 7, [], []⟩], 3, 3, [1]⟩
theorem al_lay1 : St.new.lay ⟨1, false, 7, [1], []⟩ = (0, al1) := by kernel_rfl
theorem al_lay2 : al1.lay ⟨2, false, 7, [2], []⟩ = (0, al2) := by kernel_rfl
theorem al_cut : al2.cut 3 7 = (0, al3) := by kernel_rfl
theorem al_sweep : al3.sweep [1] = (1, al4) := by kernel_rfl
theorem al_get1 : al4.get 7 1 = (0, some ⟨1, false, 7, [1], []⟩) := by kernel_rfl
theorem al_get2 : al4.get 7 2 = (80, none) := by kernel_rfl
theorem al_get3 : al4.get 7 3 = (2, none) := by kernel_rfl
theorem al_sweep2 : (al4.sweep []).1 = 2 := by kernel_rfl
theorem al3_fit : al3.Fit := by
  intro x hx
  simp [al3] at hx
  rcases hx with rfl | rfl | rfl <;> kernel_rfl
theorem al4_fit : al4.Fit := by
  intro x hx
  simp [al4] at hx
  rcases hx with rfl | rfl <;> kernel_rfl
theorem al4_small : al4.Small := by
  intro x hx
  simp [al4] at hx
  rcases hx with rfl | rfl <;> simp
set_option maxHeartbeats 4000000 in
set_option maxRecDepth 100000 in
theorem alive_calls (w : World) : Calls Try.prog 23 #[] w fun e w' => e = .returned (.bool true) ∧ Below w.heap.size w w' := by
  have hu2 := Try.underlying98
  have hu4 := Try.underlying54
  have hz : ∀ k, (fun _ : Nat => False) k → w.heap.size ≤ k := fun k hk => hk.elim
  go_enter Try.func23, Try.ntmps23
  go_wp2_with (first
    | (go_at_call 24; (with_reducible refine (PX.new (Z := fun _ => False) (Below.refl w.heap.size w) hz).mono ?_); rintro e w1 ⟨g, rfl, hP, hb⟩; have H1 := Aside0.mk hP; clear hP hb hz)
    | (go_at_call 25; first
        | (have := H2; (with_reducible refine (PX.put1 H2.out 2 7 2 (by omega) (fun k hk => hk.elim)).mono ?_); rintro e w3 ⟨rfl, hP, hb⟩; rw [al_lay2] at hP ⊢; have H3 := Aside0.mk hP; clear hP hb)
        | ((with_reducible refine (PX.put1 H1.out 1 7 1 (by omega) (fun k hk => hk.elim)).mono ?_); rintro e w2 ⟨rfl, hP, hb⟩; rw [al_lay1] at hP ⊢; have H2 := Aside0.mk hP; clear hP hb))
    | (go_at_call 26; (with_reducible refine (PX.cut H3.out 3 7).mono ?_); rintro e w4 ⟨rfl, hP, hb⟩; rw [al_cut] at hP ⊢; have H4 := Aside0.mk hP; clear hP hb)
    | (go_at_call 28; first
        | (have := H8; (with_reducible refine (PX.sweep0 (H8.out.below (below_alloc (Below.refl _ _) _)) al4_fit).mono ?_); rintro e w9 ⟨rfl, hP⟩; rw [al_sweep2]; have H9 := Aside0.mk hP; clear hP)
        | ((with_reducible refine (PX.sweep1 H4.out al3_fit 1).mono ?_); rintro e w5 ⟨rfl, hP⟩; rw [al_sweep] at hP ⊢; have H5 := Aside0.mk hP; clear hP))
    | (go_at_call 31; first
        | (have := H7; (with_reducible refine (PX.get (H7.out.below (below_alloc (Below.refl _ _) _)) al4_small 7 3).mono ?_); rintro e w8 ⟨hA, hP, hb⟩; rw [al_get3] at hA; obtain ⟨a8, rfl, rfl⟩ := hA; have H8 := Aside0.mk hP; have hW := bel_alloc (bel_trans (bel_alloc B7.out (.cells #[.int .u32 0, .slice none 0 0, .slice none 0 0] 54)) hb) (.cells #[.int .u32 0, .slice none 0 0, .slice none 0 0] 54); have hbx := blk_below (heap_alloc_new w6 _) hW; have x1 := (blk_cell hbx 1).trans rfl; obtain ⟨ad, xx, e1, e2, e3⟩ := C_int_at (Kd.R_reads' (Kd.R_below (Kd.R_below HR1.out (below_alloc (Below.refl _ _) _)) hW)).2.2 (i := 0) (by decide); cases e2; subst e1; have e4 := (congrArg (fun z => World.cell? _ z) (add_nil ad)).symm.trans e3; clear hP hb hbx hW e3)
        | (have := H6; (with_reducible refine (PX.get (H6.out.below (below_alloc (Below.refl _ _) _)) al4_small 7 2).mono ?_); rintro e w7 ⟨hA, hP, hb⟩; rw [al_get2] at hA; obtain ⟨a7, rfl, rfl⟩ := hA; have H7 := Aside0.mk hP; have B7 := Aside0.mk hb; clear hP hb)
        | ((with_reducible refine (PX.get H5.out al4_small 7 1).mono ?_); rintro e w6 ⟨hA, hP, hb⟩; rw [al_get1] at hA; obtain ⟨a6, rfl, v1, v2, rfl, r1, r2⟩ := hA; obtain ⟨p1, c1, rfl⟩ := Kd.R_slice r1; obtain ⟨p2, c2, rfl⟩ := Kd.R_slice r2; have HR1 := Aside0.mk r1; have H6 := Aside0.mk hP; clear hP hb r1 r2)))
  go_ret
  exact ⟨rfl, H9.out.at0⟩
end Go.Proofs.Ytjbakaplcjkniaa.Pa
