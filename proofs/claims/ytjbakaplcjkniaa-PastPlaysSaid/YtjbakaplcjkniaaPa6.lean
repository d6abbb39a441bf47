/- Past: the place of an id's row at a version. No condition. -/
import Derived.Test.YtjbakaplcjkniaaPa5
namespace Go.Proofs.Ytjbakaplcjkniaa.Pa
open Go.RowKit Go.Shelf Go.Proofs.YtjbakaplcjkniaaW.PrintWords Go.Proofs.YtjbakaplcjkniaaW.PrintLast Go.Proofs.YtjbakaplcjkniaaW.PrintMore Go.Proofs.Ytjbakaplcjkniaa.Pi
set_option linter.unusedVariables false
set_option linter.unusedSimpArgs false
attribute [local go_sem] Oper.semAt_some
theorem blk_lt' {w : World} {k : Nat} {o : Obj} (h : w.heap[k]? = some o) : k < w.heap.size := (Array.getElem?_eq_some_iff.1 h).1
theorem only_of_grown {W W' : World} {row : Option Nat} (h : W.grownBy W' row) : Only (fun i => row = some i) W W' := ⟨h.os, h.tape, h.output, h.size, fun k hk hn => h.block k hk (fun e => hn e.symm)⟩
theorem keeps_below {W W' : World} (N : Nat) (h : Below W.heap.size W W') : KeepsFrom N W W' := ⟨h.size, fun j o _ ho _ => (h.block j (Array.getElem?_eq_some_iff.1 ho).1).trans ho⟩
theorem own_size {β : Type} (N M : Nat) : OwnFrom N (fun (_ : β) W => M ≤ W.heap.size) := fun s W W' row h hg hr => Nat.le_trans h hg.size
theorem own_const {β : Type} (N : Nat) (p : β → Prop) : OwnFrom N (fun (s : β) (_ : World) => p s) := fun s W W' row h hg hr => h
/-- Does a row's version fit? By its cells. -/
def okR (v : Int) (cs : List Value) : Bool := match cs with | .int _ a :: _ => decide (a ≤ v) | _ => false
theorem okR_at {w : World} {ao : Option Addr} {L : List Row} {rc : Nat → List Value} (h : RowsAt w ao L rc) (v : Int) {i : Nat} {x : Row} (hx : L[i]? = some x) : okR v (rc i) = decide (x.v ≤ v) := by
  obtain ⟨_, _, _, _, _, _, _, e⟩ := h i x hx
  rw [e]
  rfl
/-- The first that fits, of the rows backwards. -/
theorem at_stop {w : World} {ao : Option Addr} {L : List Row} {rc : Nat → List Value} (h : RowsAt w ao L rc) (id v : Int) {pre : List Nat} {i : Nat} (hp : pre ++ [i] <+: backs L id) (h1 : ∀ j ∈ pre, okR v (rc j) = false) (h2 : okR v (rc i) = true) : atI L id v = (i : Int) := by
  obtain ⟨r, hr⟩ := hp
  have hm : ∀ j, j ∈ backs L id → okR v (rc j) = fitsAt L v j := by
    intro j hj
    obtain ⟨x, hx, _⟩ := backs_mem hj
    unfold fitsAt
    rw [okR_at h v hx, hx]
  have e : atP L id v = some i := by
    unfold atP
    rw [← hr, List.append_assoc, List.find?_append]
    have hn : pre.find? (fitsAt L v) = none := by
      rw [List.find?_eq_none]
      intro j hj
      have := hm j (by rw [← hr]; simp [hj])
      rw [← this, h1 j hj]
      simp
    rw [hn]
    have := hm i (by rw [← hr]; simp)
    simp only [Option.none_or, List.cons_append, List.nil_append]
    rw [List.find?_cons, ← this, h2]
  unfold atI
  rw [e]
theorem at_none {w : World} {ao : Option Addr} {L : List Row} {rc : Nat → List Value} (h : RowsAt w ao L rc) (id v : Int) (h1 : ∀ j ∈ backs L id, okR v (rc j) = false) : atI L id v = -1 := by
  have e : atP L id v = none := by
    unfold atP
    rw [List.find?_eq_none]
    intro j hj
    obtain ⟨x, hx, _⟩ := backs_mem hj
    have := h1 j hj
    rw [okR_at h v hx] at this
    unfold fitsAt
    rw [hx]
    simpa using this
  unfold atI
  rw [e]
theorem results_scalar {P : Program} {fn : Func} {p : Tmp} {ty : TypeId} {k : IntKind} (h : fn.results = #[.cell p ty]) (tmps : Array Value) (w : World) (g : Nat) (v : Value) (hp : tmps.getD p undef = .pointer (some ⟨g, 0, none⟩)) (hc : w.cell? ⟨g, 0, none⟩ = some v) (ht : P.underlying ty = some (.int k)) :
    (results fn tmps).run P w = .ok v w := by
  have hp' : tmps[p]?.getD undef = .pointer (some ⟨g, 0, none⟩) := by simpa using hp
  simp [results, h, hp', asAddr, loadVar, isAgg, run_underlying ht, go_sem, hc]
theorem set_below {w W : World} {b : Nat} (h : Below w.heap.size w W) (hb : w.heap.size ≤ b) (u : Value) : Below w.heap.size w (W.setCell ⟨b, 0, none⟩ u) :=
  ((Only.refl (fun i => i = b) W).set ⟨b, 0, none⟩ u rfl).below_of h (fun i hi => by omega)
theorem keeps_set {N : Nat} {W : World} {b : Nat} {t : TypeId} {v : Value} (h : Boxed W b t v) (u : Value) : KeepsFrom N W (W.setCell ⟨b, 0, none⟩ u) := by
  refine ⟨by rw [size_set]; exact Nat.le_refl _, fun j o _ ho hc => ?_⟩
  rw [Below.heap_setCell W ⟨b, 0, none⟩ u j (fun e => by
    have e : j = b := e
    subst e
    rw [show W.heap[j]? = _ from h] at ho
    cases ho
    cases hc)]
  exact ho
set_option maxHeartbeats 8000000 in
set_option maxRecDepth 100000 in
theorem at_in (n : Nat) (hn : 6 ≤ n) (g : Nat) (ao : Option Addr) (cap : Nat) (L : List Row) (rc : Nat → List Value) (id v : Int) (w : World) (hL : Lies w g ao cap L rc) (h5 : ∀ i, Five (rc i)) :
    CallsIn Fence.wide n Try.prog 44 #[.pointer (some ⟨g, 0, none⟩), .int .u32 id, .int .u64 v] w fun e W' => e = .returned (.int .i64 (atI L id v)) ∧ Below w.heap.size w W' := by
  have hu3 := Try.underlying102
  have hn1 : 1 ≤ n := by omega
  have HL := Aside0.mk hL
  have H5 := Aside0.mk h5
  clear hL h5
  refine callsIn_of_wp_marks Try.func44 rfl trivial ?_ rfl
  simp only [Try.ntmps44, List.size_toArray, List.length_cons, List.length_nil, Nat.reduceAdd, Nat.reduceSub, Array.replicate_succ, Array.replicate_zero, List.push_toArray, List.append_toArray, List.nil_append, List.cons_append]
  have hw1 := below_alloc (Below.refl w.heap.size w) (.cells #[.int .u64 v] 50)
  have g0 := heap_alloc_new w (.cells #[.int .u64 v] 50)
  have z0 := World.size_alloc w (.cells #[.int .u64 v] 50)
  have g1 := heap_alloc_new (w.alloc (.cells #[.int .u64 v] 50)) (.cells #[.int .i64 0] 3)
  have z1 := World.size_alloc (w.alloc (.cells #[.int .u64 v] 50)) (.cells #[.int .i64 0] 3)
  have hw1' := below_alloc (Below.refl (w.alloc (.cells #[.int .u64 v] 50)).heap.size (w.alloc (.cells #[.int .u64 v] 50))) (.cells #[.int .i64 0] 3)
  have HQ := Aside0.mk (two_new ((w.alloc (.cells #[.int .u64 v] 50)).alloc (.cells #[.int .i64 0] 3)) g id)
  have HG := Aside0.mk (show ((w.alloc (.cells #[.int .u64 v] 50)).alloc (.cells #[.int .i64 0] 3)).heap.size = w.heap.size + 2 ∧ ((w.alloc (.cells #[.int .u64 v] 50)).alloc (.cells #[.int .i64 0] 3)).heap[w.heap.size]? = some (.cells #[.int .u64 v] 50 (0, 0)) ∧ ((w.alloc (.cells #[.int .u64 v] 50)).alloc (.cells #[.int .i64 0] 3)).heap[w.heap.size + 1]? = some (.cells #[.int .i64 0] 3 (0, 0)) ∧ Below w.heap.size w ((w.alloc (.cells #[.int .u64 v] 50)).alloc (.cells #[.int .i64 0] 3)) from ⟨by rw [z1, z0], blk_below g0 hw1', by rw [z0] at g1; exact g1, bel_trans hw1 hw1'⟩)
  clear hw1 g0 z0 g1 z1 hw1'
  gi_wp2_with (refine ⟨trivial, ?_⟩; gi_at_call 57; refine (callsIn_wide.2 (backwards_calls g id _)).mono ?_; rintro e w2 ⟨rfl, hw2⟩; have HW2 := Aside0.mk hw2; clear hw2)
  obtain ⟨wa, hwa⟩ : ∃ z, (w.alloc (.cells #[.int .u64 v] 50)).alloc (.cells #[.int .i64 0] 3) = z := ⟨_, rfl⟩
  have hw2 := HW2.out
  have hq := HQ.out
  have hg := HG.out
  rw [hwa] at hw2 hq hg
  obtain ⟨hs, k0, k1, hb1⟩ := hg
  rw [hs] at hq
  have hb2 : Below wa.heap.size wa w2 := by rw [hw2]; exact bel_alloc (below_alloc (Below.refl _ _) _) _
  rw [← hw2] at hq
  have m0 := blk_below k0 hb2
  have m1 := blk_below k1 hb2
  have hB2 : Below w.heap.size w w2 := bel_trans hb1 hb2
  have hs2 : w2.heap.size = w.heap.size + 4 := by have := hq.2; omega
  have htwo : Two w2 (w.heap.size + 1 + 1) g id := hq.1
  have HB2 := Aside0.mk hB2
  have HS2 := Aside0.mk hs2
  clear hwa hw2 hq hs k0 k1 hb1 hb2 HW2 HQ HG
  refine wpIn_rangeFunc_ownH rfl (by omega) (gf := 63) (lb := #[.pointer (some ⟨w.heap.size + 1 + 1, 0, none⟩), .pointer (some ⟨w.heap.size + 1 + 1 + 1, 0, none⟩)]) rfl trivial (Go.Proofs.enters_of Try.func63 (by kernel_rfl) rfl)
    (back_stops (n - 1) (by omega) (w.heap.size + 1 + 1) g ao cap L rc id w w2 HL.out hB2 htwo (by omega)) (fun h k => h.trans k) (fun W l o o' hl ho hc hw => (only_of_grown (grownBy_putObj' W l o')).mono (fun i e => by cases e; exact ⟨by omega, by omega⟩)) (Below.refl _ _) (fun _ => rfl)
    (fun pre W => (∀ j ∈ pre, okR v (rc j) = false) ∧ (Boxed W w.heap.size 50 (.int .u64 v) ∧ Boxed W (w.heap.size + 1) 3 (.int .i64 0)) ∧ Below w.heap.size w W ∧ w.heap.size + 4 ≤ W.heap.size)
    (fun c pre W => (c = .ret ∧ ∃ pre0 i, pre = pre0 ++ [i] ∧ (∀ j ∈ pre0, okR v (rc j) = false) ∧ okR v (rc i) = true ∧ W.heap[w.heap.size + 1]? = some (.cells #[.int .i64 (i : Nat)] 3 (0, 0))) ∧ Below w.heap.size w W ∧ w.heap.size + 4 ≤ W.heap.size)
    ?own ?ownx
    ⟨by simp, ⟨m0, m1⟩, hB2, by omega⟩
    (fun x a' W => ∃ Bx, W.heap[Bx]? = some (.cells (rc x).toArray 102 (0, 0)) ∧ a' = { tmps := #[.pointer (some ⟨g, 0, none⟩), .int .u32 id, .int .u64 v, undef, undef, .pointer (some ⟨w.heap.size, 0, none⟩), .pointer (some ⟨w.heap.size + 1, 0, none⟩), .int .i64 (x : Nat), .pointer (some ⟨Bx, 0, none⟩), .pointer (some ⟨g, 0, none⟩), .int .u32 id, .func (.func 63) #[] #[.pointer (some ⟨w.heap.size + 1 + 1, 0, none⟩), .pointer (some ⟨w.heap.size + 1 + 1 + 1, 0, none⟩)], .int .i64 (x : Nat), .agg (rc x).toArray, undef, undef, undef, undef, undef], defers := [] })
    (fun x a' _ X Y row hs hg hr => by obtain ⟨Bx, h2, h3⟩ := hs; exact ⟨Bx, (hg.block Bx (Array.getElem?_eq_some_iff.1 h2).1 (fun e => by obtain ⟨_, o, ho, hc⟩ := hr Bx e.symm; rw [h2] at ho; cases ho; cases hc)).trans h2, h3⟩)
    ?assign ?body ?done ?stop
  case own => exact OwnFrom.and (own_const _ _) (OwnFrom.and (OwnFrom.and (Own.from (boxed_own _ _ (fun _ => Value.int .u64 v)) _) (Own.from (boxed_own _ _ (fun _ => Value.int .i64 0)) _)) (OwnFrom.and (ownFrom_below (Nat.le_refl _) (by omega)) (own_size _ _)))
  case ownx =>
    intro c
    refine OwnFrom.and ?_ (OwnFrom.and (ownFrom_below (Nat.le_refl _) (by omega)) (own_size _ _))
    intro s A B row hs hg hr
    obtain ⟨hc, pre0, i, e1, e2, e3, e4⟩ := hs
    exact ⟨hc, pre0, i, e1, e2, e3, (hg.block _ (blk_lt' e4) (fun e => by obtain ⟨_, o, ho, hcc⟩ := hr _ e.symm; rw [e4] at ho; cases ho; cases hcc)).trans e4⟩
  case assign =>
    rintro lo pre x W K' ⟨hO, ⟨hV, hR⟩, hW, hz⟩ hK
    obtain ⟨a, b, c, A1, n1, d1, A2, n2, d2, e5⟩ := H5.out x
    rw [e5]
    gi_wp2
    have hbx : Below W.heap.size W (W.alloc (.cells #[.int .u64 a, .bool b, .int .u32 c, .slice A1 n1 d1, .slice A2 n2 d2] 102)) := below_alloc (Below.refl _ _) _
    refine hK _ _ (keeps_below _ hbx) (Only.of_below hbx) ⟨hO, ⟨hV.alloc _, hR.alloc _⟩, bel_trans hW hbx, Nat.le_trans hz hbx.size⟩ ⟨W.heap.size, ?_, ?_⟩
    · rw [e5]; exact heap_alloc_new W _
    · rw [e5]
  case body =>
    rintro lo pre x a' W hl ⟨r, hr⟩ ⟨hO, ⟨hV, hR⟩, hW, hz⟩ ⟨Bx, bX, rfl⟩ hlt
    obtain ⟨a, b, c, A1, n1, d1, A2, n2, d2, e5⟩ := H5.out x
    have e6 : okR v (rc x) = decide (a ≤ v) := by rw [e5]; rfl
    rw [e5] at bX ⊢
    have x0 := (blk_cell bX 0).trans rfl
    have cV := hV.cell
    have cR := hR.cell
    have fR := hR.frozen
    cases q : decide (a ≤ v) with
    | false =>
      gi_wp2
      rw [q] at e6
      exact ⟨keeps_below _ (Below.refl _ _), Only.refl _ _, fun j hj => by
        rcases List.mem_append.1 hj with hj | hj
        · exact hO j hj
        · rw [List.mem_singleton] at hj; subst hj; exact e6, ⟨hV, hR⟩, hW, hz⟩
    | true =>
      gi_wp2
      rw [q] at e6
      refine ⟨keeps_set hR _, ⟨rfl, pre, x, rfl, hO, e6, hR.set _⟩, set_below hW (by omega) _, by rw [size_set]; exact hz⟩
  case done =>
    rintro D ys W hD rfl ⟨hO, ⟨hV, hR⟩, hW, hz⟩ hK
    have cR := hR.cell
    have fR := hR.frozen
    gi_wp2
    have hne : w.heap.size + 1 ≠ D := by have := HS2.out; omega
    have hK2 : (W.setCell ⟨w.heap.size + 1, 0, none⟩ (.int .i64 (-1))).heap[D]? = some (.deferred (some [])) := (Below.heap_setCell W ⟨w.heap.size + 1, 0, none⟩ _ D (fun e => hne e.symm)).trans hK
    have hb2 := ((hR.set (.int .i64 (-1))).kept (grownBy_putObj' _ D (.deferred none)) (fun e => hne (Option.some.inj e))).cell
    refine ⟨by simp, .inl ⟨_, _, rfl, run_takeDeferred hK2, ?_⟩⟩
    refine ⟨_, results_scalar rfl _ _ (w.heap.size + 1) _ rfl hb2 Try.underlying3, by rw [at_none HL.out.rows id v hO], ?_⟩
    exact (set_below hW (by omega) _).trans (belowK_b (w := w) (Nat.le_refl _) _ D _ _ (by have := HS2.out; omega) hK2 rfl rfl)
  case stop =>
    rintro D c pre W hD hp ⟨⟨rfl, pre0, i, rfl, h1, h2, hR⟩, hW, hz⟩ hK
    gi_wp2
    have hne : w.heap.size + 1 ≠ D := by have := HS2.out; omega
    have hb2 := (Boxed.kept (show Boxed W (w.heap.size + 1) 3 (.int .i64 (i : Nat)) from hR) (grownBy_putObj' _ D (.deferred none)) (fun e => hne (Option.some.inj e))).cell
    refine ⟨by simp, .inl ⟨_, _, rfl, run_takeDeferred hK, ?_⟩⟩
    refine ⟨_, results_scalar rfl _ _ (w.heap.size + 1) _ rfl hb2 Try.underlying3, by rw [at_stop HL.out.rows id v hp h1 h2], ?_⟩
    exact hW.trans (belowK_b (w := w) (Nat.le_refl _) _ D _ _ (by have := HS2.out; omega) hK rfl rfl)
section
variable {Z : Nat → Prop} {w0 w w' : World} {g : Nat} {s : St}
theorem PX.at_ (h : PX Z w0 w g s) (id v : Int) : Calls Try.prog 44 #[.pointer (some ⟨g, 0, none⟩), .int .u32 id, .int .u64 v] w fun e w' => e = .returned (.int .i64 (atI s.L id v)) ∧ PX Z w0 w' g s ∧ Below w.heap.size w w' := by
  have hh := h
  obtain ⟨vL, vK, h1, h2, h3, h4, h5⟩ := h
  obtain ⟨ao, cap, rfl, _, hr⟩ := h1.row.reads
  obtain ⟨rc, hrc, hf⟩ := RowsAt.of hr
  exact (callsIn_wide.1 (at_in 6 (Nat.le_refl _) g ao cap s.L rc id v w ⟨h1.y0, hrc, by omega⟩ hf)).mono fun e w' ⟨he, hb⟩ => ⟨he, hh.below hb, hb⟩
end
end Go.Proofs.Ytjbakaplcjkniaa.Pa
