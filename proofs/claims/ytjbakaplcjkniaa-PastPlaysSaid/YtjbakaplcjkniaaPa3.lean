/- Past: a row is laid; Put. No condition. -/
import Derived.Test.YtjbakaplcjkniaaPa2
import Derived.Deep.RegionHeld3
import Derived.Deep.AppendLies
namespace Go.Proofs.Ytjbakaplcjkniaa.Pa
open Go.RowKit Go.Proofs.YtjbakaplcjkniaaW.PrintWords Go.Proofs.YtjbakaplcjkniaaW.PrintLast Go.Proofs.YtjbakaplcjkniaaW.PrintMore Go.Proofs.Ytjbakaplcjkniaa.Pi
set_option linter.unusedVariables false
set_option linter.unusedSimpArgs false
def lay.T3 : Bool × List (List Nat × List Nat) := (true, [([], []), ([], []), ([], []), ([2], [2]), ([3], [3]), ([4], [4]), ([], []), ([6], [6]), ([5, 7], [5, 7]), ([], []), ([9], [9]), ([0, 0, 2, 3, 4, 5, 6, 7, 8], [0]), ([11, 0, 2, 3, 4, 5, 6, 7, 8], [11]), ([12, 8, 8, 0, 2, 3, 4, 5, 6, 7, 8], [8, 12]), ([1, 0, 1, 2, 3, 4, 5, 6, 7, 8, 9, 10, 11, 12, 13], [1]), ([14, 0, 1, 2, 3, 4, 5, 6, 7, 8, 9, 10, 11, 12, 13], [14]), ([15, 10, 13, 0, 1, 2, 3, 4, 5, 6, 7, 8, 9, 10, 11, 12, 13], [10, 15])])
def lay.B3 : List Nat := [0, 0, 0, 4, 12, 28, 0, 64, 252, 0, 512, 509, 2557, 6653, 16383, 32767, 65535]
theorem lay.tab3 : rtab .any (opsOf Try.f42 3) = lay.T3 := by kernel_rfl
theorem lay.bits3 : waitsOk lay.T3.2 lay.B3 = true := by kernel_rfl
abbrev zeroRow : Value := .agg #[.int .u64 0, .bool false, .int .u32 0, .slice none 0 0, .slice none 0 0]
theorem info_row : (Try.prog.info? 102).map (fun i => (i.zero, i.size, i.bytes)) = some (some zeroRow, 5, 72) := by kernel_rfl
theorem info_row2 : ∃ i, Try.prog.info? 102 = some i ∧ i.zero = some zeroRow ∧ i.size = 5 ∧ i.bytes = 72 := by
  obtain ⟨i0, hi, hzz⟩ := Option.map_eq_some_iff.1 info_row
  simp only [Prod.mk.injEq] at hzz
  exact ⟨i0, hi, hzz⟩
/-- What an append of one row leaves. -/
theorem run_append_R {Z : Nat → Prop} {w : World} (ty : TypeId) (base : Nat) (v : Value) (A : List Row) (y : Row) (p : Nat) (cs : List Value) (hv : OwnR Z w base v A) (hp : w.heap[p]? = some (.cells cs.toArray 102 (0, 0)))
    (hr : FrR Z w y cs) (hl : A.length ≤ 1000000) (hb : base ≤ w.heap.size) :
    ∃ v' w', (Builtin.append_ #[96, 96] ty #[v, .slice (some ⟨p, 0, none⟩) 1 1]).run Try.prog w = .ok v' w' ∧ OwnR Z w' base v' (A ++ [y]) ∧ Only (fun i => v.ownBlock = some i) w w' ∧ (v'.ownBlock = v.ownBlock ∨ v'.ownBlock = some w.heap.size) := by
  obtain ⟨i0, hi, hz, hsz, hby⟩ := info_row2
  have hv0 := hv
  obtain ⟨inner, h1, h2⟩ := hv
  have hc5 := hr.now.one
  obtain ⟨v', w', hrun, hown, hgr, hne, hat⟩ := run_append_own_at (P := Try.prog) w base 96 ty 102 i0 _ 5 72 Try.underlying96 hi hz hsz hby rfl (by omega) v A.length inner h1 ⟨p, 0, none⟩ 1 1 cs (by rw [hc5.1])
    (fun j u hu => by rw [add_plain, blk_cell hp, List.getElem?_toArray]; exact hu) hc5.2 (by unfold maxLen; omega) (by omega) hb
  have hO : Only (fun i => v.ownBlock = some i) w w' := Only.of_grown hgr (fun k hk => hk)
  have hM : Mem Z w w' := Mem.only (hO.mono (fun k hk => by obtain ⟨c, hc⟩ := hv0.typed k hk; exact ⟨c, .inl hc⟩))
  have hil : inner.length = A.length * 5 := h1.1
  refine ⟨v', w', hrun, ⟨inner ++ cs, by rw [List.length_append]; exact hown, fun j x hx => ?_⟩, hO, hat⟩
  by_cases hj : j < A.length
  · rw [List.getElem?_append_left hj] at hx
    have e : ((inner ++ cs).drop (j * 5)).take 5 = (inner.drop (j * 5)).take 5 := by
      rw [List.drop_append_of_le_length (by omega), List.take_append_of_le_length (by rw [List.length_drop]; omega)]
    rw [e]
    exact (h2 j x hx).on hM
  · rw [List.getElem?_append_right (by omega)] at hx
    have hj0 : j - A.length = 0 := by
      have := (List.getElem?_eq_some_iff.1 hx).1
      simp at this; omega
    rw [hj0] at hx
    cases hx
    have e : ((inner ++ cs).drop (j * 5)).take 5 = cs := by
      rw [List.drop_append, List.drop_eq_nil_of_le (by omega), List.nil_append, show j * 5 - inner.length = 0 by omega, List.drop_zero, List.take_of_length_le (by rw [hc5.1]; exact Nat.le_refl _)]
    rw [e]
    exact hr.on hM
section
variable {ops : Array Oper} {o : Oper} {a : Act} {w : World} {K : Act → World → Prop} {Q : Exit → Act → World → Prop} {E : Prop}
theorem step_append_R {Z : Nat → Prop} (hgd : o.guard = none) (s x : Operand) (ho : o.op = .call { callee := .builtin .append, args := #[s, x], argTypes := #[96, 96] })
    (base : Nat) (v : Value) (A : List Row) (y : Row) (p : Nat) (cs : List Value) (hs : a.eval s = v) (hx : a.eval x = .slice (some ⟨p, 0, none⟩) 1 1) (hv : OwnR Z w base v A) (hp : w.heap[p]? = some (.cells cs.toArray 102 (0, 0)))
    (hr : FrR Z w y cs) (hl : A.length ≤ 1000000) (hb : base ≤ w.heap.size)
    (h : ∀ v' w', OwnR Z w' base v' (A ++ [y]) → Only (fun i => v.ownBlock = some i) w w' → (v'.ownBlock = v.ownBlock ∨ v'.ownBlock = some w.heap.size) → K (a.put o.dst v') w') : if Region.wanted o (yielded ops a.tmps) = true then Oper.wp Try.prog o a w K Q else E := by
  obtain ⟨v', w', hrun, h1, h2, h3⟩ := run_append_R o.type base v A y p cs hv hp hr hl hb
  rw [if_pos (by simp [Region.wanted, hgd])]
  unfold Oper.wp execOp
  simp only [ho, resolve, invoke, builtin, Sem.run_bind, Sem.run_pure, Result.andThen_ok, List.map_toArray, List.map_cons, List.map_nil, hs, hx, hrun]
  exact h v' w' h1 h2 h3
end
/-- Rows of other types stay. -/
theorem R_tt {α : Type} {d : Kd α} {e : Nat} {w w1 : World} {base : Nat} {ok : Nat → Prop} {v : Value} {xs : List α} (h : d.R e w base ok v xs) (hO : Only (TT w) w w1) (ht : ∀ q, q ∈ e :: d.E → q ≠ 102 ∧ q ≠ 98) : d.R e w1 base ok v xs := by
  refine Kd.R_mono (Kd.R_step (Kd.R_bound h) (fun k hk hlt => hO.block k hlt (fun hp => ?_))) (fun k hk => hk.1)
  obtain ⟨_, _, _, q, hq, cells, hc⟩ := hk
  obtain ⟨cells', hp | hp⟩ := hp
  · exact (ht q hq).1 (blk_type hc hp)
  · exact (ht q hq).2 (blk_type hc hp)
/-- A past's own blocks: its box, its rows. -/
def FT (w : World) (g k : Nat) : Prop := k = g ∨ ∃ v, w.cell? ⟨g, 0, none⟩ = some v ∧ v.ownBlock = some k
theorem FT_back {w w1 : World} {g i : Nat} (hb : Below w.heap.size w w1) (hg : g < w.heap.size) (h : FT w1 g i) : FT w g i := by
  rcases h with h | ⟨v, h1, h2⟩
  · exact .inl h
  · refine .inr ⟨v, ?_, h2⟩
    rw [← h1]
    exact (hb.cell (p := ⟨g, 0, none⟩) hg).symm
/-- What an op on a past may write; where its rows may lie then. -/
structure Turns (g : Nat) (w w' : World) : Prop where
  only : Only (fun k => TT w k ∧ FT w g k) w w'
  foot : ∀ k, FT w' g k → FT w g k ∨ w.heap.size ≤ k
theorem Turns.of_below {g : Nat} {w w' : World} (hg : g < w.heap.size) (hb : Below w.heap.size w w') : Turns g w w' := ⟨Only.of_below hb, fun k hk => .inl (FT_back hb hg hk)⟩
theorem TT_back0 {w w1 : World} (hb : Below w.heap.size w w1) {i : Nat} (hi : i < w.heap.size) (h : TT w1 i) : TT w i := by
  obtain ⟨c, h⟩ := h
  rw [hb.block i hi] at h
  exact ⟨c, h⟩
theorem Turns.behind {g : Nat} {w w1 w' : World} (hg : g < w.heap.size) (hb : Below w.heap.size w w1) (h : Turns g w1 w') : Turns g w w' :=
  ⟨(Only.of_below hb).then_ h.only (fun i hi hlt => ⟨TT_back0 hb hlt hi.1, FT_back hb hg hi.2⟩), fun k hk => by
    rcases h.foot k hk with h1 | h1
    · exact .inl (FT_back hb hg h1)
    · exact .inr (Nat.le_trans hb.size h1)⟩
/-- What a row that is laid leaves. -/
def Laid (Z : Nat → Prop) (w w' : World) (base g : Nat) (vK : Value) (L : List Row) (floor : Int) (K : List Int) (r : Row) : Prop := ∃ vL', Past Z w' base g vL' vK (L ++ [r]) r.v floor K ∧ Only (fun k => (TT w k ∧ FT w g k) ∧ base ≤ k) w w' ∧ ∀ k, vL'.ownBlock = some k → FT w g k ∨ w.heap.size ≤ k
theorem OwnR.put {Z : Nat → Prop} {w : World} {base g : Nat} {v u : Value} {L : List Row} {j : Nat} {cells : Array Value} (h : OwnR Z w base v L) (hb : w.heap[g]? = some (.cells cells 98 (0, 0))) : OwnR Z (w.setCell ⟨g, j, none⟩ u) base v L :=
  h.move (fun k hk => Below.heap_setCell w ⟨g, j, none⟩ u k (fun e => by obtain ⟨c, hc⟩ := h.typed k hk; have e : k = g := e; subst e; exact absurd (blk_type hc hb) (by decide))) (Mem.only ((Only.refl _ _).set _ _ ⟨cells, .inr hb⟩))
set_option maxHeartbeats 4000000 in
set_option maxRecDepth 100000 in
theorem lay_full (Z : Nat → Prop) (base g : Nat) (vL vK : Value) (L : List Row) (last floor : Int) (K : List Int) (cs : List Value) (w : World) (h : Past Z w base g vL vK L last floor K) (hl : 1024 ≤ L.length) (hl2 : L.length ≤ 100000) (hcs : cs.length = 5) :
    Calls Try.prog 42 #[.pointer (some ⟨g, 0, none⟩), .agg cs.toArray] w fun e w' => e = .returned (.int .i64 4) ∧ Below w.heap.size w w' := by
  have hu2 := Try.underlying98
  have hu3 := Try.underlying102
  obtain ⟨ao, cap, rfl, _, _⟩ := h.row.reads
  have HB := Aside0.mk (below_alloc (Below.refl w.heap.size w) (.cells cs.toArray 102))
  have y0 := (h.below HB.out).y0
  have q1 : decide ((1024 : Int) ≤ (L.length : Int)) = true := decide_eq_true (by omega)
  have q2 : (1024 : Nat) ≤ L.length := hl
  have HG := Aside0.mk h.lt
  obtain ⟨d0, d1, d2, d3, d4, rfl⟩ : ∃ d0 d1 d2 d3 d4, cs = [d0, d1, d2, d3, d4] := by
    match cs, hcs with
    | [a, b, c, d, e], _ => exact ⟨a, b, c, d, e, rfl⟩
  clear h hl hcs
  go_enter Try.func42, Try.ntmps42
  go_wp2
  go_ret
  exact ⟨rfl, HB.out⟩
set_option maxHeartbeats 4000000 in
set_option maxRecDepth 100000 in
theorem lay_some (Z : Nat → Prop) (base g : Nat) (vL vK : Value) (L : List Row) (last floor : Int) (K : List Int) (r : Row) (A1 : Option Addr) (c1 : Nat) (A2 : Option Addr) (c2 : Nat) (w : World) (h : Past Z w base g vL vK L last floor K) (hl : L.length < 1024) (hb : base ≤ w.heap.size)
    (hF : FrR Z w r [.int .u64 r.v, .bool r.gone, .int .u32 r.id, .slice A1 r.vec.length c1, .slice A2 r.tags.length c2]) :
    Calls Try.prog 42 #[.pointer (some ⟨g, 0, none⟩), .agg #[.int .u64 r.v, .bool r.gone, .int .u32 r.id, .slice A1 r.vec.length c1, .slice A2 r.tags.length c2]] w fun e w' => e = .returned (.int .i64 0) ∧ Laid Z w w' base g vK L floor K r := by
  have hu2 := Try.underlying98
  have hu3 := Try.underlying102
  obtain ⟨ao, cap, rfl, _, _⟩ := h.row.reads
  have q1 : decide ((1024 : Int) ≤ (L.length : Int)) = false := decide_eq_false (by omega)
  have q2 : (1024 ≤ L.length) = False := eq_false (by omega)
  have q3 : decide (1024 ≤ L.length) = false := decide_eq_false (by omega)
  have HL := Aside0.mk hl
  have HBS := Aside0.mk hb
  have HVL := Aside0.mk h.row.lt
  have HTY := Aside0.mk (show ∀ k, (Value.slice ao L.length cap).ownBlock = some k → (TT w k ∧ FT w g k) ∧ base ≤ k from fun k hk => by obtain ⟨c, hc⟩ := h.row.typed k hk; exact ⟨⟨⟨c, .inl hc⟩, .inr ⟨_, h.y0, hk⟩⟩, h.row.base k hk⟩)
  have HGT := Aside0.mk (show (TT w g ∧ FT w g g) ∧ base ≤ g from ⟨⟨⟨_, .inr h.box⟩, .inl rfl⟩, h.gb⟩)
  have hb1 := below_alloc (Below.refl w.heap.size w) (.cells #[.int .u64 r.v, .bool r.gone, .int .u32 r.id, .slice A1 r.vec.length c1, .slice A2 r.tags.length c2] 102)
  have HP0 := Aside0.mk (h.below hb1)
  have y0 := HP0.out.y0
  have HF0 := Aside0.mk (hF.on (Mem.below hb1))
  have HX0 := Aside0.mk (heap_alloc_new w (.cells #[.int .u64 r.v, .bool r.gone, .int .u32 r.id, .slice A1 r.vec.length c1, .slice A2 r.tags.length c2] 102))
  have HB0 := Aside0.mk hb1
  clear h hl hb hF hb1
  go_enter Try.func42, Try.ntmps42
  go_wp2
  obtain ⟨wb, hwb⟩ : ∃ z, w.alloc (.cells #[.int .u64 r.v, .bool r.gone, .int .u32 r.id, .slice A1 r.vec.length c1, .slice A2 r.tags.length c2] 102) = z := ⟨_, rfl⟩
  rw [hwb] at HP0 HF0 HX0 HB0 ⊢
  have HP := Aside0.mk (HP0.out.below (below_drew (Below.refl _ _)))
  have HF := Aside0.mk (HF0.out.on (Mem.below (below_drew (Below.refl _ _))))
  have HX := Aside0.mk (blk_below HX0.out (below_drew (Below.refl _ _)))
  have HB := Aside0.mk (bel_trans HB0.out (below_drew (Below.refl _ _)))
  clear HP0 HF0 HX0 HB0 hwb y0
  refine start_ (n := 17) (S := fun w' => w'.cell? ⟨w.heap.size, 0, none⟩ = some (.int .u64 r.v) ∧ w'.cell? ⟨w.heap.size, 1, none⟩ = some (.bool r.gone) ∧ w'.cell? ⟨w.heap.size, 2, none⟩ = some (.int .u32 r.id) ∧ w'.cell? ⟨w.heap.size, 3, none⟩ = some (.slice A1 r.vec.length c1) ∧ w'.cell? ⟨w.heap.size, 4, none⟩ = some (.slice A2 r.tags.length c2)) (ds := [16]) #[false, false, false, false, false, false, false, false, false, false, false, false, false, false, false, false, false] (by kernel_rfl) rfl rfl ⟨((blk_cell HX.out 0).trans rfl), ((blk_cell HX.out 1).trans rfl), ((blk_cell HX.out 2).trans rfl), ((blk_cell HX.out 3).trans rfl), ((blk_cell HX.out 4).trans rfl)⟩ (fun hHeld => ?_)
  refine with_tabW lay.tab3 lay.bits3 (fun HT_ HW_ => ?_)
  generalize wb.drew = wd at HP HF HX HB hHeld ⊢
  refine pure_ (i := 0) (N := some 11) (v := ?_) (a' := ?_) #[true, false, false, false, false, false, false, false, false, false, false, false, false, false, false, false, false] rfl rfl (any_of HT_.out (by kernel_rfl)) (fun _ _ _ h => h) (Or.inl ⟨by rfl, ?_⟩) ?_ ?_
  rotate_left
  · intro w'
    go_simp
    with_reducible rfl
  rotate_left
  · simp only [Act.put, List.setIfInBounds_toArray, List.set_cons_zero, List.set_cons_succ, i64_w, i32_w]
    rfl
  refine pure_ (i := 1) (N := some 12) (v := ?_) (a' := ?_) #[true, true, false, false, false, false, false, false, false, false, false, false, false, false, false, false, false] rfl rfl (any_of HT_.out (by kernel_rfl)) (fun _ _ _ h => h) (Or.inl ⟨by rfl, ?_⟩) ?_ ?_
  rotate_left
  · intro w'
    go_simp
    with_reducible rfl
  rotate_left
  · simp only [Act.put, List.setIfInBounds_toArray, List.set_cons_zero, List.set_cons_succ, i64_w, i32_w]
    rfl
  refine pure_ (i := 2) (N := some 13) (v := ?_) (a' := ?_) #[true, true, true, false, false, false, false, false, false, false, false, false, false, false, false, false, false] rfl rfl (any_of HT_.out (by kernel_rfl)) (fun _ _ _ h => h) (Or.inl ⟨by rfl, ?_⟩) ?_ ?_
  rotate_left
  · intro w'
    go_simp
    with_reducible rfl
  rotate_left
  · simp only [Act.put, List.setIfInBounds_toArray, List.set_cons_zero, List.set_cons_succ, i64_w, i32_w]
    rfl
  refine pure_ (i := 3) (N := some 14) (v := ?_) (a' := ?_) #[true, true, true, true, false, false, false, false, false, false, false, false, false, false, false, false, false] rfl rfl (any_of HT_.out (by kernel_rfl)) (fun _ _ _ h => h) (Or.inl ⟨by rfl, ?_⟩) ?_ ?_
  rotate_left
  · intro w'
    go_simp
    with_reducible rfl
  rotate_left
  · simp only [Act.put, List.setIfInBounds_toArray, List.set_cons_zero, List.set_cons_succ, i64_w, i32_w]
    rfl
  refine pure_ (i := 4) (N := some 15) (v := ?_) (a' := ?_) #[true, true, true, true, true, false, false, false, false, false, false, false, false, false, false, false, false] rfl rfl (any_of HT_.out (by kernel_rfl)) (fun _ _ _ h => h) (Or.inl ⟨by rfl, ?_⟩) ?_ ?_
  rotate_left
  · intro w'
    go_simp
    with_reducible rfl
  rotate_left
  · simp only [Act.put, List.setIfInBounds_toArray, List.set_cons_zero, List.set_cons_succ, i64_w, i32_w]
    rfl
  refine pure_ (i := 9) (N := some 20) (v := ?_) (a' := ?_) #[true, true, true, true, true, false, false, false, false, true, false, false, false, false, false, false, false] rfl rfl (any_of HT_.out (by kernel_rfl)) (fun _ _ _ h => h) (Or.inl ⟨by rfl, ?_⟩) ?_ ?_
  rotate_left
  · intro w'
    go_simp
    with_reducible rfl
  rotate_left
  · simp only [Act.put, List.setIfInBounds_toArray, List.set_cons_zero, List.set_cons_succ, i64_w, i32_w]
    rfl
  refine take_ (i := 6) (N := some 17) (v := ?_) (a' := ?_) #[true, true, true, true, true, false, true, false, false, true, false, false, false, false, false, false, false] rfl rfl (take_ofW HT_.out HW_.out (by kernel_rfl)) (fun _ _ _ h => h) (Or.inl ⟨by rfl, ?_⟩) hHeld ?_ ?_
  rotate_left
  · rintro w' ⟨s0, s1, s2, s3, s4⟩
    go_simp
    with_reducible rfl
  rotate_left
  · simp only [Act.put, List.setIfInBounds_toArray, List.set_cons_zero, List.set_cons_succ, i64_w, i32_w]
    rfl
  refine take_ (i := 10) (N := some 21) (v := ?_) (a' := ?_) #[true, true, true, true, true, false, true, false, false, true, true, false, false, false, false, false, false] rfl rfl (take_ofW HT_.out HW_.out (by kernel_rfl)) (fun _ _ _ h => h) (Or.inl ⟨by rfl, ?_⟩) hHeld ?_ ?_
  rotate_left
  · rintro w' ⟨s0, s1, s2, s3, s4⟩
    go_simp
    with_reducible rfl
  rotate_left
  · simp only [Act.put, List.setIfInBounds_toArray, List.set_cons_zero, List.set_cons_succ, i64_w, i32_w]
    rfl
  refine join_ (σ := Unit) 7 #[true, true, true, true, true, true, true, true, false, true, true, false, false, false, false, false, false] (fun _ => [(16, .slice ao L.length cap), (18, .slice (some ⟨(World.heap wd).size, 0, none⟩) 1 1)]) (fun _ w' => w' = World.alloc wd (.cells #[.int .u64 r.v, .bool r.gone, .int .u32 r.id, .slice A1 r.vec.length c1, .slice A2 r.tags.length c2] 102)) ?_ ?_
  rotate_left
  · intro hCont
    refine two_ (i := 5) (j := 7) (Ni := some 16) (Nj := some 18) #[true, true, true, true, true, true, true, false, false, true, true, false, false, false, false, false, false] #[true, true, true, true, true, false, true, true, false, true, true, false, false, false, false, false, false] rfl rfl rfl rfl (two_of HT_.out (by kernel_rfl)) (by decide) (by decide) (fun K hK => ?_) (fun K hK => ?_)
    · skip
      have yl := HP.out.y0
      refine value_ (w1 := ?_) (v := ?_) (by rfl) rfl ?_ ?_
      rotate_left 2
      · go_simp
        constructor
        · rfl
        · rfl
      clear yl
      refine hK.out _ _ ⟨((blk_cell HX.out 0).trans rfl), ((blk_cell HX.out 1).trans rfl), ((blk_cell HX.out 2).trans rfl), ((blk_cell HX.out 3).trans rfl), ((blk_cell HX.out 4).trans rfl)⟩ (fun hHeld => ?_)
      clear hK K
      refine norm_ (a' := ?_) ?_ ?_
      rotate_left
      · show Act.put _ (some 16) _ = _
        simp only [Act.put, List.setIfInBounds_toArray, List.set_cons_zero, List.set_cons_succ, i64_w, i32_w]
        rfl
      refine one_ (i := 7) (N := some 18) #[true, true, true, true, true, true, true, true, false, true, true, false, false, false, false, false, false] rfl rfl (one_of HT_.out (by kernel_rfl)) (by decide) (fun K hK => ?_)
      refine value_ (w1 := ?_) (v := ?_) (by rfl) rfl ?_ ?_
      rotate_left 2
      · go_simp
        constructor
        · rfl
        · rfl
      refine hK.out _ _ ⟨((blk_cell (blk_alloc HX.out (.cells #[.int .u64 r.v, .bool r.gone, .int .u32 r.id, .slice A1 r.vec.length c1, .slice A2 r.tags.length c2] 102)) 0).trans rfl), ((blk_cell (blk_alloc HX.out (.cells #[.int .u64 r.v, .bool r.gone, .int .u32 r.id, .slice A1 r.vec.length c1, .slice A2 r.tags.length c2] 102)) 1).trans rfl), ((blk_cell (blk_alloc HX.out (.cells #[.int .u64 r.v, .bool r.gone, .int .u32 r.id, .slice A1 r.vec.length c1, .slice A2 r.tags.length c2] 102)) 2).trans rfl), ((blk_cell (blk_alloc HX.out (.cells #[.int .u64 r.v, .bool r.gone, .int .u32 r.id, .slice A1 r.vec.length c1, .slice A2 r.tags.length c2] 102)) 3).trans rfl), ((blk_cell (blk_alloc HX.out (.cells #[.int .u64 r.v, .bool r.gone, .int .u32 r.id, .slice A1 r.vec.length c1, .slice A2 r.tags.length c2] 102)) 4).trans rfl)⟩ (fun hHeld => ?_)
      clear hK K
      refine norm_ (a' := ?_) ?_ ?_
      rotate_left
      · show Act.put _ (some 18) _ = _
        simp only [Act.put, List.setIfInBounds_toArray, List.set_cons_zero, List.set_cons_succ, i64_w, i32_w]
        rfl
      exact norm_ (by simp only [Go.Proofs.YtjbakaplcjkniaaW.PrintLast.putAll, Act.put, List.setIfInBounds_toArray, List.set_cons_zero, List.set_cons_succ]) (hCont () _ rfl)
    · skip
      refine value_ (w1 := ?_) (v := ?_) (by rfl) rfl ?_ ?_
      rotate_left 2
      · go_simp
        constructor
        · rfl
        · rfl
      refine hK.out _ _ ⟨((blk_cell (blk_alloc HX.out (.cells #[.int .u64 r.v, .bool r.gone, .int .u32 r.id, .slice A1 r.vec.length c1, .slice A2 r.tags.length c2] 102)) 0).trans rfl), ((blk_cell (blk_alloc HX.out (.cells #[.int .u64 r.v, .bool r.gone, .int .u32 r.id, .slice A1 r.vec.length c1, .slice A2 r.tags.length c2] 102)) 1).trans rfl), ((blk_cell (blk_alloc HX.out (.cells #[.int .u64 r.v, .bool r.gone, .int .u32 r.id, .slice A1 r.vec.length c1, .slice A2 r.tags.length c2] 102)) 2).trans rfl), ((blk_cell (blk_alloc HX.out (.cells #[.int .u64 r.v, .bool r.gone, .int .u32 r.id, .slice A1 r.vec.length c1, .slice A2 r.tags.length c2] 102)) 3).trans rfl), ((blk_cell (blk_alloc HX.out (.cells #[.int .u64 r.v, .bool r.gone, .int .u32 r.id, .slice A1 r.vec.length c1, .slice A2 r.tags.length c2] 102)) 4).trans rfl)⟩ (fun hHeld => ?_)
      clear hK K
      refine norm_ (a' := ?_) ?_ ?_
      rotate_left
      · show Act.put _ (some 18) _ = _
        simp only [Act.put, List.setIfInBounds_toArray, List.set_cons_zero, List.set_cons_succ, i64_w, i32_w]
        rfl
      refine one_ (i := 5) (N := some 16) #[true, true, true, true, true, true, true, true, false, true, true, false, false, false, false, false, false] rfl rfl (one_of HT_.out (by kernel_rfl)) (by decide) (fun K hK => ?_)
      have yl := (HP.out.below (below_alloc (Below.refl _ _) (.cells #[.int .u64 r.v, .bool r.gone, .int .u32 r.id, .slice A1 r.vec.length c1, .slice A2 r.tags.length c2] 102))).y0
      refine value_ (w1 := ?_) (v := ?_) (by rfl) rfl ?_ ?_
      rotate_left 2
      · go_simp
        constructor
        · rfl
        · rfl
      clear yl
      refine hK.out _ _ ⟨((blk_cell (blk_alloc HX.out (.cells #[.int .u64 r.v, .bool r.gone, .int .u32 r.id, .slice A1 r.vec.length c1, .slice A2 r.tags.length c2] 102)) 0).trans rfl), ((blk_cell (blk_alloc HX.out (.cells #[.int .u64 r.v, .bool r.gone, .int .u32 r.id, .slice A1 r.vec.length c1, .slice A2 r.tags.length c2] 102)) 1).trans rfl), ((blk_cell (blk_alloc HX.out (.cells #[.int .u64 r.v, .bool r.gone, .int .u32 r.id, .slice A1 r.vec.length c1, .slice A2 r.tags.length c2] 102)) 2).trans rfl), ((blk_cell (blk_alloc HX.out (.cells #[.int .u64 r.v, .bool r.gone, .int .u32 r.id, .slice A1 r.vec.length c1, .slice A2 r.tags.length c2] 102)) 3).trans rfl), ((blk_cell (blk_alloc HX.out (.cells #[.int .u64 r.v, .bool r.gone, .int .u32 r.id, .slice A1 r.vec.length c1, .slice A2 r.tags.length c2] 102)) 4).trans rfl)⟩ (fun hHeld => ?_)
      clear hK K
      refine norm_ (a' := ?_) ?_ ?_
      rotate_left
      · show Act.put _ (some 16) _ = _
        simp only [Act.put, List.setIfInBounds_toArray, List.set_cons_zero, List.set_cons_succ, i64_w, i32_w]
        rfl
      exact norm_ (by simp only [Go.Proofs.YtjbakaplcjkniaaW.PrintLast.putAll, Act.put, List.setIfInBounds_toArray, List.set_cons_zero, List.set_cons_succ]) (hCont () _ rfl)
  rintro _ w5 hw5
  have HP5 := Aside0.mk (HP.out.below (below_alloc (Below.refl _ _) (.cells #[.int .u64 r.v, .bool r.gone, .int .u32 r.id, .slice A1 r.vec.length c1, .slice A2 r.tags.length c2] 102)))
  have HF5 := Aside0.mk (HF.out.on (Mem.below (below_alloc (Below.refl _ _) (.cells #[.int .u64 r.v, .bool r.gone, .int .u32 r.id, .slice A1 r.vec.length c1, .slice A2 r.tags.length c2] 102))))
  have HX5 := Aside0.mk (blk_alloc HX.out (.cells #[.int .u64 r.v, .bool r.gone, .int .u32 r.id, .slice A1 r.vec.length c1, .slice A2 r.tags.length c2] 102))
  have HB5 := Aside0.mk (bel_alloc HB.out (.cells #[.int .u64 r.v, .bool r.gone, .int .u32 r.id, .slice A1 r.vec.length c1, .slice A2 r.tags.length c2] 102))
  have HN5 := Aside0.mk (heap_alloc_new wd (.cells #[.int .u64 r.v, .bool r.gone, .int .u32 r.id, .slice A1 r.vec.length c1, .slice A2 r.tags.length c2] 102))
  rw [← hw5] at HP5 HF5 HX5 HB5 HN5
  clear hw5 HP HF HX HB
  have hHeld := And.intro ((blk_cell HX5.out 0).trans rfl) (And.intro ((blk_cell HX5.out 1).trans rfl) (And.intro ((blk_cell HX5.out 2).trans rfl) (And.intro ((blk_cell HX5.out 3).trans rfl) ((blk_cell HX5.out 4).trans rfl))))
  refine norm_ (a' := ?_) ?_ ?_
  rotate_left
  · simp only [Go.Proofs.YtjbakaplcjkniaaW.PrintLast.putAll, Act.put, List.setIfInBounds_toArray, List.set_cons_zero, List.set_cons_succ]
    rfl
  refine one_ (i := 8) (N := some 19) #[true, true, true, true, true, true, true, true, true, true, true, false, false, false, false, false, false] rfl rfl (one_of HT_.out (by kernel_rfl)) (by decide) (fun K hK => ?_)
  refine step_append_R rfl (.tmp 16) (.tmp 18) rfl base (.slice ao L.length cap) L r (World.heap wd).size [.int .u64 r.v, .bool r.gone, .int .u32 r.id, .slice A1 r.vec.length c1, .slice A2 r.tags.length c2] rfl rfl HP5.out.row HN5.out HF5.out (by have := HL.out; omega) (Nat.le_trans HBS.out HB5.out.size) ?_
  intro v6 w6 hv hO hat
  have HAT6 := Aside0.mk hat
  clear hat
  obtain ⟨L6, hL6⟩ : ∃ z, L ++ [r] = z := ⟨_, rfl⟩
  rw [hL6] at hv
  have HL6 := Aside0.mk hL6
  obtain ⟨ao6, cap6, rfl, -, -⟩ := hv.reads
  clear hL6
  have HV6 := Aside0.mk hv
  have HO6 := Aside0.mk hO
  have HG6 := Aside0.mk ((hO.block g HP5.out.lt HP5.out.apart).trans HP5.out.box)
  have HX6 := Aside0.mk ((hO.block w.heap.size (blk_lt HX5.out) (fun e => by have := HVL.out _ e; omega)).trans HX5.out)
  have HNG := Aside0.mk (show w.heap.size ≠ g from fun e => by have h1 := HX5.out; rw [e] at h1; exact absurd (blk_type h1 HP5.out.box) (by decide))
  clear hv hO
  refine hK.out _ _ ⟨((blk_cell HX6.out 0).trans rfl), ((blk_cell HX6.out 1).trans rfl), ((blk_cell HX6.out 2).trans rfl), ((blk_cell HX6.out 3).trans rfl), ((blk_cell HX6.out 4).trans rfl)⟩ (fun hHeld => ?_)
  clear hK K
  refine norm_ (a' := ?_) ?_ ?_
  rotate_left
  · show Act.put _ (some 19) _ = _
    simp only [Act.put, List.setIfInBounds_toArray, List.set_cons_zero, List.set_cons_succ, i64_w, i32_w]
    rfl
  refine pure_ (i := 11) (N := some 22) (v := ?_) (a' := ?_) #[true, true, true, true, true, true, true, true, true, true, true, true, false, false, false, false, false] rfl rfl (any_of HT_.out (by kernel_rfl)) (fun _ _ _ h => h) (Or.inl ⟨by rfl, ?_⟩) ?_ ?_
  rotate_left
  · intro w'
    go_simp
    with_reducible rfl
  rotate_left
  · simp only [Act.put, List.setIfInBounds_toArray, List.set_cons_zero, List.set_cons_succ, i64_w, i32_w]
    rfl
  refine pure_ (i := 12) (N := some 23) (v := ?_) (a' := ?_) #[true, true, true, true, true, true, true, true, true, true, true, true, true, false, false, false, false] rfl rfl (any_of HT_.out (by kernel_rfl)) (fun _ _ _ h => h) (Or.inl ⟨by rfl, ?_⟩) ?_ ?_
  rotate_left
  · intro w'
    go_simp
    with_reducible rfl
  rotate_left
  · simp only [Act.put, List.setIfInBounds_toArray, List.set_cons_zero, List.set_cons_succ, i64_w, i32_w]
    rfl
  refine one_ (i := 13) (N := none) #[true, true, true, true, true, true, true, true, true, true, true, true, true, true, false, false, false] rfl rfl (one_of HT_.out (by kernel_rfl)) (by decide) (fun K hK => ?_)
  have yg := (blk_cell HG6.out 0).trans rfl
  have fz : w6.frozen? ⟨g, 0, none⟩ = false := blk_frozen HG6.out 0
  refine skip_ (w1 := ?_) (by rfl) rfl ?_ ?_
  rotate_left
  · go_simp
    rfl
  clear yg fz
  refine hK.out _ _ ⟨((blk_cell (blk_far HX6.out (p := ⟨g, 0, none⟩) HNG.out _) 0).trans rfl), ((blk_cell (blk_far HX6.out (p := ⟨g, 0, none⟩) HNG.out _) 1).trans rfl), ((blk_cell (blk_far HX6.out (p := ⟨g, 0, none⟩) HNG.out _) 2).trans rfl), ((blk_cell (blk_far HX6.out (p := ⟨g, 0, none⟩) HNG.out _) 3).trans rfl), ((blk_cell (blk_far HX6.out (p := ⟨g, 0, none⟩) HNG.out _) 4).trans rfl)⟩ (fun hHeld => ?_)
  clear hK K
  refine pure_ (i := 14) (N := some 24) (v := ?_) (a' := ?_) #[true, true, true, true, true, true, true, true, true, true, true, true, true, true, true, false, false] rfl rfl (any_of HT_.out (by kernel_rfl)) (fun _ _ _ h => h) (Or.inl ⟨by rfl, ?_⟩) ?_ ?_
  rotate_left
  · intro w'
    go_simp
    with_reducible rfl
  rotate_left
  · simp only [Act.put, List.setIfInBounds_toArray, List.set_cons_zero, List.set_cons_succ, i64_w, i32_w]
    rfl
  refine pure_ (i := 15) (N := some 25) (v := ?_) (a' := ?_) #[true, true, true, true, true, true, true, true, true, true, true, true, true, true, true, true, false] rfl rfl (any_of HT_.out (by kernel_rfl)) (fun _ _ _ h => h) (Or.inl ⟨by rfl, ?_⟩) ?_ ?_
  rotate_left
  · intro w'
    go_simp
    with_reducible rfl
  rotate_left
  · simp only [Act.put, List.setIfInBounds_toArray, List.set_cons_zero, List.set_cons_succ, i64_w, i32_w]
    rfl
  refine last_ (i := 16) (N := none) #[true, true, true, true, true, true, true, true, true, true, true, true, true, true, true, true, true] rfl rfl (one_of HT_.out (by kernel_rfl)) (by decide) (fun K hK => ?_)
  have yg := (blk_cell (blk_set HG6.out 0 (.slice ao6 L6.length cap6)) 1).trans rfl
  have fz : (w6.setCell ⟨g, 0, none⟩ (.slice ao6 L6.length cap6)).frozen? ⟨g, 1, none⟩ = false := blk_frozen (blk_set HG6.out 0 _) 1
  refine skip_ (w1 := ?_) (by rfl) rfl ?_ ?_
  rotate_left
  · go_simp
    rfl
  refine hK.out _ _ ?_
  clear hK K
  refine done_ (done_of HT_.out (by kernel_rfl)) ?_
  go_wp2
  go_ret
  have hk6 := R_tt HP5.out.kept (HO6.out.mono (fun k hk => by obtain ⟨c, hc⟩ := HP5.out.row.typed k hk; exact ⟨c, .inl hc⟩)) (by decide)
  refine ⟨rfl, .slice ao6 L6.length cap6, ⟨blk_put (blk_put HG6.out 0 _ rfl) 1 _ rfl, ?_, Kd.R_set (Kd.R_set hk6 HG6.out (by decide) 0 _) (blk_set HG6.out 0 _) (by decide) 1 _, HP5.out.gb⟩, ?_, fun k hk => ?_⟩
  · rw [HL6.out]
    exact (HV6.out.put HG6.out).put (blk_set HG6.out 0 _)
  · exact (((Only.of_below (S := fun k => (TT w k ∧ FT w g k) ∧ base ≤ k) HB5.out).then_ HO6.out (fun i hi _ => HTY.out i hi)).set ⟨g, 0, none⟩ _ HGT.out).set ⟨g, 1, none⟩ _ HGT.out
  · rcases HAT6.out with h1 | h1
    · rw [h1] at hk
      exact .inl (HTY.out k hk).1.2
    · rw [h1] at hk
      injection hk with hk
      exact .inr (by have := HB5.out.size; omega)
end Go.Proofs.Ytjbakaplcjkniaa.Pa
