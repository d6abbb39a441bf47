/- Pipe: the first piece is deleted. No condition. -/
import Derived.Test.YtjbakaplcjkniaaPi7
import Derived.Test.YtjbakaplcjkniaaWQPut
import Derived.Deep.RegionLaw
import Derived.Lib.SliceRun
namespace Go.Proofs.Ytjbakaplcjkniaa.Pi
open Go.RowKit Go.Proofs.YtjbakaplcjkniaaW.PrintWords Go.Proofs.YtjbakaplcjkniaaW.PrintLast Go.Proofs.YtjbakaplcjkniaaW.PrintMore
variable {X : Nat → Prop}
set_option linter.unusedVariables false
set_option linter.unusedSimpArgs false
attribute [local go_sem] max2_M min2_M max_two min_two
theorem zero_piece (w : World) : (zeroValue 92).run Try.prog w = .ok (.agg #[.slice none 0 0, .int .u64 0]) w := by
  obtain ⟨i, h1, h2, _⟩ := info_piece2
  simp [zeroValue, typeInfo, h1, h2]
/-- One piece is cleared. -/
theorem run_clear_P (w : World) (ty : TypeId) (b o c : Nat) (hc : ∀ j, j < 2 → (w.cell? ⟨b, o + j, none⟩).isSome = true) (hf : ∀ j, j < 2 → w.frozen? ⟨b, o + j, none⟩ = false) :
    (Builtin.clear_ #[88] ty #[.slice (some ⟨b, o, none⟩) 1 c]).run Try.prog w = .ok (.tuple #[]) (w.setCells b o [.slice none 0 0, .int .u64 0]) := by
  have hst := run_storeCells_cells (P := Try.prog) b o [.slice none 0 0, .int .u64 0] 0 w (by simpa using hc) (by simpa using hf) (by simp [Value.oneCell'])
  simp only [Nat.add_zero] at hst
  have hz : (Builtin.zeroCells (Value.agg #[.slice none 0 0, .int .u64 0]).cells 1).toList = [.slice none 0 0, .int .u64 0] := by kernel_rfl
  simp [Builtin.clear_, run_underlying Try.underlying88, zero_piece, hz, hst]
set_option maxHeartbeats 4000000 in
set_option maxRecDepth 100000 in
theorem delete_cells (r m cap : Nat) (cur : Array Value) (w : World) (hh : w.heap[r]? = some (.cells cur 92 (0, 0))) (hsz : cur.size = cap * 2) (hm : m + 1 ≤ cap) (hn : m ≤ 1000000) (h1 : ∀ u ∈ (cur.toList.drop 2).take (m * 2), u.oneCell' = true) :
    Calls Try.prog 41 #[.slice (some ⟨r, 0, none⟩) (m + 1) cap, .int .i64 0, .int .i64 1] w fun e w' => e = .returned (.slice (some ⟨r, 0, none⟩) m cap) ∧ w' = (w.drew.setCells r 0 ((cur.toList.drop 2).take (m * 2))).setCells r (m * 2) [.slice none 0 0, .int .u64 0] := by
  obtain ⟨i0, hi, hz, hs2, hby⟩ := info_piece2
  have hu := Try.underlying88
  obtain ⟨news, hnews⟩ : ∃ x, (cur.toList.drop 2).take (m * 2) = x := ⟨_, rfl⟩
  rw [hnews] at h1 ⊢
  have hlen : news.length = m * 2 := by rw [← hnews]; simp; omega
  have hfz := blk_frozen hh
  have hcl : ∀ j, j < cap * 2 → (w.drew.cell? ⟨r, 0 + j, none⟩).isSome = true := by
    intro j hj
    rw [Nat.zero_add]
    show (w.cell? _).isSome = true
    rw [blk_cell hh]
    simp; omega
  obtain ⟨A, hA, hsrc⟩ : ∃ A : Addr, (if cap = 1 then some (⟨r, 0, none⟩ : Addr) else some ⟨r, 2, none⟩) = some A ∧ ∀ j u, news[j]? = some u → w.drew.cell? (A.add j) = some u := by
    by_cases h : cap = 1
    · refine ⟨⟨r, 0, none⟩, by simp [h], fun j u hu => ?_⟩
      have := (List.getElem?_eq_some_iff.1 hu).1
      omega
    · refine ⟨⟨r, 2, none⟩, by simp [h], fun j u hu => ?_⟩
      have hj := (List.getElem?_eq_some_iff.1 hu).1
      rw [add_at]
      show w.cell? _ = _
      rw [blk_cell hh, ← hu, ← hnews, List.getElem?_take, if_pos (by omega), List.getElem?_drop, Array.getElem?_toList]
  obtain ⟨W1, hW1⟩ : ∃ W1, w.drew.setCells r 0 news = W1 := ⟨_, rfl⟩
  obtain ⟨cur', g1, g2, g3⟩ := setCells_row (e := 92) news 0 w.drew cur hh (by omega)
  rw [hW1] at g1
  have hcl1 : ∀ ty, (Builtin.clear_ #[88] ty #[.slice (some ⟨r, m * 2, none⟩) 1 (cap - m)]).run Try.prog W1 = .ok (.tuple #[]) (W1.setCells r (m * 2) [.slice none 0 0, .int .u64 0]) :=
    fun ty => run_clear_P W1 ty r (m * 2) (cap - m) (fun j hj => by rw [blk_cell g1]; simp; omega) (fun j _ => blk_frozen g1 _)
  have s1 : news.length = m * 2 := hlen
  have H1 := Aside0.mk h1
  have HS := Aside0.mk hsrc
  have HL := Aside0.mk hlen
  have HCL := Aside0.mk hcl
  have HFZ := Aside0.mk hfz
  have HM := Aside0.mk hm
  have HI := Aside0.mk hi
  have HS2 := Aside0.mk hs2
  have HW1 := Aside0.mk hW1
  have HN := Aside0.mk hn
  have HCAP := Aside0.mk (show (1 : Nat) ≤ cap ∧ (m : Int) + 1 ≤ cap ∧ (1 : Int) ≤ cap by omega)
  clear hh hsz h1 hnews hlen hfz hcl hsrc hW1 g1 g2 g3 hi hs2 hby hz
  have i1 : m + 1 ≤ cap := hm
  have i2 : (1 : Nat) ≤ cap := by omega
  have i3 : (1 : Int) ≤ (m : Int) + 1 := by omega
  clear hm hn
  go_enter Try.func41, Try.ntmps41
  go_wp2_with fail
  go_region_law (refine step_append_room rfl (.tmp 22) (.tmp 25) 88 rfl 92 i0 2 Try.underlying88 HI.out HS2.out r 0 0 cap (by simp [Act.eval, Act.put]) A m (cap - 1) news (by simp [Act.eval, Act.put]) HL.out HS.out H1.out (by omega) (fun j hj => ⟨by have h3 := HCL.out j (by have := HL.out; omega); simpa using h3, HFZ.out _⟩) ?_; rw [Nat.zero_mul, Nat.zero_add, HW1.out])
  go_wp2
  go_ret
  exact ⟨rfl, by rw [HW1.out]⟩
/-! ### a row of pieces of the function's own, its pieces' bytes told of an elder world -/
def OwnP2 (X : Nat → Prop) (w0 w : World) (base g : Nat) (v v1 : Value) (L : Pcs) : Prop :=
  ∃ inner, w.ownsRow base 92 2 v1 L.length inner ∧ ∀ j x, L[j]? = some x → FrP X w0 v g x ((inner.drop (j * 2)).take 2)
theorem OwnP2.of {w : World} {base g : Nat} {v : Value} {L : Pcs} (h : OwnP X w base g v L) : OwnP2 X w w base g v v L := h
theorem sv_same {v v1 : Value} {g : Nat} (h : v1.ownBlock = v.ownBlock) : Sv v1 g = Sv v g := by unfold Sv; rw [h]
theorem OwnP2.back {w0 w : World} {base g : Nat} {v v1 : Value} {L : Pcs} (h : OwnP2 X w0 w base g v v1 L) (hO : Only (Sv v g) w0 w) (hv : v1.ownBlock = v.ownBlock) : OwnP X w base g v1 L := by
  obtain ⟨inner, h1, h2⟩ := h
  refine ⟨inner, h1, fun j x hx => ?_⟩
  have h3 := (h2 j x hx).on hO
  unfold FrP at h3 ⊢
  rw [sv_same hv]
  exact h3
theorem OwnP2.move {w0 w w1 : World} {base g : Nat} {v v1 : Value} {L : Pcs} (h : OwnP2 X w0 w base g v v1 L) (hm : ∀ k, v1.ownBlock = some k → w1.heap[k]? = w.heap[k]?) : OwnP2 X w0 w1 base g v v1 L := by
  obtain ⟨inner, h1, h2⟩ := h
  exact ⟨inner, own_move h1 hm, h2⟩
theorem take_two {cs : List Value} {a b : Value} (h0 : cs[0]? = some a) (h1 : cs[1]? = some b) : cs.take 2 = [a, b] := by
  match cs with
  | [] => simp at h0
  | [x] => simp at h1
  | x :: y :: r => simp at h0 h1 ⊢; exact ⟨h0, h1⟩
/-- The first piece: where it lies. -/
structure First (X : Nat → Prop) (w0 w : World) (g : Nat) (v : Value) (r cap : Nat) (cur : Array Value) (A : Addr) (c : Nat) (b : List Int) (d : Int) (m : Nat) : Prop where
  blk : w.heap[r]? = some (.cells cur 92 (0, 0))
  size : cur.size = cap * 2
  fit : m + 1 ≤ cap
  y0 : w.cell? ⟨r, 0, none⟩ = some (.slice (some A) b.length c)
  y1 : w.cell? ⟨r, 1, none⟩ = some (.int .u64 d)
  room : b.length ≤ c
  reads : ∀ W, Only (fun k => Sv v g k ∨ X k) w0 W → Kd.C (Kd.int .u8) W (some A) b.length b
  one : ∀ u ∈ (cur.toList.drop 2).take (m * 2), u.oneCell' = true
theorem OwnP2.first {w0 w : World} {base g : Nat} {v v1 : Value} {b : List Int} {d : Int} {L : Pcs} (h : OwnP2 X w0 w base g v v1 ((b, d) :: L)) (hb : 0 < b.length) :
    ∃ r cap cur A c, v1 = .slice (some ⟨r, 0, none⟩) (L.length + 1) cap ∧ First X w0 w g v r cap cur A c b d L.length := by
  obtain ⟨inner, h1, h2⟩ := h
  obtain ⟨hl, hr⟩ := h1
  rcases hr with ⟨_, e⟩ | ⟨r, cap, cur, rfl, hbs, hh, hc1, hc2, hc3, hc4⟩
  · simp at e
  · simp only [List.length_cons] at hl hc1 hc4 ⊢
    have hin : ∀ i, i < (L.length + 1) * 2 → cur[i]? = inner[i]? := fun i hi => by rw [← hc4, List.getElem?_take, if_pos hi, Array.getElem?_toList]
    have h0 := h2 0 (b, d) rfl
    obtain ⟨A, c, e, l1, g1⟩ := h0.now
    simp only [Nat.zero_mul, List.drop_zero] at e
    obtain ⟨ad, rfl, _⟩ := g1.2.2 hb
    refine ⟨r, cap, cur, ad, c, rfl, hh, hc3, hc1, ?_, ?_, l1, fun W hW => ?_, fun u hu => ?_⟩
    · rw [blk_cell hh, hin 0 (by omega)]; have h3 := congrArg (fun l : List Value => l[0]?) e; rwa [List.getElem?_take, if_pos (by omega)] at h3
    · rw [blk_cell hh, hin 1 (by omega)]; have h3 := congrArg (fun l : List Value => l[1]?) e; rwa [List.getElem?_take, if_pos (by omega)] at h3
    · obtain ⟨A', c', e', _, g'⟩ := h0 W hW
      simp only [Nat.zero_mul, List.drop_zero] at e'
      rw [e] at e'
      simp only [List.cons.injEq, Value.slice.injEq] at e'
      rw [e'.1.1]
      exact g'
    · obtain ⟨q, hq⟩ := List.getElem?_of_mem hu
      rw [List.getElem?_take] at hq
      split at hq
      · rename_i hq2
        rw [List.getElem?_drop, Array.getElem?_toList, hin (2 + q) (by omega)] at hq
        obtain ⟨x, hx⟩ : ∃ x, L[q / 2]? = some x := ⟨_, List.getElem?_eq_getElem (by omega)⟩
        have h3 := (h2 (q / 2 + 1) x (by simpa using hx)).now.one
        refine h3 u ?_
        refine List.mem_of_getElem? (i := q % 2) ?_
        rw [List.getElem?_take, if_pos (by omega), List.getElem?_drop, show (q / 2 + 1) * 2 + q % 2 = 2 + q by omega]
        exact hq
      · cases hq
/-- The first piece's bytes are cut off. -/
theorem OwnP2.cut {w0 w : World} {base g : Nat} {v : Value} {b : List Int} {d : Int} {L : Pcs} {r cap : Nat} {cur : Array Value} {A : Addr} {c k : Nat} (h : OwnP2 X w0 w base g v (.slice (some ⟨r, 0, none⟩) (L.length + 1) cap) ((b, d) :: L))
    (f : First X w0 w g v r cap cur A c b d L.length) (hk : k ≤ b.length) :
    OwnP2 X w0 (w.setCell ⟨r, 0, none⟩ (.slice (if b.length = k then some A else some (A.add k)) (b.length - k) (b.length - k))) base g v (.slice (some ⟨r, 0, none⟩) (L.length + 1) cap) ((b.drop k, d) :: L) := by
  obtain ⟨inner, h1, h2⟩ := h
  obtain ⟨hl, hr⟩ := h1
  rcases hr with ⟨e, _⟩ | ⟨r', cap', cur', e, hbs, hh, hc1, hc2, hc3, hc4⟩
  · cases e
  simp only [Value.slice.injEq, Option.some.injEq, Addr.mk.injEq] at e
  obtain ⟨⟨rfl, -⟩, -, rfl⟩ := e
  have : cur' = cur := by have := hh.symm.trans f.blk; simpa using this
  subst this
  simp only [List.length_cons] at hl hc1 hc4 ⊢
  obtain ⟨u, hu⟩ : ∃ u, (Value.slice (if b.length = k then some A else some (A.add k)) (b.length - k) (b.length - k)) = u := ⟨_, rfl⟩
  rw [hu]
  refine ⟨inner.set 0 u, ⟨by simpa using hl, .inr ⟨r, cap, cur'.setIfInBounds 0 u, rfl, hbs, blk_set hh 0 u, by simpa using hc1, hc2, by simpa using hc3, ?_⟩⟩, fun j x hx => ?_⟩
  · rw [Array.toList_setIfInBounds, List.length_cons, List.take_set, hc4]
  · match j with
    | 0 =>
      simp only [List.getElem?_cons_zero, Option.some.injEq] at hx
      subst hx
      have h0 := h2 0 (b, d) rfl
      have hin : ∀ i, i < (L.length + 1) * 2 → w.cell? ⟨r, i, none⟩ = inner[i]? := fun i hi => by rw [blk_cell hh, ← hc4, List.getElem?_take, if_pos hi, Array.getElem?_toList]
      have e1 : ((inner.set 0 u).drop (0 * 2)).take 2 = [u, .int .u64 d] := by
        refine take_two ?_ ?_
        · rw [Nat.zero_mul, List.drop_zero, List.getElem?_set_self (by omega)]
        · rw [Nat.zero_mul, List.drop_zero, List.getElem?_set_ne (by omega), ← hin 1 (by omega)]; exact f.y1
      rw [e1]
      intro W hW
      have hC := Kd.C_drop (c := b.length) (f.reads W hW) hk (Nat.le_refl _)
      rw [List.length_drop] at hC
      refine ⟨(if b.length = k then some A else some (A.add k)), b.length - k, ?_, ?_, ?_⟩
      · rw [← hu, List.length_drop]
      · rw [List.length_drop]; exact Nat.le_refl _
      · rw [List.length_drop]
        have e2 : (if b.length = k then some A else Option.map (fun x => x.add (k * (Kd.int .u8).sz)) (some A)) = (if b.length = k then some A else some (A.add k)) := by
          rw [show (Kd.int .u8).sz = 1 from rfl, Nat.mul_one]; rfl
        rw [← e2]
        exact hC
    | j + 1 =>
      rw [List.drop_set_of_lt (by omega)]
      exact h2 (j + 1) x hx
/-- The first piece is deleted. -/
theorem OwnP2.delete {w0 w : World} {base g : Nat} {v : Value} {x : List Int × Int} {L : Pcs} {r cap : Nat} {cur : Array Value} (h : OwnP2 X w0 w base g v (.slice (some ⟨r, 0, none⟩) (L.length + 1) cap) (x :: L))
    (hh : w.heap[r]? = some (.cells cur 92 (0, 0))) (z0 z1 : Value) :
    OwnP2 X w0 ((w.drew.setCells r 0 ((cur.toList.drop 2).take (L.length * 2))).setCells r (L.length * 2) [z0, z1]) base g v (.slice (some ⟨r, 0, none⟩) L.length cap) L ∧
    Only (fun i => i = r) w ((w.drew.setCells r 0 ((cur.toList.drop 2).take (L.length * 2))).setCells r (L.length * 2) [z0, z1]) := by
  obtain ⟨inner, h1, h2⟩ := h
  obtain ⟨hl, hr⟩ := h1
  rcases hr with ⟨e, _⟩ | ⟨r', cap', cur', e, hbs, hh', hc1, hc2, hc3, hc4⟩
  · cases e
  simp only [Value.slice.injEq, Option.some.injEq, Addr.mk.injEq] at e
  obtain ⟨⟨rfl, -⟩, -, rfl⟩ := e
  have : cur' = cur := by have := hh'.symm.trans hh; simpa using this
  subst this
  simp only [List.length_cons] at hl hc1 hc4 ⊢
  have hnl : ((cur'.toList.drop 2).take (L.length * 2)).length = L.length * 2 := by simp; omega
  obtain ⟨news, hn⟩ : ∃ x, (cur'.toList.drop 2).take (L.length * 2) = x := ⟨_, rfl⟩
  have hni : news = inner.drop 2 := by rw [← hn, ← hc4, List.drop_take, show (L.length + 1) * 2 - 2 = L.length * 2 by omega]
  rw [hn] at hnl ⊢
  obtain ⟨c1, g1, g2, g3⟩ := setCells_row (e := 92) news 0 w.drew cur' hh' (by omega)
  obtain ⟨c2, k1, k2, k3⟩ := setCells_row (e := 92) [z0, z1] (L.length * 2) _ c1 g1 (by rw [g2]; simp; omega)
  obtain ⟨s1, s2, s3, s4⟩ := setCells_same r news 0 w.drew
  obtain ⟨t1, t2, t3, t4⟩ := setCells_same r [z0, z1] (L.length * 2) (w.drew.setCells r 0 news)
  refine ⟨⟨news, ⟨hnl, .inr ⟨r, cap, c2, rfl, hbs, k1, by omega, hc2, by rw [k2, g2, hc3], ?_⟩⟩, fun j y hy => ?_⟩, ?_⟩
  · rw [k3, List.append_assoc, List.take_append_of_le_length (by simp; omega), g3]
    simp only [List.take_zero, List.nil_append, Nat.zero_add]
    rw [List.take_take, Nat.min_self, List.take_append_of_le_length (by omega), List.take_of_length_le (by omega)]
  · have h3 := h2 (j + 1) y (by simpa using hy)
    rw [hni, List.drop_drop, show 2 + j * 2 = (j + 1) * 2 by omega]
    exact h3
  · refine ⟨t1.trans s1, t2.trans (s2.trans (by rfl)), t3.trans s3, by rw [t4, s4]; exact Nat.le_refl _, fun k hk hs => ?_⟩
    rw [setCells_far _ _ k hs, setCells_far _ _ k hs]
    rfl
end Go.Proofs.Ytjbakaplcjkniaa.Pi
