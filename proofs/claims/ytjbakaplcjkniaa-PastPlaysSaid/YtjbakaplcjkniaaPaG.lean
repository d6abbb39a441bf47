/- Past: lists that were told, and what stays as it was. No condition. -/
import Derived.Test.YtjbakaplcjkniaaPaF
namespace Go.Proofs.Ytjbakaplcjkniaa.Pa
open Go.RowKit Go.Maps Go.Proofs.YtjbakaplcjkniaaW.PrintWords Go.Proofs.YtjbakaplcjkniaaW.PrintLast Go.Proofs.YtjbakaplcjkniaaW.PrintMore Go.Proofs.Ytjbakaplcjkniaa.Pi Go.Proofs.Ytjbakaplcjkniaa.Q
set_option linter.unusedVariables false
set_option linter.unusedSimpArgs false
theorem ver_calls (last ahead : Int) (w : World) (h1 : 0 ≤ last ∧ last ≤ 1000000000000) (h2 : -128 ≤ ahead ∧ ahead ≤ 127) :
    Calls Try.prog 34 #[.int .u64 last, .int .i8 ahead] w fun e w' => e = .returned (.int .u64 (verOf last ahead)) ∧ Below w.heap.size w w' :=
  (lodestarlaw08_version.calls last ahead _ w (version_f h1 h2)).mono fun e w' ⟨he, hd⟩ => ⟨he, by obtain ⟨k, hk⟩ := hd; rw [hk]; exact pw_below_drewN (Below.refl _ _) _⟩
/-- A list of items that was told. -/
def Told (w : World) (base : Nat) (v : Value) (d : List Elt) : Prop := OwnE w base v d ∧ ∀ x ∈ d, EltOk w base x
theorem Told.below {w w1 : World} {base : Nat} {v : Value} {d : List Elt} (h : Told w base v d) (hb : Below w.heap.size w w1) : Told w1 base v d := ⟨h.1.below hb, fun x hx => (h.2 x hx).below hb⟩
theorem Told.tt {w w1 : World} {base : Nat} {v : Value} {d : List Elt} (h : Told w base v d) (hO : Only (TT w) w w1) : Told w1 base v d := by
  refine ⟨h.1.move (fun k hk => hO.block k (h.1.lt k hk) (fun hp => ?_)), fun x hx => ⟨R_tt (h.2 x hx).1 hO (by decide), R_tt (h.2 x hx).2 hO (by decide)⟩⟩
  obtain ⟨c, hc⟩ := h.1.typed k hk
  obtain ⟨c2, hp⟩ := hp
  rcases hp with hp | hp <;> exact absurd (blk_type hc hp) (by decide)
def itOf (x : Row) : It := ⟨x.id, x.vec, x.tags⟩
theorem Told.reads {w : World} {base : Nat} {v : Value} {d : List Elt} (h : Told w base v d) : ∃ A c, v = .slice A (d.map (fun e => itOf e.r)).length c ∧ (d.map (fun e => itOf e.r)).length ≤ c ∧ Kd.C k54 w A (d.map (fun e => itOf e.r)).length (d.map (fun e => itOf e.r)) := by
  obtain ⟨ho, he⟩ := h
  rcases ho.2 with ⟨rfl, h0⟩ | ⟨r, cap, cur, rfl, hb, hh, hc1, hc2, hc3, hc4⟩
  · have hd : d = [] := List.length_eq_zero_iff.1 h0
    subst hd
    exact ⟨none, 0, rfl, Nat.le_refl _, Kd.C_nil _ _⟩
  · refine ⟨_, cap, by rw [List.length_map], by rw [List.length_map]; exact hc1, rfl, by rw [List.length_map]; unfold maxLen at hc2; omega, fun _ => ⟨_, rfl, fun j p hj => ?_⟩⟩
    rw [List.getElem?_map] at hj
    obtain ⟨e, hje, rfl⟩ := Option.map_eq_some_iff.1 hj
    obtain ⟨r1, r2⟩ := he e (List.mem_of_getElem? hje)
    have g1 := Kd.R_reads' r1
    have g2 := Kd.R_reads' r2
    refine ⟨e.cs, rfl, k54_mk w (itOf e.r) g1.2.1 g1.2.2 g2.2.1 g2.2.2, fun i u hu => ?_⟩
    have hi : i < 3 := by
      have := (List.getElem?_eq_some_iff.1 hu).1
      rw [Elt.len] at this
      exact this
    have hjl := (List.getElem?_eq_some_iff.1 hje).1
    have h0 := cellsE_get d j e hje i hi
    rw [← hc4, List.getElem?_take, if_pos (by omega), Array.getElem?_toList] at h0
    have hs : j * (k54 : Kd It).sz + i = j * 3 + i := rfl
    rw [hs, add_plain, blk_cell hh, h0]
    exact hu
/-- SameItems at two lists that were told and are the same. -/
theorem same_calls {w : World} {b1 b2 : Nat} {v1 v2 : Value} {d1 d2 : List Elt} (h1 : Told w b1 v1 d1) (h2 : Told w b2 v2 d2) (he : d1.map Elt.r = d2.map Elt.r) (hl : d1.length ≤ 100000) (hx : ∀ e ∈ d1, e.r.vec.length ≤ 100000 ∧ e.r.tags.length ≤ 100000) :
    Calls Try.prog 35 #[v1, v2] w fun e w' => e = .returned (.bool true) ∧ Below w.heap.size w w' := by
  obtain ⟨A1, c1, rfl, l1, g1⟩ := h1.reads
  obtain ⟨A2, c2, rfl, l2, g2⟩ := h2.reads
  have e2 : d2.map (fun e => itOf e.r) = d1.map (fun e => itOf e.r) := by
    have : (d2.map Elt.r).map itOf = (d1.map Elt.r).map itOf := by rw [he]
    simpa [List.map_map, Function.comp_def] using this
  rw [e2] at l2 g2 ⊢
  refine lodestarref06_SameItems.calls _ A1 c1 _ A2 c2 _ true w g1 l1 g2 l2 (items_f _ (by rw [List.length_map]; omega) ?_)
  intro x hxx
  obtain ⟨e, hee, rfl⟩ := List.mem_map.1 hxx
  exact hx e hee
/-! ### Rows that are too young change nothing. -/
theorem nowTo_append (L E : List Row) (v : Int) (hE : ∀ x ∈ E, v < x.v) (id : Int) : ∀ k, nowTo (L ++ E) v k id = nowTo L v (min k L.length) id := by
  intro k
  induction k with
  | zero => simp [nowTo_zero]
  | succ k ih =>
    rw [nowTo_succ, ih]
    by_cases hk : k < L.length
    · rw [show min (k + 1) L.length = min k L.length + 1 by omega, show min k L.length = k by omega, nowTo_succ]
      have e1 : isId (L ++ E) id k = isId L id k := by unfold isId; rw [List.getElem?_append_left hk]
      have e2 : fitsAt (L ++ E) v k = fitsAt L v k := by unfold fitsAt; rw [List.getElem?_append_left hk]
      rw [e1, e2]
    · rw [show min (k + 1) L.length = L.length by omega, show min k L.length = L.length by omega, if_neg]
      rintro ⟨_, h2⟩
      unfold fitsAt at h2
      rw [List.getElem?_append_right (by omega)] at h2
      cases e : E[k - L.length]? with
      | none => rw [e] at h2; simp at h2
      | some x =>
        rw [e] at h2
        have := hE x (List.mem_of_getElem? e)
        simp at h2
        omega
theorem atP_append (L E : List Row) (v : Int) (hE : ∀ x ∈ E, v < x.v) (id : Int) : atP (L ++ E) id v = atP L id v := by
  rw [← nowTo_all, ← nowTo_all, nowTo_append L E v hE id, show min (L ++ E).length L.length = L.length by rw [List.length_append]; omega]
theorem AllIs.young {L E : List Row} {v : Int} {R R' : List Row} (h : AllIs L v R) (h' : AllIs (L ++ E) v R') (hE : ∀ x ∈ E, v < x.v) : R = R' := by
  refine h.eq h' (fun x => ?_)
  rw [atP_append L E v hE]
  constructor
  · rintro ⟨i, h1, h2, h3⟩
    exact ⟨i, by rw [List.getElem?_append_left (atP_lt h2)]; exact h1, h2, h3⟩
  · rintro ⟨i, h1, h2, h3⟩
    exact ⟨i, by rw [List.getElem?_append_left (atP_lt h2)] at h1; exact h1, h2, h3⟩
/-! ### What holds of a law's past -/
structure Ok (s : St) (m : Int) : Prop where
  small : s.Small
  fit : s.Fit
  low : 0 ≤ s.last
  high : s.last ≤ m
theorem Ok.new : Ok St.new 0 := ⟨fun x hx => by simp [St.new] at hx, fun x hx => by simp [St.new] at hx, Int.le_refl _, Int.le_refl _⟩
theorem Ok.mono {s : St} {m m' : Int} (h : Ok s m) (hm : m ≤ m') : Ok s m' := ⟨h.small, h.fit, h.low, Int.le_trans h.high hm⟩
theorem lay_cases (s : St) (r : Row) : (s.lay r).2 = s ∨ (s.lay r).2 = ⟨s.L ++ [r], r.v, s.floor, s.K⟩ := by
  unfold St.lay
  split
  · exact .inl rfl
  · split
    · exact .inl rfl
    · exact .inr rfl
theorem cut_cases (s : St) (v id : Int) : (s.cut v id).2 = s ∨ (s.cut v id).2 = (s.lay ⟨v, true, id, [], []⟩).2 := by
  unfold St.cut
  split
  · exact .inl rfl
  · split
    · exact .inl rfl
    · exact .inr rfl
theorem Ok.lay {s : St} {m m' : Int} (h : Ok s m) (hm : m ≤ m') {r : Row} (h1 : r.vec.length ≤ 100000 ∧ r.tags.length ≤ 100000) (h2 : (Lit.int .u32 r.id).wf = true) (h3 : 0 ≤ r.v) (h4 : r.v ≤ m') : Ok (s.lay r).2 m' := by
  rcases lay_cases s r with e | e <;> rw [e]
  · exact h.mono hm
  · refine ⟨fun x hx => ?_, fun x hx => ?_, h3, h4⟩
    · rcases List.mem_append.1 hx with hx | hx
      · exact h.small x hx
      · rw [List.mem_singleton] at hx; subst hx; exact h1
    · rcases List.mem_append.1 hx with hx | hx
      · exact h.fit x hx
      · rw [List.mem_singleton] at hx; subst hx; exact h2
theorem Ok.cut {s : St} {m m' : Int} (h : Ok s m) (hm : m ≤ m') {v id : Int} (h2 : (Lit.int .u32 id).wf = true) (h3 : 0 ≤ v) (h4 : v ≤ m') : Ok (s.cut v id).2 m' := by
  rcases cut_cases s v id with e | e <;> rw [e]
  · exact h.mono hm
  · exact h.lay hm ⟨by simp, by simp⟩ h2 h3 h4
theorem lay_floor (s : St) (r : Row) : (s.lay r).2.floor = s.floor ∧ (s.lay r).2.K = s.K := by rcases lay_cases s r with e | e <;> rw [e] <;> exact ⟨rfl, rfl⟩
theorem cut_floor (s : St) (v id : Int) : (s.cut v id).2.floor = s.floor ∧ (s.cut v id).2.K = s.K := by
  rcases cut_cases s v id with e | e <;> rw [e]
  · exact ⟨rfl, rfl⟩
  · exact lay_floor _ _
/-- Only younger rows have come. -/
def Young (s1 s : St) (v : Int) : Prop := ∃ E, s.L = s1.L ++ E ∧ ∀ x ∈ E, v < x.v
theorem Young.refl (s : St) (v : Int) : Young s s v := ⟨[], by simp, fun x hx => by simp at hx⟩
theorem Young.lay {s1 s : St} {v : Int} (h : Young s1 s v) {r : Row} (hr : v < r.v) : Young s1 (s.lay r).2 v := by
  rcases lay_cases s r with e | e <;> rw [e]
  · exact h
  · obtain ⟨E, h1, h2⟩ := h
    refine ⟨E ++ [r], by show s.L ++ [r] = _; rw [h1, List.append_assoc], fun x hx => ?_⟩
    rcases List.mem_append.1 hx with hx | hx
    · exact h2 x hx
    · rw [List.mem_singleton] at hx; subst hx; exact hr
theorem Young.cut {s1 s : St} {v : Int} (h : Young s1 s v) {u id : Int} (hr : v < u) : Young s1 (s.cut u id).2 v := by
  rcases cut_cases s u id with e | e <;> rw [e]
  · exact h
  · exact h.lay hr
theorem known_zero {s : St} (h : s.floor = 0) {v : Int} (hv : 0 ≤ v) : s.known v = true := by unfold St.known knownP; rw [h]; simp [hv]
end Go.Proofs.Ytjbakaplcjkniaa.Pa
