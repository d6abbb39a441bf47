/- Past: known, Put. No condition. -/
import Derived.Test.YtjbakaplcjkniaaPa3
namespace Go.Proofs.Ytjbakaplcjkniaa.Pa
open Go.RowKit Go.Proofs.YtjbakaplcjkniaaW.PrintWords Go.Proofs.YtjbakaplcjkniaaW.PrintLast Go.Proofs.YtjbakaplcjkniaaW.PrintMore Go.Proofs.Ytjbakaplcjkniaa.Pi
set_option linter.unusedVariables false
set_option linter.unusedSimpArgs false
/-- A row of ints at a place. -/
theorem C_int_at {k : IntKind} {w : World} {A : Option Addr} {xs : List Int} {n : Nat} (h : Kd.C (Kd.int k) w A n xs) {i : Nat} (hi : i < xs.length) : ∃ ad x, A = some ad ∧ xs[i]? = some x ∧ w.cell? (ad.add i) = some (.int k x) := by
  obtain ⟨ad, e, hc⟩ := h.2.2 (by rw [← h.1]; omega)
  obtain ⟨cs, h1, h2, h3⟩ := hc i _ (List.getElem?_eq_getElem hi)
  have h2' : cs = [.int k xs[i]] := h2
  subst h2'
  have := h3 0 _ rfl
  have e2 : i * (Kd.int k).sz + 0 = i := by show i * 1 + 0 = i; omega
  rw [e2] at this
  exact ⟨ad, xs[i], e, List.getElem?_eq_getElem hi, this⟩
def IndexAns (K : List Int) (v r : Int) : Prop := (0 ≤ r ↔ v ∈ K) ∧ -1 ≤ r
set_option maxHeartbeats 2000000 in
set_option maxRecDepth 100000 in
theorem index_calls (ao : Option Addr) (cap : Nat) (K : List Int) (v : Int) (w : World) (hC : Kd.C (Kd.int .u64) w ao K.length K) (hl : K.length ≤ 1000000) :
    Calls Try.prog 64 #[.slice ao K.length cap, .int .u64 v] w fun e w' => (∃ r, e = .returned (.int .i64 r) ∧ IndexAns K v r) ∧ Below w.heap.size w w' := by
  have HC := Aside0.mk hC
  have HL := Aside0.mk hl
  clear hC hl
  go_enter Try.func64, Try.ntmps64
  go_wp2
  go_loopg [5, 8] K.length (fun gk v5 v8 wr => ∃ (i : Nat), v8 = .int .i64 i ∧ Aside0 (i ≤ K.length ∧ K.length - i ≤ gk ∧ ∀ j, j < i → K[j]? ≠ some v) ∧ Aside0 (Below w.heap.size w wr))
  case atStart => exact ⟨0, rfl, ⟨by omega, by omega, fun j hj => by omega⟩, ⟨by first | exact Below.refl _ _ | exact below_drew (Below.refl _ _)⟩⟩
  case round =>
    obtain ⟨i, rfl, HI, HB⟩ := hrel
    by_cases hi : i < K.length
    · have q1 : decide ((i : Int) < (K.length : Int)) = true := decide_eq_true (by omega)
      have q1' : (i : Int) < (K.length : Int) := by omega
      obtain ⟨ad, x, rfl, hx, x0⟩ := C_int_at (Kd.C_below HC.out HB.out) hi
      have hin : wrap64 ((i : Int) + 1) = ((i + 1 : Nat) : Int) := by have := HL.out; unfold wrap64; omega
      have HII := Aside0.mk hi
      have HX := Aside0.mk hx
      clear hx hi
      cases q2 : (v == x) with
      | true =>
        go_wp2
        go_ret
        refine ⟨⟨_, rfl, ⟨⟨fun _ => ?_, fun _ => by omega⟩, by omega⟩⟩, HB.out⟩
        have e : v = x := by simpa using q2
        exact e ▸ List.mem_of_getElem? HX.out
      | false =>
        go_wp2
        obtain ⟨gk, rfl⟩ : ∃ m, gk = m + 1 := ⟨gk - 1, by have := HI.out; have := HII.out; omega⟩
        go_roundg gk
        case measure => omega
        case rel => exact ⟨i + 1, congrArg (Value.int .i64) hin, ⟨by have := HI.out; have := HII.out; omega, by have := HI.out; have := HII.out; omega, fun j hj => by
          rcases Nat.lt_or_ge j i with h | h
          · exact HI.out.2.2 j h
          · have : j = i := by omega
            subst this
            rw [HX.out]
            intro e
            injection e with e
            rw [e] at q2
            simp at q2⟩, HB⟩
    · have q1 : decide ((i : Int) < (K.length : Int)) = false := decide_eq_false (by omega)
      have q1' : (i < K.length) = False := eq_false hi
      have q1'' : decide (i < K.length) = false := decide_eq_false hi
      have HII := Aside0.mk hi
      clear hi
      go_wp2
      go_ret
      refine ⟨⟨_, rfl, ⟨⟨fun h => by omega, fun h => ?_⟩, by omega⟩⟩, HB.out⟩
      obtain ⟨j, hj⟩ := List.getElem?_of_mem h
      have hjl := (List.getElem?_eq_some_iff.1 hj).1
      exact absurd hj (HI.out.2.2 j (by have := HII.out; omega))
set_option maxRecDepth 100000 in
theorem contains_calls (ao : Option Addr) (cap : Nat) (K : List Int) (v : Int) (w : World) (hC : Kd.C (Kd.int .u64) w ao K.length K) (hl : K.length ≤ 1000000) :
    Calls Try.prog 58 #[.slice ao K.length cap, .int .u64 v] w fun e w' => e = .returned (.bool (K.contains v)) ∧ Below w.heap.size w w' := by
  have HC := Aside0.mk hC
  have HL := Aside0.mk hl
  clear hC hl
  go_enter Try.func58, Try.ntmps58
  go_wp2_with (go_at_call 64; (with_reducible refine (index_calls ao cap K v _ HC.out HL.out).mono ?_); rintro e w1 ⟨⟨r, rfl, hr⟩, hb⟩; have HR := Aside0.mk hr; have HB := Aside0.mk hb; clear hr hb)
  go_ret
  refine ⟨?_, HB.out⟩
  have h1 := HR.out.1
  have : decide (0 ≤ r) = K.contains v := by
    rw [Bool.eq_iff_iff, decide_eq_true_eq, List.contains_iff_mem]
    exact h1
  rw [← this]
  rfl
section
variable {Z : Nat → Prop} {w : World} {base g : Nat} {vL vK : Value} {L : List Row} {last floor : Int} {K : List Int}
set_option maxHeartbeats 2000000 in
set_option maxRecDepth 100000 in
theorem known_calls (h : Past Z w base g vL vK L last floor K) (hl : K.length ≤ 1000000) (v : Int) : Calls Try.prog 45 #[.pointer (some ⟨g, 0, none⟩), .int .u64 v] w fun e w' => e = .returned (.bool (knownP floor K v)) ∧ Below w.heap.size w w' := by
  have hu2 := Try.underlying98
  obtain ⟨ak, ck, rfl, _, hC⟩ := Kd.R_reads h.kept
  have y2 := h.y2
  have y3 := h.y3
  have HC := Aside0.mk hC
  have HL := Aside0.mk hl
  obtain ⟨cb, hcb⟩ : ∃ z, K.contains v = z := ⟨_, rfl⟩
  have HCB := Aside0.mk hcb
  clear h hC hl hcb
  cases q : decide (floor ≤ v) with
  | true =>
    go_enter Try.func45, Try.ntmps45
    go_wp2
    go_ret
    exact ⟨by unfold knownP; rw [q]; rfl, Below.refl _ _⟩
  | false =>
    go_enter Try.func45, Try.ntmps45
    go_wp2_with (go_at_call 58; (with_reducible refine (contains_calls ak ck K v _ HC.out HL.out).mono ?_); rintro e w1 ⟨rfl, hb⟩; rw [HCB.out]; have HB := Aside0.mk hb; clear hb)
    go_ret
    exact ⟨by unfold knownP; rw [q, HCB.out]; rfl, HB.out⟩
end
theorem frR_new {Z : Nat → Prop} {w : World} {base : Nat} {r : Row} {A1 A2 : Option Addr} {c1 c2 : Nat} (h1 : rowV w base (.slice A1 r.vec.length c1) r.vec) (h2 : rowT w base (.slice A2 r.tags.length c2) r.tags) (hZ : ∀ k, Z k → k < base) :
    FrR Z w r [.int .u64 r.v, .bool r.gone, .int .u32 r.id, .slice A1 r.vec.length c1, .slice A2 r.tags.length c2] := by
  intro W hW
  have r1 := Kd.R_step (w1 := W) (Kd.R_bound h1) (fun k hk hlt => hW.block k hlt (by
    obtain ⟨_, _, _, q, hq, c, hc⟩ := hk
    have hq' : q ∈ [21] := hq
    have : q = 21 := by simpa using hq'
    subst this
    exact ⟨c, .inl hc⟩) (fun hz => by have := hZ k hz; have := hk.2.1; omega))
  have r2 := Kd.R_step (w1 := W) (Kd.R_bound h2) (fun k hk hlt => hW.block k hlt (by
    obtain ⟨_, _, _, q, hq, c, hc⟩ := hk
    have hq' : q ∈ [9] := hq
    have : q = 9 := by simpa using hq'
    subst this
    exact ⟨c, .inr hc⟩) (fun hz => by have := hZ k hz; have := hk.2.1; omega))
  have g1 := Kd.R_reads' r1
  have g2 := Kd.R_reads' r2
  exact ⟨A1, c1, A2, c2, rfl, g1.2.1, g1.2.2, g2.2.1, g2.2.2⟩
theorem TT_back {w w1 : World} (hb : Below w.heap.size w w1) {i : Nat} (hi : i < w.heap.size) (h : TT w1 i) : TT w i := by
  obtain ⟨c, h⟩ := h
  rw [hb.block i hi] at h
  exact ⟨c, h⟩
/-- A past of a law's own. -/
def PX (Z : Nat → Prop) (w0 w : World) (g : Nat) (s : St) : Prop := ∃ vL vK, Past Z w w0.heap.size g vL vK s.L s.last s.floor s.K ∧ Below w0.heap.size w0 w ∧ s.L.length ≤ 1024 ∧ s.K.length ≤ 1000000 ∧ ∀ k, Z k → w0.heap.size ≤ k
section
variable {Z : Nat → Prop} {w0 w w' : World} {g : Nat} {s : St}
theorem PX.at0 (h : PX Z w0 w g s) : Below w0.heap.size w0 w := by obtain ⟨_, _, _, h, _⟩ := h; exact h
theorem PX.rows (h : PX Z w0 w g s) : s.L.length ≤ 1024 := by obtain ⟨_, _, _, _, h, _⟩ := h; exact h
theorem PX.keeps (h : PX Z w0 w g s) : s.K.length ≤ 1000000 := by obtain ⟨_, _, _, _, _, h, _⟩ := h; exact h
theorem PX.below (h : PX Z w0 w g s) (hb : Below w.heap.size w w') : PX Z w0 w' g s := by
  obtain ⟨vL, vK, h1, h2, h3⟩ := h
  exact ⟨vL, vK, h1.below hb, bel_trans h2 hb, h3⟩
theorem PX.types (h : PX Z w0 w g s) {vL vK : Value} (h1 : Past Z w w0.heap.size g vL vK s.L s.last s.floor s.K) : True := trivial
theorem PX.new (hb : Below w0.heap.size w0 w) (hZ : ∀ k, Z k → w0.heap.size ≤ k) : Calls Try.prog 24 #[] w fun e w' => ∃ g, e = .returned (.pointer (some ⟨g, 0, none⟩)) ∧ PX Z w0 w' g .new ∧ Below w.heap.size w w' := by
  refine (pnew_calls w).mono ?_
  rintro e w' ⟨rfl, rfl⟩
  exact ⟨_, rfl, ⟨_, _, ⟨heap_alloc_new w _, OwnR.nil _ _ _, Kd.R_nil _ _ _ _ _, hb.size⟩, bel_alloc hb _, by simp [St.new], by simp [St.new], hZ⟩, below_alloc (Below.refl _ _) _⟩
theorem PX.last (h : PX Z w0 w g s) : Calls Try.prog 27 #[.pointer (some ⟨g, 0, none⟩)] w fun e w' => e = .returned (.int .u64 s.last) ∧ PX Z w0 w' g s ∧ Below w.heap.size w w' := by
  have hh := h
  obtain ⟨vL, vK, h1, h2, h3⟩ := h
  exact (last_calls h1).mono fun e w' ⟨he, hb⟩ => ⟨he, hh.below hb, hb⟩
theorem PX.rows_ (h : PX Z w0 w g s) : Calls Try.prog 29 #[.pointer (some ⟨g, 0, none⟩)] w fun e w' => e = .returned (.int .i64 s.L.length) ∧ PX Z w0 w' g s ∧ Below w.heap.size w w' := by
  have hh := h
  obtain ⟨vL, vK, h1, h2, h3⟩ := h
  exact (rows_calls h1).mono fun e w' ⟨he, hb⟩ => ⟨he, hh.below hb, hb⟩
theorem PX.known (h : PX Z w0 w g s) (v : Int) : Calls Try.prog 45 #[.pointer (some ⟨g, 0, none⟩), .int .u64 v] w fun e w' => e = .returned (.bool (s.known v)) ∧ PX Z w0 w' g s ∧ Below w.heap.size w w' := by
  have hh := h
  obtain ⟨vL, vK, h1, h2, h3, h4, h5⟩ := h
  exact (known_calls h1 h4 v).mono fun e w' ⟨he, hb⟩ => ⟨he, hh.below hb, hb⟩
/-- A row is laid. -/
theorem PX.layF (h : PX Z w0 w g s) (r : Row) (A1 : Option Addr) (c1 : Nat) (A2 : Option Addr) (c2 : Nat) (gn : Bool) (hgn : r.gone = gn) (hr : ¬ (r.v = 0 ∨ r.v < s.last)) (hF : FrR Z w r [.int .u64 r.v, .bool gn, .int .u32 r.id, .slice A1 r.vec.length c1, .slice A2 r.tags.length c2]) :
    Calls Try.prog 42 #[.pointer (some ⟨g, 0, none⟩), .agg #[.int .u64 r.v, .bool gn, .int .u32 r.id, .slice A1 r.vec.length c1, .slice A2 r.tags.length c2]] w fun e w' => e = .returned (.int .i64 (s.lay r).1) ∧ PX Z w0 w' g (s.lay r).2 ∧ Turns g w w' := by
  subst hgn
  have hh := h
  obtain ⟨vL, vK, h1, h2, h3, h4, h5⟩ := h
  unfold St.lay
  rw [if_neg hr]
  by_cases hl : 1024 ≤ s.L.length
  · rw [if_pos hl]
    exact (lay_full Z _ g vL vK s.L s.last s.floor s.K [_, _, _, _, _] w h1 hl (by omega) rfl).mono fun e w' ⟨he, hb⟩ => ⟨he, hh.below hb, Turns.of_below h1.lt hb⟩
  · rw [if_neg hl]
    refine (lay_some Z _ g vL vK s.L s.last s.floor s.K r A1 c1 A2 c2 w h1 (by omega) h2.size hF).mono fun e w' ⟨he, vL', hP, hO, hA⟩ => ⟨he, ⟨vL', vK, hP, hO.below_of h2 (fun i hi => hi.2), ?_, h4, h5⟩, hO.mono (fun i hi => hi.1), fun k hk => ?_⟩
    · show (s.L ++ [r]).length ≤ 1024
      rw [List.length_append, List.length_singleton]; omega
    · rcases hk with hk | ⟨v, hv, hk⟩
      · exact .inl (.inl hk)
      · rw [hP.y0] at hv
        injection hv with hv
        subst hv
        exact hA k hk
theorem PX.lay (h : PX Z w0 w g s) (r : Row) (A1 : Option Addr) (c1 : Nat) (A2 : Option Addr) (c2 : Nat) (gn : Bool) (hgn : r.gone = gn) (hr : ¬ (r.v = 0 ∨ r.v < s.last)) (hF : FrR Z w r [.int .u64 r.v, .bool gn, .int .u32 r.id, .slice A1 r.vec.length c1, .slice A2 r.tags.length c2]) :
    Calls Try.prog 42 #[.pointer (some ⟨g, 0, none⟩), .agg #[.int .u64 r.v, .bool gn, .int .u32 r.id, .slice A1 r.vec.length c1, .slice A2 r.tags.length c2]] w fun e w' => e = .returned (.int .i64 (s.lay r).1) ∧ PX Z w0 w' g (s.lay r).2 ∧ Only (TT w) w w' :=
  (h.layF r A1 c1 A2 c2 gn hgn hr hF).mono fun e w' ⟨h1, h2, h3⟩ => ⟨h1, h2, h3.only.mono (fun k hk => hk.1)⟩
end
section
variable {Z : Nat → Prop} {w0 w w' : World} {g : Nat} {s : St}
set_option maxHeartbeats 4000000 in
set_option maxRecDepth 100000 in
/-- An item is put. -/
theorem PX.putF (h : PX Z w0 w g s) (r : Row) (A1 : Option Addr) (c1 : Nat) (A2 : Option Addr) (c2 : Nat) (hg : r.gone = false) (hP : Parts w r A1 c1 A2 c2) (hv : 0 ≤ r.v) (hZ : ∀ k, Z k → k < w.heap.size) :
    Calls Try.prog 25 #[.pointer (some ⟨g, 0, none⟩), .int .u64 r.v, .agg #[.int .u32 r.id, .slice A1 r.vec.length c1, .slice A2 r.tags.length c2]] w fun e w' => e = .returned (.int .i64 (s.lay r).1) ∧ PX Z w0 w' g (s.lay r).2 ∧ Turns g w w' := by
  have hu2 := Try.underlying98
  have hu3 := Try.underlying54
  have hbx := below_alloc (Below.refl w.heap.size w) (.cells #[.int .u32 r.id, .slice A1 r.vec.length c1, .slice A2 r.tags.length c2] 54)
  obtain ⟨vL, vK, h1, h2, h3, h4, h5⟩ := h
  have y1 := (h1.below hbx).y1
  have HB := Aside0.mk hbx
  have HX := Aside0.mk (show PX Z w0 (w.alloc (.cells #[.int .u32 r.id, .slice A1 r.vec.length c1, .slice A2 r.tags.length c2] 54)) g s from ⟨vL, vK, h1.below hbx, bel_trans h2 hbx, h3, h4, h5⟩)
  have HPP := Aside0.mk (hP.below hbx)
  have HZ := Aside0.mk hZ
  have HGN := Aside0.mk hg
  have HPG := Aside0.mk h1.lt
  clear h1 h2 h3 h4 h5 hbx hP hZ
  by_cases hbad : r.v = 0 ∨ r.v < s.last
  · have e1 : s.lay r = (1, s) := by unfold St.lay; rw [if_pos hbad]
    rw [e1]
    have HBD := Aside0.mk hbad
    cases q1 : (r.v == 0) with
    | true =>
      clear hbad hv hg e1
      go_enter Try.func25, Try.ntmps25
      go_wp2
      go_ret
      exact ⟨rfl, HX.out, Turns.of_below HPG.out HB.out⟩
    | false =>
      have q2 : decide (r.v < s.last) = true := decide_eq_true (by rcases hbad with h | h; exact absurd h (by simpa using q1); exact h)
      clear hbad hv hg e1
      go_enter Try.func25, Try.ntmps25
      go_wp2
      go_ret
      exact ⟨rfl, HX.out, Turns.of_below HPG.out HB.out⟩
  · have q1 : (r.v == 0) = false := by rw [beq_eq_false_iff_ne]; exact fun h => hbad (.inl h)
    have q2 : decide (r.v < s.last) = false := decide_eq_false (fun h => hbad (.inr h))
    have HBD := Aside0.mk hbad
    obtain ⟨er, her⟩ : ∃ z, (s.lay r).1 = z := ⟨_, rfl⟩
    obtain ⟨s2, hs2⟩ : ∃ z, (s.lay r).2 = z := ⟨_, rfl⟩
    rw [her, hs2]
    have HER := Aside0.mk her
    have HS2 := Aside0.mk hs2
    clear hbad hv her hs2
    go_enter Try.func25, Try.ntmps25
    go_wp2_with (first | (go_at_call 43; (with_reducible refine (own_calls r A1 c1 A2 c2 _ HPP.out).mono ?_); rintro e w2 ⟨⟨v1, v2, rfl, r1, r2⟩, hb⟩; obtain ⟨a1, d1, rfl⟩ := Kd.R_slice r1; obtain ⟨a2, d2, rfl⟩ := Kd.R_slice r2; have HX2 := Aside0.mk (HX.out.below hb); have HF2 := Aside0.mk (frR_new (r := r) (Z := Z) r1 r2 (fun k hk => by have := HZ.out k hk; have := HB.out.size; omega)); rw [HGN.out] at HF2; have HB2 := Aside0.mk (bel_trans HB.out hb); clear r1 r2 hb y1) | (go_at_call 42; (with_reducible refine (PX.layF HX2.out r a1 d1 a2 d2 false HGN.out HBD.out HF2.out).mono ?_); rintro e w3 ⟨rfl, hP, hO⟩; rw [HER.out]; rw [HS2.out] at hP; have HP3 := Aside0.mk hP; have HO3 := Aside0.mk hO; clear hP hO))
    go_ret
    exact ⟨rfl, HP3.out, HO3.out.behind HPG.out HB2.out⟩
theorem PX.put (h : PX Z w0 w g s) (r : Row) (A1 : Option Addr) (c1 : Nat) (A2 : Option Addr) (c2 : Nat) (hg : r.gone = false) (hP : Parts w r A1 c1 A2 c2) (hv : 0 ≤ r.v) (hZ : ∀ k, Z k → k < w.heap.size) :
    Calls Try.prog 25 #[.pointer (some ⟨g, 0, none⟩), .int .u64 r.v, .agg #[.int .u32 r.id, .slice A1 r.vec.length c1, .slice A2 r.tags.length c2]] w fun e w' => e = .returned (.int .i64 (s.lay r).1) ∧ PX Z w0 w' g (s.lay r).2 ∧ Only (TT w) w w' :=
  (h.putF r A1 c1 A2 c2 hg hP hv hZ).mono fun e w' ⟨h1, h2, h3⟩ => ⟨h1, h2, h3.only.mono (fun k hk => hk.1)⟩
end
end Go.Proofs.Ytjbakaplcjkniaa.Pa
