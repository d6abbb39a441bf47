/- Past: a sweep is walked. No condition. -/
import Derived.Test.YtjbakaplcjkniaaPa8
import Derived.Deep.RegionHeld3
import Derived.Deep.AppendLies
namespace Go.Proofs.Ytjbakaplcjkniaa.Pa
open Go.RowKit Go.Maps Go.Proofs.YtjbakaplcjkniaaW.PrintWords Go.Proofs.YtjbakaplcjkniaaW.PrintLast Go.Proofs.YtjbakaplcjkniaaW.PrintMore Go.Proofs.Ytjbakaplcjkniaa.Pi
set_option linter.unusedVariables false
set_option linter.unusedSimpArgs false
def sweep.T9 : Bool × List (List Nat × List Nat) := (true, [([], []), ([0], [0]), ([], []), ([2], [2]), ([3], [3]), ([4], [4]), ([5], [5]), ([1, 6, 1], [1, 6]), ([7], [7]), ([], [])])
def sweep.B9 : List Nat := [0, 1, 0, 4, 12, 28, 60, 127, 255, 0]
theorem sweep.tab9 : rtab .any (opsOf Try.f28 9) = sweep.T9 := by kernel_rfl
theorem sweep.bits9 : waitsOk sweep.T9.2 sweep.B9 = true := by kernel_rfl
section
variable {Z : Nat → Prop} {w0 w w' : World} {g : Nat} {s : St}
/-- A sweep's lists. -/
structure Sw (w wr : World) (n : Nat) (nv : Value) (nd : List Bool) (kv : Value) (K : List Int) (av : Value) (A : List Int) : Prop where
  below : Below w.heap.size w wr
  kept : (Kd.int .u64).R 50 wr w.heap.size (fun _ => True) kv K
  all : (Kd.int .u64).R 50 wr w.heap.size (fun _ => True) av A
  need : Kd.bool.R 4 wr w.heap.size (fun _ => True) nv nd
  len : nd.length = n
theorem PX.y1 (h : PX Z w0 w g s) : w.cell? ⟨g, 1, none⟩ = some (.int .u64 s.last) := by
  obtain ⟨vL, vK, h1, _⟩ := h
  exact h1.y1
theorem needs_nil (L : List Row) (j : Nat) : needs L [] j = false := rfl
theorem needs_succ {L : List Row} {A : List Int} {i : Nat} {v : Int} (h : A[i]? = some v) (j : Nat) : needs L (A.take (i + 1)) j = (needs L (A.take i) j || needAt L v j) := by
  obtain ⟨hi, e⟩ := List.getElem?_eq_some_iff.1 h
  unfold needs
  rw [List.take_succ_eq_append_getElem hi, List.any_append, e]
  simp
theorem C_one {w : World} {p t : Nat} {x : Int} (h : w.heap[p]? = some (.cells #[.int .u64 x] t (0, 0))) : Kd.C (Kd.int .u64) w (some ⟨p, 0, none⟩) 1 [x] := by
  refine ⟨rfl, by omega, fun _ => ⟨_, rfl, fun j y hj => ?_⟩⟩
  obtain ⟨hl, hy⟩ := List.getElem?_eq_some_iff.1 hj
  have : j = 0 := by simp at hl; exact hl
  subst this
  have : x = y := hy
  subst this
  refine ⟨[.int .u64 x], rfl, rfl, fun i u hu => ?_⟩
  obtain ⟨hl2, hy2⟩ := List.getElem?_eq_some_iff.1 hu
  have : i = 0 := by simp at hl2; exact hl2
  subst this
  have : Value.int .u64 x = u := hy2
  subst this
  have e : w.cell? ⟨p, 0, none⟩ = some (.int .u64 x) := (blk_cell h 0).trans rfl
  rw [add_plain]
  exact e
section
variable {wr W : World} {n : Nat} {nv kv av : Value} {nd : List Bool} {K A : List Int}
theorem Sw.on (h : Sw w wr n nv nd kv K av A) (hb : Below wr.heap.size wr W) : Sw w W n nv nd kv K av A := ⟨bel_trans h.below hb, Kd.R_below h.kept hb, Kd.R_below h.all hb, Kd.R_below h.need hb, h.len⟩
theorem Sw.one (h : Sw w wr n nv nd kv K av A) {b : Nat} (hO : Only (fun k => k = b) wr W) (hnc : NoCells wr b) (hb : w.heap.size ≤ b) : Sw w W n nv nd kv K av A := by
  have hO2 : Only (NoCells wr) wr W := hO.mono (fun k hk => by subst hk; exact hnc)
  exact ⟨hO.below_of h.below (fun i hi => by subst hi; exact hb), R_nocells h.kept hO2, R_nocells h.all hO2, R_nocells h.need hO2, h.len⟩
theorem Sw.put {bn nc : Nat} (h : Sw w wr n (.slice (some ⟨bn, 0, none⟩) n nc) nd kv K av A) {c : Array Value} (hc : wr.heap[bn]? = some (.cells c 4 (0, 0))) (hb : w.heap.size ≤ bn) (j : Nat) : Sw w (wr.setCell ⟨bn, j, none⟩ (.bool true)) n (.slice (some ⟨bn, 0, none⟩) n nc) (nd.set j true) kv K av A := by
  have t1 : ∀ q, q ∈ 50 :: (Kd.int .u64).E → q ≠ 4 := by
    intro q hq
    have hq : q ∈ [50] := hq
    have e : q = 50 := by simpa using hq
    rw [e]; decide
  exact ⟨((Only.refl (fun k => k = bn) wr).set ⟨bn, j, none⟩ _ rfl).below_of h.below (fun i hi => by subst hi; exact hb), Kd.R_set h.kept hc t1 j _, Kd.R_set h.all hc t1 j _, (Kd.R_putg h.need (j : Int) true).1, by rw [List.length_set]; exact h.len⟩
theorem RanI.put {b r m : Nat} {f : Int → Option Int} {left : Int → Bool} {cnt bn : Nat} (h : RanI wr b r m f left cnt) {c : Array Value} {t : TypeId} (hc : wr.heap[bn]? = some (.cells c t (0, 0))) (j : Nat) (v : Value) : RanI (wr.setCell ⟨bn, j, none⟩ v) b r m f left cnt :=
  h.only ((Only.refl (fun k => k = bn) wr).set ⟨bn, j, none⟩ v rfl) (fun e => by subst e; exact h.map.nocells _ _ hc) (fun e => by subst e; exact h.nocells _ _ hc)
theorem Sw.tt (h : Sw w wr n nv nd kv K av A) {S : Nat → Prop} (hO : Only S wr W) (hS : ∀ k, S k → TT wr k ∧ w.heap.size ≤ k) : Sw w W n nv nd kv K av A := by
  have hT : Only (TT wr) wr W := hO.mono (fun k hk => (hS k hk).1)
  exact ⟨hO.below_of h.below (fun i hi => (hS i hi).2), R_tt h.kept hT (by decide), R_tt h.all hT (by decide), R_tt h.need hT (by decide), h.len⟩
theorem Mem.one (Z : Nat → Prop) {b : Nat} (hO : Only (fun k => k = b) wr W) (hnc : NoCells wr b) : Mem Z wr W := ⟨hO.size, fun k hk ht _ => hO.block k hk (fun e => by
    subst e
    obtain ⟨c, hc⟩ := ht
    rcases hc with hc | hc <;> exact hnc _ _ hc)⟩
theorem OwnR.one {Z : Nat → Prop} {base : Nat} {v : Value} {L : List Row} (h : OwnR Z wr base v L) {b : Nat} (hO : Only (fun k => k = b) wr W) (hnc : NoCells wr b) : OwnR Z W base v L := by
  refine h.move (fun k hk => hO.block k (h.lt k hk) (fun e => ?_)) ⟨hO.size, fun k hk ht _ => hO.block k hk (fun e => ?_)⟩
  · subst e
    obtain ⟨c, hc⟩ := h.typed k hk
    exact hnc _ _ hc
  · subst e
    obtain ⟨c, hc⟩ := ht
    rcases hc with hc | hc <;> exact hnc _ _ hc
theorem OwnR.lower {Z : Nat → Prop} {base base' : Nat} {v : Value} {L : List Row} (h : OwnR Z wr base v L) (hb : base' ≤ base) : OwnR Z wr base' v L := by
  obtain ⟨inner, h1, h2⟩ := h
  refine ⟨inner, ⟨h1.1, ?_⟩, h2⟩
  rcases h1.2 with h0 | ⟨r, cap, cur, e, hbb, rest⟩
  · exact .inl h0
  · exact .inr ⟨r, cap, cur, e, Nat.le_trans hb hbb, rest⟩
/-- Rows, where they lie and that they stay. -/
def RowsIn (Z : Nat → Prop) (w : World) (ao : Option Addr) (L : List Row) : Prop := ∀ j x, L[j]? = some x → ∃ ad A1 c1 A2 c2, ao = some ad ∧ RowAt w ad j x A1 c1 A2 c2 ∧ FrR Z w x [.int .u64 x.v, .bool x.gone, .int .u32 x.id, .slice A1 x.vec.length c1, .slice A2 x.tags.length c2]
theorem OwnR.rows {Z : Nat → Prop} {base : Nat} {v : Value} {L : List Row} (h : OwnR Z wr base v L) : ∃ ao cap, v = .slice ao L.length cap ∧ RowsIn Z wr ao L := by
  obtain ⟨inner, h1, h2⟩ := h
  rcases h1.2 with ⟨rfl, h0⟩ | ⟨r, cap, cur, rfl, hb, hh, hc1, hc2, hc3, hc4⟩
  · have hL : L = [] := List.length_eq_zero_iff.1 h0
    subst hL
    exact ⟨none, 0, rfl, fun j x hx => by simp at hx⟩
  · refine ⟨some ⟨r, 0, none⟩, cap, rfl, fun j x hj => ?_⟩
    obtain ⟨A1, c1, A2, c2, e, l1, g1, l2, g2⟩ := (h2 j x hj).now
    have hlt := (List.getElem?_eq_some_iff.1 hj).1
    have hin : ∀ i, i < 5 → wr.cell? ⟨r, j * 5 + i, none⟩ = ((inner.drop (j * 5)).take 5)[i]? := by
      intro i hi
      rw [blk_cell hh, List.getElem?_take, if_pos hi, List.getElem?_drop, ← hc4, List.getElem?_take, if_pos (by omega), Array.getElem?_toList]
    have e2 : ((⟨r, 0, none⟩ : Addr).add (j * 5)) = ⟨r, j * 5, none⟩ := by rw [add_plain]
    have hfr := h2 j x hj
    rw [e] at hfr
    refine ⟨_, A1, c1, A2, c2, rfl, ⟨?_, ?_, ?_, ?_, ?_, l1, g1, l2, g2⟩, hfr⟩
    · have h0 := hin 0 (by omega); rw [e] at h0; rw [e2]; exact h0
    · have h0 := hin 1 (by omega); rw [e] at h0; rw [e2]; exact h0
    · have h0 := hin 2 (by omega); rw [e] at h0; rw [e2]; exact h0
    · have h0 := hin 3 (by omega); rw [e] at h0; rw [e2]; exact h0
    · have h0 := hin 4 (by omega); rw [e] at h0; rw [e2]; exact h0
theorem RowsIn.below {Z : Nat → Prop} {ao : Option Addr} {L : List Row} (h : RowsIn Z wr ao L) (hb : Below wr.heap.size wr W) : RowsIn Z W ao L := by
  intro j x hx
  obtain ⟨ad, A1, c1, A2, c2, e, h1, h2⟩ := h j x hx
  exact ⟨ad, A1, c1, A2, c2, e, h1.below hb, h2.on (Mem.below hb)⟩
section
variable {ops : Array Oper} {rest : List Oper} {o : Oper} {a : Act} {Q : Exit → Act → World → Prop}
/-- append(rows, row), at the operation. -/
theorem app_R {Z : Nat → Prop} (hgd : o.guard = none) (s x : Operand) (ho : o.op = .call { callee := .builtin .append, args := #[s, x], argTypes := #[96, 96] })
    (base : Nat) (v : Value) (A : List Row) (y : Row) (cs : List Value) (hs : a.eval s = v) (hx : a.eval x = .slice (some ⟨wr.heap.size, 0, none⟩) 1 1) (hv : OwnR Z wr base v A)
    (hr : FrR Z wr y cs) (hl : A.length ≤ 1000000) (hb : base ≤ wr.heap.size)
    (h : ∀ v' w', OwnR Z w' base v' (A ++ [y]) → Only (fun i => v.ownBlock = some i) (wr.alloc (.cells cs.toArray 102)) w' → wpList Try.prog ops Q rest (a.put o.dst v') w') : wpList Try.prog ops Q (o :: rest) a (wr.alloc (.cells cs.toArray 102)) := by
  have hba := below_alloc (Below.refl wr.heap.size wr) (.cells cs.toArray 102)
  obtain ⟨v', w', hrun, h1, h2, -⟩ := run_append_R o.type base v A y wr.heap.size cs (hv.below hba) (heap_alloc_new wr _) (hr.on (Mem.below hba)) hl (Nat.le_trans hb hba.size)
  refine wpList_plain hgd fun K hK => ?_
  unfold Oper.wp execOp
  simp only [ho, resolve, invoke, builtin, Sem.run_bind, Sem.run_pure, Result.andThen_ok, List.map_toArray, List.map_cons, List.map_nil, hs, hx, hrun]
  exact hK _ _ (h v' w' h1 h2)
end
theorem wf_i64 {j : Nat} (h : j ≤ 1000000) : (Lit.int .i64 (j : Int)).wf = true := by
  have : wrap64 (j : Int) = j := by unfold wrap64; omega
  rw [← this]
  exact wrap64_wf _
end
theorem PX.reads (h : PX Z w0 w g s) : ∃ ao cap, w.cell? ⟨g, 0, none⟩ = some (.slice ao s.L.length cap) ∧ ReadR w ao s.L ∧ RowsIn Z w ao s.L := by
  obtain ⟨vL, vK, h1, _⟩ := h
  obtain ⟨ao, cap, e, _, hr⟩ := h1.row.reads
  obtain ⟨ao', cap', e', hi⟩ := h1.row.rows
  subst e
  injection e' with e1 e2 e3
  subst e1
  exact ⟨ao, cap, h1.y0, hr, hi⟩
theorem PX.box (h : PX Z w0 w g s) : ∃ vL vK, w.heap[g]? = some (.cells #[vL, .int .u64 s.last, .int .u64 s.floor, vK] 98) := by
  obtain ⟨vL, vK, h1, _⟩ := h
  exact ⟨vL, vK, h1.box⟩
/-- A past whose rows are others now. -/
theorem PX.swept (h : PX Z w0 w g s) {W : World} (hB : Below w.heap.size w W) {vL vK : Value} {L : List Row} {K : List Int} (hO : OwnR Z W w.heap.size vL L) (hK : (Kd.int .u64).R 50 W w.heap.size (fun _ => True) vK K) (hl : L.length ≤ 1024) (hk : K.length ≤ 1000000) (fl : Int) :
    PX Z w0 (((W.setCell ⟨g, 0, none⟩ vL).setCell ⟨g, 3, none⟩ vK).setCell ⟨g, 2, none⟩ (.int .u64 fl)) g ⟨L, s.last, fl, K⟩ ∧ Turns g w (((W.setCell ⟨g, 0, none⟩ vL).setCell ⟨g, 3, none⟩ vK).setCell ⟨g, 2, none⟩ (.int .u64 fl)) := by
  have h0 := h.at0
  obtain ⟨vL0, vK0, h1, h2, h3, h4, h5⟩ := h
  have hb := blk_below h1.box hB
  have hT : TT w g ∧ FT w g g := ⟨⟨_, .inr h1.box⟩, .inl rfl⟩
  have hOn : Only (fun k => (TT w k ∧ FT w g k) ∧ w0.heap.size ≤ k) w (((W.setCell ⟨g, 0, none⟩ vL).setCell ⟨g, 3, none⟩ vK).setCell ⟨g, 2, none⟩ (.int .u64 fl)) := (((Only.of_below hB).set ⟨g, 0, none⟩ _ ⟨hT, h1.gb⟩).set ⟨g, 3, none⟩ _ ⟨hT, h1.gb⟩).set ⟨g, 2, none⟩ _ ⟨hT, h1.gb⟩
  refine ⟨⟨vL, vK, ⟨blk_put (blk_put (blk_put hb 0 _ rfl) 3 _ rfl) 2 _ rfl, ?_, ?_, h1.gb⟩, hOn.below_of h0 (fun i hi => hi.2), hl, hk, h5⟩, hOn.mono (fun k hk => hk.1), fun k hk => ?_⟩
  · exact (((hO.lower h0.size).put hb).put (blk_set hb 0 _)).put (blk_set (blk_set hb 0 _) 3 _)
  · exact Kd.R_set (Kd.R_set (Kd.R_set (Kd.R_lower hK h0.size) hb (by decide) 0 _) (blk_set hb 0 _) (by decide) 3 _) (blk_set (blk_set hb 0 _) 3 _) (by decide) 2 _
  · rcases hk with hk | ⟨v, hv, hk⟩
    · exact .inl (.inl hk)
    · rw [(blk_cell (blk_put (blk_put (blk_put hb 0 vL rfl) 3 vK rfl) 2 (.int .u64 fl) rfl) 0).trans rfl] at hv
      injection hv with hv
      subst hv
      exact .inr (hO.base k hk)
def nowI (L : List Row) (v : Int) (k : Nat) (id : Int) : Option Int := (nowTo L v k id).map (fun i => (i : Int))
theorem nowI_zero (L : List Row) (v : Int) : nowI L v 0 = fun _ => none := rfl
theorem nowI_fit {L : List Row} {v : Int} {k : Nat} {x : Row} (hx : L[k]? = some x) (h : x.v ≤ v) : nowI L v (k + 1) = fun id => if id = x.id then some (k : Int) else nowI L v k id := by
  funext id
  unfold nowI
  rw [congrFun (nowTo_fit hx h) id]
  split <;> rfl
theorem nowI_unfit {L : List Row} {v : Int} {k : Nat} {x : Row} (hx : L[k]? = some x) (h : ¬ x.v ≤ v) : nowI L v (k + 1) = nowI L v k := by
  funext id
  unfold nowI
  rw [congrFun (nowTo_unfit hx h) id]
theorem nowI_some {L : List Row} {v : Int} {k : Nat} {id c : Int} (h : nowI L v k id = some c) : ∃ j : Nat, c = (j : Int) ∧ j < k ∧ nowTo L v k id = some j := by
  unfold nowI at h
  cases e : nowTo L v k id with
  | none => rw [e] at h; cases h
  | some j => rw [e] at h; injection h with h; exact ⟨j, h.symm, nowTo_lt e, rfl⟩
/-- The rows that are needed, while a map is ranged over. -/
def NdR (L : List Row) (A : List Int) (i : Nat) (v : Int) (left : Int → Bool) (nd : List Bool) : Prop := ∀ j, j < L.length → ∃ b, nd[j]? = some b ∧ (b = true ↔ needs L (A.take i) j = true ∨ ∃ id, nowI L v L.length id = some (j : Int) ∧ left id = false)
theorem NdR.start {L : List Row} {A : List Int} {i : Nat} {v : Int} {nd : List Bool} (h : ∀ j, j < L.length → nd[j]? = some (needs L (A.take i) j)) : NdR L A i v (fun id => (nowI L v L.length id).isSome) nd := fun j hj =>
  ⟨_, h j hj, fun e => .inl e, fun e => by
    rcases e with e | ⟨id, e1, e2⟩
    · exact e
    · have e2 : (nowI L v L.length id).isSome = false := e2
      rw [e1] at e2; cases e2⟩
theorem NdR.step {L : List Row} {A : List Int} {i : Nat} {v : Int} {left : Int → Bool} {nd : List Bool} (h : NdR L A i v left nd) {id : Int} {k : Nat} (hk : k < L.length) (hf : nowI L v L.length id = some (k : Int)) : NdR L A i v (fun z => left z && !decide (z = id)) (nd.set k true) := by
  intro j hj
  obtain ⟨b, h1, h2⟩ := h j hj
  by_cases e : j = k
  · subst e
    refine ⟨true, by rw [List.getElem?_set_self (List.getElem?_eq_some_iff.1 h1).1], fun _ => .inr ⟨id, hf, by simp⟩, fun _ => rfl⟩
  · refine ⟨b, by rw [List.getElem?_set_ne (fun z => e z.symm)]; exact h1, fun hb => ?_, fun hr => h2.2 ?_⟩
    · rcases h2.1 hb with h3 | ⟨z, h3, h4⟩
      · exact .inl h3
      · exact .inr ⟨z, h3, by show (left z && !decide (z = id)) = false; rw [h4]; rfl⟩
    · rcases hr with h3 | ⟨z, h3, h4⟩
      · exact .inl h3
      · refine .inr ⟨z, h3, ?_⟩
        by_cases ez : z = id
        · subst ez
          rw [hf] at h3
          injection h3 with h3
          exact absurd (by omega) e
        · have h4 : (left z && !decide (z = id)) = false := h4
          simpa [ez] using h4
theorem NdR.done {L : List Row} {A : List Int} {i : Nat} {v : Int} {left : Int → Bool} {nd : List Bool} (h : NdR L A i v left nd) (hl : ∀ id, left id = false) (hv : A[i]? = some v) : ∀ j, j < L.length → nd[j]? = some (needs L (A.take (i + 1)) j) := by
  intro j hj
  obtain ⟨b, h1, h2⟩ := h j hj
  rw [h1, needs_succ hv]
  congr 1
  rw [Bool.eq_iff_iff, h2, Bool.or_eq_true, needAt_iff]
  constructor
  · rintro (h3 | ⟨id, h3, _⟩)
    · exact .inl h3
    · obtain ⟨k, e1, _, e2⟩ := nowI_some h3
      have : j = k := by omega
      subst this
      exact .inr ⟨id, e2⟩
  · rintro (h3 | ⟨id, h3⟩)
    · exact .inl h3
    · refine .inr ⟨id, ?_, hl id⟩
      have h4 : nowTo L v L.length id = some j := h3
      unfold nowI
      rw [h4]
      rfl
/-- Which ids have a row that stays. -/
def elderF (l : List Row) (id : Int) : Option Int := if l.any (fun y => decide (y.id = id)) = true then some 1 else none
theorem elderF_put (l : List Row) (x : Row) : elderF (l ++ [x]) = fun z => if z = x.id then some 1 else elderF l z := by
  funext z
  unfold elderF
  by_cases e : z = x.id
  · subst e; simp
  · have e2 : ¬ x.id = z := fun h => e h.symm
    simp [e, e2]
theorem take_filter {p : Int → Bool} {l : List Int} {i : Nat} {x : Int} (h : l[i]? = some x) : (l.take (i + 1)).filter p = (l.take i).filter p ++ if p x = true then [x] else [] := by
  obtain ⟨hi, e⟩ := List.getElem?_eq_some_iff.1 h
  rw [List.take_succ_eq_append_getElem hi, List.filter_append, e]
  congr 1
  by_cases hp : p x = true <;> simp [hp]
set_option maxHeartbeats 16000000 in
set_option maxRecDepth 100000 in
theorem PX.sweepF (h : PX Z w0 w g s) (hf : s.Fit) (ao : Option Addr) (cap : Nat) (keep : List Int) (hC : Kd.C (Kd.int .u64) w ao keep.length keep) (hl : keep.length ≤ 1000) :
    Calls Try.prog 28 #[.pointer (some ⟨g, 0, none⟩), .slice ao keep.length cap] w fun e w' => e = .returned (.int .i64 (s.sweep keep).1) ∧ PX Z w0 w' g (s.sweep keep).2 ∧ Turns g w w' := by
  have hu2 := Try.underlying98
  have hu3 := Try.underlying102
  have hu4 := Try.underlying54
  have hmm := @run_makeMap Try.prog
  have HX := Aside0.mk h
  have HF := Aside0.mk hf
  have HC := Aside0.mk hC
  have HL := Aside0.mk hl
  obtain ⟨aoL, capL, yl0, hrd, hri⟩ := h.reads
  have HY0 := Aside0.mk yl0
  have HRD := Aside0.mk hrd
  have HRI := Aside0.mk hri
  clear h hf hC hl yl0 hrd hri
  go_enter Try.func28, Try.ntmps28
  go_wp2
  go_loopg [5, 23] keep.length (fun gk v5 v23 wr => ∃ (i : Nat), v23 = .int .i64 i ∧ Aside0 (i ≤ keep.length ∧ keep.length - i ≤ gk) ∧ Aside0 (Below w.heap.size w wr) ∧ ∃ A c, v5 = .slice A ((keep.take i).filter s.known).length c ∧ Aside0 ((Kd.int .u64).R 50 wr w.heap.size (fun _ => True) (.slice A ((keep.take i).filter s.known).length c) ((keep.take i).filter s.known)))
  case atStart => exact ⟨0, rfl, ⟨by omega, by omega⟩, ⟨by first | exact Below.refl _ _ | exact below_drew (Below.refl _ _)⟩, none, 0, rfl, ⟨Kd.R_nil _ _ _ _ _⟩⟩
  case round =>
    obtain ⟨i, rfl, HI, HB, kA, kc, rfl, HK⟩ := hrel
    by_cases hi : i < keep.length
    · have q1 : decide ((i : Int) < (keep.length : Int)) = true := decide_eq_true (by omega)
      have q1' : (i : Int) < (keep.length : Int) := by omega
      obtain ⟨ad, x, rfl, hx, x0⟩ := C_int_at (Kd.C_below HC.out HB.out) hi
      have hin : wrap64 ((i : Int) + 1) = ((i + 1 : Nat) : Int) := by have := HL.out; unfold wrap64; omega
      have HIN := Aside0.mk hin
      have HII := Aside0.mk hi
      have HFX := Aside0.mk (take_filter (p := s.known) hx)
      have HXX := Aside0.mk hx
      clear hx hi hin
      cases hk : s.known x with
      | false =>
        have HKN := Aside0.mk hk
        clear hk
        go_wp2_with (go_at_call 45; (with_reducible refine (PX.known (HX.out.below HB.out) x).mono ?_); rintro e w1 ⟨rfl, -, hb⟩; rw [HKN.out]; have HB1 := Aside0.mk (bel_trans HB.out hb); have HK1 := Aside0.mk (Kd.R_below HK.out hb); clear hb)
        obtain ⟨gk, rfl⟩ : ∃ m, gk = m + 1 := ⟨gk - 1, by have := HI.out; have := HII.out; omega⟩
        go_roundg gk
        case measure => omega
        case rel =>
          have e1 : (keep.take (i + 1)).filter s.known = (keep.take i).filter s.known := by rw [HFX.out, HKN.out]; simp
          refine ⟨i + 1, congrArg (Value.int .i64) HIN.out, ⟨by have := HI.out; have := HII.out; omega, by have := HI.out; have := HII.out; omega⟩, HB1, kA, kc, by rw [e1], ?_⟩
          rw [e1]
          exact HK1
      | true =>
        have HKN := Aside0.mk hk
        clear hk
        go_wp2_with (first | (go_at_call 45; (with_reducible refine (PX.known (HX.out.below HB.out) x).mono ?_); rintro e w1 ⟨rfl, -, hb⟩; rw [HKN.out]; have HB1 := Aside0.mk (bel_trans HB.out hb); have HK1 := Aside0.mk (Kd.R_below HK.out hb); clear hb) | (at_builtin; go_must (refine Kd.R_append (Kd.int .u64) (w0 := w) w.heap.size rfl (.tmp 30) (.tmp 32) 67 50 (.int .u64 0) 8 rfl Try.underlying67 (by kernel_rfl) (by rfl) (by decide) (by decide) _ ((keep.take i).filter s.known) x [.int .u64 x] (fun _ => True) (fun _ => False) rfl rfl rfl (fun k hk => hk.elim) (fun _ _ => trivial) HK1.out HB1.out HB1.out.size (by have := HI.out; have := HL.out; have := List.length_filter_le s.known (keep.take i); rw [List.length_take] at this; omega) ?_); intro v2 w2 h1 hb hg hat; obtain ⟨kA2, kc2, rfl⟩ := Kd.R_slice h1; have HK2 := Aside0.mk h1; have HB2 := Aside0.mk hb; clear h1 hb hg hat))
        obtain ⟨gk, rfl⟩ : ∃ m, gk = m + 1 := ⟨gk - 1, by have := HI.out; have := HII.out; omega⟩
        go_roundg gk
        case measure => omega
        case rel =>
          have e1 : (keep.take (i + 1)).filter s.known = (keep.take i).filter s.known ++ [x] := by rw [HFX.out, HKN.out]; simp
          refine ⟨i + 1, congrArg (Value.int .i64) HIN.out, ⟨by have := HI.out; have := HII.out; omega, by have := HI.out; have := HII.out; omega⟩, HB2, kA2, kc2, by rw [e1, List.length_append]; rfl, ?_⟩
          rw [e1]
          exact HK2
    · have q1 : decide ((i : Int) < (keep.length : Int)) = false := decide_eq_false (by omega)
      have q1' : (i < keep.length) = False := eq_false hi
      have q1'' : decide (i < keep.length) = false := decide_eq_false hi
      have hie : i = keep.length := by have := HI.out; omega
      subst hie
      have e1 : (keep.take keep.length).filter s.known = s.kept keep := by rw [List.take_length]; rfl
      obtain ⟨KP, hKe⟩ : ∃ z, s.kept keep = z := ⟨_, rfl⟩
      have hKl : KP.length ≤ 1000 := by have := HL.out; rw [← hKe]; exact Nat.le_trans (List.length_filter_le _ _) this
      rw [e1, hKe] at HK ⊢
      have HKE := Aside0.mk hKe
      have HKL := Aside0.mk hKl
      have yl := pw_cell_below HB.out HY0.out
      have HLL := Aside0.mk HX.out.rows
      clear HI e1 hi hKe hKl
      go_wp2_with (at_make; refine Kd.R_make Kd.bool (w0 := w) w.heap.size 4 rfl rfl 105 _ _ rfl (s.L.length : Int) rfl rfl Try.underlying105 (.bool false) 1 (by kernel_rfl) (by rfl) (by decide) (by decide) false (okp := fun _ => False) (ok := fun _ => True) rfl (fun _ _ => trivial) trivial (by omega) (by have := HLL.out; omega) HB.out HB.out.size ?_; intro nv w1 hn hb hg hat; have HN1 := Aside0.mk hn; have HB1 := Aside0.mk hb; have HK1 := Aside0.mk (Kd.R_grown HK.out hg (fun k _ => by simp)); clear hn hb hg hat)
      have HP := Aside0.mk (HX.out.below (bel_trans HB1.out (below_drew (Below.refl _ _))))
      have HB2 := Aside0.mk (bel_trans HB1.out (below_drew (Below.refl _ _)))
      have HK2 := Aside0.mk (Kd.R_below HK1.out (below_drew (Below.refl _ _)))
      have HN2 := Aside0.mk (Kd.R_below HN1.out (below_drew (Below.refl _ _)))
      clear HK1 HN1 HB1 HK HB yl q1 q1' q1''
      refine start_ (n := 10) (S := fun w' => w'.cell? ⟨g, 1, none⟩ = some (.int .u64 s.last)) (ds := []) #[false, false, false, false, false, false, false, false, false, false] (by kernel_rfl) rfl rfl (HP.out.y1) (fun hHeld => ?_)
      refine with_tabW sweep.tab9 sweep.bits9 (fun HT_ HW_ => ?_)
      generalize w1.drew = wd at HP HB2 HK2 HN2 hHeld ⊢
      refine pure_ (i := 0) (N := some 41) (v := ?_) (a' := ?_) #[true, false, false, false, false, false, false, false, false, false] rfl rfl (any_of HT_.out (by kernel_rfl)) (fun _ _ _ h => h) (Or.inl ⟨by rfl, ?_⟩) ?_ ?_
      rotate_left
      · intro w'
        go_simp
        with_reducible rfl
      rotate_left
      · simp only [Act.put, List.setIfInBounds_toArray, List.set_cons_zero, List.set_cons_succ, i64_w, i32_w]
        rfl
      refine pure_ (i := 2) (N := some 43) (v := ?_) (a' := ?_) #[true, false, true, false, false, false, false, false, false, false] rfl rfl (any_of HT_.out (by kernel_rfl)) (fun _ _ _ h => h) (Or.inl ⟨by rfl, ?_⟩) ?_ ?_
      rotate_left
      · intro w'
        go_simp
        with_reducible rfl
      rotate_left
      · simp only [Act.put, List.setIfInBounds_toArray, List.set_cons_zero, List.set_cons_succ, i64_w, i32_w]
        rfl
      refine pure_ (i := 3) (N := some 44) (v := ?_) (a' := ?_) #[true, false, true, true, false, false, false, false, false, false] rfl rfl (any_of HT_.out (by kernel_rfl)) (fun _ _ _ h => h) (Or.inl ⟨by rfl, ?_⟩) ?_ ?_
      rotate_left
      · intro w'
        go_simp
        with_reducible rfl
      rotate_left
      · simp only [Act.put, List.setIfInBounds_toArray, List.set_cons_zero, List.set_cons_succ, i64_w, i32_w]
        rfl
      refine pure_ (i := 4) (N := some 45) (v := ?_) (a' := ?_) #[true, false, true, true, true, false, false, false, false, false] rfl rfl (any_of HT_.out (by kernel_rfl)) (fun _ _ _ h => h) (Or.inl ⟨by rfl, ?_⟩) ?_ ?_
      rotate_left
      · intro w'
        go_simp
        with_reducible rfl
      rotate_left
      · simp only [Act.put, List.setIfInBounds_toArray, List.set_cons_zero, List.set_cons_succ, i64_w, i32_w]
        rfl
      refine pure_ (i := 9) (N := some 50) (v := ?_) (a' := ?_) #[true, false, true, true, true, false, false, false, false, true] rfl rfl (any_of HT_.out (by kernel_rfl)) (fun _ _ _ h => h) (Or.inl ⟨by rfl, ?_⟩) ?_ ?_
      rotate_left
      · intro w'
        go_simp
        with_reducible rfl
      rotate_left
      · simp only [Act.put, List.setIfInBounds_toArray, List.set_cons_zero, List.set_cons_succ, i64_w, i32_w]
        rfl
      refine take_ (i := 5) (N := some 46) (v := ?_) (a' := ?_) #[true, false, true, true, true, true, false, false, false, true] rfl rfl (take_ofW HT_.out HW_.out (by kernel_rfl)) (fun _ _ _ h => h) (Or.inl ⟨by rfl, ?_⟩) hHeld ?_ ?_
      rotate_left
      · intro w' s0
        go_simp
        with_reducible rfl
      rotate_left
      · simp only [Act.put, List.setIfInBounds_toArray, List.set_cons_zero, List.set_cons_succ, i64_w, i32_w]
        rfl
      refine join_ (σ := Option Addr × Nat × Nat) 2 #[true, true, true, true, true, true, true, false, false, true] (fun z => [(42, .slice z.1 KP.length z.2.1), (47, .slice (some ⟨z.2.2, 0, none⟩) 1 1)]) (fun z w' => Below wd.heap.size wd w' ∧ (Kd.int .u64).R 50 w' wd.heap.size (fun _ => True) (.slice z.1 KP.length z.2.1) KP ∧ w'.heap[z.2.2]? = some (.cells #[.int .u64 s.last] 50 (0, 0))) ?_ ?_
      rotate_left
      · intro hCont
        refine two_ (i := 1) (j := 6) (Ni := some 42) (Nj := some 47) #[true, true, true, true, true, true, false, false, false, true] #[true, false, true, true, true, true, true, false, false, true] rfl rfl rfl rfl (two_of HT_.out (by kernel_rfl)) (by decide) (by decide) (fun K hK => ?_) (fun K hK => ?_)
        · skip
          refine goes_ Try.func46 (by kernel_rfl) rfl #[.slice kA KP.length kc] (by rfl) rfl rfl (by simp only [List.map_toArray, List.map_cons, List.map_nil]; rfl) ?_
          with_reducible refine (cloneU_calls kA KP.length kc KP _ rfl (Kd.R_reads' HK2.out).2.2 (by have := HKL.out; omega)).mono ?_
          rintro e w3 ⟨⟨v1, rfl, h1⟩, hb⟩
          refine ⟨_, rfl, ?_⟩
          obtain ⟨a1, d1, rfl⟩ := Kd.R_slice h1
          refine hK.out _ _ ((HP.out.below hb).y1) (fun hHeld => ?_)
          clear hK K
          refine norm_ (a' := ?_) ?_ ?_
          rotate_left
          · show Act.put _ (some 42) _ = _
            simp only [Act.put, List.setIfInBounds_toArray, List.set_cons_zero, List.set_cons_succ, i64_w, i32_w]
            rfl
          refine one_ (i := 6) (N := some 47) #[true, true, true, true, true, true, true, false, false, true] rfl rfl (one_of HT_.out (by kernel_rfl)) (by decide) (fun K hK => ?_)
          refine value_ (w1 := ?_) (v := ?_) (by rfl) rfl ?_ ?_
          rotate_left 2
          · go_simp
            constructor
            · rfl
            · rfl
          refine hK.out _ _ (((HP.out.below hb).below (below_alloc (Below.refl _ _) (.cells #[.int .u64 s.last] 50))).y1) (fun hHeld => ?_)
          clear hK K
          refine norm_ (a' := ?_) ?_ ?_
          rotate_left
          · show Act.put _ (some 47) _ = _
            simp only [Act.put, List.setIfInBounds_toArray, List.set_cons_zero, List.set_cons_succ, i64_w, i32_w]
            rfl
          exact norm_ (by simp only [Go.Proofs.YtjbakaplcjkniaaW.PrintLast.putAll, Act.put, List.setIfInBounds_toArray, List.set_cons_zero, List.set_cons_succ]) (hCont (a1, d1, (World.heap w3).size) _ ⟨bel_alloc hb (.cells #[.int .u64 s.last] 50), Kd.R_below h1 (below_alloc (Below.refl _ _) (.cells #[.int .u64 s.last] 50)), heap_alloc_new w3 (.cells #[.int .u64 s.last] 50)⟩)
        · skip
          refine value_ (w1 := ?_) (v := ?_) (by rfl) rfl ?_ ?_
          rotate_left 2
          · go_simp
            constructor
            · rfl
            · rfl
          refine hK.out _ _ ((HP.out.below (below_alloc (Below.refl _ _) (.cells #[.int .u64 s.last] 50))).y1) (fun hHeld => ?_)
          clear hK K
          refine norm_ (a' := ?_) ?_ ?_
          rotate_left
          · show Act.put _ (some 47) _ = _
            simp only [Act.put, List.setIfInBounds_toArray, List.set_cons_zero, List.set_cons_succ, i64_w, i32_w]
            rfl
          refine one_ (i := 1) (N := some 42) #[true, true, true, true, true, true, true, false, false, true] rfl rfl (one_of HT_.out (by kernel_rfl)) (by decide) (fun K hK => ?_)
          refine goes_ Try.func46 (by kernel_rfl) rfl #[.slice kA KP.length kc] (by rfl) rfl rfl (by simp only [List.map_toArray, List.map_cons, List.map_nil]; rfl) ?_
          with_reducible refine (cloneU_calls kA KP.length kc KP _ rfl (Kd.R_reads' (Kd.R_below HK2.out (below_alloc (Below.refl _ _) (.cells #[.int .u64 s.last] 50)))).2.2 (by have := HKL.out; omega)).mono ?_
          rintro e w3 ⟨⟨v1, rfl, h1⟩, hb⟩
          refine ⟨_, rfl, ?_⟩
          obtain ⟨a1, d1, rfl⟩ := Kd.R_slice h1
          refine hK.out _ _ (((HP.out.below (below_alloc (Below.refl _ _) (.cells #[.int .u64 s.last] 50))).below hb).y1) (fun hHeld => ?_)
          clear hK K
          refine norm_ (a' := ?_) ?_ ?_
          rotate_left
          · show Act.put _ (some 42) _ = _
            simp only [Act.put, List.setIfInBounds_toArray, List.set_cons_zero, List.set_cons_succ, i64_w, i32_w]
            rfl
          exact norm_ (by simp only [Go.Proofs.YtjbakaplcjkniaaW.PrintLast.putAll, Act.put, List.setIfInBounds_toArray, List.set_cons_zero, List.set_cons_succ]) (hCont (a1, d1, (World.heap wd).size) _ ⟨bel_trans (below_alloc (Below.refl _ _) (.cells #[.int .u64 s.last] 50)) hb, Kd.R_lower h1 (by rw [World.size_alloc]; exact Nat.le_succ _), blk_below (heap_alloc_new wd (.cells #[.int .u64 s.last] 50)) hb⟩)
      rintro ⟨a1, d1, p1⟩ w5 ⟨hb5, h15, hp5⟩
      have H15 := Aside0.mk h15
      have HB5 := Aside0.mk hb5
      have HC5 := Aside0.mk (C_one hp5)
      clear hb5 h15 hp5
      have hHeld := (HP.out.below HB5.out).y1
      refine norm_ (a' := ?_) ?_ ?_
      rotate_left
      · simp only [Go.Proofs.YtjbakaplcjkniaaW.PrintLast.putAll, Act.put, List.setIfInBounds_toArray, List.set_cons_zero, List.set_cons_succ]
        rfl
      refine one_ (i := 7) (N := some 48) #[true, true, true, true, true, true, true, true, false, true] rfl rfl (one_of HT_.out (by kernel_rfl)) (by decide) (fun K hK => ?_)
      refine Kd.R_append_rows_step (Kd.int .u64) wd.heap.size (by rfl) (.tmp 42) (.tmp 47) 67 50 (.int .u64 0) 8 rfl Try.underlying67 (by kernel_rfl) (by rfl) (by decide) (by decide) _ KP [s.last] (some ⟨p1, 0, none⟩) 1 1 (fun _ => True) (fun _ => False) rfl rfl H15.out HC5.out (fun _ _ h => h) (fun k hk => hk.elim) (fun _ _ => trivial) HB5.out HB5.out.size (by have := HKL.out; omega) ?_
      intro v6 w6 h6 hb6 hg6 hat6
      obtain ⟨AL, hAL⟩ : ∃ z, KP ++ [s.last] = z := ⟨_, rfl⟩
      rw [hAL] at h6
      obtain ⟨aA, cA, rfl⟩ := Kd.R_slice h6
      have HALE := Aside0.mk hAL
      have HALL := Aside0.mk (show AL.length ≤ 1001 by rw [← hAL, List.length_append, List.length_singleton]; have := HKL.out; omega)
      have HA6 := Aside0.mk (Kd.R_lower h6 HB2.out.size)
      have HB6 := Aside0.mk (bel_trans HB2.out hb6)
      have HK6 := Aside0.mk (Kd.R_below HK2.out hb6)
      have HN6 := Aside0.mk (Kd.R_below HN2.out hb6)
      have HP6 := Aside0.mk (HP.out.below hb6)
      clear h6 hb6 hg6 hat6 hAL HP HB2 HK2 HN2 H15 HB5 HC5
      refine hK.out _ _ (HP6.out.y1) (fun hHeld => ?_)
      clear hK K
      refine norm_ (a' := ?_) ?_ ?_
      rotate_left
      · show Act.put _ (some 48) _ = _
        simp only [Act.put, List.setIfInBounds_toArray, List.set_cons_zero, List.set_cons_succ, i64_w, i32_w]
        rfl
      refine pure_ (i := 8) (N := some 49) (v := ?_) (a' := ?_) #[true, true, true, true, true, true, true, true, true, true] rfl rfl (any_of HT_.out (by kernel_rfl)) (fun _ _ _ h => h) (Or.inl ⟨by rfl, ?_⟩) ?_ ?_
      rotate_left
      · intro w'
        go_simp
        with_reducible rfl
      rotate_left
      · simp only [Act.put, List.setIfInBounds_toArray, List.set_cons_zero, List.set_cons_succ, i64_w, i32_w]
        rfl
      refine done_ (done_of HT_.out (by kernel_rfl)) ?_
      obtain ⟨nd0, hnd0⟩ : ∃ z, List.replicate (s.L.length : Int).toNat false = z := ⟨_, rfl⟩
      rw [hnd0] at HN6
      have hnl : nd0.length = s.L.length := by rw [← hnd0, List.length_replicate, Int.toNat_natCast]
      obtain ⟨nA, nc, rfl⟩ := Kd.R_slice HN6.out
      rw [hnl] at HN6
      rw [hnl]
      have HS6 := Aside0.mk (Sw.mk HB6.out HK6.out HA6.out HN6.out hnl)
      have HND := Aside0.mk (show ∀ j, j < s.L.length → nd0[j]? = some (needs s.L (AL.take 0) j) from fun j hj => by rw [← hnd0, List.getElem?_replicate, if_pos (by rw [Int.toNat_natCast]; exact hj)]; rfl)
      clear HB6 HK6 HA6 HN6 HP6 HT_ HW_ hHeld hnd0 hnl
      go_wp2
      go_loopg [50] AL.length (fun gk v50 wr => ∃ (i : Nat) (nd : List Bool), v50 = .int .i64 i ∧ Aside0 (i ≤ AL.length ∧ AL.length - i ≤ gk) ∧ Aside0 (Sw w wr s.L.length (.slice nA s.L.length nc) nd (.slice kA KP.length kc) KP (.slice aA AL.length cA) AL) ∧ Aside0 (∀ j, j < s.L.length → nd[j]? = some (needs s.L (AL.take i) j)))
      case atStart => exact ⟨0, nd0, rfl, ⟨by omega, by omega⟩, HS6, HND⟩
      case round =>
        clear HS6 HND
        obtain ⟨i, nd, rfl, HI, HS, HND⟩ := hrel
        by_cases hi : i < AL.length
        · have q1 : decide ((i : Int) < (AL.length : Int)) = true := decide_eq_true (by omega)
          have q1' : (i : Int) < (AL.length : Int) := by omega
          obtain ⟨adA, v, eA, hv, x0⟩ := C_int_at (Kd.R_reads' HS.out.all).2.2 hi
          have HII := Aside0.mk hi
          have HVV := Aside0.mk hv
          have yl := pw_cell_below (below_alloc (HS.out.below) (.map #[] 0)) HY0.out
          have HEA := Aside0.mk eA
          subst eA
          have hin : wrap64 ((i : Int) + 1) = ((i + 1 : Nat) : Int) := by have := HALL.out; unfold wrap64; omega
          have HIN := Aside0.mk hin
          obtain ⟨gA, rfl⟩ : ∃ m, gk = m + 1 := ⟨gk - 1, by have := HI.out; omega⟩
          clear hi hv hin
          go_wp2
          obtain ⟨mb, hmb⟩ : ∃ z, wr.heap.size = z := ⟨_, rfl⟩
          have HMB := Aside0.mk (show w.heap.size ≤ mb by rw [← hmb]; exact HS.out.below.size)
          have HM0 := Aside0.mk (MapI.new wr)
          rw [hmb] at HM0 ⊢
          clear hmb
          go_loopg [60] s.L.length (fun gk2 v60 wr2 => ∃ (j : Nat), v60 = .int .i64 j ∧ Aside0 (j ≤ s.L.length ∧ s.L.length - j ≤ gk2) ∧ Aside0 (Sw w wr2 s.L.length (.slice nA s.L.length nc) nd (.slice kA KP.length kc) KP (.slice (some adA) AL.length cA) AL) ∧ Aside0 (MapI wr2 mb j (nowI s.L v j)))
          case atStart => exact ⟨0, rfl, ⟨by omega, by omega⟩, ⟨HS.out.on (below_alloc (Below.refl _ _) _)⟩, HM0⟩
          case round =>
            obtain ⟨j, rfl, HJ, HS2, HM⟩ := hrel
            by_cases hj : j < s.L.length
            · have q2 : decide ((j : Int) < (s.L.length : Int)) = true := decide_eq_true (by omega)
              have q2' : (j : Int) < (s.L.length : Int) := by omega
              obtain ⟨x, hx⟩ : ∃ x, s.L[j]? = some x := ⟨_, List.getElem?_eq_getElem hj⟩
              obtain ⟨adL, A1, c1, A2, c2, eL, hr⟩ := (HRD.out.below HS2.out.below).at hx
              have y0 := hr.y0
              have y1 := hr.y1
              have y2 := hr.y2
              have y3 := hr.y3
              have y4 := hr.y4
              have HXX := Aside0.mk hx
              have HJJ := Aside0.mk hj
              have HEL := Aside0.mk eL
              subst eL
              clear hx hj hr
              have HS3 := Aside0.mk (HS2.out.on (below_alloc (Below.refl _ _) (.cells #[.int .u64 x.v, .bool x.gone, .int .u32 x.id, .slice A1 x.vec.length c1, .slice A2 x.tags.length c2] 102)))
              have HM3 := Aside0.mk (HM.out.below (below_alloc (Below.refl _ _) (.cells #[.int .u64 x.v, .bool x.gone, .int .u32 x.id, .slice A1 x.vec.length c1, .slice A2 x.tags.length c2] 102)))
              cases q3 : decide (x.v ≤ v) with
              | true =>
                go_wp2_with (at_mapUpdate; refine put_I rfl _ _ _ rfl _ j _ rfl HM3.out (by have := HLL.out; have := HJJ.out; omega) _ _ rfl rfl (HF.out x (List.mem_of_getElem? HXX.out)) (wf_i64 (by have := HLL.out; have := HJJ.out; omega)) ?_; intro w7 hm hO; have HM7 := Aside0.mk hm; have HS7 := Aside0.mk (HS3.out.one hO HM3.out.nocells HMB.out); clear hm hO)
                obtain ⟨gk, rfl⟩ : ∃ m, gk = m + 1 := ⟨gk - 1, by have := HJ.out; have := HJJ.out; omega⟩
                go_roundg gk
                case measure => omega
                case rel => exact ⟨j + 1, congrArg (Value.int .i64) (by have := HLL.out; have := HJJ.out; unfold wrap64; omega), ⟨by have := HJ.out; have := HJJ.out; omega, by have := HJ.out; have := HJJ.out; omega⟩, HS7, ⟨by rw [nowI_fit HXX.out (of_decide_eq_true q3)]; exact HM7.out⟩⟩
              | false =>
                go_wp2
                obtain ⟨gk, rfl⟩ : ∃ m, gk = m + 1 := ⟨gk - 1, by have := HJ.out; have := HJJ.out; omega⟩
                go_roundg gk
                case measure => omega
                case rel => exact ⟨j + 1, congrArg (Value.int .i64) (by have := HLL.out; have := HJJ.out; unfold wrap64; omega), ⟨by have := HJ.out; have := HJJ.out; omega, by have := HJ.out; have := HJJ.out; omega⟩, HS3, ⟨by rw [nowI_unfit HXX.out (of_decide_eq_false q3)]; exact HM3.out.mono (by omega)⟩⟩
            · have q2 : decide ((j : Int) < (s.L.length : Int)) = false := decide_eq_false (by omega)
              have q2' : (j < s.L.length) = False := eq_false hj
              have q2'' : decide (j < s.L.length) = false := decide_eq_false hj
              have hje : j = s.L.length := by have := HJ.out; omega
              subst hje
              clear hj HJ
              go_wp2_with (at_range; refine range_I rfl _ rfl _ _ _ rfl HM.out ?_; intro w8 cnt0 hr hb; have HR8 := Aside0.mk hr; have HS8 := Aside0.mk (HS2.out.on hb); clear hr hb)
              go_frame
              have HRB := Aside0.mk HS2.out.below.size
              obtain ⟨rb, hrb⟩ : ∃ z, wr.heap.size = z := ⟨_, rfl⟩
              rw [hrb] at HR8 HRB ⊢
              clear hrb
              go_loopg [] cnt0 (fun gk3 wr3 => ∃ (cnt : Nat) (left : Int → Bool) (nd3 : List Bool), Aside0 (cnt ≤ gk3) ∧ Aside0 (Sw w wr3 s.L.length (.slice nA s.L.length nc) nd3 (.slice kA KP.length kc) KP (.slice (some adA) AL.length cA) AL) ∧ Aside0 (RanI wr3 mb rb s.L.length (nowI s.L v s.L.length) left cnt) ∧ Aside0 (NdR s.L AL i v left nd3))
              case atStart => exact ⟨cnt0, _, nd, ⟨Nat.le_refl _⟩, HS8, HR8, ⟨NdR.start HND.out⟩⟩
              case round =>
                obtain ⟨cnt, left, nd3, HCN, HS9, HR9, HN9⟩ := hrel
                go_wp2_with (first | (at_next; refine next_I rfl _ rfl _ _ _ _ _ _ rfl HR9.out (fun h0 hl => ?_) (fun id c w9 cnt9 hl hf hr hlt hO hen => ?_)) | go_in)
                · go_roundg gA
                  case measure => omega
                  case rel => exact ⟨i + 1, nd3, congrArg (Value.int .i64) HIN.out, ⟨by have := HII.out; omega, by have := HI.out; have := HII.out; omega⟩, HS9, ⟨HN9.out.done hl HVV.out⟩⟩
                · obtain ⟨jj, rfl, hjl, -⟩ := nowI_some hf
                  have hnl9 := HS9.out.len
                  obtain ⟨bn, cn, eN, hbn, hbl, cellsN, hcN⟩ := Kd.R_form HS9.out.need (by omega)
                  rw [hnl9] at eN
                  injection eN with eN1 eN2 eN3
                  have HEN := Aside0.mk eN1
                  subst eN1
                  subst eN3
                  clear eN2
                  have HS10 := Aside0.mk (HS9.out.one hO HR9.out.nocells HRB.out)
                  have hcell := Kd.R_celln false HS10.out.need (jj : Int) (by omega) (by omega)
                  have z0 : w9.cell? ⟨bn, jj, none⟩ = some (.bool (rdOf false nd3 (jj : Int))) := hcell.1
                  have fz : w9.frozen? ⟨bn, jj, none⟩ = false := hcell.2
                  have HCB := Aside0.mk ((hO.block bn hbl (fun e => by subst e; exact HR9.out.nocells _ _ hcN)).trans hcN)
                  have HBN := Aside0.mk hbn
                  have HLT := Aside0.mk hlt
                  have HJL := Aside0.mk hjl
                  have HRR := Aside0.mk hr
                  have HFF := Aside0.mk hf
                  have q5 : (jj : Int) < (s.L.length : Int) := by omega
                  clear hl hf hO hlt hr hcN hbn hbl hcell hnl9 hjl
                  go_wp2
                  obtain ⟨gk, rfl⟩ : ∃ m, gk = m + 1 := ⟨gk - 1, by have := HCN.out; have := HLT.out; omega⟩
                  go_roundg gk
                  case measure => omega
                  case rel => exact ⟨cnt9, _, _, ⟨by have := HCN.out; have := HLT.out; omega⟩, ⟨HS10.out.put HCB.out HBN.out jj⟩, ⟨HRR.out.put HCB.out jj _⟩, ⟨HN9.out.step HJL.out HFF.out⟩⟩
        · have q1 : decide ((i : Int) < (AL.length : Int)) = false := decide_eq_false (by omega)
          have q1' : (i < AL.length) = False := eq_false hi
          have q1'' : decide (i < AL.length) = false := decide_eq_false hi
          have hie : i = AL.length := by have := HI.out; omega
          subst hie
          clear hi HI
          have hnd : ∀ j, j < s.L.length → nd[j]? = some (needs s.L AL j) := by have := HND.out; rw [List.take_length] at this; exact this
          have HNF := Aside0.mk hnd
          have yl := pw_cell_below (below_alloc (HS.out.below) (.map #[] 0)) HY0.out
          have HMB := Aside0.mk HS.out.below.size
          have HM0 := Aside0.mk (MapB.new wr)
          have HS0 := Aside0.mk (HS.out.on (below_alloc (Below.refl _ _) (.map #[] 0)))
          obtain ⟨nf, hnf⟩ : ∃ z, needs s.L AL = z := ⟨_, rfl⟩
          have HNFE := Aside0.mk hnf
          rw [hnf] at HNF
          clear HND hnd hnf q1 q1' q1''
          go_wp2
          obtain ⟨mb, hmb⟩ : ∃ z, wr.heap.size = z := ⟨_, rfl⟩
          rw [hmb] at HM0 HMB ⊢
          clear hmb HS
          go_loopg [17, 91] s.L.length (fun gk v17 v91 wr8 => ∃ (j : Nat) (a : Option Addr) (c : Nat), v91 = .int .i64 j ∧ v17 = .slice a (stays s.L nf j).length c ∧ Aside0 (j ≤ s.L.length ∧ s.L.length - j ≤ gk) ∧ Aside0 (Sw w wr8 s.L.length (.slice nA s.L.length nc) nd (.slice kA KP.length kc) KP (.slice aA AL.length cA) AL) ∧ Aside0 (MapB wr8 mb j (elderF (stays s.L nf j))) ∧ Aside0 (OwnR Z wr8 w.heap.size (.slice a (stays s.L nf j).length c) (stays s.L nf j)))
          case atStart => exact ⟨0, none, 0, rfl, rfl, ⟨by omega, by omega⟩, HS0, HM0, ⟨OwnR.nil _ _ _⟩⟩
          case round =>
            clear HS0 HM0 yl
            obtain ⟨j, la, lc, rfl, rfl, HJ, HS, HM, HO⟩ := hrel
            by_cases hj : j < s.L.length
            · have q2 : decide ((j : Int) < (s.L.length : Int)) = true := decide_eq_true (by omega)
              have q2' : (j : Int) < (s.L.length : Int) := by omega
              obtain ⟨x, hx⟩ : ∃ x, s.L[j]? = some x := ⟨_, List.getElem?_eq_getElem hj⟩
              obtain ⟨adL, A1, c1, A2, c2, eL, hr, hfr⟩ := (HRI.out.below HS.out.below) j x hx
              have y0 := hr.y0
              have y1 := hr.y1
              have y2 := hr.y2
              have y3 := hr.y3
              have y4 := hr.y4
              have hnl := HS.out.len
              obtain ⟨bn, cn, eN, -, -, -⟩ := Kd.R_form HS.out.need (by omega)
              rw [hnl] at eN
              injection eN with eN1 eN2 eN3
              subst eN1
              subst eN3
              clear eN2
              have HBA := Aside0.mk (below_alloc (Below.refl wr.heap.size wr) (.cells #[.int .u64 x.v, .bool x.gone, .int .u32 x.id, .slice A1 x.vec.length c1, .slice A2 x.tags.length c2] 102))
              have HS3 := Aside0.mk (HS.out.on HBA.out)
              have hcell := Kd.R_celln false HS3.out.need (j : Int) (by omega) (by omega)
              have hrd : rdOf false nd (j : Int) = nf j := by unfold rdOf; rw [List.getD_eq_getElem?_getD, Int.toNat_natCast, HNF.out j hj]; rfl
              rw [hrd] at hcell
              have z0 : (wr.alloc (.cells #[.int .u64 x.v, .bool x.gone, .int .u32 x.id, .slice A1 x.vec.length c1, .slice A2 x.tags.length c2] 102)).cell? ⟨bn, j, none⟩ = some (.bool (nf j)) := hcell.1
              have HXX := Aside0.mk hx
              have HJJ := Aside0.mk hj
              have HFR := Aside0.mk hfr
              have HIN := Aside0.mk (show wrap64 ((j : Int) + 1) = ((j + 1 : Nat) : Int) by have := HLL.out; unfold wrap64; omega)
              have HM3 := Aside0.mk (HM.out.only (Only.of_below (S := fun _ => False) HBA.out) (fun h => h))
              have HO3 := Aside0.mk (HO.out.below HBA.out)
              have HID := Aside0.mk (HF.out x (List.mem_of_getElem? hx))
              have HEL := Aside0.mk eL
              obtain ⟨gk, rfl⟩ : ∃ m, gk = m + 1 := ⟨gk - 1, by have := HJ.out; omega⟩
              have q2n : (j < s.L.length) = True := eq_true hj
              subst eL
              clear hx hj hr hfr hcell hnl hrd
              cases hq : nf j with
              | false =>
                rw [hq] at z0
                have HQ := Aside0.mk (show stays s.L nf (j + 1) = stays s.L nf j by show (match s.L[j]? with | none => stays s.L nf j | some x => if (nf j && (!x.gone || (stays s.L nf j).any fun y => decide (y.id = x.id))) = true then stays s.L nf j ++ [x] else stays s.L nf j) = _; rw [HXX.out, hq]; rfl)
                clear hq
                go_wp2
                go_roundg gk
                case measure => omega
                case rel => exact ⟨j + 1, la, lc, congrArg (Value.int .i64) HIN.out, by rw [HQ.out], ⟨by have := HJJ.out; omega, by have := HJ.out; have := HJJ.out; omega⟩, HS3, ⟨by rw [HQ.out]; exact HM3.out.mono (by omega)⟩, ⟨by rw [HQ.out]; exact HO3.out⟩⟩
              | true =>
                rw [hq] at z0
                cases hg : x.gone with
                | false =>
                  have HQ := Aside0.mk (show stays s.L nf (j + 1) = stays s.L nf j ++ [x] from by show (match s.L[j]? with | none => stays s.L nf j | some x => if (nf j && (!x.gone || (stays s.L nf j).any fun y => decide (y.id = x.id))) = true then stays s.L nf j ++ [x] else stays s.L nf j) = _; rw [HXX.out]; dsimp only; rw [hq, hg]; rfl)
                  clear hq
                  rw [hg] at y1 HS3 HM3 HO3 HFR HBA z0
                  go_wp2_with (first
                    | (at_mapUpdate; refine put_B rfl _ _ _ rfl _ j _ rfl HM3.out (by have := HLL.out; have := HJJ.out; omega) _ rfl rfl HID.out ?_; intro w7 hm hO; have HM7 := Aside0.mk hm; have HS7 := Aside0.mk (HS3.out.one hO HM3.out.nocells HMB.out); have HO7 := Aside0.mk (HO3.out.one hO HM3.out.nocells); have HFR7 := Aside0.mk (HFR.out.on ((Mem.below HBA.out).trans (Mem.one Z hO HM3.out.nocells))); have hbx := (hO.block wr.heap.size (by rw [World.size_alloc]; exact Nat.lt_succ_self _) (fun e => by have := HM.out.lt; omega)).trans (heap_alloc_new wr _); have b0 := (blk_cell hbx 0).trans rfl; have b1 := (blk_cell hbx 1).trans rfl; have b2 := (blk_cell hbx 2).trans rfl; have b3 := (blk_cell hbx 3).trans rfl; have b4 := (blk_cell hbx 4).trans rfl; clear hm hO hbx)
                    | (at_builtin; refine app_R rfl (.tmp 116) (.tmp 118) rfl w.heap.size _ (stays s.L nf j) x [.int .u64 x.v, .bool false, .int .u32 x.id, .slice A1 x.vec.length c1, .slice A2 x.tags.length c2] rfl rfl HO7.out HFR7.out (by have := stays_length s.L nf j; have := HJJ.out; have := HLL.out; omega) HS7.out.below.size ?_; intro v9 w9 ho hOn; obtain ⟨L9, hL9⟩ : ∃ z, stays s.L nf j ++ [x] = z := ⟨_, rfl⟩; rw [hL9] at ho; have HL9 := Aside0.mk hL9; obtain ⟨la9, lc9, rfl, -, -⟩ := ho.reads; have HO9 := Aside0.mk ho; have hO8 := HO7.out.below (below_alloc (Below.refl _ _) (.cells #[.int .u64 x.v, .bool false, .int .u32 x.id, .slice A1 x.vec.length c1, .slice A2 x.tags.length c2] 102)); have HS9 := Aside0.mk ((HS7.out.on (below_alloc (Below.refl _ _) _)).tt hOn (fun k hk => ⟨by obtain ⟨c, hc⟩ := hO8.typed k hk; exact ⟨c, .inl hc⟩, hO8.base k hk⟩)); have HM8 := HM7.out.only (Only.of_below (S := fun _ => False) (below_alloc (Below.refl _ _) (.cells #[.int .u64 x.v, .bool false, .int .u32 x.id, .slice A1 x.vec.length c1, .slice A2 x.tags.length c2] 102))) (fun h => h); have HM9 := Aside0.mk (HM8.only hOn (fun e => by obtain ⟨c, hc⟩ := hO8.typed _ e; exact HM8.nocells _ _ hc)); clear ho hOn hL9 hO8 HM8)
                    | go_in)
                  go_roundg gk
                  case measure => omega
                  case rel =>
                    have hq9 := HQ.out.trans HL9.out
                    exact ⟨j + 1, la9, lc9, congrArg (Value.int .i64) HIN.out, by rw [hq9], ⟨by have := HJJ.out; omega, by have := HJ.out; have := HJJ.out; omega⟩, HS9, ⟨by rw [HQ.out, elderF_put]; exact HM9.out⟩, ⟨by rw [hq9]; exact HO9.out⟩⟩
                | true =>
                  obtain ⟨bb, hrun, hb0, hb1⟩ := HM3.out.look HID.out
                  cases ha : (stays s.L nf j).any (fun y => decide (y.id = x.id)) with
                  | false =>
                    have HQ := Aside0.mk (show stays s.L nf (j + 1) = stays s.L nf j from by show (match s.L[j]? with | none => stays s.L nf j | some x => if (nf j && (!x.gone || (stays s.L nf j).any fun y => decide (y.id = x.id))) = true then stays s.L nf j ++ [x] else stays s.L nf j) = _; rw [HXX.out]; dsimp only; rw [hq, hg, ha]; rfl)
                    have e0 : elderF (stays s.L nf j) x.id = none := by unfold elderF; rw [ha]; rfl
                    have e1 := hb0 e0
                    subst e1
                    clear hq ha hb0 hb1 e0
                    rw [hg] at y1 HS3 HM3 HO3 HFR HBA z0 hrun
                    go_wp2
                    go_roundg gk
                    case measure => omega
                    case rel => exact ⟨j + 1, la, lc, congrArg (Value.int .i64) HIN.out, by rw [HQ.out], ⟨by have := HJJ.out; omega, by have := HJ.out; have := HJJ.out; omega⟩, HS3, ⟨by rw [HQ.out]; exact HM3.out.mono (by omega)⟩, ⟨by rw [HQ.out]; exact HO3.out⟩⟩
                  | true =>
                    have HQ := Aside0.mk (show stays s.L nf (j + 1) = stays s.L nf j ++ [x] from by show (match s.L[j]? with | none => stays s.L nf j | some x => if (nf j && (!x.gone || (stays s.L nf j).any fun y => decide (y.id = x.id))) = true then stays s.L nf j ++ [x] else stays s.L nf j) = _; rw [HXX.out]; dsimp only; rw [hq, hg, ha]; rfl)
                    have e0 : elderF (stays s.L nf j) x.id = some 1 := by unfold elderF; rw [ha]; rfl
                    have e1 := hb1 e0
                    subst e1
                    clear hq ha hb0 hb1 e0
                    rw [hg] at y1 HS3 HM3 HO3 HFR HBA z0 hrun
                    go_wp2_with (first
                      | (at_mapUpdate; refine put_B rfl _ _ _ rfl _ j _ rfl HM3.out (by have := HLL.out; have := HJJ.out; omega) _ rfl rfl HID.out ?_; intro w7 hm hO; have HM7 := Aside0.mk hm; have HS7 := Aside0.mk (HS3.out.one hO HM3.out.nocells HMB.out); have HO7 := Aside0.mk (HO3.out.one hO HM3.out.nocells); have HFR7 := Aside0.mk (HFR.out.on ((Mem.below HBA.out).trans (Mem.one Z hO HM3.out.nocells))); have hbx := (hO.block wr.heap.size (by rw [World.size_alloc]; exact Nat.lt_succ_self _) (fun e => by have := HM.out.lt; omega)).trans (heap_alloc_new wr _); have b0 := (blk_cell hbx 0).trans rfl; have b1 := (blk_cell hbx 1).trans rfl; have b2 := (blk_cell hbx 2).trans rfl; have b3 := (blk_cell hbx 3).trans rfl; have b4 := (blk_cell hbx 4).trans rfl; clear hm hO hbx)
                      | (at_builtin; refine app_R rfl (.tmp 116) (.tmp 118) rfl w.heap.size _ (stays s.L nf j) x [.int .u64 x.v, .bool true, .int .u32 x.id, .slice A1 x.vec.length c1, .slice A2 x.tags.length c2] rfl rfl HO7.out HFR7.out (by have := stays_length s.L nf j; have := HJJ.out; have := HLL.out; omega) HS7.out.below.size ?_; intro v9 w9 ho hOn; obtain ⟨L9, hL9⟩ : ∃ z, stays s.L nf j ++ [x] = z := ⟨_, rfl⟩; rw [hL9] at ho; have HL9 := Aside0.mk hL9; obtain ⟨la9, lc9, rfl, -, -⟩ := ho.reads; have HO9 := Aside0.mk ho; have hO8 := HO7.out.below (below_alloc (Below.refl _ _) (.cells #[.int .u64 x.v, .bool true, .int .u32 x.id, .slice A1 x.vec.length c1, .slice A2 x.tags.length c2] 102)); have HS9 := Aside0.mk ((HS7.out.on (below_alloc (Below.refl _ _) _)).tt hOn (fun k hk => ⟨by obtain ⟨c, hc⟩ := hO8.typed k hk; exact ⟨c, .inl hc⟩, hO8.base k hk⟩)); have HM8 := HM7.out.only (Only.of_below (S := fun _ => False) (below_alloc (Below.refl _ _) (.cells #[.int .u64 x.v, .bool true, .int .u32 x.id, .slice A1 x.vec.length c1, .slice A2 x.tags.length c2] 102))) (fun h => h); have HM9 := Aside0.mk (HM8.only hOn (fun e => by obtain ⟨c, hc⟩ := hO8.typed _ e; exact HM8.nocells _ _ hc)); clear ho hOn hL9 hO8 HM8)
                      | go_in)
                    go_roundg gk
                    case measure => omega
                    case rel =>
                      have hq9 := HQ.out.trans HL9.out
                      exact ⟨j + 1, la9, lc9, congrArg (Value.int .i64) HIN.out, by rw [hq9], ⟨by have := HJJ.out; omega, by have := HJ.out; have := HJJ.out; omega⟩, HS9, ⟨by rw [HQ.out, elderF_put]; exact HM9.out⟩, ⟨by rw [hq9]; exact HO9.out⟩⟩
            · have q2 : decide ((j : Int) < (s.L.length : Int)) = false := decide_eq_false (by omega)
              have q2' : (j < s.L.length) = False := eq_false hj
              have q2'' : decide (j < s.L.length) = false := decide_eq_false hj
              have hje : j = s.L.length := by have := HJ.out; omega
              subst hje
              have hsl : stays s.L nf s.L.length = s.stay keep := by unfold St.stay; rw [HKE.out, HALE.out, HNFE.out]
              have hsn : (s.stay keep).length ≤ s.L.length := stays_length _ _ _
              rw [hsl] at HO ⊢
              obtain ⟨SL, hSL⟩ : ∃ z, s.stay keep = z := ⟨_, rfl⟩
              have HSL := Aside0.mk hSL
              rw [hSL] at HO hsn ⊢
              have HWR := Aside0.mk (show wrap64 ((s.L.length : Int) - (SL.length : Int)) = (s.L.length : Int) - (SL.length : Int) by have := HLL.out; unfold wrap64; omega)
              obtain ⟨vL, vK, hbox⟩ := (HX.out.below HS.out.below).box
              have y0 := pw_cell_below HS.out.below HY0.out
              have y1 := (blk_cell hbox 1).trans rfl
              have y2 := (blk_cell hbox 2).trans rfl
              have y3 := (blk_cell hbox 3).trans rfl
              have HBX := Aside0.mk hbox
              have fz : ∀ j, wr.frozen? ⟨g, j, none⟩ = false := fun j => blk_frozen HBX.out j
              clear hj HJ hsl hSL hbox HM
              go_wp2
              have hfin := PX.swept HX.out HS.out.below HO.out HS.out.kept (Nat.le_trans hsn HLL.out) (by have := HKL.out; omega) s.last
              have HFIN := Aside0.mk hfin
              clear hfin
              go_ret
              have es : s.sweep keep = ((s.L.length : Int) - (SL.length : Int), ⟨SL, s.last, s.last, KP⟩) := by unfold St.sweep; rw [HSL.out, HKE.out]
              rw [es]
              exact ⟨by rw [HWR.out]; rfl, HFIN.out⟩
theorem PX.sweep (h : PX Z w0 w g s) (hf : s.Fit) (ao : Option Addr) (cap : Nat) (keep : List Int) (hC : Kd.C (Kd.int .u64) w ao keep.length keep) (hl : keep.length ≤ 1000) :
    Calls Try.prog 28 #[.pointer (some ⟨g, 0, none⟩), .slice ao keep.length cap] w fun e w' => e = .returned (.int .i64 (s.sweep keep).1) ∧ PX Z w0 w' g (s.sweep keep).2 ∧ Only (TT w) w w' :=
  (h.sweepF hf ao cap keep hC hl).mono fun e w' ⟨h1, h2, h3⟩ => ⟨h1, h2, h3.only.mono (fun k hk => hk.1)⟩
end
end Go.Proofs.Ytjbakaplcjkniaa.Pa
