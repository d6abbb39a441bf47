/- Topk: selectors in memory; the walk of 'Put'. No condition. -/
import Derived.Test.YtchiobhklbefjaaTk2
import Derived.Deep.RegionLaw
namespace Go.Proofs.Ytchiobhklbefjaa.Tk
open Go.RowKit Go.Proofs.YtchiobhklbefjaaW.PrintWords Go.Proofs.Ytchiobhklbefjaa.Q
set_option linter.unusedVariables false
/-- The blocks of S, and those that were made between w and w'. -/
def ext (S : Nat → Prop) (w w' : World) (i : Nat) : Prop := S i ∨ (w.heap.size ≤ i ∧ i < w'.heap.size)
theorem row_of_own {w : World} {v : Value} {A : List H} (h : w.ownsRow 0 29 2 v A.length (cellsOf A)) (hA : 0 < A.length) : ∃ r cap, v = .slice (some ⟨r, 0, none⟩) A.length cap ∧ cap ≤ maxLen ∧ RowAt w r cap A := by
  rcases h.2 with ⟨_, h0⟩ | ⟨g, cap, cur, rfl, _, hh, h1, h2, h3, h4⟩
  · omega
  · refine ⟨g, cap, rfl, h2, cur.toList.drop (A.length * 2), ?_, ?_⟩
    · have e : cellsOf A ++ cur.toList.drop (A.length * 2) = cur.toList := by rw [← h4, List.take_append_drop]
      rw [e, hh]
    · have e : cellsOf A ++ cur.toList.drop (A.length * 2) = cur.toList := by rw [← h4, List.take_append_drop]
      rw [e, Array.length_toList, h3]
theorem own_of_row {w : World} {r cap : Nat} {A : List H} (h : RowAt w r cap A) (hc : cap ≤ maxLen) : w.ownsRow 0 29 2 (.slice (some ⟨r, 0, none⟩) A.length cap) A.length (cellsOf A) := by
  have hle := h.le
  obtain ⟨rest, hb, hl⟩ := h.out
  exact ⟨cellsOf_len A, .inr ⟨r, cap, _, rfl, Nat.zero_le _, hb, hle, hc, by simpa using hl, by rw [← cellsOf_len A]; simp⟩⟩
structure Best (w : World) (S : Nat → Prop) (g k : Nat) (A : List H) : Prop where
  at_ : ∃ v, w.heap[g]? = some (.cells #[.int .i64 k, v] 107 (0, 0)) ∧ w.ownsRow 0 29 2 v A.length (cellsOf A) ∧ ∀ j, v.ownBlock = some j → S j ∧ j ≠ g
  sg : S g
  lt : ∀ i, S i → i < w.heap.size
  hk : k ≤ 256
  hA : A.length ≤ k
theorem own_block {w : World} {v : Value} {n : Nat} {xs : List Value} (h : w.ownsRow 0 29 2 v n xs) : ∀ k, v.ownBlock = some k → k < w.heap.size := fun k hk => own_lt h k hk
theorem Best.keep {w w1 : World} {S T : Nat → Prop} {g k : Nat} {A : List H} (h : Best w S g k A) (hO : Only T w w1) (hd : ∀ i, S i → ¬ T i) : Best w1 S g k A := by
  obtain ⟨v, hg, ho, hv⟩ := h.at_
  refine ⟨⟨v, (hO.block g (h.lt g h.sg) (hd g h.sg)).trans hg, own_move ho (fun j hj => hO.block j (h.lt j (hv j hj).1) (hd j (hv j hj).1)), hv⟩, h.sg, fun i hi => Nat.lt_of_lt_of_le (h.lt i hi) hO.size, h.hk, h.hA⟩
theorem Best.below {w w1 : World} {S : Nat → Prop} {g k : Nat} {A : List H} (h : Best w S g k A) (hb : Below w.heap.size w w1) : Best w1 S g k A := h.keep (T := fun _ => False) (Only.of_below hb) (fun _ _ x => x)
theorem Best.grow {w : World} {S T : Nat → Prop} {g k : Nat} {A : List H} (h : Best w S g k A) (hs : ∀ i, S i → T i) (ht : ∀ i, T i → i < w.heap.size) : Best w T g k A := by
  obtain ⟨v, hg, ho, hv⟩ := h.at_
  exact ⟨⟨v, hg, ho, fun j hj => ⟨hs j (hv j hj).1, (hv j hj).2⟩⟩, hs g h.sg, ht, h.hk, h.hA⟩
def putL (k : Nat) (A : List H) (h : H) : List H :=
  if A.length < k then upL (A.length + 1) (A ++ [h]) A.length else if 0 < k ∧ ltH h (rdH A 0) = true then downL (A.length + 1) (A.set 0 h) 0 else A
theorem upL_len : ∀ (f : Nat) (A : List H) (i : Nat), (upL f A i).length = A.length
  | 0, A, i => rfl
  | f + 1, A, i => by
    simp only [upL]
    split
    · rfl
    split
    · rw [upL_len f, swapL_len]
    · rfl
theorem downL_len : ∀ (f : Nat) (A : List H) (i : Nat), (downL f A i).length = A.length
  | 0, A, i => rfl
  | f + 1, A, i => by
    simp only [downL]
    split
    · rfl
    split
    · rw [downL_len f, swapL_len]
    · rfl
theorem info_hit : (Try.prog.info? 29).map (fun i => (i.zero, i.size, i.bytes)) = some (some (.agg #[.int .i64 0, .int .u32 0]), 2, 16) := by kernel_rfl
theorem Only.of_grown {S : Nat → Prop} {w w1 : World} {row : Option Nat} (h : w.grownBy w1 row) (hr : ∀ k, row = some k → S k) : Only S w w1 :=
  ⟨h.os, h.tape, h.output, h.size, fun k hk hs => h.block k hk (fun e => hs (hr k e.symm))⟩
theorem Only.grown {S : Nat → Prop} {w0 w w1 : World} {row : Option Nat} (h0 : Only S w0 w) (h : w.grownBy w1 row) (hr : ∀ k, row = some k → k < w0.heap.size → S k) : Only S w0 w1 :=
  ⟨h.os.trans h0.os, h.tape.trans h0.tape, h.output.trans h0.output, Nat.le_trans h0.size h.size, fun k hk hs => (h.block k (Nat.lt_of_lt_of_le hk h0.size) (fun e => hs (hr k e.symm hk))).trans (h0.block k hk hs)⟩
/-- What is written afterwards lies in blocks that are new since w, or in S. -/
theorem Only.then_ {S T : Nat → Prop} {a b c : World} (h : Only S a b) (k : Only T b c) (ht : ∀ i, T i → i < a.heap.size → S i) : Only S a c :=
  ⟨k.os.trans h.os, k.tape.trans h.tape, k.output.trans h.output, Nat.le_trans h.size k.size, fun i hi hs => (k.block i (Nat.lt_of_lt_of_le hi h.size) (fun x => hs (ht i x hi))).trans (h.block i hi hs)⟩
theorem wp_world {P : Program} {c : Code} {Q : Exit → Act → World → Prop} {a : Act} {W : World} (R : World → Prop) (hR : R W) (h : ∀ w', R w' → c.wp P Q a w') : c.wp P Q a W := h W hR
/-- A new block, and draws: what it holds. -/
theorem new_block (w : World) (cs : Array Value) (t : TypeId) (n : Nat) : ((w.alloc (.cells cs t)).drewN n).heap[w.heap.size]? = some (.cells cs t (0, 0)) := heap_alloc_new w (.cells cs t)
theorem hit_one (h : H) : ∀ u ∈ enc h, u.oneCell' = true := by
  intro u hu
  simp only [enc, List.mem_cons, List.not_mem_nil, or_false] at hu
  rcases hu with rfl | rfl <;> rfl
theorem ext_mono {S : Nat → Prop} {w w1 w2 : World} (h : w1.heap.size ≤ w2.heap.size) : ∀ i, ext S w w1 i → ext S w w2 i := fun i hi => hi.imp id (fun x => ⟨x.1, by omega⟩)
theorem ext_ext {S : Nat → Prop} {w w1 w2 : World} (h : w.heap.size ≤ w1.heap.size) (h2 : w1.heap.size ≤ w2.heap.size) : ∀ i, ext (ext S w w1) w1 w2 i → ext S w w2 i := fun i hi => by
  rcases hi with (hi | hi) | hi
  · exact .inl hi
  · exact .inr ⟨hi.1, by omega⟩
  · exact .inr ⟨by omega, hi.2⟩
theorem ext_lt {S : Nat → Prop} {w w1 : World} (hS : ∀ i, S i → i < w.heap.size) (h : w.heap.size ≤ w1.heap.size) : ∀ i, ext S w w1 i → i < w1.heap.size := fun i hi => by
  rcases hi with hi | hi
  · exact Nat.lt_of_lt_of_le (hS i hi) h
  · exact hi.2
theorem Best.slice {w : World} {S : Nat → Prop} {g k : Nat} {A : List H} (h : Best w S g k A) (hA : 0 < A.length) : ∃ r cap, w.heap[g]? = some (.cells #[.int .i64 k, .slice (some ⟨r, 0, none⟩) A.length cap] 107 (0, 0)) ∧ RowAt w r cap A ∧ cap ≤ maxLen ∧ g ≠ r ∧ S r := by
  obtain ⟨v, hg, ho, hv⟩ := h.at_
  obtain ⟨r, cap, rfl, hc, hr⟩ := row_of_own ho hA
  have := hv r rfl
  exact ⟨r, cap, hg, hr, hc, fun e => this.2 e.symm, this.1⟩
theorem Best.mk' {w : World} {S : Nat → Prop} {g r cap k : Nat} {A : List H} (hg : w.heap[g]? = some (.cells #[.int .i64 k, .slice (some ⟨r, 0, none⟩) A.length cap] 107 (0, 0))) (hr : RowAt w r cap A) (hc : cap ≤ maxLen) (hne : g ≠ r) (sr : S r) (sg : S g) (lt : ∀ i, S i → i < w.heap.size) (hk : k ≤ 256) (hA : A.length ≤ k) : Best w S g k A :=
  ⟨⟨_, hg, own_of_row hr hc, fun j hj => by simp only [Value.ownBlock, Option.some.injEq] at hj; subst hj; exact ⟨sr, fun e => hne e.symm⟩⟩, sg, lt, hk, hA⟩
/-- The way up, of a selector. -/
theorem up_best (S : Nat → Prop) (g k : Nat) (A : List H) (w : World) (h : Best w S g k A) (hA : 0 < A.length) :
    Calls Try.prog 64 #[.pointer (some ⟨g, 0, none⟩)] w fun e w' => e = .returned (.tuple #[]) ∧ Only S w w' ∧ Best w' (ext S w w') g k (upL A.length A (A.length - 1)) := by
  obtain ⟨r, cap, hg, hr, hc, hne, sr⟩ := h.slice hA
  have hk := h.hk
  have hA2 := h.hA
  refine (up_calls g r cap k A w hg hr hne hA (by omega)).mono fun e w' ⟨he, hO, hR⟩ => ⟨he, hO.mono (fun i hi => hi ▸ sr), ?_⟩
  have hg' := (hO.block g (blk_lt hg) hne).trans hg
  exact Best.mk' (by rw [upL_len]; exact hg') hR hc hne (.inl sr) (.inl h.sg) (ext_lt h.lt hO.size) h.hk (by rw [upL_len]; exact h.hA)
theorem down_best (S : Nat → Prop) (g k : Nat) (A : List H) (w : World) (h : Best w S g k A) (hA : 0 < A.length) :
    Calls Try.prog 66 #[.pointer (some ⟨g, 0, none⟩)] w fun e w' => e = .returned (.tuple #[]) ∧ Only S w w' ∧ Best w' (ext S w w') g k (downL (A.length + 1) A 0) := by
  obtain ⟨r, cap, hg, hr, hc, hne, sr⟩ := h.slice hA
  have hk := h.hk
  have hA2 := h.hA
  refine (down_calls g r cap k A w hg hr hne (by omega)).mono fun e w' ⟨he, hO, hR⟩ => ⟨he, hO.mono (fun i hi => hi ▸ sr), ?_⟩
  have hg' := (hO.block g (blk_lt hg) hne).trans hg
  exact Best.mk' (by rw [downL_len]; exact hg') hR hc hne (.inl sr) (.inl h.sg) (ext_lt h.lt hO.size) h.hk (by rw [downL_len]; exact h.hA)
theorem appended {S : Nat → Prop} {g k cap k1 : Nat} {A : List H} {h : H} {w w1 w2 : World} {ao a1 : Option Addr} (hB : Best w S g k A) (hlt : A.length < k) (hb1 : Below w.heap.size w w1)
    (hv : ∀ j, (Value.slice ao A.length cap).ownBlock = some j → S j ∧ j ≠ g) (hg2 : w2.heap[g]? = some (.cells #[.int .i64 k, .slice ao A.length cap] 107 (0, 0)))
    (hown : w2.ownsRow 0 29 2 (.slice a1 (A.length + 1) k1) (A.length + 1) (cellsOf A ++ enc h)) (hG : w1.grownBy w2 (Value.slice ao A.length cap).ownBlock)
    (hat : (Value.slice a1 (A.length + 1) k1).ownBlock = (Value.slice ao A.length cap).ownBlock ∨ ∃ b, (Value.slice a1 (A.length + 1) k1).ownBlock = some b ∧ w1.heap.size ≤ b) :
    Only S w (w2.setCell ⟨g, 1, none⟩ (.slice a1 (A.length + 1) k1)) ∧ Best (w2.setCell ⟨g, 1, none⟩ (.slice a1 (A.length + 1) k1)) (ext S w (w2.setCell ⟨g, 1, none⟩ (.slice a1 (A.length + 1) k1))) g k (A ++ [h]) := by
  have hO : Only S w w2 := (Only.of_below hb1).grown hG (fun j hj _ => (hv j hj).1)
  have hO3 := hO.set ⟨g, 1, none⟩ (.slice a1 (A.length + 1) k1) hB.sg
  have hl := own_block hown
  refine ⟨hO3, ⟨_, by have := blk_set hg2 1 (.slice a1 (A.length + 1) k1); exact this, ?_, ?_⟩, .inl hB.sg, ext_lt hB.lt hO3.size, hB.hk, by simp; omega⟩
  · have hne : some g ≠ (Value.slice a1 (A.length + 1) k1).ownBlock := own_ne hown hg2 (by decide)
    have h1 := own_setCell hown (p := ⟨g, 1, none⟩) hne (.slice a1 (A.length + 1) k1)
    have e1 : (A ++ [h]).length = A.length + 1 := by simp
    have e2 : cellsOf (A ++ [h]) = cellsOf A ++ enc h := by simp [cellsOf]
    rw [e1, e2]; exact h1
  · intro j hj
    have hne : some g ≠ (Value.slice a1 (A.length + 1) k1).ownBlock := own_ne hown hg2 (by decide)
    refine ⟨?_, fun e => hne (by rw [hj, e])⟩
    rcases hat with hat | ⟨b, hb, hle⟩
    · exact .inl (hv j (hat ▸ hj)).1
    · obtain rfl : b = j := by rw [hb] at hj; exact Option.some.inj hj
      refine .inr ⟨Nat.le_trans hb1.size hle, ?_⟩
      rw [size_set]; exact hl b hb
set_option maxHeartbeats 4000000 in
set_option maxRecDepth 100000 in
theorem put_room (S : Nat → Prop) (g k : Nat) (A : List H) (h : H) (w : World) (hB : Best w S g k A) (hlt : A.length < k) :
    Calls Try.prog 25 #[.pointer (some ⟨g, 0, none⟩), .agg #[.int .i64 h.f0, .int .u32 h.f1]] w fun e w' => e = .returned (.tuple #[]) ∧ Only S w w' ∧ Best w' (ext S w w') g k (upL (A.length + 1) (A ++ [h]) A.length) := by
  have hu := Try.underlying29
  have hu2 := Try.underlying22
  obtain ⟨v, hg, ho, hv⟩ := hB.at_
  obtain ⟨ao, cap, rfl⟩ := own_slice ho
  have c0 : w.cell? ⟨g, 0, none⟩ = some (.int .i64 k) := by rw [blk_cell hg]; rfl
  have c1 : w.cell? ⟨g, 1, none⟩ = some (.slice ao A.length cap) := by rw [blk_cell hg]; rfl
  have hgl : g < w.heap.size := blk_lt hg
  have hlt' : decide ((A.length : Int) < (k : Int)) = true := decide_eq_true (by omega)
  have HBB := Aside0.mk hB
  have Hg := Aside0.mk hg
  have Ho := Aside0.mk ho
  have Hv := Aside0.mk hv
  clear hB hg ho hv
  go_enter Try.func25, Try.ntmps25
  go_wp2_with fail
  go_quiet (fail)
  go_wp2_with fail
  refine wp_world (fun w' => Below w.heap.size w w' ∧ w'.heap[w.heap.size]? = some (boxH h)) ⟨pw_below_drewN (below_alloc (Below.refl _ _) _) _, new_block _ _ _ _⟩ ?_
  rintro w1 ⟨hb1, hn1⟩
  clear c0 c1 hlt'
  have hg1 := (hb1.block g hgl).trans Hg.out
  have c1 : w1.cell? ⟨g, 1, none⟩ = some (.slice ao A.length cap) := by rw [blk_cell hg1]; rfl
  have b0 : w1.cell? ⟨w.heap.size, 0, none⟩ = some (.int .i64 h.f0) := by rw [blk_cell hn1]; rfl
  have b1 : w1.cell? ⟨w.heap.size, 1, none⟩ = some (.int .u32 h.f1) := by rw [blk_cell hn1]; rfl
  have HB1 := Aside0.mk hb1
  have Hg1 := Aside0.mk hg1
  have Ho1 := Aside0.mk (pw_own_below Ho.out hb1)
  have HL := Aside0.mk (show (A.length + 1) * 16 ≤ 140737488355328 by have := HBB.out.hk; omega)
  have hgl1 : g < w1.heap.size := Nat.lt_of_lt_of_le hgl hb1.size
  have hwl1 : w.heap.size < w1.heap.size := blk_lt hn1
  clear hb1 hg1 hn1
  go_region_law (refine step_append_cells 0 rfl (.tmp 18) (.tmp 20) 22 29 (.agg #[.int .i64 0, .int .u32 0]) 2 16 rfl hu2 info_hit rfl (by decide) (by decide) (.slice ao A.length cap) A.length (cellsOf A) (enc h) (by simp [Act.eval]) (by simp [Act.eval]) rfl (hit_one h) (pw_own_below Ho1.out (below_drew (Below.refl _ _))) (Below.refl _ _) (Nat.zero_le _) HL.out ?_; intro v1 w2 hown hb hg hat; obtain ⟨a1, k1, rfl⟩ := own_slice hown; have hg2 := Aside0.mk ((hg.block g (Nat.lt_of_lt_of_le hgl HB1.out.size) (fun e => (Hv.out g e.symm).2 rfl)).trans Hg1.out); have c2 : w2.cell? ⟨g, 1, none⟩ = some (.slice ao A.length cap) := (blk_cell hg2.out 1).trans rfl; have f2 : w2.frozen? ⟨g, 1, none⟩ = false := blk_frozen hg2.out 1; have Hown := Aside0.mk hown; have HG2 := Aside0.mk hg; have HAT := Aside0.mk hat; clear hown hb hg hat)
  all_goals
    obtain ⟨hO3, hB3⟩ := appended HBB.out hlt (below_drew HB1.out) Hv.out hg2.out Hown.out HG2.out HAT.out
    have HO3 := Aside0.mk hO3
    have HB3 := Aside0.mk hB3
    clear hO3 hB3
    go_wp2_with ((go_at_call 64; (with_reducible refine (up_best _ g k _ _ HB3.out (by simp)).mono ?_); rintro e w4 ⟨rfl, hO4, hB4⟩; have HO4 := Aside0.mk hO4; have HB4 := Aside0.mk hB4; clear hO4 hB4))
    refine bodyPost_ret (results_none rfl _ _ _) rfl ?_
    refine ⟨rfl, HO3.out.then_ HO4.out (fun i hi hl => hi.elim id (fun x => absurd hl (by omega))), ?_⟩
    have h4 := HB4.out.grow (ext_ext HO3.out.size HO4.out.size) (ext_lt HBB.out.lt (Nat.le_trans HO3.out.size HO4.out.size))
    have e : (A ++ [h]).length = A.length + 1 := by simp
    rw [e] at h4
    exact h4
end Go.Proofs.Ytchiobhklbefjaa.Tk
