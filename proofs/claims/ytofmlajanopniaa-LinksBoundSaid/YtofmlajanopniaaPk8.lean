/- Texts of this claim, one behind the other: words, walks, plain laws. No condition. -/
import Derived.Test.YtofmlajanopniaaPk7
set_option linter.unusedVariables false
set_option linter.unusedSimpArgs false
namespace Go.Proofs.Ytofmlajanopniaa.Li
open Go.RowKit Go.Maps Go.Proofs.YtofmlajanopniaaW.PrintWords Go.Proofs.YtofmlajanopniaaW.PrintLast Go.Proofs.YtofmlajanopniaaW.PrintMore Go.Proofs.Ytofmlajanopniaa.Q Go.Proofs.Ytofmlajanopniaa.Tk
def pll.T11 : Bool × List (List Nat × List Nat) := (true, [([], []), ([0], [0]), ([1], [1]), ([2], [2]), ([2], [2]), ([4, 2], [2, 4]), ([5, 2], [2, 5]), ([6, 2], [2, 6]), ([2], [2]), ([7, 8, 2], [2, 7, 8]), ([9, 2], [2, 9]), ([3, 10, 2, 2], [2, 3, 10]), ([11, 2], [2, 11]), ([2, 12], [2, 12])])
def pll.B11 : List Nat := [0, 1, 3, 7, 7, 23, 55, 119, 7, 503, 1015, 2047, 4095, 8191]
theorem pll.tab11 : rtab .any (opsOf Try.f6 11) = pll.T11 := by kernel_rfl
theorem pll.bits11 : waitsOk pll.T11.2 pll.B11 = true := by kernel_rfl
section
variable {X : Nat → Prop} {w0 w w' : World} {g gr : Nat} {s s1 s2 : Gr}
theorem M2.nodeN (h : M2 X w0 w g gr s1 s2) (i : Int) (hi : s1.there i 0 = false) : Calls Try.prog 15 #[.pointer (some ⟨g, 0, none⟩), .int .i64 i] w fun e w' => e = .returned (.tuple #[.agg #[.int .u32 0, .slice none 0 0, .slice none 0 0, .int .u64 0, .int .u64 0, .slice none 0 0], .bool false]) ∧ Below w.heap.size w w' := by
 obtain ⟨F, FD, h1, _⟩ := h.out
 exact h1.node_no i hi
theorem M2.nodeY (h : M2 X w0 w g gr s1 s2) {n : Nat} (hi : Inv s1 n) (hn : n ≤ 90000) {k : Nat} {nd : Nd} (hk : s1.l[k]? = some nd) (ht : s1.there (k : Int) 0 = true) : Calls Try.prog 15 #[.pointer (some ⟨g, 0, none⟩), .int .i64 k] w fun e w' => (∃ B1 d1 B2 d2 r cp φ, e = .returned (.tuple #[.agg #[.int .u32 nd.id, .slice B1 nd.vec.length d1, .slice B2 nd.tags.length d2, .int .u64 nd.fr, .int .u64 nd.un, .slice (some ⟨r, 0, none⟩) nd.links.length cp], .bool true]) ∧ NdR w' w.heap.size (since w w') all2 φ (fun _ => k) k nd B1 d1 B2 d2 r cp) ∧ Below w.heap.size w w' := by
 obtain ⟨F, FD, h1, _⟩ := h.out
 exact h1.node_yes (hi.small hn) hk ht
end
theorem NdR.below' {w w' : World} {b : Nat} {F : Nat → Prop} {φ : Nat → Nat × Nat} {ψ : Nat → Nat} {i : Nat} {n : Nd} {A1 : Option Addr} {c1 : Nat} {A2 : Option Addr} {c2 r cap : Nat} (h : NdR w b F all2 φ ψ i n A1 c1 A2 c2 r cap) (hb : Below w.heap.size w w') : NdR w' b F all2 φ ψ i n A1 c1 A2 c2 r cap := h.only (S := fun _ => False) (Only.of_below hb) (fun _ _ h => h)
theorem DNodeAt.cells {w : World} {rb k : Nat} {n : Nd} {A1 : Option Addr} {c1 : Nat} {A2 : Option Addr} {c2 : Nat} {A3 : Option Addr} {c3 : Nat} (h : DNodeAt w ⟨rb, 0, none⟩ k n A1 c1 A2 c2 A3 c3) : w.cell? ⟨rb, k * 6, none⟩ = some (.int .u32 n.id) ∧ w.cell? ⟨rb, k * 6 + 1, none⟩ = some (.slice A1 n.vec.length c1) ∧ w.cell? ⟨rb, k * 6 + 2, none⟩ = some (.slice A2 n.tags.length c2) ∧ w.cell? ⟨rb, k * 6 + 3, none⟩ = some (.int .u64 n.fr) ∧ w.cell? ⟨rb, k * 6 + 4, none⟩ = some (.int .u64 n.un) ∧ w.cell? ⟨rb, k * 6 + 5, none⟩ = some (.slice A3 n.links.length c3) := by
 have h0 := h.y0
 have h1 := h.y1
 have h2 := h.y2
 have h3 := h.y3
 have h4 := h.y4
 have h5 := h.y5
 rw [add_plain] at h0 h1 h2 h3 h4 h5
 exact ⟨h0, h1, h2, h3, h4, h5⟩
end Go.Proofs.Ytofmlajanopniaa.Li
namespace Go.Proofs.Ytofmlajanopniaa.Li
open Go.RowKit Go.Maps Go.Proofs.YtofmlajanopniaaW.PrintWords Go.Proofs.YtofmlajanopniaaW.PrintLast Go.Proofs.YtofmlajanopniaaW.PrintMore Go.Proofs.Ytofmlajanopniaa.Q Go.Proofs.Ytofmlajanopniaa.Tk
section
variable {X : Nat → Prop} {w0 w w' w1 w2 : World} {g gr : Nat} {s s1 s2 : Gr}
theorem M2.sinceX (h : M2 X w0 w g gr s1 s2) (hb : Below w.heap.size w w') : M2 (fun k => X k ∨ since w w' k) w0 w' g gr s1 s2 := by
 obtain ⟨F, FD, e1, e2, e3, e4, e5⟩ := h.out
 have l1 := e1.low
 have l2 := e2.low
 refine ⟨⟨F, FD, e1.below hb, e2.below hb, e3, fun k hk hx => ?_, fun k hk hx => ?_⟩, fun k hk => ?_⟩
 ·rcases hx with hx | hx
  ·exact e4 k hk hx
  ·have := (l1 k hk).2; have := hx.1; omega
 ·rcases hx with hx | hx
  ·exact e5 k hk hx
  ·have := (l2 k hk).2; have := hx.1; omega
 ·rcases hk with hk | hk
  ·exact Nat.lt_of_lt_of_le (h.xl k hk) hb.size
  ·exact hk.2
theorem M2.linkF (h : M2 X w0 w g gr s1 s2) {n : Nat} (hi : Inv s1 n) (hn : n ≤ 90000) (a b lv most : Int) (hc : (!s1.there a lv || !s1.there b lv || a == b) = true) :
  Calls Try.prog 14 #[.pointer (some ⟨g, 0, none⟩), .int .i64 a, .int .i64 b, .int .i64 lv, .int .i64 most] w fun e w' => e = .returned (.bool false) ∧ M2 X w0 w' g gr s1 s2 ∧ KeepX X w w' := by
 have h0 := h.linkP hi hn a b lv most
 rw [show s1.link a b lv most = (false, s1) by unfold Gr.link; rw [if_pos hc]] at h0
 exact h0
theorem M2.linkT (h : M2 X w0 w g gr s1 s2) {n : Nat} (hi : Inv s1 n) (hn : n ≤ 90000) (a b lv most : Int) (hc : ¬ (!s1.there a lv || !s1.there b lv || a == b) = true) :
  Calls Try.prog 14 #[.pointer (some ⟨g, 0, none⟩), .int .i64 a, .int .i64 b, .int .i64 lv, .int .i64 most] w fun e w' => e = .returned (.bool true) ∧ M2 X w0 w' g gr (s1.setL a.toNat lv.toNat (linked s1 a b lv most)) s2 ∧ KeepX X w w' := by
 have h0 := h.linkP hi hn a b lv most
 rw [show s1.link a b lv most = (true, s1.setL a.toNat lv.toNat (linked s1 a b lv most)) by unfold Gr.link; rw [if_neg hc]] at h0
 exact h0
theorem NdR.kept {b : Nat} {φ : Nat → Nat × Nat} {ψ : Nat → Nat} {i : Nat} {n : Nd} {A1 : Option Addr} {c1 : Nat} {A2 : Option Addr} {c2 r cap : Nat} (h : NdR w b (since w1 w2) all2 φ ψ i n A1 c1 A2 c2 r cap) (hK : ∀ k, since w1 w2 k → w'.heap[k]? = w.heap[k]?) : NdR w' b (since w1 w2) all2 φ ψ i n A1 c1 A2 c2 r cap := h.keeps (fun k c t hk hc _ _ => hK k hk)
theorem NdR.listAt {b : Nat} {F : Nat → Prop} {φ : Nat → Nat × Nat} {ψ : Nat → Nat} {i : Nat} {n : Nd} {A1 : Option Addr} {c1 : Nat} {A2 : Option Addr} {c2 r cap : Nat} (h : NdR w b F all2 φ ψ i n A1 c1 A2 c2 r cap) {j : Nat} {l : List Int} (hj : n.links[j]? = some l) : ∃ A c, w.cell? ⟨r, j, none⟩ = some (.slice A l.length c) ∧ l.length ≤ c ∧ Kd.C (Kd.int .i64) w A l.length l := by
 obtain ⟨k1, k2, k3, k4, cells, k5, k6⟩ := h.lk
 obtain ⟨u, e1, e2⟩ := k6 j l hj
 obtain ⟨A, c, rfl, hl, hC⟩ := Kd.R_reads (e2 (all2_i _ _))
 exact ⟨A, c, (blk_cell k5 j).trans e1, hl, hC⟩
theorem linked_len (s : Gr) (a b lv most : Int) : ((linked s a b lv most).length : Int) ≤ max 0 most := by
 unfold linked
 dsimp only
 generalize (if (s.at_ a lv).contains b = true then s.at_ a lv else s.at_ a lv ++ [b]) = L
 by_cases h : most < (L.length : Int)
 ·rw [if_pos h]; exact choose_len
 ·rw [if_neg h]; omega
end
end Go.Proofs.Ytofmlajanopniaa.Li
namespace Go.Proofs.Ytofmlajanopniaa.Li
open Go.RowKit Go.Maps Go.Proofs.YtofmlajanopniaaW.PrintWords Go.Proofs.YtofmlajanopniaaW.PrintLast Go.Proofs.YtofmlajanopniaaW.PrintMore Go.Proofs.Ytofmlajanopniaa.Q Go.Proofs.Ytofmlajanopniaa.Tk
theorem same_zero (w : World) : Calls Try.prog 16 #[.agg #[.int .u32 0, .slice none 0 0, .slice none 0 0, .int .u64 0, .int .u64 0, .slice none 0 0], .agg #[.int .u32 0, .slice none 0 0, .slice none 0 0, .int .u64 0, .int .u64 0, .slice none 0 0]] w fun e w' => e = .returned (.bool true) ∧ Below w.heap.size w w' :=
 lodestarref11_SameNode.calls 101005 0 none 0 [] none 0 [] 0 0 none 0 [] 0 none 0 [] none 0 [] 0 0 none 0 [] true w (Kd.C_nil _ _) (Nat.le_refl _) (Kd.C_nil _ _) (Nat.le_refl _) (Kd.C_nil _ _) (Nat.le_refl _) (Kd.C_nil _ _) (Nat.le_refl _) (Kd.C_nil _ _) (Nat.le_refl _) (Kd.C_nil _ _) (Nat.le_refl _) (node_f ⟨0, [], [], 0, 0, []⟩ ⟨by simp, by simp, by simp, fun l hl => by simp at hl⟩ (by omega))
set_option maxHeartbeats 32000000 in
set_option maxRecDepth 100000 in
theorem linksBound_walk (m : Int) (hm : (Lit.int .u8 m).wf = true) (A : Option Addr) (c : Nat) (l : List OpL) (a b lv most : Int) (w : World) (hC : Kd.C kopL w A l.length l) (hok : okOpsL l) :
  Calls Try.prog 8 #[.int .u8 m, .slice A l.length c, .int .i64 a, .int .i64 b, .int .i64 lv, .int .i64 most] w fun e w' => e = .returned (.bool true) ∧ Below w.heap.size w w' := by
 have hu5 := Try.underlying48
 have hu6 := Try.underlying37
 have hu4 := Try.underlying26
 obtain ⟨mm, hmm⟩ : ∃ z, m.tmod 2 = z := ⟨_, rfl⟩
 have HMM := Aside0.mk (show 0 ≤ mm by have := mod2 hm; omega)
 have HMW := Aside0.mk (show wrap64 mm = mm by rw [← hmm]; exact mod2_wrap hm)
 have HM2 := Aside0.mk hmm
 have HC := Aside0.mk hC
 have HOK := Aside0.mk hok
 clear hC hok hmm hm
 go_enter Try.func8, Try.ntmps8
 go_upto_region 5 with (first | (go_at_call 10; (with_reducible refine (alive_calls _).mono ?_); rintro e w1 ⟨rfl, hb⟩; have HB1 := Aside0.mk hb; clear hb) | (have := HB1; go_at_call 12; rw [HM2.out]; (with_reducible refine (gnew_calls mm _).mono ?_); rintro e w3 ⟨rfl, hw3⟩; have HN3 := Aside0.mk (M2.new HB1.out mm hw3); clear hw3) | (have := HN3; go_at_call 17; rw [HM2.out, HMW.out]; (with_reducible refine (build_ HN3.out (Inv.nil HMM.out) A c l HC.out HOK.out 60 60 rfl (by omega)).mono ?_); rintro e w4 ⟨rfl, s, hM, hV⟩; have HM4 := Aside0.mk hM; have HV := Aside0.mk hV; have HSL := Aside0.mk hV.len; clear hM hV))
 obtain ⟨g, hg⟩ : ∃ z, w1.heap.size = z := ⟨_, rfl⟩
 obtain ⟨gr, hgr⟩ : ∃ z, w3.heap.size = z := ⟨_, rfl⟩
 rw [hg, hgr] at HM4
 rw [hg]
 try rw [hgr]
 have HSN := Aside0.mk (show s.l.length ≤ 60 by have := HSL.out; omega)
 clear HB1 HN3 hg hgr
 by_cases hc : (!s.there a lv || !s.there b lv || a == b) = true
 ·have HLN := Aside0.mk hc
  clear hc
  cases ht : s.there a 0 with
  | false =>
   have HT := Aside0.mk ht
   clear ht
   go_wp2_with (first | (go_at_call 15; (with_reducible refine (HM4.out.nodeN a HT.out).mono ?_); rintro e w5 ⟨rfl, hb⟩; have HBN := Aside0.mk (heap_alloc_new w5 (.cells #[.int .u32 0, .slice none 0 0, .slice none 0 0, .int .u64 0, .int .u64 0, .slice none 0 0] 37)); have HBA := Aside0.mk (below_alloc (Below.refl w5.heap.size w5) (.cells #[.int .u32 0, .slice none 0 0, .slice none 0 0, .int .u64 0, .int .u64 0, .slice none 0 0] 37)); have HM6 := Aside0.mk (HM4.out.sinceX (bel_trans hb HBA.out)); have HSI := Aside0.mk (show since w4 (w5.alloc (.cells #[.int .u32 0, .slice none 0 0, .slice none 0 0, .int .u64 0, .int .u64 0, .slice none 0 0] 37)) w5.heap.size from ⟨hb.size, by rw [World.size_alloc]; omega⟩); have HSS := Aside0.mk (show w5.heap.size ≤ (w5.alloc (.cells #[.int .u32 0, .slice none 0 0, .slice none 0 0, .int .u64 0, .int .u64 0, .slice none 0 0] 37)).heap.size by rw [World.size_alloc]; omega); clear hb HM4) | (have := HM6; go_at_call 14; go_must (with_reducible refine (HM6.out.linkF HV.out (by omega) a b lv most HLN.out).mono ?_); rintro e w7 ⟨rfl, hP, hK⟩; have HM7 := Aside0.mk hP; have HB7 := Aside0.mk ((hK _ (.inr HSI.out)).trans HBN.out); clear hP hK HM6 HBN) | (have := HM7; go_at_call 15; go_must (with_reducible refine (HM7.out.nodeN a HT.out).mono ?_); rintro e w8 ⟨rfl, hb⟩; have HM8 := Aside0.mk (HM7.out.below hb); have HB8 := Aside0.mk (blk_below HB7.out hb); have HC8 := Aside0.mk (heap_alloc_new w8 (.cells #[.int .u32 0, .slice none 0 0, .slice none 0 0, .int .u64 0, .int .u64 0, .slice none 0 0] 37)); have s0 := (blk_cell (blk_below HB8.out (below_alloc (Below.refl _ _) (.cells #[.int .u32 0, .slice none 0 0, .slice none 0 0, .int .u64 0, .int .u64 0, .slice none 0 0] 37))) 0).trans rfl; have t0 := (blk_cell HC8.out 0).trans rfl; have s1 := (blk_cell (blk_below HB8.out (below_alloc (Below.refl _ _) (.cells #[.int .u32 0, .slice none 0 0, .slice none 0 0, .int .u64 0, .int .u64 0, .slice none 0 0] 37))) 1).trans rfl; have t1 := (blk_cell HC8.out 1).trans rfl; have s2 := (blk_cell (blk_below HB8.out (below_alloc (Below.refl _ _) (.cells #[.int .u32 0, .slice none 0 0, .slice none 0 0, .int .u64 0, .int .u64 0, .slice none 0 0] 37))) 2).trans rfl; have t2 := (blk_cell HC8.out 2).trans rfl; have s3 := (blk_cell (blk_below HB8.out (below_alloc (Below.refl _ _) (.cells #[.int .u32 0, .slice none 0 0, .slice none 0 0, .int .u64 0, .int .u64 0, .slice none 0 0] 37))) 3).trans rfl; have t3 := (blk_cell HC8.out 3).trans rfl; have s4 := (blk_cell (blk_below HB8.out (below_alloc (Below.refl _ _) (.cells #[.int .u32 0, .slice none 0 0, .slice none 0 0, .int .u64 0, .int .u64 0, .slice none 0 0] 37))) 4).trans rfl; have t4 := (blk_cell HC8.out 4).trans rfl; have s5 := (blk_cell (blk_below HB8.out (below_alloc (Below.refl _ _) (.cells #[.int .u32 0, .slice none 0 0, .slice none 0 0, .int .u64 0, .int .u64 0, .slice none 0 0] 37))) 5).trans rfl; have t5 := (blk_cell HC8.out 5).trans rfl; clear hb HM7) | (have := HM8; go_at_call 16; go_must (with_reducible refine (same_zero _).mono ?_); rintro e w9 ⟨rfl, hb⟩; have HB9 := Aside0.mk (bel_trans (bel_alloc HM8.out.at0 _) hb); clear hb))
   go_ret
   exact ⟨rfl, HB9.out⟩
  | true =>
   obtain ⟨k, j, nd, rfl, -, hnd, -⟩ := there_iff.1 ht
   have HT := Aside0.mk ht
   have HND := Aside0.mk hnd
   clear ht hnd
   go_wp2_with (first | (go_at_call 15; (with_reducible refine (HM4.out.nodeY HV.out (by omega) HND.out HT.out).mono ?_); rintro e w5 ⟨⟨B1, d1, B2, d2, r, cp, φ, rfl, hA⟩, hb⟩; have HA5 := Aside0.mk hA; have HBN := Aside0.mk (heap_alloc_new w5 (.cells #[.int .u32 nd.id, .slice B1 nd.vec.length d1, .slice B2 nd.tags.length d2, .int .u64 nd.fr, .int .u64 nd.un, .slice (some ⟨r, 0, none⟩) nd.links.length cp] 37)); have HBA := Aside0.mk (below_alloc (Below.refl w5.heap.size w5) (.cells #[.int .u32 nd.id, .slice B1 nd.vec.length d1, .slice B2 nd.tags.length d2, .int .u64 nd.fr, .int .u64 nd.un, .slice (some ⟨r, 0, none⟩) nd.links.length cp] 37)); have HM6 := Aside0.mk (HM4.out.sinceX (bel_trans hb HBA.out)); have HSI := Aside0.mk (show since w4 (w5.alloc (.cells #[.int .u32 nd.id, .slice B1 nd.vec.length d1, .slice B2 nd.tags.length d2, .int .u64 nd.fr, .int .u64 nd.un, .slice (some ⟨r, 0, none⟩) nd.links.length cp] 37)) w5.heap.size from ⟨hb.size, by rw [World.size_alloc]; omega⟩); have HSS := Aside0.mk (show w5.heap.size ≤ (w5.alloc (.cells #[.int .u32 nd.id, .slice B1 nd.vec.length d1, .slice B2 nd.tags.length d2, .int .u64 nd.fr, .int .u64 nd.un, .slice (some ⟨r, 0, none⟩) nd.links.length cp] 37)).heap.size by rw [World.size_alloc]; omega); clear hb hA HM4) | (have := HM6; go_at_call 14; go_must (with_reducible refine (HM6.out.linkF HV.out (by omega) k b lv most HLN.out).mono ?_); rintro e w7 ⟨rfl, hP, hK⟩; have HM7 := Aside0.mk hP; have HB7 := Aside0.mk ((hK _ (.inr HSI.out)).trans HBN.out); have HA7 := Aside0.mk ((HA5.out.below' HBA.out).kept (fun k hk => hK k (.inr ⟨hk.1, Nat.lt_of_lt_of_le hk.2 HSS.out⟩))); clear hP hK HM6 HBN) | (have := HM7; go_at_call 15; go_must (with_reducible refine (HM7.out.nodeY HV.out (by omega) HND.out HT.out).mono ?_); rintro e w8 ⟨⟨D1, e1, D2, e2, q, cq, χ, rfl, hA⟩, hb⟩; have HM8 := Aside0.mk (HM7.out.below hb); have HB8 := Aside0.mk (blk_below HB7.out hb); have HBB := Aside0.mk (below_alloc (Below.refl w8.heap.size w8) (.cells #[.int .u32 nd.id, .slice D1 nd.vec.length e1, .slice D2 nd.tags.length e2, .int .u64 nd.fr, .int .u64 nd.un, .slice (some ⟨q, 0, none⟩) nd.links.length cq] 37)); have HP8 := Aside0.mk ((HA7.out.below' hb).below' HBB.out); have HQ8 := Aside0.mk (hA.below' HBB.out); have HC8 := Aside0.mk (heap_alloc_new w8 (.cells #[.int .u32 nd.id, .slice D1 nd.vec.length e1, .slice D2 nd.tags.length e2, .int .u64 nd.fr, .int .u64 nd.un, .slice (some ⟨q, 0, none⟩) nd.links.length cq] 37)); have s0 := (blk_cell (blk_below HB8.out (below_alloc (Below.refl _ _) (.cells #[.int .u32 nd.id, .slice D1 nd.vec.length e1, .slice D2 nd.tags.length e2, .int .u64 nd.fr, .int .u64 nd.un, .slice (some ⟨q, 0, none⟩) nd.links.length cq] 37))) 0).trans rfl; have t0 := (blk_cell HC8.out 0).trans rfl; have s1 := (blk_cell (blk_below HB8.out (below_alloc (Below.refl _ _) (.cells #[.int .u32 nd.id, .slice D1 nd.vec.length e1, .slice D2 nd.tags.length e2, .int .u64 nd.fr, .int .u64 nd.un, .slice (some ⟨q, 0, none⟩) nd.links.length cq] 37))) 1).trans rfl; have t1 := (blk_cell HC8.out 1).trans rfl; have s2 := (blk_cell (blk_below HB8.out (below_alloc (Below.refl _ _) (.cells #[.int .u32 nd.id, .slice D1 nd.vec.length e1, .slice D2 nd.tags.length e2, .int .u64 nd.fr, .int .u64 nd.un, .slice (some ⟨q, 0, none⟩) nd.links.length cq] 37))) 2).trans rfl; have t2 := (blk_cell HC8.out 2).trans rfl; have s3 := (blk_cell (blk_below HB8.out (below_alloc (Below.refl _ _) (.cells #[.int .u32 nd.id, .slice D1 nd.vec.length e1, .slice D2 nd.tags.length e2, .int .u64 nd.fr, .int .u64 nd.un, .slice (some ⟨q, 0, none⟩) nd.links.length cq] 37))) 3).trans rfl; have t3 := (blk_cell HC8.out 3).trans rfl; have s4 := (blk_cell (blk_below HB8.out (below_alloc (Below.refl _ _) (.cells #[.int .u32 nd.id, .slice D1 nd.vec.length e1, .slice D2 nd.tags.length e2, .int .u64 nd.fr, .int .u64 nd.un, .slice (some ⟨q, 0, none⟩) nd.links.length cq] 37))) 4).trans rfl; have t4 := (blk_cell HC8.out 4).trans rfl; have s5 := (blk_cell (blk_below HB8.out (below_alloc (Below.refl _ _) (.cells #[.int .u32 nd.id, .slice D1 nd.vec.length e1, .slice D2 nd.tags.length e2, .int .u64 nd.fr, .int .u64 nd.un, .slice (some ⟨q, 0, none⟩) nd.links.length cq] 37))) 5).trans rfl; have t5 := (blk_cell HC8.out 5).trans rfl; clear hb hA HM7) | (have := HM8; go_at_call 16; go_must (with_reducible refine (same_node nd.vec.length nd.tags.length nd.links.length rfl rfl rfl HP8.out HQ8.out (HV.out.nsm (by omega) HND.out)).mono ?_); rintro e w9 ⟨rfl, hb⟩; have HB9 := Aside0.mk (bel_trans (bel_alloc HM8.out.at0 _) hb); clear hb))
   go_ret
   exact ⟨rfl, HB9.out⟩
 ·obtain ⟨ka, kb, j, nd, ls, rfl, rfl, rfl, hnd, hj, ha, hb, hab⟩ := link_parts hc
  have HT := Aside0.mk (there_lt HV.out.good (List.getElem?_eq_some_iff.1 hnd).1)
  have HLN := Aside0.mk hc
  have HND := Aside0.mk hnd
  have HJ := Aside0.mk hj
  have HLG := Aside0.mk (show ∀ t ∈ linked s ka kb j most, t = (kb : Int) ∨ t ∈ ls by have h1 := (linked_good HV.out.good (most := most) ha hb (by omega)).2.2; rw [at_nat hnd hj] at h1; exact h1)
  have HLL := Aside0.mk (linked_len s ka kb j most)
  have HLS := Aside0.mk (show ls.length ≤ 1000 by have h1 := (HV.out.lk ka nd hnd).2 ls (List.mem_of_getElem? hj); omega)
  have HV2 := Aside0.mk (show Inv (s.setL ka j (linked s ka kb j most)) (0 + 60) by have h1 := HV.out.link ka kb j most; rw [show s.link (ka : Int) kb j most = (true, s.setL ka j (linked s ka kb j most)) by unfold Gr.link; rw [if_neg hc]; rfl] at h1; exact h1)
  obtain ⟨LS, hLS⟩ : ∃ z, linked s ka kb j most = z := ⟨_, rfl⟩
  rw [hLS] at HLG HLL HV2
  have HLK := Aside0.mk hLS
  have HND2 := Aside0.mk (show (s.setL ka j LS).l[ka]? = some (setLk nd j LS) by unfold Gr.setL; rw [hnd]; simp [(List.getElem?_eq_some_iff.1 hnd).1])
  have HJL := Aside0.mk (List.getElem?_eq_some_iff.1 hj).1
  have HJ2 := Aside0.mk (show (setLk nd j LS).links[j]? = some LS by unfold setLk; simp [HJL.out])
  have HT2 := Aside0.mk (there_lt HV2.out.good (List.getElem?_eq_some_iff.1 HND2.out).1)
  have HLE := Aside0.mk (show (setLk nd j LS).links.length = nd.links.length by unfold setLk; simp)
  clear hnd hj ha hb hab hc hLS
  go_upto_region 10 with (first | (go_at_call 15; (with_reducible refine (HM4.out.nodeY HV.out (by omega) HND.out HT.out).mono ?_); rintro e w5 ⟨⟨B1, d1, B2, d2, r, cp, φ, rfl, hA⟩, hb⟩; have HA5 := Aside0.mk hA; have HBN := Aside0.mk (heap_alloc_new w5 (.cells #[.int .u32 nd.id, .slice B1 nd.vec.length d1, .slice B2 nd.tags.length d2, .int .u64 nd.fr, .int .u64 nd.un, .slice (some ⟨r, 0, none⟩) nd.links.length cp] 37)); have HBA := Aside0.mk (below_alloc (Below.refl w5.heap.size w5) (.cells #[.int .u32 nd.id, .slice B1 nd.vec.length d1, .slice B2 nd.tags.length d2, .int .u64 nd.fr, .int .u64 nd.un, .slice (some ⟨r, 0, none⟩) nd.links.length cp] 37)); have HM6 := Aside0.mk (HM4.out.sinceX (bel_trans hb HBA.out)); have HSI := Aside0.mk (show since w4 (w5.alloc (.cells #[.int .u32 nd.id, .slice B1 nd.vec.length d1, .slice B2 nd.tags.length d2, .int .u64 nd.fr, .int .u64 nd.un, .slice (some ⟨r, 0, none⟩) nd.links.length cp] 37)) w5.heap.size from ⟨hb.size, by rw [World.size_alloc]; omega⟩); have HSS := Aside0.mk (show w5.heap.size ≤ (w5.alloc (.cells #[.int .u32 nd.id, .slice B1 nd.vec.length d1, .slice B2 nd.tags.length d2, .int .u64 nd.fr, .int .u64 nd.un, .slice (some ⟨r, 0, none⟩) nd.links.length cp] 37)).heap.size by rw [World.size_alloc]; omega); clear hb hA HM4) | (have := HM6; go_at_call 14; go_must (with_reducible refine (HM6.out.linkT HV.out (by omega) ka kb j most HLN.out).mono ?_); rintro e w7 ⟨rfl, hP, hK⟩; have HM7 := Aside0.mk (show M2 _ w w7 g gr (s.setL ka j LS) s by rw [← HLK.out]; exact hP); have HB7 := Aside0.mk ((hK _ (.inr HSI.out)).trans HBN.out); have HA7 := Aside0.mk ((HA5.out.below' HBA.out).kept (fun k hk => hK k (.inr ⟨hk.1, Nat.lt_of_lt_of_le hk.2 HSS.out⟩))); clear hP hK HM6 HBN) | (have := HM7; go_at_call 15; go_must (with_reducible refine (HM7.out.nodeY HV2.out (by omega) HND2.out HT2.out).mono ?_); rintro e w8 ⟨⟨D1, e1, D2, e2, q, cq, χ, rfl, hA⟩, hb⟩; have HM8 := Aside0.mk (HM7.out.below hb); have HB8 := Aside0.mk (blk_below HB7.out hb); have HBB := Aside0.mk (below_alloc (Below.refl w8.heap.size w8) (.cells #[.int .u32 (setLk nd j LS).id, .slice D1 (setLk nd j LS).vec.length e1, .slice D2 (setLk nd j LS).tags.length e2, .int .u64 (setLk nd j LS).fr, .int .u64 (setLk nd j LS).un, .slice (some ⟨q, 0, none⟩) (setLk nd j LS).links.length cq] 37)); have HP8 := Aside0.mk ((HA7.out.below' hb).below' HBB.out); have HQ8 := Aside0.mk (hA.below' HBB.out); have HC8 := Aside0.mk (heap_alloc_new w8 (.cells #[.int .u32 (setLk nd j LS).id, .slice D1 (setLk nd j LS).vec.length e1, .slice D2 (setLk nd j LS).tags.length e2, .int .u64 (setLk nd j LS).fr, .int .u64 (setLk nd j LS).un, .slice (some ⟨q, 0, none⟩) (setLk nd j LS).links.length cq] 37)); have s0 := (blk_cell (blk_below HB8.out (below_alloc (Below.refl _ _) (.cells #[.int .u32 (setLk nd j LS).id, .slice D1 (setLk nd j LS).vec.length e1, .slice D2 (setLk nd j LS).tags.length e2, .int .u64 (setLk nd j LS).fr, .int .u64 (setLk nd j LS).un, .slice (some ⟨q, 0, none⟩) (setLk nd j LS).links.length cq] 37))) 0).trans rfl; have t0 := (blk_cell HC8.out 0).trans rfl; have s1 := (blk_cell (blk_below HB8.out (below_alloc (Below.refl _ _) (.cells #[.int .u32 (setLk nd j LS).id, .slice D1 (setLk nd j LS).vec.length e1, .slice D2 (setLk nd j LS).tags.length e2, .int .u64 (setLk nd j LS).fr, .int .u64 (setLk nd j LS).un, .slice (some ⟨q, 0, none⟩) (setLk nd j LS).links.length cq] 37))) 1).trans rfl; have t1 := (blk_cell HC8.out 1).trans rfl; have s2 := (blk_cell (blk_below HB8.out (below_alloc (Below.refl _ _) (.cells #[.int .u32 (setLk nd j LS).id, .slice D1 (setLk nd j LS).vec.length e1, .slice D2 (setLk nd j LS).tags.length e2, .int .u64 (setLk nd j LS).fr, .int .u64 (setLk nd j LS).un, .slice (some ⟨q, 0, none⟩) (setLk nd j LS).links.length cq] 37))) 2).trans rfl; have t2 := (blk_cell HC8.out 2).trans rfl; have s3 := (blk_cell (blk_below HB8.out (below_alloc (Below.refl _ _) (.cells #[.int .u32 (setLk nd j LS).id, .slice D1 (setLk nd j LS).vec.length e1, .slice D2 (setLk nd j LS).tags.length e2, .int .u64 (setLk nd j LS).fr, .int .u64 (setLk nd j LS).un, .slice (some ⟨q, 0, none⟩) (setLk nd j LS).links.length cq] 37))) 3).trans rfl; have t3 := (blk_cell HC8.out 3).trans rfl; have s4 := (blk_cell (blk_below HB8.out (below_alloc (Below.refl _ _) (.cells #[.int .u32 (setLk nd j LS).id, .slice D1 (setLk nd j LS).vec.length e1, .slice D2 (setLk nd j LS).tags.length e2, .int .u64 (setLk nd j LS).fr, .int .u64 (setLk nd j LS).un, .slice (some ⟨q, 0, none⟩) (setLk nd j LS).links.length cq] 37))) 4).trans rfl; have t4 := (blk_cell HC8.out 4).trans rfl; have s5 := (blk_cell (blk_below HB8.out (below_alloc (Below.refl _ _) (.cells #[.int .u32 (setLk nd j LS).id, .slice D1 (setLk nd j LS).vec.length e1, .slice D2 (setLk nd j LS).tags.length e2, .int .u64 (setLk nd j LS).fr, .int .u64 (setLk nd j LS).un, .slice (some ⟨q, 0, none⟩) (setLk nd j LS).links.length cq] 37))) 5).trans rfl; have t5 := (blk_cell HC8.out 5).trans rfl; clear hb hA HM7))
  obtain ⟨AW, cw, hw1, hw2, hw3⟩ := HP8.out.listAt HJ.out
  obtain ⟨AN, cn, hn1, hn2, hn3⟩ := HQ8.out.listAt HJ2.out
  have hw1' := (congrArg (fun z => World.cell? _ z) (add_plain r j)).trans hw1
  have hn1' := (congrArg (fun z => World.cell? _ z) (add_plain q j)).trans hn1
  have HWL := Aside0.mk (And.intro hw2 hw3)
  have HNL := Aside0.mk (And.intro hn2 hn3)
  have HB9 := Aside0.mk (show Below w.heap.size w (w8.alloc (.cells #[.int .u32 (setLk nd j LS).id, .slice D1 (setLk nd j LS).vec.length e1, .slice D2 (setLk nd j LS).tags.length e2, .int .u64 (setLk nd j LS).fr, .int .u64 (setLk nd j LS).un, .slice (some ⟨q, 0, none⟩) (setLk nd j LS).links.length cq] 37)) from bel_alloc HM8.out.at0 _)
  clear hw2 hw3 hn2 hn3 HP8 HQ8 HM8 HB8 HC8 HBB HB7 HA7 HA5 s0 s1 s2 s3 s4 t0 t1 t2 t3 t4
  generalize w8.alloc (.cells #[.int .u32 (setLk nd j LS).id, .slice D1 (setLk nd j LS).vec.length e1, .slice D2 (setLk nd j LS).tags.length e2, .int .u64 (setLk nd j LS).fr, .int .u64 (setLk nd j LS).un, .slice (some ⟨q, 0, none⟩) (setLk nd j LS).links.length cq] 37) = w9 at s5 t5 hw1 hw1' hn1 hn1' HWL HNL HB9 ⊢
  have p1 : decide ((j : Int) < 0) = false := decide_eq_false (by omega)
  have p2 : decide ((nd.links.length : Int) ≤ (j : Int)) = false := decide_eq_false (by have := HJL.out; omega)
  have p2' : decide (nd.links.length ≤ j) = false := decide_eq_false (by have := HJL.out; omega)
  have p2'' : (nd.links.length ≤ j) = False := eq_false (by have := HJL.out; omega)
  have p3 : (j : Int) < (nd.links.length : Int) := by have := HJL.out; omega
  have p5 : (j : Int) < ((setLk nd j LS).links.length : Int) := by have := HJL.out; have := HLE.out; omega
  have p4 : decide (max 0 most < (LS.length : Int)) = false := decide_eq_false (by have := HLL.out; omega)
  go_wp2
  have HS5 := Aside0.mk s5
  have HT5 := Aside0.mk t5
  have HW1 := Aside0.mk (And.intro hw1 hw1')
  have HN1 := Aside0.mk (And.intro hn1 hn1')
  clear s5 t5 hw1 hw1' hn1 hn1'
  go_loopg [19] LS.length (fun gk v19 wr => ∃ (i : Nat), v19 = .int .i64 i ∧ Aside0 (i ≤ LS.length ∧ LS.length - i ≤ gk) ∧ Aside0 (Below w9.heap.size w9 wr))
  case atStart => exact ⟨0, rfl, ⟨by omega⟩, ⟨Below.refl _ _⟩⟩
  case round =>
   obtain ⟨i, rfl, HI, HBR⟩ := hrel
   have s5 := pw_cell_below HBR.out HS5.out
   have t5 := pw_cell_below HBR.out HT5.out
   have hw1 := pw_cell_below HBR.out HW1.out.1
   have hw1' := pw_cell_below HBR.out HW1.out.2
   have hn1 := pw_cell_below HBR.out HN1.out.1
   have hn1' := pw_cell_below HBR.out HN1.out.2
   by_cases hi : i < LS.length
   ·have q1 : decide ((i : Int) < (LS.length : Int)) = true := decide_eq_true (by omega)
    have q1' : decide (i < LS.length) = true := decide_eq_true (by omega)
    have q1'' : (i : Int) < (LS.length : Int) := by omega
    obtain ⟨ad, rfl, cx⟩ := int_at (Kd.C_below HNL.out.2 HBR.out) hi
    have HXM := Aside0.mk (HLG.out LS[i] (List.getElem_mem hi))
    obtain ⟨x, hx⟩ : ∃ z, LS[i] = z := ⟨_, rfl⟩
    rw [hx] at cx HXM
    have HIL := Aside0.mk hi
    have HLB := Aside0.mk (show LS.length ≤ 1000 by have h1 := (HV2.out.lk ka _ HND2.out).2 LS (List.mem_of_getElem? HJ2.out); omega)
    have HIN := Aside0.mk (show wrap64 ((i : Int) + 1) = ((i + 1 : Nat) : Int) by have := HLB.out; unfold wrap64; omega)
    obtain ⟨gk, rfl⟩ : ∃ m, gk = m + 1 := ⟨gk - 1, by have := HI.out; omega⟩
    clear hi hx
    by_cases hxb : x = (kb : Int)
    ·have r1 : (x != (kb : Int)) = false := by rw [hxb]; simp
     have r1' : (x == (kb : Int)) = true := by rw [hxb]; simp
     clear hxb
     go_wp2
     go_roundg gk
     case measure => omega
     case rel => exact ⟨i + 1, congrArg (Value.int .i64) HIN.out, ⟨by have := HI.out; have := HIL.out; omega⟩, HBR⟩
    ·have r1 : (x != (kb : Int)) = true := by simpa using hxb
     have r1' : (x == (kb : Int)) = false := by simpa using hxb
     have HXC := Aside0.mk (show ls.contains x = true by have h1 := HXM.out; rcases h1 with h1 | h1; exact absurd h1 hxb; simpa using h1)
     clear hxb
     go_wp2_with (go_at_call 23; go_must (with_reducible refine (has_calls AW cw ls x _ (Kd.C_below HWL.out.2 HBR.out) HWL.out.1 (by have := HLS.out; omega) true HXC.out).mono ?_); rintro e w10 ⟨rfl, hb⟩; have HB10 := Aside0.mk (bel_trans HBR.out hb); clear hb)
     go_roundg gk
     case measure => omega
     case rel => exact ⟨i + 1, congrArg (Value.int .i64) HIN.out, ⟨by have := HI.out; have := HIL.out; omega⟩, HB10⟩
   ·have q1 : decide ((i : Int) < (LS.length : Int)) = false := decide_eq_false (by omega)
    have q1' : (i < LS.length) = False := eq_false hi
    have q1'' : decide (i < LS.length) = false := decide_eq_false hi
    clear hi
    go_wp2
    go_ret
    exact ⟨rfl, bel_trans HB9.out HBR.out⟩
theorem bound_row (m : Int) (hm : (Lit.int .u8 m).wf = true) (v1 : Value) (s1 : v1 = .slice none 0 0 ∨ ∃ a n c, v1 = .slice (some a) n c) (x1 : List OpL) {W : World} (K1 : (Kd.slice 89 kopL).K W x1 v1.cells.toList) (o1 : okOpsL x1) (a : Int) (ha : (Lit.int .i64 a).wf = true) (b : Int) (hb : (Lit.int .i64 b).wf = true) (lv : Int) (hlv : (Lit.int .i64 lv).wf = true) (most : Int) (hmo : (Lit.int .i64 most).wf = true) (_ : World) :
  Calls Try.prog 8 #[.int .u8 m, v1, .int .i64 a, .int .i64 b, .int .i64 lv, .int .i64 most] W fun e w' => e = .returned (.bool true) ∧ Below W.heap.size W w' := by
 obtain ⟨A, c, rfl, g1, g2⟩ := slice_of s1 K1
 exact linksBound_walk m hm A c x1 a b lv most W g2 o1
end Go.Proofs.Ytofmlajanopniaa.Li
