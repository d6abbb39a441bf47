/- Texts of this claim, one behind the other: words, walks, plain laws. No condition. -/
import Derived.Test.YtofmlajanopniaaPk7
set_option linter.unusedVariables false
set_option linter.unusedSimpArgs false
namespace Go.Proofs.Ytofmlajanopniaa.Li
open Go.RowKit Go.Maps Go.Proofs.YtofmlajanopniaaW.PrintWords Go.Proofs.YtofmlajanopniaaW.PrintLast Go.Proofs.YtofmlajanopniaaW.PrintMore Go.Proofs.Ytofmlajanopniaa.Q Go.Proofs.Ytofmlajanopniaa.Tk
def pll.T11 : Bool × List (List Nat × List Nat) := (true, [([], []), ([0], [0]), ([1], [1]), ([2], [2]), ([2], [2]), ([4, 2], [2, 4]), ([5, 2], [2, 5]), ([6, 2], [2, 6]), ([2], [2]), ([7, 8, 2], [2, 7, 8]), ([9, 2], [2, 9]), ([3, 10, 2, 2], [2, 3, 10]), ([11, 2], [2, 11]), ([2, 12], [2, 12])])
def pll.B11 : List Nat := [0, 1, 3, 7, 7, 23, 55, 119, 7, 503, 1015, 2047, 4095, 8191]
theorem pll.tab11 : rtab .any (opsOf Try.f6 11) = pll.T11 := by kernel_rfl
theorem pll.bits11 : waitsOk pll.T11.2 pll.B11 = true := by kernel_rfl
section
variable {X : Nat → Prop} {w0 w w' : World} {g gr : Nat} {s s1 s2 : Gr}
theorem M2.nodeY (h : M2 X w0 w g gr s1 s2) {n : Nat} (hi : Inv s1 n) (hn : n ≤ 90000) {k : Nat} {nd : Nd} (hk : s1.l[k]? = some nd) (ht : s1.there (k : Int) 0 = true) : Calls Try.prog 15 #[.pointer (some ⟨g, 0, none⟩), .int .i64 k] w fun e w' => (∃ B1 d1 B2 d2 r cp φ, e = .returned (.tuple #[.agg #[.int .u32 nd.id, .slice B1 nd.vec.length d1, .slice B2 nd.tags.length d2, .int .u64 nd.fr, .int .u64 nd.un, .slice (some ⟨r, 0, none⟩) nd.links.length cp], .bool true]) ∧ NdR w' w.heap.size (since w w') all2 φ (fun _ => k) k nd B1 d1 B2 d2 r cp) ∧ Below w.heap.size w w' := by
 obtain ⟨F, FD, h1, _⟩ := h.out
 exact h1.node_yes (hi.small hn) hk ht
end
theorem NdR.below' {w w' : World} {b : Nat} {F : Nat → Prop} {φ : Nat → Nat × Nat} {ψ : Nat → Nat} {i : Nat} {n : Nd} {A1 : Option Addr} {c1 : Nat} {A2 : Option Addr} {c2 r cap : Nat} (h : NdR w b F all2 φ ψ i n A1 c1 A2 c2 r cap) (hb : Below w.heap.size w w') : NdR w' b F all2 φ ψ i n A1 c1 A2 c2 r cap := h.only (S := fun _ => False) (Only.of_below hb) (fun _ _ h => h)
theorem DNodeAt.cells {w : World} {rb k : Nat} {n : Nd} {A1 : Option Addr} {c1 : Nat} {A2 : Option Addr} {c2 : Nat} {A3 : Option Addr} {c3 : Nat} (h : DNodeAt w ⟨rb, 0, none⟩ k n A1 c1 A2 c2 A3 c3) : w.cell? ⟨rb, k * 6, none⟩ = some (.int .u32 n.id) ∧ w.cell? ⟨rb, k * 6 + 1, none⟩ = some (.slice A1 n.vec.length c1) ∧ w.cell? ⟨rb, k * 6 + 2, none⟩ = some (.slice A2 n.tags.length c2) ∧ w.cell? ⟨rb, k * 6 + 3, none⟩ = some (.int .u64 n.fr) ∧ w.cell? ⟨rb, k * 6 + 4, none⟩ = some (.int .u64 n.un) ∧ w.cell? ⟨rb, k * 6 + 5, none⟩ = some (.slice A3 n.links.length c3) := by
 have h0 := h.y0
 have h1 := h.y1
 have h2 := h.y2
 have h3 := h.y3
 have h4 := h.y4
 have h5 := h.y5
 rw [add_plain] at h0 h1 h2 h3 h4 h5
 exact ⟨h0, h1, h2, h3, h4, h5⟩
end Go.Proofs.Ytofmlajanopniaa.Li
namespace Go.Proofs.Ytofmlajanopniaa.Li
open Go.RowKit Go.Maps Go.Proofs.YtofmlajanopniaaW.PrintWords Go.Proofs.YtofmlajanopniaaW.PrintLast Go.Proofs.YtofmlajanopniaaW.PrintMore Go.Proofs.Ytofmlajanopniaa.Q Go.Proofs.Ytofmlajanopniaa.Tk
section
variable {X : Nat → Prop} {w0 w w' w1 w2 : World} {g gr : Nat} {s s1 s2 : Gr}
theorem NdR.kept {b : Nat} {φ : Nat → Nat × Nat} {ψ : Nat → Nat} {i : Nat} {n : Nd} {A1 : Option Addr} {c1 : Nat} {A2 : Option Addr} {c2 r cap : Nat} (h : NdR w b (since w1 w2) all2 φ ψ i n A1 c1 A2 c2 r cap) (hK : ∀ k, since w1 w2 k → w'.heap[k]? = w.heap[k]?) : NdR w' b (since w1 w2) all2 φ ψ i n A1 c1 A2 c2 r cap := h.keeps (fun k c t hk hc _ _ => hK k hk)
theorem NdR.listAt {b : Nat} {F : Nat → Prop} {φ : Nat → Nat × Nat} {ψ : Nat → Nat} {i : Nat} {n : Nd} {A1 : Option Addr} {c1 : Nat} {A2 : Option Addr} {c2 r cap : Nat} (h : NdR w b F all2 φ ψ i n A1 c1 A2 c2 r cap) {j : Nat} {l : List Int} (hj : n.links[j]? = some l) : ∃ A c, w.cell? ⟨r, j, none⟩ = some (.slice A l.length c) ∧ l.length ≤ c ∧ Kd.C (Kd.int .i64) w A l.length l := by
 obtain ⟨k1, k2, k3, k4, cells, k5, k6⟩ := h.lk
 obtain ⟨u, e1, e2⟩ := k6 j l hj
 obtain ⟨A, c, rfl, hl, hC⟩ := Kd.R_reads (e2 (all2_i _ _))
 exact ⟨A, c, (blk_cell k5 j).trans e1, hl, hC⟩
end
end Go.Proofs.Ytofmlajanopniaa.Li
namespace Go.Proofs.Ytofmlajanopniaa.Li
open Go.RowKit Go.Maps Go.Proofs.YtofmlajanopniaaW.PrintWords Go.Proofs.YtofmlajanopniaaW.PrintLast Go.Proofs.YtofmlajanopniaaW.PrintMore Go.Proofs.Ytofmlajanopniaa.Q Go.Proofs.Ytofmlajanopniaa.Tk
theorem C_pre {w : World} {A : Option Addr} {L : List Int} (h : Kd.C (Kd.int .i64) w A L.length L) {i : Nat} (hi : i ≤ L.length) : Kd.C (Kd.int .i64) w A i (L.take i) := by
 refine ⟨by rw [List.length_take]; omega, Nat.le_trans hi h.2.1, fun h0 => ?_⟩
 obtain ⟨ad, e, hc⟩ := h.2.2 (by omega)
 refine ⟨ad, e, fun j p hj => hc j p ?_⟩
 have hl := (List.getElem?_eq_some_iff.1 hj).1
 rw [List.length_take] at hl
 rw [List.getElem?_take, if_pos (by omega)] at hj
 exact hj
theorem has_pre (A : Option Addr) (c : Nat) (L : List Int) (n : Nat) (hn : L.length = n) (x : Int) (w : World) (hC : Kd.C (Kd.int .i64) w A n L) (hc : n ≤ c) (hl : n ≤ 1000000) (b : Bool) (hb : L.contains x = b) :
  Calls Try.prog 23 #[.slice A n c, .int .i64 x] w fun e w' => e = .returned (.bool b) ∧ Below w.heap.size w w' := by
 subst hn
 exact has_calls A c L x w hC hc hl b hb
theorem pre_no {L : List Int} (h : L.Nodup) {k : Nat} (hk : k < L.length) : (L.take k).contains L[k] = false := by
 have hn : L[k] ∉ L.take k := fun hm => by
  obtain ⟨i, hi, e⟩ := List.getElem_of_mem hm
  rw [List.length_take] at hi
  rw [List.getElem_take] at e
  exact List.pairwise_iff_getElem.1 h i k (by omega) hk (by omega) e
 simpa using hn
set_option maxHeartbeats 32000000 in
set_option maxRecDepth 100000 in
theorem linksRight_walk (m : Int) (hm : (Lit.int .u8 m).wf = true) (A : Option Addr) (c : Nat) (l : List OpL) (w : World) (hC : Kd.C kopL w A l.length l) (hok : okOpsL l) :
  Calls Try.prog 7 #[.int .u8 m, .slice A l.length c] w fun e w' => e = .returned (.bool true) ∧ Below w.heap.size w w' := by
 have hu5 := Try.underlying48
 have hu6 := Try.underlying37
 have hu4 := Try.underlying26
 obtain ⟨mm, hmm⟩ : ∃ z, m.tmod 2 = z := ⟨_, rfl⟩
 have HMM := Aside0.mk (show 0 ≤ mm by have := mod2 hm; omega)
 have HMW := Aside0.mk (show wrap64 mm = mm by rw [← hmm]; exact mod2_wrap hm)
 have HM2 := Aside0.mk hmm
 have HC := Aside0.mk hC
 have HOK := Aside0.mk hok
 clear hC hok hmm hm
 go_enter Try.func7, Try.ntmps7
 go_wp2_with (first | (go_at_call 10; (with_reducible refine (alive_calls _).mono ?_); rintro e w1 ⟨rfl, hb⟩; have HB1 := Aside0.mk hb; clear hb) | (have := HB1; go_at_call 12; rw [HM2.out]; (with_reducible refine (gnew_calls mm _).mono ?_); rintro e w3 ⟨rfl, hw3⟩; have HN3 := Aside0.mk (M2.new HB1.out mm hw3); clear hw3) | (have := HN3; go_at_call 17; rw [HM2.out, HMW.out]; (with_reducible refine (build_ HN3.out (Inv.nil HMM.out) A c l HC.out HOK.out 80 80 rfl (by omega)).mono ?_); rintro e w4 ⟨rfl, s, hM, hV⟩; have HM4 := Aside0.mk hM; have HV := Aside0.mk hV; have HSL := Aside0.mk hV.len; clear hM hV))
 obtain ⟨g, hg⟩ : ∃ z, w1.heap.size = z := ⟨_, rfl⟩
 obtain ⟨gr, hgr⟩ : ∃ z, w3.heap.size = z := ⟨_, rfl⟩
 rw [hg, hgr] at HM4
 rw [hg]
 try rw [hgr]
 have HSN := Aside0.mk (show s.l.length ≤ 80 by have := HSL.out; omega)
 clear HB1 HN3 hg hgr
 go_loopg [6] s.l.length (fun gk v6 wr => ∃ (i : Nat), v6 = .int .i64 i ∧ Aside0 (i ≤ s.l.length ∧ s.l.length - i ≤ gk) ∧ Aside0 (M2 (fun _ => False) w wr g gr s s))
 case atStart => exact ⟨0, rfl, ⟨by omega⟩, HM4⟩
 case round =>
  clear HM4
  obtain ⟨i, rfl, HI, HMR⟩ := hrel
  by_cases hi : i < s.l.length
  ·have q1 : decide ((i : Int) < (s.l.length : Int)) = true := decide_eq_true (by omega)
   have q1' : decide (i < s.l.length) = true := decide_eq_true (by omega)
   have HIL := Aside0.mk hi
   have HIN := Aside0.mk (show wrap64 ((i : Int) + 1) = ((i + 1 : Nat) : Int) by have := HSN.out; unfold wrap64; omega)
   obtain ⟨go, rfl⟩ : ∃ m, gk = m + 1 := ⟨gk - 1, by have := HI.out; omega⟩
   obtain ⟨nd, hnd⟩ : ∃ z, s.l[i]? = some z := ⟨_, List.getElem?_eq_getElem hi⟩
   have HND := Aside0.mk hnd
   have HL5 := Aside0.mk (HV.out.good.lv1 i nd hnd)
   clear hi hnd
   go_upto_region 9 with (first | (have := HND; go_at_call 15; go_must (with_reducible refine (HM5.out.nodeY HV.out (by omega) HND.out (there_lt HV.out.good HIL.out)).mono ?_); rintro e w6 ⟨⟨B1, d1, B2, d2, r, cp, φ, rfl, hA⟩, hb⟩; have HA6 := Aside0.mk hA; have HM6 := Aside0.mk (HM5.out.below hb); clear hA hb) | (go_at_call 18; (with_reducible refine HMR.out.lenP.mono ?_); rintro e w5 ⟨rfl, hb⟩; have HM5 := Aside0.mk (HMR.out.below hb); clear hb HMR))
   have HBX := Aside0.mk (heap_alloc_new w6 (.cells #[.int .u32 nd.id, .slice B1 nd.vec.length d1, .slice B2 nd.tags.length d2, .int .u64 nd.fr, .int .u64 nd.un, .slice (some ⟨r, 0, none⟩) nd.links.length cp] 37))
   have HBA := Aside0.mk (below_alloc (Below.refl w6.heap.size w6) (.cells #[.int .u32 nd.id, .slice B1 nd.vec.length d1, .slice B2 nd.tags.length d2, .int .u64 nd.fr, .int .u64 nd.un, .slice (some ⟨r, 0, none⟩) nd.links.length cp] 37))
   have HA7 := Aside0.mk (HA6.out.below' HBA.out)
   have HM7 := Aside0.mk (HM6.out.below HBA.out)
   obtain ⟨bn, hbn⟩ : ∃ z, w6.heap.size = z := ⟨_, rfl⟩
   rw [hbn] at HBX ⊢
   clear hbn HBA HA6 HM6 HM5
   generalize w6.alloc (.cells #[.int .u32 nd.id, .slice B1 nd.vec.length d1, .slice B2 nd.tags.length d2, .int .u64 nd.fr, .int .u64 nd.un, .slice (some ⟨r, 0, none⟩) nd.links.length cp] 37) = w7 at HBX HA7 HM7 ⊢
   have b5 := (blk_cell HBX.out 5).trans rfl
   have r1 : decide ((nd.links.length : Int) < 1) = false := decide_eq_false (by have := HL5.out; omega)
   have r1' : decide (nd.links.length < 1) = false := decide_eq_false (by have := HL5.out; omega)
   have r1'' : (nd.links.length = 0) = False := eq_false (by have := HL5.out; omega)
   have r2 : decide ((5 : Int) < (nd.links.length : Int)) = false := decide_eq_false (by have := HL5.out; omega)
   have r2' : decide (5 < nd.links.length) = false := decide_eq_false (by have := HL5.out; omega)
   go_wp2
   have HB5 := Aside0.mk b5
   clear b5 q1 q1' r1 r1' r1'' r2 r2' HBX
   go_loopg [9] nd.links.length (fun gk v9 wr => ∃ (j : Nat), v9 = .int .i64 j ∧ Aside0 (j ≤ nd.links.length ∧ nd.links.length - j ≤ gk) ∧ Aside0 (Below w7.heap.size w7 wr))
   case atStart => exact ⟨0, rfl, ⟨by omega⟩, ⟨Below.refl _ _⟩⟩
   case round =>
    obtain ⟨j, rfl, HJ, HBR⟩ := hrel
    have b5 := pw_cell_below HBR.out HB5.out
    by_cases hj : j < nd.links.length
    ·have q1 : decide ((j : Int) < (nd.links.length : Int)) = true := decide_eq_true (by omega)
     have q1' : decide (j < nd.links.length) = true := decide_eq_true (by omega)
     have pj : (j : Int) < (nd.links.length : Int) := by omega
     have HJL := Aside0.mk hj
     have HJN := Aside0.mk (show wrap64 ((j : Int) + 1) = ((j + 1 : Nat) : Int) by have := HL5.out; unfold wrap64; omega)
     obtain ⟨gj, rfl⟩ : ∃ m, gk = m + 1 := ⟨gk - 1, by have := HJ.out; omega⟩
     obtain ⟨ls, hls⟩ : ∃ z, nd.links[j]? = some z := ⟨_, List.getElem?_eq_getElem hj⟩
     have HTO := Aside0.mk (HV.out.good.to_ i nd j ls HND.out hls)
     have HLB := Aside0.mk (show ls.length ≤ 1000 by have h1 := (HV.out.lk i nd HND.out).2 ls (List.mem_of_getElem? hls); omega)
     obtain ⟨AW, cw, hw1, hw2, hw3⟩ := HA7.out.listAt hls
     have hw1' := (congrArg (fun z => World.cell? _ z) (add_plain r j)).trans hw1
     have HW1 := Aside0.mk (And.intro hw1 hw1')
     have HWL := Aside0.mk (And.intro hw2 hw3)
     clear hj hls hw1 hw1' hw2 hw3
     go_wp2
     obtain ⟨wj, hwj⟩ : ∃ z, wr = z := ⟨_, rfl⟩
     rw [hwj] at HBR b5 ⊢
     clear hwj
     have HBJ := Aside0.mk b5
     clear b5
     go_loopg [10] ls.length (fun gk v10 wr => ∃ (k : Nat), v10 = .int .i64 k ∧ Aside0 (k ≤ ls.length ∧ ls.length - k ≤ gk) ∧ Aside0 (Below wj.heap.size wj wr))
     case atStart => exact ⟨0, rfl, ⟨by omega⟩, ⟨Below.refl _ _⟩⟩
     case round =>
      obtain ⟨k, rfl, HK, HBK⟩ := hrel
      have HB7 := Aside0.mk (bel_trans HBR.out HBK.out)
      have b5 := pw_cell_below HBK.out HBJ.out
      have hw1 := pw_cell_below HB7.out HW1.out.1
      have hw1' := pw_cell_below HB7.out HW1.out.2
      by_cases hk : k < ls.length
      ·have q2 : decide ((k : Int) < (ls.length : Int)) = true := decide_eq_true (by omega)
       have q2' : decide (k < ls.length) = true := decide_eq_true (by omega)
       have p4 : (k : Int) < (ls.length : Int) := by omega
       have HKL := Aside0.mk hk
       have HKN := Aside0.mk (show wrap64 ((k : Int) + 1) = ((k + 1 : Nat) : Int) by have := HLB.out; unfold wrap64; omega)
       obtain ⟨gk, rfl⟩ : ∃ m, gk = m + 1 := ⟨gk - 1, by have := HK.out; omega⟩
       obtain ⟨ad, rfl, cx⟩ := int_at (Kd.C_below HWL.out.2 HB7.out) hk
       have hn := HTO.out.1 ls[k] (List.getElem_mem hk)
       have hpn := pre_no HTO.out.2 hk
       obtain ⟨t, ht⟩ : ∃ z, ls[k] = z := ⟨_, rfl⟩
       rw [ht] at cx hn hpn
       clear ht
       obtain ⟨k2, j2, nd2, rfl, hj2, hn2, hj3⟩ := there_iff.1 hn.1
       have HPN := Aside0.mk hpn
       have HND2 := Aside0.mk hn2
       have HT2 := Aside0.mk (there_lt HV.out.good (List.getElem?_eq_some_iff.1 hn2).1)
       have n1 : decide ((k2 : Int) = (i : Int)) = false := decide_eq_false hn.2
       have n2 : ((k2 : Int) == (i : Int)) = false := beq_eq_false_iff_ne.2 hn.2
       have n3 : decide (k2 = i) = false := decide_eq_false (by have := hn.2; omega)
       have n4 : (k2 = i) = False := eq_false (by have := hn.2; omega)
       have m1 : decide ((nd2.links.length : Int) ≤ (j : Int)) = false := decide_eq_false (by omega)
       have m2 : decide (nd2.links.length ≤ j) = false := decide_eq_false (by omega)
       have m3 : (nd2.links.length ≤ j) = False := eq_false (by omega)
       have ps : (k : Int) ≤ (cw : Int) := by have h1 := HWL.out.1; omega
       have ps' : k ≤ cw := by have h1 := HWL.out.1; omega
       clear hk hn hpn hn2 hj2 hj3
       go_upto_region 19 with (have := HND2; go_at_call 15; go_must (with_reducible refine ((HM7.out.below HB7.out).nodeY HV.out (by omega) HND2.out HT2.out).mono ?_); rintro e w8 ⟨⟨D1, e1, D2, e2, q, cq, χ, rfl, -⟩, hb⟩; have HBX2 := Aside0.mk (heap_alloc_new w8 (.cells #[.int .u32 nd2.id, .slice D1 nd2.vec.length e1, .slice D2 nd2.tags.length e2, .int .u64 nd2.fr, .int .u64 nd2.un, .slice (some ⟨q, 0, none⟩) nd2.links.length cq] 37)); have HB9 := Aside0.mk (bel_alloc (bel_trans HB7.out hb) (.cells #[.int .u32 nd2.id, .slice D1 nd2.vec.length e1, .slice D2 nd2.tags.length e2, .int .u64 nd2.fr, .int .u64 nd2.un, .slice (some ⟨q, 0, none⟩) nd2.links.length cq] 37)); have HJ9 := Aside0.mk (bel_alloc (bel_trans HBK.out hb) (.cells #[.int .u32 nd2.id, .slice D1 nd2.vec.length e1, .slice D2 nd2.tags.length e2, .int .u64 nd2.fr, .int .u64 nd2.un, .slice (some ⟨q, 0, none⟩) nd2.links.length cq] 37)); clear hb b5 hw1 hw1' cx)
       obtain ⟨bm, hbm⟩ : ∃ z, w8.heap.size = z := ⟨_, rfl⟩
       rw [hbm] at HBX2 ⊢
       clear hbm
       generalize w8.alloc (.cells #[.int .u32 nd2.id, .slice D1 nd2.vec.length e1, .slice D2 nd2.tags.length e2, .int .u64 nd2.fr, .int .u64 nd2.un, .slice (some ⟨q, 0, none⟩) nd2.links.length cq] 37) = w9 at HBX2 HB9 HJ9 ⊢
       have c5 := (blk_cell HBX2.out 5).trans rfl
       have b5 := pw_cell_below HJ9.out HBJ.out
       have hw1 := pw_cell_below HB9.out HW1.out.1
       have hw1' := pw_cell_below HB9.out HW1.out.2
       go_wp2_with (go_at_call 23; go_must (with_reducible refine (has_pre (some ad) cw (ls.take k) k (by rw [List.length_take]; have := HKL.out; omega) k2 _ (C_pre (Kd.C_below HWL.out.2 HB9.out) (by have := HKL.out; omega)) (by have := HWL.out.1; have := HKL.out; omega) (by have := HLB.out; have := HKL.out; omega) false HPN.out).mono ?_); rintro e w10 ⟨rfl, hb⟩; have HJ10 := Aside0.mk (bel_trans HJ9.out hb); clear hb)
       go_roundg gk
       case measure => omega
       case rel => exact ⟨k + 1, congrArg (Value.int .i64) HKN.out, ⟨by have := HK.out; have := HKL.out; omega⟩, HJ10⟩
      ·have q2 : decide ((k : Int) < (ls.length : Int)) = false := decide_eq_false (by omega)
       have q2' : (k < ls.length) = False := eq_false hk
       have q2'' : decide (k < ls.length) = false := decide_eq_false hk
       clear hk
       go_wp2
       go_roundg gj
       case measure => omega
       case rel => exact ⟨j + 1, congrArg (Value.int .i64) HJN.out, ⟨by have := HJ.out; have := HJL.out; omega⟩, HB7⟩
    ·have q1 : decide ((j : Int) < (nd.links.length : Int)) = false := decide_eq_false (by omega)
     have q1' : (j < nd.links.length) = False := eq_false hj
     have q1'' : decide (j < nd.links.length) = false := decide_eq_false hj
     clear hj
     have HM8 := Aside0.mk (HM7.out.below HBR.out)
     go_wp2
     go_roundg go
     case measure => omega
     case rel => exact ⟨i + 1, congrArg (Value.int .i64) HIN.out, ⟨by have := HI.out; have := HIL.out; omega⟩, HM8⟩
  ·have q1 : decide ((i : Int) < (s.l.length : Int)) = false := decide_eq_false (by omega)
   have q1' : (i < s.l.length) = False := eq_false hi
   have q1'' : decide (i < s.l.length) = false := decide_eq_false hi
   clear hi
   go_wp2_with (go_at_call 18; (with_reducible refine HMR.out.lenP.mono ?_); rintro e w5 ⟨rfl, hb⟩; have HM5 := Aside0.mk (HMR.out.below hb); clear hb HMR)
   go_ret
   exact ⟨rfl, HM5.out.at0⟩
theorem right_row (m : Int) (hm : (Lit.int .u8 m).wf = true) (v1 : Value) (s1 : v1 = .slice none 0 0 ∨ ∃ a n c, v1 = .slice (some a) n c) (x1 : List OpL) {W : World} (K1 : (Kd.slice 89 kopL).K W x1 v1.cells.toList) (o1 : okOpsL x1) (_ : World) :
  Calls Try.prog 7 #[.int .u8 m, v1] W fun e w' => e = .returned (.bool true) ∧ Below W.heap.size W w' := by
 obtain ⟨A, c, rfl, g1, g2⟩ := slice_of s1 K1
 exact linksRight_walk m hm A c x1 W g2 o1
end Go.Proofs.Ytofmlajanopniaa.Li
