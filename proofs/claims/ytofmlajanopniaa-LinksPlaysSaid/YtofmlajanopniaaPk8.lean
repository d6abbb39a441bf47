/- Texts of this claim, one behind the other: words, walks, plain laws. No condition. -/
import Derived.Test.YtofmlajanopniaaPk1
import Derived.Test.YtofmlajanopniaaPk7
set_option linter.unusedVariables false
set_option linter.unusedSimpArgs false
namespace Go.Proofs.Ytofmlajanopniaa.Li
open Go.RowKit Go.Maps Go.Proofs.YtofmlajanopniaaW.PrintWords Go.Proofs.YtofmlajanopniaaW.PrintLast Go.Proofs.YtofmlajanopniaaW.PrintMore Go.Proofs.Ytofmlajanopniaa.Q Go.Proofs.Ytofmlajanopniaa.Tk
def pll.T11 : Bool × List (List Nat × List Nat) := (true, [([], []), ([0], [0]), ([1], [1]), ([2], [2]), ([2], [2]), ([4, 2], [2, 4]), ([5, 2], [2, 5]), ([6, 2], [2, 6]), ([2], [2]), ([7, 8, 2], [2, 7, 8]), ([9, 2], [2, 9]), ([3, 10, 2, 2], [2, 3, 10]), ([11, 2], [2, 11]), ([2, 12], [2, 12])])
def pll.B11 : List Nat := [0, 1, 3, 7, 7, 23, 55, 119, 7, 503, 1015, 2047, 4095, 8191]
theorem pll.tab11 : rtab .any (opsOf Try.f6 11) = pll.T11 := by kernel_rfl
theorem pll.bits11 : waitsOk pll.T11.2 pll.B11 = true := by kernel_rfl
section
variable {X : Nat → Prop} {w0 w w' : World} {g gr : Nat} {s s1 s2 : Gr}
theorem out_no {i : Int} (h : ¬ (0 ≤ i ∧ i < s.l.length)) : s.there i 0 = false := by
 cases hc : s.there i 0 with
 | false => rfl
 | true =>
  obtain ⟨k, j, nd, rfl, -, hn, -⟩ := there_iff.1 hc
  have := (List.getElem?_eq_some_iff.1 hn).1
  omega
theorem M2.nodeN (h : M2 X w0 w g gr s1 s2) (i : Int) (hi : s1.there i 0 = false) : Calls Try.prog 15 #[.pointer (some ⟨g, 0, none⟩), .int .i64 i] w fun e w' => e = .returned (.tuple #[.agg #[.int .u32 0, .slice none 0 0, .slice none 0 0, .int .u64 0, .int .u64 0, .slice none 0 0], .bool false]) ∧ Below w.heap.size w w' := by
 obtain ⟨F, FD, h1, _⟩ := h.out
 exact h1.node_no i hi
theorem M2.nodeY (h : M2 X w0 w g gr s1 s2) {n : Nat} (hi : Inv s1 n) (hn : n ≤ 90000) {k : Nat} {nd : Nd} (hk : s1.l[k]? = some nd) (ht : s1.there (k : Int) 0 = true) : Calls Try.prog 15 #[.pointer (some ⟨g, 0, none⟩), .int .i64 k] w fun e w' => (∃ B1 d1 B2 d2 r cp φ, e = .returned (.tuple #[.agg #[.int .u32 nd.id, .slice B1 nd.vec.length d1, .slice B2 nd.tags.length d2, .int .u64 nd.fr, .int .u64 nd.un, .slice (some ⟨r, 0, none⟩) nd.links.length cp], .bool true]) ∧ NdR w' w.heap.size (since w w') all2 φ (fun _ => k) k nd B1 d1 B2 d2 r cp) ∧ Below w.heap.size w w' := by
 obtain ⟨F, FD, h1, _⟩ := h.out
 exact h1.node_yes (hi.small hn) hk ht
theorem M2.nodeD (h : M2 X w0 w g gr s1 s2) {k : Nat} {nd : Nd} (hn : s2.l[k]? = some nd) : ∃ rb cap A1 c1 A2 c2 A3 c3, w.heap[gr]? = some (.cells #[.int .i64 s2.m, .slice (some ⟨rb, 0, none⟩) s2.l.length cap] 48 (0, 0)) ∧ DNodeAt w ⟨rb, 0, none⟩ k nd A1 c1 A2 c2 A3 c3 := by
 obtain ⟨F, FD, h1, ⟨vL, h2⟩, h3, h4, h5⟩ := h.out
 obtain ⟨ao, cap, rfl, hl, -, hN⟩ := h2.node
 obtain ⟨ad, A1, c1, A2, c2, A3, c3, rfl, hd, -, -⟩ := hN k nd hn
 obtain ⟨inner, hr, -⟩ := h2.row
 rcases hr.2 with ⟨e, -⟩ | ⟨rb, cap2, cur, e, -⟩
 ·cases e
 ·injection e with e1 e2 e3
  injection e1 with e1
  subst e1
  exact ⟨rb, cap, A1, c1, A2, c2, A3, c3, h2.box, hd⟩
end
theorem NdR.below' {w w' : World} {b : Nat} {F : Nat → Prop} {φ : Nat → Nat × Nat} {ψ : Nat → Nat} {i : Nat} {n : Nd} {A1 : Option Addr} {c1 : Nat} {A2 : Option Addr} {c2 r cap : Nat} (h : NdR w b F all2 φ ψ i n A1 c1 A2 c2 r cap) (hb : Below w.heap.size w w') : NdR w' b F all2 φ ψ i n A1 c1 A2 c2 r cap := h.only (S := fun _ => False) (Only.of_below hb) (fun _ _ h => h)
theorem DNodeAt.cells {w : World} {rb k : Nat} {n : Nd} {A1 : Option Addr} {c1 : Nat} {A2 : Option Addr} {c2 : Nat} {A3 : Option Addr} {c3 : Nat} (h : DNodeAt w ⟨rb, 0, none⟩ k n A1 c1 A2 c2 A3 c3) : w.cell? ⟨rb, k * 6, none⟩ = some (.int .u32 n.id) ∧ w.cell? ⟨rb, k * 6 + 1, none⟩ = some (.slice A1 n.vec.length c1) ∧ w.cell? ⟨rb, k * 6 + 2, none⟩ = some (.slice A2 n.tags.length c2) ∧ w.cell? ⟨rb, k * 6 + 3, none⟩ = some (.int .u64 n.fr) ∧ w.cell? ⟨rb, k * 6 + 4, none⟩ = some (.int .u64 n.un) ∧ w.cell? ⟨rb, k * 6 + 5, none⟩ = some (.slice A3 n.links.length c3) := by
 have h0 := h.y0
 have h1 := h.y1
 have h2 := h.y2
 have h3 := h.y3
 have h4 := h.y4
 have h5 := h.y5
 rw [add_plain] at h0 h1 h2 h3 h4 h5
 exact ⟨h0, h1, h2, h3, h4, h5⟩
theorem same_doc {w : World} {b : Nat} {F : Nat → Prop} {φ : Nat → Nat × Nat} {ψ : Nat → Nat} {i : Nat} {n : Nd} {A1 : Option Addr} {c1 : Nat} {A2 : Option Addr} {c2 r cap : Nat} {ad : Addr} {k : Nat} {B1 : Option Addr} {d1 : Nat} {B2 : Option Addr} {d2 : Nat} {B3 : Option Addr} {d3 : Nat} (h : NdR w b F all2 φ ψ i n A1 c1 A2 c2 r cap) (h' : DNodeAt w ad k n B1 d1 B2 d2 B3 d3) (hs : n.Sm) :
  Calls Try.prog 16 #[.agg #[.int .u32 n.id, .slice A1 n.vec.length c1, .slice A2 n.tags.length c2, .int .u64 n.fr, .int .u64 n.un, .slice (some ⟨r, 0, none⟩) n.links.length cap], .agg #[.int .u32 n.id, .slice B1 n.vec.length d1, .slice B2 n.tags.length d2, .int .u64 n.fr, .int .u64 n.un, .slice B3 n.links.length d3]] w fun e w' => e = .returned (.bool true) ∧ Below w.heap.size w w' := by
 obtain ⟨p1, p2, p3, p4, p5, p6⟩ := h.told hs.2.2.1
 exact lodestarref11_SameNode.calls 101005 n.id A1 c1 n.vec A2 c2 n.tags n.fr n.un _ cap n.links n.id B1 d1 n.vec B2 d2 n.tags n.fr n.un _ d3 n.links true w p2 p1 p4 p3 p6 p5 h'.vec h'.fit1 h'.tags h'.fit2 h'.lk h'.fit3 (node_f n hs (by omega))
set_option maxHeartbeats 32000000 in
set_option maxRecDepth 100000 in
theorem linksPlays_walk (m : Int) (hm : (Lit.int .u8 m).wf = true) (A : Option Addr) (c : Nat) (l : List OpL) (w : World) (hC : Kd.C kopL w A l.length l) (hok : okOpsL l) :
  Calls Try.prog 6 #[.int .u8 m, .slice A l.length c] w fun e w' => e = .returned (.bool true) ∧ Below w.heap.size w w' := by
 have hu5 := Try.underlying48
 have hu6 := Try.underlying37
 have hu4 := Try.underlying26
 obtain ⟨mm, hmm⟩ : ∃ z, m.tmod 2 = z := ⟨_, rfl⟩
 have HMM := Aside0.mk (show 0 ≤ mm by have := mod2 hm; omega)
 have HMW := Aside0.mk (show wrap64 mm = mm by rw [← hmm]; exact mod2_wrap hm)
 have HM2 := Aside0.mk hmm
 have HC := Aside0.mk hC
 have HOK := Aside0.mk hok
 clear hC hok hmm hm
 go_enter Try.func6, Try.ntmps6
 go_wp2_with (first | (go_at_call 10; (with_reducible refine (alive_calls _).mono ?_); rintro e w1 ⟨rfl, hb⟩; have HB1 := Aside0.mk hb; clear hb) | (have := HB1; go_at_call 12; rw [HM2.out]; (with_reducible refine (gnew_calls mm _).mono ?_); rintro e w3 ⟨rfl, hw3⟩; have HN3 := Aside0.mk (M2.new HB1.out mm hw3); clear hw3) | (have := HN3; go_at_call 17; rw [HM2.out, HMW.out]; (with_reducible refine (build_ HN3.out (Inv.nil HMM.out) A c l HC.out HOK.out 80 80 rfl (by omega)).mono ?_); rintro e w4 ⟨rfl, s, hM, hV⟩; have HM4 := Aside0.mk hM; have HV := Aside0.mk hV; have HSL := Aside0.mk hV.len; clear hM hV))
 obtain ⟨g, hg⟩ : ∃ z, w1.heap.size = z := ⟨_, rfl⟩
 obtain ⟨gr, hgr⟩ : ∃ z, w3.heap.size = z := ⟨_, rfl⟩
 rw [hg, hgr] at HM4
 rw [hg, hgr]
 have HSN := Aside0.mk (show s.l.length ≤ 80 by have := HSL.out; omega)
 clear HB1 HN3 hg hgr
 go_loopg [7] s.l.length (fun gk v7 wr => ∃ (i : Nat), v7 = .int .i64 i ∧ Aside0 (i ≤ s.l.length ∧ s.l.length - i ≤ gk) ∧ Aside0 (M2 (fun _ => False) w wr g gr s s))
 case atStart => exact ⟨0, rfl, ⟨by omega⟩, HM4⟩
 case round =>
  obtain ⟨i, rfl, HI, HMR⟩ := hrel
  obtain ⟨ag, cg, hgb⟩ := HMR.out.cellD
  have y1 := (blk_cell hgb 1).trans rfl
  have HGB := Aside0.mk hgb
  clear hgb
  by_cases hi : i < s.l.length
  ·have q1 : decide ((i : Int) < (s.l.length : Int)) = true := decide_eq_true (by omega)
   have q1' : decide (i < s.l.length) = true := decide_eq_true (by omega)
   have HIL := Aside0.mk hi
   have HIN := Aside0.mk (show wrap64 ((i : Int) + 1) = ((i + 1 : Nat) : Int) by have := HSN.out; unfold wrap64; omega)
   obtain ⟨gk, rfl⟩ : ∃ m, gk = m + 1 := ⟨gk - 1, by have := HI.out; omega⟩
   obtain ⟨nd, hnd⟩ : ∃ z, s.l[i]? = some z := ⟨_, List.getElem?_eq_getElem hi⟩
   have HND := Aside0.mk hnd
   clear hi hnd
   go_upto_region 11 with (have := HND; go_at_call 15; go_must (with_reducible refine (HMR.out.nodeY HV.out (by omega) HND.out (there_lt HV.out.good HIL.out)).mono ?_); rintro e w5 ⟨⟨B1, d1, B2, d2, r, cp, φ, rfl, hA⟩, hb⟩; have HA5 := Aside0.mk hA; have HM5 := Aside0.mk (HMR.out.below hb); clear hA hb)
   have HBX := Aside0.mk (heap_alloc_new w5 (.cells #[.int .u32 nd.id, .slice B1 nd.vec.length d1, .slice B2 nd.tags.length d2, .int .u64 nd.fr, .int .u64 nd.un, .slice (some ⟨r, 0, none⟩) nd.links.length cp] 37))
   have HBA := Aside0.mk (below_alloc (Below.refl w5.heap.size w5) (.cells #[.int .u32 nd.id, .slice B1 nd.vec.length d1, .slice B2 nd.tags.length d2, .int .u64 nd.fr, .int .u64 nd.un, .slice (some ⟨r, 0, none⟩) nd.links.length cp] 37))
   obtain ⟨bn, hbn⟩ : ∃ z, w5.heap.size = z := ⟨_, rfl⟩
   have HA6 := Aside0.mk (HA5.out.below' HBA.out)
   have HM6 := Aside0.mk (HM5.out.below HBA.out)
   rw [hbn] at HBX ⊢
   clear hbn HA5 HM5 HBA y1 HGB HMR
   generalize w5.alloc (.cells #[.int .u32 nd.id, .slice B1 nd.vec.length d1, .slice B2 nd.tags.length d2, .int .u64 nd.fr, .int .u64 nd.un, .slice (some ⟨r, 0, none⟩) nd.links.length cp] 37) = w6 at HBX HA6 HM6 ⊢
   go_wp2
   have HXD := Aside0.mk (blk_below HBX.out (below_drew (Below.refl _ _)))
   have HAD := Aside0.mk (HA6.out.below' (below_drew (Below.refl _ _)))
   have HMD := Aside0.mk (HM6.out.below (below_drew (Below.refl _ _)))
   clear HBX HA6 HM6
   obtain ⟨rb, cap, D1, e1, D2, e2, D3, e3, hgb, hdn⟩ := HMD.out.nodeD HND.out
   have HGD := Aside0.mk hgb
   have HDN := Aside0.mk hdn
   have HDC := Aside0.mk hdn.cells
   have p4 : (i : Int) < (s.l.length : Int) := by have := HIL.out; omega
   clear hgb hdn
   refine start_ (n := 14) (S := fun w' => w'.cell? ⟨bn, 0, none⟩ = some (.int .u32 nd.id) ∧ w'.cell? ⟨bn, 1, none⟩ = some (.slice B1 nd.vec.length d1) ∧ w'.cell? ⟨bn, 2, none⟩ = some (.slice B2 nd.tags.length d2) ∧ w'.cell? ⟨bn, 3, none⟩ = some (.int .u64 nd.fr) ∧ w'.cell? ⟨bn, 4, none⟩ = some (.int .u64 nd.un) ∧ w'.cell? ⟨bn, 5, none⟩ = some (.slice (some ⟨r, 0, none⟩) nd.links.length cp) ∧ w'.cell? ⟨gr, 1, none⟩ = some (.slice (some ⟨rb, 0, none⟩) s.l.length cap) ∧ w'.cell? ⟨rb, i * 6, none⟩ = some (.int .u32 nd.id) ∧ w'.cell? ⟨rb, i * 6 + 1, none⟩ = some (.slice D1 nd.vec.length e1) ∧ w'.cell? ⟨rb, i * 6 + 2, none⟩ = some (.slice D2 nd.tags.length e2) ∧ w'.cell? ⟨rb, i * 6 + 3, none⟩ = some (.int .u64 nd.fr) ∧ w'.cell? ⟨rb, i * 6 + 4, none⟩ = some (.int .u64 nd.un) ∧ w'.cell? ⟨rb, i * 6 + 5, none⟩ = some (.slice D3 nd.links.length e3)) (ds := []) #[false, false, false, false, false, false, false, false, false, false, false, false, false, false] (by kernel_rfl) rfl rfl ⟨((blk_cell HXD.out 0).trans rfl), ((blk_cell HXD.out 1).trans rfl), ((blk_cell HXD.out 2).trans rfl), ((blk_cell HXD.out 3).trans rfl), ((blk_cell HXD.out 4).trans rfl), ((blk_cell HXD.out 5).trans rfl), ((blk_cell HGD.out 1).trans rfl), HDC.out.1, HDC.out.2.1, HDC.out.2.2.1, HDC.out.2.2.2.1, HDC.out.2.2.2.2.1, HDC.out.2.2.2.2.2⟩ (fun hHeld => ?_)
   refine with_tabW pll.tab11 pll.bits11 (fun HT_ HW_ => ?_)
   generalize w6.drew = wd at HXD HAD HMD HGD HDN HDC hHeld ⊢
   refine pure_ (i := 0) (N := some 44) (v := ?_) (a' := ?_) #[true, false, false, false, false, false, false, false, false, false, false, false, false, false] rfl rfl (any_of HT_.out (by kernel_rfl)) (fun _ _ _ h => h) (Or.inl ⟨by rfl, ?_⟩) ?_ ?_
   rotate_left
   ·intro w'
    go_simp
    with_reducible rfl
   rotate_left
   ·simp only [Act.put, sT_, sZ_, sS_, i64_w, i32_w]
    rfl
   refine pure_ (i := 1) (N := some 45) (v := ?_) (a' := ?_) #[true, true, false, false, false, false, false, false, false, false, false, false, false, false] rfl rfl (any_of HT_.out (by kernel_rfl)) (fun _ _ _ h => h) (Or.inl ⟨by rfl, ?_⟩) ?_ ?_
   rotate_left
   ·intro w'
    go_simp
    with_reducible rfl
   rotate_left
   ·simp only [Act.put, sT_, sZ_, sS_, i64_w, i32_w]
    rfl
   refine pure_ (i := 2) (N := some 46) (v := ?_) (a' := ?_) #[true, true, true, false, false, false, false, false, false, false, false, false, false, false] rfl rfl (any_of HT_.out (by kernel_rfl)) (fun _ _ _ h => h) (Or.inl ⟨by rfl, ?_⟩) ?_ ?_
   rotate_left
   ·intro w'
    go_simp
    with_reducible rfl
   rotate_left
   ·simp only [Act.put, sT_, sZ_, sS_, i64_w, i32_w]
    rfl
   refine pure_ (i := 4) (N := some 48) (v := ?_) (a' := ?_) #[true, true, true, false, true, false, false, false, false, false, false, false, false, false] rfl rfl (any_of HT_.out (by kernel_rfl)) (fun _ _ _ h => h) (Or.inl ⟨by rfl, ?_⟩) ?_ ?_
   rotate_left
   ·intro w'
    go_simp
    with_reducible rfl
   rotate_left
   ·simp only [Act.put, sT_, sZ_, sS_, i64_w, i32_w]
    rfl
   refine pure_ (i := 5) (N := some 49) (v := ?_) (a' := ?_) #[true, true, true, false, true, true, false, false, false, false, false, false, false, false] rfl rfl (any_of HT_.out (by kernel_rfl)) (fun _ _ _ h => h) (Or.inl ⟨by rfl, ?_⟩) ?_ ?_
   rotate_left
   ·intro w'
    go_simp
    with_reducible rfl
   rotate_left
   ·simp only [Act.put, sT_, sZ_, sS_, i64_w, i32_w]
    rfl
   refine pure_ (i := 6) (N := some 50) (v := ?_) (a' := ?_) #[true, true, true, false, true, true, true, false, false, false, false, false, false, false] rfl rfl (any_of HT_.out (by kernel_rfl)) (fun _ _ _ h => h) (Or.inl ⟨by rfl, ?_⟩) ?_ ?_
   rotate_left
   ·intro w'
    go_simp
    with_reducible rfl
   rotate_left
   ·simp only [Act.put, sT_, sZ_, sS_, i64_w, i32_w]
    rfl
   refine pure_ (i := 8) (N := some 52) (v := ?_) (a' := ?_) #[true, true, true, false, true, true, true, false, true, false, false, false, false, false] rfl rfl (any_of HT_.out (by kernel_rfl)) (fun _ _ _ h => h) (Or.inl ⟨by rfl, ?_⟩) ?_ ?_
   rotate_left
   ·intro w'
    go_simp
    with_reducible rfl
   rotate_left
   ·simp only [Act.put, sT_, sZ_, sS_, i64_w, i32_w]
    rfl
   refine take_ (i := 3) (N := some 47) (v := ?_) (a' := ?_) #[true, true, true, true, true, true, true, false, true, false, false, false, false, false] rfl rfl (take_ofW HT_.out HW_.out (by kernel_rfl)) (fun _ _ _ h => h) (Or.inl ⟨by rfl, ?_⟩) hHeld ?_ ?_
   rotate_left
   ·rintro w' ⟨s0, s1, s2, s3, s4, s5, s6, s7, s8, s9, s10, s11, s12⟩
    go_simp
    with_reducible rfl
   rotate_left
   ·simp only [Act.put, sT_, sZ_, sS_, i64_w, i32_w]
    rfl
   refine take_ (i := 7) (N := some 51) (v := ?_) (a' := ?_) #[true, true, true, true, true, true, true, true, true, false, false, false, false, false] rfl rfl (take_ofW HT_.out HW_.out (by kernel_rfl)) (fun _ _ _ h => h) (Or.inl ⟨by rfl, ?_⟩) hHeld ?_ ?_
   rotate_left
   ·rintro w' ⟨s0, s1, s2, s3, s4, s5, s6, s7, s8, s9, s10, s11, s12⟩
    go_simp
    with_reducible rfl
   rotate_left
   ·simp only [Act.put, sT_, sZ_, sS_, i64_w, i32_w]
    rfl
   refine pure_ (i := 9) (N := some 53) (v := ?_) (a' := ?_) #[true, true, true, true, true, true, true, true, true, true, false, false, false, false] rfl rfl (any_of HT_.out (by kernel_rfl)) (fun _ _ _ h => h) (Or.inl ⟨by rfl, ?_⟩) ?_ ?_
   rotate_left
   ·intro w'
    go_simp
    with_reducible rfl
   rotate_left
   ·simp only [Act.put, sT_, sZ_, sS_, i64_w, i32_w]
    rfl
   refine take_ (i := 10) (N := some 54) (v := ?_) (a' := ?_) #[true, true, true, true, true, true, true, true, true, true, true, false, false, false] rfl rfl (take_ofW HT_.out HW_.out (by kernel_rfl)) (fun _ _ _ h => h) (Or.inl ⟨by rfl, ?_⟩) hHeld ?_ ?_
   rotate_left
   ·rintro w' ⟨s0, s1, s2, s3, s4, s5, s6, s7, s8, s9, s10, s11, s12⟩
    go_simp
    with_reducible rfl
   rotate_left
   ·simp only [Act.put, sT_, sZ_, sS_, i64_w, i32_w]
    rfl
   refine one_ (i := 11) (N := some 55) #[true, true, true, true, true, true, true, true, true, true, true, true, false, false] rfl rfl (one_of HT_.out (by kernel_rfl)) (by decide) (fun K hK => ?_)
   refine goes_ Try.func16 (by kernel_rfl) rfl #[.agg #[.int .u32 nd.id, .slice B1 nd.vec.length d1, .slice B2 nd.tags.length d2, .int .u64 nd.fr, .int .u64 nd.un, .slice (some ⟨r, 0, none⟩) nd.links.length cp], .agg #[.int .u32 nd.id, .slice D1 nd.vec.length e1, .slice D2 nd.tags.length e2, .int .u64 nd.fr, .int .u64 nd.un, .slice D3 nd.links.length e3]] (by rfl) rfl rfl (by simp only [List.map_toArray, List.map_cons, List.map_nil]; rfl) ?_
   with_reducible refine (same_doc HAD.out HDN.out (HV.out.nsm (by omega) HND.out)).mono ?_
   rintro e w8 ⟨rfl, hb⟩
   refine ⟨_, rfl, ?_⟩
   have HB8 := Aside0.mk hb
   have HM8 := Aside0.mk (HMD.out.below hb)
   clear hb
   refine hK.out _ _ ⟨((blk_cell (blk_below HXD.out HB8.out) 0).trans rfl), ((blk_cell (blk_below HXD.out HB8.out) 1).trans rfl), ((blk_cell (blk_below HXD.out HB8.out) 2).trans rfl), ((blk_cell (blk_below HXD.out HB8.out) 3).trans rfl), ((blk_cell (blk_below HXD.out HB8.out) 4).trans rfl), ((blk_cell (blk_below HXD.out HB8.out) 5).trans rfl), ((blk_cell (blk_below HGD.out HB8.out) 1).trans rfl), (pw_cell_below HB8.out HDC.out.1), (pw_cell_below HB8.out HDC.out.2.1), (pw_cell_below HB8.out HDC.out.2.2.1), (pw_cell_below HB8.out HDC.out.2.2.2.1), (pw_cell_below HB8.out HDC.out.2.2.2.2.1), (pw_cell_below HB8.out HDC.out.2.2.2.2.2)⟩ (fun hHeld => ?_)
   clear hK K
   refine norm_ (a' := ?_) ?_ ?_
   rotate_left
   ·show Act.put _ (some 55) _ = _
    simp only [Act.put, sT_, sZ_, sS_, i64_w, i32_w]
    rfl
   refine pure_ (i := 12) (N := some 56) (v := ?_) (a' := ?_) #[true, true, true, true, true, true, true, true, true, true, true, true, true, false] rfl rfl (any_of HT_.out (by kernel_rfl)) (fun _ _ _ h => h) (Or.inl ⟨by rfl, ?_⟩) ?_ ?_
   rotate_left
   ·intro w'
    go_simp
    with_reducible rfl
   rotate_left
   ·simp only [Act.put, sT_, sZ_, sS_, i64_w, i32_w]
    rfl
   refine pure_ (i := 13) (N := some 57) (v := ?_) (a' := ?_) #[true, true, true, true, true, true, true, true, true, true, true, true, true, true] rfl rfl (any_of HT_.out (by kernel_rfl)) (fun _ _ _ h => h) (Or.inl ⟨by rfl, ?_⟩) ?_ ?_
   rotate_left
   ·intro w'
    go_simp
    with_reducible rfl
   rotate_left
   ·simp only [Act.put, sT_, sZ_, sS_, i64_w, i32_w]
    rfl
   refine done_ (done_of HT_.out (by kernel_rfl)) ?_
   clear hHeld
   go_wp2
   go_roundg gk
   case measure => omega
   case rel => exact ⟨i + 1, congrArg (Value.int .i64) HIN.out, ⟨by have := HI.out; have := HIL.out; omega⟩, HM8⟩
  ·have q1 : decide ((i : Int) < (s.l.length : Int)) = false := decide_eq_false (by omega)
   have q1' : (i < s.l.length) = False := eq_false hi
   have q1'' : decide (i < s.l.length) = false := decide_eq_false hi
   clear hi
   go_wp2_with (first | (go_at_call 15; (with_reducible refine (HMR.out.nodeN (s.l.length : Int) (out_no (by omega))).mono ?_); rintro e w8 ⟨rfl, hb⟩; have HM8 := Aside0.mk (HMR.out.below hb); clear hb) | (have := HM8; go_at_call 15; go_must (with_reducible refine ((HM8.out.below (below_alloc (Below.refl _ _) _)).nodeN (-1) (out_no (by omega))).mono ?_); rintro e w9 ⟨rfl, hb⟩; have HM9 := Aside0.mk ((HM8.out.below (below_alloc (Below.refl _ _) _)).below hb); clear hb))
   go_ret
   exact ⟨rfl, bel_alloc HM9.out.at0 _⟩
theorem plays_row (m : Int) (hm : (Lit.int .u8 m).wf = true) (v1 : Value) (s1 : v1 = .slice none 0 0 ∨ ∃ a n c, v1 = .slice (some a) n c) (x1 : List OpL) {W : World} (K1 : (Kd.slice 89 kopL).K W x1 v1.cells.toList) (o1 : okOpsL x1) (_ : World) :
  Calls Try.prog 6 #[.int .u8 m, v1] W fun e w' => e = .returned (.bool true) ∧ Below W.heap.size W w' := by
 obtain ⟨A, c, rfl, g1, g2⟩ := slice_of s1 K1
 exact linksPlays_walk m hm A c x1 W g2 o1
end Go.Proofs.Ytofmlajanopniaa.Li
