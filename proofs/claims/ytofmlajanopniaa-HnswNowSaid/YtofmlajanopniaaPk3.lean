/- Texts of this claim,one behind the other: words,walks,plain laws. No condition. -/
import Derived.Test.YtofmlajanopniaaPk1
import Derived.Test.YtofmlajanopniaaPk2
set_option linter.unusedVariables false
set_option linter.unusedSimpArgs false
namespace Go.Proofs.Ytofmlajanopniaa.Q
open Go.RowKit Go.Proofs.YtofmlajanopniaaW.PrintWords Go.Proofs.YtofmlajanopniaaW.PrintLast Go.Proofs.YtofmlajanopniaaW.PrintMore
attribute [local go_sem] max2_int min2_int max_two min_two max_three min_three max_four min_four   -- for this text's walks alone

/-! ### lodestarref11_SameNode: function 16 -/
mutual
def lodestarref11_SameNode.j0 : Nat → Bool → Int → List Int → List ByteArray → Int → Int → List (List Int) → Int → List Int → List ByteArray → Int → Int → List (List Int) → Option (Bool)
 | 0,_,_,_,_,_,_,_,_,_,_,_,_,_ => none
 | k + 1,x34,x121000,x121001,x121002,x121003,x121004,x121005,x122000,x122001,x122002,x122003,x122004,x122005 => if x34 = true then (some false) else (lodestarref11_SameNode.l0 k 0 x121000 x121001 x121002 x121003 x121004 x121005 x122000 x122001 x122002 x122003 x122004 x122005)
def lodestarref11_SameNode.l0 : Nat → Int → Int → List Int → List ByteArray → Int → Int → List (List Int) → Int → List Int → List ByteArray → Int → Int → List (List Int) → Option (Bool)
 | 0,_,_,_,_,_,_,_,_,_,_,_,_,_ => none
 | k + 1,x5,x121000,x121001,x121002,x121003,x121004,x121005,x122000,x122001,x122002,x122003,x122004,x122005 => if x5 < (x121005.length : Int) then (if 0 ≤ x5 then (if x5 < (x122005.length : Int) then ((lodestarref11_Ints.f k (rd_L9 x121005 x5) (rd_L9 x122005 x5)).bind fun t125 => (if t125 = true then (lodestarref11_SameNode.l0 k (wrap64 (x5 + 1)) x121000 x121001 x121002 x121003 x121004 x121005 x122000 x122001 x122002 x122003 x122004 x122005) else (some false))) else (none)) else (none)) else (some true)
end
def lodestarref11_SameNode.f (k : Nat) (a0_0 : Int) (l0_1 : List Int) (l0_2 : List ByteArray) (a0_3 : Int) (a0_4 : Int) (l0_5 : List (List Int)) (a1_0 : Int) (l1_1 : List Int) (l1_2 : List ByteArray) (a1_3 : Int) (a1_4 : Int) (l1_5 : List (List Int)) : Option (Bool) := (lodestarref06_SameItem.f k a0_0 l0_1 l0_2 a1_0 l1_1 l1_2).bind fun t122 => (if t122 = true then (if a0_3 = a1_3 then (if a0_4 = a1_4 then (lodestarref11_SameNode.j0 k ((l0_5.length : Int) != (l1_5.length : Int)) a0_0 l0_1 l0_2 a0_3 a0_4 l0_5 a1_0 l1_1 l1_2 a1_3 a1_4 l1_5) else (lodestarref11_SameNode.j0 k true a0_0 l0_1 l0_2 a0_3 a0_4 l0_5 a1_0 l1_1 l1_2 a1_3 a1_4 l1_5)) else (lodestarref11_SameNode.j0 k true a0_0 l0_1 l0_2 a0_3 a0_4 l0_5 a1_0 l1_1 l1_2 a1_3 a1_4 l1_5)) else (lodestarref11_SameNode.j0 k true a0_0 l0_1 l0_2 a0_3 a0_4 l0_5 a1_0 l1_1 l1_2 a1_3 a1_4 l1_5))
theorem lodestarref11_SameNode.mono_l : ∀ k,(∀ y0 y1 y2 y3 y4 y5 y6 y7 y8 y9 y10 y11 y12,LeO (lodestarref11_SameNode.j0 k y0 y1 y2 y3 y4 y5 y6 y7 y8 y9 y10 y11 y12) (lodestarref11_SameNode.j0 (k + 1) y0 y1 y2 y3 y4 y5 y6 y7 y8 y9 y10 y11 y12)) ∧ (∀ y0 y1 y2 y3 y4 y5 y6 y7 y8 y9 y10 y11 y12,LeO (lodestarref11_SameNode.l0 k y0 y1 y2 y3 y4 y5 y6 y7 y8 y9 y10 y11 y12) (lodestarref11_SameNode.l0 (k + 1) y0 y1 y2 y3 y4 y5 y6 y7 y8 y9 y10 y11 y12))
 | 0 => ⟨fun _ _ _ _ _ _ _ _ _ _ _ _ _ r h => by simp [lodestarref11_SameNode.j0] at h,fun _ _ _ _ _ _ _ _ _ _ _ _ _ r h => by simp [lodestarref11_SameNode.l0] at h⟩
 | k + 1 => by
  obtain ⟨ih0,ih1⟩ := lodestarref11_SameNode.mono_l k
  refine ⟨?_, ?_⟩
  ·intro y0 y1 y2 y3 y4 y5 y6 y7 y8 y9 y10 y11 y12
   unfold lodestarref11_SameNode.j0
   repeat' first
   | (with_reducible exact ih0 _ _ _ _ _ _ _ _ _ _ _ _ _)
   | (with_reducible exact ih1 _ _ _ _ _ _ _ _ _ _ _ _ _)
   | (with_reducible exact lodestarref06_SameItem.mono _ _ _ _ _ _ _)
   | (with_reducible exact lodestarref11_Ints.mono _ _ _)
   | (with_reducible exact LeO.refl _)
   | (with_reducible exact LeO.none _)
   | (with_reducible refine LeO.ite ?_ ?_)
   | (with_reducible refine LeO.bind ?_ (fun _ => ?_))
   | exact ih0 _ _ _ _ _ _ _ _ _ _ _ _ _
   | exact ih1 _ _ _ _ _ _ _ _ _ _ _ _ _
   | exact lodestarref06_SameItem.mono _ _ _ _ _ _ _
   | exact lodestarref11_Ints.mono _ _ _
   | exact LeO.none _
   | refine LeO.ite ?_ ?_
   | refine LeO.bind ?_ (fun _ => ?_)
  ·intro y0 y1 y2 y3 y4 y5 y6 y7 y8 y9 y10 y11 y12
   unfold lodestarref11_SameNode.l0
   repeat' first
   | (with_reducible exact ih0 _ _ _ _ _ _ _ _ _ _ _ _ _)
   | (with_reducible exact ih1 _ _ _ _ _ _ _ _ _ _ _ _ _)
   | (with_reducible exact lodestarref06_SameItem.mono _ _ _ _ _ _ _)
   | (with_reducible exact lodestarref11_Ints.mono _ _ _)
   | (with_reducible exact LeO.refl _)
   | (with_reducible exact LeO.none _)
   | (with_reducible refine LeO.ite ?_ ?_)
   | (with_reducible refine LeO.bind ?_ (fun _ => ?_))
   | exact ih0 _ _ _ _ _ _ _ _ _ _ _ _ _
   | exact ih1 _ _ _ _ _ _ _ _ _ _ _ _ _
   | exact lodestarref06_SameItem.mono _ _ _ _ _ _ _
   | exact lodestarref11_Ints.mono _ _ _
   | exact LeO.none _
   | refine LeO.ite ?_ ?_
   | refine LeO.bind ?_ (fun _ => ?_)
theorem lodestarref11_SameNode.mono : ∀ a0 a1 a2 a3 a4 a5 a6 a7 a8 a9 a10 a11 k,LeO (lodestarref11_SameNode.f k a0 a1 a2 a3 a4 a5 a6 a7 a8 a9 a10 a11) (lodestarref11_SameNode.f (k + 1) a0 a1 a2 a3 a4 a5 a6 a7 a8 a9 a10 a11) := by
 intro a0 a1 a2 a3 a4 a5 a6 a7 a8 a9 a10 a11 k
 obtain ⟨ih0,ih1⟩ := lodestarref11_SameNode.mono_l k
 unfold lodestarref11_SameNode.f
 repeat' first
   | (with_reducible exact ih0 _ _ _ _ _ _ _ _ _ _ _ _ _)
   | (with_reducible exact ih1 _ _ _ _ _ _ _ _ _ _ _ _ _)
   | (with_reducible exact lodestarref06_SameItem.mono _ _ _ _ _ _ _)
   | (with_reducible exact lodestarref11_Ints.mono _ _ _)
   | (with_reducible exact LeO.refl _)
   | (with_reducible exact LeO.none _)
   | (with_reducible refine LeO.ite ?_ ?_)
   | (with_reducible refine LeO.bind ?_ (fun _ => ?_))
   | exact ih0 _ _ _ _ _ _ _ _ _ _ _ _ _
   | exact ih1 _ _ _ _ _ _ _ _ _ _ _ _ _
   | exact lodestarref06_SameItem.mono _ _ _ _ _ _ _
   | exact lodestarref11_Ints.mono _ _ _
   | exact LeO.none _
   | refine LeO.ite ?_ ?_
   | refine LeO.bind ?_ (fun _ => ?_)
set_option maxHeartbeats 8000000 in
set_option maxRecDepth 100000 in
theorem lodestarref11_SameNode.calls (k : Nat) (a0_0 : Int) (A0_1 : Option Addr) (c0_1 : Nat) (l0_1 : List Int) (A0_2 : Option Addr) (c0_2 : Nat) (l0_2 : List ByteArray) (a0_3 : Int) (a0_4 : Int) (A0_5 : Option Addr) (c0_5 : Nat) (l0_5 : List (List Int)) (a1_0 : Int) (A1_1 : Option Addr) (c1_1 : Nat) (l1_1 : List Int) (A1_2 : Option Addr) (c1_2 : Nat) (l1_2 : List ByteArray) (a1_3 : Int) (a1_4 : Int) (A1_5 : Option Addr) (c1_5 : Nat) (l1_5 : List (List Int)) (r : Bool) (w : World) (hr0_1 : Kd.C (Kd.int .i32) w A0_1 l0_1.length l0_1) (hc0_1 : l0_1.length ≤ c0_1) (hr0_2 : Kd.C Kd.string w A0_2 l0_2.length l0_2) (hc0_2 : l0_2.length ≤ c0_2) (hr0_5 : Kd.C (Kd.slice 3 (Kd.int .i64)) w A0_5 l0_5.length l0_5) (hc0_5 : l0_5.length ≤ c0_5) (hr1_1 : Kd.C (Kd.int .i32) w A1_1 l1_1.length l1_1) (hc1_1 : l1_1.length ≤ c1_1) (hr1_2 : Kd.C Kd.string w A1_2 l1_2.length l1_2) (hc1_2 : l1_2.length ≤ c1_2) (hr1_5 : Kd.C (Kd.slice 3 (Kd.int .i64)) w A1_5 l1_5.length l1_5) (hc1_5 : l1_5.length ≤ c1_5) (h : lodestarref11_SameNode.f k a0_0 l0_1 l0_2 a0_3 a0_4 l0_5 a1_0 l1_1 l1_2 a1_3 a1_4 l1_5 = some r) :
  Calls Try.prog 16 #[.agg #[.int .u32 a0_0,.slice A0_1 l0_1.length c0_1,.slice A0_2 l0_2.length c0_2,.int .u64 a0_3,.int .u64 a0_4,.slice A0_5 l0_5.length c0_5],.agg #[.int .u32 a1_0,.slice A1_1 l1_1.length c1_1,.slice A1_2 l1_2.length c1_2,.int .u64 a1_3,.int .u64 a1_4,.slice A1_5 l1_5.length c1_5]] w fun e w' => e = .returned (.bool r) ∧ Below w.heap.size w w' := by
 have hu37 := Try.underlying37
 have hu26 := Try.underlying26
 have HR0_1 := Aside0.mk hr0_1
 have HC0_1 := Aside0.mk hc0_1
 clear hr0_1 hc0_1
 have HR0_2 := Aside0.mk hr0_2
 have HC0_2 := Aside0.mk hc0_2
 clear hr0_2 hc0_2
 have HR0_5 := Aside0.mk hr0_5
 have HC0_5 := Aside0.mk hc0_5
 clear hr0_5 hc0_5
 have HR1_1 := Aside0.mk hr1_1
 have HC1_1 := Aside0.mk hc1_1
 clear hr1_1 hc1_1
 have HR1_2 := Aside0.mk hr1_2
 have HC1_2 := Aside0.mk hc1_2
 clear hr1_2 hc1_2
 have HR1_5 := Aside0.mk hr1_5
 have HC1_5 := Aside0.mk hc1_5
 clear hr1_5 hc1_5
 have HB := Aside0.mk (Below.refl w.heap.size w)
 have H : ((lodestarref06_SameItem.f k a0_0 l0_1 l0_2 a1_0 l1_1 l1_2).bind fun t122 => (if t122 = true then (if a0_3 = a1_3 then (if a0_4 = a1_4 then (lodestarref11_SameNode.j0 k ((l0_5.length : Int) != (l1_5.length : Int)) a0_0 l0_1 l0_2 a0_3 a0_4 l0_5 a1_0 l1_1 l1_2 a1_3 a1_4 l1_5) else (lodestarref11_SameNode.j0 k true a0_0 l0_1 l0_2 a0_3 a0_4 l0_5 a1_0 l1_1 l1_2 a1_3 a1_4 l1_5)) else (lodestarref11_SameNode.j0 k true a0_0 l0_1 l0_2 a0_3 a0_4 l0_5 a1_0 l1_1 l1_2 a1_3 a1_4 l1_5)) else (lodestarref11_SameNode.j0 k true a0_0 l0_1 l0_2 a0_3 a0_4 l0_5 a1_0 l1_1 l1_2 a1_3 a1_4 l1_5))) = some r := h
 clear h
 have HC3 := Aside0.mk H
 clear H
 go_enter Try.func16,Try.ntmps16
 go_upto_region 1 with (first | ((with_reducible refine gate_dst (N := 2) rfl ?_);(try (refine gate_guard (by rfl) ?_;dsimp only));refine box_event ?hg (N := 2) ?hd (cs := #[.int .u32 a0_0,.slice A0_1 l0_1.length c0_1,.slice A0_2 l0_2.length c0_2,.int .u64 a0_3,.int .u64 a0_4,.slice A0_5 l0_5.length c0_5]) (t := 37) ?hr ?_;(case hd => rfl);(case hg => rfl);(case hr => first | (go_simp;done) | (go_simp;rfl));intro gb120 hg w4 hbox hb;have n0_ := Aside0.mk (below_step (by repeat (first | (with_reducible first | exact HB.out | apply below_alloc | apply pw_below_drewN | apply below_drew1) | exact HB.out)) hb);have n1_ := Aside0.mk (hbox);have n2_ := Aside0.mk ((by rw [hg];exact (below_size (by repeat (first | (with_reducible first | exact HB.out | apply below_alloc | apply pw_below_drewN | apply below_drew1) | exact HB.out))) : w.heap.size ≤ gb120));have n3_ := Aside0.mk ((by rw [hg];exact (below_size (by repeat (first | (with_reducible first | exact HB.out | apply below_alloc | apply pw_below_drewN | apply below_drew1) | exact HB.out))) : w.heap.size ≤ gb120));clear HB;have HB := n0_;have BK120 := n1_;have GW120 := n2_;have GE120 := n3_;clear n0_ n1_ n2_ n3_;clear hb hbox hg) | ((with_reducible refine gate_dst (N := 3) rfl ?_);(try (refine gate_guard (by rfl) ?_;dsimp only));refine box_event ?hg (N := 3) ?hd (cs := #[.int .u32 a1_0,.slice A1_1 l1_1.length c1_1,.slice A1_2 l1_2.length c1_2,.int .u64 a1_3,.int .u64 a1_4,.slice A1_5 l1_5.length c1_5]) (t := 37) ?hr ?_;(case hd => rfl);(case hg => rfl);(case hr => first | (go_simp;done) | (go_simp;rfl));intro gb121 hg w5 hbox hb;have n0_ := Aside0.mk (blk_below (g := gb120) (o := .cells #[.int .u32 a0_0,.slice A0_1 l0_1.length c0_1,.slice A0_2 l0_2.length c0_2,.int .u64 a0_3,.int .u64 a0_4,.slice A0_5 l0_5.length c0_5] 37 (0,0)) (by (with_reducible repeat (first | refine blk_drewN ?_ _ | refine blk_drew ?_ | refine blk_alloc ?_ _));exact BK120.out) hb);have n1_ := Aside0.mk (below_step (by repeat (first | (with_reducible first | exact HB.out | apply below_alloc | apply pw_below_drewN | apply below_drew1 | refine below_set ?_ GE120.out) | exact HB.out)) hb);have n2_ := Aside0.mk (hbox);have n3_ := Aside0.mk ((by rw [hg];exact (below_size (by repeat (first | (with_reducible first | exact HB.out | apply below_alloc | apply pw_below_drewN | apply below_drew1 | refine below_set ?_ GE120.out) | exact HB.out))) : w.heap.size ≤ gb121));have n4_ := Aside0.mk ((by rw [hg];exact (below_size (by repeat (first | (with_reducible first | exact HB.out | apply below_alloc | apply pw_below_drewN | apply below_drew1 | refine below_set ?_ GE120.out) | exact HB.out))) : w.heap.size ≤ gb121));have n5_ := Aside0.mk ((by rw [hg];exact Nat.ne_of_lt (blk_lt (g := gb120) (o := .cells #[.int .u32 a0_0,.slice A0_1 l0_1.length c0_1,.slice A0_2 l0_2.length c0_2,.int .u64 a0_3,.int .u64 a0_4,.slice A0_5 l0_5.length c0_5] 37 (0,0)) (by (with_reducible repeat (first | refine blk_drewN ?_ _ | refine blk_drew ?_ | refine blk_alloc ?_ _));exact BK120.out)) : gb120 ≠ gb121));have n6_ := Aside0.mk ((by rw [hg];exact Nat.ne_of_gt (blk_lt (g := gb120) (o := .cells #[.int .u32 a0_0,.slice A0_1 l0_1.length c0_1,.slice A0_2 l0_2.length c0_2,.int .u64 a0_3,.int .u64 a0_4,.slice A0_5 l0_5.length c0_5] 37 (0,0)) (by (with_reducible repeat (first | refine blk_drewN ?_ _ | refine blk_drew ?_ | refine blk_alloc ?_ _));exact BK120.out)) : gb121 ≠ gb120));clear BK120;clear HB;have BK120 := n0_;have HB := n1_;have BK121 := n2_;have GW121 := n3_;have GE121 := n4_;have NB120_121 := n5_;have NB121_120 := n6_;clear n0_ n1_ n2_ n3_ n4_ n5_ n6_;clear hb hbox hg))
 repeat (go_quiet (first | ((with_reducible refine gate_dst (N := 2) rfl ?_);(try (refine gate_guard (by rfl) ?_;dsimp only));refine box_event ?hg (N := 2) ?hd (cs := #[.int .u32 a0_0,.slice A0_1 l0_1.length c0_1,.slice A0_2 l0_2.length c0_2,.int .u64 a0_3,.int .u64 a0_4,.slice A0_5 l0_5.length c0_5]) (t := 37) ?hr ?_;(case hd => rfl);(case hg => rfl);(case hr => first | (go_simp;done) | (go_simp;rfl));intro gb120 hg w4 hbox hb;have n0_ := Aside0.mk (below_step (by repeat (first | (with_reducible first | exact HB.out | apply below_alloc | apply pw_below_drewN | apply below_drew1) | exact HB.out)) hb);have n1_ := Aside0.mk (hbox);have n2_ := Aside0.mk ((by rw [hg];exact (below_size (by repeat (first | (with_reducible first | exact HB.out | apply below_alloc | apply pw_below_drewN | apply below_drew1) | exact HB.out))) : w.heap.size ≤ gb120));have n3_ := Aside0.mk ((by rw [hg];exact (below_size (by repeat (first | (with_reducible first | exact HB.out | apply below_alloc | apply pw_below_drewN | apply below_drew1) | exact HB.out))) : w.heap.size ≤ gb120));clear HB;have HB := n0_;have BK120 := n1_;have GW120 := n2_;have GE120 := n3_;clear n0_ n1_ n2_ n3_;clear hb hbox hg) | ((with_reducible refine gate_dst (N := 3) rfl ?_);(try (refine gate_guard (by rfl) ?_;dsimp only));refine box_event ?hg (N := 3) ?hd (cs := #[.int .u32 a1_0,.slice A1_1 l1_1.length c1_1,.slice A1_2 l1_2.length c1_2,.int .u64 a1_3,.int .u64 a1_4,.slice A1_5 l1_5.length c1_5]) (t := 37) ?hr ?_;(case hd => rfl);(case hg => rfl);(case hr => first | (go_simp;done) | (go_simp;rfl));intro gb121 hg w5 hbox hb;have n0_ := Aside0.mk (blk_below (g := gb120) (o := .cells #[.int .u32 a0_0,.slice A0_1 l0_1.length c0_1,.slice A0_2 l0_2.length c0_2,.int .u64 a0_3,.int .u64 a0_4,.slice A0_5 l0_5.length c0_5] 37 (0,0)) (by (with_reducible repeat (first | refine blk_drewN ?_ _ | refine blk_drew ?_ | refine blk_alloc ?_ _));exact BK120.out) hb);have n1_ := Aside0.mk (below_step (by repeat (first | (with_reducible first | exact HB.out | apply below_alloc | apply pw_below_drewN | apply below_drew1 | refine below_set ?_ GE120.out) | exact HB.out)) hb);have n2_ := Aside0.mk (hbox);have n3_ := Aside0.mk ((by rw [hg];exact (below_size (by repeat (first | (with_reducible first | exact HB.out | apply below_alloc | apply pw_below_drewN | apply below_drew1 | refine below_set ?_ GE120.out) | exact HB.out))) : w.heap.size ≤ gb121));have n4_ := Aside0.mk ((by rw [hg];exact (below_size (by repeat (first | (with_reducible first | exact HB.out | apply below_alloc | apply pw_below_drewN | apply below_drew1 | refine below_set ?_ GE120.out) | exact HB.out))) : w.heap.size ≤ gb121));have n5_ := Aside0.mk ((by rw [hg];exact Nat.ne_of_lt (blk_lt (g := gb120) (o := .cells #[.int .u32 a0_0,.slice A0_1 l0_1.length c0_1,.slice A0_2 l0_2.length c0_2,.int .u64 a0_3,.int .u64 a0_4,.slice A0_5 l0_5.length c0_5] 37 (0,0)) (by (with_reducible repeat (first | refine blk_drewN ?_ _ | refine blk_drew ?_ | refine blk_alloc ?_ _));exact BK120.out)) : gb120 ≠ gb121));have n6_ := Aside0.mk ((by rw [hg];exact Nat.ne_of_gt (blk_lt (g := gb120) (o := .cells #[.int .u32 a0_0,.slice A0_1 l0_1.length c0_1,.slice A0_2 l0_2.length c0_2,.int .u64 a0_3,.int .u64 a0_4,.slice A0_5 l0_5.length c0_5] 37 (0,0)) (by (with_reducible repeat (first | refine blk_drewN ?_ _ | refine blk_drew ?_ | refine blk_alloc ?_ _));exact BK120.out)) : gb121 ≠ gb120));clear BK120;clear HB;have BK120 := n0_;have HB := n1_;have BK121 := n2_;have GW121 := n3_;have GE121 := n4_;have NB120_121 := n5_;have NB121_120 := n6_;clear n0_ n1_ n2_ n3_ n4_ n5_ n6_;clear hb hbox hg));go_upto_region 1 with (first | ((with_reducible refine gate_dst (N := 2) rfl ?_);(try (refine gate_guard (by rfl) ?_;dsimp only));refine box_event ?hg (N := 2) ?hd (cs := #[.int .u32 a0_0,.slice A0_1 l0_1.length c0_1,.slice A0_2 l0_2.length c0_2,.int .u64 a0_3,.int .u64 a0_4,.slice A0_5 l0_5.length c0_5]) (t := 37) ?hr ?_;(case hd => rfl);(case hg => rfl);(case hr => first | (go_simp;done) | (go_simp;rfl));intro gb120 hg w4 hbox hb;have n0_ := Aside0.mk (below_step (by repeat (first | (with_reducible first | exact HB.out | apply below_alloc | apply pw_below_drewN | apply below_drew1) | exact HB.out)) hb);have n1_ := Aside0.mk (hbox);have n2_ := Aside0.mk ((by rw [hg];exact (below_size (by repeat (first | (with_reducible first | exact HB.out | apply below_alloc | apply pw_below_drewN | apply below_drew1) | exact HB.out))) : w.heap.size ≤ gb120));have n3_ := Aside0.mk ((by rw [hg];exact (below_size (by repeat (first | (with_reducible first | exact HB.out | apply below_alloc | apply pw_below_drewN | apply below_drew1) | exact HB.out))) : w.heap.size ≤ gb120));clear HB;have HB := n0_;have BK120 := n1_;have GW120 := n2_;have GE120 := n3_;clear n0_ n1_ n2_ n3_;clear hb hbox hg) | ((with_reducible refine gate_dst (N := 3) rfl ?_);(try (refine gate_guard (by rfl) ?_;dsimp only));refine box_event ?hg (N := 3) ?hd (cs := #[.int .u32 a1_0,.slice A1_1 l1_1.length c1_1,.slice A1_2 l1_2.length c1_2,.int .u64 a1_3,.int .u64 a1_4,.slice A1_5 l1_5.length c1_5]) (t := 37) ?hr ?_;(case hd => rfl);(case hg => rfl);(case hr => first | (go_simp;done) | (go_simp;rfl));intro gb121 hg w5 hbox hb;have n0_ := Aside0.mk (blk_below (g := gb120) (o := .cells #[.int .u32 a0_0,.slice A0_1 l0_1.length c0_1,.slice A0_2 l0_2.length c0_2,.int .u64 a0_3,.int .u64 a0_4,.slice A0_5 l0_5.length c0_5] 37 (0,0)) (by (with_reducible repeat (first | refine blk_drewN ?_ _ | refine blk_drew ?_ | refine blk_alloc ?_ _));exact BK120.out) hb);have n1_ := Aside0.mk (below_step (by repeat (first | (with_reducible first | exact HB.out | apply below_alloc | apply pw_below_drewN | apply below_drew1 | refine below_set ?_ GE120.out) | exact HB.out)) hb);have n2_ := Aside0.mk (hbox);have n3_ := Aside0.mk ((by rw [hg];exact (below_size (by repeat (first | (with_reducible first | exact HB.out | apply below_alloc | apply pw_below_drewN | apply below_drew1 | refine below_set ?_ GE120.out) | exact HB.out))) : w.heap.size ≤ gb121));have n4_ := Aside0.mk ((by rw [hg];exact (below_size (by repeat (first | (with_reducible first | exact HB.out | apply below_alloc | apply pw_below_drewN | apply below_drew1 | refine below_set ?_ GE120.out) | exact HB.out))) : w.heap.size ≤ gb121));have n5_ := Aside0.mk ((by rw [hg];exact Nat.ne_of_lt (blk_lt (g := gb120) (o := .cells #[.int .u32 a0_0,.slice A0_1 l0_1.length c0_1,.slice A0_2 l0_2.length c0_2,.int .u64 a0_3,.int .u64 a0_4,.slice A0_5 l0_5.length c0_5] 37 (0,0)) (by (with_reducible repeat (first | refine blk_drewN ?_ _ | refine blk_drew ?_ | refine blk_alloc ?_ _));exact BK120.out)) : gb120 ≠ gb121));have n6_ := Aside0.mk ((by rw [hg];exact Nat.ne_of_gt (blk_lt (g := gb120) (o := .cells #[.int .u32 a0_0,.slice A0_1 l0_1.length c0_1,.slice A0_2 l0_2.length c0_2,.int .u64 a0_3,.int .u64 a0_4,.slice A0_5 l0_5.length c0_5] 37 (0,0)) (by (with_reducible repeat (first | refine blk_drewN ?_ _ | refine blk_drew ?_ | refine blk_alloc ?_ _));exact BK120.out)) : gb121 ≠ gb120));clear BK120;clear HB;have BK120 := n0_;have HB := n1_;have BK121 := n2_;have GW121 := n3_;have GE121 := n4_;have NB120_121 := n5_;have NB121_120 := n6_;clear n0_ n1_ n2_ n3_ n4_ n5_ n6_;clear hb hbox hg)))
 (try simp only [Act.put,sT_,sZ_,sS_])
 go_cut [34] (fun v34 wc => ∃ (kq : Nat) (x34_2 : Bool),v34 = .bool x34_2 ∧ Aside0 (lodestarref11_SameNode.j0 kq x34_2 a0_0 l0_1 l0_2 a0_3 a0_4 l0_5 a1_0 l1_1 l1_2 a1_3 a1_4 l1_5 = some r) ∧ Aside0 (kq ≤ k) ∧ Aside0 (wc.heap[gb120]? = some (.cells #[.int .u32 a0_0,(.slice A0_1 l0_1.length c0_1),(.slice A0_2 l0_2.length c0_2),.int .u64 a0_3,.int .u64 a0_4,(.slice A0_5 l0_5.length c0_5)] 37 (0,0))) ∧ Aside0 (wc.heap[gb121]? = some (.cells #[.int .u32 a1_0,(.slice A1_1 l1_1.length c1_1),(.slice A1_2 l1_2.length c1_2),.int .u64 a1_3,.int .u64 a1_4,(.slice A1_5 l1_5.length c1_5)] 37 (0,0))) ∧ Aside0 (Below w.heap.size w wc))
 case first =>
  have H := HC3.out
  clear HC3
  replace H := Option.bind_eq_some_iff.mp H
  obtain ⟨t122,A60,H⟩ := H
  replace H : (if t122 = true then (if a0_3 = a1_3 then (if a0_4 = a1_4 then (lodestarref11_SameNode.j0 k ((l0_5.length : Int) != (l1_5.length : Int)) a0_0 l0_1 l0_2 a0_3 a0_4 l0_5 a1_0 l1_1 l1_2 a1_3 a1_4 l1_5) else (lodestarref11_SameNode.j0 k true a0_0 l0_1 l0_2 a0_3 a0_4 l0_5 a1_0 l1_1 l1_2 a1_3 a1_4 l1_5)) else (lodestarref11_SameNode.j0 k true a0_0 l0_1 l0_2 a0_3 a0_4 l0_5 a1_0 l1_1 l1_2 a1_3 a1_4 l1_5)) else (lodestarref11_SameNode.j0 k true a0_0 l0_1 l0_2 a0_3 a0_4 l0_5 a1_0 l1_1 l1_2 a1_3 a1_4 l1_5)) = some r := H
  have A6 := Aside0.mk A60
  clear A60
  by_cases c7 : t122 = true
  ·subst c7
   have H1 : (if a0_3 = a1_3 then (if a0_4 = a1_4 then (lodestarref11_SameNode.j0 k ((l0_5.length : Int) != (l1_5.length : Int)) a0_0 l0_1 l0_2 a0_3 a0_4 l0_5 a1_0 l1_1 l1_2 a1_3 a1_4 l1_5) else (lodestarref11_SameNode.j0 k true a0_0 l0_1 l0_2 a0_3 a0_4 l0_5 a1_0 l1_1 l1_2 a1_3 a1_4 l1_5)) else (lodestarref11_SameNode.j0 k true a0_0 l0_1 l0_2 a0_3 a0_4 l0_5 a1_0 l1_1 l1_2 a1_3 a1_4 l1_5)) = some r := by rw [if_pos rfl] at H;exact H
   clear H
   have H := H1
   clear H1
   by_cases c8 : a0_3 = a1_3
   ·rw [if_pos c8] at H
    have c8b0 : (a0_3 == a1_3) = true := beq_iff_eq.mpr c8
    have c8b1 : (a0_3 != a1_3) = false := bne_eq_false_iff_eq.mpr c8
    clear c8
    (first | rw [c8b0] | (simp only [i64_w,i32_w];rw [c8b0]) | skip)
    by_cases c9 : a0_4 = a1_4
    ·rw [if_pos c9] at H
     have c9b0 : (a0_4 == a1_4) = true := beq_iff_eq.mpr c9
     have c9b1 : (a0_4 != a1_4) = false := bne_eq_false_iff_eq.mpr c9
     clear c9
     have H' := Aside0.mk H
     clear H
     have hnb10 := NB120_121.out
     have hnc10 := NB121_120.out
     have hcz11_0 : w5.cell? ⟨gb120,0,none⟩ = some (.int .u32 a0_0) := (blk_cell BK120.out 0).trans rfl
     have hcz11_1 : w5.cell? ⟨gb120,1,none⟩ = some (.slice A0_1 l0_1.length c0_1) := (blk_cell BK120.out 1).trans rfl
     have hcz11_2 : w5.cell? ⟨gb120,2,none⟩ = some (.slice A0_2 l0_2.length c0_2) := (blk_cell BK120.out 2).trans rfl
     have hcz11_3 : w5.cell? ⟨gb120,3,none⟩ = some (.int .u64 a0_3) := (blk_cell BK120.out 3).trans rfl
     have hcz11_4 : w5.cell? ⟨gb120,4,none⟩ = some (.int .u64 a0_4) := (blk_cell BK120.out 4).trans rfl
     have hcz11_5 : w5.cell? ⟨gb120,5,none⟩ = some (.slice A0_5 l0_5.length c0_5) := (blk_cell BK120.out 5).trans rfl
     have hfz11_0 := blk_frozen BK120.out 0
     have hfz11_1 := blk_frozen BK120.out 1
     have hfz11_2 := blk_frozen BK120.out 2
     have hfz11_3 := blk_frozen BK120.out 3
     have hfz11_4 := blk_frozen BK120.out 4
     have hfz11_5 := blk_frozen BK120.out 5
     have hcz12_0 : w5.cell? ⟨gb121,0,none⟩ = some (.int .u32 a1_0) := (blk_cell BK121.out 0).trans rfl
     have hcz12_1 : w5.cell? ⟨gb121,1,none⟩ = some (.slice A1_1 l1_1.length c1_1) := (blk_cell BK121.out 1).trans rfl
     have hcz12_2 : w5.cell? ⟨gb121,2,none⟩ = some (.slice A1_2 l1_2.length c1_2) := (blk_cell BK121.out 2).trans rfl
     have hcz12_3 : w5.cell? ⟨gb121,3,none⟩ = some (.int .u64 a1_3) := (blk_cell BK121.out 3).trans rfl
     have hcz12_4 : w5.cell? ⟨gb121,4,none⟩ = some (.int .u64 a1_4) := (blk_cell BK121.out 4).trans rfl
     have hcz12_5 : w5.cell? ⟨gb121,5,none⟩ = some (.slice A1_5 l1_5.length c1_5) := (blk_cell BK121.out 5).trans rfl
     have hfz12_0 := blk_frozen BK121.out 0
     have hfz12_1 := blk_frozen BK121.out 1
     have hfz12_2 := blk_frozen BK121.out 2
     have hfz12_3 := blk_frozen BK121.out 3
     have hfz12_4 := blk_frozen BK121.out 4
     have hfz12_5 := blk_frozen BK121.out 5
     go_wp2_with (first | (go_at_call 37;(with_reducible refine (lodestarref06_SameItem.calls k a0_0 _ _ l0_1 _ _ l0_2 a1_0 _ _ l1_1 _ _ l1_2 true _ ?side1 ?side2 ?side3 ?side4 ?side5 ?side6 ?side7 ?side8 A6.out).mono ?_);(case side1 => repeat (first | exact (Kd.C_below HR0_1.out HB.out) | (with_reducible refine Kd.C_alloc ?_ _) | (with_reducible refine Kd.C_drewN ?_ _) | (with_reducible refine Kd.C_drew ?_)));(case side2 => exact HC0_1.out);(case side3 => repeat (first | exact (Kd.C_below HR0_2.out HB.out) | (with_reducible refine Kd.C_alloc ?_ _) | (with_reducible refine Kd.C_drewN ?_ _) | (with_reducible refine Kd.C_drew ?_)));(case side4 => exact HC0_2.out);(case side5 => repeat (first | exact (Kd.C_below HR1_1.out HB.out) | (with_reducible refine Kd.C_alloc ?_ _) | (with_reducible refine Kd.C_drewN ?_ _) | (with_reducible refine Kd.C_drew ?_)));(case side6 => exact HC1_1.out);(case side7 => repeat (first | exact (Kd.C_below HR1_2.out HB.out) | (with_reducible refine Kd.C_alloc ?_ _) | (with_reducible refine Kd.C_drewN ?_ _) | (with_reducible refine Kd.C_drew ?_)));(case side8 => exact HC1_2.out);rintro e w13 ⟨rfl,hb⟩;have n0_ := Aside0.mk (blk_below (g := gb120) (o := .cells #[.int .u32 a0_0,.slice A0_1 l0_1.length c0_1,.slice A0_2 l0_2.length c0_2,.int .u64 a0_3,.int .u64 a0_4,.slice A0_5 l0_5.length c0_5] 37 (0,0)) (by (with_reducible repeat (first | refine blk_drewN ?_ _ | refine blk_drew ?_ | refine blk_alloc ?_ _));exact BK120.out) hb);have n1_ := Aside0.mk (blk_below (g := gb121) (o := .cells #[.int .u32 a1_0,.slice A1_1 l1_1.length c1_1,.slice A1_2 l1_2.length c1_2,.int .u64 a1_3,.int .u64 a1_4,.slice A1_5 l1_5.length c1_5] 37 (0,0)) (by (with_reducible repeat (first | refine blk_drewN ?_ _ | refine blk_drew ?_ | refine blk_alloc ?_ _));exact BK121.out) hb);have n2_ := Aside0.mk (below_step (by repeat (first | (with_reducible first | exact HB.out | apply below_alloc | apply pw_below_drewN | apply below_drew1 | refine below_set ?_ GE120.out | refine below_set ?_ GE121.out) | exact HB.out)) hb);clear BK120;clear BK121;clear HB;have BK120 := n0_;have BK121 := n1_;have HB := n2_;clear n0_ n1_ n2_;(try clear hb);(try clear hb2);(try clear hk);(try clear hi);have hcz14_0 : w13.cell? ⟨gb120,0,none⟩ = some (.int .u32 a0_0) := (blk_cell BK120.out 0).trans rfl;have hcz14_1 : w13.cell? ⟨gb120,1,none⟩ = some (.slice A0_1 l0_1.length c0_1) := (blk_cell BK120.out 1).trans rfl;have hcz14_2 : w13.cell? ⟨gb120,2,none⟩ = some (.slice A0_2 l0_2.length c0_2) := (blk_cell BK120.out 2).trans rfl;have hcz14_3 : w13.cell? ⟨gb120,3,none⟩ = some (.int .u64 a0_3) := (blk_cell BK120.out 3).trans rfl;have hcz14_4 : w13.cell? ⟨gb120,4,none⟩ = some (.int .u64 a0_4) := (blk_cell BK120.out 4).trans rfl;have hcz14_5 : w13.cell? ⟨gb120,5,none⟩ = some (.slice A0_5 l0_5.length c0_5) := (blk_cell BK120.out 5).trans rfl;have hfz14_0 := blk_frozen BK120.out 0;have hfz14_1 := blk_frozen BK120.out 1;have hfz14_2 := blk_frozen BK120.out 2;have hfz14_3 := blk_frozen BK120.out 3;have hfz14_4 := blk_frozen BK120.out 4;have hfz14_5 := blk_frozen BK120.out 5;have hcz15_0 : w13.cell? ⟨gb121,0,none⟩ = some (.int .u32 a1_0) := (blk_cell BK121.out 0).trans rfl;have hcz15_1 : w13.cell? ⟨gb121,1,none⟩ = some (.slice A1_1 l1_1.length c1_1) := (blk_cell BK121.out 1).trans rfl;have hcz15_2 : w13.cell? ⟨gb121,2,none⟩ = some (.slice A1_2 l1_2.length c1_2) := (blk_cell BK121.out 2).trans rfl;have hcz15_3 : w13.cell? ⟨gb121,3,none⟩ = some (.int .u64 a1_3) := (blk_cell BK121.out 3).trans rfl;have hcz15_4 : w13.cell? ⟨gb121,4,none⟩ = some (.int .u64 a1_4) := (blk_cell BK121.out 4).trans rfl;have hcz15_5 : w13.cell? ⟨gb121,5,none⟩ = some (.slice A1_5 l1_5.length c1_5) := (blk_cell BK121.out 5).trans rfl;have hfz15_0 := blk_frozen BK121.out 0;have hfz15_1 := blk_frozen BK121.out 1;have hfz15_2 := blk_frozen BK121.out 2;have hfz15_3 := blk_frozen BK121.out 3;have hfz15_4 := blk_frozen BK121.out 4;have hfz15_5 := blk_frozen BK121.out 5))
     repeat (go_quiet (first | (go_at_call 37;(with_reducible refine (lodestarref06_SameItem.calls k a0_0 _ _ l0_1 _ _ l0_2 a1_0 _ _ l1_1 _ _ l1_2 true _ ?side1 ?side2 ?side3 ?side4 ?side5 ?side6 ?side7 ?side8 A6.out).mono ?_);(case side1 => repeat (first | exact (Kd.C_below HR0_1.out HB.out) | (with_reducible refine Kd.C_alloc ?_ _) | (with_reducible refine Kd.C_drewN ?_ _) | (with_reducible refine Kd.C_drew ?_)));(case side2 => exact HC0_1.out);(case side3 => repeat (first | exact (Kd.C_below HR0_2.out HB.out) | (with_reducible refine Kd.C_alloc ?_ _) | (with_reducible refine Kd.C_drewN ?_ _) | (with_reducible refine Kd.C_drew ?_)));(case side4 => exact HC0_2.out);(case side5 => repeat (first | exact (Kd.C_below HR1_1.out HB.out) | (with_reducible refine Kd.C_alloc ?_ _) | (with_reducible refine Kd.C_drewN ?_ _) | (with_reducible refine Kd.C_drew ?_)));(case side6 => exact HC1_1.out);(case side7 => repeat (first | exact (Kd.C_below HR1_2.out HB.out) | (with_reducible refine Kd.C_alloc ?_ _) | (with_reducible refine Kd.C_drewN ?_ _) | (with_reducible refine Kd.C_drew ?_)));(case side8 => exact HC1_2.out);rintro e w13 ⟨rfl,hb⟩;have n0_ := Aside0.mk (blk_below (g := gb120) (o := .cells #[.int .u32 a0_0,.slice A0_1 l0_1.length c0_1,.slice A0_2 l0_2.length c0_2,.int .u64 a0_3,.int .u64 a0_4,.slice A0_5 l0_5.length c0_5] 37 (0,0)) (by (with_reducible repeat (first | refine blk_drewN ?_ _ | refine blk_drew ?_ | refine blk_alloc ?_ _));exact BK120.out) hb);have n1_ := Aside0.mk (blk_below (g := gb121) (o := .cells #[.int .u32 a1_0,.slice A1_1 l1_1.length c1_1,.slice A1_2 l1_2.length c1_2,.int .u64 a1_3,.int .u64 a1_4,.slice A1_5 l1_5.length c1_5] 37 (0,0)) (by (with_reducible repeat (first | refine blk_drewN ?_ _ | refine blk_drew ?_ | refine blk_alloc ?_ _));exact BK121.out) hb);have n2_ := Aside0.mk (below_step (by repeat (first | (with_reducible first | exact HB.out | apply below_alloc | apply pw_below_drewN | apply below_drew1 | refine below_set ?_ GE120.out | refine below_set ?_ GE121.out) | exact HB.out)) hb);clear BK120;clear BK121;clear HB;have BK120 := n0_;have BK121 := n1_;have HB := n2_;clear n0_ n1_ n2_;(try clear hb);(try clear hb2);(try clear hk);(try clear hi);have hcz14_0 : w13.cell? ⟨gb120,0,none⟩ = some (.int .u32 a0_0) := (blk_cell BK120.out 0).trans rfl;have hcz14_1 : w13.cell? ⟨gb120,1,none⟩ = some (.slice A0_1 l0_1.length c0_1) := (blk_cell BK120.out 1).trans rfl;have hcz14_2 : w13.cell? ⟨gb120,2,none⟩ = some (.slice A0_2 l0_2.length c0_2) := (blk_cell BK120.out 2).trans rfl;have hcz14_3 : w13.cell? ⟨gb120,3,none⟩ = some (.int .u64 a0_3) := (blk_cell BK120.out 3).trans rfl;have hcz14_4 : w13.cell? ⟨gb120,4,none⟩ = some (.int .u64 a0_4) := (blk_cell BK120.out 4).trans rfl;have hcz14_5 : w13.cell? ⟨gb120,5,none⟩ = some (.slice A0_5 l0_5.length c0_5) := (blk_cell BK120.out 5).trans rfl;have hfz14_0 := blk_frozen BK120.out 0;have hfz14_1 := blk_frozen BK120.out 1;have hfz14_2 := blk_frozen BK120.out 2;have hfz14_3 := blk_frozen BK120.out 3;have hfz14_4 := blk_frozen BK120.out 4;have hfz14_5 := blk_frozen BK120.out 5;have hcz15_0 : w13.cell? ⟨gb121,0,none⟩ = some (.int .u32 a1_0) := (blk_cell BK121.out 0).trans rfl;have hcz15_1 : w13.cell? ⟨gb121,1,none⟩ = some (.slice A1_1 l1_1.length c1_1) := (blk_cell BK121.out 1).trans rfl;have hcz15_2 : w13.cell? ⟨gb121,2,none⟩ = some (.slice A1_2 l1_2.length c1_2) := (blk_cell BK121.out 2).trans rfl;have hcz15_3 : w13.cell? ⟨gb121,3,none⟩ = some (.int .u64 a1_3) := (blk_cell BK121.out 3).trans rfl;have hcz15_4 : w13.cell? ⟨gb121,4,none⟩ = some (.int .u64 a1_4) := (blk_cell BK121.out 4).trans rfl;have hcz15_5 : w13.cell? ⟨gb121,5,none⟩ = some (.slice A1_5 l1_5.length c1_5) := (blk_cell BK121.out 5).trans rfl;have hfz15_0 := blk_frozen BK121.out 0;have hfz15_1 := blk_frozen BK121.out 1;have hfz15_2 := blk_frozen BK121.out 2;have hfz15_3 := blk_frozen BK121.out 3;have hfz15_4 := blk_frozen BK121.out 4;have hfz15_5 := blk_frozen BK121.out 5));try go_wp2_with (first | (go_at_call 37;(with_reducible refine (lodestarref06_SameItem.calls k a0_0 _ _ l0_1 _ _ l0_2 a1_0 _ _ l1_1 _ _ l1_2 true _ ?side1 ?side2 ?side3 ?side4 ?side5 ?side6 ?side7 ?side8 A6.out).mono ?_);(case side1 => repeat (first | exact (Kd.C_below HR0_1.out HB.out) | (with_reducible refine Kd.C_alloc ?_ _) | (with_reducible refine Kd.C_drewN ?_ _) | (with_reducible refine Kd.C_drew ?_)));(case side2 => exact HC0_1.out);(case side3 => repeat (first | exact (Kd.C_below HR0_2.out HB.out) | (with_reducible refine Kd.C_alloc ?_ _) | (with_reducible refine Kd.C_drewN ?_ _) | (with_reducible refine Kd.C_drew ?_)));(case side4 => exact HC0_2.out);(case side5 => repeat (first | exact (Kd.C_below HR1_1.out HB.out) | (with_reducible refine Kd.C_alloc ?_ _) | (with_reducible refine Kd.C_drewN ?_ _) | (with_reducible refine Kd.C_drew ?_)));(case side6 => exact HC1_1.out);(case side7 => repeat (first | exact (Kd.C_below HR1_2.out HB.out) | (with_reducible refine Kd.C_alloc ?_ _) | (with_reducible refine Kd.C_drewN ?_ _) | (with_reducible refine Kd.C_drew ?_)));(case side8 => exact HC1_2.out);rintro e w13 ⟨rfl,hb⟩;have n0_ := Aside0.mk (blk_below (g := gb120) (o := .cells #[.int .u32 a0_0,.slice A0_1 l0_1.length c0_1,.slice A0_2 l0_2.length c0_2,.int .u64 a0_3,.int .u64 a0_4,.slice A0_5 l0_5.length c0_5] 37 (0,0)) (by (with_reducible repeat (first | refine blk_drewN ?_ _ | refine blk_drew ?_ | refine blk_alloc ?_ _));exact BK120.out) hb);have n1_ := Aside0.mk (blk_below (g := gb121) (o := .cells #[.int .u32 a1_0,.slice A1_1 l1_1.length c1_1,.slice A1_2 l1_2.length c1_2,.int .u64 a1_3,.int .u64 a1_4,.slice A1_5 l1_5.length c1_5] 37 (0,0)) (by (with_reducible repeat (first | refine blk_drewN ?_ _ | refine blk_drew ?_ | refine blk_alloc ?_ _));exact BK121.out) hb);have n2_ := Aside0.mk (below_step (by repeat (first | (with_reducible first | exact HB.out | apply below_alloc | apply pw_below_drewN | apply below_drew1 | refine below_set ?_ GE120.out | refine below_set ?_ GE121.out) | exact HB.out)) hb);clear BK120;clear BK121;clear HB;have BK120 := n0_;have BK121 := n1_;have HB := n2_;clear n0_ n1_ n2_;(try clear hb);(try clear hb2);(try clear hk);(try clear hi);have hcz14_0 : w13.cell? ⟨gb120,0,none⟩ = some (.int .u32 a0_0) := (blk_cell BK120.out 0).trans rfl;have hcz14_1 : w13.cell? ⟨gb120,1,none⟩ = some (.slice A0_1 l0_1.length c0_1) := (blk_cell BK120.out 1).trans rfl;have hcz14_2 : w13.cell? ⟨gb120,2,none⟩ = some (.slice A0_2 l0_2.length c0_2) := (blk_cell BK120.out 2).trans rfl;have hcz14_3 : w13.cell? ⟨gb120,3,none⟩ = some (.int .u64 a0_3) := (blk_cell BK120.out 3).trans rfl;have hcz14_4 : w13.cell? ⟨gb120,4,none⟩ = some (.int .u64 a0_4) := (blk_cell BK120.out 4).trans rfl;have hcz14_5 : w13.cell? ⟨gb120,5,none⟩ = some (.slice A0_5 l0_5.length c0_5) := (blk_cell BK120.out 5).trans rfl;have hfz14_0 := blk_frozen BK120.out 0;have hfz14_1 := blk_frozen BK120.out 1;have hfz14_2 := blk_frozen BK120.out 2;have hfz14_3 := blk_frozen BK120.out 3;have hfz14_4 := blk_frozen BK120.out 4;have hfz14_5 := blk_frozen BK120.out 5;have hcz15_0 : w13.cell? ⟨gb121,0,none⟩ = some (.int .u32 a1_0) := (blk_cell BK121.out 0).trans rfl;have hcz15_1 : w13.cell? ⟨gb121,1,none⟩ = some (.slice A1_1 l1_1.length c1_1) := (blk_cell BK121.out 1).trans rfl;have hcz15_2 : w13.cell? ⟨gb121,2,none⟩ = some (.slice A1_2 l1_2.length c1_2) := (blk_cell BK121.out 2).trans rfl;have hcz15_3 : w13.cell? ⟨gb121,3,none⟩ = some (.int .u64 a1_3) := (blk_cell BK121.out 3).trans rfl;have hcz15_4 : w13.cell? ⟨gb121,4,none⟩ = some (.int .u64 a1_4) := (blk_cell BK121.out 4).trans rfl;have hcz15_5 : w13.cell? ⟨gb121,5,none⟩ = some (.slice A1_5 l1_5.length c1_5) := (blk_cell BK121.out 5).trans rfl;have hfz15_0 := blk_frozen BK121.out 0;have hfz15_1 := blk_frozen BK121.out 1;have hfz15_2 := blk_frozen BK121.out 2;have hfz15_3 := blk_frozen BK121.out 3;have hfz15_4 := blk_frozen BK121.out 4;have hfz15_5 := blk_frozen BK121.out 5)))
     go_meet
     case rel => exact ⟨_,(((l0_5.length : Int) != (l1_5.length : Int))),(by first | rfl | (simp;done) | (simp [*];done)),H',⟨by first | omega | exact Nat.le_refl _⟩,⟨by (with_reducible repeat (first | refine blk_drewN ?_ _ | refine blk_drew ?_ | refine blk_alloc ?_ _));exact BK120.out⟩,⟨by (with_reducible repeat (first | refine blk_drewN ?_ _ | refine blk_drew ?_ | refine blk_alloc ?_ _));exact BK121.out⟩,⟨by repeat (first | (with_reducible first | exact HB.out | apply below_alloc | apply pw_below_drewN | apply below_drew1 | refine below_set ?_ GE120.out | refine below_set ?_ GE121.out) | exact HB.out)⟩⟩
    ·rw [if_neg c9] at H
     have c9b0 : (a0_4 == a1_4) = false := beq_eq_false_iff_ne.mpr c9
     have c9b1 : (a0_4 != a1_4) = true := bne_iff_ne.mpr c9
     have H' := Aside0.mk H
     clear H
     have hnb16 := NB120_121.out
     have hnc16 := NB121_120.out
     have hcz17_0 : w5.cell? ⟨gb120,0,none⟩ = some (.int .u32 a0_0) := (blk_cell BK120.out 0).trans rfl
     have hcz17_1 : w5.cell? ⟨gb120,1,none⟩ = some (.slice A0_1 l0_1.length c0_1) := (blk_cell BK120.out 1).trans rfl
     have hcz17_2 : w5.cell? ⟨gb120,2,none⟩ = some (.slice A0_2 l0_2.length c0_2) := (blk_cell BK120.out 2).trans rfl
     have hcz17_3 : w5.cell? ⟨gb120,3,none⟩ = some (.int .u64 a0_3) := (blk_cell BK120.out 3).trans rfl
     have hcz17_4 : w5.cell? ⟨gb120,4,none⟩ = some (.int .u64 a0_4) := (blk_cell BK120.out 4).trans rfl
     have hcz17_5 : w5.cell? ⟨gb120,5,none⟩ = some (.slice A0_5 l0_5.length c0_5) := (blk_cell BK120.out 5).trans rfl
     have hfz17_0 := blk_frozen BK120.out 0
     have hfz17_1 := blk_frozen BK120.out 1
     have hfz17_2 := blk_frozen BK120.out 2
     have hfz17_3 := blk_frozen BK120.out 3
     have hfz17_4 := blk_frozen BK120.out 4
     have hfz17_5 := blk_frozen BK120.out 5
     have hcz18_0 : w5.cell? ⟨gb121,0,none⟩ = some (.int .u32 a1_0) := (blk_cell BK121.out 0).trans rfl
     have hcz18_1 : w5.cell? ⟨gb121,1,none⟩ = some (.slice A1_1 l1_1.length c1_1) := (blk_cell BK121.out 1).trans rfl
     have hcz18_2 : w5.cell? ⟨gb121,2,none⟩ = some (.slice A1_2 l1_2.length c1_2) := (blk_cell BK121.out 2).trans rfl
     have hcz18_3 : w5.cell? ⟨gb121,3,none⟩ = some (.int .u64 a1_3) := (blk_cell BK121.out 3).trans rfl
     have hcz18_4 : w5.cell? ⟨gb121,4,none⟩ = some (.int .u64 a1_4) := (blk_cell BK121.out 4).trans rfl
     have hcz18_5 : w5.cell? ⟨gb121,5,none⟩ = some (.slice A1_5 l1_5.length c1_5) := (blk_cell BK121.out 5).trans rfl
     have hfz18_0 := blk_frozen BK121.out 0
     have hfz18_1 := blk_frozen BK121.out 1
     have hfz18_2 := blk_frozen BK121.out 2
     have hfz18_3 := blk_frozen BK121.out 3
     have hfz18_4 := blk_frozen BK121.out 4
     have hfz18_5 := blk_frozen BK121.out 5
     go_wp2_with (first | (go_at_call 37;(with_reducible refine (lodestarref06_SameItem.calls k a0_0 _ _ l0_1 _ _ l0_2 a1_0 _ _ l1_1 _ _ l1_2 true _ ?side1 ?side2 ?side3 ?side4 ?side5 ?side6 ?side7 ?side8 A6.out).mono ?_);(case side1 => repeat (first | exact (Kd.C_below HR0_1.out HB.out) | (with_reducible refine Kd.C_alloc ?_ _) | (with_reducible refine Kd.C_drewN ?_ _) | (with_reducible refine Kd.C_drew ?_)));(case side2 => exact HC0_1.out);(case side3 => repeat (first | exact (Kd.C_below HR0_2.out HB.out) | (with_reducible refine Kd.C_alloc ?_ _) | (with_reducible refine Kd.C_drewN ?_ _) | (with_reducible refine Kd.C_drew ?_)));(case side4 => exact HC0_2.out);(case side5 => repeat (first | exact (Kd.C_below HR1_1.out HB.out) | (with_reducible refine Kd.C_alloc ?_ _) | (with_reducible refine Kd.C_drewN ?_ _) | (with_reducible refine Kd.C_drew ?_)));(case side6 => exact HC1_1.out);(case side7 => repeat (first | exact (Kd.C_below HR1_2.out HB.out) | (with_reducible refine Kd.C_alloc ?_ _) | (with_reducible refine Kd.C_drewN ?_ _) | (with_reducible refine Kd.C_drew ?_)));(case side8 => exact HC1_2.out);rintro e w19 ⟨rfl,hb⟩;have n0_ := Aside0.mk (blk_below (g := gb120) (o := .cells #[.int .u32 a0_0,.slice A0_1 l0_1.length c0_1,.slice A0_2 l0_2.length c0_2,.int .u64 a0_3,.int .u64 a0_4,.slice A0_5 l0_5.length c0_5] 37 (0,0)) (by (with_reducible repeat (first | refine blk_drewN ?_ _ | refine blk_drew ?_ | refine blk_alloc ?_ _));exact BK120.out) hb);have n1_ := Aside0.mk (blk_below (g := gb121) (o := .cells #[.int .u32 a1_0,.slice A1_1 l1_1.length c1_1,.slice A1_2 l1_2.length c1_2,.int .u64 a1_3,.int .u64 a1_4,.slice A1_5 l1_5.length c1_5] 37 (0,0)) (by (with_reducible repeat (first | refine blk_drewN ?_ _ | refine blk_drew ?_ | refine blk_alloc ?_ _));exact BK121.out) hb);have n2_ := Aside0.mk (below_step (by repeat (first | (with_reducible first | exact HB.out | apply below_alloc | apply pw_below_drewN | apply below_drew1 | refine below_set ?_ GE120.out | refine below_set ?_ GE121.out) | exact HB.out)) hb);clear BK120;clear BK121;clear HB;have BK120 := n0_;have BK121 := n1_;have HB := n2_;clear n0_ n1_ n2_;(try clear hb);(try clear hb2);(try clear hk);(try clear hi);have hcz20_0 : w19.cell? ⟨gb120,0,none⟩ = some (.int .u32 a0_0) := (blk_cell BK120.out 0).trans rfl;have hcz20_1 : w19.cell? ⟨gb120,1,none⟩ = some (.slice A0_1 l0_1.length c0_1) := (blk_cell BK120.out 1).trans rfl;have hcz20_2 : w19.cell? ⟨gb120,2,none⟩ = some (.slice A0_2 l0_2.length c0_2) := (blk_cell BK120.out 2).trans rfl;have hcz20_3 : w19.cell? ⟨gb120,3,none⟩ = some (.int .u64 a0_3) := (blk_cell BK120.out 3).trans rfl;have hcz20_4 : w19.cell? ⟨gb120,4,none⟩ = some (.int .u64 a0_4) := (blk_cell BK120.out 4).trans rfl;have hcz20_5 : w19.cell? ⟨gb120,5,none⟩ = some (.slice A0_5 l0_5.length c0_5) := (blk_cell BK120.out 5).trans rfl;have hfz20_0 := blk_frozen BK120.out 0;have hfz20_1 := blk_frozen BK120.out 1;have hfz20_2 := blk_frozen BK120.out 2;have hfz20_3 := blk_frozen BK120.out 3;have hfz20_4 := blk_frozen BK120.out 4;have hfz20_5 := blk_frozen BK120.out 5;have hcz21_0 : w19.cell? ⟨gb121,0,none⟩ = some (.int .u32 a1_0) := (blk_cell BK121.out 0).trans rfl;have hcz21_1 : w19.cell? ⟨gb121,1,none⟩ = some (.slice A1_1 l1_1.length c1_1) := (blk_cell BK121.out 1).trans rfl;have hcz21_2 : w19.cell? ⟨gb121,2,none⟩ = some (.slice A1_2 l1_2.length c1_2) := (blk_cell BK121.out 2).trans rfl;have hcz21_3 : w19.cell? ⟨gb121,3,none⟩ = some (.int .u64 a1_3) := (blk_cell BK121.out 3).trans rfl;have hcz21_4 : w19.cell? ⟨gb121,4,none⟩ = some (.int .u64 a1_4) := (blk_cell BK121.out 4).trans rfl;have hcz21_5 : w19.cell? ⟨gb121,5,none⟩ = some (.slice A1_5 l1_5.length c1_5) := (blk_cell BK121.out 5).trans rfl;have hfz21_0 := blk_frozen BK121.out 0;have hfz21_1 := blk_frozen BK121.out 1;have hfz21_2 := blk_frozen BK121.out 2;have hfz21_3 := blk_frozen BK121.out 3;have hfz21_4 := blk_frozen BK121.out 4;have hfz21_5 := blk_frozen BK121.out 5))
     repeat (go_quiet (first | (go_at_call 37;(with_reducible refine (lodestarref06_SameItem.calls k a0_0 _ _ l0_1 _ _ l0_2 a1_0 _ _ l1_1 _ _ l1_2 true _ ?side1 ?side2 ?side3 ?side4 ?side5 ?side6 ?side7 ?side8 A6.out).mono ?_);(case side1 => repeat (first | exact (Kd.C_below HR0_1.out HB.out) | (with_reducible refine Kd.C_alloc ?_ _) | (with_reducible refine Kd.C_drewN ?_ _) | (with_reducible refine Kd.C_drew ?_)));(case side2 => exact HC0_1.out);(case side3 => repeat (first | exact (Kd.C_below HR0_2.out HB.out) | (with_reducible refine Kd.C_alloc ?_ _) | (with_reducible refine Kd.C_drewN ?_ _) | (with_reducible refine Kd.C_drew ?_)));(case side4 => exact HC0_2.out);(case side5 => repeat (first | exact (Kd.C_below HR1_1.out HB.out) | (with_reducible refine Kd.C_alloc ?_ _) | (with_reducible refine Kd.C_drewN ?_ _) | (with_reducible refine Kd.C_drew ?_)));(case side6 => exact HC1_1.out);(case side7 => repeat (first | exact (Kd.C_below HR1_2.out HB.out) | (with_reducible refine Kd.C_alloc ?_ _) | (with_reducible refine Kd.C_drewN ?_ _) | (with_reducible refine Kd.C_drew ?_)));(case side8 => exact HC1_2.out);rintro e w19 ⟨rfl,hb⟩;have n0_ := Aside0.mk (blk_below (g := gb120) (o := .cells #[.int .u32 a0_0,.slice A0_1 l0_1.length c0_1,.slice A0_2 l0_2.length c0_2,.int .u64 a0_3,.int .u64 a0_4,.slice A0_5 l0_5.length c0_5] 37 (0,0)) (by (with_reducible repeat (first | refine blk_drewN ?_ _ | refine blk_drew ?_ | refine blk_alloc ?_ _));exact BK120.out) hb);have n1_ := Aside0.mk (blk_below (g := gb121) (o := .cells #[.int .u32 a1_0,.slice A1_1 l1_1.length c1_1,.slice A1_2 l1_2.length c1_2,.int .u64 a1_3,.int .u64 a1_4,.slice A1_5 l1_5.length c1_5] 37 (0,0)) (by (with_reducible repeat (first | refine blk_drewN ?_ _ | refine blk_drew ?_ | refine blk_alloc ?_ _));exact BK121.out) hb);have n2_ := Aside0.mk (below_step (by repeat (first | (with_reducible first | exact HB.out | apply below_alloc | apply pw_below_drewN | apply below_drew1 | refine below_set ?_ GE120.out | refine below_set ?_ GE121.out) | exact HB.out)) hb);clear BK120;clear BK121;clear HB;have BK120 := n0_;have BK121 := n1_;have HB := n2_;clear n0_ n1_ n2_;(try clear hb);(try clear hb2);(try clear hk);(try clear hi);have hcz20_0 : w19.cell? ⟨gb120,0,none⟩ = some (.int .u32 a0_0) := (blk_cell BK120.out 0).trans rfl;have hcz20_1 : w19.cell? ⟨gb120,1,none⟩ = some (.slice A0_1 l0_1.length c0_1) := (blk_cell BK120.out 1).trans rfl;have hcz20_2 : w19.cell? ⟨gb120,2,none⟩ = some (.slice A0_2 l0_2.length c0_2) := (blk_cell BK120.out 2).trans rfl;have hcz20_3 : w19.cell? ⟨gb120,3,none⟩ = some (.int .u64 a0_3) := (blk_cell BK120.out 3).trans rfl;have hcz20_4 : w19.cell? ⟨gb120,4,none⟩ = some (.int .u64 a0_4) := (blk_cell BK120.out 4).trans rfl;have hcz20_5 : w19.cell? ⟨gb120,5,none⟩ = some (.slice A0_5 l0_5.length c0_5) := (blk_cell BK120.out 5).trans rfl;have hfz20_0 := blk_frozen BK120.out 0;have hfz20_1 := blk_frozen BK120.out 1;have hfz20_2 := blk_frozen BK120.out 2;have hfz20_3 := blk_frozen BK120.out 3;have hfz20_4 := blk_frozen BK120.out 4;have hfz20_5 := blk_frozen BK120.out 5;have hcz21_0 : w19.cell? ⟨gb121,0,none⟩ = some (.int .u32 a1_0) := (blk_cell BK121.out 0).trans rfl;have hcz21_1 : w19.cell? ⟨gb121,1,none⟩ = some (.slice A1_1 l1_1.length c1_1) := (blk_cell BK121.out 1).trans rfl;have hcz21_2 : w19.cell? ⟨gb121,2,none⟩ = some (.slice A1_2 l1_2.length c1_2) := (blk_cell BK121.out 2).trans rfl;have hcz21_3 : w19.cell? ⟨gb121,3,none⟩ = some (.int .u64 a1_3) := (blk_cell BK121.out 3).trans rfl;have hcz21_4 : w19.cell? ⟨gb121,4,none⟩ = some (.int .u64 a1_4) := (blk_cell BK121.out 4).trans rfl;have hcz21_5 : w19.cell? ⟨gb121,5,none⟩ = some (.slice A1_5 l1_5.length c1_5) := (blk_cell BK121.out 5).trans rfl;have hfz21_0 := blk_frozen BK121.out 0;have hfz21_1 := blk_frozen BK121.out 1;have hfz21_2 := blk_frozen BK121.out 2;have hfz21_3 := blk_frozen BK121.out 3;have hfz21_4 := blk_frozen BK121.out 4;have hfz21_5 := blk_frozen BK121.out 5));try go_wp2_with (first | (go_at_call 37;(with_reducible refine (lodestarref06_SameItem.calls k a0_0 _ _ l0_1 _ _ l0_2 a1_0 _ _ l1_1 _ _ l1_2 true _ ?side1 ?side2 ?side3 ?side4 ?side5 ?side6 ?side7 ?side8 A6.out).mono ?_);(case side1 => repeat (first | exact (Kd.C_below HR0_1.out HB.out) | (with_reducible refine Kd.C_alloc ?_ _) | (with_reducible refine Kd.C_drewN ?_ _) | (with_reducible refine Kd.C_drew ?_)));(case side2 => exact HC0_1.out);(case side3 => repeat (first | exact (Kd.C_below HR0_2.out HB.out) | (with_reducible refine Kd.C_alloc ?_ _) | (with_reducible refine Kd.C_drewN ?_ _) | (with_reducible refine Kd.C_drew ?_)));(case side4 => exact HC0_2.out);(case side5 => repeat (first | exact (Kd.C_below HR1_1.out HB.out) | (with_reducible refine Kd.C_alloc ?_ _) | (with_reducible refine Kd.C_drewN ?_ _) | (with_reducible refine Kd.C_drew ?_)));(case side6 => exact HC1_1.out);(case side7 => repeat (first | exact (Kd.C_below HR1_2.out HB.out) | (with_reducible refine Kd.C_alloc ?_ _) | (with_reducible refine Kd.C_drewN ?_ _) | (with_reducible refine Kd.C_drew ?_)));(case side8 => exact HC1_2.out);rintro e w19 ⟨rfl,hb⟩;have n0_ := Aside0.mk (blk_below (g := gb120) (o := .cells #[.int .u32 a0_0,.slice A0_1 l0_1.length c0_1,.slice A0_2 l0_2.length c0_2,.int .u64 a0_3,.int .u64 a0_4,.slice A0_5 l0_5.length c0_5] 37 (0,0)) (by (with_reducible repeat (first | refine blk_drewN ?_ _ | refine blk_drew ?_ | refine blk_alloc ?_ _));exact BK120.out) hb);have n1_ := Aside0.mk (blk_below (g := gb121) (o := .cells #[.int .u32 a1_0,.slice A1_1 l1_1.length c1_1,.slice A1_2 l1_2.length c1_2,.int .u64 a1_3,.int .u64 a1_4,.slice A1_5 l1_5.length c1_5] 37 (0,0)) (by (with_reducible repeat (first | refine blk_drewN ?_ _ | refine blk_drew ?_ | refine blk_alloc ?_ _));exact BK121.out) hb);have n2_ := Aside0.mk (below_step (by repeat (first | (with_reducible first | exact HB.out | apply below_alloc | apply pw_below_drewN | apply below_drew1 | refine below_set ?_ GE120.out | refine below_set ?_ GE121.out) | exact HB.out)) hb);clear BK120;clear BK121;clear HB;have BK120 := n0_;have BK121 := n1_;have HB := n2_;clear n0_ n1_ n2_;(try clear hb);(try clear hb2);(try clear hk);(try clear hi);have hcz20_0 : w19.cell? ⟨gb120,0,none⟩ = some (.int .u32 a0_0) := (blk_cell BK120.out 0).trans rfl;have hcz20_1 : w19.cell? ⟨gb120,1,none⟩ = some (.slice A0_1 l0_1.length c0_1) := (blk_cell BK120.out 1).trans rfl;have hcz20_2 : w19.cell? ⟨gb120,2,none⟩ = some (.slice A0_2 l0_2.length c0_2) := (blk_cell BK120.out 2).trans rfl;have hcz20_3 : w19.cell? ⟨gb120,3,none⟩ = some (.int .u64 a0_3) := (blk_cell BK120.out 3).trans rfl;have hcz20_4 : w19.cell? ⟨gb120,4,none⟩ = some (.int .u64 a0_4) := (blk_cell BK120.out 4).trans rfl;have hcz20_5 : w19.cell? ⟨gb120,5,none⟩ = some (.slice A0_5 l0_5.length c0_5) := (blk_cell BK120.out 5).trans rfl;have hfz20_0 := blk_frozen BK120.out 0;have hfz20_1 := blk_frozen BK120.out 1;have hfz20_2 := blk_frozen BK120.out 2;have hfz20_3 := blk_frozen BK120.out 3;have hfz20_4 := blk_frozen BK120.out 4;have hfz20_5 := blk_frozen BK120.out 5;have hcz21_0 : w19.cell? ⟨gb121,0,none⟩ = some (.int .u32 a1_0) := (blk_cell BK121.out 0).trans rfl;have hcz21_1 : w19.cell? ⟨gb121,1,none⟩ = some (.slice A1_1 l1_1.length c1_1) := (blk_cell BK121.out 1).trans rfl;have hcz21_2 : w19.cell? ⟨gb121,2,none⟩ = some (.slice A1_2 l1_2.length c1_2) := (blk_cell BK121.out 2).trans rfl;have hcz21_3 : w19.cell? ⟨gb121,3,none⟩ = some (.int .u64 a1_3) := (blk_cell BK121.out 3).trans rfl;have hcz21_4 : w19.cell? ⟨gb121,4,none⟩ = some (.int .u64 a1_4) := (blk_cell BK121.out 4).trans rfl;have hcz21_5 : w19.cell? ⟨gb121,5,none⟩ = some (.slice A1_5 l1_5.length c1_5) := (blk_cell BK121.out 5).trans rfl;have hfz21_0 := blk_frozen BK121.out 0;have hfz21_1 := blk_frozen BK121.out 1;have hfz21_2 := blk_frozen BK121.out 2;have hfz21_3 := blk_frozen BK121.out 3;have hfz21_4 := blk_frozen BK121.out 4;have hfz21_5 := blk_frozen BK121.out 5)))
     go_meet
     case rel => exact ⟨_,(true),(by first | rfl | (simp;done) | (simp [*];done)),H',⟨by first | omega | exact Nat.le_refl _⟩,⟨by (with_reducible repeat (first | refine blk_drewN ?_ _ | refine blk_drew ?_ | refine blk_alloc ?_ _));exact BK120.out⟩,⟨by (with_reducible repeat (first | refine blk_drewN ?_ _ | refine blk_drew ?_ | refine blk_alloc ?_ _));exact BK121.out⟩,⟨by repeat (first | (with_reducible first | exact HB.out | apply below_alloc | apply pw_below_drewN | apply below_drew1 | refine below_set ?_ GE120.out | refine below_set ?_ GE121.out) | exact HB.out)⟩⟩
   ·rw [if_neg c8] at H
    have c8b0 : (a0_3 == a1_3) = false := beq_eq_false_iff_ne.mpr c8
    have c8b1 : (a0_3 != a1_3) = true := bne_iff_ne.mpr c8
    (first | rw [c8b0] | (simp only [i64_w,i32_w];rw [c8b0]) | skip)
    have H' := Aside0.mk H
    clear H
    have hnb22 := NB120_121.out
    have hnc22 := NB121_120.out
    have hcz23_0 : w5.cell? ⟨gb120,0,none⟩ = some (.int .u32 a0_0) := (blk_cell BK120.out 0).trans rfl
    have hcz23_1 : w5.cell? ⟨gb120,1,none⟩ = some (.slice A0_1 l0_1.length c0_1) := (blk_cell BK120.out 1).trans rfl
    have hcz23_2 : w5.cell? ⟨gb120,2,none⟩ = some (.slice A0_2 l0_2.length c0_2) := (blk_cell BK120.out 2).trans rfl
    have hcz23_3 : w5.cell? ⟨gb120,3,none⟩ = some (.int .u64 a0_3) := (blk_cell BK120.out 3).trans rfl
    have hcz23_4 : w5.cell? ⟨gb120,4,none⟩ = some (.int .u64 a0_4) := (blk_cell BK120.out 4).trans rfl
    have hcz23_5 : w5.cell? ⟨gb120,5,none⟩ = some (.slice A0_5 l0_5.length c0_5) := (blk_cell BK120.out 5).trans rfl
    have hfz23_0 := blk_frozen BK120.out 0
    have hfz23_1 := blk_frozen BK120.out 1
    have hfz23_2 := blk_frozen BK120.out 2
    have hfz23_3 := blk_frozen BK120.out 3
    have hfz23_4 := blk_frozen BK120.out 4
    have hfz23_5 := blk_frozen BK120.out 5
    have hcz24_0 : w5.cell? ⟨gb121,0,none⟩ = some (.int .u32 a1_0) := (blk_cell BK121.out 0).trans rfl
    have hcz24_1 : w5.cell? ⟨gb121,1,none⟩ = some (.slice A1_1 l1_1.length c1_1) := (blk_cell BK121.out 1).trans rfl
    have hcz24_2 : w5.cell? ⟨gb121,2,none⟩ = some (.slice A1_2 l1_2.length c1_2) := (blk_cell BK121.out 2).trans rfl
    have hcz24_3 : w5.cell? ⟨gb121,3,none⟩ = some (.int .u64 a1_3) := (blk_cell BK121.out 3).trans rfl
    have hcz24_4 : w5.cell? ⟨gb121,4,none⟩ = some (.int .u64 a1_4) := (blk_cell BK121.out 4).trans rfl
    have hcz24_5 : w5.cell? ⟨gb121,5,none⟩ = some (.slice A1_5 l1_5.length c1_5) := (blk_cell BK121.out 5).trans rfl
    have hfz24_0 := blk_frozen BK121.out 0
    have hfz24_1 := blk_frozen BK121.out 1
    have hfz24_2 := blk_frozen BK121.out 2
    have hfz24_3 := blk_frozen BK121.out 3
    have hfz24_4 := blk_frozen BK121.out 4
    have hfz24_5 := blk_frozen BK121.out 5
    go_wp2_with (first | (go_at_call 37;(with_reducible refine (lodestarref06_SameItem.calls k a0_0 _ _ l0_1 _ _ l0_2 a1_0 _ _ l1_1 _ _ l1_2 true _ ?side1 ?side2 ?side3 ?side4 ?side5 ?side6 ?side7 ?side8 A6.out).mono ?_);(case side1 => repeat (first | exact (Kd.C_below HR0_1.out HB.out) | (with_reducible refine Kd.C_alloc ?_ _) | (with_reducible refine Kd.C_drewN ?_ _) | (with_reducible refine Kd.C_drew ?_)));(case side2 => exact HC0_1.out);(case side3 => repeat (first | exact (Kd.C_below HR0_2.out HB.out) | (with_reducible refine Kd.C_alloc ?_ _) | (with_reducible refine Kd.C_drewN ?_ _) | (with_reducible refine Kd.C_drew ?_)));(case side4 => exact HC0_2.out);(case side5 => repeat (first | exact (Kd.C_below HR1_1.out HB.out) | (with_reducible refine Kd.C_alloc ?_ _) | (with_reducible refine Kd.C_drewN ?_ _) | (with_reducible refine Kd.C_drew ?_)));(case side6 => exact HC1_1.out);(case side7 => repeat (first | exact (Kd.C_below HR1_2.out HB.out) | (with_reducible refine Kd.C_alloc ?_ _) | (with_reducible refine Kd.C_drewN ?_ _) | (with_reducible refine Kd.C_drew ?_)));(case side8 => exact HC1_2.out);rintro e w25 ⟨rfl,hb⟩;have n0_ := Aside0.mk (blk_below (g := gb120) (o := .cells #[.int .u32 a0_0,.slice A0_1 l0_1.length c0_1,.slice A0_2 l0_2.length c0_2,.int .u64 a0_3,.int .u64 a0_4,.slice A0_5 l0_5.length c0_5] 37 (0,0)) (by (with_reducible repeat (first | refine blk_drewN ?_ _ | refine blk_drew ?_ | refine blk_alloc ?_ _));exact BK120.out) hb);have n1_ := Aside0.mk (blk_below (g := gb121) (o := .cells #[.int .u32 a1_0,.slice A1_1 l1_1.length c1_1,.slice A1_2 l1_2.length c1_2,.int .u64 a1_3,.int .u64 a1_4,.slice A1_5 l1_5.length c1_5] 37 (0,0)) (by (with_reducible repeat (first | refine blk_drewN ?_ _ | refine blk_drew ?_ | refine blk_alloc ?_ _));exact BK121.out) hb);have n2_ := Aside0.mk (below_step (by repeat (first | (with_reducible first | exact HB.out | apply below_alloc | apply pw_below_drewN | apply below_drew1 | refine below_set ?_ GE120.out | refine below_set ?_ GE121.out) | exact HB.out)) hb);clear BK120;clear BK121;clear HB;have BK120 := n0_;have BK121 := n1_;have HB := n2_;clear n0_ n1_ n2_;(try clear hb);(try clear hb2);(try clear hk);(try clear hi);have hcz26_0 : w25.cell? ⟨gb120,0,none⟩ = some (.int .u32 a0_0) := (blk_cell BK120.out 0).trans rfl;have hcz26_1 : w25.cell? ⟨gb120,1,none⟩ = some (.slice A0_1 l0_1.length c0_1) := (blk_cell BK120.out 1).trans rfl;have hcz26_2 : w25.cell? ⟨gb120,2,none⟩ = some (.slice A0_2 l0_2.length c0_2) := (blk_cell BK120.out 2).trans rfl;have hcz26_3 : w25.cell? ⟨gb120,3,none⟩ = some (.int .u64 a0_3) := (blk_cell BK120.out 3).trans rfl;have hcz26_4 : w25.cell? ⟨gb120,4,none⟩ = some (.int .u64 a0_4) := (blk_cell BK120.out 4).trans rfl;have hcz26_5 : w25.cell? ⟨gb120,5,none⟩ = some (.slice A0_5 l0_5.length c0_5) := (blk_cell BK120.out 5).trans rfl;have hfz26_0 := blk_frozen BK120.out 0;have hfz26_1 := blk_frozen BK120.out 1;have hfz26_2 := blk_frozen BK120.out 2;have hfz26_3 := blk_frozen BK120.out 3;have hfz26_4 := blk_frozen BK120.out 4;have hfz26_5 := blk_frozen BK120.out 5;have hcz27_0 : w25.cell? ⟨gb121,0,none⟩ = some (.int .u32 a1_0) := (blk_cell BK121.out 0).trans rfl;have hcz27_1 : w25.cell? ⟨gb121,1,none⟩ = some (.slice A1_1 l1_1.length c1_1) := (blk_cell BK121.out 1).trans rfl;have hcz27_2 : w25.cell? ⟨gb121,2,none⟩ = some (.slice A1_2 l1_2.length c1_2) := (blk_cell BK121.out 2).trans rfl;have hcz27_3 : w25.cell? ⟨gb121,3,none⟩ = some (.int .u64 a1_3) := (blk_cell BK121.out 3).trans rfl;have hcz27_4 : w25.cell? ⟨gb121,4,none⟩ = some (.int .u64 a1_4) := (blk_cell BK121.out 4).trans rfl;have hcz27_5 : w25.cell? ⟨gb121,5,none⟩ = some (.slice A1_5 l1_5.length c1_5) := (blk_cell BK121.out 5).trans rfl;have hfz27_0 := blk_frozen BK121.out 0;have hfz27_1 := blk_frozen BK121.out 1;have hfz27_2 := blk_frozen BK121.out 2;have hfz27_3 := blk_frozen BK121.out 3;have hfz27_4 := blk_frozen BK121.out 4;have hfz27_5 := blk_frozen BK121.out 5))
    repeat (go_quiet (first | (go_at_call 37;(with_reducible refine (lodestarref06_SameItem.calls k a0_0 _ _ l0_1 _ _ l0_2 a1_0 _ _ l1_1 _ _ l1_2 true _ ?side1 ?side2 ?side3 ?side4 ?side5 ?side6 ?side7 ?side8 A6.out).mono ?_);(case side1 => repeat (first | exact (Kd.C_below HR0_1.out HB.out) | (with_reducible refine Kd.C_alloc ?_ _) | (with_reducible refine Kd.C_drewN ?_ _) | (with_reducible refine Kd.C_drew ?_)));(case side2 => exact HC0_1.out);(case side3 => repeat (first | exact (Kd.C_below HR0_2.out HB.out) | (with_reducible refine Kd.C_alloc ?_ _) | (with_reducible refine Kd.C_drewN ?_ _) | (with_reducible refine Kd.C_drew ?_)));(case side4 => exact HC0_2.out);(case side5 => repeat (first | exact (Kd.C_below HR1_1.out HB.out) | (with_reducible refine Kd.C_alloc ?_ _) | (with_reducible refine Kd.C_drewN ?_ _) | (with_reducible refine Kd.C_drew ?_)));(case side6 => exact HC1_1.out);(case side7 => repeat (first | exact (Kd.C_below HR1_2.out HB.out) | (with_reducible refine Kd.C_alloc ?_ _) | (with_reducible refine Kd.C_drewN ?_ _) | (with_reducible refine Kd.C_drew ?_)));(case side8 => exact HC1_2.out);rintro e w25 ⟨rfl,hb⟩;have n0_ := Aside0.mk (blk_below (g := gb120) (o := .cells #[.int .u32 a0_0,.slice A0_1 l0_1.length c0_1,.slice A0_2 l0_2.length c0_2,.int .u64 a0_3,.int .u64 a0_4,.slice A0_5 l0_5.length c0_5] 37 (0,0)) (by (with_reducible repeat (first | refine blk_drewN ?_ _ | refine blk_drew ?_ | refine blk_alloc ?_ _));exact BK120.out) hb);have n1_ := Aside0.mk (blk_below (g := gb121) (o := .cells #[.int .u32 a1_0,.slice A1_1 l1_1.length c1_1,.slice A1_2 l1_2.length c1_2,.int .u64 a1_3,.int .u64 a1_4,.slice A1_5 l1_5.length c1_5] 37 (0,0)) (by (with_reducible repeat (first | refine blk_drewN ?_ _ | refine blk_drew ?_ | refine blk_alloc ?_ _));exact BK121.out) hb);have n2_ := Aside0.mk (below_step (by repeat (first | (with_reducible first | exact HB.out | apply below_alloc | apply pw_below_drewN | apply below_drew1 | refine below_set ?_ GE120.out | refine below_set ?_ GE121.out) | exact HB.out)) hb);clear BK120;clear BK121;clear HB;have BK120 := n0_;have BK121 := n1_;have HB := n2_;clear n0_ n1_ n2_;(try clear hb);(try clear hb2);(try clear hk);(try clear hi);have hcz26_0 : w25.cell? ⟨gb120,0,none⟩ = some (.int .u32 a0_0) := (blk_cell BK120.out 0).trans rfl;have hcz26_1 : w25.cell? ⟨gb120,1,none⟩ = some (.slice A0_1 l0_1.length c0_1) := (blk_cell BK120.out 1).trans rfl;have hcz26_2 : w25.cell? ⟨gb120,2,none⟩ = some (.slice A0_2 l0_2.length c0_2) := (blk_cell BK120.out 2).trans rfl;have hcz26_3 : w25.cell? ⟨gb120,3,none⟩ = some (.int .u64 a0_3) := (blk_cell BK120.out 3).trans rfl;have hcz26_4 : w25.cell? ⟨gb120,4,none⟩ = some (.int .u64 a0_4) := (blk_cell BK120.out 4).trans rfl;have hcz26_5 : w25.cell? ⟨gb120,5,none⟩ = some (.slice A0_5 l0_5.length c0_5) := (blk_cell BK120.out 5).trans rfl;have hfz26_0 := blk_frozen BK120.out 0;have hfz26_1 := blk_frozen BK120.out 1;have hfz26_2 := blk_frozen BK120.out 2;have hfz26_3 := blk_frozen BK120.out 3;have hfz26_4 := blk_frozen BK120.out 4;have hfz26_5 := blk_frozen BK120.out 5;have hcz27_0 : w25.cell? ⟨gb121,0,none⟩ = some (.int .u32 a1_0) := (blk_cell BK121.out 0).trans rfl;have hcz27_1 : w25.cell? ⟨gb121,1,none⟩ = some (.slice A1_1 l1_1.length c1_1) := (blk_cell BK121.out 1).trans rfl;have hcz27_2 : w25.cell? ⟨gb121,2,none⟩ = some (.slice A1_2 l1_2.length c1_2) := (blk_cell BK121.out 2).trans rfl;have hcz27_3 : w25.cell? ⟨gb121,3,none⟩ = some (.int .u64 a1_3) := (blk_cell BK121.out 3).trans rfl;have hcz27_4 : w25.cell? ⟨gb121,4,none⟩ = some (.int .u64 a1_4) := (blk_cell BK121.out 4).trans rfl;have hcz27_5 : w25.cell? ⟨gb121,5,none⟩ = some (.slice A1_5 l1_5.length c1_5) := (blk_cell BK121.out 5).trans rfl;have hfz27_0 := blk_frozen BK121.out 0;have hfz27_1 := blk_frozen BK121.out 1;have hfz27_2 := blk_frozen BK121.out 2;have hfz27_3 := blk_frozen BK121.out 3;have hfz27_4 := blk_frozen BK121.out 4;have hfz27_5 := blk_frozen BK121.out 5));try go_wp2_with (first | (go_at_call 37;(with_reducible refine (lodestarref06_SameItem.calls k a0_0 _ _ l0_1 _ _ l0_2 a1_0 _ _ l1_1 _ _ l1_2 true _ ?side1 ?side2 ?side3 ?side4 ?side5 ?side6 ?side7 ?side8 A6.out).mono ?_);(case side1 => repeat (first | exact (Kd.C_below HR0_1.out HB.out) | (with_reducible refine Kd.C_alloc ?_ _) | (with_reducible refine Kd.C_drewN ?_ _) | (with_reducible refine Kd.C_drew ?_)));(case side2 => exact HC0_1.out);(case side3 => repeat (first | exact (Kd.C_below HR0_2.out HB.out) | (with_reducible refine Kd.C_alloc ?_ _) | (with_reducible refine Kd.C_drewN ?_ _) | (with_reducible refine Kd.C_drew ?_)));(case side4 => exact HC0_2.out);(case side5 => repeat (first | exact (Kd.C_below HR1_1.out HB.out) | (with_reducible refine Kd.C_alloc ?_ _) | (with_reducible refine Kd.C_drewN ?_ _) | (with_reducible refine Kd.C_drew ?_)));(case side6 => exact HC1_1.out);(case side7 => repeat (first | exact (Kd.C_below HR1_2.out HB.out) | (with_reducible refine Kd.C_alloc ?_ _) | (with_reducible refine Kd.C_drewN ?_ _) | (with_reducible refine Kd.C_drew ?_)));(case side8 => exact HC1_2.out);rintro e w25 ⟨rfl,hb⟩;have n0_ := Aside0.mk (blk_below (g := gb120) (o := .cells #[.int .u32 a0_0,.slice A0_1 l0_1.length c0_1,.slice A0_2 l0_2.length c0_2,.int .u64 a0_3,.int .u64 a0_4,.slice A0_5 l0_5.length c0_5] 37 (0,0)) (by (with_reducible repeat (first | refine blk_drewN ?_ _ | refine blk_drew ?_ | refine blk_alloc ?_ _));exact BK120.out) hb);have n1_ := Aside0.mk (blk_below (g := gb121) (o := .cells #[.int .u32 a1_0,.slice A1_1 l1_1.length c1_1,.slice A1_2 l1_2.length c1_2,.int .u64 a1_3,.int .u64 a1_4,.slice A1_5 l1_5.length c1_5] 37 (0,0)) (by (with_reducible repeat (first | refine blk_drewN ?_ _ | refine blk_drew ?_ | refine blk_alloc ?_ _));exact BK121.out) hb);have n2_ := Aside0.mk (below_step (by repeat (first | (with_reducible first | exact HB.out | apply below_alloc | apply pw_below_drewN | apply below_drew1 | refine below_set ?_ GE120.out | refine below_set ?_ GE121.out) | exact HB.out)) hb);clear BK120;clear BK121;clear HB;have BK120 := n0_;have BK121 := n1_;have HB := n2_;clear n0_ n1_ n2_;(try clear hb);(try clear hb2);(try clear hk);(try clear hi);have hcz26_0 : w25.cell? ⟨gb120,0,none⟩ = some (.int .u32 a0_0) := (blk_cell BK120.out 0).trans rfl;have hcz26_1 : w25.cell? ⟨gb120,1,none⟩ = some (.slice A0_1 l0_1.length c0_1) := (blk_cell BK120.out 1).trans rfl;have hcz26_2 : w25.cell? ⟨gb120,2,none⟩ = some (.slice A0_2 l0_2.length c0_2) := (blk_cell BK120.out 2).trans rfl;have hcz26_3 : w25.cell? ⟨gb120,3,none⟩ = some (.int .u64 a0_3) := (blk_cell BK120.out 3).trans rfl;have hcz26_4 : w25.cell? ⟨gb120,4,none⟩ = some (.int .u64 a0_4) := (blk_cell BK120.out 4).trans rfl;have hcz26_5 : w25.cell? ⟨gb120,5,none⟩ = some (.slice A0_5 l0_5.length c0_5) := (blk_cell BK120.out 5).trans rfl;have hfz26_0 := blk_frozen BK120.out 0;have hfz26_1 := blk_frozen BK120.out 1;have hfz26_2 := blk_frozen BK120.out 2;have hfz26_3 := blk_frozen BK120.out 3;have hfz26_4 := blk_frozen BK120.out 4;have hfz26_5 := blk_frozen BK120.out 5;have hcz27_0 : w25.cell? ⟨gb121,0,none⟩ = some (.int .u32 a1_0) := (blk_cell BK121.out 0).trans rfl;have hcz27_1 : w25.cell? ⟨gb121,1,none⟩ = some (.slice A1_1 l1_1.length c1_1) := (blk_cell BK121.out 1).trans rfl;have hcz27_2 : w25.cell? ⟨gb121,2,none⟩ = some (.slice A1_2 l1_2.length c1_2) := (blk_cell BK121.out 2).trans rfl;have hcz27_3 : w25.cell? ⟨gb121,3,none⟩ = some (.int .u64 a1_3) := (blk_cell BK121.out 3).trans rfl;have hcz27_4 : w25.cell? ⟨gb121,4,none⟩ = some (.int .u64 a1_4) := (blk_cell BK121.out 4).trans rfl;have hcz27_5 : w25.cell? ⟨gb121,5,none⟩ = some (.slice A1_5 l1_5.length c1_5) := (blk_cell BK121.out 5).trans rfl;have hfz27_0 := blk_frozen BK121.out 0;have hfz27_1 := blk_frozen BK121.out 1;have hfz27_2 := blk_frozen BK121.out 2;have hfz27_3 := blk_frozen BK121.out 3;have hfz27_4 := blk_frozen BK121.out 4;have hfz27_5 := blk_frozen BK121.out 5)))
    go_meet
    case rel => exact ⟨_,(true),(by first | rfl | (simp;done) | (simp [*];done)),H',⟨by first | omega | exact Nat.le_refl _⟩,⟨by (with_reducible repeat (first | refine blk_drewN ?_ _ | refine blk_drew ?_ | refine blk_alloc ?_ _));exact BK120.out⟩,⟨by (with_reducible repeat (first | refine blk_drewN ?_ _ | refine blk_drew ?_ | refine blk_alloc ?_ _));exact BK121.out⟩,⟨by repeat (first | (with_reducible first | exact HB.out | apply below_alloc | apply pw_below_drewN | apply below_drew1 | refine below_set ?_ GE120.out | refine below_set ?_ GE121.out) | exact HB.out)⟩⟩
  ·replace c7 := Bool.eq_false_iff.mpr c7
   subst c7
   have H1 : (lodestarref11_SameNode.j0 k true a0_0 l0_1 l0_2 a0_3 a0_4 l0_5 a1_0 l1_1 l1_2 a1_3 a1_4 l1_5) = some r := by rw [if_neg (show ¬ (false = true) by decide)] at H;exact H
   clear H
   have H := H1
   clear H1
   have H' := Aside0.mk H
   clear H
   have hnb28 := NB120_121.out
   have hnc28 := NB121_120.out
   have hcz29_0 : w5.cell? ⟨gb120,0,none⟩ = some (.int .u32 a0_0) := (blk_cell BK120.out 0).trans rfl
   have hcz29_1 : w5.cell? ⟨gb120,1,none⟩ = some (.slice A0_1 l0_1.length c0_1) := (blk_cell BK120.out 1).trans rfl
   have hcz29_2 : w5.cell? ⟨gb120,2,none⟩ = some (.slice A0_2 l0_2.length c0_2) := (blk_cell BK120.out 2).trans rfl
   have hcz29_3 : w5.cell? ⟨gb120,3,none⟩ = some (.int .u64 a0_3) := (blk_cell BK120.out 3).trans rfl
   have hcz29_4 : w5.cell? ⟨gb120,4,none⟩ = some (.int .u64 a0_4) := (blk_cell BK120.out 4).trans rfl
   have hcz29_5 : w5.cell? ⟨gb120,5,none⟩ = some (.slice A0_5 l0_5.length c0_5) := (blk_cell BK120.out 5).trans rfl
   have hfz29_0 := blk_frozen BK120.out 0
   have hfz29_1 := blk_frozen BK120.out 1
   have hfz29_2 := blk_frozen BK120.out 2
   have hfz29_3 := blk_frozen BK120.out 3
   have hfz29_4 := blk_frozen BK120.out 4
   have hfz29_5 := blk_frozen BK120.out 5
   have hcz30_0 : w5.cell? ⟨gb121,0,none⟩ = some (.int .u32 a1_0) := (blk_cell BK121.out 0).trans rfl
   have hcz30_1 : w5.cell? ⟨gb121,1,none⟩ = some (.slice A1_1 l1_1.length c1_1) := (blk_cell BK121.out 1).trans rfl
   have hcz30_2 : w5.cell? ⟨gb121,2,none⟩ = some (.slice A1_2 l1_2.length c1_2) := (blk_cell BK121.out 2).trans rfl
   have hcz30_3 : w5.cell? ⟨gb121,3,none⟩ = some (.int .u64 a1_3) := (blk_cell BK121.out 3).trans rfl
   have hcz30_4 : w5.cell? ⟨gb121,4,none⟩ = some (.int .u64 a1_4) := (blk_cell BK121.out 4).trans rfl
   have hcz30_5 : w5.cell? ⟨gb121,5,none⟩ = some (.slice A1_5 l1_5.length c1_5) := (blk_cell BK121.out 5).trans rfl
   have hfz30_0 := blk_frozen BK121.out 0
   have hfz30_1 := blk_frozen BK121.out 1
   have hfz30_2 := blk_frozen BK121.out 2
   have hfz30_3 := blk_frozen BK121.out 3
   have hfz30_4 := blk_frozen BK121.out 4
   have hfz30_5 := blk_frozen BK121.out 5
   go_wp2_with (first | (go_at_call 37;(with_reducible refine (lodestarref06_SameItem.calls k a0_0 _ _ l0_1 _ _ l0_2 a1_0 _ _ l1_1 _ _ l1_2 false _ ?side1 ?side2 ?side3 ?side4 ?side5 ?side6 ?side7 ?side8 A6.out).mono ?_);(case side1 => repeat (first | exact (Kd.C_below HR0_1.out HB.out) | (with_reducible refine Kd.C_alloc ?_ _) | (with_reducible refine Kd.C_drewN ?_ _) | (with_reducible refine Kd.C_drew ?_)));(case side2 => exact HC0_1.out);(case side3 => repeat (first | exact (Kd.C_below HR0_2.out HB.out) | (with_reducible refine Kd.C_alloc ?_ _) | (with_reducible refine Kd.C_drewN ?_ _) | (with_reducible refine Kd.C_drew ?_)));(case side4 => exact HC0_2.out);(case side5 => repeat (first | exact (Kd.C_below HR1_1.out HB.out) | (with_reducible refine Kd.C_alloc ?_ _) | (with_reducible refine Kd.C_drewN ?_ _) | (with_reducible refine Kd.C_drew ?_)));(case side6 => exact HC1_1.out);(case side7 => repeat (first | exact (Kd.C_below HR1_2.out HB.out) | (with_reducible refine Kd.C_alloc ?_ _) | (with_reducible refine Kd.C_drewN ?_ _) | (with_reducible refine Kd.C_drew ?_)));(case side8 => exact HC1_2.out);rintro e w31 ⟨rfl,hb⟩;have n0_ := Aside0.mk (blk_below (g := gb120) (o := .cells #[.int .u32 a0_0,.slice A0_1 l0_1.length c0_1,.slice A0_2 l0_2.length c0_2,.int .u64 a0_3,.int .u64 a0_4,.slice A0_5 l0_5.length c0_5] 37 (0,0)) (by (with_reducible repeat (first | refine blk_drewN ?_ _ | refine blk_drew ?_ | refine blk_alloc ?_ _));exact BK120.out) hb);have n1_ := Aside0.mk (blk_below (g := gb121) (o := .cells #[.int .u32 a1_0,.slice A1_1 l1_1.length c1_1,.slice A1_2 l1_2.length c1_2,.int .u64 a1_3,.int .u64 a1_4,.slice A1_5 l1_5.length c1_5] 37 (0,0)) (by (with_reducible repeat (first | refine blk_drewN ?_ _ | refine blk_drew ?_ | refine blk_alloc ?_ _));exact BK121.out) hb);have n2_ := Aside0.mk (below_step (by repeat (first | (with_reducible first | exact HB.out | apply below_alloc | apply pw_below_drewN | apply below_drew1 | refine below_set ?_ GE120.out | refine below_set ?_ GE121.out) | exact HB.out)) hb);clear BK120;clear BK121;clear HB;have BK120 := n0_;have BK121 := n1_;have HB := n2_;clear n0_ n1_ n2_;(try clear hb);(try clear hb2);(try clear hk);(try clear hi)))
   repeat (go_quiet (first | (go_at_call 37;(with_reducible refine (lodestarref06_SameItem.calls k a0_0 _ _ l0_1 _ _ l0_2 a1_0 _ _ l1_1 _ _ l1_2 false _ ?side1 ?side2 ?side3 ?side4 ?side5 ?side6 ?side7 ?side8 A6.out).mono ?_);(case side1 => repeat (first | exact (Kd.C_below HR0_1.out HB.out) | (with_reducible refine Kd.C_alloc ?_ _) | (with_reducible refine Kd.C_drewN ?_ _) | (with_reducible refine Kd.C_drew ?_)));(case side2 => exact HC0_1.out);(case side3 => repeat (first | exact (Kd.C_below HR0_2.out HB.out) | (with_reducible refine Kd.C_alloc ?_ _) | (with_reducible refine Kd.C_drewN ?_ _) | (with_reducible refine Kd.C_drew ?_)));(case side4 => exact HC0_2.out);(case side5 => repeat (first | exact (Kd.C_below HR1_1.out HB.out) | (with_reducible refine Kd.C_alloc ?_ _) | (with_reducible refine Kd.C_drewN ?_ _) | (with_reducible refine Kd.C_drew ?_)));(case side6 => exact HC1_1.out);(case side7 => repeat (first | exact (Kd.C_below HR1_2.out HB.out) | (with_reducible refine Kd.C_alloc ?_ _) | (with_reducible refine Kd.C_drewN ?_ _) | (with_reducible refine Kd.C_drew ?_)));(case side8 => exact HC1_2.out);rintro e w31 ⟨rfl,hb⟩;have n0_ := Aside0.mk (blk_below (g := gb120) (o := .cells #[.int .u32 a0_0,.slice A0_1 l0_1.length c0_1,.slice A0_2 l0_2.length c0_2,.int .u64 a0_3,.int .u64 a0_4,.slice A0_5 l0_5.length c0_5] 37 (0,0)) (by (with_reducible repeat (first | refine blk_drewN ?_ _ | refine blk_drew ?_ | refine blk_alloc ?_ _));exact BK120.out) hb);have n1_ := Aside0.mk (blk_below (g := gb121) (o := .cells #[.int .u32 a1_0,.slice A1_1 l1_1.length c1_1,.slice A1_2 l1_2.length c1_2,.int .u64 a1_3,.int .u64 a1_4,.slice A1_5 l1_5.length c1_5] 37 (0,0)) (by (with_reducible repeat (first | refine blk_drewN ?_ _ | refine blk_drew ?_ | refine blk_alloc ?_ _));exact BK121.out) hb);have n2_ := Aside0.mk (below_step (by repeat (first | (with_reducible first | exact HB.out | apply below_alloc | apply pw_below_drewN | apply below_drew1 | refine below_set ?_ GE120.out | refine below_set ?_ GE121.out) | exact HB.out)) hb);clear BK120;clear BK121;clear HB;have BK120 := n0_;have BK121 := n1_;have HB := n2_;clear n0_ n1_ n2_;(try clear hb);(try clear hb2);(try clear hk);(try clear hi)));try go_wp2_with (first | (go_at_call 37;(with_reducible refine (lodestarref06_SameItem.calls k a0_0 _ _ l0_1 _ _ l0_2 a1_0 _ _ l1_1 _ _ l1_2 false _ ?side1 ?side2 ?side3 ?side4 ?side5 ?side6 ?side7 ?side8 A6.out).mono ?_);(case side1 => repeat (first | exact (Kd.C_below HR0_1.out HB.out) | (with_reducible refine Kd.C_alloc ?_ _) | (with_reducible refine Kd.C_drewN ?_ _) | (with_reducible refine Kd.C_drew ?_)));(case side2 => exact HC0_1.out);(case side3 => repeat (first | exact (Kd.C_below HR0_2.out HB.out) | (with_reducible refine Kd.C_alloc ?_ _) | (with_reducible refine Kd.C_drewN ?_ _) | (with_reducible refine Kd.C_drew ?_)));(case side4 => exact HC0_2.out);(case side5 => repeat (first | exact (Kd.C_below HR1_1.out HB.out) | (with_reducible refine Kd.C_alloc ?_ _) | (with_reducible refine Kd.C_drewN ?_ _) | (with_reducible refine Kd.C_drew ?_)));(case side6 => exact HC1_1.out);(case side7 => repeat (first | exact (Kd.C_below HR1_2.out HB.out) | (with_reducible refine Kd.C_alloc ?_ _) | (with_reducible refine Kd.C_drewN ?_ _) | (with_reducible refine Kd.C_drew ?_)));(case side8 => exact HC1_2.out);rintro e w31 ⟨rfl,hb⟩;have n0_ := Aside0.mk (blk_below (g := gb120) (o := .cells #[.int .u32 a0_0,.slice A0_1 l0_1.length c0_1,.slice A0_2 l0_2.length c0_2,.int .u64 a0_3,.int .u64 a0_4,.slice A0_5 l0_5.length c0_5] 37 (0,0)) (by (with_reducible repeat (first | refine blk_drewN ?_ _ | refine blk_drew ?_ | refine blk_alloc ?_ _));exact BK120.out) hb);have n1_ := Aside0.mk (blk_below (g := gb121) (o := .cells #[.int .u32 a1_0,.slice A1_1 l1_1.length c1_1,.slice A1_2 l1_2.length c1_2,.int .u64 a1_3,.int .u64 a1_4,.slice A1_5 l1_5.length c1_5] 37 (0,0)) (by (with_reducible repeat (first | refine blk_drewN ?_ _ | refine blk_drew ?_ | refine blk_alloc ?_ _));exact BK121.out) hb);have n2_ := Aside0.mk (below_step (by repeat (first | (with_reducible first | exact HB.out | apply below_alloc | apply pw_below_drewN | apply below_drew1 | refine below_set ?_ GE120.out | refine below_set ?_ GE121.out) | exact HB.out)) hb);clear BK120;clear BK121;clear HB;have BK120 := n0_;have BK121 := n1_;have HB := n2_;clear n0_ n1_ n2_;(try clear hb);(try clear hb2);(try clear hk);(try clear hi))))
   go_meet
   case rel => exact ⟨_,(true),(by first | rfl | (simp;done) | (simp [*];done)),H',⟨by first | omega | exact Nat.le_refl _⟩,⟨by (with_reducible repeat (first | refine blk_drewN ?_ _ | refine blk_drew ?_ | refine blk_alloc ?_ _));exact BK120.out⟩,⟨by (with_reducible repeat (first | refine blk_drewN ?_ _ | refine blk_drew ?_ | refine blk_alloc ?_ _));exact BK121.out⟩,⟨by repeat (first | (with_reducible first | exact HB.out | apply below_alloc | apply pw_below_drewN | apply below_drew1 | refine below_set ?_ GE120.out | refine below_set ?_ GE121.out) | exact HB.out)⟩⟩
 case rest =>
  clear HC3
  try clear c1
  try clear c2
  try clear p2
  try clear c7
  try clear c8
  try clear c8b0
  try clear c8b1
  try clear c9
  try clear c9b0
  try clear c9b1
  try clear c10
  try clear c16
  try clear c22
  try clear c28
  try clear hcz11_0
  try clear hcz11_1
  try clear hcz11_2
  try clear hcz11_3
  try clear hcz11_4
  try clear hcz11_5
  try clear hcz12_0
  try clear hcz12_1
  try clear hcz12_2
  try clear hcz12_3
  try clear hcz12_4
  try clear hcz12_5
  try clear hcz14_0
  try clear hcz14_1
  try clear hcz14_2
  try clear hcz14_3
  try clear hcz14_4
  try clear hcz14_5
  try clear hcz15_0
  try clear hcz15_1
  try clear hcz15_2
  try clear hcz15_3
  try clear hcz15_4
  try clear hcz15_5
  try clear hcz17_0
  try clear hcz17_1
  try clear hcz17_2
  try clear hcz17_3
  try clear hcz17_4
  try clear hcz17_5
  try clear hcz18_0
  try clear hcz18_1
  try clear hcz18_2
  try clear hcz18_3
  try clear hcz18_4
  try clear hcz18_5
  try clear hcz20_0
  try clear hcz20_1
  try clear hcz20_2
  try clear hcz20_3
  try clear hcz20_4
  try clear hcz20_5
  try clear hcz21_0
  try clear hcz21_1
  try clear hcz21_2
  try clear hcz21_3
  try clear hcz21_4
  try clear hcz21_5
  try clear hcz23_0
  try clear hcz23_1
  try clear hcz23_2
  try clear hcz23_3
  try clear hcz23_4
  try clear hcz23_5
  try clear hcz24_0
  try clear hcz24_1
  try clear hcz24_2
  try clear hcz24_3
  try clear hcz24_4
  try clear hcz24_5
  try clear hcz26_0
  try clear hcz26_1
  try clear hcz26_2
  try clear hcz26_3
  try clear hcz26_4
  try clear hcz26_5
  try clear hcz27_0
  try clear hcz27_1
  try clear hcz27_2
  try clear hcz27_3
  try clear hcz27_4
  try clear hcz27_5
  try clear hcz29_0
  try clear hcz29_1
  try clear hcz29_2
  try clear hcz29_3
  try clear hcz29_4
  try clear hcz29_5
  try clear hcz30_0
  try clear hcz30_1
  try clear hcz30_2
  try clear hcz30_3
  try clear hcz30_4
  try clear hcz30_5
  try clear hfz11_0
  try clear hfz11_1
  try clear hfz11_2
  try clear hfz11_3
  try clear hfz11_4
  try clear hfz11_5
  try clear hfz12_0
  try clear hfz12_1
  try clear hfz12_2
  try clear hfz12_3
  try clear hfz12_4
  try clear hfz12_5
  try clear hfz14_0
  try clear hfz14_1
  try clear hfz14_2
  try clear hfz14_3
  try clear hfz14_4
  try clear hfz14_5
  try clear hfz15_0
  try clear hfz15_1
  try clear hfz15_2
  try clear hfz15_3
  try clear hfz15_4
  try clear hfz15_5
  try clear hfz17_0
  try clear hfz17_1
  try clear hfz17_2
  try clear hfz17_3
  try clear hfz17_4
  try clear hfz17_5
  try clear hfz18_0
  try clear hfz18_1
  try clear hfz18_2
  try clear hfz18_3
  try clear hfz18_4
  try clear hfz18_5
  try clear hfz20_0
  try clear hfz20_1
  try clear hfz20_2
  try clear hfz20_3
  try clear hfz20_4
  try clear hfz20_5
  try clear hfz21_0
  try clear hfz21_1
  try clear hfz21_2
  try clear hfz21_3
  try clear hfz21_4
  try clear hfz21_5
  try clear hfz23_0
  try clear hfz23_1
  try clear hfz23_2
  try clear hfz23_3
  try clear hfz23_4
  try clear hfz23_5
  try clear hfz24_0
  try clear hfz24_1
  try clear hfz24_2
  try clear hfz24_3
  try clear hfz24_4
  try clear hfz24_5
  try clear hfz26_0
  try clear hfz26_1
  try clear hfz26_2
  try clear hfz26_3
  try clear hfz26_4
  try clear hfz26_5
  try clear hfz27_0
  try clear hfz27_1
  try clear hfz27_2
  try clear hfz27_3
  try clear hfz27_4
  try clear hfz27_5
  try clear hfz29_0
  try clear hfz29_1
  try clear hfz29_2
  try clear hfz29_3
  try clear hfz29_4
  try clear hfz29_5
  try clear hfz30_0
  try clear hfz30_1
  try clear hfz30_2
  try clear hfz30_3
  try clear hfz30_4
  try clear hfz30_5
  obtain ⟨kq,x34_2,rfl,HA,HJ2,BK120,BK121,HB⟩ := hcut
  cases kq with
  | zero => exact absurd HA.out (by simp [lodestarref11_SameNode.j0])
  | succ kj2 =>
   have H := HA.out
   clear HA
   simp only [lodestarref11_SameNode.j0] at H
   by_cases c32 : x34_2 = true
   ·subst c32
    have H1 : (some false) = some r := by rw [if_pos rfl] at H;exact H
    clear H
    have H := H1
    clear H1
    obtain rfl := Option.some.inj H
    go_wp2
    repeat (go_quiet (fail);try go_wp2)
    go_ret
    exact ⟨by first | rfl | (simp [errW_none,errW_some] <;> rfl) | (simp [*,errW_none,errW_some] <;> rfl),by repeat (first | (with_reducible first | exact HB.out | apply below_alloc | apply pw_below_drewN | apply below_drew1 | refine below_set ?_ GE120.out | refine below_set ?_ GE121.out) | exact HB.out)⟩
   ·replace c32 := Bool.eq_false_iff.mpr c32
    subst c32
    have H1 : (lodestarref11_SameNode.l0 kj2 0 a0_0 l0_1 l0_2 a0_3 a0_4 l0_5 a1_0 l1_1 l1_2 a1_3 a1_4 l1_5) = some r := by rw [if_neg (show ¬ (false = true) by decide)] at H;exact H
    clear H
    have H := H1
    clear H1
    have H' := Aside0.mk H
    clear H
    go_wp2
    repeat (go_quiet (fail);try go_wp2)
    go_loopg [5] kj2 (fun kq v5 w' => ∃ (x5_2 : Int),v5 = .int .i64 x5_2 ∧ Aside0 (lodestarref11_SameNode.l0 kq x5_2 a0_0 l0_1 l0_2 a0_3 a0_4 l0_5 a1_0 l1_1 l1_2 a1_3 a1_4 l1_5 = some r) ∧ Aside0 (kq ≤ kj2) ∧ Aside0 (w'.heap[gb120]? = some (.cells #[.int .u32 a0_0,(.slice A0_1 l0_1.length c0_1),(.slice A0_2 l0_2.length c0_2),.int .u64 a0_3,.int .u64 a0_4,(.slice A0_5 l0_5.length c0_5)] 37 (0,0))) ∧ Aside0 (w'.heap[gb121]? = some (.cells #[.int .u32 a1_0,(.slice A1_1 l1_1.length c1_1),(.slice A1_2 l1_2.length c1_2),.int .u64 a1_3,.int .u64 a1_4,(.slice A1_5 l1_5.length c1_5)] 37 (0,0))) ∧ Aside0 (Below w.heap.size w w'))
    case atStart => exact ⟨(0),(by first | rfl | (simp;done) | (simp [*];done)),H',⟨Nat.le_refl _⟩,⟨by (with_reducible repeat (first | refine blk_drewN ?_ _ | refine blk_drew ?_ | refine blk_alloc ?_ _));exact BK120.out⟩,⟨by (with_reducible repeat (first | refine blk_drewN ?_ _ | refine blk_drew ?_ | refine blk_alloc ?_ _));exact BK121.out⟩,⟨by repeat (first | (with_reducible first | exact HB.out | apply below_alloc | apply pw_below_drewN | apply below_drew1 | refine below_set ?_ GE120.out | refine below_set ?_ GE121.out) | exact HB.out)⟩⟩
    case round =>
     clear H'
     try clear c1
     try clear c2
     try clear p2
     try clear c3
     try clear c7
     try clear c8
     try clear c8b0
     try clear c8b1
     try clear c9
     try clear c9b0
     try clear c9b1
     try clear c10
     try clear c16
     try clear c22
     try clear c28
     try clear c32
     try clear hcz11_0
     try clear hcz11_1
     try clear hcz11_2
     try clear hcz11_3
     try clear hcz11_4
     try clear hcz11_5
     try clear hcz12_0
     try clear hcz12_1
     try clear hcz12_2
     try clear hcz12_3
     try clear hcz12_4
     try clear hcz12_5
     try clear hcz14_0
     try clear hcz14_1
     try clear hcz14_2
     try clear hcz14_3
     try clear hcz14_4
     try clear hcz14_5
     try clear hcz15_0
     try clear hcz15_1
     try clear hcz15_2
     try clear hcz15_3
     try clear hcz15_4
     try clear hcz15_5
     try clear hcz17_0
     try clear hcz17_1
     try clear hcz17_2
     try clear hcz17_3
     try clear hcz17_4
     try clear hcz17_5
     try clear hcz18_0
     try clear hcz18_1
     try clear hcz18_2
     try clear hcz18_3
     try clear hcz18_4
     try clear hcz18_5
     try clear hcz20_0
     try clear hcz20_1
     try clear hcz20_2
     try clear hcz20_3
     try clear hcz20_4
     try clear hcz20_5
     try clear hcz21_0
     try clear hcz21_1
     try clear hcz21_2
     try clear hcz21_3
     try clear hcz21_4
     try clear hcz21_5
     try clear hcz23_0
     try clear hcz23_1
     try clear hcz23_2
     try clear hcz23_3
     try clear hcz23_4
     try clear hcz23_5
     try clear hcz24_0
     try clear hcz24_1
     try clear hcz24_2
     try clear hcz24_3
     try clear hcz24_4
     try clear hcz24_5
     try clear hcz26_0
     try clear hcz26_1
     try clear hcz26_2
     try clear hcz26_3
     try clear hcz26_4
     try clear hcz26_5
     try clear hcz27_0
     try clear hcz27_1
     try clear hcz27_2
     try clear hcz27_3
     try clear hcz27_4
     try clear hcz27_5
     try clear hcz29_0
     try clear hcz29_1
     try clear hcz29_2
     try clear hcz29_3
     try clear hcz29_4
     try clear hcz29_5
     try clear hcz30_0
     try clear hcz30_1
     try clear hcz30_2
     try clear hcz30_3
     try clear hcz30_4
     try clear hcz30_5
     try clear hfz11_0
     try clear hfz11_1
     try clear hfz11_2
     try clear hfz11_3
     try clear hfz11_4
     try clear hfz11_5
     try clear hfz12_0
     try clear hfz12_1
     try clear hfz12_2
     try clear hfz12_3
     try clear hfz12_4
     try clear hfz12_5
     try clear hfz14_0
     try clear hfz14_1
     try clear hfz14_2
     try clear hfz14_3
     try clear hfz14_4
     try clear hfz14_5
     try clear hfz15_0
     try clear hfz15_1
     try clear hfz15_2
     try clear hfz15_3
     try clear hfz15_4
     try clear hfz15_5
     try clear hfz17_0
     try clear hfz17_1
     try clear hfz17_2
     try clear hfz17_3
     try clear hfz17_4
     try clear hfz17_5
     try clear hfz18_0
     try clear hfz18_1
     try clear hfz18_2
     try clear hfz18_3
     try clear hfz18_4
     try clear hfz18_5
     try clear hfz20_0
     try clear hfz20_1
     try clear hfz20_2
     try clear hfz20_3
     try clear hfz20_4
     try clear hfz20_5
     try clear hfz21_0
     try clear hfz21_1
     try clear hfz21_2
     try clear hfz21_3
     try clear hfz21_4
     try clear hfz21_5
     try clear hfz23_0
     try clear hfz23_1
     try clear hfz23_2
     try clear hfz23_3
     try clear hfz23_4
     try clear hfz23_5
     try clear hfz24_0
     try clear hfz24_1
     try clear hfz24_2
     try clear hfz24_3
     try clear hfz24_4
     try clear hfz24_5
     try clear hfz26_0
     try clear hfz26_1
     try clear hfz26_2
     try clear hfz26_3
     try clear hfz26_4
     try clear hfz26_5
     try clear hfz27_0
     try clear hfz27_1
     try clear hfz27_2
     try clear hfz27_3
     try clear hfz27_4
     try clear hfz27_5
     try clear hfz29_0
     try clear hfz29_1
     try clear hfz29_2
     try clear hfz29_3
     try clear hfz29_4
     try clear hfz29_5
     try clear hfz30_0
     try clear hfz30_1
     try clear hfz30_2
     try clear hfz30_3
     try clear hfz30_4
     try clear hfz30_5
     try clear p2
     obtain ⟨x5_2,rfl,HA,HK2,BK120,BK121,HB⟩ := hrel
     cases gk with
     | zero => exact absurd HA.out (by simp [lodestarref11_SameNode.l0])
     | succ k2 =>
      have H := HA.out
      clear HA
      simp only [lodestarref11_SameNode.l0] at H
      by_cases c33 : x5_2 < (l0_5.length : Int)
      ·rw [if_pos c33] at H
       have c33b0 : decide (x5_2 < (l0_5.length : Int)) = true := decide_eq_true c33
       clear c33
       by_cases c34 : 0 ≤ x5_2
       ·rw [if_pos c34] at H
        have c34b0 : decide (0 ≤ x5_2) = true := decide_eq_true c34
        clear c34
        by_cases c35 : x5_2 < (l1_5.length : Int)
        ·rw [if_pos c35] at H
         have c35b0 : decide (x5_2 < (l1_5.length : Int)) = true := decide_eq_true c35
         clear c35
         replace H := Option.bind_eq_some_iff.mp H
         obtain ⟨t125,A360,H⟩ := H
         replace H : (if t125 = true then (lodestarref11_SameNode.l0 k2 (wrap64 (x5_2 + 1)) a0_0 l0_1 l0_2 a0_3 a0_4 l0_5 a1_0 l1_1 l1_2 a1_3 a1_4 l1_5) else (some false)) = some r := H
         have A36 := Aside0.mk A360
         clear A360
         by_cases c37 : t125 = true
         ·subst c37
          have H1 : (lodestarref11_SameNode.l0 k2 (wrap64 (x5_2 + 1)) a0_0 l0_1 l0_2 a0_3 a0_4 l0_5 a1_0 l1_1 l1_2 a1_3 a1_4 l1_5) = some r := by rw [if_pos rfl] at H;exact H
          clear H
          have H := H1
          clear H1
          have H' := Aside0.mk H
          clear H
          have hnb38 := NB120_121.out
          have hnc38 := NB121_120.out
          have hcz39_0 : wr.cell? ⟨gb120,0,none⟩ = some (.int .u32 a0_0) := (blk_cell BK120.out 0).trans rfl
          have hcz39_1 : wr.cell? ⟨gb120,1,none⟩ = some (.slice A0_1 l0_1.length c0_1) := (blk_cell BK120.out 1).trans rfl
          have hcz39_2 : wr.cell? ⟨gb120,2,none⟩ = some (.slice A0_2 l0_2.length c0_2) := (blk_cell BK120.out 2).trans rfl
          have hcz39_3 : wr.cell? ⟨gb120,3,none⟩ = some (.int .u64 a0_3) := (blk_cell BK120.out 3).trans rfl
          have hcz39_4 : wr.cell? ⟨gb120,4,none⟩ = some (.int .u64 a0_4) := (blk_cell BK120.out 4).trans rfl
          have hcz39_5 : wr.cell? ⟨gb120,5,none⟩ = some (.slice A0_5 l0_5.length c0_5) := (blk_cell BK120.out 5).trans rfl
          have hfz39_0 := blk_frozen BK120.out 0
          have hfz39_1 := blk_frozen BK120.out 1
          have hfz39_2 := blk_frozen BK120.out 2
          have hfz39_3 := blk_frozen BK120.out 3
          have hfz39_4 := blk_frozen BK120.out 4
          have hfz39_5 := blk_frozen BK120.out 5
          have p123 : 0 ≤ (x5_2 : Int) := of_decide_eq_true (by first | (with_reducible assumption) | assumption)
          have q123 : x5_2 < (l0_5.length : Int) := of_decide_eq_true (by first | (with_reducible assumption) | assumption)
          obtain ⟨ad123,A123_0,c123_0,e123,hx123_0,hl123_0,hi123_0⟩ := at_L9 HR0_5.out x5_2 p123 q123
          cases e123
          replace hx123_0 := (HB.out.cell (World.block_lt_of_cell? w _ hx123_0)).trans hx123_0
          have HR123_0 := Aside0.mk hi123_0
          have HC123_0 := Aside0.mk hl123_0
          clear hi123_0 hl123_0
          replace p123 := eq_true p123
          replace q123 := eq_true q123
          have hcz40_0 : wr.cell? ⟨gb121,0,none⟩ = some (.int .u32 a1_0) := (blk_cell BK121.out 0).trans rfl
          have hcz40_1 : wr.cell? ⟨gb121,1,none⟩ = some (.slice A1_1 l1_1.length c1_1) := (blk_cell BK121.out 1).trans rfl
          have hcz40_2 : wr.cell? ⟨gb121,2,none⟩ = some (.slice A1_2 l1_2.length c1_2) := (blk_cell BK121.out 2).trans rfl
          have hcz40_3 : wr.cell? ⟨gb121,3,none⟩ = some (.int .u64 a1_3) := (blk_cell BK121.out 3).trans rfl
          have hcz40_4 : wr.cell? ⟨gb121,4,none⟩ = some (.int .u64 a1_4) := (blk_cell BK121.out 4).trans rfl
          have hcz40_5 : wr.cell? ⟨gb121,5,none⟩ = some (.slice A1_5 l1_5.length c1_5) := (blk_cell BK121.out 5).trans rfl
          have hfz40_0 := blk_frozen BK121.out 0
          have hfz40_1 := blk_frozen BK121.out 1
          have hfz40_2 := blk_frozen BK121.out 2
          have hfz40_3 := blk_frozen BK121.out 3
          have hfz40_4 := blk_frozen BK121.out 4
          have hfz40_5 := blk_frozen BK121.out 5
          have p124 : 0 ≤ (x5_2 : Int) := of_decide_eq_true (by first | (with_reducible assumption) | assumption)
          have q124 : x5_2 < (l1_5.length : Int) := of_decide_eq_true (by first | (with_reducible assumption) | assumption)
          obtain ⟨ad124,A124_0,c124_0,e124,hx124_0,hl124_0,hi124_0⟩ := at_L9 HR1_5.out x5_2 p124 q124
          cases e124
          replace hx124_0 := (HB.out.cell (World.block_lt_of_cell? w _ hx124_0)).trans hx124_0
          have HR124_0 := Aside0.mk hi124_0
          have HC124_0 := Aside0.mk hl124_0
          clear hi124_0 hl124_0
          replace p124 := eq_true p124
          replace q124 := eq_true q124
          go_wp2_with (first | (go_at_call 31;(with_reducible refine (lodestarref11_Ints.calls k2 _ _ (rd_L9 l0_5 x5_2) _ _ (rd_L9 l1_5 x5_2) true _ ?side1 ?side2 ?side3 ?side4 A36.out).mono ?_);(case side1 => repeat (first | exact (Kd.C_below HR123_0.out HB.out) | (with_reducible refine Kd.C_alloc ?_ _) | (with_reducible refine Kd.C_drewN ?_ _) | (with_reducible refine Kd.C_drew ?_)));(case side2 => exact HC123_0.out);(case side3 => repeat (first | exact (Kd.C_below HR124_0.out HB.out) | (with_reducible refine Kd.C_alloc ?_ _) | (with_reducible refine Kd.C_drewN ?_ _) | (with_reducible refine Kd.C_drew ?_)));(case side4 => exact HC124_0.out);rintro e w' ⟨rfl,⟨nd,rfl⟩⟩;(try first | exact ⟨rfl,_,World.drewN_drewN _ _ _⟩ | exact ⟨rfl,_,Eq.trans (World.drewN_drewN _ _ _) (congrArg (World.drewN _) (Nat.add_assoc _ _ _))⟩)))
          repeat (go_quiet (first | (go_at_call 31;(with_reducible refine (lodestarref11_Ints.calls k2 _ _ (rd_L9 l0_5 x5_2) _ _ (rd_L9 l1_5 x5_2) true _ ?side1 ?side2 ?side3 ?side4 A36.out).mono ?_);(case side1 => repeat (first | exact (Kd.C_below HR123_0.out HB.out) | (with_reducible refine Kd.C_alloc ?_ _) | (with_reducible refine Kd.C_drewN ?_ _) | (with_reducible refine Kd.C_drew ?_)));(case side2 => exact HC123_0.out);(case side3 => repeat (first | exact (Kd.C_below HR124_0.out HB.out) | (with_reducible refine Kd.C_alloc ?_ _) | (with_reducible refine Kd.C_drewN ?_ _) | (with_reducible refine Kd.C_drew ?_)));(case side4 => exact HC124_0.out);rintro e w' ⟨rfl,⟨nd,rfl⟩⟩;(try first | exact ⟨rfl,_,World.drewN_drewN _ _ _⟩ | exact ⟨rfl,_,Eq.trans (World.drewN_drewN _ _ _) (congrArg (World.drewN _) (Nat.add_assoc _ _ _))⟩)));try go_wp2_with (first | (go_at_call 31;(with_reducible refine (lodestarref11_Ints.calls k2 _ _ (rd_L9 l0_5 x5_2) _ _ (rd_L9 l1_5 x5_2) true _ ?side1 ?side2 ?side3 ?side4 A36.out).mono ?_);(case side1 => repeat (first | exact (Kd.C_below HR123_0.out HB.out) | (with_reducible refine Kd.C_alloc ?_ _) | (with_reducible refine Kd.C_drewN ?_ _) | (with_reducible refine Kd.C_drew ?_)));(case side2 => exact HC123_0.out);(case side3 => repeat (first | exact (Kd.C_below HR124_0.out HB.out) | (with_reducible refine Kd.C_alloc ?_ _) | (with_reducible refine Kd.C_drewN ?_ _) | (with_reducible refine Kd.C_drew ?_)));(case side4 => exact HC124_0.out);rintro e w' ⟨rfl,⟨nd,rfl⟩⟩;(try first | exact ⟨rfl,_,World.drewN_drewN _ _ _⟩ | exact ⟨rfl,_,Eq.trans (World.drewN_drewN _ _ _) (congrArg (World.drewN _) (Nat.add_assoc _ _ _))⟩))))
          go_roundg k2
          case measure => have := HJ2.out;have := HK2.out;omega
          case rel => exact ⟨(wrap64 (x5_2 + 1)),(by first | rfl | (simp;done) | (simp [*];done)),H',⟨by have := HJ2.out;have := HK2.out;omega⟩,⟨by (with_reducible repeat (first | refine blk_drewN ?_ _ | refine blk_drew ?_ | refine blk_alloc ?_ _));exact BK120.out⟩,⟨by (with_reducible repeat (first | refine blk_drewN ?_ _ | refine blk_drew ?_ | refine blk_alloc ?_ _));exact BK121.out⟩,⟨by repeat (first | (with_reducible first | exact HB.out | apply below_alloc | apply pw_below_drewN | apply below_drew1 | refine below_set ?_ GE120.out | refine below_set ?_ GE121.out) | exact HB.out)⟩⟩
         ·replace c37 := Bool.eq_false_iff.mpr c37
          subst c37
          have H1 : (some false) = some r := by rw [if_neg (show ¬ (false = true) by decide)] at H;exact H
          clear H
          have H := H1
          clear H1
          obtain rfl := Option.some.inj H
          have hnb41 := NB120_121.out
          have hnc41 := NB121_120.out
          have hcz42_0 : wr.cell? ⟨gb120,0,none⟩ = some (.int .u32 a0_0) := (blk_cell BK120.out 0).trans rfl
          have hcz42_1 : wr.cell? ⟨gb120,1,none⟩ = some (.slice A0_1 l0_1.length c0_1) := (blk_cell BK120.out 1).trans rfl
          have hcz42_2 : wr.cell? ⟨gb120,2,none⟩ = some (.slice A0_2 l0_2.length c0_2) := (blk_cell BK120.out 2).trans rfl
          have hcz42_3 : wr.cell? ⟨gb120,3,none⟩ = some (.int .u64 a0_3) := (blk_cell BK120.out 3).trans rfl
          have hcz42_4 : wr.cell? ⟨gb120,4,none⟩ = some (.int .u64 a0_4) := (blk_cell BK120.out 4).trans rfl
          have hcz42_5 : wr.cell? ⟨gb120,5,none⟩ = some (.slice A0_5 l0_5.length c0_5) := (blk_cell BK120.out 5).trans rfl
          have hfz42_0 := blk_frozen BK120.out 0
          have hfz42_1 := blk_frozen BK120.out 1
          have hfz42_2 := blk_frozen BK120.out 2
          have hfz42_3 := blk_frozen BK120.out 3
          have hfz42_4 := blk_frozen BK120.out 4
          have hfz42_5 := blk_frozen BK120.out 5
          have p123 : 0 ≤ (x5_2 : Int) := of_decide_eq_true (by first | (with_reducible assumption) | assumption)
          have q123 : x5_2 < (l0_5.length : Int) := of_decide_eq_true (by first | (with_reducible assumption) | assumption)
          obtain ⟨ad123,A123_0,c123_0,e123,hx123_0,hl123_0,hi123_0⟩ := at_L9 HR0_5.out x5_2 p123 q123
          cases e123
          replace hx123_0 := (HB.out.cell (World.block_lt_of_cell? w _ hx123_0)).trans hx123_0
          have HR123_0 := Aside0.mk hi123_0
          have HC123_0 := Aside0.mk hl123_0
          clear hi123_0 hl123_0
          replace p123 := eq_true p123
          replace q123 := eq_true q123
          have hcz43_0 : wr.cell? ⟨gb121,0,none⟩ = some (.int .u32 a1_0) := (blk_cell BK121.out 0).trans rfl
          have hcz43_1 : wr.cell? ⟨gb121,1,none⟩ = some (.slice A1_1 l1_1.length c1_1) := (blk_cell BK121.out 1).trans rfl
          have hcz43_2 : wr.cell? ⟨gb121,2,none⟩ = some (.slice A1_2 l1_2.length c1_2) := (blk_cell BK121.out 2).trans rfl
          have hcz43_3 : wr.cell? ⟨gb121,3,none⟩ = some (.int .u64 a1_3) := (blk_cell BK121.out 3).trans rfl
          have hcz43_4 : wr.cell? ⟨gb121,4,none⟩ = some (.int .u64 a1_4) := (blk_cell BK121.out 4).trans rfl
          have hcz43_5 : wr.cell? ⟨gb121,5,none⟩ = some (.slice A1_5 l1_5.length c1_5) := (blk_cell BK121.out 5).trans rfl
          have hfz43_0 := blk_frozen BK121.out 0
          have hfz43_1 := blk_frozen BK121.out 1
          have hfz43_2 := blk_frozen BK121.out 2
          have hfz43_3 := blk_frozen BK121.out 3
          have hfz43_4 := blk_frozen BK121.out 4
          have hfz43_5 := blk_frozen BK121.out 5
          have p124 : 0 ≤ (x5_2 : Int) := of_decide_eq_true (by first | (with_reducible assumption) | assumption)
          have q124 : x5_2 < (l1_5.length : Int) := of_decide_eq_true (by first | (with_reducible assumption) | assumption)
          obtain ⟨ad124,A124_0,c124_0,e124,hx124_0,hl124_0,hi124_0⟩ := at_L9 HR1_5.out x5_2 p124 q124
          cases e124
          replace hx124_0 := (HB.out.cell (World.block_lt_of_cell? w _ hx124_0)).trans hx124_0
          have HR124_0 := Aside0.mk hi124_0
          have HC124_0 := Aside0.mk hl124_0
          clear hi124_0 hl124_0
          replace p124 := eq_true p124
          replace q124 := eq_true q124
          go_wp2_with (first | (go_at_call 31;(with_reducible refine (lodestarref11_Ints.calls k2 _ _ (rd_L9 l0_5 x5_2) _ _ (rd_L9 l1_5 x5_2) false _ ?side1 ?side2 ?side3 ?side4 A36.out).mono ?_);(case side1 => repeat (first | exact (Kd.C_below HR123_0.out HB.out) | (with_reducible refine Kd.C_alloc ?_ _) | (with_reducible refine Kd.C_drewN ?_ _) | (with_reducible refine Kd.C_drew ?_)));(case side2 => exact HC123_0.out);(case side3 => repeat (first | exact (Kd.C_below HR124_0.out HB.out) | (with_reducible refine Kd.C_alloc ?_ _) | (with_reducible refine Kd.C_drewN ?_ _) | (with_reducible refine Kd.C_drew ?_)));(case side4 => exact HC124_0.out);rintro e w' ⟨rfl,⟨nd,rfl⟩⟩;(try first | exact ⟨rfl,_,World.drewN_drewN _ _ _⟩ | exact ⟨rfl,_,Eq.trans (World.drewN_drewN _ _ _) (congrArg (World.drewN _) (Nat.add_assoc _ _ _))⟩)))
          repeat (go_quiet (first | (go_at_call 31;(with_reducible refine (lodestarref11_Ints.calls k2 _ _ (rd_L9 l0_5 x5_2) _ _ (rd_L9 l1_5 x5_2) false _ ?side1 ?side2 ?side3 ?side4 A36.out).mono ?_);(case side1 => repeat (first | exact (Kd.C_below HR123_0.out HB.out) | (with_reducible refine Kd.C_alloc ?_ _) | (with_reducible refine Kd.C_drewN ?_ _) | (with_reducible refine Kd.C_drew ?_)));(case side2 => exact HC123_0.out);(case side3 => repeat (first | exact (Kd.C_below HR124_0.out HB.out) | (with_reducible refine Kd.C_alloc ?_ _) | (with_reducible refine Kd.C_drewN ?_ _) | (with_reducible refine Kd.C_drew ?_)));(case side4 => exact HC124_0.out);rintro e w' ⟨rfl,⟨nd,rfl⟩⟩;(try first | exact ⟨rfl,_,World.drewN_drewN _ _ _⟩ | exact ⟨rfl,_,Eq.trans (World.drewN_drewN _ _ _) (congrArg (World.drewN _) (Nat.add_assoc _ _ _))⟩)));try go_wp2_with (first | (go_at_call 31;(with_reducible refine (lodestarref11_Ints.calls k2 _ _ (rd_L9 l0_5 x5_2) _ _ (rd_L9 l1_5 x5_2) false _ ?side1 ?side2 ?side3 ?side4 A36.out).mono ?_);(case side1 => repeat (first | exact (Kd.C_below HR123_0.out HB.out) | (with_reducible refine Kd.C_alloc ?_ _) | (with_reducible refine Kd.C_drewN ?_ _) | (with_reducible refine Kd.C_drew ?_)));(case side2 => exact HC123_0.out);(case side3 => repeat (first | exact (Kd.C_below HR124_0.out HB.out) | (with_reducible refine Kd.C_alloc ?_ _) | (with_reducible refine Kd.C_drewN ?_ _) | (with_reducible refine Kd.C_drew ?_)));(case side4 => exact HC124_0.out);rintro e w' ⟨rfl,⟨nd,rfl⟩⟩;(try first | exact ⟨rfl,_,World.drewN_drewN _ _ _⟩ | exact ⟨rfl,_,Eq.trans (World.drewN_drewN _ _ _) (congrArg (World.drewN _) (Nat.add_assoc _ _ _))⟩))))
          go_ret
          exact ⟨by first | rfl | (simp [errW_none,errW_some] <;> rfl) | (simp [*,errW_none,errW_some] <;> rfl),by repeat (first | (with_reducible first | exact HB.out | apply below_alloc | apply pw_below_drewN | apply below_drew1 | refine below_set ?_ GE120.out | refine below_set ?_ GE121.out) | exact HB.out)⟩
        ·rw [if_neg c35] at H
         exact absurd H (by simp)
       ·rw [if_neg c34] at H
        exact absurd H (by simp)
      ·rw [if_neg c33] at H
       have c33b0 : decide (x5_2 < (l0_5.length : Int)) = false := decide_eq_false c33
       clear c33
       obtain rfl := Option.some.inj H
       have hnb44 := NB120_121.out
       have hnc44 := NB121_120.out
       have hcz45_0 : wr.cell? ⟨gb120,0,none⟩ = some (.int .u32 a0_0) := (blk_cell BK120.out 0).trans rfl
       have hcz45_1 : wr.cell? ⟨gb120,1,none⟩ = some (.slice A0_1 l0_1.length c0_1) := (blk_cell BK120.out 1).trans rfl
       have hcz45_2 : wr.cell? ⟨gb120,2,none⟩ = some (.slice A0_2 l0_2.length c0_2) := (blk_cell BK120.out 2).trans rfl
       have hcz45_3 : wr.cell? ⟨gb120,3,none⟩ = some (.int .u64 a0_3) := (blk_cell BK120.out 3).trans rfl
       have hcz45_4 : wr.cell? ⟨gb120,4,none⟩ = some (.int .u64 a0_4) := (blk_cell BK120.out 4).trans rfl
       have hcz45_5 : wr.cell? ⟨gb120,5,none⟩ = some (.slice A0_5 l0_5.length c0_5) := (blk_cell BK120.out 5).trans rfl
       have hfz45_0 := blk_frozen BK120.out 0
       have hfz45_1 := blk_frozen BK120.out 1
       have hfz45_2 := blk_frozen BK120.out 2
       have hfz45_3 := blk_frozen BK120.out 3
       have hfz45_4 := blk_frozen BK120.out 4
       have hfz45_5 := blk_frozen BK120.out 5
       go_wp2
       repeat (go_quiet (fail);try go_wp2)
       go_ret
       exact ⟨by first | rfl | (simp [errW_none,errW_some] <;> rfl) | (simp [*,errW_none,errW_some] <;> rfl),by repeat (first | (with_reducible first | exact HB.out | apply below_alloc | apply pw_below_drewN | apply below_drew1 | refine below_set ?_ GE120.out | refine below_set ?_ GE121.out) | exact HB.out)⟩

end Go.Proofs.Ytofmlajanopniaa.Q
namespace Go.Proofs.Ytofmlajanopniaa.Q
open Go.RowKit Go.Proofs.YtofmlajanopniaaW.PrintWords Go.Proofs.YtofmlajanopniaaW.PrintLast Go.Proofs.YtofmlajanopniaaW.PrintMore
attribute [local go_sem] max2_int min2_int max_two min_two max_three min_three max_four min_four   -- for this text's walks alone

/-! ### lodestarref10_Great: function 58 -/
mutual
def lodestarref10_Great.l0 : Nat → List (S26) → Int → Int → List ByteArray → List ByteArray → List ByteArray → Option (Bool)
 | 0,_,_,_,_,_,_ => none
 | k + 1,x0,x5,x6,x163000,x163001,x163002 => if x6 < (x0.length : Int) then (lodestarref10_Great.j1 k x0 x5 x6 (decide (x5 < 20000)) x163000 x163001 x163002) else (lodestarref10_Great.j1 k x0 x5 x6 false x163000 x163001 x163002)
def lodestarref10_Great.j1 : Nat → List (S26) → Int → Int → Bool → List ByteArray → List ByteArray → List ByteArray → Option (Bool)
 | 0,_,_,_,_,_,_,_ => none
 | k + 1,x0,x5,x6,x14,x163000,x163001,x163002 => if x14 = true then (if 0 ≤ x6 then (if x6 < (x0.length : Int) then ((lodestarref03_Great.f k ((rd_T26 x0 x6).f2)).bind fun t165 => (if t165 = true then (some true) else (lodestarref10_Great.l0 k x0 (wrap64 ((wrap64 (x5 + 1)) + (mn (((rd_T26 x0 x6).f1).length : Int) 20000))) (wrap64 (x6 + 1)) x163000 x163001 x163002))) else (none)) else (none)) else (if x5 ≥ 20000 then (some true) else (if (x0.length : Int) > 300 then (some true) else ((lodestarref03_Great.f k x163000).bind fun t166 => (if t166 = true then (some true) else ((lodestarref03_Great.f k x163001).bind fun t167 => (if t167 = true then (some true) else ((lodestarref03_Great.f k x163002).bind fun t168 => (some t168))))))))
end
def lodestarref10_Great.f (k : Nat) (l0 : List (S26)) (l1_0 : List ByteArray) (l1_1 : List ByteArray) (l1_2 : List ByteArray) : Option (Bool) := lodestarref10_Great.l0 k l0 0 0 l1_0 l1_1 l1_2
theorem lodestarref10_Great.mono_l : ∀ k,(∀ y0 y1 y2 y3 y4 y5,LeO (lodestarref10_Great.l0 k y0 y1 y2 y3 y4 y5) (lodestarref10_Great.l0 (k + 1) y0 y1 y2 y3 y4 y5)) ∧ (∀ y0 y1 y2 y3 y4 y5 y6,LeO (lodestarref10_Great.j1 k y0 y1 y2 y3 y4 y5 y6) (lodestarref10_Great.j1 (k + 1) y0 y1 y2 y3 y4 y5 y6))
 | 0 => ⟨fun _ _ _ _ _ _ r h => by simp [lodestarref10_Great.l0] at h,fun _ _ _ _ _ _ _ r h => by simp [lodestarref10_Great.j1] at h⟩
 | k + 1 => by
  obtain ⟨ih0,ih1⟩ := lodestarref10_Great.mono_l k
  refine ⟨?_, ?_⟩
  ·intro y0 y1 y2 y3 y4 y5
   unfold lodestarref10_Great.l0
   repeat' first
   | (with_reducible exact ih0 _ _ _ _ _ _)
   | (with_reducible exact ih1 _ _ _ _ _ _ _)
   | (with_reducible exact lodestarref03_Great.mono _ _)
   | (with_reducible exact LeO.refl _)
   | (with_reducible exact LeO.none _)
   | (with_reducible refine LeO.ite ?_ ?_)
   | (with_reducible refine LeO.bind ?_ (fun _ => ?_))
   | exact ih0 _ _ _ _ _ _
   | exact ih1 _ _ _ _ _ _ _
   | exact lodestarref03_Great.mono _ _
   | exact LeO.none _
   | refine LeO.ite ?_ ?_
   | refine LeO.bind ?_ (fun _ => ?_)
  ·intro y0 y1 y2 y3 y4 y5 y6
   unfold lodestarref10_Great.j1
   repeat' first
   | (with_reducible exact ih0 _ _ _ _ _ _)
   | (with_reducible exact ih1 _ _ _ _ _ _ _)
   | (with_reducible exact lodestarref03_Great.mono _ _)
   | (with_reducible exact LeO.refl _)
   | (with_reducible exact LeO.none _)
   | (with_reducible refine LeO.ite ?_ ?_)
   | (with_reducible refine LeO.bind ?_ (fun _ => ?_))
   | exact ih0 _ _ _ _ _ _
   | exact ih1 _ _ _ _ _ _ _
   | exact lodestarref03_Great.mono _ _
   | exact LeO.none _
   | refine LeO.ite ?_ ?_
   | refine LeO.bind ?_ (fun _ => ?_)
theorem lodestarref10_Great.mono : ∀ a0 a1 a2 a3 k,LeO (lodestarref10_Great.f k a0 a1 a2 a3) (lodestarref10_Great.f (k + 1) a0 a1 a2 a3) := by
 intro a0 a1 a2 a3 k
 obtain ⟨ih0,ih1⟩ := lodestarref10_Great.mono_l k
 unfold lodestarref10_Great.f
 repeat' first
   | (with_reducible exact ih0 _ _ _ _ _ _)
   | (with_reducible exact ih1 _ _ _ _ _ _ _)
   | (with_reducible exact lodestarref03_Great.mono _ _)
   | (with_reducible exact LeO.refl _)
   | (with_reducible exact LeO.none _)
   | (with_reducible refine LeO.ite ?_ ?_)
   | (with_reducible refine LeO.bind ?_ (fun _ => ?_))
   | exact ih0 _ _ _ _ _ _
   | exact ih1 _ _ _ _ _ _ _
   | exact lodestarref03_Great.mono _ _
   | exact LeO.none _
   | refine LeO.ite ?_ ?_
   | refine LeO.bind ?_ (fun _ => ?_)
set_option maxHeartbeats 8000000 in
set_option maxRecDepth 100000 in
theorem lodestarref10_Great.calls (k : Nat) (A0 : Option Addr) (c0 : Nat) (l0 : List (S26)) (A1_0 : Option Addr) (c1_0 : Nat) (l1_0 : List ByteArray) (A1_1 : Option Addr) (c1_1 : Nat) (l1_1 : List ByteArray) (A1_2 : Option Addr) (c1_2 : Nat) (l1_2 : List ByteArray) (r : Bool) (w : World) (hr0 : Kd.C k26 w A0 l0.length l0) (hc0 : l0.length ≤ c0) (hr1_0 : Kd.C Kd.string w A1_0 l1_0.length l1_0) (hc1_0 : l1_0.length ≤ c1_0) (hr1_1 : Kd.C Kd.string w A1_1 l1_1.length l1_1) (hc1_1 : l1_1.length ≤ c1_1) (hr1_2 : Kd.C Kd.string w A1_2 l1_2.length l1_2) (hc1_2 : l1_2.length ≤ c1_2) (h : lodestarref10_Great.f k l0 l1_0 l1_1 l1_2 = some r) :
  Calls Try.prog 58 #[.slice A0 l0.length c0,.agg #[.slice A1_0 l1_0.length c1_0,.slice A1_1 l1_1.length c1_1,.slice A1_2 l1_2.length c1_2]] w fun e w' => e = .returned (.bool r) ∧ Below w.heap.size w w' := by
 have hu68 := Try.underlying68
 have HR0 := Aside0.mk hr0
 have HC0 := Aside0.mk hc0
 clear hr0 hc0
 have HR1_0 := Aside0.mk hr1_0
 have HC1_0 := Aside0.mk hc1_0
 clear hr1_0 hc1_0
 have HR1_1 := Aside0.mk hr1_1
 have HC1_1 := Aside0.mk hc1_1
 clear hr1_1 hc1_1
 have HR1_2 := Aside0.mk hr1_2
 have HC1_2 := Aside0.mk hc1_2
 clear hr1_2 hc1_2
 have HB := Aside0.mk (Below.refl w.heap.size w)
 have H : (lodestarref10_Great.l0 k l0 0 0 l1_0 l1_1 l1_2) = some r := h
 clear h
 have H' := Aside0.mk H
 clear H
 go_enter Try.func58,Try.ntmps58
 go_wp2_with (first | ((with_reducible refine gate_dst (N := 3) rfl ?_);(try (refine gate_guard (by rfl) ?_;dsimp only));refine box_event ?hg (N := 3) ?hd (cs := #[.slice A1_0 l1_0.length c1_0,.slice A1_1 l1_1.length c1_1,.slice A1_2 l1_2.length c1_2]) (t := 68) ?hr ?_;(case hd => rfl);(case hg => rfl);(case hr => first | (go_simp;done) | (go_simp;rfl));intro gb162 hg w3 hbox hb;have n0_ := Aside0.mk (below_step (by repeat (first | (with_reducible first | exact HB.out | apply below_alloc | apply pw_below_drewN | apply below_drew1) | exact HB.out)) hb);have n1_ := Aside0.mk (hbox);have n2_ := Aside0.mk ((by rw [hg];exact (below_size (by repeat (first | (with_reducible first | exact HB.out | apply below_alloc | apply pw_below_drewN | apply below_drew1) | exact HB.out))) : w.heap.size ≤ gb162));have n3_ := Aside0.mk ((by rw [hg];exact (below_size (by repeat (first | (with_reducible first | exact HB.out | apply below_alloc | apply pw_below_drewN | apply below_drew1) | exact HB.out))) : w.heap.size ≤ gb162));clear HB;have HB := n0_;have BK162 := n1_;have GW162 := n2_;have GE162 := n3_;clear n0_ n1_ n2_ n3_;clear hb hbox hg))
 go_loopg [5,6] k (fun kq v5 v6 w' => ∃ (x5_1 : Int) (x6_1 : Int),v5 = .int .i64 x5_1 ∧ v6 = .int .i64 x6_1 ∧ Aside0 (lodestarref10_Great.l0 kq l0 x5_1 x6_1 l1_0 l1_1 l1_2 = some r) ∧ Aside0 (kq ≤ k) ∧ Aside0 (w'.heap[gb162]? = some (.cells #[(.slice A1_0 l1_0.length c1_0),(.slice A1_1 l1_1.length c1_1),(.slice A1_2 l1_2.length c1_2)] 68 (0,0))) ∧ Aside0 (Below w.heap.size w w'))
 case atStart => exact ⟨(0),(0),(by first | rfl | (simp;done) | (simp [*];done)),(by first | rfl | (simp;done) | (simp [*];done)),H',⟨Nat.le_refl _⟩,⟨by (with_reducible repeat (first | refine blk_drewN ?_ _ | refine blk_drew ?_ | refine blk_alloc ?_ _));exact BK162.out⟩,⟨by repeat (first | (with_reducible first | exact HB.out | apply below_alloc | apply pw_below_drewN | apply below_drew1 | refine below_set ?_ GE162.out) | exact HB.out)⟩⟩
 case round =>
  clear H'
  try clear c1
  try clear p2
  obtain ⟨x5_1,x6_1,rfl,rfl,HA,HK1,BK162,HB⟩ := hrel
  cases gk with
  | zero => exact absurd HA.out (by simp [lodestarref10_Great.l0])
  | succ k1 =>
   have H := HA.out
   clear HA
   simp only [lodestarref10_Great.l0] at H
   have HC4 := Aside0.mk H
   clear H
   go_upto_region 3 with (fail)
   go_cut [14] (fun v14 wc => ∃ (kq : Nat) (x14_3 : Bool),v14 = .bool x14_3 ∧ Aside0 (lodestarref10_Great.j1 kq l0 x5_1 x6_1 x14_3 l1_0 l1_1 l1_2 = some r) ∧ Aside0 (kq ≤ k1) ∧ Aside0 (wc.heap[gb162]? = some (.cells #[(.slice A1_0 l1_0.length c1_0),(.slice A1_1 l1_1.length c1_1),(.slice A1_2 l1_2.length c1_2)] 68 (0,0))) ∧ Aside0 (Below w.heap.size w wc))
   case first =>
    have H := HC4.out
    clear HC4
    by_cases c5 : x6_1 < (l0.length : Int)
    ·rw [if_pos c5] at H
     have c5b0 : decide (x6_1 < (l0.length : Int)) = true := decide_eq_true c5
     clear c5
     (first | rw [c5b0] | (simp only [i64_w,i32_w];rw [c5b0]) | skip)
     have H' := Aside0.mk H
     clear H
     go_wp2
     go_meet
     case rel => exact ⟨_,(decide (x5_1 < 20000)),(by first | rfl | (simp;done) | (simp [*];done)),H',⟨by have := HK1.out;first | omega | exact Nat.le_refl _⟩,⟨by (with_reducible repeat (first | refine blk_drewN ?_ _ | refine blk_drew ?_ | refine blk_alloc ?_ _));exact BK162.out⟩,⟨by repeat (first | (with_reducible first | exact HB.out | apply below_alloc | apply pw_below_drewN | apply below_drew1 | refine below_set ?_ GE162.out) | exact HB.out)⟩⟩
    ·rw [if_neg c5] at H
     have c5b0 : decide (x6_1 < (l0.length : Int)) = false := decide_eq_false c5
     clear c5
     (first | rw [c5b0] | (simp only [i64_w,i32_w];rw [c5b0]) | skip)
     have H' := Aside0.mk H
     clear H
     go_wp2
     go_meet
     case rel => exact ⟨_,(false),(by first | rfl | (simp;done) | (simp [*];done)),H',⟨by have := HK1.out;first | omega | exact Nat.le_refl _⟩,⟨by (with_reducible repeat (first | refine blk_drewN ?_ _ | refine blk_drew ?_ | refine blk_alloc ?_ _));exact BK162.out⟩,⟨by repeat (first | (with_reducible first | exact HB.out | apply below_alloc | apply pw_below_drewN | apply below_drew1 | refine below_set ?_ GE162.out) | exact HB.out)⟩⟩
   case rest =>
    clear HC4
    try clear c1
    try clear p2
    try clear c5
    try clear c5b0
    try clear p2
    obtain ⟨kq,x14_3,rfl,HA,HJ3,BK162,HB⟩ := hcut
    cases kq with
    | zero => exact absurd HA.out (by simp [lodestarref10_Great.j1])
    | succ kj3 =>
     have H := HA.out
     clear HA
     simp only [lodestarref10_Great.j1] at H
     by_cases c6 : x14_3 = true
     ·subst c6
      have H1 : (if 0 ≤ x6_1 then (if x6_1 < (l0.length : Int) then ((lodestarref03_Great.f kj3 ((rd_T26 l0 x6_1).f2)).bind fun t165 => (if t165 = true then (some true) else (lodestarref10_Great.l0 kj3 l0 (wrap64 ((wrap64 (x5_1 + 1)) + (mn (((rd_T26 l0 x6_1).f1).length : Int) 20000))) (wrap64 (x6_1 + 1)) l1_0 l1_1 l1_2))) else (none)) else (none)) = some r := by rw [if_pos rfl] at H;exact H
      clear H
      have H := H1
      clear H1
      by_cases c7 : 0 ≤ x6_1
      ·rw [if_pos c7] at H
       have c7b0 : decide (0 ≤ x6_1) = true := decide_eq_true c7
       clear c7
       by_cases c8 : x6_1 < (l0.length : Int)
       ·rw [if_pos c8] at H
        have c8b0 : decide (x6_1 < (l0.length : Int)) = true := decide_eq_true c8
        clear c8
        obtain ⟨ji9,hji9⟩ : ∃ j_ : Int,(mn (((rd_T26 l0 x6_1).f1).length : Int) 20000) = j_ := ⟨_,rfl⟩
        replace H : ((lodestarref03_Great.f kj3 ((rd_T26 l0 x6_1).f2)).bind fun t165 => (if t165 = true then (some true) else (lodestarref10_Great.l0 kj3 l0 (wrap64 ((wrap64 (x5_1 + 1)) + (ji9))) (wrap64 (x6_1 + 1)) l1_0 l1_1 l1_2))) = some r := by first | (rw [hji9] at H;exact H) | (simp only [hji9] at H ⊢;exact H)
        have hji9_ : (if 20000 < (((rd_T26 l0 x6_1).f1).length : Int) then 20000 else (((rd_T26 l0 x6_1).f1).length : Int)) = ji9 := hji9
        replace H := Option.bind_eq_some_iff.mp H
        obtain ⟨t165,A100,H⟩ := H
        replace H : (if t165 = true then (some true) else (lodestarref10_Great.l0 kj3 l0 (wrap64 ((wrap64 (x5_1 + 1)) + (ji9))) (wrap64 (x6_1 + 1)) l1_0 l1_1 l1_2)) = some r := H
        have A10 := Aside0.mk A100
        clear A100
        by_cases c11 : t165 = true
        ·subst c11
         have H1 : (some true) = some r := by rw [if_pos rfl] at H;exact H
         clear H
         have H := H1
         clear H1
         obtain rfl := Option.some.inj H
         have p163 : 0 ≤ (x6_1 : Int) := of_decide_eq_true (by first | (with_reducible assumption) | assumption)
         have q163 : x6_1 < (l0.length : Int) := of_decide_eq_true (by first | (with_reducible assumption) | assumption)
         obtain ⟨ad163,A163_1,c163_1,A163_2,c163_2,e163,hx163_0,hx163_1,hx163_2,hl163_1,hi163_1,hl163_2,hi163_2⟩ := at_T26 HR0.out x6_1 p163 q163
         cases e163
         replace hx163_0 := (HB.out.cell (World.block_lt_of_cell? w _ hx163_0)).trans hx163_0
         replace hx163_1 := (HB.out.cell (World.block_lt_of_cell? w _ hx163_1)).trans hx163_1
         replace hx163_2 := (HB.out.cell (World.block_lt_of_cell? w _ hx163_2)).trans hx163_2
         have HR163_1 := Aside0.mk hi163_1
         have HC163_1 := Aside0.mk hl163_1
         clear hi163_1 hl163_1
         have HR163_2 := Aside0.mk hi163_2
         have HC163_2 := Aside0.mk hl163_2
         clear hi163_2 hl163_2
         replace p163 := eq_true p163
         replace q163 := eq_true q163
         have p164 : 0 ≤ (x6_1 : Int) := of_decide_eq_true (by first | (with_reducible assumption) | assumption)
         have q164 : x6_1 < (l0.length : Int) := of_decide_eq_true (by first | (with_reducible assumption) | assumption)
         obtain ⟨ad164,A164_1,c164_1,A164_2,c164_2,e164,hx164_0,hx164_1,hx164_2,hl164_1,hi164_1,hl164_2,hi164_2⟩ := at_T26 HR0.out x6_1 p164 q164
         obtain rfl : ad163 = ad164 := (by injection e164)
         replace hx164_0 := (HB.out.cell (World.block_lt_of_cell? w _ hx164_0)).trans hx164_0
         replace hx164_1 := (HB.out.cell (World.block_lt_of_cell? w _ hx164_1)).trans hx164_1
         replace hx164_2 := (HB.out.cell (World.block_lt_of_cell? w _ hx164_2)).trans hx164_2
         have HR164_1 := Aside0.mk hi164_1
         have HC164_1 := Aside0.mk hl164_1
         clear hi164_1 hl164_1
         have HR164_2 := Aside0.mk hi164_2
         have HC164_2 := Aside0.mk hl164_2
         clear hi164_2 hl164_2
         replace p164 := eq_true p164
         replace q164 := eq_true q164
         have ea_ := Option.some.inj (hx163_1.symm.trans hx164_1)
         injection ea_ with ea_ en_ ec_
         subst ea_
         subst ec_
         clear en_
         have ea_ := Option.some.inj (hx163_2.symm.trans hx164_2)
         injection ea_ with ea_ en_ ec_
         subst ea_
         subst ec_
         clear en_
         go_wp2_with (first | ((with_reducible refine gate_callee (f := 65) rfl ?_);refine goesL_ (some 32) rfl rfl Try.func65 (by kernel_rfl) rfl #[.slice A163_2 ((rd_T26 l0 x6_1).f2).length c163_2] rfl (by (try simp only [List.map_toArray,List.map_cons,List.map_nil]);first | done | rfl | (simp only [List.length_drop,List.length_take];rfl)) ?_;(with_reducible refine (lodestarref03_Great.calls kj3 _ _ ((rd_T26 l0 x6_1).f2) true _ ?side1 ?side2 A10.out).mono ?_);(case side1 => repeat (first | exact (Kd.C_below HR164_2.out HB.out) | (with_reducible refine Kd.C_alloc ?_ _) | (with_reducible refine Kd.C_drewN ?_ _) | (with_reducible refine Kd.C_drew ?_)));(case side2 => exact HC164_2.out);rintro e w12 ⟨rfl,hb⟩;refine ⟨_,rfl, ?_⟩;have n0_ := Aside0.mk (blk_below (g := gb162) (o := .cells #[.slice A1_0 l1_0.length c1_0,.slice A1_1 l1_1.length c1_1,.slice A1_2 l1_2.length c1_2] 68 (0,0)) (by (with_reducible repeat (first | refine blk_drewN ?_ _ | refine blk_drew ?_ | refine blk_alloc ?_ _));exact BK162.out) hb);have n1_ := Aside0.mk (below_step (by repeat (first | (with_reducible first | exact HB.out | apply below_alloc | apply pw_below_drewN | apply below_drew1 | refine below_set ?_ GE162.out) | exact HB.out)) hb);clear BK162;clear HB;have BK162 := n0_;have HB := n1_;clear n0_ n1_;(try clear hb);(try clear hb2);(try clear hk);(try clear hi)))
         go_ret
         exact ⟨by first | rfl | (simp [errW_none,errW_some] <;> rfl) | (simp only [← hji9];first | rfl | (simp [errW_none,errW_some] <;> rfl)) | (simp [*,errW_none,errW_some] <;> rfl),by repeat (first | (with_reducible first | exact HB.out | apply below_alloc | apply pw_below_drewN | apply below_drew1 | refine below_set ?_ GE162.out) | exact HB.out)⟩
        ·replace c11 := Bool.eq_false_iff.mpr c11
         subst c11
         have H1 : (lodestarref10_Great.l0 kj3 l0 (wrap64 ((wrap64 (x5_1 + 1)) + (ji9))) (wrap64 (x6_1 + 1)) l1_0 l1_1 l1_2) = some r := by rw [if_neg (show ¬ (false = true) by decide)] at H;exact H
         clear H
         have H := H1
         clear H1
         have H' := Aside0.mk H
         clear H
         have p163 : 0 ≤ (x6_1 : Int) := of_decide_eq_true (by first | (with_reducible assumption) | assumption)
         have q163 : x6_1 < (l0.length : Int) := of_decide_eq_true (by first | (with_reducible assumption) | assumption)
         obtain ⟨ad163,A163_1,c163_1,A163_2,c163_2,e163,hx163_0,hx163_1,hx163_2,hl163_1,hi163_1,hl163_2,hi163_2⟩ := at_T26 HR0.out x6_1 p163 q163
         cases e163
         replace hx163_0 := (HB.out.cell (World.block_lt_of_cell? w _ hx163_0)).trans hx163_0
         replace hx163_1 := (HB.out.cell (World.block_lt_of_cell? w _ hx163_1)).trans hx163_1
         replace hx163_2 := (HB.out.cell (World.block_lt_of_cell? w _ hx163_2)).trans hx163_2
         have HR163_1 := Aside0.mk hi163_1
         have HC163_1 := Aside0.mk hl163_1
         clear hi163_1 hl163_1
         have HR163_2 := Aside0.mk hi163_2
         have HC163_2 := Aside0.mk hl163_2
         clear hi163_2 hl163_2
         replace p163 := eq_true p163
         replace q163 := eq_true q163
         have p164 : 0 ≤ (x6_1 : Int) := of_decide_eq_true (by first | (with_reducible assumption) | assumption)
         have q164 : x6_1 < (l0.length : Int) := of_decide_eq_true (by first | (with_reducible assumption) | assumption)
         obtain ⟨ad164,A164_1,c164_1,A164_2,c164_2,e164,hx164_0,hx164_1,hx164_2,hl164_1,hi164_1,hl164_2,hi164_2⟩ := at_T26 HR0.out x6_1 p164 q164
         obtain rfl : ad163 = ad164 := (by injection e164)
         replace hx164_0 := (HB.out.cell (World.block_lt_of_cell? w _ hx164_0)).trans hx164_0
         replace hx164_1 := (HB.out.cell (World.block_lt_of_cell? w _ hx164_1)).trans hx164_1
         replace hx164_2 := (HB.out.cell (World.block_lt_of_cell? w _ hx164_2)).trans hx164_2
         have HR164_1 := Aside0.mk hi164_1
         have HC164_1 := Aside0.mk hl164_1
         clear hi164_1 hl164_1
         have HR164_2 := Aside0.mk hi164_2
         have HC164_2 := Aside0.mk hl164_2
         clear hi164_2 hl164_2
         replace p164 := eq_true p164
         replace q164 := eq_true q164
         have ea_ := Option.some.inj (hx163_1.symm.trans hx164_1)
         injection ea_ with ea_ en_ ec_
         subst ea_
         subst ec_
         clear en_
         have ea_ := Option.some.inj (hx163_2.symm.trans hx164_2)
         injection ea_ with ea_ en_ ec_
         subst ea_
         subst ec_
         clear en_
         go_wp2_with (first | ((with_reducible refine gate_callee (f := 65) rfl ?_);refine goesL_ (some 32) rfl rfl Try.func65 (by kernel_rfl) rfl #[.slice A163_2 ((rd_T26 l0 x6_1).f2).length c163_2] rfl (by (try simp only [List.map_toArray,List.map_cons,List.map_nil]);first | done | rfl | (simp only [List.length_drop,List.length_take];rfl)) ?_;(with_reducible refine (lodestarref03_Great.calls kj3 _ _ ((rd_T26 l0 x6_1).f2) false _ ?side1 ?side2 A10.out).mono ?_);(case side1 => repeat (first | exact (Kd.C_below HR164_2.out HB.out) | (with_reducible refine Kd.C_alloc ?_ _) | (with_reducible refine Kd.C_drewN ?_ _) | (with_reducible refine Kd.C_drew ?_)));(case side2 => exact HC164_2.out);rintro e w13 ⟨rfl,hb⟩;refine ⟨_,rfl, ?_⟩;have n0_ := Aside0.mk (blk_below (g := gb162) (o := .cells #[.slice A1_0 l1_0.length c1_0,.slice A1_1 l1_1.length c1_1,.slice A1_2 l1_2.length c1_2] 68 (0,0)) (by (with_reducible repeat (first | refine blk_drewN ?_ _ | refine blk_drew ?_ | refine blk_alloc ?_ _));exact BK162.out) hb);have n1_ := Aside0.mk (below_step (by repeat (first | (with_reducible first | exact HB.out | apply below_alloc | apply pw_below_drewN | apply below_drew1 | refine below_set ?_ GE162.out) | exact HB.out)) hb);clear BK162;clear HB;have BK162 := n0_;have HB := n1_;clear n0_ n1_;(try clear hb);(try clear hb2);(try clear hk);(try clear hi)))
         go_roundg kj3
         case measure => have := HK1.out;have := HJ3.out;omega
         case rel => exact ⟨(wrap64 ((wrap64 (x5_1 + 1)) + (ji9))),(wrap64 (x6_1 + 1)),(by first | rfl | (simp;done) | (simp only [← hji9] <;> (first | rfl | simp)) | (simp [*];done)),(by first | rfl | (simp;done) | (simp [*];done)),H',⟨by have := HK1.out;have := HJ3.out;omega⟩,⟨by (with_reducible repeat (first | refine blk_drewN ?_ _ | refine blk_drew ?_ | refine blk_alloc ?_ _));exact BK162.out⟩,⟨by repeat (first | (with_reducible first | exact HB.out | apply below_alloc | apply pw_below_drewN | apply below_drew1 | refine below_set ?_ GE162.out) | exact HB.out)⟩⟩
       ·rw [if_neg c8] at H
        exact absurd H (by simp)
      ·rw [if_neg c7] at H
       exact absurd H (by simp)
     ·replace c6 := Bool.eq_false_iff.mpr c6
      subst c6
      have H1 : (if x5_1 ≥ 20000 then (some true) else (if (l0.length : Int) > 300 then (some true) else ((lodestarref03_Great.f kj3 l1_0).bind fun t166 => (if t166 = true then (some true) else ((lodestarref03_Great.f kj3 l1_1).bind fun t167 => (if t167 = true then (some true) else ((lodestarref03_Great.f kj3 l1_2).bind fun t168 => (some t168)))))))) = some r := by rw [if_neg (show ¬ (false = true) by decide)] at H;exact H
      clear H
      have H := H1
      clear H1
      by_cases c14 : x5_1 ≥ 20000
      ·rw [if_pos c14] at H
       have c14b0 : decide (20000 ≤ x5_1) = true := decide_eq_true c14
       clear c14
       obtain rfl := Option.some.inj H
       go_wp2
       go_ret
       exact ⟨by first | rfl | (simp [errW_none,errW_some] <;> rfl) | (simp [*,errW_none,errW_some] <;> rfl),by repeat (first | (with_reducible first | exact HB.out | apply below_alloc | apply pw_below_drewN | apply below_drew1 | refine below_set ?_ GE162.out) | exact HB.out)⟩
      ·rw [if_neg c14] at H
       have c14b0 : decide (20000 ≤ x5_1) = false := decide_eq_false c14
       clear c14
       by_cases c15 : (l0.length : Int) > 300
       ·rw [if_pos c15] at H
        have c15b0 : decide (300 < (l0.length : Int)) = true := decide_eq_true c15
        have c15b1 : decide (300 < l0.length) = true := decide_eq_true (by omega)
        clear c15
        obtain rfl := Option.some.inj H
        go_wp2
        go_ret
        exact ⟨by first | rfl | (simp [errW_none,errW_some] <;> rfl) | (simp [*,errW_none,errW_some] <;> rfl),by repeat (first | (with_reducible first | exact HB.out | apply below_alloc | apply pw_below_drewN | apply below_drew1 | refine below_set ?_ GE162.out) | exact HB.out)⟩
       ·rw [if_neg c15] at H
        have c15b0 : decide (300 < (l0.length : Int)) = false := decide_eq_false c15
        have c15b1 : decide (300 < l0.length) = false := decide_eq_false (by omega)
        clear c15
        replace H := Option.bind_eq_some_iff.mp H
        obtain ⟨t166,A160,H⟩ := H
        replace H : (if t166 = true then (some true) else ((lodestarref03_Great.f kj3 l1_1).bind fun t167 => (if t167 = true then (some true) else ((lodestarref03_Great.f kj3 l1_2).bind fun t168 => (some t168))))) = some r := H
        have A16 := Aside0.mk A160
        clear A160
        by_cases c17 : t166 = true
        ·subst c17
         have H1 : (some true) = some r := by rw [if_pos rfl] at H;exact H
         clear H
         have H := H1
         clear H1
         obtain rfl := Option.some.inj H
         have hcz18_0 : wc.cell? ⟨gb162,0,none⟩ = some (.slice A1_0 l1_0.length c1_0) := (blk_cell BK162.out 0).trans rfl
         have hcz18_1 : wc.cell? ⟨gb162,1,none⟩ = some (.slice A1_1 l1_1.length c1_1) := (blk_cell BK162.out 1).trans rfl
         have hcz18_2 : wc.cell? ⟨gb162,2,none⟩ = some (.slice A1_2 l1_2.length c1_2) := (blk_cell BK162.out 2).trans rfl
         have hfz18_0 := blk_frozen BK162.out 0
         have hfz18_1 := blk_frozen BK162.out 1
         have hfz18_2 := blk_frozen BK162.out 2
         go_wp2_with (first | (go_at_call 65;(with_reducible refine (lodestarref03_Great.calls kj3 _ _ l1_0 true _ ?side1 ?side2 A16.out).mono ?_);(case side1 => repeat (first | exact (Kd.C_below HR1_0.out HB.out) | (with_reducible refine Kd.C_alloc ?_ _) | (with_reducible refine Kd.C_drewN ?_ _) | (with_reducible refine Kd.C_drew ?_)));(case side2 => exact HC1_0.out);rintro e w19 ⟨rfl,hb⟩;have n0_ := Aside0.mk (blk_below (g := gb162) (o := .cells #[.slice A1_0 l1_0.length c1_0,.slice A1_1 l1_1.length c1_1,.slice A1_2 l1_2.length c1_2] 68 (0,0)) (by (with_reducible repeat (first | refine blk_drewN ?_ _ | refine blk_drew ?_ | refine blk_alloc ?_ _));exact BK162.out) hb);have n1_ := Aside0.mk (below_step (by repeat (first | (with_reducible first | exact HB.out | apply below_alloc | apply pw_below_drewN | apply below_drew1 | refine below_set ?_ GE162.out) | exact HB.out)) hb);clear BK162;clear HB;have BK162 := n0_;have HB := n1_;clear n0_ n1_;(try clear hb);(try clear hb2);(try clear hk);(try clear hi)))
         go_ret
         exact ⟨by first | rfl | (simp [errW_none,errW_some] <;> rfl) | (simp [*,errW_none,errW_some] <;> rfl),by repeat (first | (with_reducible first | exact HB.out | apply below_alloc | apply pw_below_drewN | apply below_drew1 | refine below_set ?_ GE162.out) | exact HB.out)⟩
        ·replace c17 := Bool.eq_false_iff.mpr c17
         subst c17
         have H1 : ((lodestarref03_Great.f kj3 l1_1).bind fun t167 => (if t167 = true then (some true) else ((lodestarref03_Great.f kj3 l1_2).bind fun t168 => (some t168)))) = some r := by rw [if_neg (show ¬ (false = true) by decide)] at H;exact H
         clear H
         have H := H1
         clear H1
         replace H := Option.bind_eq_some_iff.mp H
         obtain ⟨t167,A200,H⟩ := H
         replace H : (if t167 = true then (some true) else ((lodestarref03_Great.f kj3 l1_2).bind fun t168 => (some t168))) = some r := H
         have A20 := Aside0.mk A200
         clear A200
         by_cases c21 : t167 = true
         ·subst c21
          have H1 : (some true) = some r := by rw [if_pos rfl] at H;exact H
          clear H
          have H := H1
          clear H1
          obtain rfl := Option.some.inj H
          have hcz22_0 : wc.cell? ⟨gb162,0,none⟩ = some (.slice A1_0 l1_0.length c1_0) := (blk_cell BK162.out 0).trans rfl
          have hcz22_1 : wc.cell? ⟨gb162,1,none⟩ = some (.slice A1_1 l1_1.length c1_1) := (blk_cell BK162.out 1).trans rfl
          have hcz22_2 : wc.cell? ⟨gb162,2,none⟩ = some (.slice A1_2 l1_2.length c1_2) := (blk_cell BK162.out 2).trans rfl
          have hfz22_0 := blk_frozen BK162.out 0
          have hfz22_1 := blk_frozen BK162.out 1
          have hfz22_2 := blk_frozen BK162.out 2
          go_wp2_with (first | (go_at_call 65;(with_reducible refine (lodestarref03_Great.calls kj3 _ _ l1_0 false _ ?side1 ?side2 A16.out).mono ?_);(case side1 => repeat (first | exact (Kd.C_below HR1_0.out HB.out) | (with_reducible refine Kd.C_alloc ?_ _) | (with_reducible refine Kd.C_drewN ?_ _) | (with_reducible refine Kd.C_drew ?_)));(case side2 => exact HC1_0.out);rintro e w23 ⟨rfl,hb⟩;have n0_ := Aside0.mk (blk_below (g := gb162) (o := .cells #[.slice A1_0 l1_0.length c1_0,.slice A1_1 l1_1.length c1_1,.slice A1_2 l1_2.length c1_2] 68 (0,0)) (by (with_reducible repeat (first | refine blk_drewN ?_ _ | refine blk_drew ?_ | refine blk_alloc ?_ _));exact BK162.out) hb);have n1_ := Aside0.mk (below_step (by repeat (first | (with_reducible first | exact HB.out | apply below_alloc | apply pw_below_drewN | apply below_drew1 | refine below_set ?_ GE162.out) | exact HB.out)) hb);clear BK162;clear HB;have BK162 := n0_;have HB := n1_;clear n0_ n1_;(try clear hb);(try clear hb2);(try clear hk);(try clear hi);have hcz24_0 : w23.cell? ⟨gb162,0,none⟩ = some (.slice A1_0 l1_0.length c1_0) := (blk_cell BK162.out 0).trans rfl;have hcz24_1 : w23.cell? ⟨gb162,1,none⟩ = some (.slice A1_1 l1_1.length c1_1) := (blk_cell BK162.out 1).trans rfl;have hcz24_2 : w23.cell? ⟨gb162,2,none⟩ = some (.slice A1_2 l1_2.length c1_2) := (blk_cell BK162.out 2).trans rfl;have hfz24_0 := blk_frozen BK162.out 0;have hfz24_1 := blk_frozen BK162.out 1;have hfz24_2 := blk_frozen BK162.out 2) | (go_at_call 65;(with_reducible refine (lodestarref03_Great.calls kj3 _ _ l1_1 true _ ?side1 ?side2 A20.out).mono ?_);(case side1 => repeat (first | exact (Kd.C_below HR1_1.out HB.out) | (with_reducible refine Kd.C_alloc ?_ _) | (with_reducible refine Kd.C_drewN ?_ _) | (with_reducible refine Kd.C_drew ?_)));(case side2 => exact HC1_1.out);rintro e w25 ⟨rfl,hb⟩;have n0_ := Aside0.mk (blk_below (g := gb162) (o := .cells #[.slice A1_0 l1_0.length c1_0,.slice A1_1 l1_1.length c1_1,.slice A1_2 l1_2.length c1_2] 68 (0,0)) (by (with_reducible repeat (first | refine blk_drewN ?_ _ | refine blk_drew ?_ | refine blk_alloc ?_ _));exact BK162.out) hb);have n1_ := Aside0.mk (below_step (by repeat (first | (with_reducible first | exact HB.out | apply below_alloc | apply pw_below_drewN | apply below_drew1 | refine below_set ?_ GE162.out) | exact HB.out)) hb);clear BK162;clear HB;have BK162 := n0_;have HB := n1_;clear n0_ n1_;(try clear hb);(try clear hb2);(try clear hk);(try clear hi)))
          go_ret
          exact ⟨by first | rfl | (simp [errW_none,errW_some] <;> rfl) | (simp [*,errW_none,errW_some] <;> rfl),by repeat (first | (with_reducible first | exact HB.out | apply below_alloc | apply pw_below_drewN | apply below_drew1 | refine below_set ?_ GE162.out) | exact HB.out)⟩
         ·replace c21 := Bool.eq_false_iff.mpr c21
          subst c21
          have H1 : ((lodestarref03_Great.f kj3 l1_2).bind fun t168 => (some t168)) = some r := by rw [if_neg (show ¬ (false = true) by decide)] at H;exact H
          clear H
          have H := H1
          clear H1
          replace H := Option.bind_eq_some_iff.mp H
          obtain ⟨t168,A260,H⟩ := H
          replace H : (some t168) = some r := H
          have A26 := Aside0.mk A260
          clear A260
          obtain rfl := Option.some.inj H
          have hcz27_0 : wc.cell? ⟨gb162,0,none⟩ = some (.slice A1_0 l1_0.length c1_0) := (blk_cell BK162.out 0).trans rfl
          have hcz27_1 : wc.cell? ⟨gb162,1,none⟩ = some (.slice A1_1 l1_1.length c1_1) := (blk_cell BK162.out 1).trans rfl
          have hcz27_2 : wc.cell? ⟨gb162,2,none⟩ = some (.slice A1_2 l1_2.length c1_2) := (blk_cell BK162.out 2).trans rfl
          have hfz27_0 := blk_frozen BK162.out 0
          have hfz27_1 := blk_frozen BK162.out 1
          have hfz27_2 := blk_frozen BK162.out 2
          go_wp2_with (first | (go_at_call 65;(with_reducible refine (lodestarref03_Great.calls kj3 _ _ l1_0 false _ ?side1 ?side2 A16.out).mono ?_);(case side1 => repeat (first | exact (Kd.C_below HR1_0.out HB.out) | (with_reducible refine Kd.C_alloc ?_ _) | (with_reducible refine Kd.C_drewN ?_ _) | (with_reducible refine Kd.C_drew ?_)));(case side2 => exact HC1_0.out);rintro e w28 ⟨rfl,hb⟩;have n0_ := Aside0.mk (blk_below (g := gb162) (o := .cells #[.slice A1_0 l1_0.length c1_0,.slice A1_1 l1_1.length c1_1,.slice A1_2 l1_2.length c1_2] 68 (0,0)) (by (with_reducible repeat (first | refine blk_drewN ?_ _ | refine blk_drew ?_ | refine blk_alloc ?_ _));exact BK162.out) hb);have n1_ := Aside0.mk (below_step (by repeat (first | (with_reducible first | exact HB.out | apply below_alloc | apply pw_below_drewN | apply below_drew1 | refine below_set ?_ GE162.out) | exact HB.out)) hb);clear BK162;clear HB;have BK162 := n0_;have HB := n1_;clear n0_ n1_;(try clear hb);(try clear hb2);(try clear hk);(try clear hi);have hcz29_0 : w28.cell? ⟨gb162,0,none⟩ = some (.slice A1_0 l1_0.length c1_0) := (blk_cell BK162.out 0).trans rfl;have hcz29_1 : w28.cell? ⟨gb162,1,none⟩ = some (.slice A1_1 l1_1.length c1_1) := (blk_cell BK162.out 1).trans rfl;have hcz29_2 : w28.cell? ⟨gb162,2,none⟩ = some (.slice A1_2 l1_2.length c1_2) := (blk_cell BK162.out 2).trans rfl;have hfz29_0 := blk_frozen BK162.out 0;have hfz29_1 := blk_frozen BK162.out 1;have hfz29_2 := blk_frozen BK162.out 2) | (go_at_call 65;(with_reducible refine (lodestarref03_Great.calls kj3 _ _ l1_1 false _ ?side1 ?side2 A20.out).mono ?_);(case side1 => repeat (first | exact (Kd.C_below HR1_1.out HB.out) | (with_reducible refine Kd.C_alloc ?_ _) | (with_reducible refine Kd.C_drewN ?_ _) | (with_reducible refine Kd.C_drew ?_)));(case side2 => exact HC1_1.out);rintro e w30 ⟨rfl,hb⟩;have n0_ := Aside0.mk (blk_below (g := gb162) (o := .cells #[.slice A1_0 l1_0.length c1_0,.slice A1_1 l1_1.length c1_1,.slice A1_2 l1_2.length c1_2] 68 (0,0)) (by (with_reducible repeat (first | refine blk_drewN ?_ _ | refine blk_drew ?_ | refine blk_alloc ?_ _));exact BK162.out) hb);have n1_ := Aside0.mk (below_step (by repeat (first | (with_reducible first | exact HB.out | apply below_alloc | apply pw_below_drewN | apply below_drew1 | refine below_set ?_ GE162.out) | exact HB.out)) hb);clear BK162;clear HB;have BK162 := n0_;have HB := n1_;clear n0_ n1_;(try clear hb);(try clear hb2);(try clear hk);(try clear hi);have hcz31_0 : w30.cell? ⟨gb162,0,none⟩ = some (.slice A1_0 l1_0.length c1_0) := (blk_cell BK162.out 0).trans rfl;have hcz31_1 : w30.cell? ⟨gb162,1,none⟩ = some (.slice A1_1 l1_1.length c1_1) := (blk_cell BK162.out 1).trans rfl;have hcz31_2 : w30.cell? ⟨gb162,2,none⟩ = some (.slice A1_2 l1_2.length c1_2) := (blk_cell BK162.out 2).trans rfl;have hfz31_0 := blk_frozen BK162.out 0;have hfz31_1 := blk_frozen BK162.out 1;have hfz31_2 := blk_frozen BK162.out 2) | (go_at_call 65;(with_reducible refine (lodestarref03_Great.calls kj3 _ _ l1_2 t168 _ ?side1 ?side2 A26.out).mono ?_);(case side1 => repeat (first | exact (Kd.C_below HR1_2.out HB.out) | (with_reducible refine Kd.C_alloc ?_ _) | (with_reducible refine Kd.C_drewN ?_ _) | (with_reducible refine Kd.C_drew ?_)));(case side2 => exact HC1_2.out);rintro e w32 ⟨rfl,hb⟩;have n0_ := Aside0.mk (blk_below (g := gb162) (o := .cells #[.slice A1_0 l1_0.length c1_0,.slice A1_1 l1_1.length c1_1,.slice A1_2 l1_2.length c1_2] 68 (0,0)) (by (with_reducible repeat (first | refine blk_drewN ?_ _ | refine blk_drew ?_ | refine blk_alloc ?_ _));exact BK162.out) hb);have n1_ := Aside0.mk (below_step (by repeat (first | (with_reducible first | exact HB.out | apply below_alloc | apply pw_below_drewN | apply below_drew1 | refine below_set ?_ GE162.out) | exact HB.out)) hb);clear BK162;clear HB;have BK162 := n0_;have HB := n1_;clear n0_ n1_;(try clear hb);(try clear hb2);(try clear hk);(try clear hi)))
          go_ret
          exact ⟨by first | rfl | (simp [errW_none,errW_some] <;> rfl) | (simp [*,errW_none,errW_some] <;> rfl),by repeat (first | (with_reducible first | exact HB.out | apply below_alloc | apply pw_below_drewN | apply below_drew1 | refine below_set ?_ GE162.out) | exact HB.out)⟩

end Go.Proofs.Ytofmlajanopniaa.Q
