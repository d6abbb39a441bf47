/- Texts of this claim,one behind the other: words,walks,plain laws. No condition. -/
import Derived.Test.YtofmlajanopniaaPk1
import Derived.Test.YtofmlajanopniaaPk5
import Derived.Test.YtofmlajanopniaaPk3
import Derived.Test.YtofmlajanopniaaPk4
set_option linter.unusedVariables false
set_option linter.unusedSimpArgs false
namespace Go.Proofs.Ytofmlajanopniaa.Li
open Go.RowKit Go.Maps Go.Proofs.YtofmlajanopniaaW.PrintWords Go.Proofs.YtofmlajanopniaaW.PrintLast Go.Proofs.YtofmlajanopniaaW.PrintMore Go.Proofs.Ytofmlajanopniaa.Q Go.Proofs.Ytofmlajanopniaa.Tk
def htop.T1 : Bool × List (List Nat × List Nat) := (true,[([],[]),([0],[0]),([1],[1]),([2],[2]),([],[]),([4],[4]),([5],[5]),([6],[6]),([3,7],[3,7]),([8],[8]),([9],[9]),([9],[9]),([],[]),([12,10,8,0,1,2,3,4,5,6,7,8,9,10,12],[10,12]),([11,13,0,1,2,3,4,5,6,7,8,9,10,11,12,13],[11])])
def htop.B1 : List Nat := [0,1,3,7,0,16,48,112,255,511,1023,1023,0,6143,16383]
theorem htop.tab1 : rtab .any (opsOf Try.f60 1) = htop.T1 := by kernel_rfl
theorem htop.bits1 : waitsOk htop.T1.2 htop.B1 = true := by kernel_rfl
theorem lit1' (k : IntKind) (t : TypeId) (x : Int) (w : World) (b : Nat) (hb : w.heap.size = b) : Kd.C (Kd.int k) (w.alloc (.cells #[.int k x] t)) (some ⟨b,0,none⟩) 1 [x] := lit_I k t [x] (by simp) 1 rfl _ rfl w |> fun h => hb ▸ h
theorem topG_no {s : Gr} {e : Int} (h : s.there e 0 = false) : topG s e = -1 := by
 unfold Gr.there at h
 unfold topG
 have : ¬ (0 < ((s.lk e).length : Int)) := fun h2 => by rw [decide_eq_true h2] at h;simp at h
 omega
theorem topG_yes {s : Gr} {k : Nat} {nd : Nd} (h : s.l[k]? = some nd) : topG s k = (nd.links.length : Int) - 1 := by
 unfold topG
 rw [lk_nat h]
def NV (w : World) (nd : Nd) (B1 : Option Addr) (d1 : Nat) (B2 : Option Addr) (d2 r cp : Nat) : Prop := ∃ base F φ ψ i,NdR w base F all2 φ ψ i nd B1 d1 B2 d2 r cp
theorem blk_other {w w' : World} {b : Nat} {c : Array Value} {t : TypeId} (hb : w.heap[b]? = some (.cells c t (0,0))) (hO : Only (fun k => k = b) w w') (k : Nat) (c2 : Array Value) (t2 : TypeId) (hk : w.heap[k]? = some (.cells c2 t2 (0,0))) (ht : t2 ≠ t) : w'.heap[k]? = w.heap[k]? := hO.block k (blk_lt hk) (fun e => by subst e;exact ht (blk_type hk hb))
section
variable {w w' : World} {nd : Nd} {B1 : Option Addr} {d1 : Nat} {B2 : Option Addr} {d2 r cp : Nat}
theorem NV.below (h : NV w nd B1 d1 B2 d2 r cp) (hb : Below w.heap.size w w') : NV w' nd B1 d1 B2 d2 r cp := by
 obtain ⟨base,F,φ,ψ,i,h⟩ := h
 exact ⟨base,F,φ,ψ,i,h.only (S := fun _ => False) (Only.of_below hb) (fun _ _ h => h)⟩
theorem NV.told (h : NV w nd B1 d1 B2 d2 r cp) (hm : nd.links.length ≤ 1000) : nd.vec.length ≤ d1 ∧ Kd.C (Kd.int .i32) w B1 nd.vec.length nd.vec ∧ nd.tags.length ≤ d2 ∧ Kd.C Kd.string w B2 nd.tags.length nd.tags := by
 obtain ⟨base,F,φ,ψ,i,h⟩ := h
 obtain ⟨p1,p2,p3,p4, -, -⟩ := h.told hm
 exact ⟨p1,p2,p3,p4⟩
theorem NV.box (h : NV w nd B1 d1 B2 d2 r cp) {b : Nat} {c : Array Value} (hb : w.heap[b]? = some (.cells c 37 (0,0))) (hO : Only (fun k => k = b) w w') : NV w' nd B1 d1 B2 d2 r cp := by
 obtain ⟨base,F,φ,ψ,i,h⟩ := h
 exact ⟨base,F,φ,ψ,i,h.keeps (fun k c t _ hk ht _ => blk_other hb hO k c t hk ht)⟩
end
section
variable {W w' : World} {b : Nat} {a0 a1 a2 a3 a4 a5 u0 u1 u2 u3 u4 u5 : Value} {t : TypeId}
theorem boxed_node (hb : W.heap[b]? = some (.cells #[a0,a1,a2,a3,a4,a5] t (0,0))) (hw : (((((W.setCell ⟨b,0,none⟩ u0).setCell ⟨b,1,none⟩ u1).setCell ⟨b,2,none⟩ u2).setCell ⟨b,3,none⟩ u3).setCell ⟨b,4,none⟩ u4).setCell ⟨b,5,none⟩ u5 = w') : w'.heap[b]? = some (.cells #[u0,u1,u2,u3,u4,u5] t (0,0)) := by
 rw [← hw]
 exact blk_put (blk_put (blk_put (blk_put (blk_put (blk_put hb 0 _ rfl) 1 _ rfl) 2 _ rfl) 3 _ rfl) 4 _ rfl) 5 _ rfl
theorem boxed_below {w0 : World} (hB : Below w0.heap.size w0 W) (hn : w0.heap.size ≤ b) (hw : (((((W.setCell ⟨b,0,none⟩ u0).setCell ⟨b,1,none⟩ u1).setCell ⟨b,2,none⟩ u2).setCell ⟨b,3,none⟩ u3).setCell ⟨b,4,none⟩ u4).setCell ⟨b,5,none⟩ u5 = w') : Below w0.heap.size w0 w' := by
 rw [← hw]
 exact below_set (below_set (below_set (below_set (below_set (below_set hB hn) hn) hn) hn) hn) hn
theorem boxed_only (hw : (((((W.setCell ⟨b,0,none⟩ u0).setCell ⟨b,1,none⟩ u1).setCell ⟨b,2,none⟩ u2).setCell ⟨b,3,none⟩ u3).setCell ⟨b,4,none⟩ u4).setCell ⟨b,5,none⟩ u5 = w') : Only (fun k => k = b) W w' := by
 rw [← hw]
 exact ((((((Only.refl (fun k => k = b) W).set ⟨b,0,none⟩ u0 rfl).set ⟨b,1,none⟩ u1 rfl).set ⟨b,2,none⟩ u2 rfl).set ⟨b,3,none⟩ u3 rfl).set ⟨b,4,none⟩ u4 rfl).set ⟨b,5,none⟩ u5 rfl
end
section
variable {X : Nat → Prop} {w0 w : World} {b g mb : Nat} {lk wd_ en : Int} {s : Gr} {n N : Nat} {f : Int → Option Int}
theorem M1.nodeV (h : M1 X w0 w g s) (hi : Inv s N) (hn : N ≤ 90000) {k : Nat} {nd : Nd} (hk : s.l[k]? = some nd) {i : Int} (hik : i = k) : Calls Try.prog 15 #[.pointer (some ⟨g,0,none⟩),.int .i64 i] w fun e w' => (∃ B1 d1 B2 d2 r cp,e = .returned (.tuple #[.agg #[.int .u32 nd.id,.slice B1 nd.vec.length d1,.slice B2 nd.tags.length d2,.int .u64 nd.fr,.int .u64 nd.un,.slice (some ⟨r,0,none⟩) nd.links.length cp],.bool true]) ∧ NV w' nd B1 d1 B2 d2 r cp) ∧ Below w.heap.size w w' :=
 hik ▸ (h.nodeY hi hn hk).mono fun e w' ⟨⟨B1,d1,B2,d2,r,cp,φ,he,hN⟩,hb⟩ => ⟨⟨B1,d1,B2,d2,r,cp,he,⟨_,_,_,_,_,hN⟩⟩,hb⟩
set_option maxHeartbeats 8000000 in
set_option maxRecDepth 100000 in
theorem PI.top (h : PI X w0 w b g mb lk wd_ en s n f) (hi : Inv s N) (hN : N ≤ 90000) : Calls Try.prog 60 #[.pointer (some ⟨b,0,none⟩)] w fun e w' => e = .returned (.int .i64 (topG s en)) ∧ Below w.heap.size w w' := by
 have hu := Try.underlying107
 have hu2 := Try.underlying37
 have HP := Aside0.mk h
 have HV := Aside0.mk hi
 have HN := Aside0.mk hN
 clear h hi hN
 cases ht : s.there en 0 with
 | false =>
  rw [topG_no ht]
  have HT := Aside0.mk ht
  clear ht
  go_enter Try.func60,Try.ntmps60
  go_wp2
  have HPD := Aside0.mk (HP.out.below (below_drew (Below.refl _ _)))
  have HWD := Aside0.mk ((below_drew (Below.refl _ _)) : Below w.heap.size w w.drew)
  clear HP
  have HB9 := Aside0.mk (Below.refl w.drew.heap.size w.drew)
  refine start_ (n := 15) (S := fun w' => w'.cell? ⟨b,3,none⟩ = some (.pointer (some ⟨g,0,none⟩)) ∧ w'.cell? ⟨b,4,none⟩ = some (.int .i64 en)) (ds := [13]) (mB_ 15 0) (by kernel_rfl) rfl rfl ⟨((blk_cell (HPD.out.below HB9.out).box 3).trans rfl),((blk_cell (HPD.out.below HB9.out).box 4).trans rfl)⟩ (fun hHeld => ?_)
  refine with_tabW htop.tab1 htop.bits1 (fun HT_ HW_ => ?_)
  generalize w.drew = wd at HPD HWD HB9 hHeld ⊢
  iterate 6 (refine pn_ 0 [(0,6,1),(1,7,3),(2,8,7),(4,10,23),(5,11,55),(6,12,119)] (v := ?_) (a' := ?_) rfl rfl rfl HT_.out (by kernel_rfl) (Or.inl ⟨by rfl, ?_⟩) ?_ ?_;rotate_left;(· intro w';go_simp;with_reducible rfl);rotate_left;(· simp only [Act.put,sT_,sZ_,sS_,i64_w,i32_w];rfl))
  iterate 2 (refine tn_ 119 [(3,9,127),(7,13,255)] (v := ?_) (a' := ?_) rfl rfl rfl HT_.out HW_.out (by kernel_rfl) (Or.inl ⟨by rfl, ?_⟩) hHeld ?_ ?_;rotate_left;(· rintro w' ⟨s0,s1⟩;go_simp;with_reducible rfl);rotate_left;(· simp only [Act.put,sT_,sZ_,sS_,i64_w,i32_w];rfl))
  refine join_ (σ := Nat) 2 (mB_ 15 8191) (fun z => [(14,.tuple #[.agg #[.int .u32 0,.slice none 0 0,.slice none 0 0,.int .u64 0,.int .u64 0,.slice none 0 0],.bool false]),(5,.tuple #[.agg #[.int .u32 0,.slice none 0 0,.slice none 0 0,.int .u64 0,.int .u64 0,.slice none 0 0],.bool false]),(15,.agg #[.int .u32 0,.slice none 0 0,.slice none 0 0,.int .u64 0,.int .u64 0,.slice none 0 0]),(16,.bool false),(3,.pointer (some ⟨z,0,none⟩))]) (fun z w' => Below wd.heap.size wd w' ∧ (World.heap w')[z]? = some (.cells #[.int .u32 0,.slice none 0 0,.slice none 0 0,.int .u64 0,.int .u64 0,.slice none 0 0] 37 (0,0)) ∧ wd.heap.size ≤ z) ?_ ?_
  rotate_left
  ·intro hCont
   refine two_ (i := 8) (j := 12) (Ni := some 14) (Nj := some 3) (mB_ 15 511) (mB_ 15 4351) rfl rfl rfl rfl (two_of HT_.out (by kernel_rfl)) (by decide) (by decide) (fun K hK => ?_) (fun K hK => ?_)
   ·skip
    refine goes_ Try.func15 (by kernel_rfl) rfl #[.pointer (some ⟨g,0,none⟩),.int .i64 en] (by rfl) rfl rfl (by simp only [List.map_toArray,List.map_cons,List.map_nil];rfl) ?_
    with_reducible refine ((HPD.out.below HB9.out).gr.nodeN en HT.out).mono ?_
    rintro e w7 ⟨rfl,hb⟩
    refine ⟨_,rfl, ?_⟩
    have NHB9 := Aside0.mk (bel_trans HB9.out hb)
    clear hb
    clear HB9
    have HB9 := NHB9
    clear NHB9
    refine hK.out _ _ ⟨((blk_cell (HPD.out.below HB9.out).box 3).trans rfl),((blk_cell (HPD.out.below HB9.out).box 4).trans rfl)⟩ (fun hHeld => ?_)
    clear hK K
    refine norm_ (a' := ?_) ?_ ?_
    rotate_left
    ·show Act.put _ (some 14) _ = _
     simp only [Act.put,sT_,sZ_,sS_,i64_w,i32_w]
     rfl
    iterate 3 (refine pn_ 511 [(9,5,1023),(10,15,2047),(11,16,4095)] (v := ?_) (a' := ?_) rfl rfl rfl HT_.out (by kernel_rfl) (Or.inl ⟨by rfl, ?_⟩) ?_ ?_;rotate_left;(· intro w';go_simp;with_reducible rfl);rotate_left;(· simp only [Act.put,sT_,sZ_,sS_,i64_w,i32_w];rfl))
    refine one_ (i := 12) (N := some 3) (mB_ 15 8191) rfl rfl (one_of HT_.out (by kernel_rfl)) (by decide) (fun K hK => ?_)
    refine value_ (w1 := ?_) (v := ?_) (by rfl) rfl ?_ ?_
    rotate_left 2
    ·go_simp
     constructor
     ·rfl
     ·rfl
    have HBX := Aside0.mk (by have h := heap_alloc_new w7 (.cells #[.int .u32 0,.slice none 0 0,.slice none 0 0,.int .u64 0,.int .u64 0,.slice none 0 0] 37);(try simp only [World.size_alloc] at h);exact h)
    have HYN := Aside0.mk (by have h := HB9.out.size;(try simp only [World.size_alloc] at h);exact h)
    have NHB9 := Aside0.mk (bel_alloc HB9.out (.cells #[.int .u32 0,.slice none 0 0,.slice none 0 0,.int .u64 0,.int .u64 0,.slice none 0 0] 37))
    clear HB9
    have HB9 := NHB9
    clear NHB9
    refine hK.out _ _ ⟨((blk_cell (HPD.out.below HB9.out).box 3).trans rfl),((blk_cell (HPD.out.below HB9.out).box 4).trans rfl)⟩ (fun hHeld => ?_)
    clear hK K
    refine norm_ (a' := ?_) ?_ ?_
    rotate_left
    ·show Act.put _ (some 3) _ = _
     simp only [Act.put,sT_,sZ_,sS_,i64_w,i32_w]
     rfl
    exact norm_ (by simp only [Go.Proofs.YtofmlajanopniaaW.PrintLast.putAll,Act.put,sT_,sZ_,sS_]) (hCont (World.heap w7).size _ ⟨HB9.out,HBX.out,HYN.out⟩)
   ·skip
    refine value_ (w1 := ?_) (v := ?_) (by rfl) rfl ?_ ?_
    rotate_left 2
    ·go_simp
     constructor
     ·rfl
     ·rfl
    have HBX := Aside0.mk (by have h := heap_alloc_new wd (.cells #[.int .u32 0,.slice none 0 0,.slice none 0 0,.int .u64 0,.int .u64 0,.slice none 0 0] 37);(try simp only [World.size_alloc] at h);exact h)
    have HYN := Aside0.mk (by have h := HB9.out.size;(try simp only [World.size_alloc] at h);exact h)
    have NHB9 := Aside0.mk (bel_alloc HB9.out (.cells #[.int .u32 0,.slice none 0 0,.slice none 0 0,.int .u64 0,.int .u64 0,.slice none 0 0] 37))
    clear HB9
    have HB9 := NHB9
    clear NHB9
    refine hK.out _ _ ⟨((blk_cell (HPD.out.below HB9.out).box 3).trans rfl),((blk_cell (HPD.out.below HB9.out).box 4).trans rfl)⟩ (fun hHeld => ?_)
    clear hK K
    refine norm_ (a' := ?_) ?_ ?_
    rotate_left
    ·show Act.put _ (some 3) _ = _
     simp only [Act.put,sT_,sZ_,sS_,i64_w,i32_w]
     rfl
    refine one_ (i := 8) (N := some 14) (mB_ 15 4607) rfl rfl (one_of HT_.out (by kernel_rfl)) (by decide) (fun K hK => ?_)
    refine goes_ Try.func15 (by kernel_rfl) rfl #[.pointer (some ⟨g,0,none⟩),.int .i64 en] (by rfl) rfl rfl (by simp only [List.map_toArray,List.map_cons,List.map_nil];rfl) ?_
    with_reducible refine ((HPD.out.below HB9.out).gr.nodeN en HT.out).mono ?_
    rintro e w7 ⟨rfl,hb⟩
    refine ⟨_,rfl, ?_⟩
    have NHB9 := Aside0.mk (bel_trans HB9.out hb)
    have NHBX := Aside0.mk (blk_below HBX.out hb)
    clear hb
    clear HB9 HBX
    have HB9 := NHB9
    have HBX := NHBX
    clear NHB9 NHBX
    refine hK.out _ _ ⟨((blk_cell (HPD.out.below HB9.out).box 3).trans rfl),((blk_cell (HPD.out.below HB9.out).box 4).trans rfl)⟩ (fun hHeld => ?_)
    clear hK K
    refine norm_ (a' := ?_) ?_ ?_
    rotate_left
    ·show Act.put _ (some 14) _ = _
     simp only [Act.put,sT_,sZ_,sS_,i64_w,i32_w]
     rfl
    iterate 3 (refine pn_ 4607 [(9,5,5119),(10,15,6143),(11,16,8191)] (v := ?_) (a' := ?_) rfl rfl rfl HT_.out (by kernel_rfl) (Or.inl ⟨by rfl, ?_⟩) ?_ ?_;rotate_left;(· intro w';go_simp;with_reducible rfl);rotate_left;(· simp only [Act.put,sT_,sZ_,sS_,i64_w,i32_w];rfl))
    exact norm_ (by simp only [Go.Proofs.YtofmlajanopniaaW.PrintLast.putAll,Act.put,sT_,sZ_,sS_]) (hCont (World.heap wd).size _ ⟨HB9.out,HBX.out,HYN.out⟩)
  rintro bn w8 ⟨h1,h2,h3⟩
  clear HB9
  have HB9 := Aside0.mk (show Below wd.heap.size wd w8 from h1)
  have HX8 := Aside0.mk (show (World.heap w8)[bn]? = some (.cells #[.int .u32 0,.slice none 0 0,.slice none 0 0,.int .u64 0,.int .u64 0,.slice none 0 0] 37 (0,0)) from h2)
  have HYN := Aside0.mk (show wd.heap.size ≤ bn from h3)
  clear h1 h2 h3
  have hHeld := And.intro ((blk_cell (HPD.out.below HB9.out).box 3).trans rfl) ((blk_cell (HPD.out.below HB9.out).box 4).trans rfl)
  refine norm_ (a' := ?_) ?_ ?_
  rotate_left
  ·simp only [Go.Proofs.YtofmlajanopniaaW.PrintLast.putAll,Act.put,sT_,sZ_,sS_]
   rfl
  refine last_ (i := 13) (N := none) (mB_ 15 16383) rfl rfl (one_of HT_.out (by kernel_rfl)) (by decide) (fun K hK => ?_)
  have z0 := (blk_cell HX8.out 0).trans rfl
  have z1 := (blk_cell HX8.out 1).trans rfl
  have z2 := (blk_cell HX8.out 2).trans rfl
  have z3 := (blk_cell HX8.out 3).trans rfl
  have z4 := (blk_cell HX8.out 4).trans rfl
  have z5 := (blk_cell HX8.out 5).trans rfl
  have fz : ∀ j,w8.frozen? ⟨bn,j,none⟩ = false := fun j => blk_frozen HX8.out j
  refine skip_ (w1 := ?_) (by rfl) rfl ?_ ?_
  rotate_left
  ·go_simp
   rfl
  clear z0 z1 z2 z3 z4 z5 fz
  refine hK.out _ _ ?_
  clear hK K
  refine pn_ 16383 [(14,4,32767)] (v := ?_) (a' := ?_) rfl rfl rfl HT_.out (by kernel_rfl) (Or.inl ⟨by rfl, ?_⟩) ?_ ?_;rotate_left;(· intro w';go_simp;with_reducible rfl);rotate_left;(· simp only [Act.put,sT_,sZ_,sS_,i64_w,i32_w];rfl)
  refine done_ (done_of HT_.out (by kernel_rfl)) ?_
  clear hHeld
  obtain ⟨w9,hw9⟩ : ∃ z,(((((w8.setCell ⟨bn,0,none⟩ (.int .u32 0)).setCell ⟨bn,1,none⟩ (.slice none 0 0)).setCell ⟨bn,2,none⟩ (.slice none 0 0)).setCell ⟨bn,3,none⟩ (.int .u64 0)).setCell ⟨bn,4,none⟩ (.int .u64 0)).setCell ⟨bn,5,none⟩ (.slice none 0 0) = z := ⟨_,rfl⟩
  have HX9 := Aside0.mk (boxed_node HX8.out hw9)
  have HBY := Aside0.mk (boxed_below HB9.out HYN.out hw9)
  rw [hw9]
  clear hw9 HB9 HX8
  have z0 := (blk_cell HX9.out 0).trans rfl
  have z1 := (blk_cell HX9.out 1).trans rfl
  have z2 := (blk_cell HX9.out 2).trans rfl
  have z3 := (blk_cell HX9.out 3).trans rfl
  have z4 := (blk_cell HX9.out 4).trans rfl
  have z5 := (blk_cell HX9.out 5).trans rfl
  go_wp2
  go_ret
  exact ⟨by first | rfl | (rw [hw];rfl),bel_trans HWD.out HBY.out⟩
 | true =>
  obtain ⟨k,j,nd,rfl, -,hn, -⟩ := there_iff.1 ht
  rw [topG_yes hn]
  have HND := Aside0.mk hn
  have hw : wrap64 ((nd.links.length : Int) - 1) = (nd.links.length : Int) - 1 := by have := (HV.out.lk k nd hn).1;unfold wrap64;omega
  clear ht hn
  go_enter Try.func60,Try.ntmps60
  go_wp2
  have HPD := Aside0.mk (HP.out.below (below_drew (Below.refl _ _)))
  have HWD := Aside0.mk ((below_drew (Below.refl _ _)) : Below w.heap.size w w.drew)
  clear HP
  have HB9 := Aside0.mk (Below.refl w.drew.heap.size w.drew)
  refine start_ (n := 15) (S := fun w' => w'.cell? ⟨b,3,none⟩ = some (.pointer (some ⟨g,0,none⟩)) ∧ w'.cell? ⟨b,4,none⟩ = some (.int .i64 k)) (ds := [13]) (mB_ 15 0) (by kernel_rfl) rfl rfl ⟨((blk_cell (HPD.out.below HB9.out).box 3).trans rfl),((blk_cell (HPD.out.below HB9.out).box 4).trans rfl)⟩ (fun hHeld => ?_)
  refine with_tabW htop.tab1 htop.bits1 (fun HT_ HW_ => ?_)
  generalize w.drew = wd at HPD HWD HB9 hHeld ⊢
  iterate 6 (refine pn_ 0 [(0,6,1),(1,7,3),(2,8,7),(4,10,23),(5,11,55),(6,12,119)] (v := ?_) (a' := ?_) rfl rfl rfl HT_.out (by kernel_rfl) (Or.inl ⟨by rfl, ?_⟩) ?_ ?_;rotate_left;(· intro w';go_simp;with_reducible rfl);rotate_left;(· simp only [Act.put,sT_,sZ_,sS_,i64_w,i32_w];rfl))
  iterate 2 (refine tn_ 119 [(3,9,127),(7,13,255)] (v := ?_) (a' := ?_) rfl rfl rfl HT_.out HW_.out (by kernel_rfl) (Or.inl ⟨by rfl, ?_⟩) hHeld ?_ ?_;rotate_left;(· rintro w' ⟨s0,s1⟩;go_simp;with_reducible rfl);rotate_left;(· simp only [Act.put,sT_,sZ_,sS_,i64_w,i32_w];rfl))
  refine join_ (σ := Option Addr × Nat × Option Addr × Nat × Nat × Nat × Nat) 2 (mB_ 15 8191) (fun z => [(14,.tuple #[.agg #[.int .u32 nd.id,.slice z.1 nd.vec.length z.2.1,.slice z.2.2.1 nd.tags.length z.2.2.2.1,.int .u64 nd.fr,.int .u64 nd.un,.slice (some ⟨z.2.2.2.2.1,0,none⟩) nd.links.length z.2.2.2.2.2.1],.bool true]),(5,.tuple #[.agg #[.int .u32 nd.id,.slice z.1 nd.vec.length z.2.1,.slice z.2.2.1 nd.tags.length z.2.2.2.1,.int .u64 nd.fr,.int .u64 nd.un,.slice (some ⟨z.2.2.2.2.1,0,none⟩) nd.links.length z.2.2.2.2.2.1],.bool true]),(15,.agg #[.int .u32 nd.id,.slice z.1 nd.vec.length z.2.1,.slice z.2.2.1 nd.tags.length z.2.2.2.1,.int .u64 nd.fr,.int .u64 nd.un,.slice (some ⟨z.2.2.2.2.1,0,none⟩) nd.links.length z.2.2.2.2.2.1]),(16,.bool true),(3,.pointer (some ⟨z.2.2.2.2.2.2,0,none⟩))]) (fun z w' => Below wd.heap.size wd w' ∧ (World.heap w')[z.2.2.2.2.2.2]? = some (.cells #[.int .u32 0,.slice none 0 0,.slice none 0 0,.int .u64 0,.int .u64 0,.slice none 0 0] 37 (0,0)) ∧ wd.heap.size ≤ z.2.2.2.2.2.2 ∧ NV w' nd z.1 z.2.1 z.2.2.1 z.2.2.2.1 z.2.2.2.2.1 z.2.2.2.2.2.1) ?_ ?_
  rotate_left
  ·intro hCont
   refine two_ (i := 8) (j := 12) (Ni := some 14) (Nj := some 3) (mB_ 15 511) (mB_ 15 4351) rfl rfl rfl rfl (two_of HT_.out (by kernel_rfl)) (by decide) (by decide) (fun K hK => ?_) (fun K hK => ?_)
   ·skip
    refine goes_ Try.func15 (by kernel_rfl) rfl #[.pointer (some ⟨g,0,none⟩),.int .i64 k] (by rfl) rfl rfl (by simp only [List.map_toArray,List.map_cons,List.map_nil];rfl) ?_
    with_reducible refine ((HPD.out.below HB9.out).gr.nodeV HV.out HN.out HND.out rfl).mono ?_
    rintro e w7 ⟨⟨B1,d1,B2,d2,r_,cp,rfl,hnv⟩,hb⟩
    refine ⟨_,rfl, ?_⟩
    have NHB9 := Aside0.mk (bel_trans HB9.out hb)
    have HNV := Aside0.mk hnv
    clear hb hnv
    clear HB9
    have HB9 := NHB9
    clear NHB9
    refine hK.out _ _ ⟨((blk_cell (HPD.out.below HB9.out).box 3).trans rfl),((blk_cell (HPD.out.below HB9.out).box 4).trans rfl)⟩ (fun hHeld => ?_)
    clear hK K
    refine norm_ (a' := ?_) ?_ ?_
    rotate_left
    ·show Act.put _ (some 14) _ = _
     simp only [Act.put,sT_,sZ_,sS_,i64_w,i32_w]
     rfl
    iterate 3 (refine pn_ 511 [(9,5,1023),(10,15,2047),(11,16,4095)] (v := ?_) (a' := ?_) rfl rfl rfl HT_.out (by kernel_rfl) (Or.inl ⟨by rfl, ?_⟩) ?_ ?_;rotate_left;(· intro w';go_simp;with_reducible rfl);rotate_left;(· simp only [Act.put,sT_,sZ_,sS_,i64_w,i32_w];rfl))
    refine one_ (i := 12) (N := some 3) (mB_ 15 8191) rfl rfl (one_of HT_.out (by kernel_rfl)) (by decide) (fun K hK => ?_)
    refine value_ (w1 := ?_) (v := ?_) (by rfl) rfl ?_ ?_
    rotate_left 2
    ·go_simp
     constructor
     ·rfl
     ·rfl
    have HBX := Aside0.mk (by have h := heap_alloc_new w7 (.cells #[.int .u32 0,.slice none 0 0,.slice none 0 0,.int .u64 0,.int .u64 0,.slice none 0 0] 37);(try simp only [World.size_alloc] at h);exact h)
    have HYN := Aside0.mk (by have h := HB9.out.size;(try simp only [World.size_alloc] at h);exact h)
    have NHB9 := Aside0.mk (bel_alloc HB9.out (.cells #[.int .u32 0,.slice none 0 0,.slice none 0 0,.int .u64 0,.int .u64 0,.slice none 0 0] 37))
    have NHNV := Aside0.mk (HNV.out.below (below_alloc (Below.refl _ _) (.cells #[.int .u32 0,.slice none 0 0,.slice none 0 0,.int .u64 0,.int .u64 0,.slice none 0 0] 37)))
    clear HB9 HNV
    have HB9 := NHB9
    have HNV := NHNV
    clear NHB9 NHNV
    refine hK.out _ _ ⟨((blk_cell (HPD.out.below HB9.out).box 3).trans rfl),((blk_cell (HPD.out.below HB9.out).box 4).trans rfl)⟩ (fun hHeld => ?_)
    clear hK K
    refine norm_ (a' := ?_) ?_ ?_
    rotate_left
    ·show Act.put _ (some 3) _ = _
     simp only [Act.put,sT_,sZ_,sS_,i64_w,i32_w]
     rfl
    exact norm_ (by simp only [Go.Proofs.YtofmlajanopniaaW.PrintLast.putAll,Act.put,sT_,sZ_,sS_]) (hCont (B1,d1,B2,d2,r_,cp,(World.heap w7).size) _ ⟨HB9.out,HBX.out,HYN.out,HNV.out⟩)
   ·skip
    refine value_ (w1 := ?_) (v := ?_) (by rfl) rfl ?_ ?_
    rotate_left 2
    ·go_simp
     constructor
     ·rfl
     ·rfl
    have HBX := Aside0.mk (by have h := heap_alloc_new wd (.cells #[.int .u32 0,.slice none 0 0,.slice none 0 0,.int .u64 0,.int .u64 0,.slice none 0 0] 37);(try simp only [World.size_alloc] at h);exact h)
    have HYN := Aside0.mk (by have h := HB9.out.size;(try simp only [World.size_alloc] at h);exact h)
    have NHB9 := Aside0.mk (bel_alloc HB9.out (.cells #[.int .u32 0,.slice none 0 0,.slice none 0 0,.int .u64 0,.int .u64 0,.slice none 0 0] 37))
    clear HB9
    have HB9 := NHB9
    clear NHB9
    refine hK.out _ _ ⟨((blk_cell (HPD.out.below HB9.out).box 3).trans rfl),((blk_cell (HPD.out.below HB9.out).box 4).trans rfl)⟩ (fun hHeld => ?_)
    clear hK K
    refine norm_ (a' := ?_) ?_ ?_
    rotate_left
    ·show Act.put _ (some 3) _ = _
     simp only [Act.put,sT_,sZ_,sS_,i64_w,i32_w]
     rfl
    refine one_ (i := 8) (N := some 14) (mB_ 15 4607) rfl rfl (one_of HT_.out (by kernel_rfl)) (by decide) (fun K hK => ?_)
    refine goes_ Try.func15 (by kernel_rfl) rfl #[.pointer (some ⟨g,0,none⟩),.int .i64 k] (by rfl) rfl rfl (by simp only [List.map_toArray,List.map_cons,List.map_nil];rfl) ?_
    with_reducible refine ((HPD.out.below HB9.out).gr.nodeV HV.out HN.out HND.out rfl).mono ?_
    rintro e w7 ⟨⟨B1,d1,B2,d2,r_,cp,rfl,hnv⟩,hb⟩
    refine ⟨_,rfl, ?_⟩
    have NHB9 := Aside0.mk (bel_trans HB9.out hb)
    have HNV := Aside0.mk hnv
    have NHBX := Aside0.mk (blk_below HBX.out hb)
    clear hb hnv
    clear HB9 HBX
    have HB9 := NHB9
    have HBX := NHBX
    clear NHB9 NHBX
    refine hK.out _ _ ⟨((blk_cell (HPD.out.below HB9.out).box 3).trans rfl),((blk_cell (HPD.out.below HB9.out).box 4).trans rfl)⟩ (fun hHeld => ?_)
    clear hK K
    refine norm_ (a' := ?_) ?_ ?_
    rotate_left
    ·show Act.put _ (some 14) _ = _
     simp only [Act.put,sT_,sZ_,sS_,i64_w,i32_w]
     rfl
    iterate 3 (refine pn_ 4607 [(9,5,5119),(10,15,6143),(11,16,8191)] (v := ?_) (a' := ?_) rfl rfl rfl HT_.out (by kernel_rfl) (Or.inl ⟨by rfl, ?_⟩) ?_ ?_;rotate_left;(· intro w';go_simp;with_reducible rfl);rotate_left;(· simp only [Act.put,sT_,sZ_,sS_,i64_w,i32_w];rfl))
    exact norm_ (by simp only [Go.Proofs.YtofmlajanopniaaW.PrintLast.putAll,Act.put,sT_,sZ_,sS_]) (hCont (B1,d1,B2,d2,r_,cp,(World.heap wd).size) _ ⟨HB9.out,HBX.out,HYN.out,HNV.out⟩)
  rintro ⟨B1,d1,B2,d2,r_,cp,bn⟩ w8 ⟨h1,h2,h3,h4⟩
  clear HB9
  have HB9 := Aside0.mk (show Below wd.heap.size wd w8 from h1)
  have HX8 := Aside0.mk (show (World.heap w8)[bn]? = some (.cells #[.int .u32 0,.slice none 0 0,.slice none 0 0,.int .u64 0,.int .u64 0,.slice none 0 0] 37 (0,0)) from h2)
  have HYN := Aside0.mk (show wd.heap.size ≤ bn from h3)
  have HNV := Aside0.mk (show NV w8 nd B1 d1 B2 d2 r_ cp from h4)
  clear h1 h2 h3 h4
  have hHeld := And.intro ((blk_cell (HPD.out.below HB9.out).box 3).trans rfl) ((blk_cell (HPD.out.below HB9.out).box 4).trans rfl)
  refine norm_ (a' := ?_) ?_ ?_
  rotate_left
  ·simp only [Go.Proofs.YtofmlajanopniaaW.PrintLast.putAll,Act.put,sT_,sZ_,sS_]
   rfl
  refine last_ (i := 13) (N := none) (mB_ 15 16383) rfl rfl (one_of HT_.out (by kernel_rfl)) (by decide) (fun K hK => ?_)
  have z0 := (blk_cell HX8.out 0).trans rfl
  have z1 := (blk_cell HX8.out 1).trans rfl
  have z2 := (blk_cell HX8.out 2).trans rfl
  have z3 := (blk_cell HX8.out 3).trans rfl
  have z4 := (blk_cell HX8.out 4).trans rfl
  have z5 := (blk_cell HX8.out 5).trans rfl
  have fz : ∀ j,w8.frozen? ⟨bn,j,none⟩ = false := fun j => blk_frozen HX8.out j
  refine skip_ (w1 := ?_) (by rfl) rfl ?_ ?_
  rotate_left
  ·go_simp
   rfl
  clear z0 z1 z2 z3 z4 z5 fz
  refine hK.out _ _ ?_
  clear hK K
  refine pn_ 16383 [(14,4,32767)] (v := ?_) (a' := ?_) rfl rfl rfl HT_.out (by kernel_rfl) (Or.inl ⟨by rfl, ?_⟩) ?_ ?_;rotate_left;(· intro w';go_simp;with_reducible rfl);rotate_left;(· simp only [Act.put,sT_,sZ_,sS_,i64_w,i32_w];rfl)
  refine done_ (done_of HT_.out (by kernel_rfl)) ?_
  clear hHeld
  obtain ⟨w9,hw9⟩ : ∃ z,(((((w8.setCell ⟨bn,0,none⟩ (.int .u32 nd.id)).setCell ⟨bn,1,none⟩ (.slice B1 nd.vec.length d1)).setCell ⟨bn,2,none⟩ (.slice B2 nd.tags.length d2)).setCell ⟨bn,3,none⟩ (.int .u64 nd.fr)).setCell ⟨bn,4,none⟩ (.int .u64 nd.un)).setCell ⟨bn,5,none⟩ (.slice (some ⟨r_,0,none⟩) nd.links.length cp) = z := ⟨_,rfl⟩
  have HX9 := Aside0.mk (boxed_node HX8.out hw9)
  have HBY := Aside0.mk (boxed_below HB9.out HYN.out hw9)
  have HNY := Aside0.mk (HNV.out.box HX8.out (boxed_only hw9))
  rw [hw9]
  clear hw9 HB9 HX8 HNV
  have z0 := (blk_cell HX9.out 0).trans rfl
  have z1 := (blk_cell HX9.out 1).trans rfl
  have z2 := (blk_cell HX9.out 2).trans rfl
  have z3 := (blk_cell HX9.out 3).trans rfl
  have z4 := (blk_cell HX9.out 4).trans rfl
  have z5 := (blk_cell HX9.out 5).trans rfl
  go_wp2
  go_ret
  exact ⟨by first | rfl | (rw [hw];rfl),bel_trans HWD.out HBY.out⟩
end
theorem placesL_snoc {L : List H} {i : Nat} (hi : i < L.length) : placesL (L.take i) ++ [L[i].f1] = placesL (L.take (i + 1)) := by
 unfold placesL
 rw [List.take_succ_eq_append_getElem hi,List.map_append]
 rfl
theorem placesL_len (L : List H) : (placesL L).length = L.length := List.length_map _
set_option maxHeartbeats 4000000 in
set_option maxRecDepth 100000 in
theorem places_calls (A : Option Addr) (c : Nat) (L : List H) (w : World) (h : ReadsH w A c L) (hl : L.length ≤ 1000) (hid : ∀ x ∈ L,0 ≤ x.f1 ∧ x.f1 < 1000000) :
  Calls Try.prog 61 #[.slice A L.length c] w fun e w' => (∃ v,e = .returned v ∧ OwnZ w' w.heap.size v (placesL L)) ∧ Below w.heap.size w w' := by
 have hu := Try.underlying58
 have HR := Aside0.mk h
 have HL := Aside0.mk hl
 have HID := Aside0.mk hid
 clear h hl hid
 go_enter Try.func61,Try.ntmps61
 go_wp2
 go_loopg [3,8] L.length (fun gk v3 v8 wr => ∃ (i : Nat),v8 = .int .i64 i ∧ Aside0 (i ≤ L.length ∧ L.length - i ≤ gk) ∧ Aside0 (OwnZ wr w.heap.size v3 (placesL (L.take i))) ∧ Aside0 (Below w.heap.size w wr))
 case atStart => exact ⟨0,rfl,⟨by omega⟩,⟨OwnZ.nil _ _⟩,⟨Below.refl _ _⟩⟩
 case round =>
  obtain ⟨i,rfl,HI,HZ,HB⟩ := hrel
  by_cases hi : i < L.length
  ·have q1 : decide ((i : Int) < (L.length : Int)) = true := decide_eq_true (by omega)
   have q1' : (i : Int) < (L.length : Int) := by omega
   have HIL := Aside0.mk hi
   have HIN := Aside0.mk (show wrap64 ((i : Int) + 1) = ((i + 1 : Nat) : Int) by have := HL.out;unfold wrap64;omega)
   obtain ⟨ad,x,rfl,hx,hc0,hc1⟩ := HR.out.at hi
   have c0 := pw_cell_below HB.out hc0
   have c1 := pw_cell_below HB.out hc1
   have HXE := Aside0.mk (show x = L[i]'(HIL.out) by rw [List.getElem?_eq_getElem hi] at hx;injection hx with hx;exact hx.symm)
   have hr := HID.out x (List.mem_of_getElem? hx)
   have hw : wrap64 x.f1 = x.f1 := by unfold wrap64;omega
   have HBA := Aside0.mk (bel_alloc HB.out (.cells #[.int .i64 x.f0,.int .u32 x.f1] 58))
   have HZA := Aside0.mk (HZ.out.below (below_alloc (Below.refl _ _) (.cells #[.int .i64 x.f0,.int .u32 x.f1] 58)))
   obtain ⟨gk,rfl⟩ : ∃ m,gk = m + 1 := ⟨gk - 1,by have := HI.out;omega⟩
   clear hi hx hc0 hc1 hr
   go_wp2_with (at_builtin;go_must (refine app_Z rfl _ _ rfl w.heap.size _ (placesL (L.take i)) [x.f1] (some ⟨wr.heap.size + 1,0,none⟩) 1 1 rfl rfl rfl (HZA.out.below (below_trans_alloc (Below.refl _ _))) (lit1' _ _ _ _ _ (by rw [World.size_alloc])) (fun e => by cases e) (by have := HL.out;rw [placesL_len,List.length_take];simp only [List.length_cons,List.length_nil];omega) (by rw [World.size_alloc,World.size_alloc];have := HB.out.size;omega) ?_);intro v6 w6 hv hO hat;rw [HXE.out,placesL_snoc HIL.out] at hv;have HZ6 := Aside0.mk hv;have HB6 := Aside0.mk (hO.below_of (bel_alloc HBA.out _) (fun i hi => own_base HZ.out i hi));clear hv hO hat)
   go_roundg gk
   case measure => omega
   case rel => exact ⟨i + 1,congrArg (Value.int .i64) HIN.out,⟨by have := HI.out;have := HIL.out;omega⟩,HZ6,HB6⟩
  ·have q1 : decide ((i : Int) < (L.length : Int)) = false := decide_eq_false (by omega)
   have q1' : (i < L.length) = False := eq_false hi
   have q1'' : decide (i < L.length) = false := decide_eq_false hi
   have HE := Aside0.mk (show L.take i = L from List.take_of_length_le (by omega))
   clear hi
   go_wp2
   go_ret
   rw [HE.out] at HZ
   exact ⟨⟨_,rfl,HZ.out⟩,HB.out⟩
end Go.Proofs.Ytofmlajanopniaa.Li
namespace Go.Proofs.Ytofmlajanopniaa.Li
open Go.RowKit Go.Maps Go.Proofs.YtofmlajanopniaaW.PrintWords Go.Proofs.YtofmlajanopniaaW.PrintLast Go.Proofs.YtofmlajanopniaaW.PrintMore Go.Proofs.Ytofmlajanopniaa.Q Go.Proofs.Ytofmlajanopniaa.Tk
theorem topG_le {s : Gr} {N : Nat} (hi : Inv s N) (e : Int) : -1 ≤ topG s e ∧ topG s e ≤ 4 := by
 cases ht : s.there e 0 with
 | false => rw [topG_no ht];omega
 | true =>
  obtain ⟨k,j,nd,rfl, -,hn, -⟩ := there_iff.1 ht
  rw [topG_yes hn]
  have := (hi.lk k nd hn).1
  omega
theorem downL_on {s : Gr} {q : List Int} {lv l a : Int} (h : lv < l) : downL s q lv (l - lv).toNat a = downL s q lv (l - 1 - lv).toNat (stepDown s q a l) := by
 obtain ⟨n,hn⟩ : ∃ n : Nat,(l - lv).toNat = n + 1 := ⟨(l - lv).toNat - 1,by omega⟩
 rw [hn,show (l - 1 - lv).toNat = n by omega]
 show downL s q lv n (stepDown s q a (lv + ((n : Int) + 1))) = _
 rw [show lv + ((n : Int) + 1) = l by omega]
theorem downL_off {s : Gr} {q : List Int} {lv l a : Int} (h : ¬ lv < l) : downL s q lv (l - lv).toNat a = a := by
 rw [show (l - lv).toNat = 0 by omega]
 rfl
theorem OwnH.first {w : World} {b : Nat} {v : Value} {x : H} {R : List H} (h : OwnH w b v (x :: R)) : ∃ r cp,v = .slice (some ⟨r,0,none⟩) (x :: R).length cp ∧ w.cell? ⟨r,0,none⟩ = some (.int .i64 x.f0) ∧ w.cell? ⟨r,1,none⟩ = some (.int .u32 x.f1) := by
 rcases h.row with ⟨_,e⟩ | ⟨r,cap,e,_,_,hr⟩
 ·cases e
 ·obtain ⟨g0,g1,_,_⟩ := hr.cells 0 (by simp)
  exact ⟨r,cap,e,by simpa using g0,by simpa using g1⟩
theorem stepDown_nil {s : Gr} {q : List Int} {a l : Int} (h : walkG s q [a] 1 l = []) : stepDown s q a l = a := by unfold stepDown;rw [h]
theorem stepDown_cons {s : Gr} {q : List Int} {a l : Int} {x : H} {R : List H} (h : walkG s q [a] 1 l = x :: R) : stepDown s q a l = x.f1 := by unfold stepDown;rw [h]
section
variable {X : Nat → Prop} {w0 w : World} {b g mb : Nat} {lk wd en : Int} {s : Gr} {n N : Nat} {f : Int → Option Int}
set_option maxHeartbeats 8000000 in
set_option maxRecDepth 100000 in
theorem PI.down (h : PI X w0 w b g mb lk wd en s n f) (hi : Inv s N) (hN : N ≤ 90000) (A : Option Addr) (c : Nat) (q : List Int) (hq : Kd.C (Kd.int .i32) w A q.length q) (hqc : q.length ≤ c) (lv : Int) (h0 : 0 ≤ lv) :
  Calls Try.prog 59 #[.pointer (some ⟨b,0,none⟩),.slice A q.length c,.int .i64 lv] w fun e w' => e = .returned (.int .i64 (downG s q en lv)) ∧ Below w.heap.size w w' := by
 have hu := Try.underlying107
 have hu2 := Try.underlying58
 have HP := Aside0.mk h
 have HV := Aside0.mk hi
 have HN := Aside0.mk hN
 have HQ := Aside0.mk (And.intro hq hqc)
 have HT := Aside0.mk (topG_le hi en)
 have HL0 := Aside0.mk h0
 have y4 := (blk_cell h.box 4).trans rfl
 obtain ⟨ANS,hANS⟩ : ∃ z,downG s q en lv = z := ⟨_,rfl⟩
 have HA := Aside0.mk (show downL s q lv (topG s en - lv).toNat en = ANS from hANS)
 rw [hANS]
 obtain ⟨T,hT⟩ : ∃ z,topG s en = z := ⟨_,rfl⟩
 rw [hT] at HT HA
 have HTT := Aside0.mk hT
 clear h hi hN hq hqc h0 hANS hT
 go_enter Try.func59,Try.ntmps59
 go_wp2_with (go_at_call 60;(with_reducible refine (HP.out.top HV.out HN.out).mono ?_);rintro e w1 ⟨rfl,hb⟩;rw [HTT.out];have HB1 := Aside0.mk hb;clear hb)
 go_loopg [7,8] (T + 1).toNat (fun gk v7 v8 wr => ∃ (a l : Int),v7 = .int .i64 a ∧ v8 = .int .i64 l ∧ Aside0 (-1 ≤ l ∧ l ≤ T ∧ (l + 1).toNat ≤ gk) ∧ Aside0 (downL s q lv (l - lv).toNat a = ANS) ∧ Aside0 (Below w.heap.size w wr))
 case atStart => exact ⟨en,T,rfl,rfl,⟨by have := HT.out;omega⟩,HA,HB1⟩
 case round =>
  obtain ⟨a,l,rfl,rfl,HI,HD,HB⟩ := hrel
  by_cases hi : lv < l
  ·have q1 : decide (lv < l) = true := decide_eq_true hi
   have HIL := Aside0.mk hi
   have HIN := Aside0.mk (show wrap64 (l - 1) = l - 1 by have := HI.out;have := HT.out;unfold wrap64;omega)
   have HDN := Aside0.mk (HD.out.symm.trans (downL_on hi)).symm
   obtain ⟨gk,rfl⟩ : ∃ m,gk = m + 1 := ⟨gk - 1,by have := HI.out;have := HL0.out;omega⟩
   have HPR := Aside0.mk (HP.out.below HB.out)
   have y3 := (blk_cell HPR.out.box 3).trans rfl
   have HBA := Aside0.mk (bel_alloc HB.out (.cells #[.int .i64 a] 3))
   have HGA := Aside0.mk (HPR.out.gr.below (below_alloc (Below.refl _ _) (.cells #[.int .i64 a] 3)))
   obtain ⟨R,hR⟩ : ∃ z,walkG s q [a] 1 l = z := ⟨_,rfl⟩
   have HRE := Aside0.mk hR
   clear hi hR y4
   cases R with
   | nil =>
    have HSD := Aside0.mk (stepDown_nil HRE.out)
    go_wp2_with (go_at_call 19;go_must (with_reducible refine (HGA.out.walkP HV.out HN.out A c q (Kd.C_below HQ.out.1 HBA.out) HQ.out.2 _ 1 1 [a] rfl (lit1' _ _ _ _ _ rfl) (by omega) 1 l _ HRE.out).mono ?_);rintro e w2 ⟨⟨v2,rfl,hv⟩,hb⟩;obtain ⟨ao,cp,rfl,hrd⟩ := hv.reads;have HB2 := Aside0.mk (bel_trans HBA.out hb);clear hb hv hrd)
    go_roundg gk
    case measure => omega
    case rel => exact ⟨a,l - 1,rfl,congrArg (Value.int .i64) HIN.out,⟨by have := HI.out;have := HL0.out;have := HIL.out;omega⟩,⟨by have h1 := HDN.out;rw [HSD.out] at h1;exact h1⟩,HB2⟩
   | cons x R =>
    have HSD := Aside0.mk (stepDown_cons HRE.out)
    have hxr := walk_there (s := s) (q := q) (L := [a]) (width := 1) (lv := l) (h := x) (by rw [HRE.out];exact List.mem_cons_self)
    have hx1 := there_range hxr.1
    have hlen := HV.out.len
    have hw : wrap64 x.f1 = x.f1 := by have := HN.out;unfold wrap64;omega
    clear hxr hx1 hlen
    go_wp2_with (go_at_call 19;go_must (with_reducible refine (HGA.out.walkP HV.out HN.out A c q (Kd.C_below HQ.out.1 HBA.out) HQ.out.2 _ 1 1 [a] rfl (lit1' _ _ _ _ _ rfl) (by omega) 1 l _ HRE.out).mono ?_);rintro e w2 ⟨⟨v2,rfl,hv⟩,hb⟩;obtain ⟨r,cp,rfl,c0,c1⟩ := OwnH.first hv;have HB2 := Aside0.mk (bel_trans HBA.out hb);clear hb hv c0)
    go_roundg gk
    case measure => omega
    case rel => exact ⟨x.f1,l - 1,congrArg (Value.int .i64) hw,congrArg (Value.int .i64) HIN.out,⟨by have := HI.out;have := HL0.out;have := HIL.out;omega⟩,⟨by have h1 := HDN.out;rw [HSD.out] at h1;exact h1⟩,HB2⟩
  ·have q1 : decide (lv < l) = false := decide_eq_false hi
   have HE := Aside0.mk (HD.out.symm.trans (downL_off hi))
   clear hi
   go_wp2
   go_ret
   exact ⟨by rw [HE.out];rfl,HB.out⟩
end
end Go.Proofs.Ytofmlajanopniaa.Li
namespace Go.Proofs.Ytofmlajanopniaa.Li
open Go.RowKit Go.Maps Go.Proofs.YtofmlajanopniaaW.PrintWords Go.Proofs.YtofmlajanopniaaW.PrintLast Go.Proofs.YtofmlajanopniaaW.PrintMore Go.Proofs.Ytofmlajanopniaa.Q Go.Proofs.Ytofmlajanopniaa.Tk
/-! ### Plain: which node of an id is there still -/
theorem nowG_snoc (s : Gr) (x : Nd) (id : Int) : nowG ⟨s.m,s.l ++ [x]⟩ id = if (x.id == id && x.un == 0) = true then (s.l.length : Int) else nowG s id := by
 unfold nowG
 dsimp only
 rw [List.length_append,List.length_singleton]
 show (match (s.l ++ [x])[s.l.length]? with | some x => _ | none => _) = _
 rw [show (s.l ++ [x])[s.l.length]? = some x by simp]
 dsimp only
 split
 ·rfl
 ·exact nowTo_congr _ (fun i hi => by rw [List.getElem?_append_left hi])
theorem until_get (s : Gr) (i : Nat) (v : Int) (k : Nat) : (s.until_ i v).l[k]? = if k = i then (s.l[k]?).map (fun x => setUn x v) else s.l[k]? := by
 unfold Gr.until_
 cases hx : s.l[i]? with
 | none =>
  dsimp only
  split
  ·next e => subst e;rw [hx];rfl
  ·rfl
 | some x =>
  dsimp only
  rw [List.getElem?_set]
  by_cases e : i = k
  ·subst e
   rw [if_pos rfl,if_pos rfl,hx,if_pos (List.getElem?_eq_some_iff.1 hx).1]
   rfl
  ·rw [if_neg e,if_neg (fun h => e h.symm)]
theorem nowG_until {s : Gr} {i : Nat} {x : Nd} (hx : s.l[i]? = some x) {v id : Int} (hid : x.id ≠ id) : nowG (s.until_ i v) id = nowG s id := by
 have key : ∀ n,nowTo (s.until_ i v).l id n = nowTo s.l id n := by
  intro n
  induction n with
  | zero => rfl
  | succ n ih =>
   unfold nowTo
   rw [ih,until_get]
   by_cases e : n = i
   ·subst e
    rw [if_pos rfl,hx]
    have hb : (x.id == id) = false := by simpa using hid
    have hb2 : ((setUn x v).id == id) = false := hb
    simp only [Option.map_some,hb,hb2,Bool.false_and,Bool.false_eq_true,if_false]
   ·rw [if_neg e]
 unfold nowG
 rw [setUn_l]
 exact key _
theorem untilNow_l (s : Gr) (id v : Int) : (untilNow s id v).l.length = s.l.length := by
 unfold untilNow
 split
 ·exact setUn_l
 ·rfl
theorem untilNow_m (s : Gr) (id v : Int) : (untilNow s id v).m = s.m := by
 unfold untilNow
 split <;> rfl
theorem untilNow_gone {s : Gr} (hu : Uniq s) {id v : Int} (hv : v ≠ 0) : ∀ (k : Nat) (x : Nd),(untilNow s id v).l[k]? = some x → ¬ (x.id = id ∧ x.un = 0) := by
 intro k x hk ⟨h1,h2⟩
 unfold untilNow at hk
 rcases nowG_spec s id with ⟨e,hn⟩ | ⟨i,y,e,hy,y1,y2⟩
 ·rw [e,if_neg (by omega)] at hk
  exact hn x (List.mem_of_getElem? hk) ⟨h1,h2⟩
 ·rw [e,if_pos (by omega),Int.toNat_natCast,until_get] at hk
  split at hk
  ·next e2 =>
   subst e2
   rw [hy] at hk
   cases hk
   exact hv h2
  ·next e2 => exact e2 (hu k i x y hk hy (by rw [h1,y1]) h2 y2)
theorem untilNow_now {s : Gr} (hu : Uniq s) {id v : Int} (hv : v ≠ 0) (z : Int) : nowG (untilNow s id v) z = if z = id then -1 else nowG s z := by
 by_cases e : z = id
 ·subst e
  rw [if_pos rfl]
  rcases nowG_spec (untilNow s z v) z with ⟨e, -⟩ | ⟨i,y, -,hy,y1,y2⟩
  ·exact e
  ·exact absurd ⟨y1,y2⟩ (untilNow_gone hu hv i y hy)
 ·rw [if_neg e]
  unfold untilNow
  rcases nowG_spec s id with ⟨e0, -⟩ | ⟨i,y,e0,hy,y1,y2⟩
  ·rw [e0,if_neg (by omega)]
  ·rw [e0,if_pos (by omega),Int.toNat_natCast]
   exact nowG_until hy (fun h => e (by rw [← h,y1]))
theorem untilNow_uniq {s : Gr} (hu : Uniq s) {id v : Int} (hv : v ≠ 0) : Uniq (untilNow s id v) := by
 have key : ∀ (k : Nat) (x : Nd),(untilNow s id v).l[k]? = some x → x.un = 0 → s.l[k]? = some x := by
  intro k x hk h0
  unfold untilNow at hk
  split at hk
  ·rw [until_get] at hk
   split at hk
   ·obtain ⟨y, -,rfl⟩ := Option.map_eq_some_iff.1 hk
    exact absurd h0 hv
   ·exact hk
  ·exact hk
 intro i j x y hx hy hid h0 h1
 exact hu i j x y (key i x hx h0) (key j y hy h1) hid h0 h1
theorem untilNow_links (s : Gr) (id v : Int) (k : Nat) : ((untilNow s id v).l[k]?).map Nd.links = (s.l[k]?).map Nd.links := by
 unfold untilNow
 split
 ·rw [until_get]
  split
  ·cases s.l[k]? <;> rfl
  ·rfl
 ·rfl
theorem untilNow_ids {s : Gr} {p : Int → Prop} (h : ∀ nd ∈ s.l,p nd.id) (id v : Int) : ∀ nd ∈ (untilNow s id v).l,p nd.id := by
 intro nd hnd
 obtain ⟨k,hk⟩ := List.mem_iff_getElem?.1 hnd
 unfold untilNow at hk
 split at hk
 ·rw [until_get] at hk
  split at hk
  ·obtain ⟨y,hy,rfl⟩ := Option.map_eq_some_iff.1 hk
   exact h y (List.mem_of_getElem? hy)
  ·exact h nd (List.mem_of_getElem? hk)
 ·exact h nd (List.mem_of_getElem? hk)
theorem untilNow_inv {s : Gr} {n : Nat} (h : Inv s n) (id v : Int) : Inv (untilNow s id v) n := by
 unfold untilNow
 split
 ·exact h.until_ _ _
 ·exact h
theorem lk_congr {s t : Gr} (h : ∀ k : Nat,(t.l[k]?).map Nd.links = (s.l[k]?).map Nd.links) (i : Int) : t.lk i = s.lk i := by
 unfold Gr.lk
 split
 ·rw [h]
 ·rfl
theorem untilNow_lk (s : Gr) (id v i : Int) : (untilNow s id v).lk i = s.lk i := lk_congr (untilNow_links s id v) i
theorem untilNow_top (s : Gr) (id v e : Int) : topG (untilNow s id v) e = topG s e := by unfold topG;rw [untilNow_lk]
theorem untilNow_there (s : Gr) (id v i lv : Int) : (untilNow s id v).there i lv = s.there i lv := by unfold Gr.there;rw [untilNow_lk]
theorem untilNow_M {s : Gr} (hu : Uniq s) {id v : Int} (hv : v ≠ 0) : nowM (untilNow s id v) = fun z => if z = id then none else nowM s z := by
 funext z
 unfold nowM
 rw [untilNow_now hu hv]
 by_cases e : z = id
 ·rw [if_pos e,if_pos e,if_neg (by omega)]
 ·rw [if_neg e,if_neg e]
theorem cut_ok {x : Ix} {n : Nat} (h : IxOk x n) (id : Int) {v : Int} (hv : v ≠ 0) : IxOk (x.cut id v) n := by
 refine ⟨untilNow_inv h.inv id v,untilNow_ids (p := fun z => (Lit.int .u32 z).wf = true) h.ids id v,h.lk,h.wd, ?_,untilNow_uniq h.uniq hv⟩
 rcases h.en with ⟨e1,e2⟩ | ⟨e1,e2⟩
 ·refine .inl ⟨e1, ?_⟩
  have := untilNow_l x.g id v
  rw [e2] at this
  exact List.length_eq_zero_iff.1 this
 ·refine .inr ⟨by show (untilNow x.g id v).there x.en 0 = true;rw [untilNow_there];exact e1,fun nd hnd => ?_⟩
  obtain ⟨k,hk⟩ := List.mem_iff_getElem?.1 hnd
  show (nd.links.length : Int) - 1 ≤ topG (untilNow x.g id v) x.en
  rw [untilNow_top]
  have h2 := untilNow_links x.g id v k
  have hk' : (untilNow x.g id v).l[k]? = some nd := hk
  rw [hk'] at h2
  cases hy : x.g.l[k]? with
  | none => rw [hy] at h2;cases h2
  | some y =>
   rw [hy] at h2
   injection h2 with h2
   have h2 : nd.links = y.links := h2
   rw [h2]
   exact e2 y (List.mem_of_getElem? hy)
/-! ### New -/
def lkN (most : Int) : Int := max 1 (min most 8)
def wdN (width : Int) : Int := max 1 (min width 256)
section
attribute [local go_sem] max2_M min2_M max_two min_two
set_option maxHeartbeats 4000000 in
set_option maxRecDepth 100000 in
theorem hnew_calls (m most width : Int) (w : World) : Calls Try.prog 25 #[.int .u8 m,.int .i64 most,.int .i64 width] w fun e w' => e = .returned (.pointer (some ⟨w.heap.size + 2,0,none⟩)) ∧ w' = ((w.alloc (.cells #[.int .u8 m,.slice none 0 0] 84)).alloc (.map #[] 0)).alloc (.cells #[.int .u8 m,.int .i64 (lkN most),.int .i64 (wdN width),.pointer (some ⟨w.heap.size,0,none⟩),.int .i64 (-1),.map (some (w.heap.size + 1))] 107) := by
 have hu := Try.underlying107
 have hmm := @run_makeMap Try.prog
 unfold lkN wdN
 go_enter Try.func25,Try.ntmps25
 go_wp2_with (go_at_call 12;(with_reducible refine (gnew_calls m _).mono ?_);rintro e w1 ⟨rfl,rfl⟩)
 go_ret
 exact ⟨by simp only [World.size_alloc];rfl,by simp only [World.size_alloc]⟩
end
section
variable {w0 w w' : World}
theorem PX.new (hB : Below w0.heap.size w0 w) (m lk wd : Int) : PX (fun _ => False) w0 (((w.alloc (.cells #[.int .u8 m,.slice none 0 0] 84)).alloc (.map #[] 0)).alloc (.cells #[.int .u8 m,.int .i64 lk,.int .i64 wd,.pointer (some ⟨w.heap.size,0,none⟩),.int .i64 (-1),.map (some (w.heap.size + 1))] 107)) (w.heap.size + 2) ⟨⟨m,[]⟩,lk,wd, -1⟩ 0 := by
 have hG : GX w0 (w.alloc (.cells #[.int .u8 m,.slice none 0 0] 84)) w.heap.size (fun k => k = w.heap.size) ⟨m,[]⟩ := GT.new hB m
 generalize e1 : w.alloc (.cells #[.int .u8 m,.slice none 0 0] 84) = w1 at hG ⊢
 have s1 : w1.heap.size = w.heap.size + 1 := by rw [← e1];exact World.size_alloc _ _
 have hM : MapI (w1.alloc (.map #[] 0)) w1.heap.size 0 (fun _ => none) := MapI.new w1
 have hb1 := below_alloc (Below.refl w1.heap.size w1) (.map #[] 0)
 generalize e2 : w1.alloc (.map #[] 0) = w2 at hM hb1 ⊢
 have s2 : w2.heap.size = w1.heap.size + 1 := by rw [← e2];exact World.size_alloc _ _
 generalize eo : (Obj.cells #[Value.int .u8 m,.int .i64 lk,.int .i64 wd,.pointer (some ⟨w.heap.size,0,none⟩),.int .i64 (-1),.map (some (w.heap.size + 1))] 107) = o
 have hb2 := below_alloc (Below.refl w2.heap.size w2) o
 have hbx := heap_alloc_new w2 o
 have hs := hB.size
 refine ⟨w.heap.size,w.heap.size + 1,⟨?_, ?_,⟨⟨_,(hG.below hb1).below hb2,fun k hk hx => ?_⟩,fun k hk => ?_⟩,by omega,by omega,fun h => h,fun h => h⟩⟩
 ·rw [show w.heap.size + 2 = w2.heap.size by omega,hbx,← eo]
 ·have h3 := hM.same (hb2.block _ hM.lt)
  rw [s1] at h3
  exact h3.eq (by funext z;unfold nowM;rw [show nowG (⟨m,[]⟩ : Gr) z = -1 from rfl,if_neg (by omega)])
 ·have hk : k = w.heap.size := hk
  rcases hx with hx | hx | hx
  ·exact hx
  ·omega
  ·omega
 ·have hz : (w2.alloc o).heap.size = w2.heap.size + 1 := World.size_alloc _ _
  rcases hk with hk | hk | hk
  ·exact hk.elim
  ·omega
  ·omega
theorem new_ok {m : Int} (hm : 0 ≤ m) (most width : Int) : IxOk ⟨⟨m,[]⟩,lkN most,wdN width, -1⟩ 0 := by
 refine ⟨Inv.nil hm,fun nd h => (by cases h), ?_, ?_,.inl ⟨rfl,rfl⟩,fun i j x y hx => by simp at hx⟩
 ·show 1 ≤ lkN most ∧ lkN most ≤ 8;unfold lkN;omega
 ·show 1 ≤ wdN width ∧ wdN width ≤ 256;unfold wdN;omega
end
/-! ### Cut -/
section
variable {X : Nat → Prop} {w0 w : World} {b : Nat} {x : Ix} {n : Nat}
theorem nowM_none {s : Gr} {id : Int} (h : nowM s id = none) : nowG s id = -1 := by
 unfold nowM at h
 have := (nowG_lt s id).1
 split at h
 ·cases h
 ·omega
theorem nowM_some {s : Gr} {id c : Int} (h : nowM s id = some c) : ∃ (k : Nat) (nd : Nd),c = k ∧ nowG s id = k ∧ s.l[k]? = some nd := by
 unfold nowM at h
 split at h
 ·next h0 =>
  injection h with h
  rcases nowG_spec s id with ⟨e, -⟩ | ⟨k,nd,e,hk, -, -⟩
  ·omega
  ·exact ⟨k,nd,by omega,e,hk⟩
 ·cases h
set_option maxHeartbeats 8000000 in
set_option maxRecDepth 100000 in
theorem PX.cut (h : PX X w0 w b x n) (ho : IxOk x n) (id v : Int) (hid : (Lit.int .u32 id).wf = true) (hv : v ≠ 0) :
  Calls Try.prog 27 #[.pointer (some ⟨b,0,none⟩),.int .u32 id,.int .u64 v] w fun e w' => e = .returned (.bool (nowM x.g id).isSome) ∧ PX X w0 w' b (x.cut id v) n ∧ KeepX X w w' := by
 have hu := Try.underlying107
 obtain ⟨g,mb,hP⟩ := h
 have HO := Aside0.mk ho
 have HM := Aside0.mk (untilNow_M ho.uniq hv (id := id))
 have HID := Aside0.mk hid
 have y5 := (blk_cell hP.box 5).trans rfl
 have hlk := hP.map.look hid
 have HP := Aside0.mk hP
 cases hf : nowM x.g id with
 | none =>
  rw [hf] at hlk
  have HC := Aside0.mk (show untilNow x.g id v = x.g by unfold untilNow;rw [nowM_none hf,if_neg (by omega)])
  have hlk : (Instr.lookup 105 (.map (some mb)) (.int .u32 id) true).run Try.prog w = .ok (.tuple #[.int .i64 0,.bool false]) w := hlk
  clear ho hid hv hP hf
  go_enter Try.func27,Try.ntmps27
  go_wp2
  go_ret
  refine ⟨rfl,⟨g,mb, ?_⟩,KeepX.refl _ _⟩
  show PI X w0 w b g mb x.lk x.wd x.en (untilNow x.g id v) n (nowM (untilNow x.g id v))
  rw [HC.out]
  exact HP.out
 | some c =>
  obtain ⟨k,nd,rfl,hk,hnd⟩ := nowM_some hf
  rw [hf] at hlk
  have hlk : (Instr.lookup 105 (.map (some mb)) (.int .u32 id) true).run Try.prog w = .ok (.tuple #[.int .i64 k,.bool true]) w := hlk
  have HC := Aside0.mk (show untilNow x.g id v = x.g.until_ k v by unfold untilNow;rw [hk,if_pos (by omega),Int.toNat_natCast])
  have HTH := Aside0.mk (there_lt ho.inv.good (List.getElem?_eq_some_iff.1 hnd).1)
  rw [HC.out] at HM
  have y3 := (blk_cell hP.box 3).trans rfl
  clear ho hid hv hP hf hk hnd
  go_enter Try.func27,Try.ntmps27
  go_wp2_with (first | (go_at_call 40;(with_reducible refine (HP.out.gr.untilP k v HTH.out).mono ?_);rintro e w1 ⟨rfl,hG,hK⟩;have HP1 := Aside0.mk (HP.out.op hG hK rfl);have z5 := (blk_cell HP1.out.1.box 5).trans rfl;clear hG hK y3 y5 hlk HP) | (at_delete;refine del_I rfl _ _ rfl mb n _ rfl HP1.out.1.map id rfl HID.out ?_;intro w2 hm hO;have HP2 := Aside0.mk (HP1.out.1.put hm hO);clear hm hO))
  go_ret
  refine ⟨rfl,⟨g,mb, ?_⟩,HP1.out.2.trans HP2.out.2⟩
  show PI X w0 w2 b g mb x.lk x.wd x.en (untilNow x.g id v) n (nowM (untilNow x.g id v))
  rw [HC.out,HM.out]
  exact HP2.out.1
end
end Go.Proofs.Ytofmlajanopniaa.Li
namespace Go.Proofs.Ytofmlajanopniaa.Li
open Go.RowKit Go.Proofs.YtofmlajanopniaaW.PrintWords Go.Proofs.Ytofmlajanopniaa.Q Go.Proofs.Ytofmlajanopniaa.Tk
/-! ### The same but for links -/
theorem setL_get (s : Gr) (i lv : Nat) (ls : List Int) (k : Nat) : (s.setL i lv ls).l[k]? = if k = i then (s.l[k]?).map (fun x => setLk x lv ls) else s.l[k]? := by
 unfold Gr.setL
 cases hx : s.l[i]? with
 | none =>
  dsimp only
  split
  ·next e => subst e;rw [hx];rfl
  ·rfl
 | some x =>
  dsimp only
  rw [List.getElem?_set]
  by_cases e : i = k
  ·subst e
   rw [if_pos rfl,if_pos rfl,hx,if_pos (List.getElem?_eq_some_iff.1 hx).1]
   rfl
  ·rw [if_neg e,if_neg (fun h => e h.symm)]
theorem bare_setLk (x : Nd) (lv : Nat) (ls : List Int) : bare (setLk x lv ls) = bare x := by unfold bare setLk;simp
theorem setL_bare (s : Gr) (i lv : Nat) (ls : List Int) : (s.setL i lv ls).l.map bare = s.l.map bare := by
 apply List.ext_getElem?
 intro k
 rw [List.getElem?_map,List.getElem?_map,setL_get]
 split
 ·cases s.l[k]? with
  | none => rfl
  | some x => exact congrArg some (bare_setLk x lv ls)
 ·rfl
theorem link_bare (s : Gr) (a b lv most : Int) : (s.link a b lv most).2.l.map bare = s.l.map bare := by
 unfold Gr.link
 split
 ·rfl
 ·exact setL_bare _ _ _ _
section
variable {s t : Gr}
theorem bare_len (h : t.l.map bare = s.l.map bare) : t.l.length = s.l.length := by have := congrArg List.length h;simpa using this
theorem bare_get (h : t.l.map bare = s.l.map bare) {k : Nat} {x : Nd} (hx : t.l[k]? = some x) : ∃ y,s.l[k]? = some y ∧ bare x = bare y := by
 have h1 : (t.l.map bare)[k]? = (s.l.map bare)[k]? := by rw [h]
 rw [List.getElem?_map,List.getElem?_map,hx] at h1
 obtain ⟨y,hy,e⟩ := Option.map_eq_some_iff.1 h1.symm
 exact ⟨y,hy,e.symm⟩
theorem bare_len_links {x y : Nd} (h : bare x = bare y) : x.links.length = y.links.length := by have := congrArg (fun n => n.links.length) h;simpa [bare] using this
theorem bare_nowG (h : t.l.map bare = s.l.map bare) (id : Int) : nowG t id = nowG s id := by
 unfold nowG
 rw [bare_len h]
 refine nowTo_congr _ (fun i _ => ?_)
 have h1 : (t.l.map bare)[i]? = (s.l.map bare)[i]? := by rw [h]
 rw [List.getElem?_map,List.getElem?_map] at h1
 have key : ∀ o : Option Nd,o.map nowKey = (o.map bare).map nowKey := fun o => by cases o <;> rfl
 rw [key,h1,← key]
theorem bare_lk (h : t.l.map bare = s.l.map bare) (e : Int) : (t.lk e).length = (s.lk e).length := by
 unfold Gr.lk
 split
 ·have h1 : (t.l.map bare)[e.toNat]? = (s.l.map bare)[e.toNat]? := by rw [h]
  rw [List.getElem?_map,List.getElem?_map] at h1
  have key : ∀ o : Option Nd,((o.map Nd.links).getD []).length = (((o.map bare).map Nd.links).getD []).length := fun o => by cases o <;> simp [bare]
  rw [key,h1,← key]
 ·rfl
theorem bare_top (h : t.l.map bare = s.l.map bare) (e : Int) : topG t e = topG s e := by unfold topG;rw [bare_lk h]
theorem bare_there (h : t.l.map bare = s.l.map bare) (i lv : Int) : t.there i lv = s.there i lv := by unfold Gr.there;rw [bare_lk h]
theorem bare_id {x y : Nd} (h : bare x = bare y) : x.id = y.id := show (bare x).id = (bare y).id by rw [h]
theorem bare_un {x y : Nd} (h : bare x = bare y) : x.un = y.un := show (bare x).un = (bare y).un by rw [h]
theorem bare_uniq (h : t.l.map bare = s.l.map bare) (hu : Uniq s) : Uniq t := by
 intro i j x y hx hy hid h0 h1
 obtain ⟨x',hx',ex⟩ := bare_get h hx
 obtain ⟨y',hy',ey⟩ := bare_get h hy
 have e1 := bare_id ex
 have e2 := bare_id ey
 have e3 := bare_un ex
 have e4 := bare_un ey
 exact hu i j x' y' hx' hy' (by rw [← e1,← e2,hid]) (by rw [← e3,h0]) (by rw [← e4,h1])
theorem bare_all {p : Nd → Prop} (hp : ∀ x y,bare x = bare y → p y → p x) (h : t.l.map bare = s.l.map bare) (hs : ∀ n ∈ s.l,p n) : ∀ n ∈ t.l,p n := by
 intro n hn
 obtain ⟨k,hk⟩ := List.mem_iff_getElem?.1 hn
 obtain ⟨y,hy,e⟩ := bare_get h hk
 exact hp n y e (hs y (List.mem_of_getElem? hy))
end
/-! ### Links that are laid -/
section
variable {s : Gr} {lk n : Int} {N : Nat}
theorem both_bare (s : Gr) (lk n lv b : Int) : (linkBoth s lk n lv b).l.map bare = s.l.map bare := by unfold linkBoth;rw [link_bare,link_bare]
theorem both_m (s : Gr) (lk n lv b : Int) : (linkBoth s lk n lv b).m = s.m := by unfold linkBoth;rw [link_m,link_m]
theorem both_inv (h : Inv s N) (lk n lv b : Int) : Inv (linkBoth s lk n lv b) N := (h.link _ _ _ _).link _ _ _ _
theorem lay_bare (L : List (Int × Int)) : ∀ s : Gr,(L.foldl (layP lk n) s).l.map bare = s.l.map bare := by
 induction L with
 | nil => exact fun _ => rfl
 | cons a L ih => exact fun s => (ih _).trans (both_bare s lk n _ _)
theorem lay_m (L : List (Int × Int)) : ∀ s : Gr,(L.foldl (layP lk n) s).m = s.m := by
 induction L with
 | nil => exact fun _ => rfl
 | cons a L ih => exact fun s => (ih _).trans (both_m s lk n _ _)
theorem lay_inv (L : List (Int × Int)) : ∀ {s : Gr},Inv s N → Inv (L.foldl (layP lk n) s) N := by
 induction L with
 | nil => exact fun h => h
 | cons a L ih => exact fun h => ih (both_inv h lk n _ _)
def layOne (lk n lv : Int) (s : Gr) (l : List Int) : Gr := l.foldl (fun s b => linkBoth s lk n lv b) s
def layTo (lk n : Int) (C : List (List Int)) (s : Gr) : Nat → Gr
 | 0 => s
 | i + 1 => layOne lk n ((C.length : Int) - 1 - (i : Int)) (layTo lk n C s i) ((C[i]?).getD [])
theorem layOne_flat (lv : Int) (l : List Int) : ∀ s : Gr,layOne lk n lv s l = (l.map (fun b => (lv,b))).foldl (layP lk n) s := by
 induction l with
 | nil => exact fun _ => rfl
 | cons a l ih => exact fun s => ih _
theorem layTo_flat (C : List (List Int)) (s : Gr) : layTo lk n C s C.length = (flatC C).foldl (layP lk n) s := by
 suffices h : ∀ (D : List (List Int)) (i : Nat),C.drop i = D → i ≤ C.length → (flatC D).foldl (layP lk n) (layTo lk n C s i) = layTo lk n C s C.length from (h C 0 rfl (Nat.zero_le _)).symm
 intro D
 induction D with
 | nil =>
  intro i h hi
  have h2 := congrArg List.length h
  rw [List.length_drop,List.length_nil] at h2
  obtain rfl : i = C.length := by omega
  rfl
 | cons l D ih =>
  intro i h hi
  have h2 := congrArg List.length h
  rw [List.length_drop,List.length_cons] at h2
  have hl : C[i]? = some l := by
   have h3 : (C.drop i)[0]? = some l := by rw [h];rfl
   rw [List.getElem?_drop] at h3
   simpa using h3
  have hd : C.drop (i + 1) = D := by rw [← List.tail_drop,h];rfl
  rw [← ih (i + 1) hd (by omega)]
  show (l.map (fun b => ((D.length : Int),b)) ++ flatC D).foldl _ _ = (flatC D).foldl _ (layOne lk n ((C.length : Int) - 1 - (i : Int)) (layTo lk n C s i) ((C[i]?).getD []))
  rw [List.foldl_append,hl,← layOne_flat,show (D.length : Int) = (C.length : Int) - 1 - (i : Int) by omega]
  rfl
theorem layOne_inv (h : Inv s N) (lv : Int) (l : List Int) : Inv (layOne lk n lv s l) N := by rw [layOne_flat];exact lay_inv _ h
theorem layTo_inv (h : Inv s N) (C : List (List Int)) : ∀ i,Inv (layTo lk n C s i) N := by
 intro i
 induction i with
 | zero => exact h
 | succ i ih => exact layOne_inv ih _ _
end
/-! ### Put -/
section
variable {x : Ix} {n : Nat} {id : Int} {vec : List Int} {tags : List ByteArray} {k v : Int}
theorem putG_bare : (putG x id vec tags k v).l.map bare = ((untilNow x.g id v).add id vec tags k v).l.map bare := lay_bare _ _
theorem putG_m : (putG x id vec tags k v).m = x.g.m := (lay_m _ _).trans (untilNow_m _ _ _)
theorem putG_now (hu : Uniq x.g) (hv : v ≠ 0) : nowM (putG x id vec tags k v) = fun z => if z = id then some (x.g.l.length : Int) else nowM x.g z := by
 funext z
 unfold nowM
 rw [bare_nowG putG_bare]
 unfold Gr.add
 rw [nowG_snoc]
 dsimp only
 rw [untilNow_l]
 by_cases e : z = id
 ·subst e
  have h1 : (if (z == z && (0 : Int) == 0) = true then (x.g.l.length : Int) else nowG (untilNow x.g z v) z) = (x.g.l.length : Int) := if_pos (by simp)
  rw [h1,if_pos (by omega),if_pos rfl]
 ·have h1 : (if (id == z && (0 : Int) == 0) = true then (x.g.l.length : Int) else nowG (untilNow x.g id v) z) = nowG (untilNow x.g id v) z := if_neg (by simpa using fun h : id = z => e h.symm)
  rw [h1,if_neg e,untilNow_now hu hv,if_neg e]
theorem put_ok (h : IxOk x n) (hid : (Lit.int .u32 id).wf = true) (h1 : vec.length ≤ 100000) (h2 : tags.length ≤ 100000) (lv : Int) (hv : v ≠ 0) : IxOk (x.put id vec tags lv v) (n + 1) := by
 have hb : (x.put id vec tags lv v).g.l.map bare = ((untilNow x.g id v).add id vec tags (clampL lv) v).l.map bare := putG_bare
 have hc : clampL ((clampL lv : Nat) : Int) = clampL lv := by unfold clampL;omega
 obtain ⟨g1,hg1⟩ : ∃ z,untilNow x.g id v = z := ⟨_,rfl⟩
 have hl1 : g1.l.length = x.g.l.length := by rw [← hg1];exact untilNow_l _ _ _
 have key : ∀ nd ∈ (g1.add id vec tags (clampL lv) v).l,nd ∈ g1.l ∨ (nd.id = id ∧ nd.links.length = clampL lv + 1) := by
  intro nd hnd
  unfold Gr.add at hnd
  dsimp only at hnd
  rw [List.mem_append,List.mem_singleton] at hnd
  rcases hnd with hnd | rfl
  ·exact .inl hnd
  ·exact .inr ⟨rfl,by rw [List.length_replicate,hc]⟩
 have lkOld : ∀ (i : Int),0 ≤ i → i < (x.g.l.length : Int) → (((g1.add id vec tags (clampL lv) v).lk i).length = (x.g.lk i).length) := by
  intro i h0 hi
  rw [← untilNow_lk x.g id v i,hg1]
  unfold Gr.lk Gr.add
  rw [if_pos h0,if_pos h0]
  dsimp only
  rw [List.getElem?_append_left (by omega)]
 have lkNew : ((g1.add id vec tags (clampL lv) v).lk (x.g.l.length : Int)).length = clampL lv + 1 := by
  unfold Gr.lk Gr.add
  rw [if_pos (by omega),Int.toNat_natCast,← hl1]
  dsimp only
  simp [hc]
 rw [hg1] at hb
 refine ⟨lay_inv _ ((untilNow_inv h.inv id v).add id _ _ h1 h2), ?_,h.lk,h.wd, ?_, ?_⟩
 ·refine bare_all (p := fun nd => (Lit.int .u32 nd.id).wf = true) (fun x y e hy => by have e := bare_id e;rw [e];exact hy) hb (fun nd hnd => ?_)
  rcases key nd hnd with hnd | ⟨e, -⟩
  ·rw [← hg1] at hnd
   exact untilNow_ids (p := fun z => (Lit.int .u32 z).wf = true) h.ids id v nd hnd
  ·rw [e];exact hid
 ·refine .inr ?_
  have hle : ∀ e : Int,((clampL lv : Nat) : Int) ≤ topG (g1.add id vec tags (clampL lv) v) e → (∀ nd ∈ g1.l,(nd.links.length : Int) - 1 ≤ topG (g1.add id vec tags (clampL lv) v) e) → ∀ nd ∈ (x.put id vec tags lv v).g.l,(nd.links.length : Int) - 1 ≤ topG (g1.add id vec tags (clampL lv) v) e := by
   intro e h1 h2
   refine bare_all (p := fun nd => (nd.links.length : Int) - 1 ≤ topG (g1.add id vec tags (clampL lv) v) e) (fun x y e hy => by rw [bare_len_links e];exact hy) hb (fun nd hnd => ?_)
   rcases key nd hnd with hnd | ⟨-,e2⟩
   ·exact h2 nd hnd
   ·rw [e2];omega
  have hold : ∀ nd ∈ g1.l, ∃ y ∈ x.g.l,nd.links.length = y.links.length := by
   intro nd hnd
   obtain ⟨i,hi⟩ := List.mem_iff_getElem?.1 hnd
   have h3 := untilNow_links x.g id v i
   rw [hg1,hi] at h3
   cases hy : x.g.l[i]? with
   | none => rw [hy] at h3;cases h3
   | some y =>
    rw [hy] at h3
    injection h3 with h3
    have h3 : nd.links = y.links := h3
    exact ⟨y,List.mem_of_getElem? hy,by rw [h3]⟩
  have tnew : topG (g1.add id vec tags (clampL lv) v) (x.g.l.length : Int) = (clampL lv : Nat) := by unfold topG;rw [lkNew];omega
  show (putG x id vec tags (clampL lv) v).there (if x.en < 0 ∨ topG (putG x id vec tags (clampL lv) v) x.en < (clampL lv : Int) then (x.g.l.length : Int) else x.en) 0 = true ∧ ∀ nd ∈ (x.put id vec tags lv v).g.l,(nd.links.length : Int) - 1 ≤ topG (putG x id vec tags (clampL lv) v) (if x.en < 0 ∨ topG (putG x id vec tags (clampL lv) v) x.en < (clampL lv : Int) then (x.g.l.length : Int) else x.en)
  have hb2 : (putG x id vec tags (clampL lv) v).l.map bare = (g1.add id vec tags (clampL lv) v).l.map bare := hb
  rw [bare_top hb2,bare_there hb2]
  have thereNew : (g1.add id vec tags (clampL lv) v).there (x.g.l.length : Int) 0 = true := by unfold Gr.there;rw [lkNew];simp
  by_cases hc2 : x.en < 0 ∨ topG (g1.add id vec tags (clampL lv) v) x.en < (clampL lv : Int)
  ·rw [if_pos hc2,bare_top hb2]
   refine ⟨thereNew,hle _ (by rw [tnew];omega) (fun nd hnd => ?_)⟩
   obtain ⟨y,hy,e⟩ := hold nd hnd
   rw [tnew,e]
   rcases h.en with ⟨-,e2⟩ | ⟨e1,e2⟩
   ·rw [e2] at hy;cases hy
   ·have hr := there_range e1
    rcases hc2 with hc2 | hc2
    ·omega
    ·have h4 : topG (g1.add id vec tags (clampL lv) v) x.en = topG x.g x.en := by unfold topG;rw [lkOld x.en hr.1 hr.2.1]
     have := e2 y hy
     omega
  ·rw [if_neg hc2,bare_top hb2]
   rcases h.en with ⟨e1, -⟩ | ⟨e1,e2⟩
   ·exact absurd (.inl (by omega)) hc2
   ·have hr := there_range e1
    have h4 : topG (g1.add id vec tags (clampL lv) v) x.en = topG x.g x.en := by unfold topG;rw [lkOld x.en hr.1 hr.2.1]
    refine ⟨by unfold Gr.there at e1 ⊢;rw [lkOld x.en hr.1 hr.2.1];exact e1,hle _ (by omega) (fun nd hnd => ?_)⟩
    obtain ⟨y,hy,e⟩ := hold nd hnd
    rw [h4,e]
    exact e2 y hy
 ·refine bare_uniq hb ?_
  intro i j a c ha hc' hid' h0 h1'
  unfold Gr.add at ha hc'
  dsimp only at ha hc'
  rw [List.getElem?_append] at ha hc'
  have gone : ∀ (k : Nat) (y : Nd),g1.l[k]? = some y → ¬ (y.id = id ∧ y.un = 0) := fun k y hy => untilNow_gone h.uniq hv k y (by rw [hg1];exact hy)
  have hu1 : Uniq g1 := by rw [← hg1];exact untilNow_uniq h.uniq hv
  have one : ∀ (m : Nat) (z : Nd),[(⟨id,vec,tags,v,0,List.replicate (clampL (clampL lv) + 1) []⟩ : Nd)][m]? = some z → m = 0 ∧ z.id = id := by
   intro m z hz
   match m,hz with
   | 0,hz => cases hz;exact ⟨rfl,rfl⟩
  split at ha <;> split at hc'
  ·exact hu1 i j a c ha hc' hid' h0 h1'
  ·obtain ⟨-,e⟩ := one _ _ hc'
   exact absurd ⟨hid'.trans e,h0⟩ (gone i a ha)
  ·obtain ⟨-,e⟩ := one _ _ ha
   exact absurd ⟨hid'.symm.trans e,h1'⟩ (gone j c hc')
  ·obtain ⟨e1, -⟩ := one _ _ ha
   obtain ⟨e2, -⟩ := one _ _ hc'
   omega
end
end Go.Proofs.Ytofmlajanopniaa.Li
namespace Go.Proofs.Ytofmlajanopniaa.Li
open Go.RowKit Go.Proofs.YtofmlajanopniaaW.PrintWords Go.Proofs.Ytofmlajanopniaa.Q Go.Proofs.Ytofmlajanopniaa.Tk
section
variable {lk a lv : Int} {s : Gr} {N : Nat}
theorem linkTo_neg {b : Int} (h : b < 0) : linkTo lk a lv s b = s := by
 unfold linkTo Gr.link
 have : s.there b lv = false := by
  cases hc : s.there b lv with
  | false => rfl
  | true => have := there_range hc;omega
 rw [if_pos (by rw [this];simp)]
theorem linkTo_inv (h : Inv s N) (b : Int) : Inv (linkTo lk a lv s b) N := h.link _ _ _ _
theorem linkTo_bare (s : Gr) (b : Int) : (linkTo lk a lv s b).l.map bare = s.l.map bare := link_bare _ _ _ _ _
theorem links_inv (L : List Int) : ∀ {s : Gr},Inv s N → Inv (L.foldl (linkTo lk a lv) s) N := by
 induction L with
 | nil => exact fun h => h
 | cons b L ih => exact fun h => ih (linkTo_inv h b)
theorem links_bare (L : List Int) : ∀ s : Gr,(L.foldl (linkTo lk a lv) s).l.map bare = s.l.map bare := by
 induction L with
 | nil => exact fun _ => rfl
 | cons b L ih => exact fun s => (ih _).trans (linkTo_bare s b)
end
section
variable {keep : List Int} {l : List Nd} {lk : Int} {s : Gr} {N : Nat}
theorem mendTo_inv (h : Inv s N) (a : Int) (n : Nd) : ∀ j,Inv (mendTo keep l lk a n s j) N := by
 intro j
 induction j with
 | zero => exact h
 | succ j ih => exact links_inv _ ih
theorem mendTo_bare (s : Gr) (a : Int) (n : Nd) : ∀ j,(mendTo keep l lk a n s j).l.map bare = s.l.map bare := by
 intro j
 induction j with
 | zero => rfl
 | succ j ih => exact (links_bare _ _).trans ih
theorem mendAll_inv (h : Inv s N) : ∀ i,Inv (mendAll keep l lk s i) N := by
 intro i
 induction i with
 | zero => exact h
 | succ i ih =>
  unfold mendAll
  split
  ·exact ih
  ·split
   ·exact mendTo_inv ih _ _ _
   ·exact ih
theorem mendAll_bare (s : Gr) : ∀ i,(mendAll keep l lk s i).l.map bare = s.l.map bare := by
 intro i
 induction i with
 | zero => rfl
 | succ i ih =>
  unfold mendAll
  split
  ·exact ih
  ·split
   ·exact (mendTo_bare _ _ _ _).trans ih
   ·exact ih
theorem mendAll_yes {i : Nat} {n : Nd} (hn : l[i]? = some n) (hs : staysN keep n = true) : mendAll keep l lk s (i + 1) = mendTo keep l lk (goesTo keep l i) n (mendAll keep l lk s i) n.links.length := by
 show (match l[i]? with | none => _ | some n => _) = _
 rw [hn]
 exact if_pos hs
theorem mendAll_no {i : Nat} {n : Nd} (hn : l[i]? = some n) (hs : staysN keep n = false) : mendAll keep l lk s (i + 1) = mendAll keep l lk s i := by
 show (match l[i]? with | none => _ | some n => _) = _
 rw [hn]
 exact if_neg (by rw [hs];simp)
/-! ### Where nodes go -/
theorem goesTo_yes {i : Nat} {n : Nd} (hn : l[i]? = some n) (hs : staysN keep n = true) : goesTo keep l i = (((l.take i).filter (staysN keep)).length : Int) := by unfold goesTo;rw [hn];exact if_pos hs
theorem goesTo_no {i : Nat} {n : Nd} (hn : l[i]? = some n) (hs : staysN keep n = false) : goesTo keep l i = -1 := by unfold goesTo;rw [hn];exact if_neg (by rw [hs];simp)
theorem goes_nat (i : Nat) : goes keep l (i : Int) = goesTo keep l i := by unfold goes;rw [if_pos (by omega),Int.toNat_natCast]
theorem stays_went (L : List Nd) : (L.filter (staysN keep)).length + wentL keep L = L.length := by
 unfold wentL
 induction L with
 | nil => rfl
 | cons x L ih =>
  rw [List.filter_cons,List.filter_cons]
  cases h : staysN keep x <;> simp <;> omega
theorem went_snoc {i : Nat} {n : Nd} (hn : l[i]? = some n) : wentL keep (l.take (i + 1)) = wentL keep (l.take i) + (if staysN keep n = true then 0 else 1) := by
 unfold wentL
 rw [List.take_add_one,hn,List.filter_append,List.length_append]
 cases h : staysN keep n <;> simp [h]
theorem bares_len : (bares keep l).length + wentL keep l = l.length := by
 unfold bares
 rw [List.length_map]
 exact stays_went l
theorem bares_snoc {i : Nat} {n : Nd} (hn : l[i]? = some n) : bares keep (l.take (i + 1)) = bares keep (l.take i) ++ (if staysN keep n = true then [bare n] else []) := by
 unfold bares
 rw [List.take_add_one,hn,List.filter_append,List.map_append]
 cases h : staysN keep n <;> simp [h]
theorem goes_lt {i : Nat} {n : Nd} (hn : l[i]? = some n) (hs : staysN keep n = true) : goesTo keep l i = ((bares keep (l.take i)).length : Int) := by
 rw [goesTo_yes hn hs]
 unfold bares
 rw [List.length_map]
/-! ### The new graph -/
theorem bare_add {B : List Nd} {m : Int} {n : Nd} (h : 1 ≤ n.links.length ∧ n.links.length ≤ 5) : ((⟨m,B⟩ : Gr).add n.id n.vec n.tags ((n.links.length : Int) - 1) n.fr).until_ B.length n.un = ⟨m,B ++ [bare n]⟩ := by
 unfold Gr.add Gr.until_
 dsimp only
 rw [show (B ++ [(⟨n.id,n.vec,n.tags,n.fr,0,List.replicate (clampL ((n.links.length : Int) - 1) + 1) []⟩ : Nd)])[B.length]? = some ⟨n.id,n.vec,n.tags,n.fr,0,List.replicate (clampL ((n.links.length : Int) - 1) + 1) []⟩ by simp]
 dsimp only
 rw [List.set_append_right _ _ (Nat.le_refl _),Nat.sub_self]
 unfold setUn bare
 rw [show clampL ((n.links.length : Int) - 1) + 1 = n.links.length by unfold clampL;omega]
 rfl
theorem nowM_snoc {B : List Nd} {m : Int} (x : Nd) : nowM ⟨m,B ++ [x]⟩ = if x.un = 0 then (fun z => if z = x.id then some (B.length : Int) else nowM ⟨m,B⟩ z) else nowM ⟨m,B⟩ := by
 funext z
 have h1 := nowG_snoc ⟨m,B⟩ x z
 dsimp only at h1
 by_cases h0 : x.un = 0
 ·rw [if_pos h0]
  by_cases e : z = x.id
  ·subst e
   have h2 : nowG ⟨m,B ++ [x]⟩ x.id = (B.length : Int) := h1.trans (if_pos (by simp [h0]))
   show (if 0 ≤ nowG ⟨m,B ++ [x]⟩ x.id then some (nowG ⟨m,B ++ [x]⟩ x.id) else none) = (if x.id = x.id then some (B.length : Int) else nowM ⟨m,B⟩ x.id)
   rw [h2,if_pos (by omega),if_pos rfl]
  ·have h2 : nowG ⟨m,B ++ [x]⟩ z = nowG ⟨m,B⟩ z := h1.trans (if_neg (by simp [h0];exact fun h => e h.symm))
   show nowM ⟨m,B ++ [x]⟩ z = (if z = x.id then some (B.length : Int) else nowM ⟨m,B⟩ z)
   unfold nowM
   rw [h2,if_neg e]
 ·rw [if_neg h0]
  have h2 : nowG ⟨m,B ++ [x]⟩ z = nowG ⟨m,B⟩ z := h1.trans (if_neg (by simp [h0]))
  unfold nowM
  rw [h2]
theorem enTo_pre (B : List Nd) (x : Nd) : ∀ n,n ≤ B.length → enTo (B ++ [x]) n = enTo B n ∧ -1 ≤ enTo B n ∧ enTo B n < (n : Int) := by
 intro n
 induction n with
 | zero => exact fun _ => ⟨rfl,by unfold enTo;omega,by unfold enTo;omega⟩
 | succ n ih =>
  intro hn
  obtain ⟨e1,e2,e3⟩ := ih (by omega)
  unfold enTo
  rw [List.getElem?_append_left (by omega),e1]
  cases hx : B[n]? with
  | none => exact ⟨rfl,e2,by dsimp only;omega⟩
  | some y =>
   dsimp only
   have ht : topG ⟨0,B ++ [x]⟩ (enTo B n) = topG ⟨0,B⟩ (enTo B n) := by
    unfold topG Gr.lk
    dsimp only
    split
    ·rw [List.getElem?_append_left (by omega)]
    ·rfl
   rw [ht]
   refine ⟨rfl, ?_, ?_⟩
   ·split <;> omega
   ·split <;> omega
theorem enTo_snoc (B : List Nd) (x : Nd) (m : Int) : enTo (B ++ [x]) (B ++ [x]).length = if enTo B B.length < 0 ∨ topG ⟨m,B ++ [x]⟩ (enTo B B.length) < (x.links.length : Int) - 1 then (B.length : Int) else enTo B B.length := by
 obtain ⟨e1,e2,e3⟩ := enTo_pre B x B.length (Nat.le_refl _)
 rw [List.length_append,List.length_singleton]
 show (match (B ++ [x])[B.length]? with | some y => _ | none => _) = _
 rw [show (B ++ [x])[B.length]? = some x by simp]
 dsimp only
 rw [e1]
 rfl
theorem bares_mem {n : Nd} (h : n ∈ bares keep l) : ∃ y ∈ l,staysN keep y = true ∧ n = bare y := by
 obtain ⟨y,hy,rfl⟩ := List.mem_map.1 h
 exact ⟨y,(List.mem_filter.1 hy).1,(List.mem_filter.1 hy).2,rfl⟩
/-! ### Of each id one -/
theorem bares_inv {m : Int} (h : Inv ⟨m,l⟩ N) : Inv ⟨m,bares keep l⟩ N := by
 have hb := bares_len (keep := keep) (l := l)
 have hl := h.len
 dsimp only at hl
 refine ⟨⟨fun i n hi => ?_,fun i n j ls hi hj => ?_⟩,h.m,by show (bares keep l).length ≤ N;omega,fun i nd hi => ?_⟩
 ·obtain ⟨y,hy, -,rfl⟩ := bares_mem (List.mem_of_getElem? hi)
  obtain ⟨k,hk⟩ := List.mem_iff_getElem?.1 hy
  have := h.good.lv1 k y hk
  unfold bare
  simpa using this
 ·obtain ⟨y,hy, -,rfl⟩ := bares_mem (List.mem_of_getElem? hi)
  have hm := List.mem_of_getElem? hj
  unfold bare at hm
  dsimp only at hm
  rw [(List.mem_replicate.1 hm).2]
  exact ⟨fun t ht => (by cases ht),List.nodup_nil⟩
 ·obtain ⟨y,hy, -,rfl⟩ := bares_mem (List.mem_of_getElem? hi)
  obtain ⟨k,hk⟩ := List.mem_iff_getElem?.1 hy
  exact h.sm k y hk
end
end Go.Proofs.Ytofmlajanopniaa.Li
namespace Go.Proofs.Ytofmlajanopniaa.Li
open Go.RowKit Go.Maps Go.Proofs.YtofmlajanopniaaW.PrintWords Go.Proofs.YtofmlajanopniaaW.PrintLast Go.Proofs.YtofmlajanopniaaW.PrintMore Go.Proofs.Ytofmlajanopniaa.Q Go.Proofs.Ytofmlajanopniaa.Tk
section
variable {w w' : World} {base : Nat} {F F' : Nat → Prop} {φ φ' : Nat → Nat × Nat} {ψ ψ' : Nat → Nat} {v : Value} {l : List Nd}
theorem RowN.mono (h : RowN w base F all2 φ ψ v l) (hF : ∀ k,F k → F' k) (hφ : ∀ k,F k → φ' k = φ k) (hψ : ∀ k,F k → ψ' k = ψ k) : RowN w base F' all2 φ' ψ' v l := by
 obtain ⟨inner,h1,h2⟩ := h
 refine ⟨inner,h1,fun i n hi => ?_⟩
 obtain ⟨A1,c1,A2,c2,r,cap,e,hN⟩ := h2 i n hi
 exact ⟨A1,c1,A2,c2,r,cap,e,hN.mono hF hφ hψ (fun _ h => h)⟩
theorem RowN.keep (h : RowN w base F all2 φ ψ v l) (hv : ∀ k,v.ownBlock = some k → w'.heap[k]? = w.heap[k]?) (hK : ∀ k,F k → w'.heap[k]? = w.heap[k]?) : RowN w' base F all2 φ ψ v l := by
 obtain ⟨inner,h1,h2⟩ := h
 refine ⟨inner,own_move h1 hv,fun i n hi => ?_⟩
 obtain ⟨A1,c1,A2,c2,r,cap,e,hN⟩ := h2 i n hi
 exact ⟨A1,c1,A2,c2,r,cap,e,hN.keeps (fun k c t hk _ _ _ => hK k hk)⟩
theorem RowN.below (h : RowN w base F all2 φ ψ v l) (hF : ∀ k,F k → k < w.heap.size) (hb : Below w.heap.size w w') : RowN w' base F all2 φ ψ v l := h.keep (fun k hk => hb.block k (h.lt k hk)) (fun k hk => hb.block k (hF k hk))
theorem RowN.nil (w : World) (base : Nat) (F : Nat → Prop) (φ : Nat → Nat × Nat) (ψ : Nat → Nat) : RowN w base F all2 φ ψ (.slice none 0 0) [] := ⟨[],own_nil _ _ _ _,fun i n hi => by simp at hi⟩
theorem app_N {ops : Array Oper} {rest : List Oper} {o : Oper} {a : Act} {w : World} {Q : Exit → Act → World → Prop} (hgd : o.guard = none) (s x : Operand)
  (ho : o.op = .call { callee := .builtin .append,args := #[s,x],argTypes := #[46,46] }) (base : Nat) (F : Nat → Prop) (φ : Nat → Nat × Nat) (ψ : Nat → Nat) (v : Value) (l : List Nd) (hs : a.eval s = v) (hrow : RowN w base F all2 φ ψ v l) (n : Nd) (A1 : Option Addr) (c1 : Nat) (A2 : Option Addr) (c2 r cap p : Nat) (hx : a.eval x = .slice (some ⟨p,0,none⟩) 1 1) (hp : w.heap[p]? = some (.cells (NdC n A1 c1 A2 c2 r cap).toArray 37 (0,0)))
  (hN : NdR w base F all2 φ ψ l.length n A1 c1 A2 c2 r cap) (hl : l.length ≤ 100000) (hb : base ≤ w.heap.size)
  (h : ∀ v1 w1,RowN w1 base F all2 φ ψ v1 (l ++ [n]) → Only (fun i => v.ownBlock = some i) w w1 → (v1.ownBlock = v.ownBlock ∨ v1.ownBlock = some w.heap.size) → wpList Try.prog ops Q rest (a.put o.dst v1) w1) : wpList Try.prog ops Q (o :: rest) a w := by
 obtain ⟨v1,w1,hrun,h1,h2,h3⟩ := run_append_N o.type l hrow n A1 c1 A2 c2 r cap p hp hN hl hb
 refine wpList_plain hgd fun K' hK' => ?_
 unfold Oper.wp execOp
 simp only [ho,resolve,invoke,builtin,Sem.run_bind,Sem.run_pure,Result.andThen_ok,List.map_toArray,List.map_cons,List.map_nil,hs,hx,hrun]
 exact hK' _ _ (h v1 w1 h1 h2 h3)
end
def OwnN (w0 w : World) (v : Value) (l : List Nd) : Prop := ∃ φ ψ,RowN w w0.heap.size (since w0 w) all2 φ ψ v l
section
variable {w w' w0 : World} {v : Value} {l : List Nd}
theorem OwnN.below (h : OwnN w0 w v l) (hb : Below w.heap.size w w') : OwnN w0 w' v l := by
 obtain ⟨φ,ψ,h⟩ := h
 exact ⟨φ,ψ,(h.below (fun k hk => hk.2) hb).mono (fun k hk => ⟨hk.1,Nat.lt_of_lt_of_le hk.2 hb.size⟩) (fun _ _ => rfl) (fun _ _ => rfl)⟩
theorem OwnN.nil (w0 w : World) : OwnN w0 w (.slice none 0 0) [] := ⟨fun _ => (0,0),fun _ => 0,RowN.nil _ _ _ _ _⟩
theorem OwnN.slice (h : OwnN w0 w v l) : ∃ ao cap,v = .slice ao l.length cap := by obtain ⟨φ,ψ,h⟩ := h;exact h.slice
theorem own_block_ge {w : World} {base sz n : Nat} {e : TypeId} {v : Value} {inner : List Value} (h : w.ownsRow base e sz v n inner) : ∀ k,v.ownBlock = some k → base ≤ k := by
 intro k hk
 rcases h.2 with ⟨rfl, -⟩ | ⟨r,cap,cur,rfl,hb, -⟩
 ·cases hk
 ·have : r = k := by simpa [Value.ownBlock] using hk
  omega
theorem app_own {ops : Array Oper} {rest : List Oper} {o : Oper} {a : Act} {wr w1 : World} {Q : Exit → Act → World → Prop} (hgd : o.guard = none) (s x : Operand)
  (ho : o.op = .call { callee := .builtin .append,args := #[s,x],argTypes := #[46,46] }) (hs : a.eval s = v) (hrow : OwnN w0 wr v l) (n : Nd) (A1 : Option Addr) (c1 : Nat) (A2 : Option Addr) (c2 r cap p : Nat) (hx : a.eval x = .slice (some ⟨p,0,none⟩) 1 1) (hp : w.heap[p]? = some (.cells (NdC n A1 c1 A2 c2 r cap).toArray 37 (0,0)))
  (hr1 : Below wr.heap.size wr w1) {φ2 : Nat → Nat × Nat} {ψ2 : Nat → Nat} {b : Nat} (hN : NdR w1 b (since wr w1) all2 φ2 ψ2 l.length n A1 c1 A2 c2 r cap) (hb0 : w0.heap.size ≤ b) (hw : Below w1.heap.size w1 w) (hl : l.length ≤ 100000) (hb : w0.heap.size ≤ wr.heap.size)
  (h : ∀ v1 w2,OwnN w0 w2 v1 (l ++ [n]) → Below wr.heap.size wr w → Only (fun i => v.ownBlock = some i) w w2 → (∀ i,v.ownBlock = some i → w0.heap.size ≤ i) → wpList Try.prog ops Q rest (a.put o.dst v1) w2) : wpList Try.prog ops Q (o :: rest) a w := by
 have hrw : Below wr.heap.size wr w := bel_trans hr1 hw
 have s1 := hr1.size
 have s2 := hw.size
 obtain ⟨φ,ψ,hR⟩ := hrow
 have hR1 := (hR.below (fun k hk => hk.2) hrw).mono (F' := since w0 w) (φ' := both wr φ φ2) (ψ' := both wr ψ ψ2) (fun k hk => ⟨hk.1,Nat.lt_of_lt_of_le hk.2 hrw.size⟩) (fun k hk => if_pos hk.2) (fun k hk => if_pos hk.2)
 have hN1 : NdR w w0.heap.size (since w0 w) all2 (both wr φ φ2) (both wr ψ ψ2) l.length n A1 c1 A2 c2 r cap :=
  ((hN.only (S := fun _ => False) (Only.of_below hw) (fun _ _ h => h)).lower hb0).mono (fun k hk => ⟨Nat.le_trans hb hk.1,by have := hk.2;omega⟩) (fun k hk => if_neg (by have := hk.1;omega)) (fun k hk => if_neg (by have := hk.1;omega)) (fun _ h => h)
 refine app_N hgd s x ho w0.heap.size _ _ _ v l hs hR1 n A1 c1 A2 c2 r cap p hx hp hN1 hl (by omega) ?_
 intro v1 w2 h1 h2 _
 refine h v1 w2 ⟨_,_,h1.mono (F' := since w0 w2) (fun k hk => ⟨hk.1,Nat.lt_of_lt_of_le hk.2 h2.size⟩) (fun _ _ => rfl) (fun _ _ => rfl)⟩ hrw h2 ?_
 obtain ⟨inner,hrr, -⟩ := hR
 exact own_block_ge hrr
end
theorem row_heap (w : World) (c : Array Value) (t : TypeId) (o : Obj) : ((w.alloc o).alloc (.cells c t)).heap[w.heap.size + 1]? = some (.cells c t (0,0)) := by
 have := heap_alloc_new (w.alloc o) (.cells c t)
 rw [World.size_alloc] at this
 exact this
section
variable {X : Nat → Prop} {w0 w : World} {b g mb : Nat} {lk wd_ en : Int} {s : Gr} {n N : Nat} {f : Int → Option Int}
set_option maxHeartbeats 8000000 in
set_option maxRecDepth 100000 in
theorem PI.nodes (h : PI X w0 w b g mb lk wd_ en s n f) (hi : Inv s N) (hN : N ≤ 90000) : Calls Try.prog 29 #[.pointer (some ⟨b,0,none⟩)] w fun e w' => (∃ v,e = .returned v ∧ OwnN w w' v s.l) ∧ Below w.heap.size w w' := by
 have hu := Try.underlying107
 have hu2 := Try.underlying37
 have HP := Aside0.mk h
 have HV := Aside0.mk hi
 have HN := Aside0.mk hN
 have HLN := Aside0.mk (show s.l.length ≤ 90000 from Nat.le_trans hi.len hN)
 have y3 := (blk_cell h.box 3).trans rfl
 clear h hi hN
 go_enter Try.func29,Try.ntmps29
 go_wp2_with (go_at_call 18;(with_reducible refine (HP.out.gr.lenP).mono ?_);rintro e w1 ⟨rfl,hb⟩;have HB1 := Aside0.mk hb;clear hb)
 go_loopg [3,12] s.l.length (fun gk v3 v12 wr => ∃ (i : Nat),v12 = .int .i64 i ∧ Aside0 (i ≤ s.l.length ∧ s.l.length - i ≤ gk) ∧ Aside0 (OwnN w wr v3 (s.l.take i)) ∧ Aside0 (Below w.heap.size w wr))
 case atStart => exact ⟨0,rfl,⟨by omega⟩,⟨OwnN.nil _ _⟩,HB1⟩
 case round =>
  obtain ⟨i,rfl,HI,HR,HB⟩ := hrel
  by_cases hi : i < s.l.length
  ·have q1 : decide ((i : Int) < (s.l.length : Int)) = true := decide_eq_true (by omega)
   have q1' : decide (i < s.l.length) = true := decide_eq_true (by omega)
   have HIL := Aside0.mk hi
   have HIN := Aside0.mk (show wrap64 ((i : Int) + 1) = ((i + 1 : Nat) : Int) by have := HLN.out;unfold wrap64;omega)
   obtain ⟨gk,rfl⟩ : ∃ m,gk = m + 1 := ⟨gk - 1,by have := HI.out;omega⟩
   obtain ⟨nd,hnd⟩ : ∃ z,s.l[i]? = some z := ⟨_,List.getElem?_eq_getElem hi⟩
   have HND := Aside0.mk hnd
   have HTK := Aside0.mk (show s.l.take i ++ [nd] = s.l.take (i + 1) by rw [List.take_add_one,hnd];rfl)
   have HTL := Aside0.mk (show (s.l.take i).length = i by rw [List.length_take];omega)
   have HPR := Aside0.mk (HP.out.below HB.out)
   have z3 := (blk_cell HPR.out.box 3).trans rfl
   clear hi hnd y3
   go_wp2_with (first | (go_at_call 15;(with_reducible refine (HPR.out.gr.nodeY HV.out HN.out HND.out).mono ?_);rintro e w5 ⟨⟨B1,d1,B2,d2,r,cp,φ,rfl,hA⟩,hb⟩;have HA5 := Aside0.mk hA;have HB5 := Aside0.mk hb;clear hA hb) | (at_builtin;go_must (refine app_own (w0 := w) rfl _ _ rfl rfl HR.out nd B1 d1 B2 d2 r cp (w5.heap.size + 1) rfl (row_heap w5 _ _ _) HB5.out (by rw [HTL.out];exact HA5.out) HB.out.size (bel_alloc (below_alloc (Below.refl _ _) _) _) (by rw [HTL.out];have := HLN.out;have := HIL.out;omega) HB.out.size ?_);intro v6 w6 hv hb6 hO hge;rw [HTK.out] at hv;have HR6 := Aside0.mk hv;have HB6 := Aside0.mk (hO.below_of (bel_trans HB.out hb6) hge);clear hv hb6 hO hge))
   go_roundg gk
   case measure => omega
   case rel => exact ⟨i + 1,congrArg (Value.int .i64) HIN.out,⟨by have := HI.out;have := HIL.out;omega⟩,HR6,HB6⟩
  ·have q1 : decide ((i : Int) < (s.l.length : Int)) = false := decide_eq_false (by omega)
   have q1' : (i < s.l.length) = False := eq_false hi
   have q1'' : decide (i < s.l.length) = false := decide_eq_false hi
   have HE := Aside0.mk (show s.l.take i = s.l from List.take_of_length_le (by omega))
   clear hi
   go_wp2
   go_ret
   rw [HE.out] at HR
   exact ⟨⟨_,rfl,HR.out⟩,HB.out⟩
end
end Go.Proofs.Ytofmlajanopniaa.Li
namespace Go.Proofs.Ytofmlajanopniaa.Li
open Go.RowKit Go.Maps Go.Proofs.YtofmlajanopniaaW.PrintWords Go.Proofs.YtofmlajanopniaaW.PrintLast Go.Proofs.YtofmlajanopniaaW.PrintMore Go.Proofs.Ytofmlajanopniaa.Q Go.Proofs.Ytofmlajanopniaa.Tk
def KeepD (F : Nat → Prop) (w w' : World) : Prop := ∀ k c t,F k → w.heap[k]? = some (.cells c t (0,0)) → t ≠ 37 → t ≠ 48 → w'.heap[k]? = w.heap[k]?
theorem KeepD.below {F : Nat → Prop} {w w' : World} (h : Below w.heap.size w w') : KeepD F w w' := fun k c t _ hk _ _ => h.block k (blk_lt hk)
theorem R_keepD {α : Type} {d : Kd α} {e : Nat} {w w' : World} {base : Nat} {F ok : Nat → Prop} {v : Value} {xs : List α} (h : d.R e w base ok v xs) (hF : ∀ k,ok k → F k) (hK : KeepD F w w') (ht : ∀ q,q ∈ e :: d.E → q ≠ 37 ∧ q ≠ 48) : d.R e w' base ok v xs := by
 refine Kd.R_mono (Kd.R_step (w1 := w') (Kd.R_bound h) (fun k hk _ => ?_)) (fun k hk => hk.1)
 obtain ⟨hk0,_,_,q,hq,cells,hc⟩ := hk
 exact hK k cells q (hF k hk0) hc (ht q hq).1 (ht q hq).2
theorem ty_ints : ∀ q,q ∈ 3 :: (Kd.int .i64).E → q ≠ 37 ∧ q ≠ 48 := by
 intro q hq
 have hq : q ∈ [3] := hq
 rw [List.mem_singleton.1 hq]
 exact ⟨by decide,by decide⟩
def FrV (w0 : World) (n : Nd) (A1 : Option Addr) (c1 : Nat) (A2 : Option Addr) (c2 : Nat) : Prop := ∀ W,Below w0.heap.size w0 W → n.vec.length ≤ c1 ∧ Kd.C (Kd.int .i32) W A1 n.vec.length n.vec ∧ n.tags.length ≤ c2 ∧ Kd.C Kd.string W A2 n.tags.length n.tags
def DC (n : Nd) (A1 : Option Addr) (c1 : Nat) (A2 : Option Addr) (c2 : Nat) (v3 : Value) : List Value := [.int .u32 n.id,.slice A1 n.vec.length c1,.slice A2 n.tags.length c2,.int .u64 n.fr,.int .u64 n.un,v3]
def LkD (w0 w : World) (F : Nat → Prop) (v : Value) (ls : List (List Int)) : Prop := (∀ k,v.ownBlock = some k → F k) ∧ ∃ inner,w.ownsRow w0.heap.size 40 1 v ls.length inner ∧ ∀ (j : Nat) (l : List Int),ls[j]? = some l → ∃ u,inner[j]? = some u ∧ (Kd.int .i64).R 3 w w0.heap.size F u l
def DAt (w0 w : World) (F : Nat → Prop) (n : Nd) (cs : List Value) : Prop := ∃ A1 c1 A2 c2 v3,cs = DC n A1 c1 A2 c2 v3 ∧ FrV w0 n A1 c1 A2 c2 ∧ LkD w0 w F v3 n.links
section
variable {w0 w w' : World} {F F' : Nat → Prop} {n : Nd} {cs : List Value} {v : Value} {ls : List (List Int)}
theorem LkD.keeps (h : LkD w0 w F v ls) (hK : KeepD F w w') : LkD w0 w' F v ls := by
 obtain ⟨h0,inner,h1,h2⟩ := h
 refine ⟨h0,inner,own_move h1 (fun k hk => by obtain ⟨c,hc⟩ := own_typed h1 k hk;exact hK k c _ (h0 k hk) hc (by decide) (by decide)),fun j l hj => ?_⟩
 obtain ⟨u,e1,e2⟩ := h2 j l hj
 exact ⟨u,e1,R_keepD e2 (fun _ hk => hk) hK ty_ints⟩
theorem LkD.mono (h : LkD w0 w F v ls) (hF : ∀ k,F k → F' k) : LkD w0 w F' v ls := by
 obtain ⟨h0,inner,h1,h2⟩ := h
 exact ⟨fun k hk => hF k (h0 k hk),inner,h1,fun j l hj => by obtain ⟨u,e1,e2⟩ := h2 j l hj;exact ⟨u,e1,Kd.R_mono e2 hF⟩⟩
theorem LkD.below (h : LkD w0 w F v ls) (hb : Below w.heap.size w w') : LkD w0 w' F v ls := by
 obtain ⟨h0,inner,h1,h2⟩ := h
 exact ⟨h0,inner,pw_own_below h1 hb,fun j l hj => by obtain ⟨u,e1,e2⟩ := h2 j l hj;exact ⟨u,e1,Kd.R_below e2 hb⟩⟩
theorem LkD.at (h : LkD w0 w F v ls) {j : Nat} {l : List Int} (hj : ls[j]? = some l) : ∃ r cap u,v = .slice (some ⟨r,0,none⟩) ls.length cap ∧ w.cell? ⟨r,j,none⟩ = some u ∧ (Kd.int .i64).R 3 w w0.heap.size F u l ∧ F r := by
 obtain ⟨h0,inner,h1,h2⟩ := h
 obtain ⟨u,e1,e2⟩ := h2 j l hj
 have hjl := (List.getElem?_eq_some_iff.1 hj).1
 rcases h1.2 with ⟨rfl,e0⟩ | ⟨r,cap,cur,rfl,hb,hh,hc1,hc2,hc3,hc4⟩
 ·omega
 ·refine ⟨r,cap,u,rfl, ?_,e2,h0 r rfl⟩
  rw [← hc4,List.getElem?_take,if_pos (by omega),Array.getElem?_toList] at e1
  exact (blk_cell hh j).trans e1
theorem LkD.slice (h : LkD w0 w F v ls) : ∃ A c,v = .slice A ls.length c ∧ ls.length ≤ c ∧ Kd.C kints w A ls.length ls := by
 have h' := h
 obtain ⟨h0,inner,h1,h2⟩ := h
 rcases h1.2 with ⟨rfl,e0⟩ | ⟨r,cap,cur,rfl,hb,hh,hc1,hc2,hc3,hc4⟩
 ·have hl : ls = [] := List.length_eq_zero_iff.1 e0
  subst hl
  exact ⟨none,0,rfl,Nat.le_refl _,Kd.C_nil _ _⟩
 ·refine ⟨_,cap,rfl,hc1,rfl,by unfold maxLen at hc2;omega,fun _ => ⟨_,rfl,fun j l hj => ?_⟩⟩
  obtain ⟨r2,cap2,u,e,e1,e2,_⟩ := h'.at hj
  injection e with ea _ _
  injection ea with ea
  injection ea with ea
  subst ea
  obtain ⟨A,c,rfl,hl,hC⟩ := Kd.R_reads e2
  refine ⟨[.slice A l.length c],rfl,⟨A,c,rfl,hl,hC⟩,fun i u hu => ?_⟩
  match i,hu with
  | 0,hu =>
   have e : j * kints.sz + 0 = j := by show j * 1 + 0 = j;omega
   rw [e,add_plain,e1]
   exact hu
theorem LkD.set (h : LkD w0 w F v ls) {r j : Nat} {u : Value} {l : List Int} (hr : v.ownBlock = some r) (hj : j < ls.length) (hu : (Kd.int .i64).R 3 w w0.heap.size F u l) : LkD w0 (w.setCell ⟨r,j,none⟩ u) F v (ls.set j l) := by
 obtain ⟨h0,inner,h1,h2⟩ := h
 obtain ⟨c,hc⟩ := own_typed h1 r hr
 have hty : ∀ q,q ∈ 3 :: (Kd.int .i64).E → q ≠ 40 := fun q hq => by have hq : q ∈ [3] := hq;rw [List.mem_singleton.1 hq];decide
 refine ⟨h0,inner.set j u,by rw [List.length_set];exact own_set_at h1 hr j u,fun k m hk => ?_⟩
 rw [List.getElem?_set] at hk
 by_cases e : j = k
 ·subst e
  rw [if_pos rfl,if_pos hj] at hk
  injection hk with hk
  subst hk
  have hil : j < inner.length := by have := h1.1;omega
  exact ⟨u,by rw [List.getElem?_set,if_pos rfl,if_pos hil],Kd.R_set hu hc hty j u⟩
 ·rw [if_neg e] at hk
  obtain ⟨u2,e1,e2⟩ := h2 k m hk
  exact ⟨u2,by rw [List.getElem?_set_ne e];exact e1,Kd.R_set e2 hc hty j u⟩
theorem LkD.one (h : LkD w0 w F v ls) : v.oneCell' = true := by obtain ⟨A,c,rfl,_⟩ := h.slice;rfl
theorem DAt.keeps (h : DAt w0 w F n cs) (hK : KeepD F w w') : DAt w0 w' F n cs := by
 obtain ⟨A1,c1,A2,c2,v3,e,h1,h2⟩ := h
 exact ⟨A1,c1,A2,c2,v3,e,h1,h2.keeps hK⟩
theorem DAt.mono (h : DAt w0 w F n cs) (hF : ∀ k,F k → F' k) : DAt w0 w F' n cs := by
 obtain ⟨A1,c1,A2,c2,v3,e,h1,h2⟩ := h
 exact ⟨A1,c1,A2,c2,v3,e,h1,h2.mono hF⟩
end
structure DM (w0 w : World) (g : Nat) (F : Nat → Prop) (vL : Value) (s : Gr) : Prop where
 box : w.heap[g]? = some (.cells #[.int .i64 s.m,vL] 48 (0,0))
 gF : F g
 low : ∀ k,F k → w0.heap.size ≤ k ∧ k < w.heap.size
 vF : ∀ k,vL.ownBlock = some k → F k
 row : ∃ inner,w.ownsRow w0.heap.size 37 6 vL s.l.length inner ∧ ∀ i n,s.l[i]? = some n → DAt w0 w F n ((inner.drop (i * 6)).take 6)
 at0 : Below w0.heap.size w0 w
def DX (w0 w : World) (g : Nat) (F : Nat → Prop) (s : Gr) : Prop := ∃ vL,DM w0 w g F vL s
structure DNodeAt (w : World) (ad : Addr) (i : Nat) (n : Nd) (A1 : Option Addr) (c1 : Nat) (A2 : Option Addr) (c2 : Nat) (A3 : Option Addr) (c3 : Nat) : Prop where
 y0 : w.cell? (ad.add (i * 6)) = some (.int .u32 n.id)
 y1 : w.cell? ⟨(ad.add (i * 6)).block,(ad.add (i * 6)).off + 1,none⟩ = some (.slice A1 n.vec.length c1)
 y2 : w.cell? ⟨(ad.add (i * 6)).block,(ad.add (i * 6)).off + 2,none⟩ = some (.slice A2 n.tags.length c2)
 y3 : w.cell? ⟨(ad.add (i * 6)).block,(ad.add (i * 6)).off + 3,none⟩ = some (.int .u64 n.fr)
 y4 : w.cell? ⟨(ad.add (i * 6)).block,(ad.add (i * 6)).off + 4,none⟩ = some (.int .u64 n.un)
 y5 : w.cell? ⟨(ad.add (i * 6)).block,(ad.add (i * 6)).off + 5,none⟩ = some (.slice A3 n.links.length c3)
 fit1 : n.vec.length ≤ c1
 vec : Kd.C (Kd.int .i32) w A1 n.vec.length n.vec
 fit2 : n.tags.length ≤ c2
 tags : Kd.C Kd.string w A2 n.tags.length n.tags
 fit3 : n.links.length ≤ c3
 lk : Kd.C kints w A3 n.links.length n.links
theorem DNodeAt.below {w w' : World} {ad : Addr} {i : Nat} {n : Nd} {A1 : Option Addr} {c1 : Nat} {A2 : Option Addr} {c2 : Nat} {A3 : Option Addr} {c3 : Nat} (h : DNodeAt w ad i n A1 c1 A2 c2 A3 c3) (hb : Below w.heap.size w w') : DNodeAt w' ad i n A1 c1 A2 c2 A3 c3 :=
 ⟨pw_cell_below hb h.y0,pw_cell_below hb h.y1,pw_cell_below hb h.y2,pw_cell_below hb h.y3,pw_cell_below hb h.y4,pw_cell_below hb h.y5,h.fit1,Kd.C_below h.vec hb,h.fit2,Kd.C_below h.tags hb,h.fit3,Kd.C_below h.lk hb⟩
section
variable {w0 w w' : World} {g : Nat} {F F' : Nat → Prop} {vL : Value} {s : Gr}
theorem DM.same (h : DM w0 w g F vL s) (hm : ∀ k,F k → w'.heap[k]? = w.heap[k]?) (hs : w.heap.size ≤ w'.heap.size) (hB : Below w0.heap.size w0 w') : DM w0 w' g F vL s := by
 obtain ⟨inner,h1,h2⟩ := h.row
 refine ⟨(hm g h.gF).trans h.box,h.gF,fun k hk => ⟨(h.low k hk).1,Nat.lt_of_lt_of_le (h.low k hk).2 hs⟩,h.vF,⟨inner,own_move h1 (fun k hk => hm k (h.vF k hk)),fun i n hn => ?_⟩,hB⟩
 exact (h2 i n hn).keeps (fun k c t hk hc _ _ => hm k hk)
theorem DM.below (h : DM w0 w g F vL s) (hb : Below w.heap.size w w') : DM w0 w' g F vL s := h.same (fun k hk => hb.block k (h.low k hk).2) hb.size (bel_trans h.at0 hb)
theorem DM.mono (h : DM w0 w g F vL s) (hF : ∀ k,F k → F' k) (hl : ∀ k,F' k → w0.heap.size ≤ k ∧ k < w.heap.size) : DM w0 w g F' vL s := by
 obtain ⟨inner,h1,h2⟩ := h.row
 exact ⟨h.box,hF g h.gF,hl,fun k hk => hF k (h.vF k hk),⟨inner,h1,fun i n hn => (h2 i n hn).mono hF⟩,h.at0⟩
theorem DX.same (h : DX w0 w g F s) (hm : ∀ k,F k → w'.heap[k]? = w.heap[k]?) (hs : w.heap.size ≤ w'.heap.size) (hB : Below w0.heap.size w0 w') : DX w0 w' g F s := by
 obtain ⟨vL,h⟩ := h
 exact ⟨vL,h.same hm hs hB⟩
theorem DX.at0 (h : DX w0 w g F s) : Below w0.heap.size w0 w := by obtain ⟨vL,h⟩ := h;exact h.at0
theorem DX.low (h : DX w0 w g F s) : ∀ k,F k → w0.heap.size ≤ k ∧ k < w.heap.size := by obtain ⟨vL,h⟩ := h;exact h.low
theorem DX.below (h : DX w0 w g F s) (hb : Below w.heap.size w w') : DX w0 w' g F s := by obtain ⟨vL,h⟩ := h;exact ⟨vL,h.below hb⟩
theorem DX.beside (h : DX w0 w g F s) {S : Nat → Prop} (hO : Only S w w') (hd : ∀ k,F k → ¬ S k) (hl : ∀ k,S k → w0.heap.size ≤ k) : DX w0 w' g F s := h.same (fun k hk => hO.block k (h.low k hk).2 (hd k hk)) hO.size (hO.below_of h.at0 hl)
theorem DM.rowB (h : DM w0 w g F vL s) {rb : Nat} (hr : vL.ownBlock = some rb) : ∃ c,w.heap[rb]? = some (.cells c 37 (0,0)) := by
 obtain ⟨inner,h1,_⟩ := h.row
 exact own_typed h1 rb hr
theorem DM.node (h : DM w0 w g F vL s) : ∃ ao cap,vL = .slice ao s.l.length cap ∧ s.l.length ≤ cap ∧ (ao = none → cap = 0) ∧ ∀ i n,s.l[i]? = some n → ∃ ad A1 c1 A2 c2 A3 c3,ao = some ad ∧ DNodeAt w ad i n A1 c1 A2 c2 A3 c3 ∧ LkD w0 w F (.slice A3 n.links.length c3) n.links ∧ FrV w0 n A1 c1 A2 c2 := by
 obtain ⟨inner,h1,h2⟩ := h.row
 rcases h1.2 with ⟨rfl,h0⟩ | ⟨r,cap,cur,rfl,hb,hh,hc1,hc2,hc3,hc4⟩
 ·refine ⟨none,0,by rw [h0],by omega,fun _ => rfl,fun i n hn => ?_⟩
  have := (List.getElem?_eq_some_iff.1 hn).1
  omega
 ·refine ⟨_,cap,rfl,hc1,fun e => by (cases e),fun i n hn => ?_⟩
  obtain ⟨A1,c1,A2,c2,v3,e,hf,hL⟩ := h2 i n hn
  obtain ⟨A3,c3,rfl,l3,g3⟩ := hL.slice
  obtain ⟨f1,f2,f3,f4⟩ := hf w h.at0
  have hlt := (List.getElem?_eq_some_iff.1 hn).1
  have hin : ∀ j,j < 6 → w.cell? ⟨r,i * 6 + j,none⟩ = ((inner.drop (i * 6)).take 6)[j]? := by
   intro j hj
   rw [blk_cell hh,List.getElem?_take,if_pos hj,List.getElem?_drop,← hc4,List.getElem?_take,if_pos (by omega),Array.getElem?_toList]
  have e2 : ((⟨r,0,none⟩ : Addr).add (i * 6)) = ⟨r,i * 6,none⟩ := by rw [add_plain]
  refine ⟨_,A1,c1,A2,c2,A3,c3,rfl,⟨?_, ?_, ?_, ?_, ?_, ?_,f1,f2,f3,f4,l3,g3⟩,hL,hf⟩
  ·have h0 := hin 0 (by omega);rw [e] at h0;rw [e2];exact h0
  ·have h0 := hin 1 (by omega);rw [e] at h0;rw [e2];exact h0
  ·have h0 := hin 2 (by omega);rw [e] at h0;rw [e2];exact h0
  ·have h0 := hin 3 (by omega);rw [e] at h0;rw [e2];exact h0
  ·have h0 := hin 4 (by omega);rw [e] at h0;rw [e2];exact h0
  ·have h0 := hin 5 (by omega);rw [e] at h0;rw [e2];exact h0
theorem DX.reads (h : DX w0 w g F s) : ∃ ao cap,w.heap[g]? = some (.cells #[.int .i64 s.m,.slice ao s.l.length cap] 48 (0,0)) ∧ s.l.length ≤ cap ∧ ∀ i n,s.l[i]? = some n → ∃ ad A1 c1 A2 c2 A3 c3,ao = some ad ∧ DNodeAt w ad i n A1 c1 A2 c2 A3 c3 := by
 obtain ⟨vL,h⟩ := h
 obtain ⟨ao,cap,rfl,hl, -,hn⟩ := h.node
 refine ⟨ao,cap,h.box,hl,fun i n hi => ?_⟩
 obtain ⟨ad,A1,c1,A2,c2,A3,c3,e,hN,_⟩ := hn i n hi
 exact ⟨ad,A1,c1,A2,c2,A3,c3,e,hN⟩
theorem DM.put (h : DM w0 w g F vL s) {i rb j : Nat} {n n' : Nd} (hj : j < 6) (hn : s.l[i]? = some n) (hr : vL.ownBlock = some rb) (u : Value) (hu : ∀ cs,DAt w0 w F n cs → DAt w0 w F n' (cs.set j u)) : DM w0 (w.setCell ⟨rb,i * 6 + j,none⟩ u) g F vL ⟨s.m,s.l.set i n'⟩ := by
 obtain ⟨inner,h1,h2⟩ := h.row
 obtain ⟨cc,hcc⟩ := h.rowB hr
 have hfar : ∀ k,k ≠ rb → (w.setCell ⟨rb,i * 6 + j,none⟩ u).heap[k]? = w.heap[k]? := fun k hk => Below.heap_setCell w ⟨rb,i * 6 + j,none⟩ _ k hk
 have hK : KeepD F w (w.setCell ⟨rb,i * 6 + j,none⟩ u) := fun k c t _ hc ht _ => hfar k (fun e => by subst e;exact ht (blk_type hc hcc))
 have hil := (List.getElem?_eq_some_iff.1 hn).1
 refine ⟨(hfar g (fun e => by subst e;exact absurd (blk_type h.box hcc) (by decide))).trans h.box,h.gF,fun k hk => ⟨(h.low k hk).1,by rw [World.size_setCell];exact (h.low k hk).2⟩,h.vF,⟨inner.set (i * 6 + j) u,by show World.ownsRow _ _ _ _ _ (s.l.set i n').length _;rw [List.length_set];exact own_set_at h1 hr _ _,fun k m hm => ?_⟩,below_set h.at0 (h.low rb (h.vF rb hr)).1⟩
 have hm' : (s.l.set i n')[k]? = some m := hm
 rw [List.getElem?_set] at hm'
 by_cases e : i = k
 ·subst e
  rw [if_pos rfl,if_pos hil] at hm'
  injection hm' with hm'
  subst hm'
  rw [six_set hj]
  exact (hu _ (h2 i n hn)).keeps hK
 ·rw [if_neg e] at hm'
  rw [six_far hj (fun x => e x.symm)]
  exact (h2 k m hm').keeps hK
theorem DM.until_ (h : DM w0 w g F vL s) {i rb : Nat} {n : Nd} (hn : s.l[i]? = some n) (hr : vL.ownBlock = some rb) (v : Int) : DM w0 (w.setCell ⟨rb,i * 6 + 4,none⟩ (.int .u64 v)) g F vL (s.until_ i v) := by
 have e : s.until_ i v = ⟨s.m,s.l.set i (setUn n v)⟩ := by unfold Gr.until_;rw [hn]
 rw [e]
 refine h.put (by omega) hn hr _ (fun cs hc => ?_)
 obtain ⟨A1,c1,A2,c2,v3,rfl,h1,h2⟩ := hc
 exact ⟨A1,c1,A2,c2,v3,rfl,h1,h2⟩
theorem DM.links (h : DM w0 w g F vL s) {i rb lv : Nat} {n : Nd} {l : List Int} (hn : s.l[i]? = some n) (hr : vL.ownBlock = some rb) {v3 : Value} (h3 : LkD w0 w F v3 (n.links.set lv l)) : DM w0 (w.setCell ⟨rb,i * 6 + 5,none⟩ v3) g F vL (s.setL i lv l) := by
 have e : s.setL i lv l = ⟨s.m,s.l.set i (setLk n lv l)⟩ := by unfold Gr.setL;rw [hn]
 rw [e]
 refine h.put (by omega) hn hr _ (fun cs hc => ?_)
 obtain ⟨A1,c1,A2,c2,v4,rfl,h1,h2⟩ := hc
 exact ⟨A1,c1,A2,c2,v3,rfl,h1,h3⟩
set_option maxRecDepth 100000 in
theorem run_append_L (ty : TypeId) {v : Value} {ls ls2 : List (List Int)} (hv : LkD w0 w F v ls) {ad : Addr} {n cap : Nat} {us : List Value} (hn : ls2.length = n) (hul : us.length = n) (h0 : 0 < n) (hc : ∀ j u,us[j]? = some u → w.cell? (ad.add j) = some u) (hu : ∀ (j : Nat) (l : List Int),ls2[j]? = some l → ∃ u,us[j]? = some u ∧ (Kd.int .i64).R 3 w w0.heap.size F u l) (h1 : ∀ u ∈ us,u.oneCell' = true) (hl : ls.length + n ≤ 1000) (hb : w0.heap.size ≤ w.heap.size) :
  ∃ v1 w1,(Builtin.append_ #[35,35] ty #[v,.slice (some ad) n cap]).run Try.prog w = .ok v1 w1 ∧ LkD w0 w1 (fun k => F k ∨ (w.heap.size ≤ k ∧ k < w1.heap.size)) v1 (ls ++ ls2) ∧ Only (fun i => v.ownBlock = some i) w w1 ∧ (v1.ownBlock = v.ownBlock ∨ v1.ownBlock = some w.heap.size) := by
 obtain ⟨i0,hi,hzz⟩ := Option.map_eq_some_iff.1 info_ints
 simp only [Prod.mk.injEq] at hzz
 obtain ⟨hz,hsz,hby⟩ := hzz
 obtain ⟨hF,inner,h2,h3⟩ := hv
 have hty : ∀ q,q ∈ 3 :: (Kd.int .i64).E → q ≠ 40 := fun q hq => by have hq : q ∈ [3] := hq;rw [List.mem_singleton.1 hq];decide
 obtain ⟨v1,w1,hrun,hown,hgr,hne,hat⟩ := run_append_own_at (P := Try.prog) w w0.heap.size 35 ty 40 i0 _ 1 24 Try.underlying35 hi hz hsz hby rfl (by omega) v ls.length inner h2 ad n cap us (by rw [hul];omega) hc h1 (by unfold maxLen;omega) (by omega) hb
 have hO : Only (fun i => v.ownBlock = some i) w w1 := Only.of_grown hgr (fun k hk => hk)
 have hK : ∀ {u : Value} {l : List Int},(Kd.int .i64).R 3 w w0.heap.size F u l → (Kd.int .i64).R 3 w1 w0.heap.size (fun k => F k ∨ (w.heap.size ≤ k ∧ k < w1.heap.size)) u l := fun {u l} hr => by
  refine Kd.R_mono (Kd.R_step (Kd.R_bound hr) (fun k hk hlt => hO.block k hlt (fun e => ?_))) (fun k hk => .inl hk.1)
  obtain ⟨_,_,_,q,hq,cells,hcq⟩ := hk
  obtain ⟨c2,hc2⟩ := own_typed h2 k e
  exact hty q hq (blk_type hcq hc2)
 have hil : inner.length = ls.length := by rw [h2.1];omega
 refine ⟨v1,w1,hrun,⟨fun k hk => ?_,inner ++ us,by rw [List.length_append,hn];exact hown,fun j l hj => ?_⟩,hO,hat⟩
 ·have hlt := own_lt hown k hk
  rcases hat with e | e
  ·exact .inl (hF k (e ▸ hk))
  ·rw [e] at hk
   injection hk with hk
   exact .inr ⟨by omega,hlt⟩
 ·by_cases e : j < ls.length
  ·rw [List.getElem?_append_left e] at hj
   obtain ⟨u,e1,e2⟩ := h3 j l hj
   exact ⟨u,by rw [List.getElem?_append_left (by omega)];exact e1,hK e2⟩
  ·rw [List.getElem?_append_right (by omega)] at hj
   obtain ⟨u,e1,e2⟩ := hu _ l hj
   exact ⟨u,by rw [List.getElem?_append_right (by omega),hil];exact e1,hK e2⟩
/-! ### A node more -/
def RowD (w0 w : World) (F : Nat → Prop) (v : Value) (l : List Nd) : Prop := ∃ inner,w.ownsRow w0.heap.size 37 6 v l.length inner ∧ ∀ i n,l[i]? = some n → DAt w0 w F n ((inner.drop (i * 6)).take 6)
theorem RowD.slice {v : Value} {l : List Nd} (h : RowD w0 w F v l) : ∃ ao cap,v = .slice ao l.length cap := by
 obtain ⟨inner,h1,_⟩ := h
 rcases h1.2 with ⟨rfl,h0⟩ | ⟨r,cap,cur,rfl,_⟩
 ·exact ⟨none,0,by rw [h0]⟩
 ·exact ⟨_,cap,rfl⟩
theorem RowD.lt {v : Value} {l : List Nd} (h : RowD w0 w F v l) : ∀ k,v.ownBlock = some k → k < w.heap.size := by
 obtain ⟨inner,h1,_⟩ := h
 exact own_lt h1
theorem DM.added (h : DM w0 w g F vL s) {v1 : Value} {w1 : World} {n : Nd} (hO : Only (fun i => vL.ownBlock = some i) w w1) (hr : RowD w0 w1 F v1 (s.l ++ [n])) (hv : v1.ownBlock = vL.ownBlock ∨ v1.ownBlock = some w.heap.size) :
  DM w0 (w1.setCell ⟨g,1,none⟩ v1) g (fun k => F k ∨ (w.heap.size ≤ k ∧ k < w1.heap.size)) v1 ⟨s.m,s.l ++ [n]⟩ := by
 have hlt := hr.lt
 obtain ⟨inner,h1,h2⟩ := hr
 have hnb : ∀ {k t : Nat} {c : Array Value},w.heap[k]? = some (.cells c t (0,0)) → t ≠ 37 → w1.heap[k]? = w.heap[k]? := fun {k t c} hk ht => hO.block k (blk_lt hk) (fun e => by
  obtain ⟨inner0,h0,_⟩ := h.row
  obtain ⟨c2,hc2⟩ := own_typed h0 k e
  exact ht (blk_type hk hc2))
 have hb : w1.heap[g]? = _ := (hnb h.box (by decide)).trans h.box
 have hfar : ∀ k,k ≠ g → (w1.setCell ⟨g,1,none⟩ v1).heap[k]? = w1.heap[k]? := fun k hk => Below.heap_setCell w1 ⟨g,1,none⟩ _ k hk
 have hK : KeepD F w1 (w1.setCell ⟨g,1,none⟩ v1) := fun k c t _ hc _ ht => hfar k (fun e => by subst e;exact ht (blk_type hc hb))
 have hB1 : Below w0.heap.size w0 w1 := hO.below_of h.at0 (fun k hk => (h.low k (h.vF k hk)).1)
 refine ⟨blk_put hb 1 _ rfl,.inl h.gF,fun k hk => ?_,fun k hk => ?_,⟨inner,own_move h1 (fun k hk => hfar k (fun e => by subst e;obtain ⟨c,hc⟩ := own_typed h1 _ hk;exact absurd (blk_type hc hb) (by decide))),fun i m hm => ?_⟩,below_set hB1 (h.low g h.gF).1⟩
 ·rw [World.size_setCell]
  rcases hk with hk | hk
  ·exact ⟨(h.low k hk).1,Nat.lt_of_lt_of_le (h.low k hk).2 hO.size⟩
  ·exact ⟨Nat.le_trans h.at0.size hk.1,hk.2⟩
 ·have hl := hlt k hk
  rcases hv with hv | hv
  ·exact .inl (h.vF k (hv ▸ hk))
  ·rw [hv] at hk
   injection hk with hk
   exact .inr ⟨by omega,hl⟩
 ·exact ((h2 i m hm).keeps hK).mono (fun k hk => .inl hk)
end
end Go.Proofs.Ytofmlajanopniaa.Li
namespace Go.Proofs.Ytofmlajanopniaa.Li
open Go.RowKit Go.Maps Go.Proofs.YtofmlajanopniaaW.PrintWords Go.Proofs.YtofmlajanopniaaW.PrintLast Go.Proofs.YtofmlajanopniaaW.PrintMore Go.Proofs.Ytofmlajanopniaa.Q Go.Proofs.Ytofmlajanopniaa.Tk
def OwnC (w0 w : World) (v : Value) (C : List (List Int)) : Prop := LkD w0 w (since w0 w) v C
section
variable {w0 w w' w2 : World} {v : Value} {C : List (List Int)}
theorem OwnC.nil (w0 w : World) : OwnC w0 w (.slice none 0 0) [] := ⟨fun k hk => (by cases hk),[],own_nil _ _ _ _,fun j l hj => (by cases hj)⟩
theorem OwnC.below (h : OwnC w0 w v C) (hb : Below w.heap.size w w') : OwnC w0 w' v C := (LkD.below h hb).mono (fun k hk => ⟨hk.1,Nat.lt_of_lt_of_le hk.2 hb.size⟩)
theorem OwnC.keep (h : LkD w0 w (since w0 w2) v C) (hK : ∀ k,since w0 w2 k → w'.heap[k]? = w.heap[k]?) : LkD w0 w' (since w0 w2) v C := h.keeps (fun k c t hk _ _ _ => hK k hk)
theorem OwnC.slice (h : OwnC w0 w v C) : ∃ A c,v = .slice A C.length c := by obtain ⟨A,c,e,_⟩ := LkD.slice h;exact ⟨A,c,e⟩
end
section
variable {ops : Array Oper} {rest : List Oper} {o : Oper} {a : Act} {w0 w : World} {K : Act → World → Prop} {Q : Exit → Act → World → Prop} {E : Prop} {v : Value}
theorem step_C (hgd : o.guard = none) (sl x : Operand) (ho : o.op = .call { callee := .builtin .append,args := #[sl,x],argTypes := #[35,35] }) (C : List (List Int)) (hs : a.eval sl = v) (hv : OwnC w0 w v C) (p : Nat) (u : Value) (l : List Int) (hx : a.eval x = .slice (some ⟨p,0,none⟩) 1 1) (hp : w.heap[p]? = some (.cells #[u] 40 (0,0)))
  (hu : OwnZ w w0.heap.size u l) (hl : C.length + 1 ≤ 1000) (hb : w0.heap.size ≤ w.heap.size)
  (h : ∀ v1 w1,OwnC w0 w1 v1 (C ++ [l]) → Only (fun i => v.ownBlock = some i) w w1 → (∀ i,v.ownBlock = some i → w0.heap.size ≤ i) → K (a.put o.dst v1) w1) : if Region.wanted o (yielded ops a.tmps) = true then Oper.wp Try.prog o a w K Q else E := by
 have hR : (Kd.int .i64).R 3 w w0.heap.size (since w0 w) u l := hu.R (fun k hk => ⟨own_base hu k hk,own_lt hu k hk⟩)
 obtain ⟨v1,w1,hrun,k1,k2, -⟩ := run_append_L (w0 := w0) (F := since w0 w) o.type (v := v) (ls := C) (ls2 := [l]) (ad := ⟨p,0,none⟩) (n := 1) (cap := 1) (us := [u]) hv rfl rfl (by omega) (fun j u' hj => by
  match j,hj with
  | 0,hj => cases hj;rw [add_plain];exact (blk_cell hp 0).trans rfl) (fun j l' hj => by
  match j,hj with
  | 0,hj => cases hj;exact ⟨u,rfl,hR⟩) (fun u' hu' => by
  rw [List.mem_singleton.1 hu']
  obtain ⟨A,c,rfl,_⟩ := Kd.R_reads hR
  rfl) hl hb
 rw [if_pos (by simp [Region.wanted,hgd])]
 unfold Oper.wp execOp
 simp only [ho,resolve,invoke,builtin,Sem.run_bind,Sem.run_pure,Result.andThen_ok,List.map_toArray,List.map_cons,List.map_nil,hs,hx,hrun]
 refine h v1 w1 (k1.mono (fun k hk => ?_)) k2 (fun i hi => ?_)
 ·rcases hk with hk | hk
  ·exact ⟨hk.1,Nat.lt_of_lt_of_le hk.2 k2.size⟩
  ·exact ⟨Nat.le_trans hb hk.1,hk.2⟩
 ·exact (hv.1 i hi).1
end
theorem LkD.list2 {w0 w w2 : World} {v : Value} {C : List (List Int)} (h : LkD w0 w (since w0 w2) v C) {j : Nat} {l : List Int} (hj : C[j]? = some l) : ∃ r cap A c,v = .slice (some ⟨r,0,none⟩) C.length cap ∧ ∀ W : World,(∀ k,since w0 w2 k → W.heap[k]? = w.heap[k]?) → W.cell? ⟨r,j,none⟩ = some (.slice A l.length c) ∧ l.length ≤ c ∧ Kd.C (Kd.int .i64) W A l.length l := by
 obtain ⟨r,cap,u,rfl,e1,e2, -⟩ := h.at hj
 obtain ⟨A,c,rfl,hl,hC⟩ := Kd.R_reads e2
 refine ⟨r,cap,A,c,rfl,fun W hW => ?_⟩
 obtain ⟨r',cap',u',e,e1',e2', -⟩ := (OwnC.keep h hW).at hj
 injection e with ea _ _
 injection ea with ea
 injection ea with ea
 subst ea
 have hr : W.cell? ⟨r,j,none⟩ = some (.slice A l.length c) := by
  obtain ⟨hF,inner,h1, -⟩ := h
  have h2 := hW r (hF r rfl)
  unfold World.cell? at e1 ⊢
  rw [h2]
  exact e1
 rw [hr] at e1'
 injection e1' with e1'
 subst e1'
 obtain ⟨A2,c2,e3,hl2,hC2⟩ := Kd.R_reads e2'
 injection e3 with e4 e5 e6
 subst e4 e6
 exact ⟨hr,hl2,hC2⟩
theorem OwnZ.lit (w : World) (x : Int) : OwnZ (w.alloc (.cells #[.int .i64 x] 3)) w.heap.size (.slice (some ⟨w.heap.size,0,none⟩) 1 1) [x] := by
 refine ⟨rfl,Or.inr ⟨w.heap.size,1,#[.int .i64 x],rfl,Nat.le_refl _,heap_alloc_new w _,Nat.le_refl _,by unfold maxLen;omega,rfl,rfl⟩⟩
structure PS (X : Nat → Prop) (w0 w wr : World) (b g mb : Nat) (lk wd en : Int) (s : Gr) (n : Nat) (f : Int → Option Int) : Prop where
 pi : PI X w0 wr b g mb lk wd en s n f
 keep : KeepX X w wr
section
variable {X : Nat → Prop} {w0 w wr w' : World} {b g mb : Nat} {lk wd en : Int} {s s' : Gr} {n n' : Nat} {f f' : Int → Option Int}
theorem PI.start (h : PI X w0 w b g mb lk wd en s n f) : PS X w0 w w b g mb lk wd en s n f := ⟨h,KeepX.refl _ _⟩
theorem PS.below (h : PS X w0 w wr b g mb lk wd en s n f) (hb : Below wr.heap.size wr w') : PS X w0 w w' b g mb lk wd en s n f := ⟨h.pi.below hb,h.keep.trans (h.pi.keepB hb)⟩
theorem PS.op (h : PS X w0 w wr b g mb lk wd en s n f) (hG : M1 (XI X b mb) w0 w' g s') (hK : KeepX (XI X b mb) wr w') (hm : s'.m = s.m) : PS X w0 w w' b g mb lk wd en s' n f := by
 obtain ⟨h1,h2⟩ := h.pi.op hG hK hm
 exact ⟨h1,h.keep.trans h2⟩
theorem PS.put (h : PS X w0 w wr b g mb lk wd en s n f) (hM : MapI w' mb n' f') (hO : Only (fun k => k = mb) wr w') : PS X w0 w w' b g mb lk wd en s n' f' := by
 obtain ⟨h1,h2⟩ := h.pi.put hM hO
 exact ⟨h1,h.keep.trans h2⟩
theorem PS.entry (h : PS X w0 w wr b g mb lk wd en s n f) (en' : Int) : PS X w0 w (wr.setCell ⟨b,4,none⟩ (.int .i64 en')) b g mb lk wd en' s n f := by
 obtain ⟨h1,h2⟩ := h.pi.entry en'
 exact ⟨h1,h.keep.trans h2⟩
theorem PS.blk (h : PS X w0 w wr b g mb lk wd en s n f) {k : Nat} {o : Obj} (hk : X k) (hw : w.heap[k]? = some o) : wr.heap[k]? = some o := (h.keep.2 k hk).trans hw
end
end Go.Proofs.Ytofmlajanopniaa.Li
namespace Go.Proofs.Ytofmlajanopniaa.Li
open Go.RowKit Go.Maps Go.Proofs.YtofmlajanopniaaW.PrintWords Go.Proofs.YtofmlajanopniaaW.PrintLast Go.Proofs.YtofmlajanopniaaW.PrintMore Go.Proofs.Ytofmlajanopniaa.Q Go.Proofs.Ytofmlajanopniaa.Tk
def hme.T4 : Bool × List (List Nat × List Nat) := (true,[([],[]),([0],[0]),([1],[1]),([2],[2]),([],[]),([],[]),([],[]),([5,6],[5,6]),([7],[7]),([],[]),([],[]),([],[]),([10,11],[10,11]),([3,4,8,9,12,12],[3,4,8,9,12])])
def hme.B4 : List Nat := [0,1,3,7,0,0,0,96,224,0,0,0,3072,8191]
theorem hme.tab4 : rtab .any (opsOf Try.f86 4) = hme.T4 := by kernel_rfl
theorem hme.bits4 : waitsOk hme.T4.2 hme.B4 = true := by kernel_rfl
def hme.T14 : Bool × List (List Nat × List Nat) := (true,[([],[]),([0],[0]),([1],[1]),([2],[2]),([],[]),([],[]),([],[]),([5,6],[5,6]),([7],[7]),([],[]),([],[]),([],[]),([10,11],[10,11]),([3,4,8,9,12,12],[3,4,8,9,12])])
def hme.B14 : List Nat := [0,1,3,7,0,0,0,96,224,0,0,0,3072,8191]
theorem hme.tab14 : rtab .any (opsOf Try.f86 14) = hme.T14 := by kernel_rfl
theorem hme.bits14 : waitsOk hme.T14.2 hme.B14 = true := by kernel_rfl
theorem NdR.lists2 {w : World} {base : Nat} {F : Nat → Prop} {φ : Nat → Nat × Nat} {ψ : Nat → Nat} {i : Nat} {n : Nd} {A1 : Option Addr} {c1 : Nat} {A2 : Option Addr} {c2 r cap : Nat} (h : NdR w base F all2 φ ψ i n A1 c1 A2 c2 r cap) {j : Nat} {l : List Int} (hj : n.links[j]? = some l) : ∃ A c, ∀ W : World,(∀ k,F k → W.heap[k]? = w.heap[k]?) → W.cell? ⟨r,j,none⟩ = some (.slice A l.length c) ∧ l.length ≤ c ∧ Kd.C (Kd.int .i64) W A l.length l := by
 obtain ⟨k1,k2,k3,k4,cells,k5,k6⟩ := h.lk
 obtain ⟨u,e1,e2⟩ := k6 j l hj
 obtain ⟨A,c,rfl,hl,hC⟩ := Kd.R_reads (e2 (all2_i _ _))
 refine ⟨A,c,fun W hW => ?_⟩
 obtain ⟨m1,m2,m3,m4,cells',m5,m6⟩ := (h.keeps (w' := W) (fun k c t hk _ _ _ => hW k hk)).lk
 obtain ⟨u',f1,f2⟩ := m6 j l hj
 have hr := (hW r k2).trans k5
 rw [hr] at m5
 injection m5 with m5
 injection m5 with m5 _ _
 subst m5
 rw [e1] at f1
 injection f1 with f1
 subst f1
 obtain ⟨A',c',e3,hl',hC'⟩ := Kd.R_reads (f2 (all2_i _ _))
 injection e3 with e4 e5 e6
 subst e4 e6
 exact ⟨(blk_cell hr j).trans e1,hl',hC'⟩
theorem OwnN.static {w0 w : World} {v : Value} {l : List Nd} (h : OwnN w0 w v l) {i : Nat} {n : Nd} (hn : l[i]? = some n) : ∃ rb cap A1 c1 A2 c2 r cl,v = .slice (some ⟨rb,0,none⟩) l.length cap ∧ (∀ W : World,(∀ k,since w0 w k → W.heap[k]? = w.heap[k]?) → NodeAt W ⟨rb,0,none⟩ i n A1 c1 A2 c2 r cl ∧ NV W n A1 c1 A2 c2 r cl) ∧ ∀ (j : Nat) (ls : List Int),n.links[j]? = some ls → ∃ A c, ∀ W : World,(∀ k,since w0 w k → W.heap[k]? = w.heap[k]?) → W.cell? ⟨r,j,none⟩ = some (.slice A ls.length c) ∧ ls.length ≤ c ∧ Kd.C (Kd.int .i64) W A ls.length ls := by
 obtain ⟨φ,ψ,hR⟩ := h
 have hvl := hR.lt
 obtain ⟨inner,h1,h2⟩ := hR
 have hvg := own_block_ge h1
 obtain ⟨A1,c1,A2,c2,r2,cl,e,hN⟩ := h2 i n hn
 have hlt := (List.getElem?_eq_some_iff.1 hn).1
 have hsl : ∃ rb cap,v = .slice (some ⟨rb,0,none⟩) l.length cap := by
  rcases h1.2 with ⟨rfl,h0⟩ | ⟨r,cap,cur,rfl, -⟩
  ·omega
  ·exact ⟨r,cap,rfl⟩
 obtain ⟨rb,cap,rfl⟩ := hsl
 refine ⟨rb,cap,A1,c1,A2,c2,r2,cl,rfl,fun W hW => ?_,fun j ls hj => hN.lists2 hj⟩
 have hNW : NdR W w0.heap.size (since w0 w) all2 φ ψ i n A1 c1 A2 c2 r2 cl := hN.keeps (fun k c t hk _ _ _ => hW k hk)
 refine ⟨?_,⟨_,_,_,_,_,hNW⟩⟩
 have hW1 : W.ownsRow w0.heap.size 37 6 (.slice (some ⟨rb,0,none⟩) l.length cap) l.length inner := own_move h1 (fun k hk => hW k ⟨hvg k hk,hvl k hk⟩)
 rcases hW1.2 with ⟨e0, -⟩ | ⟨r,cap',cur,e3,hb,hh,hc1,hc2,hc3,hc4⟩
 ·cases e0
 ·injection e3 with e4 _ _
  injection e4 with e4
  injection e4 with e4
  subst e4
  have hin : ∀ j,j < 6 → W.cell? ⟨rb,i * 6 + j,none⟩ = ((inner.drop (i * 6)).take 6)[j]? := by
   intro j hj
   rw [blk_cell hh,List.getElem?_take,if_pos hj,List.getElem?_drop,← hc4,List.getElem?_take,if_pos (by omega),Array.getElem?_toList]
  have e2 : ((⟨rb,0,none⟩ : Addr).add (i * 6)) = ⟨rb,i * 6,none⟩ := by rw [add_plain]
  have g1 := Kd.R_reads' hNW.vec
  have g2 := Kd.R_reads' hNW.tags
  refine ⟨?_, ?_, ?_, ?_, ?_, ?_,g1.2.1,g1.2.2,g2.2.1,g2.2.2,hNW.lk.2.2.2.1⟩
  ·have h0 := hin 0 (by omega);rw [e] at h0;rw [e2];exact h0
  ·have h0 := hin 1 (by omega);rw [e] at h0;rw [e2];exact h0
  ·have h0 := hin 2 (by omega);rw [e] at h0;rw [e2];exact h0
  ·have h0 := hin 3 (by omega);rw [e] at h0;rw [e2];exact h0
  ·have h0 := hin 4 (by omega);rw [e] at h0;rw [e2];exact h0
  ·have h0 := hin 5 (by omega);rw [e] at h0;rw [e2];exact h0
theorem good_mem {nodes : List Nd} (hg : Good ⟨0,nodes⟩) {i lv : Nat} {n : Nd} {l : List Int} (hn : nodes[i]? = some n) (hj : n.links[lv]? = some l) : ∀ t ∈ l, ∃ (kt : Nat) (nt : Nd) (lt : List Int),t = (kt : Int) ∧ nodes[kt]? = some nt ∧ nt.links[lv]? = some lt := by
 intro t ht
 obtain ⟨kt,j,nt,e1,e2,h1,h2⟩ := there_iff.1 ((hg.to_ i n lv l hn hj).1 t ht).1
 obtain rfl : lv = j := by omega
 exact ⟨kt,nt,nt.links[lv],e1,h1,List.getElem?_eq_getElem h2⟩
def nx2 (keep : List Int) (nodes : List Nd) (lv : Int) (l : List Int) : List Int := (l.filter (fun b => decide (goes keep nodes b < 0))).flatMap (fun b => (Gr.at_ ⟨0,nodes⟩ b lv).map (goes keep nodes))
theorem nx2_snoc {keep : List Int} {nodes : List Nd} {lv : Int} {l : List Int} {i : Nat} (hi : i < l.length) : nx2 keep nodes lv (l.take (i + 1)) = nx2 keep nodes lv (l.take i) ++ (if goes keep nodes l[i] < 0 then (Gr.at_ ⟨0,nodes⟩ l[i] lv).map (goes keep nodes) else []) := by
 unfold nx2
 rw [List.take_succ_eq_append_getElem hi,List.filter_append,List.flatMap_append]
 congr 1
 by_cases h : goes keep nodes l[i] < 0 <;> simp [h]
section
variable {X : Nat → Prop} {w0 we wr wN wM : World} {b g mb : Nat} {lk wd_ en : Int} {s : Gr} {n N : Nat} {f : Int → Option Int}
set_option maxHeartbeats 64000000 in
set_option maxRecDepth 100000 in
theorem PS.mend (hS : PS X w0 we wr b g mb lk wd_ en s n f) (hlk : 1 ≤ lk ∧ lk ≤ 8) (hi : Inv s N) (hN : N ≤ 90000) {nodes : List Nd} {keep : List Int} (hgood : Good ⟨0,nodes⟩) (hnl : nodes.length ≤ 90000) {vN : Value} (hrow : OwnN wN wM vN nodes) (hrX : ∀ k,since wN wM k → X k ∧ we.heap[k]? = wM.heap[k]?)
  (aS : Option Addr) (cS : Nat) (ST : List Int) (hST : ∀ W,KeepX X we W → Kd.C (Kd.int .i64) W aS ST.length ST) (hSTg : ST.length = nodes.length ∧ ∀ i,i < nodes.length → ST[i]? = some (goesTo keep nodes i))
  (a : Int) (lv : Nat) (A : Option Addr) (c : Nat) (l : List Int) (hl : ∀ W,KeepX X we W → Kd.C (Kd.int .i64) W A l.length l) {i0 : Nat} {n0 : Nd} (h0 : nodes[i0]? = some n0) (h1 : n0.links[lv]? = some l) :
  Calls Try.prog 86 #[.pointer (some ⟨b,0,none⟩),.int .i64 a,.int .i64 lv,.slice A l.length c,vN,.slice aS ST.length cS] wr fun e w' => e = .returned (.tuple #[]) ∧ PS X w0 we w' b g mb lk wd_ en (mendG keep nodes lk s a lv l) n f := by
 have hu := Try.underlying107
 have hu2 := Try.underlying37
 have HS0 := Aside0.mk hS
 have HLK := Aside0.mk hlk
 have HV0 := Aside0.mk hi
 have HN := Aside0.mk hN
 have HGD := Aside0.mk hgood
 have HROW := Aside0.mk hrow
 have HKP : Aside0 (∀ W,KeepX X we W → ∀ k,since wN wM k → W.heap[k]? = wM.heap[k]?) := ⟨fun W hW k hk => (hW.2 k (hrX k hk).1).trans (hrX k hk).2⟩
 have HST := Aside0.mk hST
 have HSG := Aside0.mk hSTg
 have HL := Aside0.mk hl
 have HLM := Aside0.mk (good_mem hgood h0 h1)
 have HLL := Aside0.mk (show l.length ≤ 90000 from Nat.le_trans (good_len hgood h0 h1) hnl)
 have HNL := Aside0.mk hnl
 have HMG := Aside0.mk (show mendG keep nodes lk s a lv l = (nx2 keep nodes lv l).foldl (linkTo lk a lv) ((l.map (goes keep nodes)).foldl (linkTo lk a lv) s) by unfold mendG nextsL nx2;rw [List.foldl_append])
 obtain ⟨ANS,hA⟩ : ∃ z,mendG keep nodes lk s a lv l = z := ⟨_,rfl⟩
 rw [hA] at HMG ⊢
 have HEL : Aside0 (∀ x ∈ l, ∃ (kt : Nat) (z : Int),x = (kt : Int) ∧ kt < ST.length ∧ goes keep nodes x = z ∧ ST[kt]? = some z) := ⟨fun x hx => by
  obtain ⟨kt,nt,lt,rfl,h2, -⟩ := good_mem hgood h0 h1 x hx
  have h3 := (List.getElem?_eq_some_iff.1 h2).1
  exact ⟨kt,_,rfl,by rw [hSTg.1];exact h3,rfl,by rw [goes_nat];exact hSTg.2 kt h3⟩⟩
 clear hS hlk hi hN hgood hnl hrow hrX hST hSTg hl h0 h1 hA
 go_enter Try.func86,Try.ntmps86
 go_wp2
 go_loopg [20] l.length (fun gk v20 wr => ∃ (i : Nat),v20 = .int .i64 i ∧ Aside0 (i ≤ l.length ∧ l.length - i ≤ gk) ∧ Aside0 (PS X w0 we wr b g mb lk wd_ en (((l.take i).map (goes keep nodes)).foldl (linkTo lk a lv) s) n f))
 case atStart => exact ⟨0,rfl,⟨by omega⟩,HS0⟩
 case round =>
  clear HS0
  obtain ⟨i,rfl,HI,HSr⟩ := hrel
  by_cases hi : i < l.length
  ·have q1 : decide ((i : Int) < (l.length : Int)) = true := decide_eq_true (by omega)
   have q1' : (i : Int) < (l.length : Int) := by omega
   have HIN := Aside0.mk (show wrap64 ((i : Int) + 1) = ((i + 1 : Nat) : Int) by have := HLL.out;unfold wrap64;omega)
   have HIL := Aside0.mk hi
   obtain ⟨gk,rfl⟩ : ∃ m,gk = m + 1 := ⟨gk - 1,by have := HI.out;omega⟩
   obtain ⟨kt,z,hxe,hkt,hgz,hsz⟩ := HEL.out l[i] (List.getElem_mem hi)
   obtain ⟨ad,hAe,hc0⟩ := int_at (HL.out wr HSr.out.keep) hi
   subst hAe
   rw [hxe] at hc0
   obtain ⟨adS,hSe, -⟩ := int_at (HST.out wr HSr.out.keep) hkt
   subst hSe
   have HZC : Aside0 (∀ W,KeepX X we W → W.cell? (adS.add kt) = some (.int .i64 z)) := ⟨fun W hW => by
    obtain ⟨ad2,e,hc⟩ := int_at (HST.out W hW) hkt
    injection e with e
    subst e
    rw [hc]
    rw [List.getElem?_eq_getElem hkt] at hsz
    injection hsz with hsz
    rw [hsz]⟩
   have s0 := HZC.out wr HSr.out.keep
   have p1 : (kt : Int) < (ST.length : Int) := by omega
   obtain ⟨sI,hsI⟩ : ∃ y,((l.take i).map (goes keep nodes)).foldl (linkTo lk a lv) s = y := ⟨_,rfl⟩
   have HNX := Aside0.mk (show ((l.take (i + 1)).map (goes keep nodes)).foldl (linkTo lk a lv) s = linkTo lk a lv sI z by rw [List.take_succ_eq_append_getElem hi,List.map_append,List.foldl_append,hsI,← hgz];rfl)
   have HVI := Aside0.mk (show Inv sI N by rw [← hsI];exact links_inv _ HV0.out)
   rw [hsI] at HSr
   clear hi hxe hkt hgz hsz hsI
   by_cases hz : 0 ≤ z
   ·have q2 : decide (0 ≤ z) = true := decide_eq_true hz
    clear hz
    go_upto_region 4 with (fail)
    clear s0 hc0
    have HSD := Aside0.mk (HSr.out.below (below_drew (Below.refl _ _)))
    clear HSr
    refine start_ (n := 14) (S := fun w' => w'.cell? ⟨b,3,none⟩ = some (.pointer (some ⟨g,0,none⟩)) ∧ w'.cell? (adS.add kt) = some (.int .i64 z)) (ds := []) (mB_ 14 0) (by kernel_rfl) rfl rfl ⟨((blk_cell HSD.out.pi.box 3).trans rfl),(HZC.out _ HSD.out.keep)⟩ (fun hHeld => ?_)
    refine with_tabW hme.tab4 hme.bits4 (fun HT_ HW_ => ?_)
    generalize wr.drew = wd at HSD hHeld ⊢
    iterate 10 (refine pn_ 0 [(0,29,1),(1,30,3),(2,31,7),(4,33,23),(5,34,55),(6,35,119),(7,36,247),(9,38,759),(10,39,1783),(11,40,3831)] (v := ?_) (a' := ?_) rfl rfl rfl HT_.out (by kernel_rfl) (Or.inl ⟨by rfl, ?_⟩) ?_ ?_;rotate_left;(· intro w';go_simp;with_reducible rfl);rotate_left;(· simp only [Act.put,sT_,sZ_,sS_,i64_w,i32_w];rfl))
    iterate 2 (refine tn_ 3831 [(3,32,3839),(8,37,4095)] (v := ?_) (a' := ?_) rfl rfl rfl HT_.out HW_.out (by kernel_rfl) (Or.inl ⟨by rfl, ?_⟩) hHeld ?_ ?_;rotate_left;(· rintro w' ⟨s0,s1⟩;go_simp;with_reducible rfl);rotate_left;(· simp only [Act.put,sT_,sZ_,sS_,i64_w,i32_w];rfl))
    refine one_ (i := 12) (N := some 41) (mB_ 14 8191) rfl rfl (one_of HT_.out (by kernel_rfl)) (by decide) (fun K hK => ?_)
    refine goes_ Try.func62 (by kernel_rfl) rfl #[.pointer (some ⟨b,0,none⟩),.int .i64 (lv : Int)] (by rfl) rfl rfl (by simp only [List.map_toArray,List.map_cons,List.map_nil];rfl) ?_
    with_reducible refine (HSD.out.pi.most HLK.out lv).mono ?_
    rintro e w7 ⟨rfl,hb⟩
    refine ⟨_,rfl, ?_⟩
    have HS7 := Aside0.mk (HSD.out.below hb)
    clear hb
    refine hK.out _ _ ⟨((blk_cell HS7.out.pi.box 3).trans rfl),(HZC.out _ HS7.out.keep)⟩ (fun hHeld => ?_)
    clear hK K
    refine norm_ (a' := ?_) ?_ ?_
    rotate_left
    ·show Act.put _ (some 41) _ = _
     simp only [Act.put,sT_,sZ_,sS_,i64_w,i32_w]
     rfl
    refine one_ (i := 13) (N := some 42) (mB_ 14 16383) rfl rfl (one_of HT_.out (by kernel_rfl)) (by decide) (fun K hK => ?_)
    refine goes_ Try.func14 (by kernel_rfl) rfl #[.pointer (some ⟨g,0,none⟩),.int .i64 a,.int .i64 z,.int .i64 (lv : Int),.int .i64 (mostX lk lv)] (by rfl) rfl rfl (by simp only [List.map_toArray,List.map_cons,List.map_nil];rfl) ?_
    with_reducible refine (HS7.out.pi.gr.linkP HVI.out HN.out a z lv (mostX lk lv)).mono ?_
    rintro e w9 ⟨rfl,hG,hK⟩
    refine ⟨_,rfl, ?_⟩
    have HS9 := Aside0.mk (HS7.out.op hG hK (link_m _ _ _ _))
    clear hG hK
    refine hK.out _ _ ⟨((blk_cell HS9.out.pi.box 3).trans rfl),(HZC.out _ HS9.out.keep)⟩ (fun hHeld => ?_)
    clear hK K
    refine norm_ (a' := ?_) ?_ ?_
    rotate_left
    ·show Act.put _ (some 42) _ = _
     simp only [Act.put,sT_,sZ_,sS_,i64_w,i32_w]
     rfl
    refine done_ (done_of HT_.out (by kernel_rfl)) ?_
    clear hHeld HSD HS7
    go_wp2
    go_roundg gk
    case measure => omega
    case rel => exact ⟨i + 1,congrArg (Value.int .i64) HIN.out,⟨by have := HI.out;have := HIL.out;omega⟩,⟨by rw [HNX.out];exact HS9.out⟩⟩
   ·have q2 : decide (0 ≤ z) = false := decide_eq_false hz
    have HE := Aside0.mk (linkTo_neg (lk := lk) (a := a) (lv := lv) (s := sI) (b := z) (by omega))
    clear hz
    go_wp2
    go_roundg gk
    case measure => omega
    case rel => exact ⟨i + 1,congrArg (Value.int .i64) HIN.out,⟨by have := HI.out;have := HIL.out;omega⟩,⟨by rw [HNX.out,HE.out];exact HSr.out⟩⟩
  ·have q1 : decide ((i : Int) < (l.length : Int)) = false := decide_eq_false (by omega)
   have q1' : (i < l.length) = False := eq_false hi
   have q1'' : decide (i < l.length) = false := decide_eq_false hi
   have HE := Aside0.mk (show l.take i = l from List.take_of_length_le (by omega))
   obtain ⟨sA,hsA⟩ : ∃ y,(l.map (goes keep nodes)).foldl (linkTo lk a lv) s = y := ⟨_,rfl⟩
   rw [HE.out,hsA] at HSr
   rw [hsA] at HMG
   have HVA := Aside0.mk (show Inv sA N by rw [← hsA];exact links_inv _ HV0.out)
   clear hi hsA HI
   go_wp2
   go_loopg [46] l.length (fun gk v46 wr => ∃ (i : Nat),v46 = .int .i64 i ∧ Aside0 (i ≤ l.length ∧ l.length - i ≤ gk) ∧ Aside0 (PS X w0 we wr b g mb lk wd_ en ((nx2 keep nodes lv (l.take i)).foldl (linkTo lk a lv) sA) n f))
   case atStart => exact ⟨0,rfl,⟨by omega⟩,HSr⟩
   case round =>
    clear HSr
    obtain ⟨i,rfl,HI,HSr⟩ := hrel
    by_cases hi : i < l.length
    ·have q1 : decide ((i : Int) < (l.length : Int)) = true := decide_eq_true (by omega)
     have q1' : (i : Int) < (l.length : Int) := by omega
     have HIN := Aside0.mk (show wrap64 ((i : Int) + 1) = ((i + 1 : Nat) : Int) by have := HLL.out;unfold wrap64;omega)
     have HIL := Aside0.mk hi
     obtain ⟨gk,rfl⟩ : ∃ m,gk = m + 1 := ⟨gk - 1,by have := HI.out;omega⟩
     obtain ⟨kt,z,hxe,hkt,hgz,hsz⟩ := HEL.out l[i] (List.getElem_mem hi)
     obtain ⟨kt',nt,lt,hke,hnt,hlt⟩ := HLM.out l[i] (List.getElem_mem hi)
     obtain rfl : kt = kt' := by omega
     obtain ⟨ad,hAe,hc0⟩ := int_at (HL.out wr HSr.out.keep) hi
     subst hAe
     rw [hxe] at hc0
     obtain ⟨adS,hSe,hs0⟩ := int_at (HST.out wr HSr.out.keep) hkt
     subst hSe
     rw [List.getElem?_eq_getElem hkt] at hsz
     injection hsz with hsz
     rw [hsz] at hs0
     have p1 : (kt : Int) < (ST.length : Int) := by omega
     obtain ⟨sI,hsI⟩ : ∃ y,(nx2 keep nodes lv (l.take i)).foldl (linkTo lk a lv) sA = y := ⟨_,rfl⟩
     have hatt : Gr.at_ ⟨0,nodes⟩ (kt : Int) (lv : Int) = lt := at_nat (s := ⟨0,nodes⟩) hnt hlt
     have HNX := Aside0.mk (show (nx2 keep nodes lv (l.take (i + 1))).foldl (linkTo lk a lv) sA = (if z < 0 then lt.map (goes keep nodes) else []).foldl (linkTo lk a lv) sI by rw [nx2_snoc hi,List.foldl_append,hsI,hgz,hxe,hatt])
     have HVI := Aside0.mk (show Inv sI N by rw [← hsI];exact links_inv _ HVA.out)
     rw [hsI] at HSr
     by_cases hz : 0 ≤ z
     ·have q2 : decide (0 ≤ z) = true := decide_eq_true hz
      have HE := Aside0.mk (show (if z < 0 then lt.map (goes keep nodes) else []).foldl (linkTo lk a lv) sI = sI by rw [if_neg (by omega)];rfl)
      clear hi hxe hkt hgz hsz hsI hz hke hnt hlt hatt
      go_wp2
      go_roundg gk
      case measure => omega
      case rel => exact ⟨i + 1,congrArg (Value.int .i64) HIN.out,⟨by have := HI.out;have := HIL.out;omega⟩,⟨by rw [HNX.out,HE.out];exact HSr.out⟩⟩
     ·have q2 : decide (0 ≤ z) = false := decide_eq_false hz
      rw [if_pos (by omega)] at HNX
      obtain ⟨rb,cap,B1,e1,B2,e2,r,cl,hvn,hnode,hlists⟩ := OwnN.static HROW.out hnt
      obtain ⟨A3,c3,hW3⟩ := hlists lv lt hlt
      have HW3 := Aside0.mk hW3
      subst hvn
      have g5 := NodeAt.p5 (hnode wr (HKP.out wr HSr.out.keep)).1
      have g6 := (hW3 wr (HKP.out wr HSr.out.keep)).1
      have p2 : (kt : Int) < (nodes.length : Int) := by have := (List.getElem?_eq_some_iff.1 hnt).1;omega
      have p3 : (lv : Int) < (nt.links.length : Int) := by have := (List.getElem?_eq_some_iff.1 hlt).1;omega
      have HLT := Aside0.mk (show lt.length ≤ 90000 from Nat.le_trans (good_len HGD.out hnt hlt) HNL.out)
      have HEL2 : Aside0 (∀ x ∈ lt, ∃ (kt : Nat) (z : Int),x = (kt : Int) ∧ kt < ST.length ∧ goes keep nodes x = z ∧ ST[kt]? = some z) := ⟨fun x hx => by
       obtain ⟨kt,nt',lt',rfl,h2, -⟩ := good_mem HGD.out hnt hlt x hx
       have h3 := (List.getElem?_eq_some_iff.1 h2).1
       exact ⟨kt,_,rfl,by rw [HSG.out.1];exact h3,rfl,by rw [goes_nat];exact HSG.out.2 kt h3⟩⟩
      clear hi hxe hkt hgz hsz hsI hz hke hnt hlt hatt hnode hlists hW3
      go_wp2
      clear g5 g6 hs0 hc0
      obtain ⟨go,rfl⟩ : ∃ z,z = gk := ⟨_,rfl⟩
      go_loopg [64] lt.length (fun gk v64 wr => ∃ (j : Nat),v64 = .int .i64 j ∧ Aside0 (j ≤ lt.length ∧ lt.length - j ≤ gk) ∧ Aside0 (PS X w0 we wr b g mb lk wd_ en (((lt.take j).map (goes keep nodes)).foldl (linkTo lk a lv) sI) n f))
      case atStart => exact ⟨0,rfl,⟨by omega⟩,HSr⟩
      case round =>
       clear HSr
       obtain ⟨j,rfl,HJ,HSr⟩ := hrel
       by_cases hj : j < lt.length
       ·have q3 : decide ((j : Int) < (lt.length : Int)) = true := decide_eq_true (by omega)
        have q3' : (j : Int) < (lt.length : Int) := by omega
        have HJN := Aside0.mk (show wrap64 ((j : Int) + 1) = ((j + 1 : Nat) : Int) by have := HLT.out;unfold wrap64;omega)
        have HJL := Aside0.mk hj
        obtain ⟨gk,rfl⟩ : ∃ m,gk = m + 1 := ⟨gk - 1,by have := HJ.out;omega⟩
        obtain ⟨kt,z,hxe,hkt,hgz,hsz⟩ := HEL2.out lt[j] (List.getElem_mem hj)
        obtain ⟨ad2,hAe,hc0⟩ := int_at (HW3.out wr (HKP.out wr HSr.out.keep)).2.2 hj
        subst hAe
        rw [hxe] at hc0
        have HZC : Aside0 (∀ W,KeepX X we W → W.cell? (adS.add kt) = some (.int .i64 z)) := ⟨fun W hW => by
         obtain ⟨ad2,e,hc⟩ := int_at (HST.out W hW) hkt
         injection e with e
         subst e
         rw [hc]
         rw [List.getElem?_eq_getElem hkt] at hsz
         injection hsz with hsz
         rw [hsz]⟩
        have s0 := HZC.out wr HSr.out.keep
        have p1 : (kt : Int) < (ST.length : Int) := by omega
        obtain ⟨sJ,hsJ⟩ : ∃ y,((lt.take j).map (goes keep nodes)).foldl (linkTo lk a lv) sI = y := ⟨_,rfl⟩
        have HNJ := Aside0.mk (show ((lt.take (j + 1)).map (goes keep nodes)).foldl (linkTo lk a lv) sI = linkTo lk a lv sJ z by rw [List.take_succ_eq_append_getElem hj,List.map_append,List.foldl_append,hsJ,← hgz];rfl)
        have HVI := Aside0.mk (show Inv sJ N by rw [← hsJ];exact links_inv _ HVI.out)
        rw [hsJ] at HSr
        clear hj hxe hkt hgz hsz hsJ
        by_cases hz : 0 ≤ z
        ·have q4 : decide (0 ≤ z) = true := decide_eq_true hz
         clear hz
         go_upto_region 14 with (fail)
         clear s0 hc0
         have HSD := Aside0.mk (HSr.out.below (below_drew (Below.refl _ _)))
         clear HSr
         refine start_ (n := 14) (S := fun w' => w'.cell? ⟨b,3,none⟩ = some (.pointer (some ⟨g,0,none⟩)) ∧ w'.cell? (adS.add kt) = some (.int .i64 z)) (ds := []) (mB_ 14 0) (by kernel_rfl) rfl rfl ⟨((blk_cell HSD.out.pi.box 3).trans rfl),(HZC.out _ HSD.out.keep)⟩ (fun hHeld => ?_)
         refine with_tabW hme.tab14 hme.bits14 (fun HT_ HW_ => ?_)
         generalize wr.drew = wd at HSD hHeld ⊢
         iterate 10 (refine pn_ 0 [(0,73,1),(1,74,3),(2,75,7),(4,77,23),(5,78,55),(6,79,119),(7,80,247),(9,82,759),(10,83,1783),(11,84,3831)] (v := ?_) (a' := ?_) rfl rfl rfl HT_.out (by kernel_rfl) (Or.inl ⟨by rfl, ?_⟩) ?_ ?_;rotate_left;(· intro w';go_simp;with_reducible rfl);rotate_left;(· simp only [Act.put,sT_,sZ_,sS_,i64_w,i32_w];rfl))
         iterate 2 (refine tn_ 3831 [(3,76,3839),(8,81,4095)] (v := ?_) (a' := ?_) rfl rfl rfl HT_.out HW_.out (by kernel_rfl) (Or.inl ⟨by rfl, ?_⟩) hHeld ?_ ?_;rotate_left;(· rintro w' ⟨s0,s1⟩;go_simp;with_reducible rfl);rotate_left;(· simp only [Act.put,sT_,sZ_,sS_,i64_w,i32_w];rfl))
         refine one_ (i := 12) (N := some 85) (mB_ 14 8191) rfl rfl (one_of HT_.out (by kernel_rfl)) (by decide) (fun K hK => ?_)
         refine goes_ Try.func62 (by kernel_rfl) rfl #[.pointer (some ⟨b,0,none⟩),.int .i64 (lv : Int)] (by rfl) rfl rfl (by simp only [List.map_toArray,List.map_cons,List.map_nil];rfl) ?_
         with_reducible refine (HSD.out.pi.most HLK.out lv).mono ?_
         rintro e w7 ⟨rfl,hb⟩
         refine ⟨_,rfl, ?_⟩
         have HS7 := Aside0.mk (HSD.out.below hb)
         clear hb
         refine hK.out _ _ ⟨((blk_cell HS7.out.pi.box 3).trans rfl),(HZC.out _ HS7.out.keep)⟩ (fun hHeld => ?_)
         clear hK K
         refine norm_ (a' := ?_) ?_ ?_
         rotate_left
         ·show Act.put _ (some 85) _ = _
          simp only [Act.put,sT_,sZ_,sS_,i64_w,i32_w]
          rfl
         refine one_ (i := 13) (N := some 86) (mB_ 14 16383) rfl rfl (one_of HT_.out (by kernel_rfl)) (by decide) (fun K hK => ?_)
         refine goes_ Try.func14 (by kernel_rfl) rfl #[.pointer (some ⟨g,0,none⟩),.int .i64 a,.int .i64 z,.int .i64 (lv : Int),.int .i64 (mostX lk lv)] (by rfl) rfl rfl (by simp only [List.map_toArray,List.map_cons,List.map_nil];rfl) ?_
         with_reducible refine (HS7.out.pi.gr.linkP HVI.out HN.out a z lv (mostX lk lv)).mono ?_
         rintro e w9 ⟨rfl,hG,hK⟩
         refine ⟨_,rfl, ?_⟩
         have HS9 := Aside0.mk (HS7.out.op hG hK (link_m _ _ _ _))
         clear hG hK
         refine hK.out _ _ ⟨((blk_cell HS9.out.pi.box 3).trans rfl),(HZC.out _ HS9.out.keep)⟩ (fun hHeld => ?_)
         clear hK K
         refine norm_ (a' := ?_) ?_ ?_
         rotate_left
         ·show Act.put _ (some 86) _ = _
          simp only [Act.put,sT_,sZ_,sS_,i64_w,i32_w]
          rfl
         refine done_ (done_of HT_.out (by kernel_rfl)) ?_
         clear hHeld HSD HS7
         go_wp2
         go_roundg gk
         case measure => omega
         case rel => exact ⟨j + 1,congrArg (Value.int .i64) HJN.out,⟨by have := HJ.out;have := HJL.out;omega⟩,⟨by rw [HNJ.out];exact HS9.out⟩⟩
        ·have q4 : decide (0 ≤ z) = false := decide_eq_false hz
         have HE := Aside0.mk (linkTo_neg (lk := lk) (a := a) (lv := lv) (s := sJ) (b := z) (by omega))
         clear hz
         go_wp2
         go_roundg gk
         case measure => omega
         case rel => exact ⟨j + 1,congrArg (Value.int .i64) HJN.out,⟨by have := HJ.out;have := HJL.out;omega⟩,⟨by rw [HNJ.out,HE.out];exact HSr.out⟩⟩
       ·have q3 : decide ((j : Int) < (lt.length : Int)) = false := decide_eq_false (by omega)
        have q3' : (j < lt.length) = False := eq_false hj
        have q3'' : decide (j < lt.length) = false := decide_eq_false hj
        have HE := Aside0.mk (show lt.take j = lt from List.take_of_length_le (by omega))
        clear hj
        go_wp2
        go_roundg go
        case measure => omega
        case rel => exact ⟨i + 1,congrArg (Value.int .i64) HIN.out,⟨by have := HI.out;have := HIL.out;omega⟩,⟨by rw [HNX.out,← HE.out];exact HSr.out⟩⟩
    ·have q1 : decide ((i : Int) < (l.length : Int)) = false := decide_eq_false (by omega)
     have q1' : (i < l.length) = False := eq_false hi
     have q1'' : decide (i < l.length) = false := decide_eq_false hi
     have HE2 := Aside0.mk (show l.take i = l from List.take_of_length_le (by omega))
     rw [HE2.out,← HMG.out] at HSr
     clear hi
     go_wp2
     refine bodyPost_end (results_none rfl _ _ _) rfl ?_
     exact ⟨rfl,HSr.out⟩
end
end Go.Proofs.Ytofmlajanopniaa.Li
namespace Go.Proofs.Ytofmlajanopniaa.Li
open Go.RowKit Go.Maps Go.Proofs.YtofmlajanopniaaW.PrintWords Go.Proofs.YtofmlajanopniaaW.PrintLast Go.Proofs.YtofmlajanopniaaW.PrintMore Go.Proofs.Ytofmlajanopniaa.Q Go.Proofs.Ytofmlajanopniaa.Tk
theorem u64_at {w : World} {A : Option Addr} {l : List Int} (h : Kd.C (Kd.int .u64) w A l.length l) {i : Nat} (hi : i < l.length) : ∃ ad x,A = some ad ∧ l[i]? = some x ∧ w.cell? (ad.add i) = some (.int .u64 x) := by
 obtain ⟨ad,e,hc⟩ := h.2.2 (by omega)
 obtain ⟨cs,h1,h2,h3⟩ := hc i _ (List.getElem?_eq_getElem hi)
 have h2' : cs = [.int .u64 l[i]] := h2
 subst h2'
 have := h3 0 _ rfl
 have e2 : i * (Kd.int .u64).sz + 0 = i := by show i * 1 + 0 = i;omega
 rw [e2] at this
 exact ⟨ad,l[i],e,List.getElem?_eq_getElem hi,this⟩
set_option maxHeartbeats 4000000 in
set_option maxRecDepth 100000 in
theorem indexFuncU_calls (m : FuncId) (he : ∀ args w,(callFunc m args).run Try.prog w = .ok (.enter m args) w) (cap : Value) (pr : Int → Bool) (Inv : World → Prop) (hInv : ∀ W W',Inv W → Below W.heap.size W W' → Inv W')
  (A : Option Addr) (c : Nat) (l : List Int) (hf : ∀ x ∈ l, ∀ W,Inv W → Calls Try.prog m #[.int .u64 x,cap] W fun e W' => e = .returned (.bool (pr x)) ∧ Below W.heap.size W W')
  (w : World) (hc : Kd.C (Kd.int .u64) w A l.length l) (hl : l.length ≤ 100000) (h0 : Inv w) :
  Calls Try.prog 99 #[.slice A l.length c,.func (.func m) #[] #[cap]] w fun e w' => (∃ r : Int,e = .returned (.int .i64 r) ∧ l.any pr = decide (0 ≤ r)) ∧ Below w.heap.size w w' := by
 have HC := Aside0.mk hc
 have HF := Aside0.mk hf
 have HI := Aside0.mk hInv
 have HI0 := Aside0.mk h0
 have HL := Aside0.mk hl
 clear hc hf hInv h0 hl
 go_enter Try.func99,Try.ntmps99
 go_wp2
 go_loopg [8] l.length (fun gk v8 wr => ∃ (i : Nat),v8 = .int .i64 i ∧ Aside0 (i ≤ l.length ∧ l.length - i ≤ gk) ∧ Aside0 ((l.take i).any pr = false) ∧ Aside0 (Below w.heap.size w wr))
 case atStart => exact ⟨0,rfl,⟨by omega,by omega⟩,⟨by simp⟩,⟨Below.refl _ _⟩⟩
 case round =>
  obtain ⟨i,rfl,HJ,HN,HB⟩ := hrel
  by_cases hi : i < l.length
  ·have hl := HL.out
   have q1 : decide ((i : Int) < (l.length : Int)) = true := decide_eq_true (by omega)
   have q2 : (i : Int) < (l.length : Int) := by omega
   obtain ⟨ad,x,rfl,hx,c0⟩ := u64_at HC.out hi
   have hin : wrap64 ((i : Int) + 1) = ((i + 1 : Nat) : Int) := by rw [Tk.wrap_small (by omega) (by omega)];omega
   replace c0 := pw_cell_below HB.out c0
   have HX := Aside0.mk hx
   have HI2 := Aside0.mk hi
   have HM := Aside0.mk (List.mem_of_getElem? hx)
   obtain ⟨r,hr⟩ : ∃ r,pr x = r := ⟨_,rfl⟩
   have HR := Aside0.mk hr
   clear hi hl hx hr
   cases r with
   | true =>
    go_wp2_with (first | ((with_reducible refine (HF.out x HM.out _ (HI.out _ _ HI0.out HB.out)).mono ?_);rintro e w3 ⟨rfl,hb⟩;rw [HR.out];have HB3 := Aside0.mk (bel_trans HB.out hb);clear hb) | fail)
    go_ret
    exact ⟨⟨i,rfl,by rw [List.any_eq_true.2 ⟨x,HM.out,HR.out⟩];exact (decide_eq_true (by omega)).symm⟩,HB3.out⟩
   | false =>
    go_wp2_with (first | ((with_reducible refine (HF.out x HM.out _ (HI.out _ _ HI0.out HB.out)).mono ?_);rintro e w3 ⟨rfl,hb⟩;rw [HR.out];have HB3 := Aside0.mk (bel_trans HB.out hb);clear hb) | fail)
    obtain ⟨gk,rfl⟩ : ∃ m,gk = m + 1 := ⟨gk - 1,by have := HJ.out;have := HI2.out;omega⟩
    go_roundg gk
    case measure => omega
    case rel =>
     refine ⟨i + 1,congrArg (Value.int .i64) hin,⟨by have := HJ.out;have := HI2.out;omega⟩,⟨?_⟩,HB3⟩
     obtain ⟨hi,hx⟩ := List.getElem?_eq_some_iff.1 HX.out
     rw [List.take_succ_eq_append_getElem hi,List.any_append,HN.out,hx]
     simp [HR.out]
  ·have q1 : decide ((i : Int) < (l.length : Int)) = false := decide_eq_false (by omega)
   have q2 : decide (i < l.length) = false := decide_eq_false hi
   have q3 : (i < l.length) = False := eq_false hi
   have hT : l.take i = l := List.take_of_length_le (by omega)
   have hn := HN.out
   rw [hT] at hn
   have HN2 := Aside0.mk hn
   clear hT hn hi
   go_wp2
   go_ret
   exact ⟨⟨-1,rfl,by rw [HN2.out];rfl⟩,HB.out⟩
set_option maxHeartbeats 4000000 in
set_option maxRecDepth 100000 in
theorem containsFuncU_calls (m : FuncId) (he : ∀ args w,(callFunc m args).run Try.prog w = .ok (.enter m args) w) (cap : Value) (pr : Int → Bool) (Inv : World → Prop) (hInv : ∀ W W',Inv W → Below W.heap.size W W' → Inv W')
  (A : Option Addr) (c : Nat) (l : List Int) (hf : ∀ x ∈ l, ∀ W,Inv W → Calls Try.prog m #[.int .u64 x,cap] W fun e W' => e = .returned (.bool (pr x)) ∧ Below W.heap.size W W')
  (w : World) (hc : Kd.C (Kd.int .u64) w A l.length l) (hl : l.length ≤ 100000) (h0 : Inv w) :
  Calls Try.prog 84 #[.slice A l.length c,.func (.func m) #[] #[cap]] w fun e w' => e = .returned (.bool (l.any pr)) ∧ Below w.heap.size w w' := by
 have H := Aside0.mk (indexFuncU_calls m he cap pr Inv hInv A c l hf w hc hl h0)
 clear hf hInv hc hl h0
 go_enter Try.func84,Try.ntmps84
 go_wp2_with ((go_at_call 99;(with_reducible refine H.out.mono ?_);rintro e w1 ⟨⟨r,rfl,hr⟩,hb⟩;have HB := Aside0.mk hb;have HR := Aside0.mk hr;clear hb hr))
 go_ret
 exact ⟨congrArg (fun z => Ending.returned (Value.bool z)) HR.out.symm,HB.out⟩
theorem enters_kept : ∀ args w,(callFunc 85 args).run Try.prog w = .ok (.enter 85 args) w := Go.Proofs.enters_of Try.func85 (by kernel_rfl) rfl
set_option maxHeartbeats 4000000 in
set_option maxRecDepth 100000 in
theorem kept_calls {id fr un : Int} {A1 : Option Addr} {n1 c1 : Nat} {A2 : Option Addr} {n2 c2 : Nat} {A3 : Option Addr} {n3 c3 : Nat} {bn : Nat} (v : Int) (w : World) (h : w.heap[bn]? = some (.cells #[.int .u32 id,.slice A1 n1 c1,.slice A2 n2 c2,.int .u64 fr,.int .u64 un,.slice A3 n3 c3] 37 (0,0))) :
  Calls Try.prog 85 #[.int .u64 v,.pointer (some ⟨bn,0,none⟩)] w fun e w' => e = .returned (.bool (thereV fr un v)) ∧ Below w.heap.size w w' := by
 have hu := Try.underlying37
 have hu2 := Try.underlying26
 have z0 := (blk_cell h 0).trans rfl
 have z1 := (blk_cell h 1).trans rfl
 have z2 := (blk_cell h 2).trans rfl
 have z3 := (blk_cell h 3).trans rfl
 have z4 := (blk_cell h 4).trans rfl
 have z5 := (blk_cell h 5).trans rfl
 clear h
 go_enter Try.func85,Try.ntmps85
 go_wp2_with (go_at_call 82;(with_reducible refine (there_calls id fr un v A1 n1 c1 A2 n2 c2 A3 n3 c3 _).mono ?_);rintro e w1 ⟨rfl,hb⟩;have HB := Aside0.mk hb;clear hb)
 go_ret
 exact ⟨rfl,HB.out⟩
end Go.Proofs.Ytofmlajanopniaa.Li
namespace Go.Proofs.Ytofmlajanopniaa.Li
open Go.RowKit Go.Maps Go.Proofs.YtofmlajanopniaaW.PrintWords Go.Proofs.YtofmlajanopniaaW.PrintLast Go.Proofs.YtofmlajanopniaaW.PrintMore Go.Proofs.Ytofmlajanopniaa.Q Go.Proofs.Ytofmlajanopniaa.Tk
def ZArr (w : World) (bs : Nat) (S : List Int) : Prop := w.heap[bs]? = some (.cells (S.map (Value.int .i64)).toArray 3 (0,0))
section
variable {w w' : World} {bs : Nat} {S : List Int}
theorem ZArr.cell (h : ZArr w bs S) {i : Nat} {x : Int} (hi : S[i]? = some x) : w.cell? ⟨bs,i,none⟩ = some (.int .i64 x) := by
 refine (blk_cell h i).trans ?_
 simp [hi]
theorem ZArr.keep (h : ZArr w bs S) (hb : w'.heap[bs]? = w.heap[bs]?) : ZArr w' bs S := hb.trans h
theorem ZArr.set (h : ZArr w bs S) (i : Nat) (x : Int) : ZArr (w.setCell ⟨bs,i,none⟩ (.int .i64 x)) bs (S.set i x) := by
 unfold ZArr
 rw [List.map_set]
 exact blk_put h i _ (by simp)
theorem ZArr.C (h : ZArr w bs S) (hl : S.length ≤ 1000000) : Kd.C (Kd.int .i64) w (some ⟨bs,0,none⟩) S.length S := by
 refine ⟨rfl,by omega,fun _ => ⟨_,rfl,fun j x hj => ⟨[.int .i64 x],rfl,rfl,fun i u hu => ?_⟩⟩⟩
 match i,hu with
 | 0,hu =>
  have hu : Value.int .i64 x = u := by simpa using hu
  have e : j * (Kd.int .i64).sz + 0 = j := by show j * 1 + 0 = j;omega
  rw [e,add_plain,← hu]
  exact h.cell hj
theorem ZArr.made {b m cp : Nat} (h : w.ownsRow b 3 1 (.slice (some ⟨bs,0,none⟩) m cp) m (madeCells (Value.int .i64 0).cells (m * 1)).toList) (hcp : cp = m) : ZArr w bs (List.replicate m 0) := by
 have hc : (madeCells (Value.int .i64 0).cells (m * 1)).toList = List.replicate m (.int .i64 0) := by
  apply List.ext_getElem?
  intro i
  simp only [madeCells,Array.toList_map,List.getElem?_map,List.getElem?_replicate,Nat.mul_one]
  by_cases hi : i < m
  ·rw [if_pos hi,Array.getElem?_toList,Array.getElem?_range,if_pos hi]
   simp only [Option.map_some,Value.cells,List.size_toArray,List.length_cons,List.length_nil,Nat.zero_add,Nat.mod_one]
   rfl
  ·rw [if_neg hi,Array.getElem?_toList,Array.getElem?_range,if_neg hi]
   rfl
 rw [hc] at h
 rcases h.2 with ⟨e, -⟩ | ⟨r,cap,cur,e,hb,hh,hc1,hc2,hc3,hc4⟩
 ·cases e
 ·injection e with e1 e2 e3
  injection e1 with e1
  injection e1 with e1
  subst e1 e3
  rw [Nat.mul_one] at hc3 hc4
  rw [List.take_of_length_le (by rw [Array.length_toList];omega)] at hc4
  unfold ZArr
  rw [hh,List.map_replicate,← hc4]
end
def goesUp (keep : List Int) (nodes : List Nd) (i : Nat) : List Int := (List.range nodes.length).map (fun j => if j < i then goesTo keep nodes j else 0)
theorem goesUp_len (keep : List Int) (nodes : List Nd) (i : Nat) : (goesUp keep nodes i).length = nodes.length := by simp [goesUp]
theorem goesUp_zero (keep : List Int) (nodes : List Nd) : goesUp keep nodes 0 = List.replicate nodes.length 0 := by
 apply List.ext_getElem?
 intro j
 unfold goesUp
 rw [List.getElem?_map,List.getElem?_replicate]
 by_cases h : j < nodes.length
 ·rw [if_pos h,List.getElem?_range h];simp
 ·rw [if_neg h,List.getElem?_eq_none (by simp;omega)];rfl
theorem goesUp_get {keep : List Int} {nodes : List Nd} {i j : Nat} (hj : j < nodes.length) : (goesUp keep nodes i)[j]? = some (if j < i then goesTo keep nodes j else 0) := by
 unfold goesUp
 rw [List.getElem?_map,List.getElem?_range hj]
 rfl
theorem goesUp_set (keep : List Int) (nodes : List Nd) (i : Nat) : (goesUp keep nodes i).set i (goesTo keep nodes i) = goesUp keep nodes (i + 1) := by
 apply List.ext_getElem?
 intro j
 rw [List.getElem?_set,goesUp_len]
 by_cases h : j < nodes.length
 ·rw [goesUp_get h,goesUp_get h]
  by_cases e : i = j
  ·subst e
   rw [if_pos rfl,if_pos h,if_pos (by omega)]
  ·rw [if_neg e]
   by_cases e2 : j < i
   ·rw [if_pos e2,if_pos (by omega)]
   ·rw [if_neg e2,if_neg (by omega)]
 ·have h1 : (goesUp keep nodes i)[j]? = none := List.getElem?_eq_none (by rw [goesUp_len];omega)
  have h2 : (goesUp keep nodes (i + 1))[j]? = none := List.getElem?_eq_none (by rw [goesUp_len];omega)
  rw [h1,h2]
  split
  ·rw [if_neg (by omega)]
  ·rfl
theorem NodeAt.cells {w : World} {rb i : Nat} {n : Nd} {A1 : Option Addr} {c1 : Nat} {A2 : Option Addr} {c2 r cap : Nat} (h : NodeAt w ⟨rb,0,none⟩ i n A1 c1 A2 c2 r cap) : w.cell? ⟨rb,i * 6,none⟩ = some (.int .u32 n.id) ∧ w.cell? ⟨rb,i * 6 + 1,none⟩ = some (.slice A1 n.vec.length c1) ∧ w.cell? ⟨rb,i * 6 + 2,none⟩ = some (.slice A2 n.tags.length c2) ∧ w.cell? ⟨rb,i * 6 + 3,none⟩ = some (.int .u64 n.fr) ∧ w.cell? ⟨rb,i * 6 + 4,none⟩ = some (.int .u64 n.un) ∧ w.cell? ⟨rb,i * 6 + 5,none⟩ = some (.slice (some ⟨r,0,none⟩) n.links.length cap) := by
 have h0 := h.y0
 have h1 := h.y1
 have h2 := h.y2
 have h3 := h.y3
 have h4 := h.y4
 have h5 := h.y5
 rw [add_plain] at h0 h1 h2 h3 h4 h5
 exact ⟨h0,h1,h2,h3,h4,h5⟩
section
variable {X : Nat → Prop} {w0 w : World} {b g mb : Nat} {lk wd_ en : Int} {s : Gr} {n : Nat} {f : Int → Option Int}
theorem PI.renew (h : PI X w0 w b g mb lk wd_ en s n f) {W : World} (hW : ((((w.alloc (.cells #[.int .u8 s.m,.slice none 0 0] 84)).alloc (.map #[] 0)).setCell ⟨b,3,none⟩ (.pointer (some ⟨w.heap.size,0,none⟩))).setCell ⟨b,4,none⟩ (.int .i64 (-1))).setCell ⟨b,5,none⟩ (.map (some (w.heap.size + 1))) = W) :
  PI X w0 W b w.heap.size (w.heap.size + 1) lk wd_ (-1) ⟨s.m,[]⟩ 0 (fun _ => none) ∧ KeepX X w W := by
 have hB := h.at0
 have hG : GX w0 (w.alloc (.cells #[.int .u8 s.m,.slice none 0 0] 84)) w.heap.size (fun k => k = w.heap.size) ⟨s.m,[]⟩ := GT.new hB s.m
 have hb0 := below_alloc (Below.refl w.heap.size w) (.cells #[.int .u8 s.m,.slice none 0 0] 84)
 have s1 : (w.alloc (.cells #[.int .u8 s.m,.slice none 0 0] 84)).heap.size = w.heap.size + 1 := World.size_alloc _ _
 generalize w.alloc (.cells #[.int .u8 s.m,.slice none 0 0] 84) = w1 at hG hb0 s1 hW
 have hM : MapI (w1.alloc (.map #[] 0)) w1.heap.size 0 (fun _ => none) := MapI.new w1
 have hb1 := below_alloc (Below.refl w1.heap.size w1) (.map #[] 0)
 have s2 : (w1.alloc (.map #[] 0)).heap.size = w1.heap.size + 1 := World.size_alloc _ _
 generalize w1.alloc (.map #[] 0) = w2 at hM hb1 s2 hW
 rw [s1] at hM
 have hbw := bel_trans hb0 hb1
 have hbox := blk_below h.box hbw
 have lb := blk_lt h.box
 have hO : Only (fun k => k = b) w2 W := by
  rw [← hW]
  exact (((Only.refl (fun k => k = b) w2).set ⟨b,3,none⟩ _ rfl).set ⟨b,4,none⟩ _ rfl).set ⟨b,5,none⟩ _ rfl
 have hs := hB.size
 refine ⟨⟨?_,hM.same (hO.block _ hM.lt (by omega)),⟨⟨_,(hG.below hb1).beside hO (fun k hk e => by have hk : k = w.heap.size := hk;have e : k = b := e;omega) (fun k hk => by have hk : k = b := hk;rw [hk];exact h.b0),fun k hk hx => ?_⟩,fun k hk => ?_⟩,h.b0,by omega,h.bX,fun hx => by have := h.xl _ hx;omega⟩,KeepX.trans (KeepX.below h.xl hbw) (KeepX.only (fun k hk => Nat.lt_of_lt_of_le (h.xl k hk) hbw.size) hO (fun k hk e => by have e : k = b := e;subst e;exact h.bX hk))⟩
 ·rw [← hW]
  exact blk_put (blk_put (blk_put hbox 3 _ rfl) 4 _ rfl) 5 _ rfl
 ·have hk : k = w.heap.size := hk
  rcases hx with hx | hx | hx
  ·have := h.xl k hx;omega
  ·omega
  ·omega
 ·have hsz := hO.size
  rcases hk with hk | hk | hk
  ·have := h.xl k hk;omega
  ·omega
  ·omega
end
end Go.Proofs.Ytofmlajanopniaa.Li
namespace Go.Proofs.Ytofmlajanopniaa.Li
open Go.RowKit Go.Maps Go.Proofs.YtofmlajanopniaaW.PrintWords Go.Proofs.YtofmlajanopniaaW.PrintLast Go.Proofs.YtofmlajanopniaaW.PrintMore Go.Proofs.Ytofmlajanopniaa.Q Go.Proofs.Ytofmlajanopniaa.Tk
theorem cells_filter : Try.prog.cellsOf 68 = 3 := by kernel_rfl
theorem cells_u64 : Try.prog.cellsOf 33 = 1 := by kernel_rfl
theorem cells_u64s : Try.prog.cellsOf 69 = 1 := by kernel_rfl
theorem cells_opH : Try.prog.cellsOf 71 = 13 := by kernel_rfl
abbrev FiT := List ByteArray × List ByteArray × List ByteArray
abbrev kfilter : Kd FiT := Kd.pair ktags (Kd.pair ktags ktags)
abbrev okFilter (x : FiT) : Prop := okTags x.1 ∧ okTags x.2.1 ∧ okTags x.2.2
set_option maxRecDepth 100000 in
theorem opens_filter : Frame.Opens Try.prog 68 kfilter okFilter :=
 Frame.Opens.struct Try.underlying68 cells_filter (Frame.OpensFrom.cons (by rfl) (by rfl) cells_tags opens_tags (Frame.OpensFrom.cons (by rfl) (by rfl) cells_tags opens_tags (Frame.OpensFrom.last (by rfl) (by rfl) cells_tags opens_tags)))
abbrev ku64s : Kd (List Int) := Kd.slice 33 (Kd.int .u64)
abbrev okU64s (l : List Int) : Prop := l.length ≤ maxLen ∧ ∀ x ∈ l,(Lit.int .u64 x).wf = true
theorem opens_u64s : Frame.Opens Try.prog 69 ku64s okU64s := Frame.Opens.slice Try.underlying69 cells_u64 (Frame.Opens.int Try.underlying33)
abbrev OpH := Int × ItT × Int × Int × FiT × Int × Int × Int × List Int
abbrev kopH : Kd OpH := Kd.pair (Kd.int .u8) (Kd.pair kitem (Kd.pair (Kd.int .i64) (Kd.pair (Kd.int .u8) (Kd.pair kfilter (Kd.pair (Kd.int .i64) (Kd.pair (Kd.int .i64) (Kd.pair (Kd.int .u64) ku64s)))))))
abbrev okOpH (x : OpH) : Prop := (Lit.int .u8 x.1).wf = true ∧ okItem x.2.1 ∧ okI x.2.2.1 ∧ (Lit.int .u8 x.2.2.2.1).wf = true ∧ okFilter x.2.2.2.2.1 ∧ okI x.2.2.2.2.2.1 ∧ okI x.2.2.2.2.2.2.1 ∧ (Lit.int .u64 x.2.2.2.2.2.2.2.1).wf = true ∧ okU64s x.2.2.2.2.2.2.2.2
set_option maxRecDepth 100000 in
theorem opens_opH : Frame.Opens Try.prog 71 kopH okOpH :=
 Frame.Opens.struct Try.underlying71 cells_opH (Frame.OpensFrom.cons (by rfl) (by rfl) cells_u8 (Frame.Opens.int Try.underlying5) (Frame.OpensFrom.cons (by rfl) (by rfl) cells_item opens_item
  (Frame.OpensFrom.cons (by rfl) (by rfl) cells_int (Frame.Opens.int Try.underlying3) (Frame.OpensFrom.cons (by rfl) (by rfl) cells_u8 (Frame.Opens.int Try.underlying5) (Frame.OpensFrom.cons (by rfl) (by rfl) cells_filter opens_filter (Frame.OpensFrom.cons (by rfl) (by rfl) cells_int (Frame.Opens.int Try.underlying3) (Frame.OpensFrom.cons (by rfl) (by rfl) cells_int (Frame.Opens.int Try.underlying3) (Frame.OpensFrom.cons (by rfl) (by rfl) cells_u64 (Frame.Opens.int Try.underlying33) (Frame.OpensFrom.last (by rfl) (by rfl) cells_u64s opens_u64s)))))))))
abbrev okOpsH (l : List OpH) : Prop := l.length ≤ maxLen ∧ ∀ x ∈ l,okOpH x
theorem opens_opsH : Frame.Opens Try.prog 63 (Kd.slice 71 kopH) okOpsH := Frame.Opens.slice Try.underlying63 cells_opH opens_opH
structure OpHL (w : World) (x : OpH) (A1 : Option Addr) (c1 : Nat) (A2 : Option Addr) (c2 : Nat) (F0 : Option Addr) (d0 : Nat) (F1 : Option Addr) (d1 : Nat) (F2 : Option Addr) (d2 : Nat) (A3 : Option Addr) (c3 : Nat) : Prop where
 fit1 : x.2.1.2.1.length ≤ c1
 vec : Kd.C (Kd.int .i32) w A1 x.2.1.2.1.length x.2.1.2.1
 fit2 : x.2.1.2.2.length ≤ c2
 tags : Kd.C Kd.string w A2 x.2.1.2.2.length x.2.1.2.2
 g0 : x.2.2.2.2.1.1.length ≤ d0
 f0 : Kd.C Kd.string w F0 x.2.2.2.2.1.1.length x.2.2.2.2.1.1
 g1 : x.2.2.2.2.1.2.1.length ≤ d1
 f1 : Kd.C Kd.string w F1 x.2.2.2.2.1.2.1.length x.2.2.2.2.1.2.1
 g2 : x.2.2.2.2.1.2.2.length ≤ d2
 f2 : Kd.C Kd.string w F2 x.2.2.2.2.1.2.2.length x.2.2.2.2.1.2.2
 fit3 : x.2.2.2.2.2.2.2.2.length ≤ c3
 keep : Kd.C (Kd.int .u64) w A3 x.2.2.2.2.2.2.2.2.length x.2.2.2.2.2.2.2.2
abbrev opHC (x : OpH) (A1 : Option Addr) (c1 : Nat) (A2 : Option Addr) (c2 : Nat) (F0 : Option Addr) (d0 : Nat) (F1 : Option Addr) (d1 : Nat) (F2 : Option Addr) (d2 : Nat) (A3 : Option Addr) (c3 : Nat) : List Value := [.int .u8 x.1,.int .u32 x.2.1.1,.slice A1 x.2.1.2.1.length c1,.slice A2 x.2.1.2.2.length c2,.int .i64 x.2.2.1,.int .u8 x.2.2.2.1,.slice F0 x.2.2.2.2.1.1.length d0,.slice F1 x.2.2.2.2.1.2.1.length d1,.slice F2 x.2.2.2.2.1.2.2.length d2,.int .i64 x.2.2.2.2.2.1,.int .i64 x.2.2.2.2.2.2.1,.int .u64 x.2.2.2.2.2.2.2.1,.slice A3 x.2.2.2.2.2.2.2.2.length c3]
section
variable {w w1 : World} {x : OpH} {A1 : Option Addr} {c1 : Nat} {A2 : Option Addr} {c2 : Nat} {F0 : Option Addr} {d0 : Nat} {F1 : Option Addr} {d1 : Nat} {F2 : Option Addr} {d2 : Nat} {A3 : Option Addr} {c3 : Nat}
theorem OpHL.below (h : OpHL w x A1 c1 A2 c2 F0 d0 F1 d1 F2 d2 A3 c3) (hb : Below w.heap.size w w1) : OpHL w1 x A1 c1 A2 c2 F0 d0 F1 d1 F2 d2 A3 c3 :=
 ⟨h.fit1,Kd.C_below h.vec hb,h.fit2,Kd.C_below h.tags hb,h.g0,Kd.C_below h.f0 hb,h.g1,Kd.C_below h.f1 hb,h.g2,Kd.C_below h.f2 hb,h.fit3,Kd.C_below h.keep hb⟩
end
theorem opH_at {w : World} {A : Option Addr} {l : List OpH} (h : Kd.C kopH w A l.length l) {i : Nat} (hi : i < l.length) : ∃ ad x A1 c1 A2 c2 F0 d0 F1 d1 F2 d2 A3 c3,A = some ad ∧ l[i]? = some x ∧ (∀ j u,(opHC x A1 c1 A2 c2 F0 d0 F1 d1 F2 d2 A3 c3)[j]? = some u → w.cell? (ad.add (i * 13 + j)) = some u) ∧ OpHL w x A1 c1 A2 c2 F0 d0 F1 d1 F2 d2 A3 c3 := by
 obtain ⟨ad,e,hc⟩ := h.2.2 (by omega)
 obtain ⟨cs,h1,⟨c0,c1,rfl,k0,z0,z1,rfl,⟨f0,f1,rfl,k2,g0,g1,rfl,⟨A1,n1,k3,l1,hv⟩,⟨A2,n2,k4,l2,ht⟩⟩,a0,a1,rfl,m0,b0,b1,rfl,m1,p0,p1,rfl,⟨r0,r1,rfl,⟨F0,d0,j0,u0,v0⟩,s0,s1,rfl,⟨F1,d1,j1,u1,v1⟩,⟨F2,d2,j2,u2,v2⟩⟩,q0,q1,rfl,m3,t0,t1,rfl,m4,o0,o1,rfl,m5,⟨A3,n3,k5,l3,hk⟩⟩,h3⟩ := hc i _ (List.getElem?_eq_getElem hi)
 have k0' : c0 = [.int .u8 l[i].1] := k0
 have k2' : f0 = [.int .u32 l[i].2.1.1] := k2
 have m0' : a0 = [.int .i64 l[i].2.2.1] := m0
 have m1' : b0 = [.int .u8 l[i].2.2.2.1] := m1
 have m3' : q0 = [.int .i64 l[i].2.2.2.2.2.1] := m3
 have m4' : t0 = [.int .i64 l[i].2.2.2.2.2.2.1] := m4
 have m5' : o0 = [.int .u64 l[i].2.2.2.2.2.2.2.1] := m5
 subst k0' k2' m0' m1' m3' m4' m5' k3 k4 k5 j0 j1 j2
 have hs : i * kopH.sz = i * 13 := rfl
 rw [hs] at h3
 exact ⟨ad,l[i],A1,n1,A2,n2,F0,d0,F1,d1,F2,d2,A3,n3,e,List.getElem?_eq_getElem hi,h3,l1,hv,l2,ht,u0,v0,u1,v1,u2,v2,l3,hk⟩
end Go.Proofs.Ytofmlajanopniaa.Li
namespace Go.Proofs.Ytofmlajanopniaa.Li
open Go.RowKit Go.Maps Go.Proofs.YtofmlajanopniaaW.PrintWords Go.Proofs.YtofmlajanopniaaW.PrintLast Go.Proofs.YtofmlajanopniaaW.PrintMore Go.Proofs.Ytofmlajanopniaa.Q Go.Proofs.Ytofmlajanopniaa.Tk
theorem great10_calls (F0 : Option Addr) (d0 : Nat) (F1 : Option Addr) (d1 : Nat) (F2 : Option Addr) (d2 : Nat) (f0 f1 f2 : List ByteArray) (w : World) (g0 : f0.length ≤ d0) (h0 : Kd.C Kd.string w F0 f0.length f0) (g1 : f1.length ≤ d1) (h1 : Kd.C Kd.string w F1 f1.length f1) (g2 : f2.length ≤ d2) (h2 : Kd.C Kd.string w F2 f2.length f2) :
  Calls Try.prog 58 #[.slice none 0 0,.agg #[.slice F0 f0.length d0,.slice F1 f1.length d1,.slice F2 f2.length d2]] w fun e w' => (∃ r,e = .returned (.bool r) ∧ (r = false → f0.length ≤ 100000 ∧ f1.length ≤ 100000 ∧ f2.length ≤ 100000)) ∧ Below w.heap.size w w' := by
 obtain ⟨r,h,hr⟩ := Fl.great_f [] f0 f1 f2
 exact (lodestarref10_Great.calls _ none 0 [] F0 d0 f0 F1 d1 f1 F2 d2 f2 r w (Kd.C_nil _ _) (Nat.le_refl _) h0 g0 h1 g1 h2 g2 h).mono fun e w' ⟨he,hb⟩ => ⟨⟨r,he,fun e => by have := hr e;omega⟩,hb⟩
structure Fit12 (x : OpH) : Prop where
 vec : x.2.1.2.1.length ≤ 100000
 tags : x.2.1.2.2.length ≤ 100000
 keep : x.2.2.2.2.2.2.2.2.length ≤ 50
 f : x.2.2.2.2.1.1.length ≤ 100000 ∧ x.2.2.2.2.1.2.1.length ≤ 100000 ∧ x.2.2.2.2.1.2.2.length ≤ 100000
set_option maxHeartbeats 8000000 in
set_option maxRecDepth 100000 in
theorem great12_calls (x : OpH) (A1 : Option Addr) (c1 : Nat) (A2 : Option Addr) (c2 : Nat) (F0 : Option Addr) (d0 : Nat) (F1 : Option Addr) (d1 : Nat) (F2 : Option Addr) (d2 : Nat) (A3 : Option Addr) (c3 : Nat) (w : World) (h : OpHL w x A1 c1 A2 c2 F0 d0 F1 d1 F2 d2 A3 c3) :
  Calls Try.prog 26 #[.agg (opHC x A1 c1 A2 c2 F0 d0 F1 d1 F2 d2 A3 c3).toArray] w fun e w' => (∃ r,e = .returned (.bool r) ∧ (r = false → Fit12 x)) ∧ Below w.heap.size w w' := by
 have hu := Try.underlying71
 have hu2 := Try.underlying26
 have hu3 := Try.underlying68
 obtain ⟨kind,⟨id,vec,tags⟩,lv,ah,⟨f0,f1,f2⟩,k,wd_,v,keep⟩ := x
 have hba := below_alloc (Below.refl w.heap.size w) (.cells (opHC (kind,(id,vec,tags),lv,ah,(f0,f1,f2),k,wd_,v,keep) A1 c1 A2 c2 F0 d0 F1 d1 F2 d2 A3 c3).toArray 71)
 have hx := heap_alloc_new w (.cells (opHC (kind,(id,vec,tags),lv,ah,(f0,f1,f2),k,wd_,v,keep) A1 c1 A2 c2 F0 d0 F1 d1 F2 d2 A3 c3).toArray 71)
 have hl := h.below hba
 have HB0 := Aside0.mk hba
 have HX0 := Aside0.mk hx
 have HL0 := Aside0.mk hl
 clear h hba hx hl
 show Calls _ _ #[.agg #[.int .u8 kind,.int .u32 id,.slice A1 vec.length c1,.slice A2 tags.length c2,.int .i64 lv,.int .u8 ah,.slice F0 f0.length d0,.slice F1 f1.length d1,.slice F2 f2.length d2,.int .i64 k,.int .i64 wd_,.int .u64 v,.slice A3 keep.length c3]] _ _
 have HR : Aside0 (∀ r1 : Bool,(r1 = true → vec.length ≤ 100000 ∧ tags.length ≤ 100000) → ∀ r2 : Bool,(r2 = false → f0.length ≤ 100000 ∧ f1.length ≤ 100000 ∧ f2.length ≤ 100000) → (!r1 || decide (50 < (keep.length : Int)) || r2) = false → Fit12 (kind,(id,vec,tags),lv,ah,(f0,f1,f2),k,wd_,v,keep)) := ⟨fun r1 h1 r2 h2 e => by
  rw [Bool.or_eq_false_iff,Bool.or_eq_false_iff,decide_eq_false_iff_not] at e
  obtain ⟨⟨e1,e2⟩,e3⟩ := e
  have e1 : r1 = true := by simpa using e1
  exact ⟨(h1 e1).1,(h1 e1).2,by show keep.length ≤ 50;omega,h2 e3⟩⟩
 by_cases hk : keep.length ≤ 50
 ·have q1 : decide ((50 : Int) < (keep.length : Int)) = false := decide_eq_false (by omega)
  have q1' : decide (50 < keep.length) = false := decide_eq_false (by omega)
  have HQ := Aside0.mk q1
  clear hk
  go_enter Try.func26,Try.ntmps26
  go_wp2_with (first | (go_at_call 11;go_must (with_reducible refine (small_calls id vec tags A1 c1 A2 c2 _ HL0.out.fit1 HL0.out.vec HL0.out.fit2 HL0.out.tags).mono ?_);rintro e w1 ⟨⟨r1,rfl,hr1⟩,hb⟩;have HL1 := Aside0.mk (HL0.out.below hb);have HB1 := Aside0.mk (bel_trans HB0.out hb);have HR1 := Aside0.mk (HR.out r1 hr1);have hx1 := blk_below HX0.out hb;have z6 := (blk_cell hx1 6).trans rfl;have z7 := (blk_cell hx1 7).trans rfl;have z8 := (blk_cell hx1 8).trans rfl;have z12 := (blk_cell hx1 12).trans rfl;clear hb hr1 hx1;cases r1) | (have := HL1;go_at_call 58;go_must (with_reducible refine (great10_calls F0 d0 F1 d1 F2 d2 f0 f1 f2 _ HL1.out.g0 HL1.out.f0 HL1.out.g1 HL1.out.f1 HL1.out.g2 HL1.out.f2).mono ?_);rintro e w2 ⟨⟨r2,rfl,hr2⟩,hb⟩;have HB2 := Aside0.mk (bel_trans HB1.out hb);have HR2 := Aside0.mk (HR1.out r2 hr2);clear hb hr2))
  ·go_ret
   exact ⟨⟨true,rfl,fun e => by cases e⟩,HB1.out⟩
  ·go_ret
   exact ⟨⟨r2,rfl,fun e => HR2.out (by rw [HQ.out,e];rfl)⟩,HB2.out⟩
 ·have q1 : decide ((50 : Int) < (keep.length : Int)) = true := decide_eq_true (by omega)
  have q1' : decide (50 < keep.length) = true := decide_eq_true (by omega)
  clear hk
  go_enter Try.func26,Try.ntmps26
  go_wp2_with (go_at_call 11;go_must (with_reducible refine (small_calls id vec tags A1 c1 A2 c2 _ HL0.out.fit1 HL0.out.vec HL0.out.fit2 HL0.out.tags).mono ?_);rintro e w1 ⟨⟨r1,rfl,hr1⟩,hb⟩;have HB1 := Aside0.mk (bel_trans HB0.out hb);have hx1 := blk_below HX0.out hb;have z12 := (blk_cell hx1 12).trans rfl;clear hb hr1 hx1;cases r1)
  all_goals
   go_ret
   exact ⟨⟨true,rfl,fun e => by cases e⟩,HB1.out⟩
end Go.Proofs.Ytofmlajanopniaa.Li
namespace Go.Proofs.Ytofmlajanopniaa.Li
open Go.RowKit Go.Proofs.YtofmlajanopniaaW.PrintWords Go.Proofs.Ytofmlajanopniaa.Q Go.Proofs.Ytofmlajanopniaa.Tk
def bareG (s : Gr) : Gr := ⟨s.m,s.l.map bare⟩
theorem oneS_bare (s : Gr) (q : List Int) (f : Fi) (v : Int) (h : H) : oneS s q f v h = oneS (bareG s) q f v h := by
 unfold oneS bareG
 dsimp only
 rw [List.getElem?_map]
 cases s.l[h.f1.toNat]? <;> rfl
theorem foundS_bare (s : Gr) (q : List Int) (f : Fi) (v : Int) (l : List H) : foundS s q f v l = foundS (bareG s) q f v l := by
 unfold foundS
 congr 1
 funext h
 exact oneS_bare s q f v h
theorem hit_bare (s : Gr) (q : List Int) (i : Int) : s.hit q i = (bareG s).hit q i := by
 unfold Gr.hit Gr.far Gr.vec bareG
 dsimp only
 rw [List.getElem?_map]
 cases s.l[i.toNat]? <;> rfl
theorem allHits_bare (s : Gr) (q : List Int) : allHits s q = allHits (bareG s) q := by
 unfold allHits
 rw [show (bareG s).l.length = s.l.length from List.length_map _]
 congr 2
 funext i
 exact hit_bare s q i
theorem search_exact {x : Ix} {n : Nat} (ho : IxOk x n) (hl : x.g.l.length ≤ 256) {width : Int} (hw : (x.g.l.length : Int) ≤ width) (q : List Int) (f : Fi) (k v : Int) : x.search q f k width v = putAll (clamp k) (foundS x.g q f v (allHits x.g q)) := by
 unfold Ix.search searchG
 rcases ho.en with ⟨e1,e2⟩ | ⟨e1,e2⟩
 ·rw [if_pos (by omega)]
  have h0 : allHits x.g q = [] := by unfold allHits;rw [e2];exact sortH_nil
  rw [h0]
  rfl
 ·have hr := there_range e1
  rw [if_neg (by omega),walk_finds ho.inv.good (downG_there (Int.le_refl _) e1) (by omega) hl]
theorem put_bare_new {x : Ix} {id : Int} (h : nowG (bareG x.g) id = -1) (vec : List Int) (tags : List ByteArray) (lv v : Int) : (x.put id vec tags lv v).g.l.map bare = x.g.l.map bare ++ [⟨id,vec,tags,v,0,List.replicate (clampL (clampL lv) + 1) []⟩] ∧ (x.put id vec tags lv v).g.m = x.g.m := by
 refine ⟨?_,putG_m⟩
 have hb : (bareG x.g).l.map bare = x.g.l.map bare := by
  unfold bareG
  rw [List.map_map]
  congr 1
  funext n
  unfold bare
  simp
 have hn : nowG x.g id = -1 := by rw [← h];exact (bare_nowG (s := x.g) hb id).symm
 show (putG x id vec tags (clampL lv) v).l.map bare = _
 rw [putG_bare]
 unfold untilNow
 rw [hn,if_neg (by omega)]
 unfold Gr.add
 rw [List.map_append]
 unfold bare
 simp
theorem until_bare (s : Gr) (i : Nat) (v : Int) : (s.until_ i v).l.map bare = ((bareG s).until_ i v).l := by
 apply List.ext_getElem?
 intro k
 rw [List.getElem?_map,until_get,until_get]
 unfold bareG
 dsimp only
 rw [List.getElem?_map]
 split
 ·cases s.l[k]? <;> rfl
 ·rfl
theorem cut_bare {x : Ix} {id : Int} {k : Nat} (h : nowG (bareG x.g) id = k) (v : Int) : (x.cut id v).g.l.map bare = ((bareG x.g).until_ k v).l ∧ (x.cut id v).g.m = x.g.m := by
 have hb : (bareG x.g).l.map bare = x.g.l.map bare := by
  unfold bareG
  rw [List.map_map]
  congr 1
  funext n
  unfold bare
  simp
 have hn : nowG x.g id = k := by rw [← h];exact (bare_nowG (s := x.g) hb id).symm
 refine ⟨?_,untilNow_m _ _ _⟩
 show (untilNow x.g id v).l.map bare = _
 unfold untilNow
 rw [hn,if_pos (by omega),Int.toNat_natCast]
 exact until_bare _ _ _
theorem went_bare (keep : List Int) (l : List Nd) : wentL keep l = wentL keep (l.map bare) := by
 unfold wentL
 rw [List.filter_map,List.length_map]
 rfl
/-! ### The document's example -/
def alX0 : Ix := ⟨⟨0,[]⟩,lkN 2,wdN 4, -1⟩
def alX1 : Ix := alX0.put 1 [0] [] 0 1
def alX2 : Ix := alX1.put 2 [5] [] 0 2
def alX3 : Ix := alX2.put 3 [9] [] 0 3
def alX4 : Ix := alX3.cut 2 4
def alB1 : List Nd := [⟨1,[0],[],1,0,[[]]⟩]
def alB2 : List Nd := [⟨1,[0],[],1,0,[[]]⟩,⟨2,[5],[],2,0,[[]]⟩]
def alB3 : List Nd := [⟨1,[0],[],1,0,[[]]⟩,⟨2,[5],[],2,0,[[]]⟩,⟨3,[9],[],3,0,[[]]⟩]
def alB4 : List Nd := [⟨1,[0],[],1,0,[[]]⟩,⟨2,[5],[],2,4,[[]]⟩,⟨3,[9],[],3,0,[[]]⟩]
theorem al_bareG {x : Ix} {B : List Nd} (h : x.g.l.map bare = B) (hm : x.g.m = 0) : bareG x.g = ⟨0,B⟩ := by unfold bareG;rw [h,hm]
theorem al1 : alX1.g.l.map bare = alB1 ∧ alX1.g.m = 0 := put_bare_new (x := alX0) (by rfl) [0] [] 0 1
theorem al2 : alX2.g.l.map bare = alB2 ∧ alX2.g.m = 0 := by
 obtain ⟨h1,h2⟩ := put_bare_new (x := alX1) (id := 2) (by rw [al_bareG al1.1 al1.2];rfl) [5] [] 0 2
 exact ⟨h1.trans (by rw [al1.1];rfl),h2.trans al1.2⟩
theorem al3 : alX3.g.l.map bare = alB3 ∧ alX3.g.m = 0 := by
 obtain ⟨h1,h2⟩ := put_bare_new (x := alX2) (id := 3) (by rw [al_bareG al2.1 al2.2];rfl) [9] [] 0 3
 exact ⟨h1.trans (by rw [al2.1];rfl),h2.trans al2.2⟩
theorem al4 : alX4.g.l.map bare = alB4 ∧ alX4.g.m = 0 := by
 obtain ⟨h1,h2⟩ := cut_bare (x := alX3) (id := 2) (k := 1) (by rw [al_bareG al3.1 al3.2];rfl) 4
 exact ⟨h1.trans (by rw [al_bareG al3.1 al3.2];rfl),h2.trans al3.2⟩
theorem ok0 : IxOk alX0 0 := new_ok (Int.le_refl 0) 2 4
theorem ok1 : IxOk alX1 1 := put_ok ok0 (by decide) (by simp) (by simp) 0 (by omega)
theorem ok2 : IxOk alX2 2 := put_ok ok1 (by decide) (by simp) (by simp) 0 (by omega)
theorem ok3 : IxOk alX3 3 := put_ok ok2 (by decide) (by simp) (by simp) 0 (by omega)
theorem ok4 : IxOk alX4 3 := cut_ok ok3 2 (by omega)
theorem al_len : alX4.g.l.length = 3 := by have := congrArg List.length al4.1;rw [List.length_map] at this;exact this
theorem al_had : (nowM alX3.g 2).isSome = true := by
 have hb : alX3.g.l.map bare = (⟨0,alB3⟩ : Gr).l.map bare := al3.1.trans rfl
 unfold nowM
 rw [bare_nowG hb]
 rfl
theorem al_went : wentL [] alX4.g.l = 1 := by rw [went_bare,al4.1];rfl
theorem al_hits : allHits ⟨0,alB4⟩ [4] = [⟨1,1⟩,⟨16,0⟩,⟨25,2⟩] := by
 show sortH ([⟨16,0⟩,⟨1,1⟩] ++ [⟨25,2⟩]) = _
 rw [← into_sort]
 show intoL (sortH ([⟨16,0⟩] ++ [⟨1,1⟩])) ⟨25,2⟩ = _
 rw [← into_sort]
 show intoL (intoL (sortH ([] ++ [⟨16,0⟩])) ⟨1,1⟩) ⟨25,2⟩ = _
 rw [← into_sort,sortH_nil]
 rfl
theorem al_search {v : Int} : alX4.search [4] ⟨[],[],[]⟩ 2 9 v = putAll 2 (foundS ⟨0,alB4⟩ [4] ⟨[],[],[]⟩ v [⟨1,1⟩,⟨16,0⟩,⟨25,2⟩]) := by
 rw [search_exact ok4 (by rw [al_len];omega) (by rw [al_len];omega),foundS_bare,allHits_bare,al_bareG al4.1 al4.2,al_hits]
 rfl
theorem al_a : alX4.search [4] ⟨[],[],[]⟩ 2 9 4 = [⟨16,1⟩,⟨25,3⟩] := by rw [al_search];kernel_rfl
theorem al_b : alX4.search [4] ⟨[],[],[]⟩ 2 9 3 = [⟨1,2⟩,⟨16,1⟩] := by rw [al_search];kernel_rfl
end Go.Proofs.Ytofmlajanopniaa.Li
namespace Go.Proofs.Ytofmlajanopniaa.Li
open Go.RowKit Go.Maps Go.Proofs.YtofmlajanopniaaW.PrintWords Go.Proofs.YtofmlajanopniaaW.PrintLast Go.Proofs.YtofmlajanopniaaW.PrintMore Go.Proofs.Ytofmlajanopniaa.Q Go.Proofs.Ytofmlajanopniaa.Tk
attribute [local go_sem] max2_M min2_M max_two min_two
def hse.T5 : Bool × List (List Nat × List Nat) := (true,[([],[]),([0],[0]),([1],[1]),([2],[2]),([],[]),([],[]),([],[]),([5,6],[5,6]),([7],[7]),([],[]),([],[]),([9,10],[9,10]),([3,4,8,11,7],[3,4,8,11]),([12],[12]),([],[])])
def hse.B5 : List Nat := [0,1,3,7,0,0,0,96,224,0,0,1536,4095,8191,0]
theorem hse.tab5 : rtab .any (opsOf Try.f55 5) = hse.T5 := by kernel_rfl
theorem hse.bits5 : waitsOk hse.T5.2 hse.B5 = true := by kernel_rfl
def hse.T8 : Bool × List (List Nat × List Nat) := (true,[([],[]),([0],[0]),([1],[1]),([2],[2]),([],[]),([4],[4]),([5],[5]),([3,6],[3,6]),([7],[7]),([8],[8]),([8],[8]),([],[]),([11,9,7,0,1,2,3,4,5,6,7,8,9,11],[9,11]),([10,12,0,1,2,3,4,5,6,7,8,9,10,11,12],[10])])
def hse.B8 : List Nat := [0,1,3,7,0,16,48,127,255,511,511,0,3071,8191]
theorem hse.tab8 : rtab .any (opsOf Try.f55 8) = hse.T8 := by kernel_rfl
theorem hse.bits8 : waitsOk hse.T8.2 hse.B8 = true := by kernel_rfl
def hse.T9 : Bool × List (List Nat × List Nat) := (true,[([],[]),([0],[0]),([1],[1]),([2],[2]),([],[]),([],[]),([5],[5]),([6],[6]),([3,4,7],[3,4,7]),([8],[8]),([9],[9]),([9],[9]),([10,8,0,1,2,3,4,5,6,7,8,9,10],[10]),([11,12,0,1,2,3,4,5,6,7,8,9,10,11,12],[11])])
def hse.B9 : List Nat := [0,1,3,7,0,0,32,96,255,511,1023,1023,2047,8191]
theorem hse.tab9 : rtab .any (opsOf Try.f55 9) = hse.T9 := by kernel_rfl
theorem hse.bits9 : waitsOk hse.T9.2 hse.B9 = true := by kernel_rfl
theorem foundS_snoc {s : Gr} {q : List Int} {f : Fi} {v : Int} {L : List H} {i : Nat} (hi : i < L.length) : foundS s q f v (L.take (i + 1)) = foundS s q f v (L.take i) ++ oneS s q f v L[i] := by
 unfold foundS
 rw [List.take_succ_eq_append_getElem hi,List.flatMap_append]
 simp
theorem oneS_at {s : Gr} {q : List Int} {f : Fi} {v : Int} {k : Nat} {d : Int} {nd : Nd} (h : s.l[k]? = some nd) : oneS s q f v ⟨d,k⟩ = if ((Fl.dist s.m q nd.vec).2 && thereN nd v && Fl.matchB f.f0 f.f1 f.f2 nd.tags) = true then [⟨(Fl.dist s.m q nd.vec).1,nd.id⟩] else [] := by
 unfold oneS
 rw [show (⟨d,(k : Int)⟩ : H).f1.toNat = k from Int.toNat_natCast k,h]
theorem hread_ {w : World} {b n cap : Nat} {ao : Option Addr} {A : List H} (h : OwnH w b (.slice ao n cap) A) : ReadsH w ao cap A := by
 obtain ⟨ao',cap',e,hr⟩ := h.reads
 injection e with e1 e2 e3
 subst e1 e3
 exact hr
theorem clamp_clamp (k : Int) : clamp (max 0 (min k 256)) = clamp k := by unfold clamp;omega
abbrev keptS (k : Nat) (l : List H) : List H := putAll k l
structure SS (w wr : World) (gb K : Nat) (S : Nat → Prop) (L : List H) (v : Value) (V : List H) : Prop where
 best : Kept wr S gb K L
 low : ∀ k,S k → w.heap.size ≤ k
 hits : OwnH wr w.heap.size v V
 hS : ∀ k,v.ownBlock = some k → ¬ S k
 at0 : Below w.heap.size w wr
section
variable {w wr w' : World} {gb K : Nat} {S : Nat → Prop} {L V : List H} {v : Value}
theorem SS.below (h : SS w wr gb K S L v V) (hb : Below wr.heap.size wr w') : SS w w' gb K S L v V := ⟨h.best.below hb,h.low,h.hits.below hb,h.hS,bel_trans h.at0 hb⟩
theorem SS.put (h : SS w wr gb K S L v V) {x : H} (hO : Only S wr w') (hK : Kept w' (ext S wr w') gb K (putK K L x)) : SS w w' gb K (ext S wr w') (putK K L x) v V :=
 ⟨hK,fun k hk => hk.elim (h.low k) (fun hk => Nat.le_trans h.at0.size hk.1),OwnH.only h.hits hO (fun i hi e => h.hS i e hi),fun k hk hs => hs.elim (h.hS k hk) (fun hs => by have := own_lt h.hits k hk;have := hs.1;omega),hO.below_of h.at0 h.low⟩
end
section
variable {X : Nat → Prop} {w0 w : World} {b g mb : Nat} {lk wd_ en : Int} {s : Gr} {n N : Nat} {fm : Int → Option Int}
set_option maxHeartbeats 32000000 in
set_option maxRecDepth 100000 in
theorem PI.search (h : PI X w0 w b g mb lk wd_ en s n fm) (hi : Inv s N) (hN : N ≤ 90000) (A : Option Addr) (c : Nat) (q : List Int) (hq : Kd.C (Kd.int .i32) w A q.length q) (hqc : q.length ≤ c) (F0 : Option Addr) (d0 : Nat) (F1 : Option Addr) (d1_ : Nat) (F2 : Option Addr) (d2_ : Nat) (f : Fi)
  (hf0 : Kd.string.C w F0 f.f0.length f.f0) (hf1 : Kd.string.C w F1 f.f1.length f.f1) (hf2 : Kd.string.C w F2 f.f2.length f.f2) (hfl : f.f0.length ≤ 100000 ∧ f.f1.length ≤ 100000 ∧ f.f2.length ≤ 100000) (k width v : Int) :
  Calls Try.prog 55 #[.pointer (some ⟨b,0,none⟩),.slice A q.length c,.agg #[.slice F0 f.f0.length d0,.slice F1 f.f1.length d1_,.slice F2 f.f2.length d2_],.int .i64 k,.int .i64 width,.int .u64 v] w fun e w' => (∃ v2,e = .returned v2 ∧ OwnH w' w.heap.size v2 (searchG s en q f k width v)) ∧ Below w.heap.size w w' := by
 have hu := Try.underlying107
 have hu2 := Try.underlying37
 have hu3 := Try.underlying58
 have hu4 := Try.underlying26
 have hu5 := Try.underlying68
 have HBF := Aside0.mk (below_alloc (Below.refl w.heap.size w) (.cells #[.slice F0 f.f0.length d0,.slice F1 f.f1.length d1_,.slice F2 f.f2.length d2_] 68))
 have HFX := Aside0.mk (heap_alloc_new w (.cells #[.slice F0 f.f0.length d0,.slice F1 f.f1.length d1_,.slice F2 f.f2.length d2_] 68))
 have HSZ := Aside0.mk (show (w.alloc (.cells #[.slice F0 f.f0.length d0,.slice F1 f.f1.length d1_,.slice F2 f.f2.length d2_] 68)).heap.size = w.heap.size + 1 from World.size_alloc _ _)
 have HP := Aside0.mk (h.below HBF.out)
 have HV := Aside0.mk hi
 have HN := Aside0.mk hN
 have HQ := Aside0.mk (And.intro (Kd.C_below hq HBF.out) hqc)
 have HF := Aside0.mk (And.intro (Kd.C_below hf0 HBF.out) (And.intro (Kd.C_below hf1 HBF.out) (Kd.C_below hf2 HBF.out)))
 have HFL := Aside0.mk hfl
 have y4 := (blk_cell HP.out.box 4).trans rfl
 obtain ⟨bf,hbf⟩ : ∃ z,w.heap.size = z := ⟨_,rfl⟩
 have HLO := Aside0.mk (Nat.le_of_eq hbf)
 by_cases hen : en < 0
 ·have q1 : decide (en < 0) = true := decide_eq_true hen
  have HE := Aside0.mk (show searchG s en q f k width v = [] by unfold searchG;rw [if_pos hen])
  rw [HE.out]
  clear h hi hN hq hqc hf0 hf1 hf2 hfl hen
  go_enter Try.func55,Try.ntmps55
  go_wp2
  go_ret
  exact ⟨⟨_,rfl,own_nil _ _ _ _⟩,HBF.out⟩
 ·have q1 : decide (en < 0) = false := decide_eq_false hen
  obtain ⟨D,hD⟩ : ∃ z,downG s q en 0 = z := ⟨_,rfl⟩
  obtain ⟨V,hV⟩ : ∃ z,walkG s q [D] (max width (max 0 (min k 256))) 0 = z := ⟨_,rfl⟩
  obtain ⟨KK,hK⟩ : ∃ z,clamp k = z := ⟨_,rfl⟩
  have HE := Aside0.mk (show searchG s en q f k width v = putAll KK (foundS s q f v V) by unfold searchG;rw [if_neg hen,hD,hV,hK])
  have HD := Aside0.mk hD
  have HVE := Aside0.mk hV
  have HK := Aside0.mk ((clamp_clamp k).trans hK)
  have HVL := Aside0.mk (show V.length ≤ 256 by rw [← hV];exact walk_len _ _ _ _ _)
  rw [HE.out]
  clear h hi hN hq hqc hf0 hf1 hf2 hfl hen hD hV hK HE
  go_enter Try.func55,Try.ntmps55
  go_wp2_with (go_at_call 45;(with_reducible refine (knew_calls (max 0 (min k 256)) _).mono ?_);rintro e w1 ⟨rfl,hb,hK⟩;rw [HK.out] at hK;have HB1 := Aside0.mk hb;have HK1 := Aside0.mk hK;clear hK hb)
  rw [HSZ.out,hbf] at HK1
  rw [hbf] at HFX
  (try rw [hbf])
  obtain ⟨gb,hgb⟩ : ∃ z,bf + 1 = z := ⟨_,rfl⟩
  rw [hgb] at HK1 ⊢
  clear hgb hbf y4
  generalize w.alloc (.cells #[.slice F0 f.f0.length d0,.slice F1 f.f1.length d1_,.slice F2 f.f2.length d2_] 68) = wf at HBF HFX HSZ HP HQ HF HB1 HK1
  go_wp2
  have HPD := Aside0.mk (HP.out.below (bel_trans HB1.out (below_drew (Below.refl _ _))))
  have HBD := Aside0.mk (bel_trans HB1.out (below_drew (Below.refl _ _)) : Below wf.heap.size wf w1.drew)
  have HKD := Aside0.mk (HK1.out.below (below_drew (Below.refl _ _)))
  have HZD := Aside0.mk (Below.size ((below_drew (Below.refl _ _)) : Below w1.heap.size w1 w1.drew))
  clear HK1
  refine start_ (n := 15) (S := fun w' => w'.cell? ⟨b,3,none⟩ = some (.pointer (some ⟨g,0,none⟩))) (ds := []) (mB_ 15 0) (by kernel_rfl) rfl rfl (((blk_cell HPD.out.box 3).trans rfl)) (fun hHeld => ?_)
  refine with_tabW hse.tab5 hse.bits5 (fun HT_ HW_ => ?_)
  generalize w1.drew = wd at HPD HKD HBD HZD hHeld ⊢
  iterate 10 (refine pn_ 0 [(0,30,1),(1,31,3),(2,32,7),(4,34,23),(5,35,55),(6,36,119),(9,39,631),(10,40,1655),(11,41,3703),(14,44,20087)] (v := ?_) (a' := ?_) rfl rfl rfl HT_.out (by kernel_rfl) (Or.inl ⟨by rfl, ?_⟩) ?_ ?_;rotate_left;(· intro w';go_simp;with_reducible rfl);rotate_left;(· simp only [Act.put,sT_,sZ_,sS_,i64_w,i32_w];rfl))
  refine tn_ 20087 [(3,33,20095)] (v := ?_) (a' := ?_) rfl rfl rfl HT_.out HW_.out (by kernel_rfl) (Or.inl ⟨by rfl, ?_⟩) hHeld ?_ ?_;rotate_left;(· intro w' s0;go_simp;with_reducible rfl);rotate_left;(· simp only [Act.put,sT_,sZ_,sS_,i64_w,i32_w];rfl)
  refine one_ (i := 7) (N := some 37) (mB_ 15 20223) rfl rfl (one_of HT_.out (by kernel_rfl)) (by decide) (fun K hK => ?_)
  refine goes_ Try.func59 (by kernel_rfl) rfl #[.pointer (some ⟨b,0,none⟩),.slice A q.length c,.int .i64 0] (by rfl) rfl rfl (by simp only [List.map_toArray,List.map_cons,List.map_nil];rfl) ?_
  with_reducible refine (HPD.out.down HV.out HN.out A c q (Kd.C_below HQ.out.1 HBD.out) HQ.out.2 0 (by omega)).mono ?_
  rintro e w2 ⟨rfl,hb⟩
  refine ⟨_,rfl, ?_⟩
  rw [HD.out]
  have HP2 := Aside0.mk (HPD.out.below hb)
  have HB2 := Aside0.mk (bel_trans HBD.out hb)
  have HK2 := Aside0.mk (HKD.out.below hb)
  have HZ2 := Aside0.mk (Nat.le_trans HZD.out hb.size)
  clear hb
  refine hK.out _ _ (((blk_cell HP2.out.box 3).trans rfl)) (fun hHeld => ?_)
  clear hK K
  refine norm_ (a' := ?_) ?_ ?_
  rotate_left
  ·show Act.put _ (some 37) _ = _
   simp only [Act.put,sT_,sZ_,sS_,i64_w,i32_w]
   rfl
  refine one_ (i := 8) (N := some 38) (mB_ 15 20479) rfl rfl (one_of HT_.out (by kernel_rfl)) (by decide) (fun K hK => ?_)
  refine value_ (w1 := ?_) (v := ?_) (by rfl) rfl ?_ ?_
  rotate_left 2
  ·go_simp
   constructor
   ·rfl
   ·rfl
  have hba := below_alloc (Below.refl w2.heap.size w2) (.cells #[.int .i64 D] 3)
  have HL3 := Aside0.mk (lit1' .i64 3 D w2 _ rfl)
  have HP3 := Aside0.mk (HP2.out.below hba)
  have HB3 := Aside0.mk (bel_trans HB2.out hba)
  have HK3 := Aside0.mk (HK2.out.below hba)
  have HZ3 := Aside0.mk (Nat.le_trans HZ2.out hba.size)
  clear hba
  refine hK.out _ _ (((blk_cell HP3.out.box 3).trans rfl)) (fun hHeld => ?_)
  clear hK K
  refine norm_ (a' := ?_) ?_ ?_
  rotate_left
  ·show Act.put _ (some 38) _ = _
   simp only [Act.put,sT_,sZ_,sS_,i64_w,i32_w]
   rfl
  refine one_ (i := 12) (N := some 42) (mB_ 15 24575) rfl rfl (one_of HT_.out (by kernel_rfl)) (by decide) (fun K hK => ?_)
  refine goes_ Try.func19 (by kernel_rfl) rfl #[.pointer (some ⟨g,0,none⟩),.slice A q.length c,.slice (some ⟨w2.heap.size,0,none⟩) 1 1,.int .i64 (max width (max 0 (min k 256))),.int .i64 0] (by rfl) rfl rfl (by simp only [List.map_toArray,List.map_cons,List.map_nil];rfl) ?_
  with_reducible refine (HP3.out.gr.walkP HV.out HN.out A c q (Kd.C_below HQ.out.1 HB3.out) HQ.out.2 _ 1 1 [D] rfl HL3.out (by omega) _ 0 _ HVE.out).mono ?_
  rintro e w4 ⟨⟨vh,rfl,hv⟩,hb⟩
  refine ⟨_,rfl, ?_⟩
  obtain ⟨ah,ch,rfl, -⟩ := hv.reads
  have HS0 : Aside0 (SS wf w4 gb KK (fresh wf w1) (keptS KK (foundS s q f v (V.take 0))) (.slice ah V.length ch) V) := ⟨HK3.out.below hb,fun k hk => hk.1,OwnH.weaken hv HB3.out.size,fun k hk hs => by have := own_base hv k hk;have := hs.2;have := HZ3.out;omega,bel_trans HB3.out hb⟩
  have HP4 := Aside0.mk (HP3.out.below hb)
  clear hb hv
  refine hK.out _ _ (((blk_cell HP4.out.box 3).trans rfl)) (fun hHeld => ?_)
  clear hK K
  refine norm_ (a' := ?_) ?_ ?_
  rotate_left
  ·show Act.put _ (some 42) _ = _
   simp only [Act.put,sT_,sZ_,sS_,i64_w,i32_w]
   rfl
  refine pn_ 24575 [(13,43,32767)] (v := ?_) (a' := ?_) rfl rfl rfl HT_.out (by kernel_rfl) (Or.inl ⟨by rfl, ?_⟩) ?_ ?_;rotate_left;(· intro w';go_simp;with_reducible rfl);rotate_left;(· simp only [Act.put,sT_,sZ_,sS_,i64_w,i32_w];rfl)
  refine done_ (done_of HT_.out (by kernel_rfl)) ?_
  clear hHeld HPD HP2 HP3 HP4 HBD HB2 HB3 HKD HK2 HK3 HL3 HZD HZ2 HZ3
  go_wp2
  go_loopg [44] V.length (fun gk v44 wr => ∃ (i : Nat) (S : Nat → Prop),v44 = .int .i64 i ∧ Aside0 (i ≤ V.length ∧ V.length - i ≤ gk) ∧ Aside0 (SS wf wr gb KK S (putAll KK (foundS s q f v (V.take i))) (.slice ah V.length ch) V))
  case atStart => exact ⟨0,_,rfl,⟨by omega⟩,HS0⟩
  case round =>
   obtain ⟨i,S,rfl,HI,HSS⟩ := hrel
   by_cases hi : i < V.length
   ·have q1 : decide ((i : Int) < (V.length : Int)) = true := decide_eq_true (by omega)
    have q1' : (i : Int) < (V.length : Int) := by omega
    have HIN := Aside0.mk (show wrap64 ((i : Int) + 1) = ((i + 1 : Nat) : Int) by have := HVL.out;unfold wrap64;omega)
    have HIL := Aside0.mk hi
    obtain ⟨gk,rfl⟩ : ∃ m,gk = m + 1 := ⟨gk - 1,by have := HI.out;omega⟩
    obtain ⟨ad,x,rfl,hx,hc0,hc1⟩ := (hread_ HSS.out.hits).at hi
    have c0 := hc0
    have c1 := hc1
    have hxe : x = V[i]'hi := by rw [List.getElem?_eq_getElem hi] at hx;injection hx with hx;exact hx.symm
    have hxt := walk_there (s := s) (q := q) (L := [D]) (width := max width (max 0 (min k 256))) (lv := 0) (h := x) (by rw [HVE.out];exact List.mem_of_getElem? hx)
    obtain ⟨kx,jx,nd,hkx, -,hnd, -⟩ := there_iff.1 hxt.1
    obtain ⟨x0,x1⟩ := x
    have hkx : x1 = (kx : Int) := hkx
    subst hkx
    have HND := Aside0.mk hnd
    have HXI := Aside0.mk (show V[i]'(HIL.out) = (⟨x0,(kx : Int)⟩ : H) from hxe.symm)
    have HKX := Aside0.mk (show kx < 90000 by have := (List.getElem?_eq_some_iff.1 hnd).1;have := HV.out.len;have := HN.out;omega)
    have hwk : wrap64 (kx : Int) = (kx : Int) := by have := HKX.out;unfold wrap64;omega
    obtain ⟨bh,hbh⟩ : ∃ z,wr.heap.size = z := ⟨_,rfl⟩
    have HXH := Aside0.mk (heap_alloc_new wr (.cells #[.int .i64 x0,.int .u32 (kx : Int)] 58))
    have HSA := Aside0.mk (HSS.out.below (below_alloc (Below.refl _ _) (.cells #[.int .i64 x0,.int .u32 (kx : Int)] 58)))
    have HLB := Aside0.mk (show wf.heap.size ≤ bh by have := HSS.out.at0.size;omega)
    clear hi hx hc0 hc1 hxe hxt hnd
    go_upto_region 8 with (fail)
    rw [hbh] at HXH
    (try rw [hbh])
    clear c0 c1 hbh HSS
    obtain ⟨wb,hwb⟩ : ∃ z,wr.alloc (.cells #[.int .i64 x0,.int .u32 (kx : Int)] 58) = z := ⟨_,rfl⟩
    rw [hwb] at HXH HSA ⊢
    clear hwb
    have HXD := Aside0.mk (blk_below HXH.out (below_drew (Below.refl _ _)))
    have HSD := Aside0.mk (HSA.out.below (below_drew (Below.refl _ _)))
    have HWK := Aside0.mk hwk
    clear HXH HSA hwk
    have HB9 := Aside0.mk (Below.refl wb.drew.heap.size wb.drew)
    refine start_ (n := 14) (S := fun w' => w'.cell? ⟨b,3,none⟩ = some (.pointer (some ⟨g,0,none⟩)) ∧ w'.cell? ⟨bh,1,none⟩ = some (.int .u32 (kx : Int))) (ds := [12]) (mB_ 14 0) (by kernel_rfl) rfl rfl ⟨((blk_cell (HP.out.below (bel_trans HSD.out.at0 HB9.out)).box 3).trans rfl),((blk_cell (blk_below HXD.out HB9.out) 1).trans rfl)⟩ (fun hHeld => ?_)
    refine with_tabW hse.tab8 hse.bits8 (fun HT_ HW_ => ?_)
    generalize wb.drew = wd at HXD HSD HB9 hHeld ⊢
    iterate 4 (refine pn_ 0 [(0,49,1),(1,50,3),(2,51,7),(4,53,23)] (v := ?_) (a' := ?_) rfl rfl rfl HT_.out (by kernel_rfl) (Or.inl ⟨by rfl, ?_⟩) ?_ ?_;rotate_left;(· intro w';go_simp;with_reducible rfl);rotate_left;(· simp only [Act.put,sT_,sZ_,sS_,i64_w,i32_w];rfl))
    iterate 2 (refine tn_ 23 [(3,52,31),(5,54,63)] (v := ?_) (a' := ?_) rfl rfl rfl HT_.out HW_.out (by kernel_rfl) (Or.inl ⟨by rfl, ?_⟩) hHeld ?_ ?_;rotate_left;(· rintro w' ⟨s0,s1⟩;go_simp;with_reducible rfl);rotate_left;(· simp only [Act.put,sT_,sZ_,sS_,i64_w,i32_w];rfl))
    refine pn_ 63 [(6,55,127)] (v := ?_) (a' := ?_) rfl rfl rfl HT_.out (by kernel_rfl) (Or.inl ⟨by rfl, ?_⟩) ?_ ?_;rotate_left;(· intro w';go_simp;with_reducible rfl);rotate_left;(· simp only [Act.put,sT_,sZ_,sS_,i64_w,i32_w];rfl)
    refine join_ (σ := Option Addr × Nat × Option Addr × Nat × Nat × Nat × Nat) 2 (mB_ 14 4095) (fun z => [(56,.tuple #[.agg #[.int .u32 nd.id,.slice z.1 nd.vec.length z.2.1,.slice z.2.2.1 nd.tags.length z.2.2.2.1,.int .u64 nd.fr,.int .u64 nd.un,.slice (some ⟨z.2.2.2.2.1,0,none⟩) nd.links.length z.2.2.2.2.2.1],.bool true]),(48,.tuple #[.agg #[.int .u32 nd.id,.slice z.1 nd.vec.length z.2.1,.slice z.2.2.1 nd.tags.length z.2.2.2.1,.int .u64 nd.fr,.int .u64 nd.un,.slice (some ⟨z.2.2.2.2.1,0,none⟩) nd.links.length z.2.2.2.2.2.1],.bool true]),(57,.agg #[.int .u32 nd.id,.slice z.1 nd.vec.length z.2.1,.slice z.2.2.1 nd.tags.length z.2.2.2.1,.int .u64 nd.fr,.int .u64 nd.un,.slice (some ⟨z.2.2.2.2.1,0,none⟩) nd.links.length z.2.2.2.2.2.1]),(58,.bool true),(16,.pointer (some ⟨z.2.2.2.2.2.2,0,none⟩))]) (fun z w' => Below wd.heap.size wd w' ∧ (World.heap w')[z.2.2.2.2.2.2]? = some (.cells #[.int .u32 0,.slice none 0 0,.slice none 0 0,.int .u64 0,.int .u64 0,.slice none 0 0] 37 (0,0)) ∧ wd.heap.size ≤ z.2.2.2.2.2.2 ∧ NV w' nd z.1 z.2.1 z.2.2.1 z.2.2.2.1 z.2.2.2.2.1 z.2.2.2.2.2.1) ?_ ?_
    rotate_left
    ·intro hCont
     refine two_ (i := 7) (j := 11) (Ni := some 56) (Nj := some 16) (mB_ 14 255) (mB_ 14 2175) rfl rfl rfl rfl (two_of HT_.out (by kernel_rfl)) (by decide) (by decide) (fun K hK => ?_) (fun K hK => ?_)
     ·skip
      refine goes_ Try.func15 (by kernel_rfl) rfl #[.pointer (some ⟨g,0,none⟩),.int .i64 (wrap64 (kx : Int))] (by rfl) rfl rfl (by simp only [List.map_toArray,List.map_cons,List.map_nil];rfl) ?_
      with_reducible refine ((HP.out.below (bel_trans HSD.out.at0 HB9.out)).gr.nodeV HV.out HN.out HND.out HWK.out).mono ?_
      rintro e w7 ⟨⟨B1,d1,B2,d2,r_,cp,rfl,hnv⟩,hb⟩
      refine ⟨_,rfl, ?_⟩
      have NHB9 := Aside0.mk (bel_trans HB9.out hb)
      have HNV := Aside0.mk hnv
      clear hb hnv
      clear HB9
      have HB9 := NHB9
      clear NHB9
      refine hK.out _ _ ⟨((blk_cell (HP.out.below (bel_trans HSD.out.at0 HB9.out)).box 3).trans rfl),((blk_cell (blk_below HXD.out HB9.out) 1).trans rfl)⟩ (fun hHeld => ?_)
      clear hK K
      refine norm_ (a' := ?_) ?_ ?_
      rotate_left
      ·show Act.put _ (some 56) _ = _
       simp only [Act.put,sT_,sZ_,sS_,i64_w,i32_w]
       rfl
      iterate 3 (refine pn_ 255 [(8,48,511),(9,57,1023),(10,58,2047)] (v := ?_) (a' := ?_) rfl rfl rfl HT_.out (by kernel_rfl) (Or.inl ⟨by rfl, ?_⟩) ?_ ?_;rotate_left;(· intro w';go_simp;with_reducible rfl);rotate_left;(· simp only [Act.put,sT_,sZ_,sS_,i64_w,i32_w];rfl))
      refine one_ (i := 11) (N := some 16) (mB_ 14 4095) rfl rfl (one_of HT_.out (by kernel_rfl)) (by decide) (fun K hK => ?_)
      refine value_ (w1 := ?_) (v := ?_) (by rfl) rfl ?_ ?_
      rotate_left 2
      ·go_simp
       constructor
       ·rfl
       ·rfl
      have HBX := Aside0.mk (by have h := heap_alloc_new w7 (.cells #[.int .u32 0,.slice none 0 0,.slice none 0 0,.int .u64 0,.int .u64 0,.slice none 0 0] 37);(try simp only [World.size_alloc] at h);exact h)
      have HYN := Aside0.mk (by have h := HB9.out.size;(try simp only [World.size_alloc] at h);exact h)
      have NHB9 := Aside0.mk (bel_alloc HB9.out (.cells #[.int .u32 0,.slice none 0 0,.slice none 0 0,.int .u64 0,.int .u64 0,.slice none 0 0] 37))
      have NHNV := Aside0.mk (HNV.out.below (below_alloc (Below.refl _ _) (.cells #[.int .u32 0,.slice none 0 0,.slice none 0 0,.int .u64 0,.int .u64 0,.slice none 0 0] 37)))
      clear HB9 HNV
      have HB9 := NHB9
      have HNV := NHNV
      clear NHB9 NHNV
      refine hK.out _ _ ⟨((blk_cell (HP.out.below (bel_trans HSD.out.at0 HB9.out)).box 3).trans rfl),((blk_cell (blk_below HXD.out HB9.out) 1).trans rfl)⟩ (fun hHeld => ?_)
      clear hK K
      refine norm_ (a' := ?_) ?_ ?_
      rotate_left
      ·show Act.put _ (some 16) _ = _
       simp only [Act.put,sT_,sZ_,sS_,i64_w,i32_w]
       rfl
      exact norm_ (by simp only [Go.Proofs.YtofmlajanopniaaW.PrintLast.putAll,Act.put,sT_,sZ_,sS_]) (hCont (B1,d1,B2,d2,r_,cp,(World.heap w7).size) _ ⟨HB9.out,HBX.out,HYN.out,HNV.out⟩)
     ·skip
      refine value_ (w1 := ?_) (v := ?_) (by rfl) rfl ?_ ?_
      rotate_left 2
      ·go_simp
       constructor
       ·rfl
       ·rfl
      have HBX := Aside0.mk (by have h := heap_alloc_new wd (.cells #[.int .u32 0,.slice none 0 0,.slice none 0 0,.int .u64 0,.int .u64 0,.slice none 0 0] 37);(try simp only [World.size_alloc] at h);exact h)
      have HYN := Aside0.mk (by have h := HB9.out.size;(try simp only [World.size_alloc] at h);exact h)
      have NHB9 := Aside0.mk (bel_alloc HB9.out (.cells #[.int .u32 0,.slice none 0 0,.slice none 0 0,.int .u64 0,.int .u64 0,.slice none 0 0] 37))
      clear HB9
      have HB9 := NHB9
      clear NHB9
      refine hK.out _ _ ⟨((blk_cell (HP.out.below (bel_trans HSD.out.at0 HB9.out)).box 3).trans rfl),((blk_cell (blk_below HXD.out HB9.out) 1).trans rfl)⟩ (fun hHeld => ?_)
      clear hK K
      refine norm_ (a' := ?_) ?_ ?_
      rotate_left
      ·show Act.put _ (some 16) _ = _
       simp only [Act.put,sT_,sZ_,sS_,i64_w,i32_w]
       rfl
      refine one_ (i := 7) (N := some 56) (mB_ 14 2303) rfl rfl (one_of HT_.out (by kernel_rfl)) (by decide) (fun K hK => ?_)
      refine goes_ Try.func15 (by kernel_rfl) rfl #[.pointer (some ⟨g,0,none⟩),.int .i64 (wrap64 (kx : Int))] (by rfl) rfl rfl (by simp only [List.map_toArray,List.map_cons,List.map_nil];rfl) ?_
      with_reducible refine ((HP.out.below (bel_trans HSD.out.at0 HB9.out)).gr.nodeV HV.out HN.out HND.out HWK.out).mono ?_
      rintro e w7 ⟨⟨B1,d1,B2,d2,r_,cp,rfl,hnv⟩,hb⟩
      refine ⟨_,rfl, ?_⟩
      have NHB9 := Aside0.mk (bel_trans HB9.out hb)
      have HNV := Aside0.mk hnv
      have NHBX := Aside0.mk (blk_below HBX.out hb)
      clear hb hnv
      clear HB9 HBX
      have HB9 := NHB9
      have HBX := NHBX
      clear NHB9 NHBX
      refine hK.out _ _ ⟨((blk_cell (HP.out.below (bel_trans HSD.out.at0 HB9.out)).box 3).trans rfl),((blk_cell (blk_below HXD.out HB9.out) 1).trans rfl)⟩ (fun hHeld => ?_)
      clear hK K
      refine norm_ (a' := ?_) ?_ ?_
      rotate_left
      ·show Act.put _ (some 56) _ = _
       simp only [Act.put,sT_,sZ_,sS_,i64_w,i32_w]
       rfl
      iterate 3 (refine pn_ 2303 [(8,48,2559),(9,57,3071),(10,58,4095)] (v := ?_) (a' := ?_) rfl rfl rfl HT_.out (by kernel_rfl) (Or.inl ⟨by rfl, ?_⟩) ?_ ?_;rotate_left;(· intro w';go_simp;with_reducible rfl);rotate_left;(· simp only [Act.put,sT_,sZ_,sS_,i64_w,i32_w];rfl))
      exact norm_ (by simp only [Go.Proofs.YtofmlajanopniaaW.PrintLast.putAll,Act.put,sT_,sZ_,sS_]) (hCont (B1,d1,B2,d2,r_,cp,(World.heap wd).size) _ ⟨HB9.out,HBX.out,HYN.out,HNV.out⟩)
    rintro ⟨B1,d1,B2,d2,r_,cp,bn⟩ w8 ⟨h1,h2,h3,h4⟩
    clear HB9
    have HB9 := Aside0.mk (show Below wd.heap.size wd w8 from h1)
    have HX8 := Aside0.mk (show (World.heap w8)[bn]? = some (.cells #[.int .u32 0,.slice none 0 0,.slice none 0 0,.int .u64 0,.int .u64 0,.slice none 0 0] 37 (0,0)) from h2)
    have HYN := Aside0.mk (show wd.heap.size ≤ bn from h3)
    have HNV := Aside0.mk (show NV w8 nd B1 d1 B2 d2 r_ cp from h4)
    clear h1 h2 h3 h4
    have hHeld := And.intro ((blk_cell (HP.out.below (bel_trans HSD.out.at0 HB9.out)).box 3).trans rfl) ((blk_cell (blk_below HXD.out HB9.out) 1).trans rfl)
    refine norm_ (a' := ?_) ?_ ?_
    rotate_left
    ·simp only [Go.Proofs.YtofmlajanopniaaW.PrintLast.putAll,Act.put,sT_,sZ_,sS_]
     rfl
    refine last_ (i := 12) (N := none) (mB_ 14 8191) rfl rfl (one_of HT_.out (by kernel_rfl)) (by decide) (fun K hK => ?_)
    have z0 := (blk_cell HX8.out 0).trans rfl
    have z1 := (blk_cell HX8.out 1).trans rfl
    have z2 := (blk_cell HX8.out 2).trans rfl
    have z3 := (blk_cell HX8.out 3).trans rfl
    have z4 := (blk_cell HX8.out 4).trans rfl
    have z5 := (blk_cell HX8.out 5).trans rfl
    have fz : ∀ j,w8.frozen? ⟨bn,j,none⟩ = false := fun j => blk_frozen HX8.out j
    refine skip_ (w1 := ?_) (by rfl) rfl ?_ ?_
    rotate_left
    ·go_simp
     rfl
    clear z0 z1 z2 z3 z4 z5 fz
    refine hK.out _ _ ?_
    clear hK K
    refine pn_ 8191 [(13,17,16383)] (v := ?_) (a' := ?_) rfl rfl rfl HT_.out (by kernel_rfl) (Or.inl ⟨by rfl, ?_⟩) ?_ ?_;rotate_left;(· intro w';go_simp;with_reducible rfl);rotate_left;(· simp only [Act.put,sT_,sZ_,sS_,i64_w,i32_w];rfl)
    refine done_ (done_of HT_.out (by kernel_rfl)) ?_
    clear hHeld
    obtain ⟨w9,hw9⟩ : ∃ z,(((((w8.setCell ⟨bn,0,none⟩ (.int .u32 nd.id)).setCell ⟨bn,1,none⟩ (.slice B1 nd.vec.length d1)).setCell ⟨bn,2,none⟩ (.slice B2 nd.tags.length d2)).setCell ⟨bn,3,none⟩ (.int .u64 nd.fr)).setCell ⟨bn,4,none⟩ (.int .u64 nd.un)).setCell ⟨bn,5,none⟩ (.slice (some ⟨r_,0,none⟩) nd.links.length cp) = z := ⟨_,rfl⟩
    have HX9 := Aside0.mk (boxed_node HX8.out hw9)
    have HBY := Aside0.mk (boxed_below HB9.out HYN.out hw9)
    have HNY := Aside0.mk (HNV.out.box HX8.out (boxed_only hw9))
    rw [hw9]
    clear hw9 HB9 HX8 HNV
    have HS9 := Aside0.mk (HSD.out.below HBY.out)
    clear HSD HXD HYN HBY
    go_wp2
    have HSE := Aside0.mk (HS9.out.below (below_drew (Below.refl _ _)))
    have HXE := Aside0.mk (blk_below HX9.out (below_drew (Below.refl _ _)))
    have HNE := Aside0.mk (HNY.out.below (below_drew (Below.refl _ _)))
    clear HS9 HX9 HNY
    obtain ⟨DD,DB,hd⟩ : ∃ x y,Fl.dist s.m q nd.vec = (x,y) := ⟨_,_,rfl⟩
    have HDE := Aside0.mk hd
    have HLK := Aside0.mk (show nd.links.length ≤ 1000 by have := (HV.out.lk kx nd HND.out).1;omega)
    clear hd
    refine start_ (n := 14) (S := fun w' => w'.cell? ⟨b,0,none⟩ = some (.int .u8 s.m) ∧ w'.cell? ⟨bn,1,none⟩ = some (.slice B1 nd.vec.length d1)) (ds := []) (mB_ 14 0) (by kernel_rfl) rfl rfl ⟨((blk_cell (HP.out.below HSE.out.at0).box 0).trans rfl),((blk_cell HXE.out 1).trans rfl)⟩ (fun hHeld => ?_)
    refine with_tabW hse.tab9 hse.bits9 (fun HT_ HW_ => ?_)
    generalize w9.drew = we at HSE HXE HNE hHeld ⊢
    iterate 6 (refine pn_ 0 [(0,60,1),(1,61,3),(2,62,7),(4,64,23),(5,65,55),(6,66,119)] (v := ?_) (a' := ?_) rfl rfl rfl HT_.out (by kernel_rfl) (Or.inl ⟨by rfl, ?_⟩) ?_ ?_;rotate_left;(· intro w';go_simp;with_reducible rfl);rotate_left;(· simp only [Act.put,sT_,sZ_,sS_,i64_w,i32_w];rfl))
    iterate 2 (refine tn_ 119 [(3,63,127),(7,67,255)] (v := ?_) (a' := ?_) rfl rfl rfl HT_.out HW_.out (by kernel_rfl) (Or.inl ⟨by rfl, ?_⟩) hHeld ?_ ?_;rotate_left;(· rintro w' ⟨s0,s1⟩;go_simp;with_reducible rfl);rotate_left;(· simp only [Act.put,sT_,sZ_,sS_,i64_w,i32_w];rfl))
    refine one_ (i := 8) (N := some 68) (mB_ 14 511) rfl rfl (one_of HT_.out (by kernel_rfl)) (by decide) (fun K hK => ?_)
    refine goes_ Try.func76 (by kernel_rfl) rfl #[.int .u8 s.m,.slice A q.length c,.slice B1 nd.vec.length d1] (by rfl) rfl rfl (by simp only [List.map_toArray,List.map_cons,List.map_nil];rfl) ?_
    with_reducible refine (Fl.fixvec_Dist.calls (q.length + nd.vec.length + 17) s.m A c q B1 d1 nd.vec DD DB _ (Kd.C_below HQ.out.1 HSE.out.at0) HQ.out.2 (HNE.out.told HLK.out).2.1 (HNE.out.told HLK.out).1 (by rw [Fl.dist_f s.m HV.out.m q nd.vec _ (Nat.le_refl _),HDE.out])).mono ?_
    rintro e w6 ⟨rfl,hb⟩
    refine ⟨_,rfl, ?_⟩
    have HS6 := Aside0.mk (HSE.out.below hb)
    have HX6 := Aside0.mk (blk_below HXE.out hb)
    have HN6 := Aside0.mk (HNE.out.below hb)
    clear hb
    refine hK.out _ _ ⟨((blk_cell (HP.out.below HS6.out.at0).box 0).trans rfl),((blk_cell HX6.out 1).trans rfl)⟩ (fun hHeld => ?_)
    clear hK K
    refine norm_ (a' := ?_) ?_ ?_
    rotate_left
    ·show Act.put _ (some 68) _ = _
     simp only [Act.put,sT_,sZ_,sS_,i64_w,i32_w]
     rfl
    iterate 5 (refine pn_ 511 [(9,59,1023),(10,69,2047),(11,70,4095),(12,18,8191),(13,19,16383)] (v := ?_) (a' := ?_) rfl rfl rfl HT_.out (by kernel_rfl) (Or.inl ⟨by rfl, ?_⟩) ?_ ?_;rotate_left;(· intro w';go_simp;with_reducible rfl);rotate_left;(· simp only [Act.put,sT_,sZ_,sS_,i64_w,i32_w];rfl))
    refine done_ (done_of HT_.out (by kernel_rfl)) ?_
    clear hHeld HSE HXE HNE
    have HBF6 := Aside0.mk (blk_below HFX.out HS6.out.at0)
    have z0 := (blk_cell HX6.out 0).trans rfl
    have z1 := (blk_cell HX6.out 1).trans rfl
    have z2 := (blk_cell HX6.out 2).trans rfl
    have z3 := (blk_cell HX6.out 3).trans rfl
    have z4 := (blk_cell HX6.out 4).trans rfl
    have z5 := (blk_cell HX6.out 5).trans rfl
    have u0_ := (blk_cell HBF6.out 0).trans rfl
    have u1_ := (blk_cell HBF6.out 1).trans rfl
    have u2_ := (blk_cell HBF6.out 2).trans rfl
    obtain ⟨tv,htv⟩ : ∃ z,thereV nd.fr nd.un v = z := ⟨_,rfl⟩
    obtain ⟨mv,hmv⟩ : ∃ z,Fl.matchB f.f0 f.f1 f.f2 nd.tags = z := ⟨_,rfl⟩
    have HTV := Aside0.mk htv
    have HMV := Aside0.mk hmv
    have HONE := Aside0.mk (show foundS s q f v (V.take (i + 1)) = foundS s q f v (V.take i) ++ (if (DB && tv && mv) = true then [⟨DD,nd.id⟩] else []) by rw [foundS_snoc HIL.out,HXI.out,oneS_at HND.out,HDE.out,show thereN nd v = tv from htv,hmv])
    clear htv hmv
    cases DB with
    | false =>
     go_wp2
     go_roundg gk
     case measure => omega
     case rel => exact ⟨i + 1,S,congrArg (Value.int .i64) HIN.out,⟨by have := HI.out;have := HIL.out;omega⟩,⟨by rw [HONE.out,if_neg (by simp),List.append_nil];exact HS6.out⟩⟩
    | true =>
     cases tv with
     | false =>
      go_wp2_with (go_at_call 82;go_must (with_reducible refine (there_calls nd.id nd.fr nd.un v B1 nd.vec.length d1 B2 nd.tags.length d2 (some ⟨r_,0,none⟩) nd.links.length cp _).mono ?_);rintro e w7 ⟨rfl,hb⟩;rw [HTV.out];have HS7 := Aside0.mk (HS6.out.below hb);have HX7 := Aside0.mk (blk_below HX6.out hb);have HN7 := Aside0.mk (HN6.out.below hb);have HB7 := Aside0.mk (blk_below HBF6.out hb);have s2_ := (blk_cell HX7.out 2).trans rfl;have v0_ := (blk_cell HB7.out 0).trans rfl;have v1_ := (blk_cell HB7.out 1).trans rfl;have v2_ := (blk_cell HB7.out 2).trans rfl;clear hb)
      go_roundg gk
      case measure => omega
      case rel => exact ⟨i + 1,S,congrArg (Value.int .i64) HIN.out,⟨by have := HI.out;have := HIL.out;omega⟩,⟨by rw [HONE.out,if_neg (by simp),List.append_nil];exact HS7.out⟩⟩
     | true =>
      cases mv with
      | false =>
       go_wp2_with (first | (go_at_call 82;go_must (with_reducible refine (there_calls nd.id nd.fr nd.un v B1 nd.vec.length d1 B2 nd.tags.length d2 (some ⟨r_,0,none⟩) nd.links.length cp _).mono ?_);rintro e w7 ⟨rfl,hb⟩;rw [HTV.out];have HS7 := Aside0.mk (HS6.out.below hb);have HX7 := Aside0.mk (blk_below HX6.out hb);have HN7 := Aside0.mk (HN6.out.below hb);have HB7 := Aside0.mk (blk_below HBF6.out hb);have s2_ := (blk_cell HX7.out 2).trans rfl;have v0_ := (blk_cell HB7.out 0).trans rfl;have v1_ := (blk_cell HB7.out 1).trans rfl;have v2_ := (blk_cell HB7.out 2).trans rfl;clear hb) | (have := HS7;go_at_call 83;go_must (with_reducible refine (Fl.match_calls F0 d0 f.f0 F1 d1_ f.f1 F2 d2_ f.f2 B2 d2 nd.tags _ (Kd.C_below HF.out.1 HS7.out.at0) (Kd.C_below HF.out.2.1 HS7.out.at0) (Kd.C_below HF.out.2.2 HS7.out.at0) (HN7.out.told HLK.out).2.2.2 (HN7.out.told HLK.out).2.2.1 HFL.out.1 HFL.out.2.1 HFL.out.2.2 (HV.out.sm kx nd HND.out).2).mono ?_);rintro e w8 ⟨rfl,hb⟩;rw [HMV.out];have HS8 := Aside0.mk (HS7.out.below hb);have HX8 := Aside0.mk (blk_below HX7.out hb);have t0_ := (blk_cell HX8.out 0).trans rfl;clear hb))
       go_roundg gk
       case measure => omega
       case rel => exact ⟨i + 1,S,congrArg (Value.int .i64) HIN.out,⟨by have := HI.out;have := HIL.out;omega⟩,⟨by rw [HONE.out,if_neg (by simp),List.append_nil];exact HS8.out⟩⟩
      | true =>
       go_wp2_with (first | (go_at_call 82;go_must (with_reducible refine (there_calls nd.id nd.fr nd.un v B1 nd.vec.length d1 B2 nd.tags.length d2 (some ⟨r_,0,none⟩) nd.links.length cp _).mono ?_);rintro e w7 ⟨rfl,hb⟩;rw [HTV.out];have HS7 := Aside0.mk (HS6.out.below hb);have HX7 := Aside0.mk (blk_below HX6.out hb);have HN7 := Aside0.mk (HN6.out.below hb);have HB7 := Aside0.mk (blk_below HBF6.out hb);have s2_ := (blk_cell HX7.out 2).trans rfl;have v0_ := (blk_cell HB7.out 0).trans rfl;have v1_ := (blk_cell HB7.out 1).trans rfl;have v2_ := (blk_cell HB7.out 2).trans rfl;clear hb) | (have := HS7;go_at_call 83;go_must (with_reducible refine (Fl.match_calls F0 d0 f.f0 F1 d1_ f.f1 F2 d2_ f.f2 B2 d2 nd.tags _ (Kd.C_below HF.out.1 HS7.out.at0) (Kd.C_below HF.out.2.1 HS7.out.at0) (Kd.C_below HF.out.2.2 HS7.out.at0) (HN7.out.told HLK.out).2.2.2 (HN7.out.told HLK.out).2.2.1 HFL.out.1 HFL.out.2.1 HFL.out.2.2 (HV.out.sm kx nd HND.out).2).mono ?_);rintro e w8 ⟨rfl,hb⟩;rw [HMV.out];have HS8 := Aside0.mk (HS7.out.below hb);have HX8 := Aside0.mk (blk_below HX7.out hb);have t0_ := (blk_cell HX8.out 0).trans rfl;clear hb) | (have := HS8;go_at_call 47;go_must (with_reducible refine (kput_calls S gb KK (putAll KK (foundS s q f v (V.take i))) DD nd.id _ HS8.out.best).mono ?_);rintro e w10 ⟨rfl,hO,hK⟩;have HS10 := Aside0.mk (HS8.out.put hO hK);clear hO hK))
       go_roundg gk
       case measure => omega
       case rel => exact ⟨i + 1,_,congrArg (Value.int .i64) HIN.out,⟨by have := HI.out;have := HIL.out;omega⟩,⟨by rw [HONE.out,if_pos (show (true && true && true) = true from rfl),putAll_snoc];exact HS10.out⟩⟩
   ·have q1 : decide ((i : Int) < (V.length : Int)) = false := decide_eq_false (by omega)
    have q1' : (i < V.length) = False := eq_false hi
    have q1'' : decide (i < V.length) = false := decide_eq_false hi
    have HE := Aside0.mk (show V.take i = V from List.take_of_length_le (by omega))
    clear hi
    rw [HE.out] at HSS
    go_wp2_with (go_at_call 52;(with_reducible refine (klist_calls S gb KK _ _ HSS.out.best).mono ?_);rintro e w2 ⟨⟨v2,rfl,hv⟩,hb⟩;have HV2 := Aside0.mk hv;have HB2 := Aside0.mk (bel_trans HSS.out.at0 hb);clear hv hb)
    go_ret
    exact ⟨⟨_,rfl,OwnH.weaken HV2.out (by have := HSS.out.at0.size;have := HSZ.out;omega)⟩,bel_trans HBF.out HB2.out⟩
end
end Go.Proofs.Ytofmlajanopniaa.Li
namespace Go.Proofs.Ytofmlajanopniaa.Li
open Go.RowKit Go.Maps Go.Proofs.YtofmlajanopniaaW.PrintWords Go.Proofs.YtofmlajanopniaaW.PrintLast Go.Proofs.YtofmlajanopniaaW.PrintMore Go.Proofs.Ytofmlajanopniaa.Q Go.Proofs.Ytofmlajanopniaa.Tk
attribute [local go_sem] max2_M min2_M max_two min_two
def hpu.T2 : Bool × List (List Nat × List Nat) := (true,[([],[]),([0],[0]),([1],[1]),([2],[2]),([],[]),([4],[4]),([3,5],[3,5]),([6],[6]),([7],[7]),([7],[7]),([8,0,1,2,3,4,5,6,7,8],[8]),([9,10,0,1,2,3,4,5,6,7,8,9,10],[9])])
def hpu.B2 : List Nat := [0,1,3,7,0,16,63,127,255,255,511,2047]
theorem hpu.tab2 : rtab .any (opsOf Try.f28 2) = hpu.T2 := by kernel_rfl
theorem hpu.bits2 : waitsOk hpu.T2.2 hpu.B2 = true := by kernel_rfl
def hpu.T11 : Bool × List (List Nat × List Nat) := (true,[([],[]),([0],[0]),([1],[1]),([2],[2]),([],[]),([4],[4]),([],[]),([],[]),([7],[7]),([8],[8]),([9],[9]),([],[]),([3,5,6,10,11],[3,5,6,10,11]),([12,12],[12]),([13,13,0,1,2,3,4,5,6,7,8,9,10,11,12,13],[6,13])])
def hpu.B11 : List Nat := [0,1,3,7,0,16,0,0,128,384,896,0,4095,8191,16383]
theorem hpu.tab11 : rtab .any (opsOf Try.f28 11) = hpu.T11 := by kernel_rfl
theorem hpu.bits11 : waitsOk hpu.T11.2 hpu.B11 = true := by kernel_rfl
def hpu.T12 : Bool × List (List Nat × List Nat) := (true,[([],[]),([],[]),([1],[1]),([2],[2]),([3],[3]),([],[]),([5],[5]),([],[]),([],[]),([8],[8]),([9],[9]),([10],[10]),([4,6,7,11],[4,6,7,11]),([12],[12]),([0,13,12],[0,13]),([14,14,0,1,2,3,4,5,6,7,8,9,10,11,12,13,14],[0,14])])
def hpu.B12 : List Nat := [0,0,2,6,14,0,32,0,0,256,768,1792,4094,8190,16383,32767]
theorem hpu.tab12 : rtab .any (opsOf Try.f28 12) = hpu.T12 := by kernel_rfl
theorem hpu.bits12 : waitsOk hpu.T12.2 hpu.B12 = true := by kernel_rfl
def hpu.T13 : Bool × List (List Nat × List Nat) := (true,[([],[]),([0],[0]),([1],[1]),([2],[2]),([],[]),([],[]),([],[]),([3,4,5,6],[3,4,5,6]),([7,7,0,1,2,3,4,5,6,7],[7])])
def hpu.B13 : List Nat := [0,1,3,7,0,0,0,127,255]
theorem hpu.tab13 : rtab .any (opsOf Try.f28 13) = hpu.T13 := by kernel_rfl
theorem hpu.bits13 : waitsOk hpu.T13.2 hpu.B13 = true := by kernel_rfl
def hpu.T14 : Bool × List (List Nat × List Nat) := (true,[([],[]),([0],[0]),([1],[1]),([2],[2]),([],[]),([4],[4]),([],[]),([3,5,6,0,1,2,3,4,5,6],[3,5,6])])
def hpu.B14 : List Nat := [0,1,3,7,0,16,0,127]
theorem hpu.tab14 : rtab .any (opsOf Try.f28 14) = hpu.T14 := by kernel_rfl
theorem hpu.bits14 : waitsOk hpu.T14.2 hpu.B14 = true := by kernel_rfl
def hpu.T22 : Bool × List (List Nat × List Nat) := (true,[([],[]),([0],[0]),([1],[1]),([2],[2]),([],[]),([],[]),([],[]),([],[]),([],[]),([7,8],[7,8]),([3,4,5,6,9,9],[3,4,5,6,9])])
def hpu.B22 : List Nat := [0,1,3,7,0,0,0,0,0,384,1023]
theorem hpu.tab22 : rtab .any (opsOf Try.f28 22) = hpu.T22 := by kernel_rfl
theorem hpu.bits22 : waitsOk hpu.T22.2 hpu.B22 = true := by kernel_rfl
def hpu.T23 : Bool × List (List Nat × List Nat) := (true,[([],[]),([0],[0]),([1],[1]),([2],[2]),([],[]),([],[]),([],[]),([],[]),([],[]),([7,8],[7,8]),([3,4,5,6,9,9],[3,4,5,6,9])])
def hpu.B23 : List Nat := [0,1,3,7,0,0,0,0,0,384,1023]
theorem hpu.tab23 : rtab .any (opsOf Try.f28 23) = hpu.T23 := by kernel_rfl
theorem hpu.bits23 : waitsOk hpu.T23.2 hpu.B23 = true := by kernel_rfl
theorem choose_len8 {s : Gr} {q L : List Int} {lk : Int} (hl : lk ≤ 8) : (chooseG s q L lk).length ≤ 8 := by have := choose_len (s := s) (q := q) (L := L) (most := lk);omega
theorem chosenG_len (s : Gr) (q : List Int) (lk wd : Int) : ∀ (n : Nat) (L : List Int),(chosenG s q lk wd n L).length = n := by
 intro n
 induction n with
 | zero => exact fun _ => rfl
 | succ n ih => exact fun L => congrArg (· + 1) (ih _)
theorem chosenG_mem {s : Gr} {q : List Int} {lk wd : Int} (hl : lk ≤ 8) : ∀ (n : Nat) (L : List Int), ∀ l ∈ chosenG s q lk wd n L,l.length ≤ 8 := by
 intro n
 induction n with
 | zero => intro L l h;cases h
 | succ n ih =>
  intro L l h
  rcases List.mem_cons.1 h with rfl | h
  ·exact choose_len8 hl
  ·exact ih _ l h
theorem until_parts (s : Gr) (id v : Int) : ((nowM s id).isSome = false ∧ untilNow s id v = s) ∨ ∃ (k : Nat) (nd : Nd),(nowM s id).isSome = true ∧ (nowM s id).getD 0 = k ∧ s.l[k]? = some nd ∧ untilNow s id v = s.until_ k v := by
 cases hf : nowM s id with
 | none => exact .inl ⟨rfl,by unfold untilNow;rw [nowM_none hf,if_neg (by omega)]⟩
 | some c =>
  obtain ⟨k,nd,rfl,hk,hnd⟩ := nowM_some hf
  exact .inr ⟨k,nd,rfl,rfl,hnd,by unfold untilNow;rw [hk,if_pos (by omega),Int.toNat_natCast]⟩
section
variable {X : Nat → Prop} {w0 w : World} {b : Nat} {n : Nat}
set_option maxHeartbeats 64000000 in
set_option maxRecDepth 100000 in
theorem PX.put_ {x : Ix} (h : PX X w0 w b x n) (ho : IxOk x n) (hn : n + 1 ≤ 90000) (id : Int) (vec : List Int) (tags : List ByteArray) (A1 : Option Addr) (c1 : Nat) (A2 : Option Addr) (c2 : Nat) (hf1 : vec.length ≤ c1) (hf2 : tags.length ≤ c2) (hl1 : vec.length ≤ 100000) (hl2 : tags.length ≤ 100000) (hfr : ∀ W,KeepX X w W → Below w0.heap.size w0 W → Kd.C (Kd.int .i32) W A1 vec.length vec ∧ Kd.C Kd.string W A2 tags.length tags) (hid : (Lit.int .u32 id).wf = true) (lv v : Int) (hv : v ≠ 0) :
  Calls Try.prog 28 #[.pointer (some ⟨b,0,none⟩),.agg #[.int .u32 id,.slice A1 vec.length c1,.slice A2 tags.length c2],.int .i64 lv,.int .u64 v] w fun e w' => e = .returned (.tuple #[]) ∧ PX X w0 w' b (x.put id vec tags lv v) (n + 1) ∧ KeepX X w w' := by
 have hu := Try.underlying107
 have hu4 := Try.underlying26
 obtain ⟨s,lk,wd_,en⟩ := x
 obtain ⟨g,mb,hP⟩ := h
 have hbi := below_alloc (Below.refl w.heap.size w) (.cells #[.int .u32 id,.slice A1 vec.length c1,.slice A2 tags.length c2] 26)
 have hix := heap_alloc_new w (.cells #[.int .u32 id,.slice A1 vec.length c1,.slice A2 tags.length c2] 26)
 have hs0 := (hP.later hbi).start
 have hkw := hP.keepB hbi
 obtain ⟨X1,hX1⟩ : ∃ Z : Nat → Prop,(fun k => X k ∨ (w.heap.size ≤ k ∧ k < (w.alloc (.cells #[.int .u32 id,.slice A1 vec.length c1,.slice A2 tags.length c2] 26)).heap.size)) = Z := ⟨_,rfl⟩
 have HX1 := Aside0.mk (show ∀ k,X k → X1 k by rw [← hX1];exact fun k hk => .inl hk)
 have HXB := Aside0.mk (show X1 w.heap.size by rw [← hX1];exact .inr ⟨Nat.le_refl _,by rw [World.size_alloc];omega⟩)
 rw [hX1] at hs0
 have HS0 := Aside0.mk hs0
 have HIX := Aside0.mk hix
 have HFR : Aside0 (∀ W,KeepX X1 (w.alloc (.cells #[.int .u32 id,.slice A1 vec.length c1,.slice A2 tags.length c2] 26)) W → Below w0.heap.size w0 W → Kd.C (Kd.int .i32) W A1 vec.length vec ∧ Kd.C Kd.string W A2 tags.length tags) := ⟨fun W h1 h2 => hfr W (hkw.trans (h1.less HX1.out)) h2⟩
 have HKW := Aside0.mk hkw
 have HFIT := Aside0.mk (And.intro hf1 hf2)
 have HLL := Aside0.mk (And.intro hl1 hl2)
 have HID := Aside0.mk hid
 have HU := Aside0.mk ho.uniq
 have HLK := Aside0.mk (show 1 ≤ lk ∧ lk ≤ 8 from ho.lk)
 have HNN := Aside0.mk hn
 have HV0 := Aside0.mk (show Inv s n from ho.inv)
 have HPN := Aside0.mk (putG_now (x := ⟨s,lk,wd_,en⟩) (id := id) (vec := vec) (tags := tags) (k := (clampL lv : Nat)) (v := v) ho.uniq hv)
 obtain ⟨k,hk⟩ : ∃ z : Nat,clampL lv = z := ⟨_,rfl⟩
 have HKL := Aside0.mk (show max 0 (min lv 4) = (k : Int) ∧ k ≤ 4 by rw [← hk];unfold clampL;omega)
 obtain ⟨g1,hg1⟩ : ∃ z,untilNow s id v = z := ⟨_,rfl⟩
 have HUP := Aside0.mk (until_parts s id v)
 obtain ⟨c0_,hc0⟩ : ∃ z,(nowM s id).getD 0 = z := ⟨_,rfl⟩
 obtain ⟨r0_,hr0⟩ : ∃ z,(nowM s id).isSome = z := ⟨_,rfl⟩
 have HLK0 : Aside0 (∀ W,PS X1 w0 (w.alloc (.cells #[.int .u32 id,.slice A1 vec.length c1,.slice A2 tags.length c2] 26)) W b g mb lk wd_ en s n (nowM s) → (Instr.lookup 105 (.map (some mb)) (.int .u32 id) true).run Try.prog W = .ok (.tuple #[.int .i64 c0_,.bool r0_]) W) := ⟨fun W hW => by have := hW.pi.map.look hid;rw [hc0,hr0] at this;exact this⟩
 rw [hc0,hr0,hg1] at HUP
 have HG1 := Aside0.mk (show g1.l.length = s.l.length ∧ g1.m = s.m ∧ Inv g1 n by rw [← hg1];exact ⟨untilNow_l _ _ _,untilNow_m _ _ _,untilNow_inv ho.inv _ _⟩)
 obtain ⟨CH,hCH⟩ : ∃ z,chosenP ⟨s,lk,wd_,en⟩ id vec (k : Int) v = z := ⟨_,rfl⟩
 have HCH := Aside0.mk (show (if 0 ≤ en then chosenG g1 vec lk wd_ (min (k : Int) (topG g1 en) + 1).toNat [downG g1 vec en k] else []) = CH by rw [← hCH,← hg1];rfl)
 have HPG := Aside0.mk (show layTo lk (s.l.length : Int) CH (g1.add id vec tags k v) CH.length = putG ⟨s,lk,wd_,en⟩ id vec tags k v by rw [layTo_flat,← hCH,← hg1];rfl)
 have HPUT := Aside0.mk (show (⟨s,lk,wd_,en⟩ : Ix).put id vec tags lv v = ⟨putG ⟨s,lk,wd_,en⟩ id vec tags k v,lk,wd_,if en < 0 ∨ topG (putG ⟨s,lk,wd_,en⟩ id vec tags k v) en < (k : Int) then (s.l.length : Int) else en⟩ by rw [← hk];rfl)
 rw [HPUT.out]
 rw [hk] at HPN
 obtain ⟨g3,hg3⟩ : ∃ z,putG ⟨s,lk,wd_,en⟩ id vec tags (k : Int) v = z := ⟨_,rfl⟩
 rw [hg3] at HPN HPG ⊢
 obtain ⟨EN,hEN⟩ : ∃ z,(if en < 0 ∨ topG g3 en < (k : Int) then (s.l.length : Int) else en) = z := ⟨_,rfl⟩
 have HEN := Aside0.mk hEN
 rw [hEN]
 have HINV3 := Aside0.mk (show Inv g3 (n + 1) by rw [← HPG.out];exact layTo_inv (HG1.out.2.2.add id k v hl1 hl2) CH _)
 have HCL := Aside0.mk (show CH.length ≤ 5 ∧ ∀ l ∈ CH,l.length ≤ 8 by
  have ht := topG_le HG1.out.2.2 en
  rw [← HCH.out]
  split
  ·rw [chosenG_len]
   exact ⟨by omega,chosenG_mem HLK.out.2 _ _⟩
  ·exact ⟨by simp,fun l hl => by cases hl⟩)
 clear hP hbi hs0 hkw hX1 hix hf1 hf2 hl1 hl2 hfr hid hn ho hk hg1 hc0 hr0 hCH hg3 hv HPUT hEN
 go_enter Try.func28,Try.ntmps28
 go_wp2
 (try rw [HKL.out.1])
 generalize w.alloc (.cells #[.int .u32 id,.slice A1 vec.length c1,.slice A2 tags.length c2] 26) = wi at HS0 HIX HFR HKW HLK0 ⊢
 have HSD := Aside0.mk (HS0.out.below (below_drew (Below.refl _ _)))
 clear HS0
 refine start_ (n := 12) (S := fun w' => w'.cell? ⟨b,5,none⟩ = some (.map (some mb)) ∧ w'.cell? ⟨w.heap.size,0,none⟩ = some (.int .u32 id) ∧ (Instr.lookup 105 (.map (some mb)) (.int .u32 id) true).run Try.prog w' = .ok (.tuple #[.int .i64 c0_,.bool r0_]) w') (ds := []) (mB_ 12 0) (by kernel_rfl) rfl rfl ⟨((blk_cell HSD.out.pi.box 5).trans rfl),((blk_cell (HSD.out.blk HXB.out HIX.out) 0).trans rfl),(HLK0.out _ HSD.out)⟩ (fun hHeld => ?_)
 refine with_tabW hpu.tab2 hpu.bits2 (fun HT_ HW_ => ?_)
 generalize wi.drew = wd at HSD hHeld ⊢
 iterate 4 (refine pn_ 0 [(0,23,1),(1,24,3),(2,25,7),(4,27,23)] (v := ?_) (a' := ?_) rfl rfl rfl HT_.out (by kernel_rfl) (Or.inl ⟨by rfl, ?_⟩) ?_ ?_;rotate_left;(· intro w';go_simp;with_reducible rfl);rotate_left;(· simp only [Act.put,sT_,sZ_,sS_,i64_w,i32_w];rfl))
 iterate 3 (refine tn_ 23 [(3,26,31),(5,28,63),(6,29,127)] (v := ?_) (a' := ?_) rfl rfl rfl HT_.out HW_.out (by kernel_rfl) (Or.inl ⟨by rfl, ?_⟩) hHeld ?_ ?_;rotate_left;(· rintro w' ⟨s0,s1,s2⟩;go_simp;with_reducible rfl);rotate_left;(· simp only [Act.put,sT_,sZ_,sS_,i64_w,i32_w];rfl))
 iterate 5 (refine pn_ 127 [(7,22,255),(8,30,511),(9,31,1023),(10,8,2047),(11,9,4095)] (v := ?_) (a' := ?_) rfl rfl rfl HT_.out (by kernel_rfl) (Or.inl ⟨by rfl, ?_⟩) ?_ ?_;rotate_left;(· intro w';go_simp;with_reducible rfl);rotate_left;(· simp only [Act.put,sT_,sZ_,sS_,i64_w,i32_w];rfl))
 refine done_ (done_of HT_.out (by kernel_rfl)) ?_
 clear hHeld
 go_upto_if 32 with (fail)
 go_cut [] (fun wc => Aside0 (PS X1 w0 wi wc b g mb lk wd_ en g1 n (nowM s)))
 case first =>
  rcases HUP.out with ⟨e1,e2⟩ | ⟨k0,nd,e1,e2,hnd,e3⟩
  ·subst e1 e2
   go_wp2
   go_meet
   case rel => exact HSD
  ·subst e1 e2 e3
   have HTH := Aside0.mk (there_lt HV0.out.good (List.getElem?_eq_some_iff.1 hnd).1)
   have y3 := (blk_cell HSD.out.pi.box 3).trans rfl
   clear hnd
   go_wp2_with (go_at_call 40;(with_reducible refine (HSD.out.pi.gr.untilP k0 v HTH.out).mono ?_);rintro e w1 ⟨rfl,hG,hK⟩;have HS1 := Aside0.mk (HSD.out.op hG hK rfl);clear hG hK)
   go_meet
   case rel => exact HS1
 case rest =>
  obtain ⟨wa,rfl⟩ : ∃ z,z = wc := ⟨_,rfl⟩
  have HSc := hcut
  clear hcut HSD
  have y4 := (blk_cell HSc.out.pi.box 4).trans rfl
  go_upto_if 44 with (fail)
  obtain ⟨eb,heb⟩ : ∃ z,decide (0 ≤ en) = z := ⟨_,rfl⟩
  rw [heb]
  have HEB := Aside0.mk heb
  clear heb
  go_cut [10] (fun v10 we => Aside0 (Below wa.heap.size wa we) ∧ Aside0 (OwnC wa we v10 CH))
  case first =>
   cases eb with
   | true =>
    have hen := of_decide_eq_true HEB.out
    obtain ⟨D,hD⟩ : ∃ z,downG g1 vec en k = z := ⟨_,rfl⟩
    obtain ⟨T,hT⟩ : ∃ z,topG g1 en = z := ⟨_,rfl⟩
    have HD := Aside0.mk hD
    have HT := Aside0.mk hT
    have HTB := Aside0.mk (show -1 ≤ T ∧ T ≤ 4 by rw [← hT];exact topG_le HG1.out.2.2 en)
    have HCG := Aside0.mk (show chosenG g1 vec lk wd_ (min (k : Int) T + 1).toNat [D] = CH by rw [← HCH.out,if_pos hen,hD,hT])
    have z1 := (blk_cell (HSc.out.blk HXB.out HIX.out) 1).trans rfl
    clear hen hD hT
    go_wp2_with (first | (go_at_call 59;go_must (with_reducible refine (HSc.out.pi.down HG1.out.2.2 (by have := HNN.out;omega) A1 c1 vec (HFR.out _ HSc.out.keep HSc.out.pi.at0).1 HFIT.out.1 k (by omega)).mono ?_);rintro e w2 ⟨rfl,hb⟩;rw [HD.out];have HB3 := Aside0.mk (bel_alloc hb (.cells #[.int .i64 D] 3));have HZ3 := Aside0.mk (OwnZ.weaken (OwnZ.lit w2 D) hb.size);clear hb) | (have := HB3;go_at_call 60;go_must (with_reducible refine ((HSc.out.pi.below HB3.out).top HG1.out.2.2 (by have := HNN.out;omega)).mono ?_);rintro e w4 ⟨rfl,hb⟩;rw [HT.out];have HB4 := Aside0.mk (bel_trans HB3.out hb);have HZ4 := Aside0.mk (HZ3.out.below hb);clear hb))
    obtain ⟨J,hJ⟩ : ∃ z : Nat,(min (k : Int) T + 1).toNat = z := ⟨_,rfl⟩
    rw [hJ] at HCG
    have HJ := Aside0.mk (show (J : Int) = min (k : Int) T + 1 ∧ J ≤ 5 by have := HTB.out;omega)
    clear hJ z1 y4 HB3 HZ3
    go_loopg [10,11,12] J (fun gk v10 v11 v12 wr => ∃ (j : Nat) (l : Int) (L : List Int) (Cd : List (List Int)),v12 = .int .i64 l ∧ Aside0 (j ≤ gk ∧ j ≤ J ∧ l = (j : Int) - 1 ∧ Cd.length + j = J ∧ L.length ≤ 300) ∧ Aside0 (Cd ++ chosenG g1 vec lk wd_ j L = CH) ∧ Aside0 (OwnZ wr wa.heap.size v11 L) ∧ Aside0 (OwnC wa wr v10 Cd) ∧ Aside0 (Below wa.heap.size wa wr))
    case atStart => exact ⟨J,min (k : Int) T,[D],[],rfl,⟨by have := HJ.out;simp only [List.length_cons,List.length_nil];omega⟩,HCG,HZ4,⟨OwnC.nil _ _⟩,HB4⟩
    case round =>
     obtain ⟨j,l,L,Cd,rfl,HI,HC,HZ,HO,HB⟩ := hrel
     by_cases hl : 0 ≤ l
     ·have q2 : decide (0 ≤ l) = true := decide_eq_true hl
      obtain ⟨m,rfl⟩ : ∃ m,j = m + 1 := ⟨j - 1,by have := HI.out;omega⟩
      obtain rfl : l = (m : Int) := by have := HI.out;omega
      obtain ⟨gk,rfl⟩ : ∃ m,gk = m + 1 := ⟨gk - 1,by have := HI.out;omega⟩
      have HIN := Aside0.mk (show wrap64 ((m : Int) - 1) = (m : Int) - 1 by have := HI.out;have := HJ.out;unfold wrap64;omega)
      have HIL := Aside0.mk (show m + 1 ≤ J ∧ Cd.length + (m + 1) = J ∧ L.length ≤ 300 by have := HI.out;omega)
      obtain ⟨R,hR⟩ : ∃ z,walkG g1 vec L wd_ m = z := ⟨_,rfl⟩
      have HRW := Aside0.mk hR
      obtain ⟨P,hPl⟩ : ∃ z,placesL R = z := ⟨_,rfl⟩
      obtain ⟨Y,hY⟩ : ∃ z,chooseG g1 vec P lk = z := ⟨_,rfl⟩
      have HPL := Aside0.mk hPl
      have HY := Aside0.mk hY
      have HRL := Aside0.mk (show R.length ≤ 256 ∧ P.length = R.length ∧ ∀ x ∈ R,0 ≤ x.f1 ∧ x.f1 < 1000000 by
       refine ⟨by rw [← hR];exact walk_len _ _ _ _ _,by rw [← hPl];exact placesL_len R,fun x hx => ?_⟩
       rw [← hR] at hx
       have h1 := there_range (walk_there hx).1
       have h2 := HG1.out.2.2.len
       have h3 := HNN.out
       omega)
      have HCN := Aside0.mk (show (Cd ++ [Y]) ++ chosenG g1 vec lk wd_ m P = CH by
       rw [← HC.out,List.append_assoc]
       show _ = Cd ++ (chooseG g1 vec (placesL (walkG g1 vec L wd_ m)) lk :: chosenG g1 vec lk wd_ m (placesL (walkG g1 vec L wd_ m)))
       rw [hR,hPl,hY]
       rfl)
      clear hl hR hPl hY
      go_wp2
      have HBD := Aside0.mk (bel_trans HB.out (below_drew (Below.refl _ _)) : Below wa.heap.size wa wr.drew)
      have HZD := Aside0.mk (HZ.out.below (below_drew (Below.refl _ _)))
      have HOD := Aside0.mk (OwnC.below HO.out (below_drew (Below.refl _ _)))
      have HSR := Aside0.mk (HSc.out.below HBD.out)
      clear HB HZ HO
      obtain ⟨aL,cL,rfl, -,hcl⟩ := HZD.out.C
      have HLC := Aside0.mk hcl
      clear hcl
      refine start_ (n := 15) (S := fun w' => w'.cell? ⟨b,3,none⟩ = some (.pointer (some ⟨g,0,none⟩)) ∧ w'.cell? ⟨b,2,none⟩ = some (.int .i64 wd_) ∧ w'.cell? ⟨w.heap.size,1,none⟩ = some (.slice A1 vec.length c1)) (ds := []) (mB_ 15 0) (by kernel_rfl) rfl rfl ⟨((blk_cell HSR.out.pi.box 3).trans rfl),((blk_cell HSR.out.pi.box 2).trans rfl),((blk_cell (HSR.out.blk HXB.out HIX.out) 1).trans rfl)⟩ (fun hHeld => ?_)
      refine with_tabW hpu.tab11 hpu.bits11 (fun HT_ HW_ => ?_)
      generalize wr.drew = wd at HBD HZD HOD HSR HLC hHeld ⊢
      iterate 9 (refine pn_ 0 [(0,59,1),(1,60,3),(2,61,7),(4,63,23),(6,65,87),(7,66,215),(8,67,471),(9,68,983),(11,70,3031)] (v := ?_) (a' := ?_) rfl rfl rfl HT_.out (by kernel_rfl) (Or.inl ⟨by rfl, ?_⟩) ?_ ?_;rotate_left;(· intro w';go_simp;with_reducible rfl);rotate_left;(· simp only [Act.put,sT_,sZ_,sS_,i64_w,i32_w];rfl))
      iterate 3 (refine tn_ 3031 [(3,62,3039),(5,64,3071),(10,69,4095)] (v := ?_) (a' := ?_) rfl rfl rfl HT_.out HW_.out (by kernel_rfl) (Or.inl ⟨by rfl, ?_⟩) hHeld ?_ ?_;rotate_left;(· rintro w' ⟨s0,s1,s2⟩;go_simp;with_reducible rfl);rotate_left;(· simp only [Act.put,sT_,sZ_,sS_,i64_w,i32_w];rfl))
      refine one_ (i := 12) (N := some 71) (mB_ 15 8191) rfl rfl (one_of HT_.out (by kernel_rfl)) (by decide) (fun K hK => ?_)
      refine goes_ Try.func19 (by kernel_rfl) rfl #[.pointer (some ⟨g,0,none⟩),.slice A1 vec.length c1,.slice aL L.length cL,.int .i64 wd_,.int .i64 (m : Int)] (by rfl) rfl rfl (by simp only [List.map_toArray,List.map_cons,List.map_nil];rfl) ?_
      with_reducible refine (HSR.out.pi.gr.walkP HG1.out.2.2 (by have := HNN.out;omega) A1 c1 vec (HFR.out _ HSR.out.keep HSR.out.pi.at0).1 HFIT.out.1 aL cL L.length L rfl HLC.out (by have := HIL.out;omega) wd_ m R HRW.out).mono ?_
      rintro e w3 ⟨⟨vh,rfl,hv⟩,hb⟩
      refine ⟨_,rfl, ?_⟩
      have HB3 := Aside0.mk (bel_trans HBD.out hb)
      have HO3 := Aside0.mk (OwnC.below HOD.out hb)
      have HS3 := Aside0.mk (HSR.out.below hb)
      obtain ⟨aH,cH,rfl,hrd⟩ := hv.reads
      have HR3 := Aside0.mk hrd
      clear hb hv hrd
      refine hK.out _ _ ⟨((blk_cell HS3.out.pi.box 3).trans rfl),((blk_cell HS3.out.pi.box 2).trans rfl),((blk_cell (HS3.out.blk HXB.out HIX.out) 1).trans rfl)⟩ (fun hHeld => ?_)
      clear hK K
      refine norm_ (a' := ?_) ?_ ?_
      rotate_left
      ·show Act.put _ (some 71) _ = _
       simp only [Act.put,sT_,sZ_,sS_,i64_w,i32_w]
       rfl
      refine one_ (i := 13) (N := some 72) (mB_ 15 16383) rfl rfl (one_of HT_.out (by kernel_rfl)) (by decide) (fun K hK => ?_)
      refine goes_ Try.func61 (by kernel_rfl) rfl #[.slice aH R.length cH] (by rfl) rfl rfl (by simp only [List.map_toArray,List.map_cons,List.map_nil];rfl) ?_
      with_reducible refine (places_calls aH cH R _ HR3.out (by have := HRL.out.1;omega) HRL.out.2.2).mono ?_
      rintro e w4 ⟨⟨vp,rfl,hv⟩,hb⟩
      refine ⟨_,rfl, ?_⟩
      rw [HPL.out] at hv
      have HB4 := Aside0.mk (bel_trans HB3.out hb)
      have HO4 := Aside0.mk (OwnC.below HO3.out hb)
      have HS4 := Aside0.mk (HS3.out.below hb)
      have HZ4 := Aside0.mk (OwnZ.weaken hv HB3.out.size)
      clear hb hv
      refine hK.out _ _ ⟨((blk_cell HS4.out.pi.box 3).trans rfl),((blk_cell HS4.out.pi.box 2).trans rfl),((blk_cell (HS4.out.blk HXB.out HIX.out) 1).trans rfl)⟩ (fun hHeld => ?_)
      clear hK K
      refine norm_ (a' := ?_) ?_ ?_
      rotate_left
      ·show Act.put _ (some 72) _ = _
       simp only [Act.put,sT_,sZ_,sS_,i64_w,i32_w]
       rfl
      refine pn_ 16383 [(14,11,32767)] (v := ?_) (a' := ?_) rfl rfl rfl HT_.out (by kernel_rfl) (Or.inl ⟨by rfl, ?_⟩) ?_ ?_;rotate_left;(· intro w';go_simp;with_reducible rfl);rotate_left;(· simp only [Act.put,sT_,sZ_,sS_,i64_w,i32_w];rfl)
      refine done_ (done_of HT_.out (by kernel_rfl)) ?_
      clear hHeld
      clear HBD HZD HOD HSR HLC HB3 HO3 HS3 HR3 HRW
      go_wp2
      have HBD := Aside0.mk (bel_trans HB4.out (below_drew (Below.refl _ _)) : Below wa.heap.size wa w4.drew)
      have HZD := Aside0.mk (HZ4.out.below (below_drew (Below.refl _ _)))
      have HOD := Aside0.mk (OwnC.below HO4.out (below_drew (Below.refl _ _)))
      have HSR := Aside0.mk (HS4.out.below (below_drew (Below.refl _ _)))
      clear HB4 HZ4 HO4 HS4
      obtain ⟨aP,cP,rfl, -,hcl⟩ := HZD.out.C
      have HLC := Aside0.mk hcl
      clear hcl
      refine start_ (n := 16) (S := fun w' => w'.cell? ⟨b,3,none⟩ = some (.pointer (some ⟨g,0,none⟩)) ∧ w'.cell? ⟨b,1,none⟩ = some (.int .i64 lk) ∧ w'.cell? ⟨w.heap.size,1,none⟩ = some (.slice A1 vec.length c1)) (ds := []) (mB_ 16 0) (by kernel_rfl) rfl rfl ⟨((blk_cell HSR.out.pi.box 3).trans rfl),((blk_cell HSR.out.pi.box 1).trans rfl),((blk_cell (HSR.out.blk HXB.out HIX.out) 1).trans rfl)⟩ (fun hHeld => ?_)
      refine with_tabW hpu.tab12 hpu.bits12 (fun HT_ HW_ => ?_)
      generalize w4.drew = wd at HBD HZD HOD HSR HLC hHeld ⊢
      iterate 9 (refine pn_ 0 [(0,73,1),(1,74,3),(2,75,7),(3,76,15),(5,78,47),(7,80,175),(8,81,431),(9,82,943),(10,83,1967)] (v := ?_) (a' := ?_) rfl rfl rfl HT_.out (by kernel_rfl) (Or.inl ⟨by rfl, ?_⟩) ?_ ?_;rotate_left;(· intro w';go_simp;with_reducible rfl);rotate_left;(· simp only [Act.put,sT_,sZ_,sS_,i64_w,i32_w];rfl))
      iterate 3 (refine tn_ 1967 [(4,77,1983),(6,79,2047),(11,84,4095)] (v := ?_) (a' := ?_) rfl rfl rfl HT_.out HW_.out (by kernel_rfl) (Or.inl ⟨by rfl, ?_⟩) hHeld ?_ ?_;rotate_left;(· rintro w' ⟨s0,s1,s2⟩;go_simp;with_reducible rfl);rotate_left;(· simp only [Act.put,sT_,sZ_,sS_,i64_w,i32_w];rfl))
      refine one_ (i := 12) (N := some 85) (mB_ 16 8191) rfl rfl (one_of HT_.out (by kernel_rfl)) (by decide) (fun K hK => ?_)
      refine goes_ Try.func32 (by kernel_rfl) rfl #[.pointer (some ⟨g,0,none⟩),.slice A1 vec.length c1,.slice aP P.length cP,.int .i64 lk] (by rfl) rfl rfl (by simp only [List.map_toArray,List.map_cons,List.map_nil];rfl) ?_
      with_reducible refine (HSR.out.pi.gr.chooseP HG1.out.2.2 (by have := HNN.out;omega) A1 c1 vec (HFR.out _ HSR.out.keep HSR.out.pi.at0).1 HFIT.out.1 aP cP P.length P rfl HLC.out (by have := HRL.out;omega) lk Y HY.out).mono ?_
      rintro e w3 ⟨⟨vy,rfl,hv⟩,hb⟩
      refine ⟨_,rfl, ?_⟩
      have HB3 := Aside0.mk (bel_trans HBD.out hb)
      have HO3 := Aside0.mk (OwnC.below HOD.out hb)
      have HS3 := Aside0.mk (HSR.out.below hb)
      have HZ3 := Aside0.mk (HZD.out.below hb)
      have HY3 := Aside0.mk (OwnZ.weaken hv HBD.out.size)
      obtain ⟨aY,cY,hye, -, -⟩ := hv.C
      subst hye
      clear hb hv
      refine hK.out _ _ ⟨((blk_cell HS3.out.pi.box 3).trans rfl),((blk_cell HS3.out.pi.box 1).trans rfl),((blk_cell (HS3.out.blk HXB.out HIX.out) 1).trans rfl)⟩ (fun hHeld => ?_)
      clear hK K
      refine norm_ (a' := ?_) ?_ ?_
      rotate_left
      ·show Act.put _ (some 85) _ = _
       simp only [Act.put,sT_,sZ_,sS_,i64_w,i32_w]
       rfl
      refine one_ (i := 13) (N := some 86) (mB_ 16 16383) rfl rfl (one_of HT_.out (by kernel_rfl)) (by decide) (fun K hK => ?_)
      refine value_ (w1 := ?_) (v := ?_) (by rfl) rfl ?_ ?_
      rotate_left 2
      ·go_simp
       constructor
       ·rfl
       ·rfl
      have hba := below_alloc (Below.refl w3.heap.size w3) (.cells #[.slice aY Y.length cY] 40)
      have HB5 := Aside0.mk (bel_trans HB3.out hba)
      have HO5 := Aside0.mk (OwnC.below HO3.out hba)
      have HS5 := Aside0.mk (HS3.out.below hba)
      have HZ5 := Aside0.mk (HZ3.out.below hba)
      have HY5 := Aside0.mk (HY3.out.below hba)
      have HL5 := Aside0.mk (heap_alloc_new w3 (.cells #[.slice aY Y.length cY] 40))
      clear hba
      refine hK.out _ _ ⟨((blk_cell HS5.out.pi.box 3).trans rfl),((blk_cell HS5.out.pi.box 1).trans rfl),((blk_cell (HS5.out.blk HXB.out HIX.out) 1).trans rfl)⟩ (fun hHeld => ?_)
      clear hK K
      refine norm_ (a' := ?_) ?_ ?_
      rotate_left
      ·show Act.put _ (some 86) _ = _
       simp only [Act.put,sT_,sZ_,sS_,i64_w,i32_w]
       rfl
      refine one_ (i := 14) (N := some 87) (mB_ 16 32767) rfl rfl (one_of HT_.out (by kernel_rfl)) (by decide) (fun K hK => ?_)
      refine step_C (w0 := wa) rfl (.tmp 73) (.tmp 86) rfl Cd (by rfl) HO5.out w3.heap.size _ Y (by rfl) HL5.out HY5.out (by have := HIL.out;have := HJ.out;omega) HB5.out.size ?_
      intro v6 w6 hv hO hge
      have HB6 := Aside0.mk (hO.below_of HB5.out hge)
      have HO6 := Aside0.mk hv
      have HZ6 := Aside0.mk (OwnZ.only HZ5.out hO (fun k hk hk2 => by obtain ⟨cc,hcc⟩ := own_typed HZ5.out k hk;obtain ⟨_,inner,hr5,_⟩ := HO5.out;obtain ⟨c5,hc5⟩ := own_typed hr5 k hk2;exact absurd (blk_type hcc hc5) (by decide)))
      have HS6 := Aside0.mk (HSc.out.below HB6.out)
      clear hv hO hge
      refine hK.out _ _ ⟨((blk_cell HS6.out.pi.box 3).trans rfl),((blk_cell HS6.out.pi.box 1).trans rfl),((blk_cell (HS6.out.blk HXB.out HIX.out) 1).trans rfl)⟩ (fun hHeld => ?_)
      clear hK K
      refine norm_ (a' := ?_) ?_ ?_
      rotate_left
      ·show Act.put _ (some 87) _ = _
       simp only [Act.put,sT_,sZ_,sS_,i64_w,i32_w]
       rfl
      refine pn_ 32767 [(15,10,65535)] (v := ?_) (a' := ?_) rfl rfl rfl HT_.out (by kernel_rfl) (Or.inl ⟨by rfl, ?_⟩) ?_ ?_;rotate_left;(· intro w';go_simp;with_reducible rfl);rotate_left;(· simp only [Act.put,sT_,sZ_,sS_,i64_w,i32_w];rfl)
      refine done_ (done_of HT_.out (by kernel_rfl)) ?_
      clear hHeld
      clear HBD HZD HOD HSR HLC HB3 HO3 HS3 HZ3 HY3 HB5 HO5 HS5 HZ5 HY5 HL5 HS6
      go_wp2
      go_roundg gk
      case measure => omega
      case rel => exact ⟨m,(m : Int) - 1,P,Cd ++ [Y],congrArg (Value.int .i64) HIN.out,⟨by have := HIL.out;have := HI.out;have := HRL.out;rw [List.length_append,List.length_singleton];omega⟩,HCN,HZ6,HO6,HB6⟩
     ·have q2 : decide (0 ≤ l) = false := decide_eq_false hl
      have HE := Aside0.mk (show Cd = CH by
       have h0 : j = 0 := by have := HI.out;omega
       have h1 := HC.out
       rw [h0] at h1
       have h2 : Cd ++ [] = CH := h1
       rw [List.append_nil] at h2
       exact h2)
      clear hl
      go_wp2
      go_meet
      case rel => exact ⟨HB,⟨by rw [← HE.out];exact HO.out⟩⟩
   | false =>
    have hen := of_decide_eq_false HEB.out
    have HE := Aside0.mk (show CH = [] by rw [← HCH.out,if_neg hen])
    clear hen
    go_wp2
    go_meet
    case rel => exact ⟨⟨Below.refl _ _⟩,⟨by rw [HE.out];exact OwnC.nil _ _⟩⟩
  case rest =>
   obtain ⟨we,rfl⟩ : ∃ z,z = wc := ⟨_,rfl⟩
   obtain ⟨HBe,HCe⟩ := hcut
   obtain ⟨aC,cC,hsl⟩ := OwnC.slice HCe.out
   have HKe := Aside0.mk (HSc.out.below HBe.out).keep
   obtain ⟨X2,hX2⟩ : ∃ Z : Nat → Prop,(fun k => X1 k ∨ (wa.heap.size ≤ k ∧ k < we.heap.size)) = Z := ⟨_,rfl⟩
   have hs2 := (HSc.out.pi.later HBe.out).start
   rw [hX2] at hs2
   have HS2 := Aside0.mk hs2
   have HX2 := Aside0.mk (show (∀ k,X1 k → X2 k) ∧ ∀ k,since wa we k → X2 k by rw [← hX2];exact ⟨fun k hk => .inl hk,fun k hk => .inr hk⟩)
   have HIE := Aside0.mk ((HKe.out.2 _ HXB.out).trans HIX.out)
   clear hs2 hX2 y4 HSc HBe
   subst hsl
   go_wp2
   have HSD := Aside0.mk (HS2.out.below (below_drew (Below.refl _ _)))
   have HKD := Aside0.mk (HKe.out.trans (HSD.out.keep.less HX2.out.1))
   clear HS2
   refine start_ (n := 9) (S := fun w' => w'.cell? ⟨b,3,none⟩ = some (.pointer (some ⟨g,0,none⟩)) ∧ w'.cell? ⟨w.heap.size,0,none⟩ = some (.int .u32 id) ∧ w'.cell? ⟨w.heap.size,1,none⟩ = some (.slice A1 vec.length c1) ∧ w'.cell? ⟨w.heap.size,2,none⟩ = some (.slice A2 tags.length c2)) (ds := []) (mB_ 9 0) (by kernel_rfl) rfl rfl ⟨((blk_cell HSD.out.pi.box 3).trans rfl),((blk_cell (HSD.out.blk (HX2.out.1 _ HXB.out) HIE.out) 0).trans rfl),((blk_cell (HSD.out.blk (HX2.out.1 _ HXB.out) HIE.out) 1).trans rfl),((blk_cell (HSD.out.blk (HX2.out.1 _ HXB.out) HIE.out) 2).trans rfl)⟩ (fun hHeld => ?_)
   refine with_tabW hpu.tab13 hpu.bits13 (fun HT_ HW_ => ?_)
   generalize we.drew = wd at HSD HKD hHeld ⊢
   iterate 5 (refine pn_ 0 [(0,88,1),(1,89,3),(2,90,7),(5,93,39),(6,94,103)] (v := ?_) (a' := ?_) rfl rfl rfl HT_.out (by kernel_rfl) (Or.inl ⟨by rfl, ?_⟩) ?_ ?_;rotate_left;(· intro w';go_simp;with_reducible rfl);rotate_left;(· simp only [Act.put,sT_,sZ_,sS_,i64_w,i32_w];rfl))
   iterate 2 (refine tn_ 103 [(3,91,111),(4,92,127)] (v := ?_) (a' := ?_) rfl rfl rfl HT_.out HW_.out (by kernel_rfl) (Or.inl ⟨by rfl, ?_⟩) hHeld ?_ ?_;rotate_left;(· rintro w' ⟨s0,s1,s2,s3⟩;go_simp;with_reducible rfl);rotate_left;(· simp only [Act.put,sT_,sZ_,sS_,i64_w,i32_w];rfl))
   refine one_ (i := 7) (N := some 95) (mB_ 9 255) rfl rfl (one_of HT_.out (by kernel_rfl)) (by decide) (fun K hK => ?_)
   refine goes_ Try.func13 (by kernel_rfl) rfl #[.pointer (some ⟨g,0,none⟩),.agg #[.int .u32 id,.slice A1 vec.length c1,.slice A2 tags.length c2],.int .i64 (k : Int),.int .u64 v] (by rfl) rfl rfl (by simp only [List.map_toArray,List.map_cons,List.map_nil];rfl) ?_
   with_reducible refine (HSD.out.pi.gr.addP HG1.out.2.2 (by have := HNN.out;omega) id vec tags A1 c1 A2 c2 HFIT.out.1 (HFR.out _ HKD.out HSD.out.pi.at0).1 HFIT.out.2 (HFR.out _ HKD.out HSD.out.pi.at0).2 HLL.out.1 HLL.out.2 (k : Int) v).mono ?_
   rintro e w5 ⟨rfl,hG,hK⟩
   refine ⟨_,rfl, ?_⟩
   rw [HG1.out.1]
   have HS5 := Aside0.mk (HSD.out.op hG hK rfl)
   clear hG hK
   refine hK.out _ _ ⟨((blk_cell HS5.out.pi.box 3).trans rfl),((blk_cell (HS5.out.blk (HX2.out.1 _ HXB.out) HIE.out) 0).trans rfl),((blk_cell (HS5.out.blk (HX2.out.1 _ HXB.out) HIE.out) 1).trans rfl),((blk_cell (HS5.out.blk (HX2.out.1 _ HXB.out) HIE.out) 2).trans rfl)⟩ (fun hHeld => ?_)
   clear hK K
   refine norm_ (a' := ?_) ?_ ?_
   rotate_left
   ·show Act.put _ (some 95) _ = _
    simp only [Act.put,sT_,sZ_,sS_,i64_w,i32_w]
    rfl
   refine pn_ 255 [(8,13,511)] (v := ?_) (a' := ?_) rfl rfl rfl HT_.out (by kernel_rfl) (Or.inl ⟨by rfl, ?_⟩) ?_ ?_;rotate_left;(· intro w';go_simp;with_reducible rfl);rotate_left;(· simp only [Act.put,sT_,sZ_,sS_,i64_w,i32_w];rfl)
   refine done_ (done_of HT_.out (by kernel_rfl)) ?_
   clear hHeld
   clear HSD HKD
   go_wp2
   have HSD := Aside0.mk (HS5.out.below (below_drew (Below.refl _ _)))
   clear HS5
   have HNC := Aside0.mk (show n ≤ 90000 by have := HNN.out;omega)
   have HWF := Aside0.mk (wf_at (k := s.l.length) (N := 100000) (by have := HV0.out.len;have := HNN.out;omega) (Nat.le_refl _))
   refine start_ (n := 8) (S := fun w' => w'.cell? ⟨b,5,none⟩ = some (.map (some mb)) ∧ w'.cell? ⟨w.heap.size,0,none⟩ = some (.int .u32 id)) (ds := []) (mB_ 8 0) (by kernel_rfl) rfl rfl ⟨((blk_cell HSD.out.pi.box 5).trans rfl),((blk_cell (HSD.out.blk (HX2.out.1 _ HXB.out) HIE.out) 0).trans rfl)⟩ (fun hHeld => ?_)
   refine with_tabW hpu.tab14 hpu.bits14 (fun HT_ HW_ => ?_)
   generalize w5.drew = wd at HSD hHeld ⊢
   iterate 5 (refine pn_ 0 [(0,96,1),(1,97,3),(2,98,7),(4,100,23),(6,102,87)] (v := ?_) (a' := ?_) rfl rfl rfl HT_.out (by kernel_rfl) (Or.inl ⟨by rfl, ?_⟩) ?_ ?_;rotate_left;(· intro w';go_simp;with_reducible rfl);rotate_left;(· simp only [Act.put,sT_,sZ_,sS_,i64_w,i32_w];rfl))
   iterate 2 (refine tn_ 87 [(3,99,95),(5,101,127)] (v := ?_) (a' := ?_) rfl rfl rfl HT_.out HW_.out (by kernel_rfl) (Or.inl ⟨by rfl, ?_⟩) hHeld ?_ ?_;rotate_left;(· rintro w' ⟨s0,s1⟩;go_simp;with_reducible rfl);rotate_left;(· simp only [Act.put,sT_,sZ_,sS_,i64_w,i32_w];rfl))
   refine one_ (i := 7) (N := none) (mB_ 8 255) rfl rfl (one_of HT_.out (by kernel_rfl)) (by decide) (fun K hK => ?_)
   obtain ⟨w6,hrun,hm,hO⟩ := HSD.out.pi.map.store (by have := HNC.out;omega) HID.out HWF.out
   have HS6 := Aside0.mk (HSD.out.put hm hO)
   clear hm hO
   refine skip_ (w1 := ?_) (by rfl) rfl ?_ ?_
   rotate_left
   ·go_simp
    rfl
   clear hrun
   refine hK.out _ _ ⟨((blk_cell HS6.out.pi.box 5).trans rfl),((blk_cell (HS6.out.blk (HX2.out.1 _ HXB.out) HIE.out) 0).trans rfl)⟩ (fun hHeld => ?_)
   clear hK K
   refine done_ (done_of HT_.out (by kernel_rfl)) ?_
   clear hHeld
   clear HSD
   obtain ⟨f1,hf1⟩ : ∃ z : Int → Option Int,(fun z => if z = id then some (s.l.length : Int) else nowM s z) = z := ⟨_,rfl⟩
   have HPN : Aside0 (nowM g3 = f1) := ⟨HPN.out.trans hf1⟩
   rw [hf1] at HS6
   clear hf1
   obtain ⟨NW,hNW⟩ : ∃ z : Int,(s.l.length : Int) = z := ⟨_,rfl⟩
   have HNW := Aside0.mk hNW
   rw [hNW] at HPG ⊢
   clear hNW
   go_wp2
   go_loopg [105] CH.length (fun gk v105 wr => ∃ (i : Nat),v105 = .int .i64 i ∧ Aside0 (i ≤ CH.length ∧ CH.length - i ≤ gk) ∧ Aside0 (PS X2 w0 we wr b g mb lk wd_ en (layTo lk NW CH (g1.add id vec tags k v) i) (n + 1) f1))
   case atStart => exact ⟨0,rfl,⟨by omega⟩,HS6⟩
   case round =>
    obtain ⟨i,rfl,HI,HSr⟩ := hrel
    by_cases hi : i < CH.length
    ·have q1 : decide ((i : Int) < (CH.length : Int)) = true := decide_eq_true (by omega)
     have q1' : (i : Int) < (CH.length : Int) := by omega
     have HIN := Aside0.mk (show wrap64 ((i : Int) + 1) = ((i + 1 : Nat) : Int) by have := HCL.out.1;unfold wrap64;omega)
     have HIL := Aside0.mk hi
     have hw1 : wrap64 ((CH.length : Int) - 1) = (CH.length : Int) - 1 := by have := HCL.out.1;unfold wrap64;omega
     obtain ⟨on,hon⟩ : ∃ z : Int,(CH.length : Int) - 1 - (i : Int) = z := ⟨_,rfl⟩
     have hw2 : wrap64 ((CH.length : Int) - 1 - (i : Int)) = on := by have := HCL.out.1;unfold wrap64;omega
     obtain ⟨l,hl⟩ : ∃ z,CH[i]? = some z := ⟨_,List.getElem?_eq_getElem hi⟩
     have HLN := Aside0.mk (HCL.out.2 l (List.mem_of_getElem? hl))
     obtain ⟨r,cap,A,c,hv10,hW⟩ := LkD.list2 HCe.out hl
     injection hv10 with ha hn' hc'
     subst ha hc'
     have HW := Aside0.mk hW
     have hcell := (hW wr (fun k hk => HSr.out.keep.2 k (HX2.out.2 k hk))).1
     obtain ⟨sI,hsI⟩ : ∃ z,layTo lk NW CH (g1.add id vec tags k v) i = z := ⟨_,rfl⟩
     have HNX := Aside0.mk (show layTo lk NW CH (g1.add id vec tags k v) (i + 1) = layOne lk NW on sI l by show layOne lk NW ((CH.length : Int) - 1 - (i : Int)) (layTo lk NW CH (g1.add id vec tags k v) i) ((CH[i]?).getD []) = _;rw [hon,hsI,hl];rfl)
     have HVI := Aside0.mk (show Inv sI (n + 1) by rw [← hsI];exact layTo_inv (HG1.out.2.2.add id k v HLL.out.1 HLL.out.2) CH i)
     rw [hsI] at HSr
     obtain ⟨gk,rfl⟩ : ∃ m,gk = m + 1 := ⟨gk - 1,by have := HI.out;omega⟩
     clear hi hl hW hsI hn' hon
     go_wp2
     obtain ⟨go,rfl⟩ : ∃ z,z = gk := ⟨_,rfl⟩
     clear hcell
     go_loopg [117] l.length (fun gk v117 wr => ∃ (j : Nat),v117 = .int .i64 j ∧ Aside0 (j ≤ l.length ∧ l.length - j ≤ gk) ∧ Aside0 (PS X2 w0 we wr b g mb lk wd_ en (layOne lk NW on sI (l.take j)) (n + 1) f1))
     case atStart => exact ⟨0,rfl,⟨by omega⟩,HSr⟩
     case round =>
      clear HSr
      obtain ⟨j,rfl,HJ,HSr⟩ := hrel
      by_cases hj : j < l.length
      ·have q2 : decide ((j : Int) < (l.length : Int)) = true := decide_eq_true (by omega)
       have q2' : (j : Int) < (l.length : Int) := by omega
       have HJN := Aside0.mk (show wrap64 ((j : Int) + 1) = ((j + 1 : Nat) : Int) by have := HLN.out;unfold wrap64;omega)
       have HJL := Aside0.mk hj
       obtain ⟨gk,rfl⟩ : ∃ m,gk = m + 1 := ⟨gk - 1,by have := HJ.out;omega⟩
       obtain ⟨ad,rfl,hcl⟩ := int_at (HW.out wr (fun k hk => HSr.out.keep.2 k (HX2.out.2 k hk))).2.2 hj
       obtain ⟨bb,hbb⟩ : ∃ z,l[j]'hj = z := ⟨_,rfl⟩
       obtain ⟨sJ,hsJ⟩ : ∃ z,layOne lk NW on sI (l.take j) = z := ⟨_,rfl⟩
       have HNJ := Aside0.mk (show layOne lk NW on sI (l.take (j + 1)) = linkBoth sJ lk NW on bb by unfold layOne at hsJ ⊢;rw [List.take_succ_eq_append_getElem hj,List.foldl_append,hsJ,hbb];rfl)
       have HVJ := Aside0.mk (show Inv sJ (n + 1) by rw [← hsJ];exact layOne_inv HVI.out _ _)
       rw [hbb] at hcl
       rw [hsJ] at HSr
       clear hj hbb hsJ
       go_upto_region 22 with (fail)
       clear hcl
       have HSD := Aside0.mk (HSr.out.below (below_drew (Below.refl _ _)))
       clear HSr
       refine start_ (n := 11) (S := fun w' => w'.cell? ⟨b,3,none⟩ = some (.pointer (some ⟨g,0,none⟩))) (ds := []) (mB_ 11 0) (by kernel_rfl) rfl rfl (((blk_cell HSD.out.pi.box 3).trans rfl)) (fun hHeld => ?_)
       refine with_tabW hpu.tab22 hpu.bits22 (fun HT_ HW_ => ?_)
       generalize wr.drew = wd at HSD hHeld ⊢
       iterate 8 (refine pn_ 0 [(0,121,1),(1,122,3),(2,123,7),(4,125,23),(5,126,55),(6,127,119),(7,128,247),(8,129,503)] (v := ?_) (a' := ?_) rfl rfl rfl HT_.out (by kernel_rfl) (Or.inl ⟨by rfl, ?_⟩) ?_ ?_;rotate_left;(· intro w';go_simp;with_reducible rfl);rotate_left;(· simp only [Act.put,sT_,sZ_,sS_,i64_w,i32_w];rfl))
       refine tn_ 503 [(3,124,511)] (v := ?_) (a' := ?_) rfl rfl rfl HT_.out HW_.out (by kernel_rfl) (Or.inl ⟨by rfl, ?_⟩) hHeld ?_ ?_;rotate_left;(· intro w' s0;go_simp;with_reducible rfl);rotate_left;(· simp only [Act.put,sT_,sZ_,sS_,i64_w,i32_w];rfl)
       refine one_ (i := 9) (N := some 130) (mB_ 11 1023) rfl rfl (one_of HT_.out (by kernel_rfl)) (by decide) (fun K hK => ?_)
       refine goes_ Try.func62 (by kernel_rfl) rfl #[.pointer (some ⟨b,0,none⟩),.int .i64 on] (by rfl) rfl rfl (by simp only [List.map_toArray,List.map_cons,List.map_nil];rfl) ?_
       with_reducible refine (HSD.out.pi.most HLK.out on).mono ?_
       rintro e w7 ⟨rfl,hb⟩
       refine ⟨_,rfl, ?_⟩
       have HS7 := Aside0.mk (HSD.out.below hb)
       clear hb
       refine hK.out _ _ (((blk_cell HS7.out.pi.box 3).trans rfl)) (fun hHeld => ?_)
       clear hK K
       refine norm_ (a' := ?_) ?_ ?_
       rotate_left
       ·show Act.put _ (some 130) _ = _
        simp only [Act.put,sT_,sZ_,sS_,i64_w,i32_w]
        rfl
       refine one_ (i := 10) (N := some 131) (mB_ 11 2047) rfl rfl (one_of HT_.out (by kernel_rfl)) (by decide) (fun K hK => ?_)
       refine goes_ Try.func14 (by kernel_rfl) rfl #[.pointer (some ⟨g,0,none⟩),.int .i64 NW,.int .i64 bb,.int .i64 on,.int .i64 (mostX lk on)] (by rfl) rfl rfl (by simp only [List.map_toArray,List.map_cons,List.map_nil];rfl) ?_
       with_reducible refine (HS7.out.pi.gr.linkP HVJ.out HNN.out NW bb on (mostX lk on)).mono ?_
       rintro e w8 ⟨rfl,hG,hK⟩
       refine ⟨_,rfl, ?_⟩
       have HS8 := Aside0.mk (HS7.out.op hG hK (link_m _ _ _ _))
       clear hG hK
       refine hK.out _ _ (((blk_cell HS8.out.pi.box 3).trans rfl)) (fun hHeld => ?_)
       clear hK K
       refine norm_ (a' := ?_) ?_ ?_
       rotate_left
       ·show Act.put _ (some 131) _ = _
        simp only [Act.put,sT_,sZ_,sS_,i64_w,i32_w]
        rfl
       refine done_ (done_of HT_.out (by kernel_rfl)) ?_
       clear hHeld
       clear HSD HS7
       go_wp2
       have HSD := Aside0.mk (HS8.out.below (below_drew (Below.refl _ _)))
       clear HS8
       refine start_ (n := 11) (S := fun w' => w'.cell? ⟨b,3,none⟩ = some (.pointer (some ⟨g,0,none⟩))) (ds := []) (mB_ 11 0) (by kernel_rfl) rfl rfl (((blk_cell HSD.out.pi.box 3).trans rfl)) (fun hHeld => ?_)
       refine with_tabW hpu.tab23 hpu.bits23 (fun HT_ HW_ => ?_)
       generalize w8.drew = wd at HSD hHeld ⊢
       iterate 8 (refine pn_ 0 [(0,132,1),(1,133,3),(2,134,7),(4,136,23),(5,137,55),(6,138,119),(7,139,247),(8,140,503)] (v := ?_) (a' := ?_) rfl rfl rfl HT_.out (by kernel_rfl) (Or.inl ⟨by rfl, ?_⟩) ?_ ?_;rotate_left;(· intro w';go_simp;with_reducible rfl);rotate_left;(· simp only [Act.put,sT_,sZ_,sS_,i64_w,i32_w];rfl))
       refine tn_ 503 [(3,135,511)] (v := ?_) (a' := ?_) rfl rfl rfl HT_.out HW_.out (by kernel_rfl) (Or.inl ⟨by rfl, ?_⟩) hHeld ?_ ?_;rotate_left;(· intro w' s0;go_simp;with_reducible rfl);rotate_left;(· simp only [Act.put,sT_,sZ_,sS_,i64_w,i32_w];rfl)
       refine one_ (i := 9) (N := some 141) (mB_ 11 1023) rfl rfl (one_of HT_.out (by kernel_rfl)) (by decide) (fun K hK => ?_)
       refine goes_ Try.func62 (by kernel_rfl) rfl #[.pointer (some ⟨b,0,none⟩),.int .i64 on] (by rfl) rfl rfl (by simp only [List.map_toArray,List.map_cons,List.map_nil];rfl) ?_
       with_reducible refine (HSD.out.pi.most HLK.out on).mono ?_
       rintro e w7 ⟨rfl,hb⟩
       refine ⟨_,rfl, ?_⟩
       have HS7 := Aside0.mk (HSD.out.below hb)
       clear hb
       refine hK.out _ _ (((blk_cell HS7.out.pi.box 3).trans rfl)) (fun hHeld => ?_)
       clear hK K
       refine norm_ (a' := ?_) ?_ ?_
       rotate_left
       ·show Act.put _ (some 141) _ = _
        simp only [Act.put,sT_,sZ_,sS_,i64_w,i32_w]
        rfl
       refine one_ (i := 10) (N := some 142) (mB_ 11 2047) rfl rfl (one_of HT_.out (by kernel_rfl)) (by decide) (fun K hK => ?_)
       refine goes_ Try.func14 (by kernel_rfl) rfl #[.pointer (some ⟨g,0,none⟩),.int .i64 bb,.int .i64 NW,.int .i64 on,.int .i64 (mostX lk on)] (by rfl) rfl rfl (by simp only [List.map_toArray,List.map_cons,List.map_nil];rfl) ?_
       with_reducible refine (HS7.out.pi.gr.linkP (HVJ.out.link NW bb on (mostX lk on)) HNN.out bb NW on (mostX lk on)).mono ?_
       rintro e w9 ⟨rfl,hG,hK⟩
       refine ⟨_,rfl, ?_⟩
       have HS9 := Aside0.mk (HS7.out.op hG hK (link_m _ _ _ _))
       clear hG hK
       refine hK.out _ _ (((blk_cell HS9.out.pi.box 3).trans rfl)) (fun hHeld => ?_)
       clear hK K
       refine norm_ (a' := ?_) ?_ ?_
       rotate_left
       ·show Act.put _ (some 142) _ = _
        simp only [Act.put,sT_,sZ_,sS_,i64_w,i32_w]
        rfl
       refine done_ (done_of HT_.out (by kernel_rfl)) ?_
       clear hHeld
       clear HSD HS7
       go_wp2
       go_roundg gk
       case measure => omega
       case rel => exact ⟨j + 1,congrArg (Value.int .i64) HJN.out,⟨by have := HJ.out;have := HJL.out;omega⟩,⟨by rw [HNJ.out];exact HS9.out⟩⟩
      ·have q2 : decide ((j : Int) < (l.length : Int)) = false := decide_eq_false (by omega)
       have q2' : (j < l.length) = False := eq_false hj
       have q2'' : decide (j < l.length) = false := decide_eq_false hj
       have HE := Aside0.mk (show l.take j = l from List.take_of_length_le (by omega))
       clear hj
       go_wp2
       go_roundg go
       case measure => omega
       case rel => exact ⟨i + 1,congrArg (Value.int .i64) HIN.out,⟨by have := HI.out;have := HIL.out;omega⟩,⟨by rw [HNX.out,← HE.out];exact HSr.out⟩⟩
    ·have q1 : decide ((i : Int) < (CH.length : Int)) = false := decide_eq_false (by omega)
     have q1' : (i < CH.length) = False := eq_false hi
     have q1'' : decide (i < CH.length) = false := decide_eq_false hi
     obtain rfl : i = CH.length := by have := HI.out;omega
     have HS7 : Aside0 (PS X2 w0 we wr b g mb lk wd_ en g3 (n + 1) (nowM g3)) := ⟨by rw [HPN.out];have h1 := HSr.out;rw [HPG.out] at h1;exact h1⟩
     have HEND : Aside0 (∀ (W : World) (e' : Int),PS X2 w0 we W b g mb lk wd_ e' g3 (n + 1) (nowM g3) → PX X w0 W b ⟨g3,lk,wd_,e'⟩ (n + 1) ∧ KeepX X w W) := ⟨fun W e' hW => ⟨⟨g,mb,hW.pi.less (fun k hk => HX2.out.1 k (HX1.out k hk))⟩,(HKW.out.trans (HKe.out.less HX1.out)).trans (hW.keep.less (fun k hk => HX2.out.1 k (HX1.out k hk)))⟩⟩
     have y4 := (blk_cell HS7.out.pi.box 4).trans rfl
     clear hi HSr
     by_cases hen : en < 0
     ·have q2 : decide (en < 0) = true := decide_eq_true hen
      have HE := Aside0.mk (show NW = EN by rw [← HEN.out,HNW.out];exact (if_pos (.inl hen)).symm)
      have fz : ∀ j,wr.frozen? ⟨b,j,none⟩ = false := fun j => blk_frozen HS7.out.pi.box j
      clear hen
      go_wp2
      refine bodyPost_end (results_none rfl _ _ _) rfl ?_
      exact ⟨rfl,HE.out ▸ HEND.out _ _ (HS7.out.entry NW)⟩
     ·have q2 : decide (en < 0) = false := decide_eq_false hen
      obtain ⟨T,hT⟩ : ∃ z,topG g3 en = z := ⟨_,rfl⟩
      have HT := Aside0.mk hT
      by_cases htk : T < (k : Int)
      ·have q3 : decide (T < (k : Int)) = true := decide_eq_true htk
       have HE := Aside0.mk (show NW = EN by rw [← HEN.out,HNW.out];exact (if_pos (.inr (by rw [hT];exact htk))).symm)
       clear hen htk hT
       go_wp2_with (go_at_call 60;(with_reducible refine (HS7.out.pi.top HINV3.out HNN.out).mono ?_);rintro e w8 ⟨rfl,hb⟩;rw [HT.out];have HS8 := Aside0.mk (HS7.out.below hb);have fz : ∀ j,w8.frozen? ⟨b,j,none⟩ = false := (fun j => blk_frozen HS8.out.pi.box j);have y4 := (blk_cell HS8.out.pi.box 4).trans rfl;clear hb)
       refine bodyPost_end (results_none rfl _ _ _) rfl ?_
       exact ⟨rfl,HE.out ▸ HEND.out _ _ (HS8.out.entry NW)⟩
      ·have q3 : decide (T < (k : Int)) = false := decide_eq_false htk
       have HE := Aside0.mk (show en = EN by rw [← HEN.out];exact (if_neg (by rw [hT];omega)).symm)
       clear hen htk hT
       go_wp2_with (go_at_call 60;(with_reducible refine (HS7.out.pi.top HINV3.out HNN.out).mono ?_);rintro e w8 ⟨rfl,hb⟩;rw [HT.out];have HS8 := Aside0.mk (HS7.out.below hb);clear hb)
       refine bodyPost_end (results_none rfl _ _ _) rfl ?_
       exact ⟨rfl,HE.out ▸ HEND.out _ _ HS8.out⟩
end
end Go.Proofs.Ytofmlajanopniaa.Li
