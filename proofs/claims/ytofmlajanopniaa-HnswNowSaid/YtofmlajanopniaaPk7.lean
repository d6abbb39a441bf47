/- Texts of this claim,one behind the other: words,walks,plain laws. No condition. -/
import Derived.Test.YtofmlajanopniaaPk1
import Derived.Test.YtofmlajanopniaaPk6
import Derived.Test.YtofmlajanopniaaPk5
set_option linter.unusedVariables false
set_option linter.unusedSimpArgs false
namespace Go.Proofs.Ytofmlajanopniaa.Li
open Go.RowKit Go.Maps Go.Proofs.YtofmlajanopniaaW.PrintWords Go.Proofs.YtofmlajanopniaaW.PrintLast Go.Proofs.YtofmlajanopniaaW.PrintMore Go.Proofs.Ytofmlajanopniaa.Q Go.Proofs.Ytofmlajanopniaa.Tk
def hsw.T19 : Bool × List (List Nat × List Nat) := (true,[([],[]),([0],[0]),([1],[1]),([2],[2]),([],[]),([4],[4]),([],[]),([6],[6]),([7],[7]),([8],[8]),([],[]),([10],[10]),([3,5,9,11],[3,5,9,11]),([12,12,0,1,2,3,4,5,6,7,8,9,10,11,12],[12])])
def hsw.B19 : List Nat := [0,1,3,7,0,16,0,64,192,448,0,1024,4095,8191]
theorem hsw.tab19 : rtab .any (opsOf Try.f57 19) = hsw.T19 := by kernel_rfl
theorem hsw.bits19 : waitsOk hsw.T19.2 hsw.B19 = true := by kernel_rfl
def hsw.T20 : Bool × List (List Nat × List Nat) := (true,[([],[]),([0],[0]),([1],[1]),([2],[2]),([],[]),([],[]),([5],[5]),([3,4,6],[3,4,6])])
def hsw.B20 : List Nat := [0,1,3,7,0,0,32,127]
theorem hsw.tab20 : rtab .any (opsOf Try.f57 20) = hsw.T20 := by kernel_rfl
theorem hsw.bits20 : waitsOk hsw.T20.2 hsw.B20 = true := by kernel_rfl
def hsw.T22 : Bool × List (List Nat × List Nat) := (true,[([],[]),([0],[0]),([1],[1]),([2],[2]),([],[]),([4],[4]),([5],[5]),([],[]),([3,6,7,0,1,2,3,4,5,6,7],[3,6,7])])
def hsw.B22 : List Nat := [0,1,3,7,0,16,48,0,255]
theorem hsw.tab22 : rtab .any (opsOf Try.f57 22) = hsw.T22 := by kernel_rfl
theorem hsw.bits22 : waitsOk hsw.T22.2 hsw.B22 = true := by kernel_rfl
def hsw.T23 : Bool × List (List Nat × List Nat) := (true,[([],[]),([0],[0]),([1],[1]),([2],[2]),([3],[3]),([4],[4]),([5],[5]),([6,5],[5,6]),([7,5],[5,7]),([8,5],[5,8]),([5],[5]),([10,5,5],[5,10]),([9,11,5],[5,9,11]),([5,12],[5,12])])
def hsw.B23 : List Nat := [0,1,3,7,15,31,63,127,255,511,63,1087,4095,8191]
theorem hsw.tab23 : rtab .any (opsOf Try.f57 23) = hsw.T23 := by kernel_rfl
theorem hsw.bits23 : waitsOk hsw.T23.2 hsw.B23 = true := by kernel_rfl
def mendIf (keep : List Int) (nodes : List Nd) (lk a : Int) (n : Nd) (s : Gr) (j : Nat) : Gr := if staysN keep n = true then mendTo keep nodes lk a n s j else s
theorem PS.up {X X' : Nat → Prop} {w0 w wr wb w' : World} {b g mb : Nat} {lk wd en lk' wd' en' : Int} {s s' : Gr} {n n' : Nat} {f f' : Int → Option Int} (h : PS X w0 w wr b g mb lk wd en s n f) (hb : Below wr.heap.size wr wb) (hX : ∀ k,X k → X' k) (h2 : PS X' w0 wb w' b g mb lk' wd' en' s' n' f') : PS X w0 w w' b g mb lk' wd' en' s' n' f' :=
 ⟨h2.pi.less hX,(h.keep.trans (h.pi.keepB hb)).trans (h2.keep.less hX)⟩
theorem PI.monoN {X : Nat → Prop} {w0 w : World} {b g mb : Nat} {lk wd en : Int} {s : Gr} {n n' : Nat} {f f' : Int → Option Int} (h : PI X w0 w b g mb lk wd en s n f) (hn : n ≤ n') (hf : f = f') : PI X w0 w b g mb lk wd en s n' f' := hf ▸ ⟨h.box,h.map.mono hn,h.gr,h.b0,h.m0,h.bX,h.mX⟩
section
variable {X : Nat → Prop} {w0 w : World} {b : Nat} {n : Nat}
set_option maxHeartbeats 64000000 in
set_option maxRecDepth 100000 in
theorem PX.sweep_ {x : Ix} (h : PX X w0 w b x n) (ho : IxOk x n) (hn : n ≤ 90000) (aK : Option Addr) (cK : Nat) (keep : List Int) (hk : Kd.C (Kd.int .u64) w aK keep.length keep) (hkl : keep.length ≤ 100000) :
  Calls Try.prog 57 #[.pointer (some ⟨b,0,none⟩),.slice aK keep.length cK] w fun e w' => e = .returned (.int .i64 (wentL keep x.g.l)) ∧ PX X w0 w' b (x.sweep keep) n ∧ KeepX X w w' := by
 have hu := Try.underlying107
 have hu2 := Try.underlying37
 have hu3 := Try.underlying26
 have hmm := @run_makeMap Try.prog
 obtain ⟨s,lk,wd_,en⟩ := x
 obtain ⟨g,mb,hP⟩ := h
 obtain ⟨nodes,hnodes⟩ : ∃ z,s.l = z := ⟨_,rfl⟩
 have HP := Aside0.mk hP
 have HV := Aside0.mk (show Inv s n from ho.inv)
 have HLK := Aside0.mk (show 1 ≤ lk ∧ lk ≤ 8 from ho.lk)
 have HIDS := Aside0.mk (show ∀ nd ∈ nodes,(Lit.int .u32 nd.id).wf = true by rw [← hnodes];exact ho.ids)
 have HN := Aside0.mk hn
 have HKP := Aside0.mk (And.intro hk hkl)
 have HNL := Aside0.mk (show nodes.length ≤ n ∧ nodes.length ≤ 90000 by have := ho.inv.len;rw [← hnodes];exact ⟨this,Nat.le_trans this hn⟩)
 have HGOOD : Aside0 (Good ⟨0,nodes⟩) := ⟨by rw [← hnodes];exact ⟨ho.inv.good.lv1,fun i n j ls h1 h2 => ho.inv.good.to_ i n j ls h1 h2⟩⟩
 have HNI : Aside0 (∀ (i : Nat) (nd : Nd),nodes[i]? = some nd → (1 ≤ nd.links.length ∧ nd.links.length ≤ 5) ∧ nd.vec.length ≤ 100000 ∧ nd.tags.length ≤ 100000) := ⟨fun i nd hi => by rw [← hnodes] at hi;exact ⟨ho.inv.good.lv1 i nd hi,ho.inv.sm i nd hi⟩⟩
 have HBI : Aside0 (∀ i,Inv ⟨s.m,bares keep (nodes.take i)⟩ n) := ⟨fun i => by
  have h1 : Inv ⟨s.m,nodes⟩ n := by rw [← hnodes];exact ho.inv
  have h2 := bares_inv (keep := keep) h1
  refine ⟨⟨fun k nd hk => ?_,fun k nd j ls hk hj => ?_⟩,h1.m, ?_,fun k nd hk => ?_⟩
  ·obtain ⟨y,hy,hs,rfl⟩ := bares_mem (List.mem_of_getElem? hk)
   have := h2.good.lv1
   obtain ⟨k2,hk2⟩ := List.mem_iff_getElem?.1 (List.mem_map.2 ⟨y,List.mem_filter.2 ⟨List.mem_of_mem_take hy,hs⟩,rfl⟩ : bare y ∈ bares keep nodes)
   exact this k2 _ hk2
  ·obtain ⟨y,hy,hs,rfl⟩ := bares_mem (List.mem_of_getElem? hk)
   have hm := List.mem_of_getElem? hj
   unfold bare at hm
   dsimp only at hm
   rw [(List.mem_replicate.1 hm).2]
   exact ⟨fun t ht => (by cases ht),List.nodup_nil⟩
  ·have h3 := bares_len (keep := keep) (l := nodes.take i)
   have h4 := h1.len
   dsimp only at h4
   rw [List.length_take] at h3
   show (bares keep (nodes.take i)).length ≤ n
   omega
  ·obtain ⟨y,hy,hs,rfl⟩ := bares_mem (List.mem_of_getElem? hk)
   obtain ⟨k2,hk2⟩ := List.mem_iff_getElem?.1 (List.mem_of_mem_take hy)
   exact h1.sm k2 y hk2⟩
 obtain ⟨WE,hWE⟩ : ∃ z : Nat,wentL keep nodes = z := ⟨_,rfl⟩
 have HWE := Aside0.mk hWE
 obtain ⟨ANS,hA⟩ : ∃ z,(⟨s,lk,wd_,en⟩ : Ix).sweep keep = z := ⟨_,rfl⟩
 have HANS := Aside0.mk (show (if WE = 0 then (⟨s,lk,wd_,en⟩ : Ix) else ⟨mendAll keep nodes lk ⟨s.m,bares keep nodes⟩ nodes.length,lk,wd_,enTo (bares keep nodes) (bares keep nodes).length⟩) = ANS by rw [← hA,← hWE,← hnodes];rfl)
 show Calls _ _ _ _ fun e w' => e = .returned (.int .i64 (wentL keep s.l)) ∧ PX X w0 w' b ((⟨s,lk,wd_,en⟩ : Ix).sweep keep) n ∧ KeepX X w w'
 rw [hA,hnodes,hWE]
 have HNS := Aside0.mk hnodes
 have HLN := Aside0.mk (show wrap64 (nodes.length : Int) = (nodes.length : Int) by have := HNL.out.2;unfold wrap64;omega)
 clear hP ho hn hk hkl hnodes hWE hA
 go_enter Try.func57,Try.ntmps57
 obtain ⟨i0,hi0,hzz⟩ := Option.map_eq_some_iff.1 info_int
 simp only [Prod.mk.injEq] at hzz
 have HI0 := Aside0.mk hi0
 have HZZ := Aside0.mk hzz
 clear hi0 hzz
 go_wp2_with (go_at_call 29;(with_reducible refine (HP.out.nodes HV.out HN.out).mono ?_);rintro e w1 ⟨⟨vN,rfl,hv⟩,hb⟩;rw [HNS.out] at hv;have HR1 := Aside0.mk hv;have HB1 := Aside0.mk hb;obtain ⟨aN,cN,rfl⟩ := OwnN.slice hv;obtain ⟨w2,hrun,ho2,hg2⟩ := run_makeSlice_full (P := Try.prog) (w := w1) w1.heap.size 40 3 i0 (.int .i64 0) 1 Try.underlying40 HI0.out HZZ.out.1 HZZ.out.2.1 .i64 .i64 nodes.length (by have := HNL.out;omega) (by rw [HZZ.out.2.2];have := HNL.out;omega) (by have := HNL.out;unfold maxLen;omega) (Nat.le_refl _);have HZ2 := Aside0.mk (ZArr.made ho2 rfl);have HB2 := Aside0.mk ((Only.of_grown hg2 (fun k hk => by cases hk) : Only (fun _ => False) w1 w2).below_of (Below.refl w1.heap.size w1) (fun i hi => hi.elim));clear hv hb ho2 hg2)
 obtain ⟨bs,hbs⟩ : ∃ z,w1.heap.size = z := ⟨_,rfl⟩
 have HBS := Aside0.mk hbs
 rw [hbs] at HZ2
 (try rw [hbs])
 clear hbs hrun
 go_loopg [7,24] nodes.length (fun gk v7 v24 wr => ∃ (i : Nat),v24 = .int .i64 i ∧ v7 = .int .i64 ((wentL keep (nodes.take i) : Nat) : Int) ∧ Aside0 (i ≤ nodes.length ∧ nodes.length - i ≤ gk) ∧ Aside0 (ZArr wr bs (goesUp keep nodes i)) ∧ Aside0 (Below w1.heap.size w1 wr))
 case atStart => exact ⟨0,rfl,rfl,⟨by omega⟩,⟨by rw [goesUp_zero];exact HZ2.out⟩,HB2⟩
 case round =>
  clear HZ2 HB2
  obtain ⟨i,rfl,rfl,HI,HZ,HB⟩ := hrel
  by_cases hi : i < nodes.length
  ·have q1 : decide ((i : Int) < (nodes.length : Int)) = true := decide_eq_true (by omega)
   have q1' : (i : Int) < (nodes.length : Int) := by omega
   have HIN := Aside0.mk (show wrap64 ((i : Int) + 1) = ((i + 1 : Nat) : Int) by have := HNL.out;unfold wrap64;omega)
   have HIL := Aside0.mk hi
   obtain ⟨gk,rfl⟩ : ∃ m,gk = m + 1 := ⟨gk - 1,by have := HI.out;omega⟩
   obtain ⟨nd,hnd⟩ : ∃ z,nodes[i]? = some z := ⟨_,List.getElem?_eq_getElem hi⟩
   have HND := Aside0.mk hnd
   obtain ⟨rb,cap,B1,d1,B2,d2,r_,cp,hvn,hnode, -⟩ := OwnN.static HR1.out hnd
   injection hvn with hv1 _ hv3
   subst hv1 hv3
   have hcs := (hnode wr (fun k hk => HB.out.block k hk.2)).1.cells
   obtain ⟨c0,c1,c2,c3,c4,c5⟩ := hcs
   obtain ⟨WT,hWT⟩ : ∃ z : Nat,wentL keep (nodes.take i) = z := ⟨_,rfl⟩
   have HWL := Aside0.mk (show WT ≤ i by have := stays_went (keep := keep) (nodes.take i);rw [List.length_take] at this;omega)
   have hsub : wrap64 ((i : Int) - (WT : Int)) = (i : Int) - (WT : Int) := by have := HWL.out;have := HNL.out;unfold wrap64;omega
   have hwn : wrap64 ((WT : Int) + 1) = (WT : Int) + 1 := by have := HWL.out;have := HNL.out;unfold wrap64;omega
   rw [hWT]
   have HWT := Aside0.mk (show wentL keep (nodes.take (i + 1)) = WT + (if staysN keep nd = true then 0 else 1) by rw [went_snoc hnd,hWT])
   have hgi : (goesUp keep nodes i)[i]? = some 0 := by rw [goesUp_get hi,if_neg (by omega)]
   have HGY : Aside0 (staysN keep nd = true → goesTo keep nodes i = (i : Int) - (WT : Int)) := ⟨fun hs => by rw [goesTo_yes hnd hs];have := stays_went (keep := keep) (nodes.take i);rw [List.length_take] at this;omega⟩
   have HGN : Aside0 (staysN keep nd = false → goesTo keep nodes i = -1) := ⟨goesTo_no hnd⟩
   have HST := Aside0.mk (show staysN keep nd = (nd.un == 0 || keep.any (thereV nd.fr nd.un)) from rfl)
   have HZB := Aside0.mk (HZ.out.keep ((below_alloc (Below.refl wr.heap.size wr) (.cells #[.int .u32 nd.id,.slice B1 nd.vec.length d1,.slice B2 nd.tags.length d2,.int .u64 nd.fr,.int .u64 nd.un,.slice (some ⟨r_,0,none⟩) nd.links.length cp] 37)).block bs (blk_lt HZ.out)))
   have HBB := Aside0.mk (bel_alloc HB.out (.cells #[.int .u32 nd.id,.slice B1 nd.vec.length d1,.slice B2 nd.tags.length d2,.int .u64 nd.fr,.int .u64 nd.un,.slice (some ⟨r_,0,none⟩) nd.links.length cp] 37))
   have HXB := Aside0.mk (heap_alloc_new wr (.cells #[.int .u32 nd.id,.slice B1 nd.vec.length d1,.slice B2 nd.tags.length d2,.int .u64 nd.fr,.int .u64 nd.un,.slice (some ⟨r_,0,none⟩) nd.links.length cp] 37))
   have HLT := Aside0.mk (show bs < wr.heap.size from blk_lt HZ.out)
   have zs := HZB.out.cell hgi
   have fz : ∀ j,(wr.alloc (.cells #[.int .u32 nd.id,.slice B1 nd.vec.length d1,.slice B2 nd.tags.length d2,.int .u64 nd.fr,.int .u64 nd.un,.slice (some ⟨r_,0,none⟩) nd.links.length cp] 37)).frozen? ⟨bs,j,none⟩ = false := fun j => blk_frozen HZB.out j
   clear hi hnd hnode hWT hgi
   go_upto_region 8 with (fail)
   clear c0 c1 c2 c3 c4 c5 zs fz
   obtain ⟨bn,hbn⟩ : ∃ z,wr.heap.size = z := ⟨_,rfl⟩
   rw [hbn] at HXB HLT
   (try rw [hbn])
   generalize wr.alloc (.cells #[.int .u32 nd.id,.slice B1 nd.vec.length d1,.slice B2 nd.tags.length d2,.int .u64 nd.fr,.int .u64 nd.un,.slice (some ⟨r_,0,none⟩) nd.links.length cp] 37) = wb at HZB HBB HXB ⊢
   have HZ5 := Aside0.mk (HZB.out.set i ((i : Int) - (WT : Int)))
   have HB5 := Aside0.mk (below_set (g := bs) (j := i) (v := .int .i64 ((i : Int) - (WT : Int))) HBB.out (by have := HBS.out;omega))
   have HX5 := Aside0.mk ((Below.heap_setCell wb ⟨bs,i,none⟩ (.int .i64 ((i : Int) - (WT : Int))) bn (show bn ≠ bs by have := HLT.out;omega)).trans HXB.out)
   obtain ⟨w5,hw5⟩ : ∃ z,wb.setCell ⟨bs,i,none⟩ (.int .i64 ((i : Int) - (WT : Int))) = z := ⟨_,rfl⟩
   rw [hw5] at HZ5 HB5 HX5 ⊢
   have z4 := (blk_cell HX5.out 4).trans rfl
   clear hbn hw5 HZB HBB HXB
   cases hun : (nd.un == 0) with
   | true =>
    rw [hun] at HST
    have HS := Aside0.mk (show staysN keep nd = true from HST.out)
    have hu0 : nd.un = 0 := by simpa using hun
    rw [hu0] at z4
    clear hun hu0
    go_wp2
    go_roundg gk
    case measure => omega
    case rel => exact ⟨i + 1,congrArg (Value.int .i64) HIN.out,by rw [HWT.out,if_pos HS.out];rfl,⟨by have := HI.out;have := HIL.out;omega⟩,⟨by rw [← goesUp_set,HGY.out HS.out];exact HZ5.out⟩,HB5⟩
   | false =>
    rw [hun] at HST
    have hne : (nd.un = 0) = False := eq_false (by simpa using hun)
    obtain ⟨KA,hKA⟩ : ∃ z,keep.any (thereV nd.fr nd.un) = z := ⟨_,rfl⟩
    rw [hKA] at HST
    have HS := Aside0.mk (show staysN keep nd = KA from HST.out)
    have HKA := Aside0.mk hKA
    clear hKA
    cases KA with
    | true =>
     go_wp2_with (go_at_call 84;(with_reducible refine (containsFuncU_calls 85 enters_kept _ (thereV nd.fr nd.un) (fun W => W.heap[bn]? = some (.cells #[.int .u32 nd.id,.slice B1 nd.vec.length d1,.slice B2 nd.tags.length d2,.int .u64 nd.fr,.int .u64 nd.un,.slice (some ⟨r_,0,none⟩) nd.links.length cp] 37 (0,0))) (fun _ _ h hb => blk_below h hb) aK cK keep (fun v _ W hW => kept_calls v W hW) _ (Kd.C_below HKP.out.1 (bel_trans HB1.out HB5.out)) HKP.out.2 HX5.out).mono ?_);rintro e w6 ⟨rfl,hb⟩;rw [HKA.out];have HZ6 := Aside0.mk (HZ5.out.keep (hb.block bs (blk_lt HZ5.out)));have HB6 := Aside0.mk (bel_trans HB5.out hb);have zs := HZ6.out.cell (i := i) (x := (i : Int) - (WT : Int)) (by rw [List.getElem?_set,if_pos rfl,if_pos (by rw [goesUp_len];exact HIL.out)]);have fz : ∀ j,w6.frozen? ⟨bs,j,none⟩ = false := (fun j => blk_frozen HZ6.out j);clear hb)
     go_roundg gk
     case measure => omega
     case rel => exact ⟨i + 1,congrArg (Value.int .i64) HIN.out,by rw [HWT.out,if_pos HS.out];rfl,⟨by have := HI.out;have := HIL.out;omega⟩,⟨by rw [← goesUp_set,HGY.out HS.out];exact HZ6.out⟩,HB6⟩
    | false =>
     go_wp2_with (go_at_call 84;(with_reducible refine (containsFuncU_calls 85 enters_kept _ (thereV nd.fr nd.un) (fun W => W.heap[bn]? = some (.cells #[.int .u32 nd.id,.slice B1 nd.vec.length d1,.slice B2 nd.tags.length d2,.int .u64 nd.fr,.int .u64 nd.un,.slice (some ⟨r_,0,none⟩) nd.links.length cp] 37 (0,0))) (fun _ _ h hb => blk_below h hb) aK cK keep (fun v _ W hW => kept_calls v W hW) _ (Kd.C_below HKP.out.1 (bel_trans HB1.out HB5.out)) HKP.out.2 HX5.out).mono ?_);rintro e w6 ⟨rfl,hb⟩;rw [HKA.out];have HZ6 := Aside0.mk (HZ5.out.keep (hb.block bs (blk_lt HZ5.out)));have HB6 := Aside0.mk (bel_trans HB5.out hb);have zs := HZ6.out.cell (i := i) (x := (i : Int) - (WT : Int)) (by rw [List.getElem?_set,if_pos rfl,if_pos (by rw [goesUp_len];exact HIL.out)]);have fz : ∀ j,w6.frozen? ⟨bs,j,none⟩ = false := (fun j => blk_frozen HZ6.out j);clear hb)
     go_roundg gk
     case measure => omega
     case rel => exact ⟨i + 1,congrArg (Value.int .i64) HIN.out,by rw [HWT.out,if_neg (by rw [HS.out];simp)];exact congrArg (Value.int .i64) hwn,⟨by have := HI.out;have := HIL.out;omega⟩,⟨by have h1 := HZ6.out.set i (-1);rw [List.set_set,← HGN.out HS.out,goesUp_set] at h1;rw [← HGN.out HS.out];exact h1⟩,⟨below_set HB6.out (by have := HBS.out;omega)⟩⟩
  ·have q1 : decide ((i : Int) < (nodes.length : Int)) = false := decide_eq_false (by omega)
   have q1' : (i < nodes.length) = False := eq_false hi
   have q1'' : decide (i < nodes.length) = false := decide_eq_false hi
   obtain rfl : i = nodes.length := by have := HI.out;omega
   rw [List.take_length,HWE.out]
   clear hi HI
   by_cases hw0 : WE = 0
   ·have HE := Aside0.mk (show (⟨s,lk,wd_,en⟩ : Ix) = ANS by rw [← HANS.out,if_pos hw0])
    subst hw0
    go_wp2
    go_ret
    refine ⟨rfl, ?_,HP.out.keepB (bel_trans HB1.out HB.out)⟩
    rw [← HE.out]
    exact ⟨g,mb,HP.out.below (bel_trans HB1.out HB.out)⟩
   ·have hwz : ((WE : Int) == 0) = false := by simpa using hw0
    have hwz' : ((WE : Int) = 0) = False := eq_false (by omega)
    have hwz'' : (WE = 0) = False := eq_false hw0
    have HE := Aside0.mk (show (⟨mendAll keep nodes lk ⟨s.m,bares keep nodes⟩ nodes.length,lk,wd_,enTo (bares keep nodes) (bares keep nodes).length⟩ : Ix) = ANS by rw [← HANS.out,if_neg hw0])
    clear hw0
    obtain ⟨wA,rfl⟩ : ∃ z,z = wr := ⟨_,rfl⟩
    have hpa := HP.out.later (bel_trans HB1.out HB.out)
    obtain ⟨X2,hX2⟩ : ∃ Z : Nat → Prop,(fun k => X k ∨ (w.heap.size ≤ k ∧ k < wA.heap.size)) = Z := ⟨_,rfl⟩
    rw [hX2] at hpa
    have HPA := Aside0.mk hpa
    have HX2 := Aside0.mk (show (∀ k,X k → X2 k) ∧ (∀ k,since w w1 k → X2 k) ∧ X2 bs by rw [← hX2];exact ⟨fun k hk => .inl hk,fun k hk => .inr ⟨hk.1,Nat.lt_of_lt_of_le hk.2 HB.out.size⟩,.inr ⟨by have := HBS.out;have := HB1.out.size;omega,blk_lt HZ.out⟩⟩)
    have HKA := Aside0.mk (HP.out.keepB (bel_trans HB1.out HB.out))
    have HNK : Aside0 (∀ k,since w w1 k → wA.heap[k]? = w1.heap[k]?) := ⟨fun k hk => HB.out.block k hk.2⟩
    have hbx := blk_below hpa.box (below_trans_alloc (o := .map #[] 0) (below_alloc (Below.refl wA.heap.size wA) (.cells #[.int .u8 s.m,.slice none 0 0] 84)))
    have y0 := (blk_cell hpa.box 0).trans rfl
    have y3 := (blk_cell hbx 3).trans rfl
    have y4 := (blk_cell hbx 4).trans rfl
    have y5 := (blk_cell hbx 5).trans rfl
    have fz : ∀ j,((wA.alloc (.cells #[.int .u8 s.m,.slice none 0 0] 84)).alloc (.map #[] 0)).frozen? ⟨b,j,none⟩ = false := fun j => blk_frozen hbx j
    clear hpa hX2 hbx
    go_wp2_with (go_at_call 12;(with_reducible refine (gnew_calls s.m _).mono ?_);rintro e w3 ⟨rfl,rfl⟩)
    obtain ⟨wB,hwB⟩ : ∃ z,(((((wA.alloc (.cells #[.int .u8 s.m,.slice none 0 0] 84)).alloc (.map #[] 0)).setCell ⟨b,3,none⟩ (.pointer (some ⟨wA.heap.size,0,none⟩))).setCell ⟨b,4,none⟩ (.int .i64 (-1))).setCell ⟨b,5,none⟩ (.map (some (wA.heap.size + 1)))) = z := ⟨_,rfl⟩
    rw [hwB]
    have hkb := (HPA.out.renew hwB).2
    obtain ⟨g2,mb2,hpb⟩ : ∃ g2 mb2,PI X2 w0 wB b g2 mb2 lk wd_ (-1) ⟨s.m,[]⟩ 0 (fun _ => none) := ⟨_,_,(HPA.out.renew hwB).1⟩
    obtain ⟨M,hM⟩ : ∃ z,s.m = z := ⟨_,rfl⟩
    rw [hM] at hpb HBI HE
    have HSB := Aside0.mk (show PS X2 w0 wB wB b g2 mb2 lk wd_ (-1) ⟨M,[]⟩ 0 (nowM ⟨M,[]⟩) from hpb.start)
    have HKB := Aside0.mk (HKA.out.trans (hkb.less HX2.out.1))
    have HNK2 : Aside0 (∀ W,KeepX X2 wB W → ∀ k,since w w1 k → W.heap[k]? = w1.heap[k]?) := ⟨fun W hW k hk => (hW.2 k (HX2.out.2.1 k hk)).trans ((hkb.2 k (HX2.out.2.1 k hk)).trans (HNK.out k hk))⟩
    have HNK3 : Aside0 (∀ k,since w w1 k → X2 k ∧ wB.heap[k]? = w1.heap[k]?) := ⟨fun k hk => ⟨HX2.out.2.1 k hk,HNK2.out wB (KeepX.refl _ _) k hk⟩⟩
    have HZK : Aside0 (∀ W,KeepX X2 wB W → ZArr W bs (goesUp keep nodes nodes.length)) := ⟨fun W hW => HZ.out.keep ((hW.2 bs HX2.out.2.2).trans (hkb.2 bs HX2.out.2.2))⟩
    clear hwB hkb hpb hM y0 y3 y4 y5 fz HPA HB HZ HP HNK hwz hwz' hwz''
    go_wp2
    go_loopg [69] nodes.length (fun gk v69 wr => ∃ (i cnt : Nat),v69 = .int .i64 i ∧ Aside0 (i ≤ nodes.length ∧ nodes.length - i ≤ gk ∧ cnt ≤ i) ∧ Aside0 (PS X2 w0 wB wr b g2 mb2 lk wd_ (enTo (bares keep (nodes.take i)) (bares keep (nodes.take i)).length) ⟨M,bares keep (nodes.take i)⟩ cnt (nowM ⟨M,bares keep (nodes.take i)⟩)))
    case atStart => exact ⟨0,0,rfl,⟨by omega⟩,HSB⟩
    case round =>
     clear HSB
     obtain ⟨i,cnt,rfl,HI,HSr⟩ := hrel
     by_cases hi : i < nodes.length
     ·have q1 : decide ((i : Int) < (nodes.length : Int)) = true := decide_eq_true (by omega)
      have q1' : (i : Int) < (nodes.length : Int) := by omega
      have HIN := Aside0.mk (show wrap64 ((i : Int) + 1) = ((i + 1 : Nat) : Int) by have := HNL.out;unfold wrap64;omega)
      have HIL := Aside0.mk hi
      obtain ⟨gk,rfl⟩ : ∃ m,gk = m + 1 := ⟨gk - 1,by have := HI.out;omega⟩
      obtain ⟨nd,hnd⟩ : ∃ z,nodes[i]? = some z := ⟨_,List.getElem?_eq_getElem hi⟩
      have HND := Aside0.mk hnd
      obtain ⟨rb,cap,B1,d1,B2,d2,r_,cp,hvn,hnode, -⟩ := OwnN.static HR1.out hnd
      injection hvn with hv1 _ hv3
      subst hv1 hv3
      have HNA : Aside0 (∀ W,KeepX X2 wB W → NodeAt W ⟨rb,0,none⟩ i nd B1 d1 B2 d2 r_ cp ∧ NV W nd B1 d1 B2 d2 r_ cp) := ⟨fun W hW => hnode W (HNK2.out W hW)⟩
      obtain ⟨c0,c1,c2,c3,c4,c5⟩ := (HNA.out wr HSr.out.keep).1.cells
      have hzs := (HZK.out (wr.alloc (.cells #[.int .u32 nd.id,.slice B1 nd.vec.length d1,.slice B2 nd.tags.length d2,.int .u64 nd.fr,.int .u64 nd.un,.slice (some ⟨r_,0,none⟩) nd.links.length cp] 37)) (HSr.out.below (below_alloc (Below.refl wr.heap.size wr) _)).keep).cell (i := i) (x := goesTo keep nodes i) (by rw [goesUp_get hi,if_pos hi])
      have hbsn := bares_snoc (keep := keep) hnd
      have HBV := Aside0.mk (HBI.out i)
      obtain ⟨Bi,hBi⟩ : ∃ z,bares keep (nodes.take i) = z := ⟨_,rfl⟩
      rw [hBi] at HSr hbsn HBV
      have HBL := Aside0.mk (show Bi.length ≤ i by have := bares_len (keep := keep) (l := nodes.take i);rw [List.length_take,hBi] at this;omega)
      cases hs : staysN keep nd with
      | false =>
       rw [goesTo_no hnd hs] at hzs
       rw [hs] at hbsn
       have HBS2 := Aside0.mk (show bares keep (nodes.take (i + 1)) = Bi by rw [hbsn];simp)
       clear hi hnd hnode hbsn hBi hs
       go_wp2
       go_roundg gk
       case measure => omega
       case rel => exact ⟨i + 1,cnt,congrArg (Value.int .i64) HIN.out,⟨by have := HI.out;have := HIL.out;omega⟩,⟨by rw [HBS2.out];exact HSr.out.below (below_alloc (Below.refl _ _) _)⟩⟩
      | true =>
       rw [goes_lt hnd hs,hBi] at hzs
       rw [hs] at hbsn
       have HBS2 := Aside0.mk (show bares keep (nodes.take (i + 1)) = Bi ++ [bare nd] by rw [hbsn];simp)
       have q2 : decide ((Bi.length : Int) < 0) = false := decide_eq_false (by omega)
       have HNX := Aside0.mk (HNI.out i nd hnd)
       have HIDN := Aside0.mk (HIDS.out nd (List.mem_of_getElem? hnd))
       clear hi hnd hnode hbsn hBi hs
       go_upto_region 19 with (fail)
       clear c0 c1 c2 c3 c4 c5 hzs q2
       obtain ⟨bn,hbn⟩ : ∃ z,wr.heap.size = z := ⟨_,rfl⟩
       have hxb := heap_alloc_new wr (.cells #[.int .u32 nd.id,.slice B1 nd.vec.length d1,.slice B2 nd.tags.length d2,.int .u64 nd.fr,.int .u64 nd.un,.slice (some ⟨r_,0,none⟩) nd.links.length cp] 37)
       have hbb := below_alloc (Below.refl wr.heap.size wr) (.cells #[.int .u32 nd.id,.slice B1 nd.vec.length d1,.slice B2 nd.tags.length d2,.int .u64 nd.fr,.int .u64 nd.un,.slice (some ⟨r_,0,none⟩) nd.links.length cp] 37)
       have h3 := (HSr.out.pi.later hbb).start
       have hlt : bn < (wr.alloc (.cells #[.int .u32 nd.id,.slice B1 nd.vec.length d1,.slice B2 nd.tags.length d2,.int .u64 nd.fr,.int .u64 nd.un,.slice (some ⟨r_,0,none⟩) nd.links.length cp] 37)).heap.size := by rw [World.size_alloc];omega
       rw [hbn] at hxb
       (try rw [hbn])
       obtain ⟨wb,hwb⟩ : ∃ z,wr.alloc (.cells #[.int .u32 nd.id,.slice B1 nd.vec.length d1,.slice B2 nd.tags.length d2,.int .u64 nd.fr,.int .u64 nd.un,.slice (some ⟨r_,0,none⟩) nd.links.length cp] 37) = z := ⟨_,rfl⟩
       rw [hwb] at hxb hbb h3 hlt ⊢
       obtain ⟨X3,hX3⟩ : ∃ Z : Nat → Prop,(fun k => X2 k ∨ (wr.heap.size ≤ k ∧ k < wb.heap.size)) = Z := ⟨_,rfl⟩
       rw [hX3] at h3
       have HX3 := Aside0.mk (show (∀ k,X2 k → X3 k) ∧ X3 bn by rw [← hX3];exact ⟨fun k hk => .inl hk,.inr ⟨by omega,hlt⟩⟩)
       have HS3 := Aside0.mk h3
       have HXB := Aside0.mk hxb
       have HBB := Aside0.mk hbb
       have HKW : Aside0 (∀ W,KeepX X3 wb W → KeepX X2 wB W) := ⟨fun W hW => (HSr.out.keep.trans (HSr.out.pi.keepB HBB.out)).trans (hW.less HX3.out.1)⟩
       obtain ⟨LM,hLM⟩ : ∃ z : Int,(nd.links.length : Int) - 1 = z := ⟨_,rfl⟩
       have HLM := Aside0.mk hLM
       have hwl : IntKind.i64.wrap ((nd.links.length : Int) - 1) = LM := by have := HNX.out.1;rw [show IntKind.i64.wrap ((nd.links.length : Int) - 1) = wrap64 ((nd.links.length : Int) - 1) from i64_w _];unfold wrap64;omega
       obtain ⟨EN,hEN⟩ : ∃ z,enTo Bi Bi.length = z := ⟨_,rfl⟩
       have HENX := Aside0.mk (show enTo (Bi ++ [bare nd]) (Bi ++ [bare nd]).length = if EN < 0 ∨ topG ⟨M,Bi ++ [bare nd]⟩ EN < LM then (Bi.length : Int) else EN by rw [enTo_snoc Bi (bare nd) M,hEN,← hLM];unfold bare;simp)
       rw [hEN] at HS3
       clear hbn hxb hbb h3 hlt hwb hX3 hLM hEN
       have HSD := Aside0.mk (HS3.out.below (below_drew (Below.refl _ _)))
       clear HS3
       refine start_ (n := 14) (S := fun w' => w'.cell? ⟨b,3,none⟩ = some (.pointer (some ⟨g2,0,none⟩)) ∧ w'.cell? ⟨bn,0,none⟩ = some (.int .u32 nd.id) ∧ w'.cell? ⟨bn,1,none⟩ = some (.slice B1 nd.vec.length d1) ∧ w'.cell? ⟨bn,2,none⟩ = some (.slice B2 nd.tags.length d2) ∧ w'.cell? ⟨bn,3,none⟩ = some (.int .u64 nd.fr) ∧ w'.cell? ⟨bn,5,none⟩ = some (.slice (some ⟨r_,0,none⟩) nd.links.length cp)) (ds := []) (mB_ 14 0) (by kernel_rfl) rfl rfl ⟨((blk_cell HSD.out.pi.box 3).trans rfl),((blk_cell (HSD.out.blk HX3.out.2 HXB.out) 0).trans rfl),((blk_cell (HSD.out.blk HX3.out.2 HXB.out) 1).trans rfl),((blk_cell (HSD.out.blk HX3.out.2 HXB.out) 2).trans rfl),((blk_cell (HSD.out.blk HX3.out.2 HXB.out) 3).trans rfl),((blk_cell (HSD.out.blk HX3.out.2 HXB.out) 5).trans rfl)⟩ (fun hHeld => ?_)
       refine with_tabW hsw.tab19 hsw.bits19 (fun HT_ HW_ => ?_)
       generalize wb.drew = wd at HSD hHeld ⊢
       iterate 6 (refine pn_ 0 [(0,79,1),(1,80,3),(2,81,7),(4,83,23),(6,85,87),(10,89,1111)] (v := ?_) (a' := ?_) rfl rfl rfl HT_.out (by kernel_rfl) (Or.inl ⟨by rfl, ?_⟩) ?_ ?_;rotate_left;(· intro w';go_simp;with_reducible rfl);rotate_left;(· simp only [Act.put,sT_,sZ_,sS_,i64_w,i32_w];rfl))
       iterate 3 (refine tn_ 1111 [(3,82,1119),(5,84,1151),(7,86,1279)] (v := ?_) (a' := ?_) rfl rfl rfl HT_.out HW_.out (by kernel_rfl) (Or.inl ⟨by rfl, ?_⟩) hHeld ?_ ?_;rotate_left;(· rintro w' ⟨s0,s1,s2,s3,s4,s5⟩;go_simp;with_reducible rfl);rotate_left;(· simp only [Act.put,sT_,sZ_,sS_,i64_w,i32_w];rfl))
       iterate 2 (refine pn_ 1279 [(8,87,1535),(9,88,2047)] (v := ?_) (a' := ?_) rfl rfl rfl HT_.out (by kernel_rfl) (Or.inl ⟨by rfl, ?_⟩) ?_ ?_;rotate_left;(· intro w';go_simp;with_reducible rfl);rotate_left;(· simp only [Act.put,sT_,sZ_,sS_,i64_w,i32_w];rfl))
       refine tn_ 2047 [(11,90,4095)] (v := ?_) (a' := ?_) rfl rfl rfl HT_.out HW_.out (by kernel_rfl) (Or.inl ⟨by rfl, ?_⟩) hHeld ?_ ?_;rotate_left;(· rintro w' ⟨s0,s1,s2,s3,s4,s5⟩;go_simp;with_reducible rfl);rotate_left;(· simp only [Act.put,sT_,sZ_,sS_,i64_w,i32_w];rfl)
       refine one_ (i := 12) (N := some 91) (mB_ 14 8191) rfl rfl (one_of HT_.out (by kernel_rfl)) (by decide) (fun K hK => ?_)
       refine goes_ Try.func13 (by kernel_rfl) rfl #[.pointer (some ⟨g2,0,none⟩),.agg #[.int .u32 nd.id,.slice B1 nd.vec.length d1,.slice B2 nd.tags.length d2],.int .i64 LM,.int .u64 nd.fr] (by rfl) rfl rfl (by simp only [List.map_toArray,List.map_cons,List.map_nil];rfl) ?_
       with_reducible refine (HSD.out.pi.gr.addP HBV.out HN.out nd.id nd.vec nd.tags B1 d1 B2 d2 ((HNA.out _ (HKW.out _ HSD.out.keep)).2.told (by have := HNX.out.1;omega)).1 ((HNA.out _ (HKW.out _ HSD.out.keep)).2.told (by have := HNX.out.1;omega)).2.1 ((HNA.out _ (HKW.out _ HSD.out.keep)).2.told (by have := HNX.out.1;omega)).2.2.1 ((HNA.out _ (HKW.out _ HSD.out.keep)).2.told (by have := HNX.out.1;omega)).2.2.2 HNX.out.2.1 HNX.out.2.2 LM nd.fr).mono ?_
       rintro e w4 ⟨rfl,hG,hK⟩
       refine ⟨_,rfl, ?_⟩
       have HS4 := Aside0.mk (HSD.out.op hG hK rfl)
       clear hG hK
       refine hK.out _ _ ⟨((blk_cell HS4.out.pi.box 3).trans rfl),((blk_cell (HS4.out.blk HX3.out.2 HXB.out) 0).trans rfl),((blk_cell (HS4.out.blk HX3.out.2 HXB.out) 1).trans rfl),((blk_cell (HS4.out.blk HX3.out.2 HXB.out) 2).trans rfl),((blk_cell (HS4.out.blk HX3.out.2 HXB.out) 3).trans rfl),((blk_cell (HS4.out.blk HX3.out.2 HXB.out) 5).trans rfl)⟩ (fun hHeld => ?_)
       clear hK K
       refine norm_ (a' := ?_) ?_ ?_
       rotate_left
       ·show Act.put _ (some 91) _ = _
        simp only [Act.put,sT_,sZ_,sS_,i64_w,i32_w]
        rfl
       refine pn_ 8191 [(13,12,16383)] (v := ?_) (a' := ?_) rfl rfl rfl HT_.out (by kernel_rfl) (Or.inl ⟨by rfl, ?_⟩) ?_ ?_;rotate_left;(· intro w';go_simp;with_reducible rfl);rotate_left;(· simp only [Act.put,sT_,sZ_,sS_,i64_w,i32_w];rfl)
       refine done_ (done_of HT_.out (by kernel_rfl)) ?_
       clear hHeld
       clear HSD
       go_wp2
       have HSD := Aside0.mk (HS4.out.below (below_drew (Below.refl _ _)))
       clear HS4
       have HTH := Aside0.mk (show (Gr.add ⟨M,Bi⟩ nd.id nd.vec nd.tags LM nd.fr).there ((Bi.length : Nat) : Int) 0 = true from there_lt (HBV.out.good.add _ _ _ _ _) (by unfold Gr.add;simp))
       have HADD := Aside0.mk (show (Gr.add ⟨M,Bi⟩ nd.id nd.vec nd.tags LM nd.fr).until_ Bi.length nd.un = ⟨M,Bi ++ [bare nd]⟩ by rw [← HLM.out];exact bare_add HNX.out.1)
       refine start_ (n := 8) (S := fun w' => w'.cell? ⟨b,3,none⟩ = some (.pointer (some ⟨g2,0,none⟩)) ∧ w'.cell? ⟨bn,4,none⟩ = some (.int .u64 nd.un)) (ds := []) (mB_ 8 0) (by kernel_rfl) rfl rfl ⟨((blk_cell HSD.out.pi.box 3).trans rfl),((blk_cell (HSD.out.blk HX3.out.2 HXB.out) 4).trans rfl)⟩ (fun hHeld => ?_)
       refine with_tabW hsw.tab20 hsw.bits20 (fun HT_ HW_ => ?_)
       generalize w4.drew = wd at HSD hHeld ⊢
       iterate 5 (refine pn_ 0 [(0,92,1),(1,93,3),(2,94,7),(4,96,23),(5,97,55)] (v := ?_) (a' := ?_) rfl rfl rfl HT_.out (by kernel_rfl) (Or.inl ⟨by rfl, ?_⟩) ?_ ?_;rotate_left;(· intro w';go_simp;with_reducible rfl);rotate_left;(· simp only [Act.put,sT_,sZ_,sS_,i64_w,i32_w];rfl))
       iterate 2 (refine tn_ 55 [(3,95,63),(6,98,127)] (v := ?_) (a' := ?_) rfl rfl rfl HT_.out HW_.out (by kernel_rfl) (Or.inl ⟨by rfl, ?_⟩) hHeld ?_ ?_;rotate_left;(· rintro w' ⟨s0,s1⟩;go_simp;with_reducible rfl);rotate_left;(· simp only [Act.put,sT_,sZ_,sS_,i64_w,i32_w];rfl))
       refine one_ (i := 7) (N := some 99) (mB_ 8 255) rfl rfl (one_of HT_.out (by kernel_rfl)) (by decide) (fun K hK => ?_)
       refine goes_ Try.func40 (by kernel_rfl) rfl #[.pointer (some ⟨g2,0,none⟩),.int .i64 (Bi.length : Int),.int .u64 nd.un] (by rfl) rfl rfl (by simp only [List.map_toArray,List.map_cons,List.map_nil];rfl) ?_
       with_reducible refine (HSD.out.pi.gr.untilP Bi.length nd.un HTH.out).mono ?_
       rintro e w5 ⟨rfl,hG,hK⟩
       refine ⟨_,rfl, ?_⟩
       rw [HADD.out] at hG
       have HS5 := Aside0.mk (HSD.out.op hG hK rfl)
       clear hG hK
       refine hK.out _ _ ⟨((blk_cell HS5.out.pi.box 3).trans rfl),((blk_cell (HS5.out.blk HX3.out.2 HXB.out) 4).trans rfl)⟩ (fun hHeld => ?_)
       clear hK K
       refine norm_ (a' := ?_) ?_ ?_
       rotate_left
       ·show Act.put _ (some 99) _ = _
        simp only [Act.put,sT_,sZ_,sS_,i64_w,i32_w]
        rfl
       refine done_ (done_of HT_.out (by kernel_rfl)) ?_
       clear hHeld
       clear HSD HADD HTH
       have z4 := (blk_cell (HS5.out.blk HX3.out.2 HXB.out) 4).trans rfl
       go_upto_if 102 with (fail)
       obtain ⟨ub,hub⟩ : ∃ z,(nd.un == 0) = z := ⟨_,rfl⟩
       rw [hub]
       have HUB := Aside0.mk hub
       clear hub z4
       go_cut [] (fun wc => ∃ cnt2 : Nat,Aside0 (cnt2 ≤ i + 1) ∧ Aside0 (PS X3 w0 wb wc b g2 mb2 lk wd_ EN ⟨M,Bi ++ [bare nd]⟩ cnt2 (nowM ⟨M,Bi ++ [bare nd]⟩)))
       case first =>
        cases ub with
        | true =>
         have hu0 : (bare nd).un = 0 := by have := HUB.out;unfold bare;simpa using this
         have HNM := Aside0.mk (show nowM ⟨M,Bi ++ [bare nd]⟩ = fun z => if z = nd.id then some (Bi.length : Int) else nowM ⟨M,Bi⟩ z by rw [nowM_snoc,if_pos hu0];rfl)
         clear hu0
         go_wp2
         have HSD := Aside0.mk (HS5.out.below (below_drew (Below.refl _ _)))
         clear HS5
         have HNC := Aside0.mk (show cnt ≤ 90000 by have := HI.out;have := HNL.out;omega)
         have HWF := Aside0.mk (wf_at (k := Bi.length) (N := 100000) (by have := HBL.out;have := HIL.out;have := HNL.out;omega) (Nat.le_refl _))
         refine start_ (n := 9) (S := fun w' => w'.cell? ⟨b,5,none⟩ = some (.map (some mb2)) ∧ w'.cell? ⟨bn,0,none⟩ = some (.int .u32 nd.id)) (ds := []) (mB_ 9 0) (by kernel_rfl) rfl rfl ⟨((blk_cell HSD.out.pi.box 5).trans rfl),((blk_cell (HSD.out.blk HX3.out.2 HXB.out) 0).trans rfl)⟩ (fun hHeld => ?_)
         refine with_tabW hsw.tab22 hsw.bits22 (fun HT_ HW_ => ?_)
         generalize w5.drew = wd at HSD hHeld ⊢
         iterate 6 (refine pn_ 0 [(0,103,1),(1,104,3),(2,105,7),(4,107,23),(5,108,55),(7,110,183)] (v := ?_) (a' := ?_) rfl rfl rfl HT_.out (by kernel_rfl) (Or.inl ⟨by rfl, ?_⟩) ?_ ?_;rotate_left;(· intro w';go_simp;with_reducible rfl);rotate_left;(· simp only [Act.put,sT_,sZ_,sS_,i64_w,i32_w];rfl))
         iterate 2 (refine tn_ 183 [(3,106,191),(6,109,255)] (v := ?_) (a' := ?_) rfl rfl rfl HT_.out HW_.out (by kernel_rfl) (Or.inl ⟨by rfl, ?_⟩) hHeld ?_ ?_;rotate_left;(· rintro w' ⟨s0,s1⟩;go_simp;with_reducible rfl);rotate_left;(· simp only [Act.put,sT_,sZ_,sS_,i64_w,i32_w];rfl))
         refine one_ (i := 8) (N := none) (mB_ 9 511) rfl rfl (one_of HT_.out (by kernel_rfl)) (by decide) (fun K hK => ?_)
         obtain ⟨w6,hrun,hm,hO⟩ := HSD.out.pi.map.store (by have := HNC.out;omega) HIDN.out HWF.out
         have HS6 := Aside0.mk (HSD.out.put hm hO)
         clear hm hO
         refine skip_ (w1 := ?_) (by rfl) rfl ?_ ?_
         rotate_left
         ·go_simp
          rfl
         clear hrun
         refine hK.out _ _ ⟨((blk_cell HS6.out.pi.box 5).trans rfl),((blk_cell (HS6.out.blk HX3.out.2 HXB.out) 0).trans rfl)⟩ (fun hHeld => ?_)
         clear hK K
         refine done_ (done_of HT_.out (by kernel_rfl)) ?_
         clear hHeld
         clear HSD
         go_wp2
         go_meet
         case rel => exact ⟨cnt + 1,⟨by have := HI.out;omega⟩,⟨by rw [HNM.out];exact HS6.out⟩⟩
        | false =>
         have hu0 : ¬ (bare nd).un = 0 := by have := HUB.out;unfold bare;simpa using this
         have HNM := Aside0.mk (show nowM ⟨M,Bi ++ [bare nd]⟩ = nowM ⟨M,Bi⟩ by rw [nowM_snoc,if_neg hu0])
         clear hu0
         go_wp2
         go_meet
         case rel => exact ⟨cnt,⟨by have := HI.out;omega⟩,⟨by rw [HNM.out];exact HS5.out⟩⟩
       case rest =>
        clear HS5
        obtain ⟨wc,rfl⟩ : ∃ z,z = wc := ⟨_,rfl⟩
        obtain ⟨cnt2,HC2,HSc⟩ := hcut
        have HBV2 := Aside0.mk (show Inv ⟨M,Bi ++ [bare nd]⟩ n by have := HBI.out (i + 1);rw [HBS2.out] at this;exact this)
        by_cases hen : EN < 0
        ·have q3 : decide (EN < 0) = true := decide_eq_true hen
         have HENY := Aside0.mk (show enTo (Bi ++ [bare nd]) (Bi ++ [bare nd]).length = (Bi.length : Int) by rw [HENX.out,if_pos (.inl hen)])
         clear hen
         go_wp2
         have HSD := Aside0.mk (HSc.out.below (below_drew (Below.refl _ _)))
         clear HSc
         refine start_ (n := 14) (S := fun w' => w'.cell? ⟨b,4,none⟩ = some (.int .i64 EN) ∧ w'.cell? ⟨bn,5,none⟩ = some (.slice (some ⟨r_,0,none⟩) nd.links.length cp)) (ds := []) (mB_ 14 0) (by kernel_rfl) rfl rfl ⟨((blk_cell HSD.out.pi.box 4).trans rfl),((blk_cell (HSD.out.blk HX3.out.2 HXB.out) 5).trans rfl)⟩ (fun hHeld => ?_)
         refine with_tabW hsw.tab23 hsw.bits23 (fun HT_ HW_ => ?_)
         generalize wc.drew = we at HSD hHeld ⊢
         iterate 3 (refine pn_ 0 [(0,111,1),(1,112,3),(2,113,7)] (v := ?_) (a' := ?_) rfl rfl rfl HT_.out (by kernel_rfl) (Or.inl ⟨by rfl, ?_⟩) ?_ ?_;rotate_left;(· intro w';go_simp;with_reducible rfl);rotate_left;(· simp only [Act.put,sT_,sZ_,sS_,i64_w,i32_w];rfl))
         refine tn_ 7 [(3,114,15)] (v := ?_) (a' := ?_) rfl rfl rfl HT_.out HW_.out (by kernel_rfl) (Or.inl ⟨by rfl, ?_⟩) hHeld ?_ ?_;rotate_left;(· rintro w' ⟨s0,s1⟩;go_simp;with_reducible rfl);rotate_left;(· simp only [Act.put,sT_,sZ_,sS_,i64_w,i32_w];rfl)
         iterate 2 (refine pn_ 15 [(4,115,31),(5,116,63)] (v := ?_) (a' := ?_) rfl rfl rfl HT_.out (by kernel_rfl) (Or.inl ⟨by rfl, ?_⟩) ?_ ?_;rotate_left;(· intro w';go_simp;with_reducible rfl);rotate_left;(· simp only [Act.put,sT_,sZ_,sS_,i64_w,i32_w];rfl))
         iterate 7 (refine pn_ 63 [(6,117,127),(7,118,255),(8,119,511),(9,120,1023),(10,121,2047),(11,122,4095),(12,123,8191)] (v := undef) (a' := ?_) rfl rfl rfl HT_.out (by kernel_rfl) (Or.inr ⟨by rfl,rfl⟩) ?_ ?_;rotate_left;(· simp only [Act.put,sT_,sZ_,sS_,i64_w,i32_w];rfl))
         refine pn_ 8191 [(13,124,16383)] (v := ?_) (a' := ?_) rfl rfl rfl HT_.out (by kernel_rfl) (Or.inl ⟨by rfl, ?_⟩) ?_ ?_;rotate_left;(· intro w';go_simp;with_reducible rfl);rotate_left;(· simp only [Act.put,sT_,sZ_,sS_,i64_w,i32_w];rfl)
         refine done_ (done_of HT_.out (by kernel_rfl)) ?_
         clear hHeld
         have y4 := (blk_cell HSD.out.pi.box 4).trans rfl
         have fz : ∀ j,we.frozen? ⟨b,j,none⟩ = false := fun j => blk_frozen HSD.out.pi.box j
         go_wp2
         go_roundg gk
         case measure => omega
         case rel => exact ⟨i + 1,cnt2,congrArg (Value.int .i64) HIN.out,⟨by have := HI.out;have := HIL.out;have := HC2.out;omega⟩,⟨by rw [HBS2.out,HENY.out];exact HSr.out.up HBB.out HX3.out.1 (HSD.out.entry (Bi.length : Int))⟩⟩
        ·have q3 : decide (EN < 0) = false := decide_eq_false hen
         obtain ⟨T,hT⟩ : ∃ z,topG ⟨M,Bi ++ [bare nd]⟩ EN = z := ⟨_,rfl⟩
         have HT := Aside0.mk hT
         by_cases htl : T < LM
         ·have q4 : decide (T < LM) = true := decide_eq_true htl
          have HENY := Aside0.mk (show enTo (Bi ++ [bare nd]) (Bi ++ [bare nd]).length = (Bi.length : Int) by rw [HENX.out,if_pos (.inr (by rw [hT];exact htl))])
          clear hen htl hT
          go_wp2
          have HSD := Aside0.mk (HSc.out.below (below_drew (Below.refl _ _)))
          clear HSc
          refine start_ (n := 14) (S := fun w' => w'.cell? ⟨b,4,none⟩ = some (.int .i64 EN) ∧ w'.cell? ⟨bn,5,none⟩ = some (.slice (some ⟨r_,0,none⟩) nd.links.length cp)) (ds := []) (mB_ 14 0) (by kernel_rfl) rfl rfl ⟨((blk_cell HSD.out.pi.box 4).trans rfl),((blk_cell (HSD.out.blk HX3.out.2 HXB.out) 5).trans rfl)⟩ (fun hHeld => ?_)
          refine with_tabW hsw.tab23 hsw.bits23 (fun HT_ HW_ => ?_)
          generalize wc.drew = we at HSD hHeld ⊢
          iterate 3 (refine pn_ 0 [(0,111,1),(1,112,3),(2,113,7)] (v := ?_) (a' := ?_) rfl rfl rfl HT_.out (by kernel_rfl) (Or.inl ⟨by rfl, ?_⟩) ?_ ?_;rotate_left;(· intro w';go_simp;with_reducible rfl);rotate_left;(· simp only [Act.put,sT_,sZ_,sS_,i64_w,i32_w];rfl))
          refine tn_ 7 [(3,114,15)] (v := ?_) (a' := ?_) rfl rfl rfl HT_.out HW_.out (by kernel_rfl) (Or.inl ⟨by rfl, ?_⟩) hHeld ?_ ?_;rotate_left;(· rintro w' ⟨s0,s1⟩;go_simp;with_reducible rfl);rotate_left;(· simp only [Act.put,sT_,sZ_,sS_,i64_w,i32_w];rfl)
          iterate 4 (refine pn_ 15 [(4,115,31),(5,116,63),(6,117,127),(10,121,1151)] (v := ?_) (a' := ?_) rfl rfl rfl HT_.out (by kernel_rfl) (Or.inl ⟨by rfl, ?_⟩) ?_ ?_;rotate_left;(· intro w';go_simp;with_reducible rfl);rotate_left;(· simp only [Act.put,sT_,sZ_,sS_,i64_w,i32_w];rfl))
          refine tn_ 1151 [(7,118,1279)] (v := ?_) (a' := ?_) rfl rfl rfl HT_.out HW_.out (by kernel_rfl) (Or.inl ⟨by rfl, ?_⟩) hHeld ?_ ?_;rotate_left;(· rintro w' ⟨s0,s1⟩;go_simp;with_reducible rfl);rotate_left;(· simp only [Act.put,sT_,sZ_,sS_,i64_w,i32_w];rfl)
          iterate 2 (refine pn_ 1279 [(8,119,1535),(9,120,2047)] (v := ?_) (a' := ?_) rfl rfl rfl HT_.out (by kernel_rfl) (Or.inl ⟨by rfl, ?_⟩) ?_ ?_;rotate_left;(· intro w';go_simp;with_reducible rfl);rotate_left;(· simp only [Act.put,sT_,sZ_,sS_,i64_w,i32_w];rfl))
          refine one_ (i := 11) (N := some 122) (mB_ 14 4095) rfl rfl (one_of HT_.out (by kernel_rfl)) (by decide) (fun K hK => ?_)
          refine goes_ Try.func60 (by kernel_rfl) rfl #[.pointer (some ⟨b,0,none⟩)] (by rfl) rfl rfl (by simp only [List.map_toArray,List.map_cons,List.map_nil];rfl) ?_
          with_reducible refine (HSD.out.pi.top HBV2.out HN.out).mono ?_
          rintro e w8 ⟨rfl,hb⟩
          refine ⟨_,rfl, ?_⟩
          rw [HT.out]
          have HS8 := Aside0.mk (HSD.out.below hb)
          clear hb
          refine hK.out _ _ ⟨((blk_cell HS8.out.pi.box 4).trans rfl),((blk_cell (HS8.out.blk HX3.out.2 HXB.out) 5).trans rfl)⟩ (fun hHeld => ?_)
          clear hK K
          refine norm_ (a' := ?_) ?_ ?_
          rotate_left
          ·show Act.put _ (some 122) _ = _
           simp only [Act.put,sT_,sZ_,sS_,i64_w,i32_w]
           rfl
          iterate 2 (refine pn_ 4095 [(12,123,8191),(13,124,16383)] (v := ?_) (a' := ?_) rfl rfl rfl HT_.out (by kernel_rfl) (Or.inl ⟨by rfl, ?_⟩) ?_ ?_;rotate_left;(· intro w';go_simp;with_reducible rfl);rotate_left;(· simp only [Act.put,sT_,sZ_,sS_,i64_w,i32_w];rfl))
          refine done_ (done_of HT_.out (by kernel_rfl)) ?_
          clear hHeld
          clear HSD
          have y4 := (blk_cell HS8.out.pi.box 4).trans rfl
          have fz : ∀ j,w8.frozen? ⟨b,j,none⟩ = false := fun j => blk_frozen HS8.out.pi.box j
          go_wp2
          go_roundg gk
          case measure => omega
          case rel => exact ⟨i + 1,cnt2,congrArg (Value.int .i64) HIN.out,⟨by have := HI.out;have := HIL.out;have := HC2.out;omega⟩,⟨by rw [HBS2.out,HENY.out];exact HSr.out.up HBB.out HX3.out.1 (HS8.out.entry (Bi.length : Int))⟩⟩
         ·have q4 : decide (T < LM) = false := decide_eq_false htl
          have HENY := Aside0.mk (show enTo (Bi ++ [bare nd]) (Bi ++ [bare nd]).length = EN by rw [HENX.out,if_neg (by rw [hT];omega)])
          clear hen htl hT
          go_wp2
          have HSD := Aside0.mk (HSc.out.below (below_drew (Below.refl _ _)))
          clear HSc
          refine start_ (n := 14) (S := fun w' => w'.cell? ⟨b,4,none⟩ = some (.int .i64 EN) ∧ w'.cell? ⟨bn,5,none⟩ = some (.slice (some ⟨r_,0,none⟩) nd.links.length cp)) (ds := []) (mB_ 14 0) (by kernel_rfl) rfl rfl ⟨((blk_cell HSD.out.pi.box 4).trans rfl),((blk_cell (HSD.out.blk HX3.out.2 HXB.out) 5).trans rfl)⟩ (fun hHeld => ?_)
          refine with_tabW hsw.tab23 hsw.bits23 (fun HT_ HW_ => ?_)
          generalize wc.drew = we at HSD hHeld ⊢
          iterate 3 (refine pn_ 0 [(0,111,1),(1,112,3),(2,113,7)] (v := ?_) (a' := ?_) rfl rfl rfl HT_.out (by kernel_rfl) (Or.inl ⟨by rfl, ?_⟩) ?_ ?_;rotate_left;(· intro w';go_simp;with_reducible rfl);rotate_left;(· simp only [Act.put,sT_,sZ_,sS_,i64_w,i32_w];rfl))
          refine tn_ 7 [(3,114,15)] (v := ?_) (a' := ?_) rfl rfl rfl HT_.out HW_.out (by kernel_rfl) (Or.inl ⟨by rfl, ?_⟩) hHeld ?_ ?_;rotate_left;(· rintro w' ⟨s0,s1⟩;go_simp;with_reducible rfl);rotate_left;(· simp only [Act.put,sT_,sZ_,sS_,i64_w,i32_w];rfl)
          iterate 4 (refine pn_ 15 [(4,115,31),(5,116,63),(6,117,127),(10,121,1151)] (v := ?_) (a' := ?_) rfl rfl rfl HT_.out (by kernel_rfl) (Or.inl ⟨by rfl, ?_⟩) ?_ ?_;rotate_left;(· intro w';go_simp;with_reducible rfl);rotate_left;(· simp only [Act.put,sT_,sZ_,sS_,i64_w,i32_w];rfl))
          refine tn_ 1151 [(7,118,1279)] (v := ?_) (a' := ?_) rfl rfl rfl HT_.out HW_.out (by kernel_rfl) (Or.inl ⟨by rfl, ?_⟩) hHeld ?_ ?_;rotate_left;(· rintro w' ⟨s0,s1⟩;go_simp;with_reducible rfl);rotate_left;(· simp only [Act.put,sT_,sZ_,sS_,i64_w,i32_w];rfl)
          iterate 2 (refine pn_ 1279 [(8,119,1535),(9,120,2047)] (v := ?_) (a' := ?_) rfl rfl rfl HT_.out (by kernel_rfl) (Or.inl ⟨by rfl, ?_⟩) ?_ ?_;rotate_left;(· intro w';go_simp;with_reducible rfl);rotate_left;(· simp only [Act.put,sT_,sZ_,sS_,i64_w,i32_w];rfl))
          refine one_ (i := 11) (N := some 122) (mB_ 14 4095) rfl rfl (one_of HT_.out (by kernel_rfl)) (by decide) (fun K hK => ?_)
          refine goes_ Try.func60 (by kernel_rfl) rfl #[.pointer (some ⟨b,0,none⟩)] (by rfl) rfl rfl (by simp only [List.map_toArray,List.map_cons,List.map_nil];rfl) ?_
          with_reducible refine (HSD.out.pi.top HBV2.out HN.out).mono ?_
          rintro e w8 ⟨rfl,hb⟩
          refine ⟨_,rfl, ?_⟩
          rw [HT.out]
          have HS8 := Aside0.mk (HSD.out.below hb)
          clear hb
          refine hK.out _ _ ⟨((blk_cell HS8.out.pi.box 4).trans rfl),((blk_cell (HS8.out.blk HX3.out.2 HXB.out) 5).trans rfl)⟩ (fun hHeld => ?_)
          clear hK K
          refine norm_ (a' := ?_) ?_ ?_
          rotate_left
          ·show Act.put _ (some 122) _ = _
           simp only [Act.put,sT_,sZ_,sS_,i64_w,i32_w]
           rfl
          iterate 2 (refine pn_ 4095 [(12,123,8191),(13,124,16383)] (v := ?_) (a' := ?_) rfl rfl rfl HT_.out (by kernel_rfl) (Or.inl ⟨by rfl, ?_⟩) ?_ ?_;rotate_left;(· intro w';go_simp;with_reducible rfl);rotate_left;(· simp only [Act.put,sT_,sZ_,sS_,i64_w,i32_w];rfl))
          refine done_ (done_of HT_.out (by kernel_rfl)) ?_
          clear hHeld
          clear HSD
          go_wp2
          go_roundg gk
          case measure => omega
          case rel => exact ⟨i + 1,cnt2,congrArg (Value.int .i64) HIN.out,⟨by have := HI.out;have := HIL.out;have := HC2.out;omega⟩,⟨by rw [HBS2.out,HENY.out];exact HSr.out.up HBB.out HX3.out.1 HS8.out⟩⟩
     ·have q1 : decide ((i : Int) < (nodes.length : Int)) = false := decide_eq_false (by omega)
      have q1' : (i < nodes.length) = False := eq_false hi
      have q1'' : decide (i < nodes.length) = false := decide_eq_false hi
      obtain rfl : i = nodes.length := by have := HI.out;omega
      rw [List.take_length] at HSr
      have HCN := Aside0.mk (show cnt ≤ n by have := HI.out;have := HNL.out;omega)
      have HBV := Aside0.mk (show Inv ⟨M,bares keep nodes⟩ n by have := HBI.out nodes.length;rw [List.take_length] at this;exact this)
      obtain ⟨ENF,hENF⟩ : ∃ z,enTo (bares keep nodes) (bares keep nodes).length = z := ⟨_,rfl⟩
      rw [hENF] at HSr HE
      have HNMF := Aside0.mk (show nowM ⟨M,bares keep nodes⟩ = nowM (mendAll keep nodes lk ⟨M,bares keep nodes⟩ nodes.length) by funext z;unfold nowM;rw [bare_nowG (mendAll_bare (keep := keep) (l := nodes) (lk := lk) ⟨M,bares keep nodes⟩ nodes.length)])
      obtain ⟨fF,hfF⟩ : ∃ z,nowM ⟨M,bares keep nodes⟩ = z := ⟨_,rfl⟩
      rw [hfF] at HSr HNMF
      clear hi HI hENF hfF
      go_wp2
      go_loopg [132] nodes.length (fun gk v132 wr => ∃ (i : Nat),v132 = .int .i64 i ∧ Aside0 (i ≤ nodes.length ∧ nodes.length - i ≤ gk) ∧ Aside0 (PS X2 w0 wB wr b g2 mb2 lk wd_ ENF (mendAll keep nodes lk ⟨M,bares keep nodes⟩ i) cnt fF))
      case atStart => exact ⟨0,rfl,⟨by omega⟩,HSr⟩
      case round =>
       clear HSr
       obtain ⟨i,rfl,HI,HSr⟩ := hrel
       by_cases hi : i < nodes.length
       ·have q1 : decide ((i : Int) < (nodes.length : Int)) = true := decide_eq_true (by omega)
        have q1' : (i : Int) < (nodes.length : Int) := by omega
        have HIN := Aside0.mk (show wrap64 ((i : Int) + 1) = ((i + 1 : Nat) : Int) by have := HNL.out;unfold wrap64;omega)
        have HIL := Aside0.mk hi
        obtain ⟨gk,rfl⟩ : ∃ m,gk = m + 1 := ⟨gk - 1,by have := HI.out;omega⟩
        obtain ⟨nd,hnd⟩ : ∃ z,nodes[i]? = some z := ⟨_,List.getElem?_eq_getElem hi⟩
        have HND := Aside0.mk hnd
        obtain ⟨rb,cap,B1,d1,B2,d2,r_,cp,hvn,hnode,hlists⟩ := OwnN.static HR1.out hnd
        injection hvn with hv1 _ hv3
        subst hv1 hv3
        obtain ⟨c0,c1,c2,c3,c4,c5⟩ := (hnode wr (HNK2.out wr HSr.out.keep)).1.cells
        have HLS : Aside0 (∀ (j : Nat) (ls : List Int),nd.links[j]? = some ls → ∃ A c, ∀ W,KeepX X2 wB W → W.cell? ⟨r_,j,none⟩ = some (.slice A ls.length c) ∧ ls.length ≤ c ∧ Kd.C (Kd.int .i64) W A ls.length ls) := ⟨fun j ls hj => by
         obtain ⟨A,c,hW⟩ := hlists j ls hj
         exact ⟨A,c,fun W hk => hW W (HNK2.out W hk)⟩⟩
        have HZC : Aside0 (∀ W,KeepX X2 wB W → W.cell? ⟨bs,i,none⟩ = some (.int .i64 (goesTo keep nodes i))) := ⟨fun W hW => (HZK.out W hW).cell (by rw [goesUp_get HIL.out,if_pos HIL.out])⟩
        have HNX := Aside0.mk (HNI.out i nd hnd)
        obtain ⟨sI,hsI⟩ : ∃ z,mendAll keep nodes lk ⟨M,bares keep nodes⟩ i = z := ⟨_,rfl⟩
        have HVI := Aside0.mk (show Inv sI n by rw [← hsI];exact mendAll_inv HBV.out i)
        have HMN := Aside0.mk (show mendAll keep nodes lk ⟨M,bares keep nodes⟩ (i + 1) = mendIf keep nodes lk (goesTo keep nodes i) nd sI nd.links.length by
         unfold mendIf
         cases hs : staysN keep nd with
         | true => rw [mendAll_yes hnd hs,hsI];rfl
         | false => rw [mendAll_no hnd hs,hsI];rfl)
        rw [hsI] at HSr
        have HS9 := Aside0.mk (HSr.out.below (below_alloc (Below.refl wr.heap.size wr) (.cells #[.int .u32 nd.id,.slice B1 nd.vec.length d1,.slice B2 nd.tags.length d2,.int .u64 nd.fr,.int .u64 nd.un,.slice (some ⟨r_,0,none⟩) nd.links.length cp] 37)))
        clear hi hnd hnode hlists hsI
        go_wp2
        obtain ⟨w9,hw9⟩ : ∃ z,wr.alloc (.cells #[.int .u32 nd.id,.slice B1 nd.vec.length d1,.slice B2 nd.tags.length d2,.int .u64 nd.fr,.int .u64 nd.un,.slice (some ⟨r_,0,none⟩) nd.links.length cp] 37) = z := ⟨_,rfl⟩
        rw [hw9] at HS9 ⊢
        clear hw9 c0 c1 c2 c3 c4 c5 HSr
        obtain ⟨go,rfl⟩ : ∃ z,z = gk := ⟨_,rfl⟩
        go_loopg [140] nd.links.length (fun gk v140 wr => ∃ (j : Nat),v140 = .int .i64 j ∧ Aside0 (j ≤ nd.links.length ∧ nd.links.length - j ≤ gk) ∧ Aside0 (PS X2 w0 wB wr b g2 mb2 lk wd_ ENF (mendIf keep nodes lk (goesTo keep nodes i) nd sI j) cnt fF))
        case atStart => exact ⟨0,rfl,⟨by omega⟩,⟨by unfold mendIf;cases staysN keep nd <;> exact HS9.out⟩⟩
        case round =>
         clear HS9
         obtain ⟨j,rfl,HJ,HSr⟩ := hrel
         by_cases hj : j < nd.links.length
         ·have q2 : decide ((j : Int) < (nd.links.length : Int)) = true := decide_eq_true (by omega)
          have q2' : (j : Int) < (nd.links.length : Int) := by omega
          have HJN := Aside0.mk (show wrap64 ((j : Int) + 1) = ((j + 1 : Nat) : Int) by have := HNX.out.1;unfold wrap64;omega)
          have HJL := Aside0.mk hj
          obtain ⟨gk,rfl⟩ : ∃ m,gk = m + 1 := ⟨gk - 1,by have := HJ.out;omega⟩
          obtain ⟨ls,hls⟩ : ∃ z,nd.links[j]? = some z := ⟨_,List.getElem?_eq_getElem hj⟩
          have HJLS := Aside0.mk hls
          obtain ⟨A,c,hW⟩ := HLS.out j ls hls
          have HW := Aside0.mk hW
          have g5 := (hW wr HSr.out.keep).1
          have g6 := HZC.out wr HSr.out.keep
          cases hs : staysN keep nd with
          | true =>
           have HMJ := Aside0.mk (show mendIf keep nodes lk (goesTo keep nodes i) nd sI (j + 1) = mendG keep nodes lk (mendIf keep nodes lk (goesTo keep nodes i) nd sI j) (goesTo keep nodes i) j ls by unfold mendIf;rw [hs,if_pos rfl,if_pos rfl];show mendG keep nodes lk _ _ j ((nd.links[j]?).getD []) = _;rw [hls];rfl)
           have HVJ := Aside0.mk (show Inv (mendIf keep nodes lk (goesTo keep nodes i) nd sI j) n by unfold mendIf;rw [hs,if_pos rfl];exact mendTo_inv HVI.out _ _ _)
           obtain ⟨z,hz⟩ : ∃ z,goesTo keep nodes i = z := ⟨_,rfl⟩
           have q3 : decide (0 ≤ z) = true := decide_eq_true (by rw [← hz,goesTo_yes HND.out hs];omega)
           rw [hz] at g6 HMJ HVJ HSr
           have HZE := Aside0.mk hz
           clear hj hls hW hs hz
           go_wp2_with (go_at_call 86;have hc := HSr.out.mend HLK.out HVJ.out HN.out HGOOD.out HNL.out.2 HR1.out HNK3.out (some ⟨bs,0,none⟩) nodes.length (goesUp keep nodes nodes.length) (fun W hW => (HZK.out W hW).C (by rw [goesUp_len];have := HNL.out.2;omega)) ⟨goesUp_len _ _ _,fun i hi => by rw [goesUp_get hi,if_pos hi]⟩ z j A c ls (fun W hW => (HW.out W hW).2.2) HND.out HJLS.out;rw [goesUp_len] at hc;(with_reducible refine hc.mono ?_);rintro e w8 ⟨rfl,hS⟩;have HS8 := Aside0.mk hS;clear hS)
           go_roundg gk
           case measure => omega
           case rel => exact ⟨j + 1,congrArg (Value.int .i64) HJN.out,⟨by have := HJ.out;have := HJL.out;omega⟩,⟨by rw [HZE.out,HMJ.out];exact HS8.out⟩⟩
          | false =>
           have HMJ := Aside0.mk (show mendIf keep nodes lk (goesTo keep nodes i) nd sI (j + 1) = mendIf keep nodes lk (goesTo keep nodes i) nd sI j by unfold mendIf;rw [hs];rfl)
           rw [goesTo_no HND.out hs] at g6
           clear hj hls hW hs
           go_wp2
           go_roundg gk
           case measure => omega
           case rel => exact ⟨j + 1,congrArg (Value.int .i64) HJN.out,⟨by have := HJ.out;have := HJL.out;omega⟩,⟨by rw [HMJ.out];exact HSr.out⟩⟩
         ·have q2 : decide ((j : Int) < (nd.links.length : Int)) = false := decide_eq_false (by omega)
          have q2' : (j < nd.links.length) = False := eq_false hj
          have q2'' : decide (j < nd.links.length) = false := decide_eq_false hj
          obtain rfl : j = nd.links.length := by have := HJ.out;omega
          clear hj
          go_wp2
          go_roundg go
          case measure => omega
          case rel => exact ⟨i + 1,congrArg (Value.int .i64) HIN.out,⟨by have := HI.out;have := HIL.out;omega⟩,⟨by rw [HMN.out];exact HSr.out⟩⟩
       ·have q1 : decide ((i : Int) < (nodes.length : Int)) = false := decide_eq_false (by omega)
        have q1' : (i < nodes.length) = False := eq_false hi
        have q1'' : decide (i < nodes.length) = false := decide_eq_false hi
        obtain rfl : i = nodes.length := by have := HI.out;omega
        clear hi
        go_wp2
        go_ret
        refine ⟨rfl, ?_,HKB.out.trans (HSr.out.keep.less HX2.out.1)⟩
        rw [← HE.out]
        exact ⟨g2,mb2,(HSr.out.pi.less HX2.out.1).monoN HCN.out HNMF.out⟩
end
end Go.Proofs.Ytofmlajanopniaa.Li
namespace Go.Proofs.Ytofmlajanopniaa.Li
open Go.RowKit Go.Maps Go.Proofs.YtofmlajanopniaaW.PrintWords Go.Proofs.YtofmlajanopniaaW.PrintLast Go.Proofs.YtofmlajanopniaaW.PrintMore Go.Proofs.Ytofmlajanopniaa.Q Go.Proofs.Ytofmlajanopniaa.Tk
section
variable {X : Nat → Prop} {w0 w : World} {b : Nat} {x : Ix} {n : Nat}
theorem PX.len_ (h : PX X w0 w b x n) : Calls Try.prog 56 #[.pointer (some ⟨b,0,none⟩)] w fun e w' => e = .returned (.int .i64 x.g.l.length) ∧ Below w.heap.size w w' := by obtain ⟨g,mb,h⟩ := h;exact h.len_
theorem PX.nodes_ (h : PX X w0 w b x n) (ho : IxOk x n) (hn : n ≤ 90000) : Calls Try.prog 29 #[.pointer (some ⟨b,0,none⟩)] w fun e w' => (∃ v,e = .returned v ∧ OwnN w w' v x.g.l) ∧ Below w.heap.size w w' := by obtain ⟨g,mb,h⟩ := h;exact h.nodes ho.inv hn
theorem PX.search_ (h : PX X w0 w b x n) (ho : IxOk x n) (hn : n ≤ 90000) (A : Option Addr) (c N : Nat) (q : List Int) (hqN : q.length = N) (hq : Kd.C (Kd.int .i32) w A N q) (hqc : N ≤ c) (F0 : Option Addr) (d0 n0 : Nat) (F1 : Option Addr) (d1 n1 : Nat) (F2 : Option Addr) (d2 n2 : Nat) (f : Fi)
  (e0 : f.f0.length = n0) (e1 : f.f1.length = n1) (e2 : f.f2.length = n2) (hf0 : Kd.string.C w F0 n0 f.f0) (hf1 : Kd.string.C w F1 n1 f.f1) (hf2 : Kd.string.C w F2 n2 f.f2) (hfl : n0 ≤ 100000 ∧ n1 ≤ 100000 ∧ n2 ≤ 100000) (k width v : Int) (R : List H) (hR : x.search q f k width v = R) :
  Calls Try.prog 55 #[.pointer (some ⟨b,0,none⟩),.slice A N c,.agg #[.slice F0 n0 d0,.slice F1 n1 d1,.slice F2 n2 d2],.int .i64 k,.int .i64 width,.int .u64 v] w fun e w' => (∃ v2,e = .returned v2 ∧ OwnH w' w.heap.size v2 R) ∧ Below w.heap.size w w' := by
 subst hqN e0 e1 e2 hR
 obtain ⟨g,mb,h⟩ := h
 exact h.search ho.inv hn A c q hq hqc F0 d0 F1 d1 F2 d2 f hf0 hf1 hf2 hfl k width v
theorem PX.putL (h : PX (fun _ => False) w0 w b x n) (ho : IxOk x n) (hn : n + 1 ≤ 90000) (id y : Int) (hid : (Lit.int .u32 id).wf = true) (lv v : Int) (hv : v ≠ 0) (x' : Ix) (hx : x.put id [y] [] lv v = x') (N : Nat) (hN : N = n + 1) :
  Calls Try.prog 28 #[.pointer (some ⟨b,0,none⟩),.agg #[.int .u32 id,.slice (some ⟨w.heap.size,0,none⟩) 1 1,.slice none 0 0],.int .i64 lv,.int .u64 v] (w.alloc (.cells #[.int .i32 y] 21)) fun e w' => e = .returned (.tuple #[]) ∧ PX (fun _ => False) w0 w' b x' N := by
 subst hx hN
 have hb := below_alloc (Below.refl w.heap.size w) (.cells #[.int .i32 y] 21)
 have hx := heap_alloc_new w (.cells #[.int .i32 y] 21)
 have hs : w.heap.size < (w.alloc (.cells #[.int .i32 y] 21)).heap.size := by rw [World.size_alloc];omega
 have h2 := h.later hb
 refine (h2.put_ ho hn id [y] [] (some ⟨w.heap.size,0,none⟩) 1 none 0 (by simp) (by simp) (by simp) (by simp) (fun W hK _ => ⟨?_,Kd.C_nil _ _⟩) hid lv v hv).mono fun e w' ⟨he,hp,_⟩ => ⟨he,hp.less (fun k hk => hk.elim)⟩
 exact row_lit (k := .i32) (t := 21) [y] (by simp) ((hK.2 w.heap.size (.inr ⟨Nat.le_refl _,hs⟩)).trans hx)
theorem PX.sweepN (h : PX X w0 w b x n) (ho : IxOk x n) (hn : n ≤ 90000) (aK : Option Addr) (cK N : Nat) (keep : List Int) (hN : keep.length = N) (hk : Kd.C (Kd.int .u64) w aK N keep) (hkl : N ≤ 100000) (W : Int) (hW : ((wentL keep x.g.l : Nat) : Int) = W) :
  Calls Try.prog 57 #[.pointer (some ⟨b,0,none⟩),.slice aK N cK] w fun e w' => e = .returned (.int .i64 W) ∧ PX X w0 w' b (x.sweep keep) n ∧ KeepX X w w' := by
 subst hN hW
 exact h.sweep_ ho hn aK cK keep hk hkl
end
theorem own2 (w : World) (a b c d : Int) : OwnH (w.alloc (.cells #[.int .i64 a,.int .u32 b,.int .i64 c,.int .u32 d] 58)) w.heap.size (.slice (some ⟨w.heap.size,0,none⟩) 2 2) [⟨a,b⟩,⟨c,d⟩] := Tk.own_lit w [⟨a,b⟩,⟨c,d⟩] 2 rfl (by omega)
theorem al_len' : ((alX4.g.l.length : Nat) : Int) = 3 := by rw [al_len];rfl
theorem al_went' : ((wentL [] alX4.g.l : Nat) : Int) = 1 := by rw [al_went];rfl
set_option maxHeartbeats 16000000 in
set_option maxRecDepth 100000 in
theorem alive12_calls (w : World) : Calls Try.prog 24 #[] w fun e w' => e = .returned (.bool true) ∧ Below w.heap.size w w' := by
 have hu := Try.underlying26
 have hu2 := Try.underlying68
 have hu3 := Try.underlying58
 go_enter Try.func24,Try.ntmps24
 go_upto_if 7 with (go_at_call 25;(with_reducible refine (hnew_calls 0 2 4 _).mono ?_);rintro e w1 ⟨rfl,rfl⟩)
 have HP0 := Aside0.mk (show PX (fun _ => False) w _ (w.heap.size + 2) alX0 0 from PX.new (Below.refl w.heap.size w) 0 (lkN 2) (wdN 4))
 obtain ⟨b,hb⟩ : ∃ z,w.heap.size + 2 = z := ⟨_,rfl⟩
 obtain ⟨w1,hw1⟩ : ∃ z,((w.alloc (.cells #[.int .u8 0,.slice none 0 0] 84)).alloc (.map #[] 0)).alloc (.cells #[.int .u8 0,.int .i64 (lkN 2),.int .i64 (wdN 4),.pointer (some ⟨w.heap.size,0,none⟩),.int .i64 (-1),.map (some (w.heap.size + 1))] 107) = z := ⟨_,rfl⟩
 rw [hw1,hb] at HP0
 rw [hw1,hb]
 clear hw1 hb
 go_wp2_with (first | (have := HP9;go_at_call 57;go_must (with_reducible refine (HP9.out.sweepN ok4 (by omega) none 0 0 [] rfl (Kd.C_nil _ _) (by omega) 1 al_went').mono ?_);rintro e w11 ⟨rfl,hp, -⟩;have HP10 := Aside0.mk hp;clear hp) | (have := HP8;go_at_call 20;go_must (with_reducible refine (rsame_own _ _ _ _ _ [⟨1,2⟩,⟨16,1⟩] _ rfl (OwnH.below HB8.out (below_alloc (Below.refl _ _) _)) (own2 w9 1 2 16 1) (by simp)).mono ?_);rintro e w10 ⟨rfl,hb⟩;have hbb := bel_trans (below_alloc (Below.refl w9.heap.size w9) (.cells #[.int .i64 1,.int .u32 2,.int .i64 16,.int .u32 1] 58)) hb;have HP9 := Aside0.mk (HP8.out.below hbb);clear hb hbb HP8) | (have := HP7;go_at_call 20;go_must (with_reducible refine (rsame_own _ _ _ _ _ [⟨16,1⟩,⟨25,3⟩] _ rfl (OwnH.below HA7.out (below_alloc (Below.refl _ _) _)) (own2 w8 16 1 25 3) (by simp)).mono ?_);rintro e w9 ⟨rfl,hb⟩;have hbb := bel_trans (below_alloc (Below.refl w8.heap.size w8) (.cells #[.int .i64 16,.int .u32 1,.int .i64 25,.int .u32 3] 58)) hb;have HP8 := Aside0.mk (HP7.out.below hbb);have HB8 := Aside0.mk (OwnH.below HB7.out hbb);clear hb hbb HP7) | (have := HP6;go_at_call 56;go_must (with_reducible refine (HP6.out.len_).mono ?_);rintro e w8 ⟨rfl,hb⟩;rw [al_len'];have HP7 := Aside0.mk (HP6.out.below hb);have HA7 := Aside0.mk (OwnH.below HU6.out hb);have HB7 := Aside0.mk (OwnH.below HV6.out hb);clear hb HP6) | (have := HP5;go_at_call 55;go_must (with_reducible refine ((HP5.out.below (below_alloc (Below.refl _ _) _)).search_ ok4 (by omega) _ 1 1 [4] rfl (lit1 .i32 21 4 _ _ rfl) (Nat.le_refl _) none 0 0 none 0 0 none 0 0 ⟨[],[],[]⟩ rfl rfl rfl (Kd.C_nil _ _) (Kd.C_nil _ _) (Kd.C_nil _ _) (by omega) 2 9 3 _ al_b).mono ?_);rintro e w7 ⟨⟨v6,rfl,hv⟩,hb⟩;have hbb := bel_trans (below_alloc (Below.refl w6.heap.size w6) (.cells #[.int .i32 4] 21)) hb;have HP6 := Aside0.mk (HP5.out.below hbb);have HV6 := Aside0.mk hv;have HU6 := Aside0.mk (OwnH.below HV5.out hbb);clear hb hbb hv) | (have := HP4;go_at_call 55;go_must (with_reducible refine ((HP4.out.below (below_alloc (Below.refl _ _) _)).search_ ok4 (by omega) _ 1 1 [4] rfl (lit1 .i32 21 4 _ _ rfl) (Nat.le_refl _) none 0 0 none 0 0 none 0 0 ⟨[],[],[]⟩ rfl rfl rfl (Kd.C_nil _ _) (Kd.C_nil _ _) (Kd.C_nil _ _) (by omega) 2 9 4 _ al_a).mono ?_);rintro e w6 ⟨⟨v5,rfl,hv⟩,hb⟩;have hbb := bel_trans (below_alloc (Below.refl w5.heap.size w5) (.cells #[.int .i32 4] 21)) hb;have HP5 := Aside0.mk (HP4.out.below hbb);have HV5 := Aside0.mk hv;clear hb hbb hv) | (have := HP3;go_at_call 27;go_must (with_reducible refine (HP3.out.cut ok3 2 4 (by decide) (by omega)).mono ?_);rintro e w5 ⟨rfl,hp, -⟩;rw [al_had];have HP4 := Aside0.mk (show PX (fun _ => False) w w5 b alX4 3 from hp);clear hp) | (have := HP2;go_at_call 28;go_must (with_reducible refine (HP2.out.putL ok2 (by omega) 3 9 (by decide) 0 3 (by omega) alX3 rfl 3 rfl).mono ?_);rintro e w4 ⟨rfl,hp⟩;have HP3 := Aside0.mk hp;clear hp) | (have := HP1;go_at_call 28;go_must (with_reducible refine (HP1.out.putL ok1 (by omega) 2 5 (by decide) 0 2 (by omega) alX2 rfl 2 rfl).mono ?_);rintro e w3 ⟨rfl,hp⟩;have HP2 := Aside0.mk hp;clear hp) | (go_at_call 28;go_must (with_reducible refine (HP0.out.putL ok0 (by omega) 1 0 (by decide) 0 1 (by omega) alX1 rfl 1 rfl).mono ?_);rintro e w2 ⟨rfl,hp⟩;have HP1 := Aside0.mk hp;clear hp))
 go_ret
 exact ⟨rfl,HP10.out.at0⟩
end Go.Proofs.Ytofmlajanopniaa.Li
namespace Go.Proofs.Ytofmlajanopniaa.Li
open Go.RowKit Go.Maps Go.Proofs.YtofmlajanopniaaW.PrintWords Go.Proofs.YtofmlajanopniaaW.PrintLast Go.Proofs.YtofmlajanopniaaW.PrintMore Go.Proofs.Ytofmlajanopniaa.Q Go.Proofs.Ytofmlajanopniaa.Tk
structure OpHAt (w : World) (ad : Addr) (x : OpH) (i : Nat) (A1 : Option Addr) (c1 : Nat) (A2 : Option Addr) (c2 : Nat) (F0 : Option Addr) (d0 : Nat) (F1 : Option Addr) (d1 : Nat) (F2 : Option Addr) (d2 : Nat) (A3 : Option Addr) (c3 : Nat) : Prop where
 y0 : w.cell? (ad.add (i * 13)) = some (.int .u8 x.1)
 y1 : w.cell? ⟨(ad.add (i * 13)).block,(ad.add (i * 13)).off + 1,none⟩ = some (.int .u32 x.2.1.1)
 y2 : w.cell? ⟨(ad.add (i * 13)).block,(ad.add (i * 13)).off + 1 + 1,none⟩ = some (.slice A1 x.2.1.2.1.length c1)
 y3 : w.cell? ⟨(ad.add (i * 13)).block,(ad.add (i * 13)).off + 1 + 2,none⟩ = some (.slice A2 x.2.1.2.2.length c2)
 y4 : w.cell? ⟨(ad.add (i * 13)).block,(ad.add (i * 13)).off + 4,none⟩ = some (.int .i64 x.2.2.1)
 y5 : w.cell? ⟨(ad.add (i * 13)).block,(ad.add (i * 13)).off + 5,none⟩ = some (.int .u8 x.2.2.2.1)
 y6 : w.cell? ⟨(ad.add (i * 13)).block,(ad.add (i * 13)).off + 6,none⟩ = some (.slice F0 x.2.2.2.2.1.1.length d0)
 y7 : w.cell? ⟨(ad.add (i * 13)).block,(ad.add (i * 13)).off + 6 + 1,none⟩ = some (.slice F1 x.2.2.2.2.1.2.1.length d1)
 y8 : w.cell? ⟨(ad.add (i * 13)).block,(ad.add (i * 13)).off + 6 + 2,none⟩ = some (.slice F2 x.2.2.2.2.1.2.2.length d2)
 y9 : w.cell? ⟨(ad.add (i * 13)).block,(ad.add (i * 13)).off + 9,none⟩ = some (.int .i64 x.2.2.2.2.2.1)
 y10 : w.cell? ⟨(ad.add (i * 13)).block,(ad.add (i * 13)).off + 10,none⟩ = some (.int .i64 x.2.2.2.2.2.2.1)
 y11 : w.cell? ⟨(ad.add (i * 13)).block,(ad.add (i * 13)).off + 11,none⟩ = some (.int .u64 x.2.2.2.2.2.2.2.1)
 y12 : w.cell? ⟨(ad.add (i * 13)).block,(ad.add (i * 13)).off + 12,none⟩ = some (.slice A3 x.2.2.2.2.2.2.2.2.length c3)
 ls : OpHL w x A1 c1 A2 c2 F0 d0 F1 d1 F2 d2 A3 c3
theorem OpHAt.below {w w1 : World} {ad : Addr} {x : OpH} {i : Nat} {A1 : Option Addr} {c1 : Nat} {A2 : Option Addr} {c2 : Nat} {F0 : Option Addr} {d0 : Nat} {F1 : Option Addr} {d1 : Nat} {F2 : Option Addr} {d2 : Nat} {A3 : Option Addr} {c3 : Nat} (h : OpHAt w ad x i A1 c1 A2 c2 F0 d0 F1 d1 F2 d2 A3 c3) (hb : Below w.heap.size w w1) : OpHAt w1 ad x i A1 c1 A2 c2 F0 d0 F1 d1 F2 d2 A3 c3 :=
 ⟨pw_cell_below hb h.y0,pw_cell_below hb h.y1,pw_cell_below hb h.y2,pw_cell_below hb h.y3,pw_cell_below hb h.y4,pw_cell_below hb h.y5,pw_cell_below hb h.y6,pw_cell_below hb h.y7,pw_cell_below hb h.y8,pw_cell_below hb h.y9,pw_cell_below hb h.y10,pw_cell_below hb h.y11,pw_cell_below hb h.y12,h.ls.below hb⟩
theorem opHAt {w : World} {A : Option Addr} {l : List OpH} (h : Kd.C kopH w A l.length l) {i : Nat} (hi : i < l.length) : ∃ ad x A1 c1 A2 c2 F0 d0 F1 d1 F2 d2 A3 c3,A = some ad ∧ l[i]? = some x ∧ OpHAt w ad x i A1 c1 A2 c2 F0 d0 F1 d1 F2 d2 A3 c3 := by
 obtain ⟨ad,x,A1,c1,A2,c2,F0,d0,F1,d1,F2,d2,A3,c3,e,hx,hc,hL⟩ := opH_at h hi
 have g0 := hc 0 _ rfl
 have g1 := hc 1 _ rfl
 have g2 := hc 2 _ rfl
 have g3 := hc 3 _ rfl
 have g4 := hc 4 _ rfl
 have g5 := hc 5 _ rfl
 have g6 := hc 6 _ rfl
 have g7 := hc 7 _ rfl
 have g8 := hc 8 _ rfl
 have g9 := hc 9 _ rfl
 have g10 := hc 10 _ rfl
 have g11 := hc 11 _ rfl
 have g12 := hc 12 _ rfl
 rw [add_field _ _ _ (by decide)] at g1 g2 g3 g4 g5 g6 g7 g8 g9 g10 g11 g12
 exact ⟨ad,x,A1,c1,A2,c2,F0,d0,F1,d1,F2,d2,A3,c3,e,hx,g0,g1,g2,g3,g4,g5,g6,g7,g8,g9,g10,g11,g12,hL⟩
set_option maxHeartbeats 4000000 in
set_option maxRecDepth 100000 in
theorem rthere_calls (id fr un v : Int) (A1 : Option Addr) (n1 c1 : Nat) (A2 : Option Addr) (n2 c2 : Nat) (A3 : Option Addr) (n3 c3 : Nat) (w : World) :
  Calls Try.prog 30 #[.agg #[.int .u32 id,.slice A1 n1 c1,.slice A2 n2 c2,.int .u64 fr,.int .u64 un,.slice A3 n3 c3],.int .u64 v] w fun e w' => e = .returned (.bool (thereV fr un v)) ∧ Below w.heap.size w w' := by
 have hu := Try.underlying37
 have HB0 := Aside0.mk (below_alloc (Below.refl w.heap.size w) (.cells #[.int .u32 id,.slice A1 n1 c1,.slice A2 n2 c2,.int .u64 fr,.int .u64 un,.slice A3 n3 c3] 37))
 unfold thereV
 by_cases h1 : fr ≤ v
 ·have q1 : decide (fr ≤ v) = true := decide_eq_true h1
  by_cases h2 : un = 0
  ·subst h2
   clear h1
   go_enter Try.func30,Try.ntmps30
   go_wp2
   go_ret
   refine ⟨?_,HB0.out⟩
   rw [q1];rfl
  ·have q2 : (un == 0) = false := by simpa using h2
   have q2' : (un = 0) = False := eq_false h2
   clear h1 h2
   go_enter Try.func30,Try.ntmps30
   go_wp2
   go_ret
   refine ⟨?_,HB0.out⟩
   rw [q1,q2];rfl
 ·have q1 : decide (fr ≤ v) = false := decide_eq_false h1
  clear h1
  go_enter Try.func30,Try.ntmps30
  go_wp2
  go_ret
  refine ⟨?_,HB0.out⟩
  rw [q1];rfl
/-! ### Versions -/
def VerOk (s : Gr) (v : Int) : Prop := ∀ nd ∈ s.l,nd.fr ≤ v ∧ nd.un ≤ v
theorem VerOk.mono {s : Gr} {v v' : Int} (h : VerOk s v) (hv : v ≤ v') : VerOk s v' := fun nd hnd => by have := h nd hnd;omega
theorem untilNow_ver {s : Gr} {v : Int} (h : VerOk s v) (id : Int) : VerOk (untilNow s id v) v := by
 intro nd hnd
 obtain ⟨k,hk⟩ := List.mem_iff_getElem?.1 hnd
 unfold untilNow at hk
 split at hk
 ·rw [until_get] at hk
  split at hk
  ·obtain ⟨y,hy,rfl⟩ := Option.map_eq_some_iff.1 hk
   exact ⟨(h y (List.mem_of_getElem? hy)).1,Int.le_refl _⟩
  ·exact h nd (List.mem_of_getElem? hk)
 ·exact h nd (List.mem_of_getElem? hk)
theorem bare_fr {x y : Nd} (h : bare x = bare y) : x.fr = y.fr := show (bare x).fr = (bare y).fr by rw [h]
theorem put_ver {x : Ix} {v : Int} (h : VerOk x.g v) (hv : 0 ≤ v) (id : Int) (vec : List Int) (tags : List ByteArray) (lv : Int) : VerOk (x.put id vec tags lv v).g v := by
 refine bare_all (p := fun nd => nd.fr ≤ v ∧ nd.un ≤ v) (fun a b e hb => by rw [bare_fr e,bare_un e];exact hb) (putG_bare (x := x) (id := id) (vec := vec) (tags := tags) (k := clampL lv) (v := v)) (fun nd hnd => ?_)
 unfold Gr.add at hnd
 dsimp only at hnd
 rw [List.mem_append,List.mem_singleton] at hnd
 rcases hnd with hnd | rfl
 ·exact untilNow_ver h id nd hnd
 ·exact ⟨Int.le_refl _,hv⟩
theorem there_last {fr un v : Int} (h1 : fr ≤ v) (h2 : un ≤ v) : thereV fr un v = (un == 0) := by
 unfold thereV
 rw [decide_eq_true h1,Bool.true_and,decide_eq_false (by omega),Bool.or_false]
theorem IxOk.mono {x : Ix} {n n' : Nat} (h : IxOk x n) (hn : n ≤ n') : IxOk x n' := ⟨h.inv.mono hn,h.ids,h.lk,h.wd,h.en,h.uniq⟩
theorem PX.monoN {X : Nat → Prop} {w0 w : World} {b : Nat} {x : Ix} {n n' : Nat} (h : PX X w0 w b x n) (hn : n ≤ n') : PX X w0 w b x n' := by
 obtain ⟨g,mb,h⟩ := h
 exact ⟨g,mb,h.monoN hn rfl⟩
end Go.Proofs.Ytofmlajanopniaa.Li
