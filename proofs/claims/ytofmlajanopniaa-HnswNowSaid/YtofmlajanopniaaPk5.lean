/- Texts of this claim,one behind the other: words,walks,plain laws. No condition. -/
import Derived.Test.YtofmlajanopniaaPk4
import Derived.Deep.RegionHeld3
import Derived.Laws.OwnMore
import Derived.Test.YtofmlajanopniaaPk1
import Derived.Maps.OwnOps
import Derived.Maps.Views
import Derived.Test.YtofmlajanopniaaPk2
import Derived.Test.YtofmlajanopniaaPk3
import Derived.RangeFuncNested
import Derived.RangeFuncBound
import Derived.RangeFuncCalls
import Derived.RangeFuncLeaves
import Derived.Shelf.Abstract
import Derived.Shelf.RegionOpen
import Derived.OwnWalkIn
import Derived.TacticsInMore
import Derived.LoopNIn
import Derived.LoopIn
import Derived.Maps.OwnSet
import Derived.Deep.AppendLies
set_option linter.unusedVariables false
set_option linter.unusedSimpArgs false
namespace Go.Proofs.Ytofmlajanopniaa.Li
open Go.RowKit Go.Proofs.YtofmlajanopniaaW.PrintWords Go.Proofs.YtofmlajanopniaaW.PrintLast Go.Proofs.YtofmlajanopniaaW.PrintMore Go.Proofs.Ytofmlajanopniaa.Q Go.Proofs.Ytofmlajanopniaa.Tk
section
variable {w0 w w' : World} {g : Nat} {F F' : Nat → Prop} {T T' : Nat → Nat → Prop} {φ φ' : Nat → Nat × Nat} {ψ ψ' : Nat → Nat} {vL : Value} {s : Gr}
theorem R_apart {α : Type} {d : Kd α} {e : Nat} {base : Nat} {ok ub : Nat → Prop} {v : Value} {xs : List α} (h : d.R e w base ok v xs) (hO : Only ub w w') (hd : ∀ k q c,ok k → q ∈ e :: d.E → w.heap[k]? = some (.cells c q (0,0)) → ¬ ub k) : d.R e w' base ok v xs := by
 refine Kd.R_mono (Kd.R_step (w1 := w') (Kd.R_bound h) (fun k hk _ => ?_)) (fun k hk => hk.1)
 obtain ⟨hk0,_,hlt,q,hq,cells,hc⟩ := hk
 exact hO.block k hlt (hd k q cells hk0 hq hc)
theorem GM.leave (h : GM w0 w g F T φ ψ vL s) {a lv : Nat} {ub : Nat → Prop} (hT : ∀ i j,but a lv i j → T i j) (hO : Only ub w w') (hub : ∀ k,ub k → F k ∧ φ k = (a,lv) ∧ ∃ c,w.heap[k]? = some (.cells c 3 (0,0))) : GM w0 w' g F (but a lv) φ ψ vL s := by
 obtain ⟨inner,h1,h2⟩ := h.row
 have hne : ∀ {k t : Nat} {c : Array Value},w.heap[k]? = some (.cells c t (0,0)) → t ≠ 3 → w'.heap[k]? = w.heap[k]? := fun {k t c} hk ht => hO.block k (blk_lt hk) (fun hu => by obtain ⟨_,_,c2,hc2⟩ := hub k hu;exact ht (blk_type hk hc2))
 refine ⟨(hne h.box (by decide)).trans h.box,h.gF,fun k hk => ⟨(h.low k hk).1,Nat.lt_of_lt_of_le (h.low k hk).2 hO.size⟩,h.vF,⟨inner,own_move h1 (fun k hk => by obtain ⟨c,hc⟩ := own_typed h1 k hk;exact hne hc (by decide)),fun i n hn => ?_⟩,hO.below_of h.at0 (fun k hk => (h.low k (hub k hk).1).1)⟩
 obtain ⟨A1,c1,A2,c2,r,cap,e,hN⟩ := h2 i n hn
 obtain ⟨k1,k2,k3,k4,cells,k5,k6⟩ := hN.lk
 refine ⟨A1,c1,A2,c2,r,cap,e, ?_, ?_,k1,k2,k3,k4,cells,(hne k5 (by decide)).trans k5,fun j l hj => ?_⟩
 ·refine R_apart hN.vec hO (fun k q c _ hq hc hu => ?_)
  have hq : q ∈ [21] := hq
  obtain ⟨_,_,c2,hc2⟩ := hub k hu
  have := blk_type hc hc2
  rw [List.mem_singleton.1 hq] at this
  exact absurd this (by decide)
 ·refine R_apart hN.tags hO (fun k q c _ hq hc hu => ?_)
  have hq : q ∈ [9] := hq
  obtain ⟨_,_,c2,hc2⟩ := hub k hu
  have := blk_type hc hc2
  rw [List.mem_singleton.1 hq] at this
  exact absurd this (by decide)
 ·obtain ⟨u,e1,e2⟩ := k6 j l hj
  refine ⟨u,e1,fun ht => R_apart (e2 (hT i j ht)) hO (fun k q c hk _ _ hu => ?_)⟩
  have h3 := (hub k hu).2.1
  rw [hk.2] at h3
  injection h3 with h3 h4
  exact ht ⟨h3,h4⟩
def more (F : Nat → Prop) (w w' : World) (k : Nat) : Prop := F k ∨ (w.heap.size ≤ k ∧ k < w'.heap.size)
theorem GM.slot (h : GM w0 w g F T φ ψ vL s) {a lv : Nat} {n : Nd} {ls : List Int} (hn : s.l[a]? = some n) (hj : n.links[lv]? = some ls) : ∃ rb cap A1 c1 A2 c2 r cl u,vL = .slice (some ⟨rb,0,none⟩) s.l.length cap ∧ NodeAt w ⟨rb,0,none⟩ a n A1 c1 A2 c2 r cl ∧ w.cell? ⟨r,lv,none⟩ = some u ∧ F r ∧ (∃ c,w.heap[r]? = some (.cells c 40 (0,0))) ∧ (T a lv → IntL w w0.heap.size F φ a lv u ls) := by
 obtain ⟨inner,h1,h2⟩ := h.row
 have hal := (List.getElem?_eq_some_iff.1 hn).1
 obtain ⟨rb,cap,rfl,A1,c1,A2,c2,r,cl,hN⟩ := h.own hn
 obtain ⟨B1,d1,B2,d2,r',cap',e,hN2⟩ := h2 a n hn
 have hy := hN.p5
 have hrr : r = r' := by
  rw [h.six rfl h1 hal (by omega),e] at hy
  have hy : Value.slice (some ⟨r',0,none⟩) n.links.length cap' = .slice (some ⟨r,0,none⟩) n.links.length cl := by
   unfold NdC at hy
   simpa using hy
  injection hy with e1 _ e3
  injection e1 with e1
  injection e1 with e1
  exact e1.symm
 subst hrr
 obtain ⟨k1,k2,k3,k4,cells,k5,k6⟩ := hN2.lk
 obtain ⟨u,hu,hI⟩ := k6 lv ls hj
 exact ⟨rb,cap,A1,c1,A2,c2,r,cl,u,rfl,hN,(blk_cell k5 lv).trans hu,k2,⟨_,k5⟩,hI⟩
structure Open (w0 w W : World) (g : Nat) (F : Nat → Prop) (φ : Nat → Nat × Nat) (ψ : Nat → Nat) (vL : Value) (s : Gr) (a j : Nat) (v : Value) (l : List Int) : Prop where
 gm : GM w0 W g (more F w W) (but a j) (fun k => if k < w.heap.size then φ k else (a,j)) ψ vL s
 il : IntL W w0.heap.size (more F w W) (fun k => if k < w.heap.size then φ k else (a,j)) a j v l
 only : Only F w W
theorem Open.start {W : World} {a j : Nat} {u : Value} {l : List Int} (h : GM w0 W g F all2 φ ψ vL s) (hw : w0.heap.size ≤ w.heap.size) (hF : ∀ k,F k → k < w.heap.size) (hb : Below w.heap.size w W) (hI : IntL W w0.heap.size F φ a j u l) : Open w0 w W g F φ ψ vL s a j u l := by
 have e : ∀ k,F k → (if k < w.heap.size then φ k else (a,j)) = φ k := fun k hk => if_pos (hF k hk)
 refine ⟨h.mono (fun k hk => .inl hk) (fun k hk => ?_) e (fun _ _ => rfl) (fun _ _ _ => trivial),Kd.R_mono hI (fun k hk => ⟨.inl hk.1,(e k hk.1).trans hk.2⟩),Only.of_below hb⟩
 rcases hk with hk | hk
 ·exact h.low k hk
 ·exact ⟨Nat.le_trans hw hk.1,hk.2⟩
theorem Open.GT {W : World} {a j : Nat} {v : Value} {l : List Int} (h : Open w0 w W g F φ ψ vL s a j v l) : GT w0 W g (more F w W) (but a j) s := ⟨_,_,_,h.gm⟩
theorem Open.Z {W : World} {a j : Nat} {v : Value} {l : List Int} (h : Open w0 w W g F φ ψ vL s a j v l) : OwnZ W w0.heap.size v l := .of_R h.il
theorem more_mono {W W' : World} (h : W.heap.size ≤ W'.heap.size) {k : Nat} (hk : more F w W k) : more F w W' k := hk.imp id (fun hk => ⟨hk.1,by omega⟩)
theorem Open.base {W : World} {a j : Nat} {v : Value} {l : List Int} (h : Open w0 w W g F φ ψ vL s a j v l) : Below w0.heap.size w0 W := h.gm.at0
theorem Open.below {W W' : World} {a j : Nat} {v : Value} {l : List Int} (h : Open w0 w W g F φ ψ vL s a j v l) (hb : Below W.heap.size W W') : Open w0 w W' g F φ ψ vL s a j v l := by
 have h2 := h.gm.same (w' := W') (fun k hk => hb.block k (h.gm.low k hk).2) hb.size (bel_trans h.gm.at0 hb)
 refine ⟨h2.mono (fun k hk => more_mono hb.size hk) (fun k hk => ?_) (fun _ _ => rfl) (fun _ _ => rfl) (fun _ _ ht => ht),Kd.R_mono (Kd.R_below h.il hb) (fun k hk => ⟨more_mono hb.size hk.1,hk.2⟩), ?_⟩
 ·rcases hk with hk | hk
  ·have := h.gm.low k (.inl hk)
   exact ⟨this.1,by have := hb.size;omega⟩
  ·have := h.only.size
   have h0 := h.gm.low g h.gm.gF
   exact ⟨by
    rcases Nat.lt_or_ge k W.heap.size with hlt | hge
    ·exact (h.gm.low k (.inr ⟨hk.1,hlt⟩)).1
    ·have := h.gm.at0.size;omega,hk.2⟩
 ·exact h.only.then_ (Only.of_below (S := F) hb) (fun i hi _ => hi)
theorem Open.size {W : World} {a j : Nat} {v : Value} {l : List Int} (h : Open w0 w W g F φ ψ vL s a j v l) : w0.heap.size ≤ w.heap.size ∨ w.heap.size ≤ W.heap.size := .inr h.only.size
theorem Open.app {W Wa W3 : World} {a j : Nat} {v v3 : Value} {l l3 : List Int} (h : Open w0 w W g F φ ψ vL s a j v l) (hw : w0.heap.size ≤ w.heap.size) (hb : Below W.heap.size W Wa) (hZ : OwnZ W3 w0.heap.size v3 l3) (hO : Only (fun i => v.ownBlock = some i) Wa W3) (hat : v3.ownBlock = v.ownBlock ∨ v3.ownBlock = some Wa.heap.size) : Open w0 w W3 g F φ ψ vL s a j v3 l3 := by
 have ha := h.below hb
 have hub : ∀ k,v.ownBlock = some k → more F w Wa k ∧ (if k < w.heap.size then φ k else (a,j)) = (a,j) ∧ ∃ c,Wa.heap[k]? = some (.cells c 3 (0,0)) := fun k hk => ⟨(ha.il.1 k hk).1,(ha.il.1 k hk).2,own_typed ha.Z k hk⟩
 have h2 := ha.gm.leave (fun _ _ h => h) hO hub
 refine ⟨h2.mono (fun k hk => more_mono hO.size hk) (fun k hk => ?_) (fun _ _ => rfl) (fun _ _ => rfl) (fun _ _ ht => ht),hZ.R (fun k hk => ?_),ha.only.then_ hO (fun i hi hlt => ?_)⟩
 ·rcases hk with hk | hk
  ·have := ha.gm.low k (.inl hk)
   exact ⟨this.1,Nat.lt_of_lt_of_le this.2 hO.size⟩
  ·exact ⟨Nat.le_trans hw hk.1,hk.2⟩
 ·have hlt := own_lt hZ k hk
  rcases hat with e | e
  ·rw [e] at hk
   exact ⟨more_mono hO.size (hub k hk).1,(hub k hk).2.1⟩
  ·rw [e] at hk
   injection hk with hk
   have := ha.only.size
   exact ⟨.inr ⟨by omega,hlt⟩,if_neg (by omega)⟩
 ·rcases (hub i hi).1 with hF | hF
  ·exact hF
  ·omega
theorem Open.new {W W4 : World} {a j : Nat} {v v4 : Value} {l l4 : List Int} (h : Open w0 w W g F φ ψ vL s a j v l) (hw : w0.heap.size ≤ w.heap.size) (hb : Below W.heap.size W W4) (hZ : OwnZ W4 W.heap.size v4 l4) : Open w0 w W4 g F φ ψ vL s a j v4 l4 := by
 have ha := h.below hb
 have h1 := h.only.size
 refine ⟨ha.gm,(hZ.weaken (Nat.le_trans hw h1)).R (fun k hk => ?_),ha.only⟩
 have hlt := own_lt hZ k hk
 have hge := own_base hZ k hk
 exact ⟨.inr ⟨by omega,hlt⟩,if_neg (by omega)⟩
theorem Open.store {W : World} {a j : Nat} {v : Value} {l : List Int} (h : Open w0 w W g F φ ψ vL s a j v l) {n : Nd} (hn : s.l[a]? = some n) {rb : Nat} (hr : vL.ownBlock = some rb) {r cap : Nat} (hy : W.cell? ⟨rb,a * 6 + 5,none⟩ = some (.slice (some ⟨r,0,none⟩) n.links.length cap)) (hj : j < n.links.length) (hF : more F w W r) : GX w0 (W.setCell ⟨r,j,none⟩ v) g (more F w (W.setCell ⟨r,j,none⟩ v)) (s.setL a j l) ∧ Only F w (W.setCell ⟨r,j,none⟩ v) := by
 have h2 := h.gm.store hn hr hy hj h.il
 refine ⟨⟨_,_,_,h2.mono (fun k hk => ?_) (fun k hk => ?_) (fun _ _ => rfl) (fun _ _ => rfl) (fun _ _ ht => ht)⟩, ?_⟩
 ·exact more_mono (by rw [World.size_setCell];omega) hk
 ·refine h2.low k (hk.imp id (fun hk => ⟨hk.1, ?_⟩))
  have := hk.2
  rwa [World.size_setCell] at this
 ·refine h.only.then_ ((Only.refl (fun i => i = r) W).set ⟨r,j,none⟩ v rfl) (fun i hi hlt => ?_)
  have hi : i = r := hi
  subst hi
  rcases hF with hF | hF
  ·exact hF
  ·omega
end
end Go.Proofs.Ytofmlajanopniaa.Li
namespace Go.Proofs.Ytofmlajanopniaa.Li
open Go.RowKit Go.Proofs.YtofmlajanopniaaW.PrintWords Go.Proofs.YtofmlajanopniaaW.PrintLast Go.Proofs.YtofmlajanopniaaW.PrintMore Go.Proofs.Ytofmlajanopniaa.Q Go.Proofs.Ytofmlajanopniaa.Tk
section
variable {w0 w w' : World} {g : Nat} {F F' : Nat → Prop} {T T' : Nat → Nat → Prop} {φ φ' : Nat → Nat × Nat} {ψ ψ' : Nat → Nat} {vL : Value} {s : Gr}
theorem NodeAt.p1 {rb i : Nat} {n : Nd} {A1 : Option Addr} {c1 : Nat} {A2 : Option Addr} {c2 r cap : Nat} (h : NodeAt w ⟨rb,0,none⟩ i n A1 c1 A2 c2 r cap) : w.cell? ⟨rb,i * 6 + 1,none⟩ = some (.slice A1 n.vec.length c1) := by
 have := h.y1
 rw [add_plain] at this
 exact this
theorem Open.at_ {W : World} {a j rb cap : Nat} {v : Value} {l : List Int} (h : Open w0 w W g F φ ψ (.slice (some ⟨rb,0,none⟩) s.l.length cap) s a j v l) {n : Nd} {ls : List Int} (hn : s.l[a]? = some n) (hj : n.links[j]? = some ls) :
  ∃ A1 c1 A2 c2 r cl u,NodeAt W ⟨rb,0,none⟩ a n A1 c1 A2 c2 r cl ∧ W.cell? ⟨r,j,none⟩ = some u ∧ more F w W r ∧ (∀ i,W.frozen? ⟨r,i,none⟩ = false) ∧ W.cell? ⟨g,1,none⟩ = some (.slice (some ⟨rb,0,none⟩) s.l.length cap) := by
 obtain ⟨rb',cap',A1,c1,A2,c2,r,cl,u,e,hN,hu,hr,⟨c,hc⟩, -⟩ := h.gm.slot hn hj
 injection e with e1 _ e3
 injection e1 with e1
 injection e1 with e1
 subst e1
 exact ⟨A1,c1,A2,c2,r,cl,u,hN,hu,hr,fun i => blk_frozen hc i,(blk_cell h.gm.box 1).trans rfl⟩
set_option maxHeartbeats 4000000 in
set_option maxRecDepth 100000 in
theorem GT.link_no (h : GX w0 w g F s) (a b lv most : Int) (hno : (!s.there a lv || !s.there b lv || a == b) = true) :
  Calls Try.prog 14 #[.pointer (some ⟨g,0,none⟩),.int .i64 a,.int .i64 b,.int .i64 lv,.int .i64 most] w fun e w' => e = .returned (.bool false) ∧ Below w.heap.size w w' := by
 have HX := Aside0.mk h
 clear h
 cases ha : s.there a lv with
 | false =>
  have HTA := Aside0.mk ha
  clear ha hno
  go_enter Try.func14,Try.ntmps14
  go_wp2_with (go_at_call 35;(with_reducible refine (HX.out.there_ a lv).mono ?_);rintro e w1 ⟨rfl,hb⟩;rw [HTA.out];have HB1 := Aside0.mk hb;clear hb)
  go_ret
  exact ⟨rfl,HB1.out⟩
 | true =>
  have HTA := Aside0.mk ha
  by_cases hab : a = b
  ·subst hab
   clear ha hno
   go_enter Try.func14,Try.ntmps14
   go_wp2_with (go_at_call 35;first | ((with_reducible refine ((HX.out.below HB1.out).there_ a lv).mono ?_);rintro e w2 ⟨rfl,hb⟩;rw [HTA.out];have HB2 := Aside0.mk (bel_trans HB1.out hb);clear hb) | ((with_reducible refine (HX.out.there_ a lv).mono ?_);rintro e w1 ⟨rfl,hb⟩;rw [HTA.out];have HB1 := Aside0.mk hb;clear hb))
   go_ret
   exact ⟨rfl,HB2.out⟩
  ·have hb : s.there b lv = false := by
    rw [ha,beq_eq_false_iff_ne.2 hab] at hno
    cases e : s.there b lv with
    | true => rw [e] at hno;cases hno
    | false => rfl
   have HTB := Aside0.mk hb
   clear ha hno hb hab
   go_enter Try.func14,Try.ntmps14
   go_wp2_with (go_at_call 35;first | ((with_reducible refine ((HX.out.below HB1.out).there_ b lv).mono ?_);rintro e w2 ⟨rfl,hb⟩;rw [HTB.out];have HB2 := Aside0.mk (bel_trans HB1.out hb);clear hb) | ((with_reducible refine (HX.out.there_ a lv).mono ?_);rintro e w1 ⟨rfl,hb⟩;rw [HTA.out];have HB1 := Aside0.mk hb;clear hb))
   go_ret
   exact ⟨rfl,HB2.out⟩
theorem GT.choose_n {W : World} (h : GT w0 W g F T s) (hm : 0 ≤ s.m) (A : Option Addr) (c : Nat) (q : List Int) (hq : Kd.C (Kd.int .i32) W A q.length q) (hqc : q.length ≤ c) (A2 : Option Addr) (c2 : Nat) (L : List Int) (N : Nat) (hN : L.length = N) (hL : Kd.C (Kd.int .i64) W A2 N L) (hl : s.l.length ≤ 100000) (hLl : N ≤ 100000) (most : Int) :
  Calls Try.prog 32 #[.pointer (some ⟨g,0,none⟩),.slice A q.length c,.slice A2 N c2,.int .i64 most] W fun e w' => (∃ v,e = .returned v ∧ OwnZ w' W.heap.size v (chooseG s q L most)) ∧ Below W.heap.size W w' := by
 subst hN
 exact h.choose_ hm A c q hq hqc A2 c2 L hL hl hLl most
set_option maxHeartbeats 8000000 in
set_option maxRecDepth 100000 in
theorem GT.link_yes (h : GX w0 w g F s) (hm : 0 ≤ s.m) (hl : s.l.length ≤ 100000) {ka kb j : Nat} {n : Nd} {ls : List Int} (hn : s.l[ka]? = some n) (hj : n.links[j]? = some ls) (hls : ls.length ≤ 90000) (most : Int) (ha : s.there ka j = true) (hb : s.there kb j = true) (hab : ka ≠ kb) :
  Calls Try.prog 14 #[.pointer (some ⟨g,0,none⟩),.int .i64 ka,.int .i64 kb,.int .i64 j,.int .i64 most] w fun e w' => e = .returned (.bool true) ∧ (∃ F',GX w0 w' g F' (s.setL ka j (linked s ka kb j most)) ∧ ∀ k,F' k → more F w w' k) ∧ Only F w w' := by
 have hu := Try.underlying84
 have hu2 := Try.underlying37
 have hu3 := Try.underlying26
 have HTA := Aside0.mk ha
 have HTB := Aside0.mk hb
 have HM := Aside0.mk (show 0 ≤ s.m ∧ s.l.length ≤ 100000 ∧ ls.length ≤ 90000 ∧ w0.heap.size ≤ w.heap.size from ⟨hm,hl,hls,h.at0.size⟩)
 have HX := Aside0.mk h
 have HNN := Aside0.mk hn
 have HJJ := Aside0.mk hj
 have HJL := Aside0.mk (List.getElem?_eq_some_iff.1 hj).1
 have q1 : (ka : Int) < (s.l.length : Int) := by have := (List.getElem?_eq_some_iff.1 hn).1;omega
 have q2 : (j : Int) < (n.links.length : Int) := by have := (List.getElem?_eq_some_iff.1 hj).1;omega
 have q3 : decide ((ka : Int) = (kb : Int)) = false := decide_eq_false (by omega)
 have q4 : decide (ka = kb) = false := decide_eq_false hab
 have q5 : ((ka : Int) == (kb : Int)) = false := beq_eq_false_iff_ne.2 (by omega)
 have q6 : (ka == kb) = false := beq_eq_false_iff_ne.2 hab
 have q7 : (ka = kb) = False := eq_false hab
 have HAT := Aside0.mk (show s.at_ ka j = ls by unfold Gr.at_;rw [lk_nat hn];simp [hj])
 have HVE := Aside0.mk (show s.vec ka = n.vec from vec_nat hn)
 have HLEN := Aside0.mk (show (ls ++ [(kb : Int)]).length = ls.length + 1 by simp)
 clear h hm hl hn hj hls ha hb hab
 cases hc : ls.contains (kb : Int) with
 | true =>
  have HCC := Aside0.mk hc
  cases hbig : decide (most < (ls.length : Int)) with
  | false =>
   have HLK := Aside0.mk (show linked s ka kb j most = ls by unfold linked;rw [HAT.out,hc];simp only [if_true];rw [if_neg (decide_eq_false_iff_not.1 hbig)])
   clear hc
   go_enter Try.func14,Try.ntmps14
   go_wp2_with (first | (go_at_call 35;(with_reducible refine ((HX.out.below HB1.out).there_ kb j).mono ?_);rintro e w2 ⟨rfl,hb⟩;rw [HTB.out];have HB2 := Aside0.mk (bel_trans HB1.out hb);obtain ⟨φ,ψ,vL,hG⟩ := HX.out.below (bel_trans HB1.out hb);obtain ⟨rb,cap,A1,c1,A2,c2,r,cl,u,rfl,hN,hu, -, -,hI⟩ := hG.slot HNN.out HJJ.out;obtain ⟨ao,cu,rfl,hc0,hC⟩ := (OwnZ.of_R (hI trivial)).C0;have HO2 := Aside0.mk (Open.start hG HM.out.2.2.2 (fun k hk => (HX.out.low k hk).2) HB2.out (hI trivial));have HC := Aside0.mk hC;have y1 := (blk_cell hG.box 1).trans rfl;have y5 := hN.p5;clear hb hG hN hI hc0 hC) | (go_at_call 35;(with_reducible refine (HX.out.there_ ka j).mono ?_);rintro e w1 ⟨rfl,hb⟩;rw [HTA.out];have HB1 := Aside0.mk hb;clear hb) | (go_at_call 36;(with_reducible refine (hasZ_calls ao cu ls kb _ HC.out (by have := HM.out.2.2.1;omega)).mono ?_);rintro e w3 ⟨rfl,hb⟩;rw [HCC.out];have HO3 := Aside0.mk (HO2.out.below hb);have HC3 := Aside0.mk (Kd.C_below HC.out hb);clear hb y1 y5 hu;obtain ⟨A1,c1,A2,c2,r,cl,u,hN,hu,hmr,hfz,y1⟩ := HO3.out.at_ HNN.out HJJ.out;have y5 := hN.p5;have p1 := hN.p1;have HN := Aside0.mk hN;have HMR := Aside0.mk hmr;clear hN hmr))
   go_ret
   rw [HLK.out]
   have hs := HO3.out.store HNN.out rfl y5 HJL.out HMR.out
   exact ⟨rfl,⟨_,hs.1,fun k hk => hk⟩,hs.2⟩
  | true =>
   have HLK := Aside0.mk (show linked s ka kb j most = chooseG s n.vec ls most by unfold linked;rw [HAT.out,hc];simp only [if_true];rw [if_pos (of_decide_eq_true hbig),HVE.out])
   clear hc
   go_enter Try.func14,Try.ntmps14
   go_wp2_with (first | (go_at_call 35;(with_reducible refine ((HX.out.below HB1.out).there_ kb j).mono ?_);rintro e w2 ⟨rfl,hb⟩;rw [HTB.out];have HB2 := Aside0.mk (bel_trans HB1.out hb);obtain ⟨φ,ψ,vL,hG⟩ := HX.out.below (bel_trans HB1.out hb);obtain ⟨rb,cap,A1,c1,A2,c2,r,cl,u,rfl,hN,hu, -, -,hI⟩ := hG.slot HNN.out HJJ.out;obtain ⟨ao,cu,rfl,hc0,hC⟩ := (OwnZ.of_R (hI trivial)).C0;have HO2 := Aside0.mk (Open.start hG HM.out.2.2.2 (fun k hk => (HX.out.low k hk).2) HB2.out (hI trivial));have HC := Aside0.mk hC;have y1 := (blk_cell hG.box 1).trans rfl;have y5 := hN.p5;clear hb hG hN hI hc0 hC) | (go_at_call 35;(with_reducible refine (HX.out.there_ ka j).mono ?_);rintro e w1 ⟨rfl,hb⟩;rw [HTA.out];have HB1 := Aside0.mk hb;clear hb) | (go_at_call 36;(with_reducible refine (hasZ_calls ao cu ls kb _ HC.out (by have := HM.out.2.2.1;omega)).mono ?_);rintro e w3 ⟨rfl,hb⟩;rw [HCC.out];have HO3 := Aside0.mk (HO2.out.below hb);have HC3 := Aside0.mk (Kd.C_below HC.out hb);clear hb y1 y5 hu;obtain ⟨A1,c1,A2,c2,r,cl,u,hN,hu,hmr,hfz,y1⟩ := HO3.out.at_ HNN.out HJJ.out;have y5 := hN.p5;have p1 := hN.p1;have HN := Aside0.mk hN;have HMR := Aside0.mk hmr;clear hN hmr) | (go_at_call 32;go_loud ((with_reducible refine (HO3.out.GT.choose_ HM.out.1 A1 c1 n.vec HN.out.vec HN.out.fit1 ao cu ls HC3.out HM.out.2.1 (by have := HM.out.2.2.1;omega) most).mono ?_);rintro e w5 ⟨⟨v5,rfl,hv⟩,hb⟩;have HO5 := Aside0.mk (HO3.out.new HM.out.2.2.2 hb hv);clear hb hv y1 y5 hu hfz HN HMR;obtain ⟨A1,c1,A2,c2,r,cl,u,hN,hu,hmr,hfz,y1⟩ := HO5.out.at_ HNN.out HJJ.out;have y5 := hN.p5;have p1 := hN.p1;have HN := Aside0.mk hN;have HMR := Aside0.mk hmr;clear hN hmr;obtain ⟨ao5,cp5,rfl, -, -⟩ := HO5.out.Z.C0)))
   go_ret
   rw [HLK.out]
   have hs := HO5.out.store HNN.out rfl y5 HJL.out HMR.out
   exact ⟨rfl,⟨_,hs.1,fun k hk => hk⟩,hs.2⟩
 | false =>
  have HCC := Aside0.mk hc
  cases hbig : decide (most < (ls.length : Int) + 1) with
  | false =>
   have HLK := Aside0.mk (show linked s ka kb j most = ls ++ [(kb : Int)] by unfold linked;rw [HAT.out,hc];simp only [Bool.false_eq_true,if_false];rw [if_neg (by have := decide_eq_false_iff_not.1 hbig;rw [HLEN.out];omega)])
   clear hc
   go_enter Try.func14,Try.ntmps14
   go_wp2_with (first | (go_at_call 35;(with_reducible refine ((HX.out.below HB1.out).there_ kb j).mono ?_);rintro e w2 ⟨rfl,hb⟩;rw [HTB.out];have HB2 := Aside0.mk (bel_trans HB1.out hb);obtain ⟨φ,ψ,vL,hG⟩ := HX.out.below (bel_trans HB1.out hb);obtain ⟨rb,cap,A1,c1,A2,c2,r,cl,u,rfl,hN,hu, -, -,hI⟩ := hG.slot HNN.out HJJ.out;obtain ⟨ao,cu,rfl,hc0,hC⟩ := (OwnZ.of_R (hI trivial)).C0;have HO2 := Aside0.mk (Open.start hG HM.out.2.2.2 (fun k hk => (HX.out.low k hk).2) HB2.out (hI trivial));have HC := Aside0.mk hC;have y1 := (blk_cell hG.box 1).trans rfl;have y5 := hN.p5;clear hb hG hN hI hc0 hC) | (go_at_call 35;(with_reducible refine (HX.out.there_ ka j).mono ?_);rintro e w1 ⟨rfl,hb⟩;rw [HTA.out];have HB1 := Aside0.mk hb;clear hb) | (go_at_call 36;(with_reducible refine (hasZ_calls ao cu ls kb _ HC.out (by have := HM.out.2.2.1;omega)).mono ?_);rintro e w3 ⟨rfl,hb⟩;rw [HCC.out];have HO3 := Aside0.mk (HO2.out.below hb);have HC3 := Aside0.mk (Kd.C_below HC.out hb);clear hb y1 y5 hu;obtain ⟨A1,c1,A2,c2,r,cl,u,hN,hu,hmr,hfz,y1⟩ := HO3.out.at_ HNN.out HJJ.out;have y5 := hN.p5;have p1 := hN.p1;have HN := Aside0.mk hN;have HMR := Aside0.mk hmr;clear hN hmr) | (at_builtin;refine app_Z rfl _ _ rfl w0.heap.size _ ls [(kb : Int)] (some ⟨w3.heap.size,0,none⟩) 1 1 rfl rfl rfl (HO3.out.Z.below (below_trans_alloc (Below.refl _ _))) (lit_Z w3 kb) (fun e => by cases e) (by have := HM.out.2.2.1;simp only [List.length_cons,List.length_nil];omega) (by rw [World.size_alloc];have := HO3.out.base.size;omega) ?_;intro v4 w4 hv hO hat;have HO4 := Aside0.mk (HO3.out.app HM.out.2.2.2 (below_trans_alloc (Below.refl _ _)) hv hO hat);clear hv hO hat y1 y5 hu hfz HN HMR;obtain ⟨A1,c1,A2,c2,r,cl,u,hN,hu,hmr,hfz,y1⟩ := HO4.out.at_ HNN.out HJJ.out;have y5 := hN.p5;have p1 := hN.p1;have HN := Aside0.mk hN;have HMR := Aside0.mk hmr;clear hN hmr;obtain ⟨ao4,cp4,rfl,hc4,hC4⟩ := HO4.out.Z.C0;rw [HLEN.out] at hC4 HO4 ⊢;have HC4 := Aside0.mk hC4;clear hc4 hC4))
   go_ret
   rw [HLK.out]
   have hs := HO4.out.store HNN.out rfl y5 HJL.out HMR.out
   exact ⟨rfl,⟨_,hs.1,fun k hk => hk⟩,hs.2⟩
  | true =>
   have HLK := Aside0.mk (show linked s ka kb j most = chooseG s n.vec (ls ++ [(kb : Int)]) most by unfold linked;rw [HAT.out,hc];simp only [Bool.false_eq_true,if_false];rw [if_pos (by have := of_decide_eq_true hbig;rw [HLEN.out];omega),HVE.out])
   clear hc
   go_enter Try.func14,Try.ntmps14
   go_wp2_with (first | (go_at_call 35;(with_reducible refine ((HX.out.below HB1.out).there_ kb j).mono ?_);rintro e w2 ⟨rfl,hb⟩;rw [HTB.out];have HB2 := Aside0.mk (bel_trans HB1.out hb);obtain ⟨φ,ψ,vL,hG⟩ := HX.out.below (bel_trans HB1.out hb);obtain ⟨rb,cap,A1,c1,A2,c2,r,cl,u,rfl,hN,hu, -, -,hI⟩ := hG.slot HNN.out HJJ.out;obtain ⟨ao,cu,rfl,hc0,hC⟩ := (OwnZ.of_R (hI trivial)).C0;have HO2 := Aside0.mk (Open.start hG HM.out.2.2.2 (fun k hk => (HX.out.low k hk).2) HB2.out (hI trivial));have HC := Aside0.mk hC;have y1 := (blk_cell hG.box 1).trans rfl;have y5 := hN.p5;clear hb hG hN hI hc0 hC) | (go_at_call 35;(with_reducible refine (HX.out.there_ ka j).mono ?_);rintro e w1 ⟨rfl,hb⟩;rw [HTA.out];have HB1 := Aside0.mk hb;clear hb) | (go_at_call 36;(with_reducible refine (hasZ_calls ao cu ls kb _ HC.out (by have := HM.out.2.2.1;omega)).mono ?_);rintro e w3 ⟨rfl,hb⟩;rw [HCC.out];have HO3 := Aside0.mk (HO2.out.below hb);have HC3 := Aside0.mk (Kd.C_below HC.out hb);clear hb y1 y5 hu;obtain ⟨A1,c1,A2,c2,r,cl,u,hN,hu,hmr,hfz,y1⟩ := HO3.out.at_ HNN.out HJJ.out;have y5 := hN.p5;have p1 := hN.p1;have HN := Aside0.mk hN;have HMR := Aside0.mk hmr;clear hN hmr) | (at_builtin;refine app_Z rfl _ _ rfl w0.heap.size _ ls [(kb : Int)] (some ⟨w3.heap.size,0,none⟩) 1 1 rfl rfl rfl (HO3.out.Z.below (below_trans_alloc (Below.refl _ _))) (lit_Z w3 kb) (fun e => by cases e) (by have := HM.out.2.2.1;simp only [List.length_cons,List.length_nil];omega) (by rw [World.size_alloc];have := HO3.out.base.size;omega) ?_;intro v4 w4 hv hO hat;have HO4 := Aside0.mk (HO3.out.app HM.out.2.2.2 (below_trans_alloc (Below.refl _ _)) hv hO hat);clear hv hO hat y1 y5 hu hfz HN HMR;obtain ⟨A1,c1,A2,c2,r,cl,u,hN,hu,hmr,hfz,y1⟩ := HO4.out.at_ HNN.out HJJ.out;have y5 := hN.p5;have p1 := hN.p1;have HN := Aside0.mk hN;have HMR := Aside0.mk hmr;clear hN hmr;obtain ⟨ao4,cp4,rfl,hc4,hC4⟩ := HO4.out.Z.C0;rw [HLEN.out] at hC4 HO4 ⊢;have HC4 := Aside0.mk hC4;clear hc4 hC4) | (go_at_call 32;go_loud ((with_reducible refine (HO4.out.GT.choose_n HM.out.1 A1 c1 n.vec HN.out.vec HN.out.fit1 ao4 cp4 (ls ++ [(kb : Int)]) (ls.length + 1) HLEN.out HC4.out HM.out.2.1 (by have := HM.out.2.2.1;omega) most).mono ?_);rintro e w5 ⟨⟨v5,rfl,hv⟩,hb⟩;have HO5 := Aside0.mk (HO4.out.new HM.out.2.2.2 hb hv);clear hb hv y1 y5 hu hfz HN HMR;obtain ⟨A1,c1,A2,c2,r,cl,u,hN,hu,hmr,hfz,y1⟩ := HO5.out.at_ HNN.out HJJ.out;have y5 := hN.p5;have p1 := hN.p1;have HN := Aside0.mk hN;have HMR := Aside0.mk hmr;clear hN hmr;obtain ⟨ao5,cp5,rfl, -, -⟩ := HO5.out.Z.C0)))
   go_ret
   rw [HLK.out]
   have hs := HO5.out.store HNN.out rfl y5 HJL.out HMR.out
   exact ⟨rfl,⟨_,hs.1,fun k hk => hk⟩,hs.2⟩
end
end Go.Proofs.Ytofmlajanopniaa.Li
namespace Go.Proofs.Ytofmlajanopniaa.Li
open Go.RowKit Go.Proofs.YtofmlajanopniaaW.PrintWords Go.Proofs.YtofmlajanopniaaW.PrintLast Go.Proofs.YtofmlajanopniaaW.PrintMore Go.Proofs.Ytofmlajanopniaa.Q Go.Proofs.Ytofmlajanopniaa.Tk
theorem info_ints : (Try.prog.info? 40).map (fun i => (i.zero,i.size,i.bytes)) = some (some (.slice none 0 0),1,24) := by kernel_rfl
theorem empty_row (w : World) (e : Nat) (size : Nat) : (w.alloc (.cells #[] e)).ownsRow w.heap.size e size (.slice (some ⟨w.heap.size,0,none⟩) 0 0) 0 [] :=
 ⟨by simp,.inr ⟨w.heap.size,0,#[],rfl,Nat.le_refl _,heap_alloc_new w _,Nat.le_refl _,by unfold maxLen;omega,by simp,by simp⟩⟩
set_option maxHeartbeats 4000000 in
set_option maxRecDepth 100000 in
theorem cloneL_calls (ad : Addr) (n cap : Nat) (us : List Value) (w : World) (hn : us.length = n) (h0 : 0 < n) (hl : n ≤ 1000) (hc : ∀ j u,us[j]? = some u → w.cell? (ad.add j) = some u) (h1 : ∀ u ∈ us,u.oneCell' = true) :
  Calls Try.prog 68 #[.slice (some ad) n cap] w fun e w' => (∃ r cp,e = .returned (.slice (some ⟨r,0,none⟩) n cp) ∧ w'.ownsRow w.heap.size 40 1 (.slice (some ⟨r,0,none⟩) n cp) n us) ∧ Below w.heap.size w w' := by
 obtain ⟨i0,hi,hzz⟩ := Option.map_eq_some_iff.1 info_ints
 simp only [Prod.mk.injEq] at hzz
 obtain ⟨hz,hsz,hby⟩ := hzz
 have hu2 := Try.underlying35
 have HI := Aside0.mk hi
 have HC := Aside0.mk hc
 have HN := Aside0.mk (And.intro hn (And.intro h0 hl))
 have H1 := Aside0.mk h1
 have q22 : ∀ (w : World) (a : Option Addr) (n c n' c' : Nat),(binOp .eql 35 (.slice a n c) (.slice none n' c')).run Try.prog w = .ok (.bool a.isNone) w := fun w a n c n' c' => Lib.run_eql_slice_nil w _ _ a n c n' c' Try.underlying35
 clear hi hc hn h0 h1 hl
 go_enter Try.func68,Try.ntmps68
 go_wp2_with (at_builtin;refine wpList_append_own _ rfl _ _ _ rfl w.heap.size 40 i0 (.slice none 0 0) 1 24 hu2 HI.out hz hsz hby rfl (by decide) _ 0 [] rfl (empty_row w _ _) ad n cap us rfl (by rw [HN.out.1];omega) (fun j u hu => pw_cell_below (below_alloc (Below.refl _ _) _) (HC.out j u hu)) H1.out (by have := HN.out;unfold maxLen;omega) (by have := HN.out;omega) (by rw [World.size_alloc];omega) ?_;intro v2 w2 hown hg hne;rw [List.nil_append,Nat.zero_add] at hown;have HO := Aside0.mk hown;have HB := Aside0.mk (pw_below_grown (below_alloc (Below.refl _ _) _) _ (by rw [World.size_alloc];omega) hg (fun k hk => by injection hk with hk;subst hk;exact Nat.le_refl _));clear hown hg hne)
 go_ret
 rcases HO.out.2 with ⟨_,e0⟩ | ⟨g,cp,cur,rfl,_⟩
 ·have := HN.out;omega
 ·exact ⟨⟨g,cp,rfl,HO.out⟩,HB.out⟩
def since (w W : World) (k : Nat) : Prop := w.heap.size ≤ k ∧ k < W.heap.size
def OldL (w : World) (u : Value) (l : List Int) : Prop := ∃ A c,u = .slice A l.length c ∧ l.length ≤ c ∧ Kd.C (Kd.int .i64) w A l.length l
def LkLoop (w W : World) (r cp i n j : Nat) (φ : Nat → Nat × Nat) (ls : List (List Int)) : Prop :=
 ∃ cells,W.ownsRow w.heap.size 40 1 (.slice (some ⟨r,0,none⟩) n cp) n cells ∧ ∀ k l,ls[k]? = some l → ∃ u,cells[k]? = some u ∧ (k < j → IntL W w.heap.size (since w W) φ i k u l) ∧ (j ≤ k → OldL w u l)
theorem row_cell {W : World} {b r cp n : Nat} {e : TypeId} {cells : List Value} (h : W.ownsRow b e 1 (.slice (some ⟨r,0,none⟩) n cp) n cells) {j : Nat} (hj : j < n) : W.cell? ⟨r,j,none⟩ = cells[j]? ∧ (∀ k,W.frozen? ⟨r,k,none⟩ = false) ∧ b ≤ r ∧ r < W.heap.size := by
 rcases h.2 with ⟨e,_⟩ | ⟨g,cap,cur,e,hb,hh,hc1,hc2,hc3,hc4⟩
 ·cases e
 ·injection e with e1 _ _
  injection e1 with e1
  injection e1 with e1
  subst e1
  refine ⟨?_,fun k => blk_frozen hh k,hb,blk_lt hh⟩
  rw [blk_cell hh,← hc4,List.getElem?_take,if_pos (by omega),Array.getElem?_toList]
theorem LkLoop.step {w W W2 : World} {r cp i n j : Nat} {φ : Nat → Nat × Nat} {ls : List (List Int)} (h : LkLoop w W r cp i n j φ ls) (hw : w.heap.size ≤ W.heap.size) {l : List Int} {v : Value} (hj : ls[j]? = some l) (hb : Below W.heap.size W W2) (hv : OwnZ W2 W.heap.size v l) :
  LkLoop w (W2.setCell ⟨r,j,none⟩ v) r cp i n (j + 1) (fun k => if k < W.heap.size then φ k else (i,j)) ls := by
 obtain ⟨cells,h1,h2⟩ := h
 have h3 := pw_own_below h1 hb
 obtain ⟨c,hc⟩ := own_typed h3 r rfl
 have hty : ∀ q,q ∈ 3 :: (Kd.int .i64).E → q ≠ 40 := fun q hq => by have hq : q ∈ [3] := hq;rw [List.mem_singleton.1 hq];decide
 have hs : (W2.setCell ⟨r,j,none⟩ v).heap.size = W2.heap.size := World.size_setCell _ _ _
 refine ⟨cells.set j v,own_set_at h3 rfl j v,fun k l2 hk => ?_⟩
 obtain ⟨u,hu,hold,hnew⟩ := h2 k l2 hk
 have hkl := (List.getElem?_eq_some_iff.1 hu).1
 by_cases e : j = k
 ·subst e
  rw [hj] at hk
  injection hk with hk
  subst hk
  refine ⟨v,by rw [List.getElem?_set,if_pos rfl,if_pos hkl],fun _ => ?_,fun hc => by omega⟩
  exact Kd.R_set ((hv.weaken hw).R (fun k hk => ⟨⟨Nat.le_trans hw (own_base hv k hk),by rw [hs];exact own_lt hv k hk⟩,if_neg (by have := own_base hv k hk;omega)⟩)) hc hty j v
 ·refine ⟨u,by rw [List.getElem?_set_ne e];exact hu,fun hlt => ?_,fun hc => hnew (by omega)⟩
  refine Kd.R_set (Kd.R_mono (Kd.R_below (hold (by omega)) hb) (fun k hk => ⟨⟨hk.1.1,by rw [hs];have := hk.1.2;have := hb.size;omega⟩,(if_pos hk.1.2).trans hk.2⟩)) hc hty j v
end Go.Proofs.Ytofmlajanopniaa.Li
namespace Go.Proofs.Ytofmlajanopniaa.Li
open Go.RowKit Go.Proofs.YtofmlajanopniaaW.PrintWords Go.Proofs.YtofmlajanopniaaW.PrintLast Go.Proofs.YtofmlajanopniaaW.PrintMore Go.Proofs.Ytofmlajanopniaa.Q Go.Proofs.Ytofmlajanopniaa.Tk
def own.T1 : Bool × List (List Nat × List Nat) := (true,[([],[]),([0],[0]),([1],[1]),([2],[2]),([],[]),([4],[4]),([5],[5]),([6,3],[6]),([0,1,2,3,4,5,6],[]),([8,0,1,2,3,4,5,6],[8]),([9,3,7,0,1,2,3,4,5,6],[3,9]),([0,1,2,3,4,5,6,7,8,9,10],[]),([11,0,1,2,3,4,5,6,7,8,9,10],[11]),([12,7,10,0,1,2,3,4,5,6,7,8,9,10],[7,12])])
def own.B1 : List Nat := [0,1,3,7,0,16,48,127,127,383,1023,2047,4095,8191]
theorem own.tab1 : rtab .any (opsOf Try.f34 1) = own.T1 := by kernel_rfl
theorem own.bits1 : waitsOk own.T1.2 own.B1 = true := by kernel_rfl
def own.T6 : Bool × List (List Nat × List Nat) := (true,[([],[]),([0],[0]),([],[]),([],[]),([3],[3]),([1,2,0,1,2,3,4],[1,2]),([5,4,4,0,1,2,3,4],[4,5])])
def own.B6 : List Nat := [0,1,0,0,8,31,63]
theorem own.tab6 : rtab .any (opsOf Try.f34 6) = own.T6 := by kernel_rfl
theorem own.bits6 : waitsOk own.T6.2 own.B6 = true := by kernel_rfl
theorem ty_node1 : ∀ q,q ∈ 21 :: (Kd.int .i32).E → q ≠ 37 := fun q hq => by have hq : q ∈ [21] := hq;rw [List.mem_singleton.1 hq];decide
theorem ty_node2 : ∀ q,q ∈ 9 :: Kd.string.E → q ≠ 37 := fun q hq => by have hq : q ∈ [9] := hq;rw [List.mem_singleton.1 hq];decide
structure NParts (w : World) (n : Nd) (A1 : Option Addr) (c1 : Nat) (A2 : Option Addr) (c2 : Nat) (ad : Addr) (cl : Nat) : Prop where
 fit1 : n.vec.length ≤ c1
 vec : Kd.C (Kd.int .i32) w A1 n.vec.length n.vec
 fit2 : n.tags.length ≤ c2
 tags : Kd.C Kd.string w A2 n.tags.length n.tags
 lk : ∃ us : List Value,us.length = n.links.length ∧ (∀ (j : Nat) (u : Value),us[j]? = some u → w.cell? (ad.add j) = some u) ∧ ∀ (j : Nat) (l : List Int),n.links[j]? = some l → ∃ u,us[j]? = some u ∧ OldL w u l
 len : n.vec.length ≤ 100000 ∧ n.tags.length ≤ 100000 ∧ 0 < n.links.length ∧ n.links.length ≤ 100 ∧ ∀ l ∈ n.links,l.length ≤ 100000
structure OwnS (w W : World) (n : Nd) (a1 : Option Addr) (d1 : Nat) (a2 : Option Addr) (d2 r cp : Nat) : Prop where
 x : W.heap[w.heap.size]? = some (.cells (NdC n a1 d1 a2 d2 r cp).toArray 37 (0,0))
 y : W.heap[w.heap.size + 1]? = some (.cells #[.int .u32 0,.slice none 0 0,.slice none 0 0,.int .u64 0,.int .u64 0,.slice none 0 0] 37 (0,0))
 h1 : (Kd.int .i32).R 21 W w.heap.size (fun _ => True) (.slice a1 n.vec.length d1) n.vec
 h2 : Kd.string.R 9 W w.heap.size (fun _ => True) (.slice a2 n.tags.length d2) n.tags
 b : Below w.heap.size w W
 rr : w.heap.size + 1 < r
theorem OwnS.below {w W W2 : World} {n : Nd} {a1 : Option Addr} {d1 : Nat} {a2 : Option Addr} {d2 r cp : Nat} (h : OwnS w W n a1 d1 a2 d2 r cp) (hb : Below W.heap.size W W2) : OwnS w W2 n a1 d1 a2 d2 r cp :=
 ⟨blk_below h.x hb,blk_below h.y hb,Kd.R_below h.h1 hb,Kd.R_below h.h2 hb,bel_trans h.b hb,h.rr⟩
theorem ty_row1 : ∀ q,q ∈ 21 :: (Kd.int .i32).E → q ≠ 40 := fun q hq => by have hq : q ∈ [21] := hq;rw [List.mem_singleton.1 hq];decide
theorem ty_row2 : ∀ q,q ∈ 9 :: Kd.string.E → q ≠ 40 := fun q hq => by have hq : q ∈ [9] := hq;rw [List.mem_singleton.1 hq];decide
theorem OwnS.set {w W : World} {n : Nd} {a1 : Option Addr} {d1 : Nat} {a2 : Option Addr} {d2 r cp : Nat} (h : OwnS w W n a1 d1 a2 d2 r cp) {c : Array Value} (hc : W.heap[r]? = some (.cells c 40 (0,0))) (j : Nat) (v : Value) : OwnS w (W.setCell ⟨r,j,none⟩ v) n a1 d1 a2 d2 r cp :=
 ⟨(Below.heap_setCell _ _ _ _ (by show w.heap.size ≠ r;have := h.rr;omega)).trans h.x,(Below.heap_setCell _ _ _ _ (by show w.heap.size + 1 ≠ r;have := h.rr;omega)).trans h.y,Kd.R_set h.h1 hc ty_row1 j v,Kd.R_set h.h2 hc ty_row2 j v,below_set h.b (by have := h.rr;omega),h.rr⟩
theorem LkLoop.below {w W W2 : World} {r cp i n j : Nat} {φ : Nat → Nat × Nat} {ls : List (List Int)} (h : LkLoop w W r cp i n j φ ls) (hb : Below W.heap.size W W2) : LkLoop w W2 r cp i n j φ ls := by
 obtain ⟨cells,h1,h2⟩ := h
 refine ⟨cells,pw_own_below h1 hb,fun k l hk => ?_⟩
 obtain ⟨u,hu,ho,hn⟩ := h2 k l hk
 exact ⟨u,hu,fun hlt => Kd.R_mono (Kd.R_below (ho hlt) hb) (fun q hq => ⟨⟨hq.1.1,Nat.lt_of_lt_of_le hq.1.2 hb.size⟩,hq.2⟩),hn⟩
structure OwnT (w W : World) (n : Nd) (a1 : Option Addr) (d1 : Nat) (a2 : Option Addr) (d2 r cp i : Nat) (φ : Nat → Nat × Nat) : Prop where
 y : ∃ c,W.heap[w.heap.size + 1]? = some (.cells c 37 (0,0))
 h1 : (Kd.int .i32).R 21 W w.heap.size (fun _ => True) (.slice a1 n.vec.length d1) n.vec
 h2 : Kd.string.R 9 W w.heap.size (fun _ => True) (.slice a2 n.tags.length d2) n.tags
 lk : LkLoop w W r cp i n.links.length n.links.length φ n.links
 b : Below w.heap.size w W
 rr : w.heap.size + 1 < r
theorem OwnT.set {w W : World} {n : Nd} {a1 : Option Addr} {d1 : Nat} {a2 : Option Addr} {d2 r cp i : Nat} {φ : Nat → Nat × Nat} (h : OwnT w W n a1 d1 a2 d2 r cp i φ) (j : Nat) (v : Value) : OwnT w (W.setCell ⟨w.heap.size + 1,j,none⟩ v) n a1 d1 a2 d2 r cp i φ := by
 obtain ⟨c,hc⟩ := h.y
 obtain ⟨cells,k1,k2⟩ := h.lk
 refine ⟨⟨_,blk_set hc j v⟩,Kd.R_set h.h1 hc ty_node1 j v,Kd.R_set h.h2 hc ty_node2 j v,⟨cells,own_move k1 (fun k hk => ?_),fun k l hk => ?_⟩,below_set h.b (by omega),h.rr⟩
 ·injection hk with hk
  have hk : r = k := hk
  exact Below.heap_setCell _ _ _ _ (by show k ≠ w.heap.size + 1;have := h.rr;omega)
 ·obtain ⟨u,hu,ho,hn⟩ := k2 k l hk
  refine ⟨u,hu,fun hlt => Kd.R_mono (Kd.R_set (ho hlt) hc (fun q hq => by have hq : q ∈ [3] := hq;rw [List.mem_singleton.1 hq];decide) j v) (fun q hq => ⟨⟨hq.1.1,by rw [World.size_setCell];exact hq.1.2⟩,hq.2⟩),hn⟩
theorem OwnT.nd {w W : World} {n : Nd} {a1 : Option Addr} {d1 : Nat} {a2 : Option Addr} {d2 r cp i : Nat} {φ : Nat → Nat × Nat} (h : OwnT w W n a1 d1 a2 d2 r cp i φ) : NdR W w.heap.size (since w W) all2 φ (fun _ => i) i n a1 d1 a2 d2 r cp := by
 obtain ⟨cells,k1,k2⟩ := h.lk
 refine ⟨Kd.R_mono (Kd.R_bound h.h1) (fun k hk => ⟨hk.2.1,hk.2.2.1⟩),Kd.R_mono (Kd.R_bound h.h2) (fun k hk => ⟨hk.2.1,hk.2.2.1⟩), ?_⟩
 rcases k1.2 with ⟨e,_⟩ | ⟨g,cap,cur,e,hb,hh,hc1,hc2,hc3,hc4⟩
 ·cases e
 ·injection e with e1 _ e3
  injection e1 with e1
  injection e1 with e1
  subst e1;subst e3
  refine ⟨hb,⟨hb,blk_lt hh⟩,rfl,hc1,cur,hh,fun j l hj => ?_⟩
  obtain ⟨u,hu,ho,_⟩ := k2 j l hj
  have hjl := (List.getElem?_eq_some_iff.1 hj).1
  refine ⟨u, ?_,fun _ => ho hjl⟩
  rw [← hc4,List.getElem?_take,if_pos (by omega),Array.getElem?_toList] at hu
  exact hu
set_option maxHeartbeats 8000000 in
set_option maxRecDepth 100000 in
theorem own_calls (i : Nat) (n : Nd) (A1 : Option Addr) (c1 : Nat) (A2 : Option Addr) (c2 : Nat) (ad : Addr) (cl : Nat) (w : World) (hP : NParts w n A1 c1 A2 c2 ad cl) :
  Calls Try.prog 34 #[.agg #[.int .u32 n.id,.slice A1 n.vec.length c1,.slice A2 n.tags.length c2,.int .u64 n.fr,.int .u64 n.un,.slice (some ad) n.links.length cl]] w fun e w' => (∃ B1 d1 B2 d2 r cp φ,e = .returned (.agg (NdC n B1 d1 B2 d2 r cp).toArray) ∧ NdR w' w.heap.size (since w w') all2 φ (fun _ => i) i n B1 d1 B2 d2 r cp) ∧ Below w.heap.size w w' := by
 have hu := Try.underlying26
 have hu2 := Try.underlying37
 have HP := Aside0.mk hP
 clear hP
 go_enter Try.func34,Try.ntmps34
 go_wp2_with fail
 have hb1 := below_alloc (Below.refl w.heap.size w) (.cells #[.int .u32 n.id,.slice A1 n.vec.length c1,.slice A2 n.tags.length c2,.int .u64 n.fr,.int .u64 n.un,.slice (some ad) n.links.length cl] 37)
 obtain ⟨wa,hwa⟩ : ∃ z,w.alloc (.cells #[.int .u32 n.id,.slice A1 n.vec.length c1,.slice A2 n.tags.length c2,.int .u64 n.fr,.int .u64 n.un,.slice (some ad) n.links.length cl] 37) = z := ⟨_,rfl⟩
 have hx1 := heap_alloc_new w (.cells #[.int .u32 n.id,.slice A1 n.vec.length c1,.slice A2 n.tags.length c2,.int .u64 n.fr,.int .u64 n.un,.slice (some ad) n.links.length cl] 37)
 have hs1 := World.size_alloc w (.cells #[.int .u32 n.id,.slice A1 n.vec.length c1,.slice A2 n.tags.length c2,.int .u64 n.fr,.int .u64 n.un,.slice (some ad) n.links.length cl] 37)
 rw [hwa] at hb1 hx1 hs1 ⊢
 have hb2 := below_alloc (Below.refl wa.heap.size wa) (.cells #[.int .u32 0,.slice none 0 0,.slice none 0 0,.int .u64 0,.int .u64 0,.slice none 0 0] 37)
 have hx2 := heap_alloc_new wa (.cells #[.int .u32 0,.slice none 0 0,.slice none 0 0,.int .u64 0,.int .u64 0,.slice none 0 0] 37)
 obtain ⟨wb,hwb⟩ : ∃ z,wa.alloc (.cells #[.int .u32 0,.slice none 0 0,.slice none 0 0,.int .u64 0,.int .u64 0,.slice none 0 0] 37) = z := ⟨_,rfl⟩
 rw [hwb] at hb2 hx2 ⊢
 rw [hs1] at hx2
 have HB := Aside0.mk (bel_trans (bel_trans hb1 hb2) (below_drew (Below.refl _ _)))
 have HX := Aside0.mk (blk_below (blk_below hx1 hb2) (below_drew (Below.refl _ _)))
 have HY := Aside0.mk (blk_below hx2 (below_drew (Below.refl _ _)))
 clear hb1 hb2 hx1 hx2 hs1 hwa hwb
 refine start_ (n := 14) (S := fun w' => w'.cell? ⟨w.heap.size,1,none⟩ = some (.slice A1 n.vec.length c1) ∧ w'.cell? ⟨w.heap.size,2,none⟩ = some (.slice A2 n.tags.length c2)) (ds := [10,13]) (mB_ 14 0) (by kernel_rfl) rfl rfl ⟨((blk_cell HX.out 1).trans rfl),((blk_cell HX.out 2).trans rfl)⟩ (fun hHeld => ?_)
 refine with_tabW own.tab1 own.bits1 (fun HT_ HW_ => ?_)
 generalize wb.drew = wd at HB HX HY hHeld ⊢
 iterate 4 (refine pn_ 0 [(0,5,1),(1,6,3),(4,9,19),(5,10,51)] (v := ?_) (a' := ?_) rfl rfl rfl HT_.out (by kernel_rfl) (Or.inl ⟨by rfl, ?_⟩) ?_ ?_;rotate_left;(· intro w';go_simp;with_reducible rfl);rotate_left;(· simp only [Act.put,sT_,sZ_,sS_,i64_w,i32_w];rfl))
 iterate 2 (refine tn_ 51 [(2,7,55),(6,11,119)] (v := ?_) (a' := ?_) rfl rfl rfl HT_.out HW_.out (by kernel_rfl) (Or.inl ⟨by rfl, ?_⟩) hHeld ?_ ?_;rotate_left;(· rintro w' ⟨s0,s1⟩;go_simp;with_reducible rfl);rotate_left;(· simp only [Act.put,sT_,sZ_,sS_,i64_w,i32_w];rfl))
 refine one_ (i := 3) (N := some 8) (mB_ 14 127) rfl rfl (one_of HT_.out (by kernel_rfl)) (by decide) (fun K hK => ?_)
 refine goes_ Try.func66 (by kernel_rfl) rfl #[.slice A1 n.vec.length c1] (by rfl) rfl rfl (by simp only [List.map_toArray,List.map_cons,List.map_nil];rfl) ?_
 with_reducible refine (cloneI_calls A1 n.vec.length c1 n.vec _ rfl (Kd.C_below HP.out.vec HB.out) (by have := HP.out.len;omega)).mono ?_
 rintro e w3 ⟨⟨v1,rfl,h1⟩,hb⟩
 refine ⟨_,rfl, ?_⟩
 obtain ⟨a1,d1,rfl⟩ := Kd.R_slice h1
 have H1 := Aside0.mk (Kd.R_lower h1 HB.out.size)
 clear h1
 have NX := Aside0.mk (blk_below HX.out hb)
 have NY := Aside0.mk (blk_below HY.out hb)
 have NB := Aside0.mk (bel_trans HB.out hb)
 clear HX HY HB
 have HX := NX
 have HY := NY
 have HB := NB
 clear NX NY NB hb
 refine hK.out _ _ ⟨((blk_cell HX.out 1).trans rfl),((blk_cell HX.out 2).trans rfl)⟩ (fun hHeld => ?_)
 clear hK K
 refine norm_ (a' := ?_) ?_ ?_
 rotate_left
 ·show Act.put _ (some 8) _ = _
  simp only [Act.put,sT_,sZ_,sS_,i64_w,i32_w]
  rfl
 iterate 2 (refine pn_ 127 [(8,13,383),(9,14,895)] (v := ?_) (a' := ?_) rfl rfl rfl HT_.out (by kernel_rfl) (Or.inl ⟨by rfl, ?_⟩) ?_ ?_;rotate_left;(· intro w';go_simp;with_reducible rfl);rotate_left;(· simp only [Act.put,sT_,sZ_,sS_,i64_w,i32_w];rfl))
 refine one_ (i := 7) (N := some 12) (mB_ 14 1023) rfl rfl (one_of HT_.out (by kernel_rfl)) (by decide) (fun K hK => ?_)
 refine goes_ Try.func67 (by kernel_rfl) rfl #[.slice A2 n.tags.length c2] (by rfl) rfl rfl (by simp only [List.map_toArray,List.map_cons,List.map_nil];rfl) ?_
 with_reducible refine (cloneS_calls A2 n.tags.length c2 n.tags _ rfl (Kd.C_below HP.out.tags HB.out) (by have := HP.out.len;omega)).mono ?_
 rintro e w4 ⟨⟨v2,rfl,h2⟩,hb⟩
 refine ⟨_,rfl, ?_⟩
 obtain ⟨a2,d2,rfl⟩ := Kd.R_slice h2
 have H2 := Aside0.mk (Kd.R_lower h2 HB.out.size)
 clear h2
 have N1 := Aside0.mk (Kd.R_below H1.out hb)
 clear H1
 have H1 := N1
 clear N1
 have NX := Aside0.mk (blk_below HX.out hb)
 have NY := Aside0.mk (blk_below HY.out hb)
 have NB := Aside0.mk (bel_trans HB.out hb)
 clear HX HY HB
 have HX := NX
 have HY := NY
 have HB := NB
 clear NX NY NB hb
 refine hK.out _ _ ⟨((blk_cell HX.out 1).trans rfl),((blk_cell HX.out 2).trans rfl)⟩ (fun hHeld => ?_)
 clear hK K
 refine norm_ (a' := ?_) ?_ ?_
 rotate_left
 ·show Act.put _ (some 12) _ = _
  simp only [Act.put,sT_,sZ_,sS_,i64_w,i32_w]
  rfl
 refine last_ (i := 10) (N := none) (mB_ 14 2047) rfl rfl (one_of HT_.out (by kernel_rfl)) (by decide) (fun K hK => ?_)
 have z1 := (blk_cell HX.out 1).trans rfl
 have z2 := (blk_cell HX.out 2).trans rfl
 have fz : ∀ j,w4.frozen? ⟨w.heap.size,j,none⟩ = false := fun j => blk_frozen HX.out j
 refine skip_ (w1 := ?_) (by rfl) rfl ?_ ?_
 rotate_left
 ·go_simp
  rfl
 refine hK.out _ _ ?_
 clear hK K
 iterate 2 (refine pn_ 2047 [(11,15,4095),(12,16,8191)] (v := ?_) (a' := ?_) rfl rfl rfl HT_.out (by kernel_rfl) (Or.inl ⟨by rfl, ?_⟩) ?_ ?_;rotate_left;(· intro w';go_simp;with_reducible rfl);rotate_left;(· simp only [Act.put,sT_,sZ_,sS_,i64_w,i32_w];rfl))
 refine last_ (i := 13) (N := none) (mB_ 14 16383) rfl rfl (one_of HT_.out (by kernel_rfl)) (by decide) (fun K hK => ?_)
 refine skip_ (w1 := ?_) (by rfl) rfl ?_ ?_
 rotate_left
 ·go_simp
  rfl
 refine hK.out _ _ ?_
 clear hK K
 refine done_ (done_of HT_.out (by kernel_rfl)) ?_
 have HX5 := Aside0.mk (blk_put (blk_put HX.out 1 (.slice a1 n.vec.length d1) rfl) 2 (.slice a2 n.tags.length d2) rfl)
 have H15 := Aside0.mk (Kd.R_set (Kd.R_set H1.out HX.out ty_node1 1 (.slice a1 n.vec.length d1)) (blk_set HX.out 1 (.slice a1 n.vec.length d1)) ty_node1 2 (.slice a2 n.tags.length d2))
 have H25 := Aside0.mk (Kd.R_set (Kd.R_set H2.out HX.out ty_node2 1 (.slice a1 n.vec.length d1)) (blk_set HX.out 1 (.slice a1 n.vec.length d1)) ty_node2 2 (.slice a2 n.tags.length d2))
 have HB5 : Aside0 (Below w.heap.size w ((w4.setCell ⟨w.heap.size,1,none⟩ (.slice a1 n.vec.length d1)).setCell ⟨w.heap.size,2,none⟩ (.slice a2 n.tags.length d2))) := ⟨below_set (below_set HB.out (Nat.le_refl _)) (Nat.le_refl _)⟩
 have HY5 : Aside0 (((w4.setCell ⟨w.heap.size,1,none⟩ (.slice a1 n.vec.length d1)).setCell ⟨w.heap.size,2,none⟩ (.slice a2 n.tags.length d2)).heap[w.heap.size + 1]? = some (.cells #[.int .u32 0,.slice none 0 0,.slice none 0 0,.int .u64 0,.int .u64 0,.slice none 0 0] 37 (0,0))) := ⟨(Below.heap_setCell _ _ _ _ (by show w.heap.size + 1 ≠ w.heap.size;omega)).trans ((Below.heap_setCell _ _ _ _ (by show w.heap.size + 1 ≠ w.heap.size;omega)).trans HY.out)⟩
 obtain ⟨w5,hw5⟩ : ∃ z,((w4.setCell ⟨w.heap.size,1,none⟩ (.slice a1 n.vec.length d1)).setCell ⟨w.heap.size,2,none⟩ (.slice a2 n.tags.length d2)) = z := ⟨_,rfl⟩
 rw [hw5] at HX5 H15 H25 HB5 HY5 ⊢
 clear hw5 HX H1 H2 HB HY hHeld z1 z2 fz
 obtain ⟨us,hul,huc,huo⟩ := HP.out.lk
 have HUO := Aside0.mk (And.intro hul huo)
 have HCL := Aside0.mk (cloneL_calls ad n.links.length cl us w5 hul HP.out.len.2.2.1 (by have := HP.out.len;omega) (fun j u hu => pw_cell_below HB5.out (huc j u hu)) (fun u hu => by
  obtain ⟨j,hj,rfl⟩ := List.getElem_of_mem hu
  obtain ⟨u2,h2,A,c,e, -⟩ := huo j (n.links[j]'(by omega)) (List.getElem?_eq_getElem _)
  rw [List.getElem?_eq_getElem hj] at h2
  injection h2 with h2
  rw [h2,e];rfl))
 have y5 := (blk_cell HX5.out 5).trans rfl
 clear hul huc huo
 go_wp2_with (go_at_call 68;(with_reducible refine HCL.out.mono ?_);rintro e w6 ⟨⟨r,cp,rfl,hrow⟩,hb⟩;have HR6 := Aside0.mk hrow;have HX6 := Aside0.mk (blk_below HX5.out hb);have HY6 := Aside0.mk (blk_below HY5.out hb);have H16 := Aside0.mk (Kd.R_below H15.out hb);have H26 := Aside0.mk (Kd.R_below H25.out hb);have HB6 := Aside0.mk (bel_trans HB5.out hb);have HS5 := Aside0.mk HB5.out.size;have y6 := (blk_cell HX6.out 5).trans rfl;have fz : ∀ j,w6.frozen? ⟨w.heap.size,j,none⟩ = false := (fun j => blk_frozen HX6.out j);clear hrow hb y5)
 have HRB := Aside0.mk (show w.heap.size + 1 < r by have h1 := own_base HR6.out r rfl;have h2 := blk_lt HY5.out;omega)
 have HS7 : Aside0 (OwnS w (w6.setCell ⟨w.heap.size,5,none⟩ (.slice (some ⟨r,0,none⟩) n.links.length cp)) n a1 d1 a2 d2 r cp) := ⟨⟨blk_put HX6.out 5 _ rfl,(Below.heap_setCell _ _ _ _ (by show w.heap.size + 1 ≠ w.heap.size;omega)).trans HY6.out,Kd.R_set H16.out HX6.out ty_node1 5 _,Kd.R_set H26.out HX6.out ty_node2 5 _,below_set HB6.out (Nat.le_refl _),HRB.out⟩⟩
 have HL7 : Aside0 (LkLoop w (w6.setCell ⟨w.heap.size,5,none⟩ (.slice (some ⟨r,0,none⟩) n.links.length cp)) r cp i n.links.length 0 (fun _ => (0,0)) n.links) := ⟨us,own_move (own_weaken HR6.out HS5.out) (fun k hk => by injection hk with hk;have := HRB.out;exact Below.heap_setCell _ _ _ _ (by show k ≠ w.heap.size;have hk : r = k := hk;omega)),fun k l hk => by obtain ⟨u,h1,h2⟩ := HUO.out.2 k l hk;exact ⟨u,h1,fun h => absurd h (Nat.not_lt_zero _),fun _ => h2⟩⟩
 obtain ⟨w7,hw7⟩ : ∃ z,w6.setCell ⟨w.heap.size,5,none⟩ (.slice (some ⟨r,0,none⟩) n.links.length cp) = z := ⟨_,rfl⟩
 rw [hw7] at HS7 HL7 ⊢
 clear hw7 y6 fz HX6 HY6 H16 H26 HX5 HY5 H15 H25
 go_loopg [24] n.links.length (fun gk v24 wr => ∃ (j : Nat) (φ : Nat → Nat × Nat),v24 = .int .i64 j ∧ Aside0 (j ≤ n.links.length ∧ n.links.length - j ≤ gk) ∧ Aside0 (LkLoop w wr r cp i n.links.length j φ n.links) ∧ Aside0 (OwnS w wr n a1 d1 a2 d2 r cp))
 case atStart => exact ⟨0,_,rfl,⟨by omega⟩,HL7,HS7⟩
 case round =>
  obtain ⟨j,φ,rfl,HJ,HL,HS⟩ := hrel
  by_cases hj : j < n.links.length
  ·have q3 : (j : Int) < (n.links.length : Int) := by omega
   have q4 : decide (j < n.links.length) = true := decide_eq_true hj
   obtain ⟨l,hl⟩ : ∃ l,n.links[j]? = some l := ⟨_,List.getElem?_eq_getElem hj⟩
   obtain ⟨cells,hrow,hck⟩ := HL.out
   obtain ⟨u,hu, -,hold⟩ := hck j l hl
   obtain ⟨A,c,rfl,hlc,hC⟩ := hold (Nat.le_refl _)
   have c0 := (row_cell hrow hj).1.trans hu
   have HLJ := Aside0.mk hl
   have HJL := Aside0.mk hj
   have HLL := Aside0.mk (show l.length ≤ 100000 from HP.out.len.2.2.2.2 l (List.mem_of_getElem? hl))
   have hjl : j ≤ 100 := by have := HP.out.len;omega
   have HC := Aside0.mk hC
   clear hrow hck hu hold hlc hC hl hj
   go_wp2_with fail
   have HLD := Aside0.mk (HL.out.below (below_drew (Below.refl wr.heap.size wr)))
   have HSD := Aside0.mk (HS.out.below (below_drew (Below.refl wr.heap.size wr)))
   clear c0 HL HS
   refine start_ (n := 7) (S := fun w' => w'.cell? ⟨w.heap.size,5,none⟩ = some (.slice (some ⟨r,0,none⟩) n.links.length cp)) (ds := [6]) (mB_ 7 0) (by kernel_rfl) rfl rfl (((blk_cell HSD.out.x 5).trans rfl)) (fun hHeld => ?_)
   refine with_tabW own.tab6 own.bits6 (fun HT_ HW_ => ?_)
   generalize wr.drew = wd at HLD HSD hHeld ⊢
   iterate 3 (refine pn_ 0 [(0,29,1),(2,31,5),(3,32,13)] (v := ?_) (a' := ?_) rfl rfl rfl HT_.out (by kernel_rfl) (Or.inl ⟨by rfl, ?_⟩) ?_ ?_;rotate_left;(· intro w';go_simp;with_reducible rfl);rotate_left;(· simp only [Act.put,sT_,sZ_,sS_,i64_w,i32_w];rfl))
   refine tn_ 13 [(1,30,15)] (v := ?_) (a' := ?_) rfl rfl rfl HT_.out HW_.out (by kernel_rfl) (Or.inl ⟨by rfl, ?_⟩) hHeld ?_ ?_;rotate_left;(· intro w' s0;go_simp;with_reducible rfl);rotate_left;(· simp only [Act.put,sT_,sZ_,sS_,i64_w,i32_w];rfl)
   refine one_ (i := 4) (N := some 33) (mB_ 7 31) rfl rfl (one_of HT_.out (by kernel_rfl)) (by decide) (fun K hK => ?_)
   refine goes_ Try.func69 (by kernel_rfl) rfl #[.slice A l.length c] (by rfl) rfl rfl (by simp only [List.map_toArray,List.map_cons,List.map_nil];rfl) ?_
   with_reducible refine (cloneOwn (Kd.C_below HC.out HSD.out.b) (by have := HLL.out;omega)).mono ?_
   rintro e w3 ⟨⟨v3,rfl,hv⟩,hb⟩
   refine ⟨_,rfl, ?_⟩
   obtain ⟨a3,d3,rfl, -, -⟩ := hv.C0
   have HVC := Aside0.mk hv
   have HBC := Aside0.mk hb
   clear hv hb
   refine hK.out _ _ (((blk_cell (HSD.out.below HBC.out).x 5).trans rfl)) (fun hHeld => ?_)
   clear hK K
   refine norm_ (a' := ?_) ?_ ?_
   rotate_left
   ·show Act.put _ (some 33) _ = _
    simp only [Act.put,sT_,sZ_,sS_,i64_w,i32_w]
    rfl
   refine pn_ 31 [(5,34,63)] (v := ?_) (a' := ?_) rfl rfl rfl HT_.out (by kernel_rfl) (Or.inl ⟨by rfl, ?_⟩) ?_ ?_;rotate_left;(· intro w';go_simp;with_reducible rfl);rotate_left;(· simp only [Act.put,sT_,sZ_,sS_,i64_w,i32_w];rfl)
   refine last_ (i := 6) (N := none) (mB_ 7 127) rfl rfl (one_of HT_.out (by kernel_rfl)) (by decide) (fun K hK => ?_)
   have z1 := (row_cell (pw_own_below HLD.out.choose_spec.1 HBC.out) HJL.out).1
   obtain ⟨uu,hz⟩ : ∃ uu,w3.cell? ⟨r,j,none⟩ = some uu := by obtain ⟨uu,h1, -⟩ := HLD.out.choose_spec.2 j l HLJ.out;exact ⟨uu,z1.trans h1⟩
   have fz : ∀ k,w3.frozen? ⟨r,k,none⟩ = false := (row_cell (pw_own_below HLD.out.choose_spec.1 HBC.out) HJL.out).2.1
   clear z1
   refine skip_ (w1 := ?_) (by rfl) rfl ?_ ?_
   rotate_left
   ·go_simp
    rfl
   refine hK.out _ _ ?_
   clear hK K
   refine done_ (done_of HT_.out (by kernel_rfl)) ?_
   go_wp2
   obtain ⟨gm,rfl⟩ : ∃ z,gk = z + 1 := ⟨gk - 1,by have := HJ.out;have := HJL.out;omega⟩
   go_roundg gm
   case measure => omega
   case rel =>
    refine ⟨j + 1,_,by go_num,⟨by have := HJ.out;have := HJL.out;omega⟩,⟨HLD.out.step HSD.out.b.size HLJ.out HBC.out HVC.out⟩,⟨?_⟩⟩
    obtain ⟨c,hc⟩ := own_typed (pw_own_below HLD.out.choose_spec.1 HBC.out) r rfl
    exact (HSD.out.below HBC.out).set hc j _
  ·have q3 : decide ((j : Int) < (n.links.length : Int)) = false := decide_eq_false (by omega)
   have q4 : decide (j < n.links.length) = false := decide_eq_false hj
   have HJ0 := Aside0.mk (show j = n.links.length by have := HJ.out;omega)
   clear hj
   have x0 : wr.cell? ⟨w.heap.size,0,none⟩ = some (.int .u32 n.id) := (blk_cell HS.out.x 0).trans rfl
   have x1 : wr.cell? ⟨w.heap.size,1,none⟩ = some (.slice a1 n.vec.length d1) := (blk_cell HS.out.x 1).trans rfl
   have x2 : wr.cell? ⟨w.heap.size,2,none⟩ = some (.slice a2 n.tags.length d2) := (blk_cell HS.out.x 2).trans rfl
   have x3 : wr.cell? ⟨w.heap.size,3,none⟩ = some (.int .u64 n.fr) := (blk_cell HS.out.x 3).trans rfl
   have x4 : wr.cell? ⟨w.heap.size,4,none⟩ = some (.int .u64 n.un) := (blk_cell HS.out.x 4).trans rfl
   have x5 : wr.cell? ⟨w.heap.size,5,none⟩ = some (.slice (some ⟨r,0,none⟩) n.links.length cp) := (blk_cell HS.out.x 5).trans rfl
   have v0 : wr.cell? ⟨w.heap.size + 1,0,none⟩ = some (.int .u32 0) := (blk_cell HS.out.y 0).trans rfl
   have v1 : wr.cell? ⟨w.heap.size + 1,1,none⟩ = some (.slice none 0 0) := (blk_cell HS.out.y 1).trans rfl
   have v2 : wr.cell? ⟨w.heap.size + 1,2,none⟩ = some (.slice none 0 0) := (blk_cell HS.out.y 2).trans rfl
   have v3 : wr.cell? ⟨w.heap.size + 1,3,none⟩ = some (.int .u64 0) := (blk_cell HS.out.y 3).trans rfl
   have v4 : wr.cell? ⟨w.heap.size + 1,4,none⟩ = some (.int .u64 0) := (blk_cell HS.out.y 4).trans rfl
   have v5 : wr.cell? ⟨w.heap.size + 1,5,none⟩ = some (.slice none 0 0) := (blk_cell HS.out.y 5).trans rfl
   have fz : ∀ j,wr.frozen? ⟨w.heap.size + 1,j,none⟩ = false := fun j => blk_frozen HS.out.y j
   have HLF := Aside0.mk (show LkLoop w wr r cp i n.links.length n.links.length φ n.links by rw [← HJ0.out];rw [HJ0.out];have := HL.out;rwa [HJ0.out] at this)
   go_wp2
   refine bodyPost_ret (results_cell_row rfl _ _ (w.heap.size + 1) 37 (NdC n a1 d1 a2 d2 r cp).toArray (0,0) _ rfl (blk_put (blk_put (blk_put (blk_put (blk_put (blk_put HS.out.y 0 _ rfl) 1 _ rfl) 2 _ rfl) 3 _ rfl) 4 _ rfl) 5 _ rfl) Try.underlying37 rfl (by kernel_rfl)) rfl ?_
   have hT : OwnT w wr n a1 d1 a2 d2 r cp i φ := ⟨⟨_,HS.out.y⟩,HS.out.h1,HS.out.h2,HLF.out,HS.out.b,HS.out.rr⟩
   have hT6 := (((((hT.set 0 (.int .u32 n.id)).set 1 (.slice a1 n.vec.length d1)).set 2 (.slice a2 n.tags.length d2)).set 3 (.int .u64 n.fr)).set 4 (.int .u64 n.un)).set 5 (.slice (some ⟨r,0,none⟩) n.links.length cp)
   exact ⟨⟨_,_,_,_,_,_,φ,rfl,hT6.nd⟩,hT6.b⟩
end Go.Proofs.Ytofmlajanopniaa.Li
namespace Go.Proofs.Ytofmlajanopniaa.Li
open Go.RowKit Go.Proofs.YtofmlajanopniaaW.PrintWords Go.Proofs.YtofmlajanopniaaW.PrintLast Go.Proofs.YtofmlajanopniaaW.PrintMore Go.Proofs.Ytofmlajanopniaa.Q Go.Proofs.Ytofmlajanopniaa.Tk
section
variable {w0 w w' : World} {g : Nat} {F F' : Nat → Prop} {T T' : Nat → Nat → Prop} {s : Gr}
theorem NdR.lower {base base' : Nat} {φ : Nat → Nat × Nat} {ψ : Nat → Nat} {i : Nat} {n : Nd} {A1 : Option Addr} {c1 : Nat} {A2 : Option Addr} {c2 r cap : Nat} (h : NdR w base F T φ ψ i n A1 c1 A2 c2 r cap) (hb : base' ≤ base) : NdR w base' F T φ ψ i n A1 c1 A2 c2 r cap := by
 obtain ⟨k1,k2,k3,k4,cells,k5,k6⟩ := h.lk
 exact ⟨Kd.R_lower h.vec hb,Kd.R_lower h.tags hb,Nat.le_trans hb k1,k2,k3,k4,cells,k5,fun j l hj => by obtain ⟨u,e1,e2⟩ := k6 j l hj;exact ⟨u,e1,fun ht => Kd.R_lower (e2 ht) hb⟩⟩
def Gr.Small (s : Gr) : Prop := s.l.length ≤ 90000 ∧ ∀ (i : Nat) (n : Nd),s.l[i]? = some n → n.vec.length ≤ 100000 ∧ n.tags.length ≤ 100000 ∧ 0 < n.links.length ∧ n.links.length ≤ 100 ∧ ∀ l ∈ n.links,l.length ≤ 90000
theorem parts_of {w : World} {ad : Addr} {i : Nat} {n : Nd} {A1 : Option Addr} {c1 : Nat} {A2 : Option Addr} {c2 r cl : Nat} (hN : NodeAt w ad i n A1 c1 A2 c2 r cl) (hL : ∀ (j : Nat) (l : List Int),n.links[j]? = some l → ListAt w r j l) (hs : n.vec.length ≤ 100000 ∧ n.tags.length ≤ 100000 ∧ 0 < n.links.length ∧ n.links.length ≤ 100 ∧ ∀ l ∈ n.links,l.length ≤ 90000) : NParts w n A1 c1 A2 c2 ⟨r,0,none⟩ cl := by
 refine ⟨hN.fit1,hN.vec,hN.fit2,hN.tags,⟨(List.range n.links.length).map (fun j => (w.cell? ⟨r,j,none⟩).getD undef),by simp,fun j u hu => ?_,fun j l hl => ?_⟩,hs.1,hs.2.1,hs.2.2.1,hs.2.2.2.1,fun l hl => Nat.le_trans (hs.2.2.2.2 l hl) (by omega)⟩
 ·rw [List.getElem?_map] at hu
  obtain ⟨k,hk,rfl⟩ := Option.map_eq_some_iff.1 hu
  obtain ⟨hk1,hk2⟩ := List.getElem?_eq_some_iff.1 hk
  have hkj : k = j := by simpa using hk2.symm
  subst hkj
  have hkl : k < n.links.length := by simpa using hk1
  obtain ⟨A,c,h1, -, -⟩ := hL k n.links[k] (List.getElem?_eq_getElem hkl)
  rw [add_plain,h1]
  rfl
 ·have hjl := (List.getElem?_eq_some_iff.1 hl).1
  obtain ⟨A,c,h1,h2,h3⟩ := hL j l hl
  refine ⟨_, ?_,A,c,rfl,h2,h3⟩
  rw [List.getElem?_map,List.getElem?_eq_getElem (by simpa using hjl)]
  simp [h1]
set_option maxHeartbeats 4000000 in
set_option maxRecDepth 100000 in
theorem GT.node_no (h : GT w0 w g F T s) (i : Int) (hi : s.there i 0 = false) : Calls Try.prog 15 #[.pointer (some ⟨g,0,none⟩),.int .i64 i] w fun e w' => e = .returned (.tuple #[zeroNode,.bool false]) ∧ Below w.heap.size w w' := by
 have hu2 := Try.underlying37
 have HB0 := Aside0.mk (below_alloc (Below.refl w.heap.size w) (.cells #[.int .u32 0,.slice none 0 0,.slice none 0 0,.int .u64 0,.int .u64 0,.slice none 0 0] 37))
 have HX0 := Aside0.mk (heap_alloc_new w (.cells #[.int .u32 0,.slice none 0 0,.slice none 0 0,.int .u64 0,.int .u64 0,.slice none 0 0] 37))
 have HX := Aside0.mk h
 have HI := Aside0.mk hi
 clear h hi
 go_enter Try.func15,Try.ntmps15
 go_wp2_with (go_at_call 35;(with_reducible refine ((HX.out.below HB0.out).there_ i 0).mono ?_);rintro e w1 ⟨rfl,hb⟩;rw [HI.out];have HB := Aside0.mk (bel_trans HB0.out hb);have HXB := Aside0.mk (blk_below HX0.out hb);have z0 : w1.cell? ⟨w.heap.size,0,none⟩ = some (.int .u32 0) := (blk_cell HXB.out 0).trans rfl;have z1 : w1.cell? ⟨w.heap.size,1,none⟩ = some (.slice none 0 0) := (blk_cell HXB.out 1).trans rfl;have z2 : w1.cell? ⟨w.heap.size,2,none⟩ = some (.slice none 0 0) := (blk_cell HXB.out 2).trans rfl;have z3 : w1.cell? ⟨w.heap.size,3,none⟩ = some (.int .u64 0) := (blk_cell HXB.out 3).trans rfl;have z4 : w1.cell? ⟨w.heap.size,4,none⟩ = some (.int .u64 0) := (blk_cell HXB.out 4).trans rfl;have z5 : w1.cell? ⟨w.heap.size,5,none⟩ = some (.slice none 0 0) := (blk_cell HXB.out 5).trans rfl;have fz : ∀ j,w1.frozen? ⟨w.heap.size,j,none⟩ = false := (fun j => blk_frozen HXB.out j);clear hb)
 refine bodyPost_ret (results_ct rfl _ _ w.heap.size 37 #[.int .u32 0,.slice none 0 0,.slice none 0 0,.int .u64 0,.int .u64 0,.slice none 0 0] (0,0) _ rfl (blk_put (blk_put (blk_put (blk_put (blk_put (blk_put HXB.out 0 _ rfl) 1 _ rfl) 2 _ rfl) 3 _ rfl) 4 _ rfl) 5 _ rfl) Try.underlying37 rfl (by kernel_rfl)) rfl ?_
 exact ⟨rfl,below_set (below_set (below_set (below_set (below_set (below_set HB.out (Nat.le_refl _)) (Nat.le_refl _)) (Nat.le_refl _)) (Nat.le_refl _)) (Nat.le_refl _)) (Nat.le_refl _)⟩
set_option maxHeartbeats 4000000 in
set_option maxRecDepth 100000 in
theorem GT.node_yes (h : GX w0 w g F s) (hs : s.Small) {k : Nat} {n : Nd} (hn : s.l[k]? = some n) (hi : s.there (k : Int) 0 = true) : Calls Try.prog 15 #[.pointer (some ⟨g,0,none⟩),.int .i64 k] w fun e w' => (∃ B1 d1 B2 d2 r cp φ,e = .returned (.tuple #[.agg (NdC n B1 d1 B2 d2 r cp).toArray,.bool true]) ∧ NdR w' w.heap.size (since w w') all2 φ (fun _ => k) k n B1 d1 B2 d2 r cp) ∧ Below w.heap.size w w' := by
 have hu := Try.underlying84
 have hu2 := Try.underlying37
 have HB0 := Aside0.mk (below_alloc (Below.refl w.heap.size w) (.cells #[.int .u32 0,.slice none 0 0,.slice none 0 0,.int .u64 0,.int .u64 0,.slice none 0 0] 37))
 have HX0 := Aside0.mk (heap_alloc_new w (.cells #[.int .u32 0,.slice none 0 0,.slice none 0 0,.int .u64 0,.int .u64 0,.slice none 0 0] 37))
 have HX := Aside0.mk h
 have HI := Aside0.mk hi
 have HSM := Aside0.mk (hs.2 k n hn)
 have HNN := Aside0.mk hn
 have q1 : (k : Int) < (s.l.length : Int) := by have := (List.getElem?_eq_some_iff.1 hn).1;omega
 clear h hi hs hn
 go_enter Try.func15,Try.ntmps15
 go_wp2_with (first | (go_at_call 35;(with_reducible refine ((HX.out.below HB0.out).there_ k 0).mono ?_);rintro e w1 ⟨rfl,hb⟩;rw [HI.out];have HB := Aside0.mk (bel_trans HB0.out hb);have HXB := Aside0.mk (blk_below HX0.out hb);obtain ⟨ao,cap,hbx, -,hnode⟩ := (HX.out.below (bel_trans HB0.out hb)).reads;obtain ⟨ad,A1,c1,A2,c2,r0,cl,rfl,hN,hLi⟩ := hnode k n HNN.out;have HNP := Aside0.mk (parts_of hN (fun j l hj => hLi j l hj trivial) HSM.out);have y1 := (blk_cell hbx 1).trans rfl;have g0 := hN.y0;have g1 := hN.y1;have g2 := hN.y2;have g3 := hN.y3;have g4 := hN.y4;have g5 := hN.y5;clear hb hbx hnode hN hLi) | (go_at_call 34;(with_reducible refine (own_calls k n A1 c1 A2 c2 ⟨r0,0,none⟩ cl _ HNP.out).mono ?_);rintro e w2 ⟨⟨B1,d1,B2,d2,r,cp,φ,rfl,hR⟩,hb⟩;have HR := Aside0.mk hR;have HXC := Aside0.mk (blk_below HXB.out hb);have HB2 := Aside0.mk (bel_trans HB.out hb);have HSZ := Aside0.mk (blk_lt HXB.out);have z0 : w2.cell? ⟨w.heap.size,0,none⟩ = some (.int .u32 0) := (blk_cell HXC.out 0).trans rfl;have z1 : w2.cell? ⟨w.heap.size,1,none⟩ = some (.slice none 0 0) := (blk_cell HXC.out 1).trans rfl;have z2 : w2.cell? ⟨w.heap.size,2,none⟩ = some (.slice none 0 0) := (blk_cell HXC.out 2).trans rfl;have z3 : w2.cell? ⟨w.heap.size,3,none⟩ = some (.int .u64 0) := (blk_cell HXC.out 3).trans rfl;have z4 : w2.cell? ⟨w.heap.size,4,none⟩ = some (.int .u64 0) := (blk_cell HXC.out 4).trans rfl;have z5 : w2.cell? ⟨w.heap.size,5,none⟩ = some (.slice none 0 0) := (blk_cell HXC.out 5).trans rfl;have fz : ∀ j,w2.frozen? ⟨w.heap.size,j,none⟩ = false := (fun j => blk_frozen HXC.out j);unfold NdC;clear hR hb))
 refine bodyPost_ret (results_ct rfl _ _ w.heap.size 37 (NdC n B1 d1 B2 d2 r cp).toArray (0,0) _ rfl (blk_put (blk_put (blk_put (blk_put (blk_put (blk_put HXC.out 0 _ rfl) 1 _ rfl) 2 _ rfl) 3 _ rfl) 4 _ rfl) 5 _ rfl) Try.underlying37 rfl (by kernel_rfl)) rfl ?_
 refine ⟨⟨_,_,_,_,_,_,φ,rfl, ?_⟩,below_set (below_set (below_set (below_set (below_set (below_set HB2.out (Nat.le_refl _)) (Nat.le_refl _)) (Nat.le_refl _)) (Nat.le_refl _)) (Nat.le_refl _)) (Nat.le_refl _)⟩
 refine ((HR.out.keeps (fun q c t hq _ _ _ => ?_)).lower HB.out.size).mono (fun q hq => ⟨?_, ?_⟩) (fun _ _ => rfl) (fun _ _ => rfl) (fun _ ht => ht)
 ·have hne : q ≠ w.heap.size := by have := hq.1;have := HSZ.out;omega
  exact (Below.heap_setCell _ _ _ _ hne).trans ((Below.heap_setCell _ _ _ _ hne).trans ((Below.heap_setCell _ _ _ _ hne).trans ((Below.heap_setCell _ _ _ _ hne).trans ((Below.heap_setCell _ _ _ _ hne).trans (Below.heap_setCell _ _ _ _ hne)))))
 ·exact Nat.le_trans HB.out.size hq.1
 ·simp only [World.size_setCell];exact hq.2
end
end Go.Proofs.Ytofmlajanopniaa.Li
namespace Go.Proofs.Ytofmlajanopniaa.Li
open Go.RowKit Go.Proofs.YtofmlajanopniaaW.PrintWords Go.Proofs.YtofmlajanopniaaW.PrintLast Go.Proofs.YtofmlajanopniaaW.PrintMore Go.Proofs.Ytofmlajanopniaa.Q Go.Proofs.Ytofmlajanopniaa.Tk
section
variable {w0 w W : World} {g : Nat} {F F' : Nat → Prop} {T T' : Nat → Nat → Prop} {φ φ2 : Nat → Nat × Nat} {ψ ψ2 : Nat → Nat} {vL : Value} {s : Gr}
def both {α : Type} (w : World) (f f2 : Nat → α) (k : Nat) : α := if k < w.heap.size then f k else f2 k
theorem GM.wide (h : GM w0 W g F all2 φ ψ vL s) (hw : w0.heap.size ≤ w.heap.size) (hF : ∀ k,F k → k < w.heap.size) (φ2 : Nat → Nat × Nat) (ψ2 : Nat → Nat) : GM w0 W g (more F w W) all2 (both w φ φ2) (both w ψ ψ2) vL s := by
 refine h.mono (fun k hk => .inl hk) (fun k hk => ?_) (fun k hk => if_pos (hF k hk)) (fun k hk => if_pos (hF k hk)) (fun _ _ ht => ht)
 rcases hk with hk | hk
 ·exact h.low k hk
 ·exact ⟨Nat.le_trans hw hk.1,hk.2⟩
theorem NdR.wide {w1 : World} {b i : Nat} {n : Nd} {A1 : Option Addr} {c1 : Nat} {A2 : Option Addr} {c2 r cap : Nat} (h : NdR W b (since w1 W) all2 φ2 ψ2 i n A1 c1 A2 c2 r cap) (hw1 : w.heap.size ≤ w1.heap.size) (hb : w0.heap.size ≤ b) : NdR W w0.heap.size (more F w W) all2 (both w φ φ2) (both w ψ ψ2) i n A1 c1 A2 c2 r cap :=
 (h.lower hb).mono (fun k hk => .inr ⟨Nat.le_trans hw1 hk.1,hk.2⟩) (fun k hk => if_neg (by have := hk.1;omega)) (fun k hk => if_neg (by have := hk.1;omega)) (fun _ ht => ht)
theorem GM.rowN (h : GM w0 W g F T φ ψ vL s) : RowN W w0.heap.size F T φ ψ vL s.l := by
 obtain ⟨inner,h1,h2⟩ := h.row
 exact ⟨inner,h1,h2⟩
end
section
variable {ops : Array Oper} {rest : List Oper} {o : Oper} {a : Act} {w : World} {K : Act → World → Prop} {Q : Exit → Act → World → Prop} {E : Prop} {base : Nat} {F : Nat → Prop} {T : Nat → Nat → Prop} {φ : Nat → Nat × Nat} {ψ : Nat → Nat} {vL : Value}
theorem step_N (hgd : o.guard = none) (sl x : Operand) (ho : o.op = .call { callee := .builtin .append,args := #[sl,x],argTypes := #[46,46] }) (l : List Nd) (hs : a.eval sl = vL) (hrow : RowN w base F T φ ψ vL l) (n : Nd) (A1 : Option Addr) (c1 : Nat) (A2 : Option Addr) (c2 r cap p : Nat) (hx : a.eval x = .slice (some ⟨p,0,none⟩) 1 1) (hp : w.heap[p]? = some (.cells (NdC n A1 c1 A2 c2 r cap).toArray 37 (0,0)))
  (hN : NdR w base F T φ ψ l.length n A1 c1 A2 c2 r cap) (hl : l.length ≤ 100000) (hb : base ≤ w.heap.size)
  (h : ∀ v1 w1,RowN w1 base F T φ ψ v1 (l ++ [n]) → Only (fun i => vL.ownBlock = some i) w w1 → (v1.ownBlock = vL.ownBlock ∨ v1.ownBlock = some w.heap.size) → K (a.put o.dst v1) w1) : if Region.wanted o (yielded ops a.tmps) = true then Oper.wp Try.prog o a w K Q else E := by
 obtain ⟨v1,w1,hrun,h1,h2,h3⟩ := run_append_N o.type l hrow n A1 c1 A2 c2 r cap p hp hN hl hb
 rw [if_pos (by simp [Region.wanted,hgd])]
 unfold Oper.wp execOp
 simp only [ho,resolve,invoke,builtin,Sem.run_bind,Sem.run_pure,Result.andThen_ok,List.map_toArray,List.map_cons,List.map_nil,hs,hx,hrun]
 exact h v1 w1 h1 h2 h3
end
end Go.Proofs.Ytofmlajanopniaa.Li
namespace Go.Proofs.Ytofmlajanopniaa.Li
open Go.RowKit Go.Proofs.YtofmlajanopniaaW.PrintWords Go.Proofs.YtofmlajanopniaaW.PrintLast Go.Proofs.YtofmlajanopniaaW.PrintMore Go.Proofs.Ytofmlajanopniaa.Q Go.Proofs.Ytofmlajanopniaa.Tk
def add.T2 : Bool × List (List Nat × List Nat) := (true,[([],[]),([],[]),([1],[1]),([2],[2]),([3],[3]),([],[]),([],[]),([],[]),([7],[7]),([8,8],[8]),([5,6,9],[5,6,9]),([10],[10]),([11],[11]),([4,12,11],[4,12]),([0,0,1,2,3,4,5,6,7,8,9,10,11,12,13],[0]),([14,0,1,2,3,4,5,6,7,8,9,10,11,12,13],[14]),([15,13,13,0,1,2,3,4,5,6,7,8,9,10,11,12,13],[13,15])])
def add.B2 : List Nat := [0,0,2,6,14,0,0,0,128,384,992,2016,4064,8190,16383,32767,65535]
theorem add.tab2 : rtab .any (opsOf Try.f13 2) = add.T2 := by kernel_rfl
theorem add.bits2 : waitsOk add.T2.2 add.B2 = true := by kernel_rfl
section
variable {w0 w w' : World} {g : Nat} {F F' : Nat → Prop} {T : Nat → Nat → Prop} {φ φ2 : Nat → Nat × Nat} {ψ ψ2 : Nat → Nat} {vL : Value} {s : Gr}
theorem GM.below (h : GM w0 w g F T φ ψ vL s) (hb : Below w.heap.size w w') : GM w0 w' g F T φ ψ vL s := h.same (fun k hk => hb.block k (h.low k hk).2) hb.size (bel_trans h.at0 hb)
theorem RowN.slice {base : Nat} {v : Value} {l : List Nd} (h : RowN w base F T φ ψ v l) : ∃ ao cap,v = .slice ao l.length cap := by
 obtain ⟨inner,h1,_⟩ := h
 rcases h1.2 with ⟨rfl,h0⟩ | ⟨r,cap,cur,rfl,_⟩
 ·exact ⟨none,0,by rw [h0]⟩
 ·exact ⟨_,cap,rfl⟩
theorem RowN.lt {base : Nat} {v : Value} {l : List Nd} (h : RowN w base F T φ ψ v l) : ∀ k,v.ownBlock = some k → k < w.heap.size := by
 obtain ⟨inner,h1,_⟩ := h
 exact own_lt h1
theorem made_lists {W : World} {b m cp : Nat} (h : W.ownsRow b 40 1 (.slice (some ⟨b,0,none⟩) m cp) m (madeCells (Value.slice none 0 0).cells (m * 1)).toList) : ∃ us : List Value,us.length = m ∧ (∀ (j : Nat) (u : Value),us[j]? = some u → W.cell? ((⟨b,0,none⟩ : Addr).add j) = some u) ∧ ∀ (j : Nat) (l : List Int),(List.replicate m ([] : List Int))[j]? = some l → ∃ u,us[j]? = some u ∧ OldL W u l := by
 have hc : (madeCells (Value.slice none 0 0).cells (m * 1)).toList = List.replicate m (.slice none 0 0) := by
  apply List.ext_getElem?
  intro i
  simp only [madeCells,Array.toList_map,List.getElem?_map,List.getElem?_replicate,Nat.mul_one]
  by_cases hi : i < m
  ·rw [if_pos hi,Array.getElem?_toList,Array.getElem?_range,if_pos hi]
   simp only [Option.map_some,Value.cells,List.size_toArray,List.length_cons,List.length_nil,Nat.zero_add,Nat.mod_one]
   rfl
  ·rw [if_neg hi,Array.getElem?_toList,Array.getElem?_range,if_neg hi]
   rfl
 rw [hc] at h
 refine ⟨List.replicate m (.slice none 0 0),by simp,fun j u hu => ?_,fun j l hl => ?_⟩
 ·have hj : j < m := by have := (List.getElem?_eq_some_iff.1 hu).1;simpa using this
  rw [add_plain]
  exact (row_cell h hj).1.trans hu
 ·rw [List.getElem?_replicate] at hl
  split at hl
  ·next hj =>
   injection hl with hl
   subst hl
   exact ⟨.slice none 0 0,by rw [List.getElem?_replicate,if_pos hj],none,0,rfl,Nat.le_refl _,Kd.C_nil _ _⟩
  ·cases hl
theorem own_n (i : Nat) (n : Nd) (A1 : Option Addr) (c1 : Nat) (A2 : Option Addr) (c2 : Nat) (ad : Addr) (cl N : Nat) (w : World) (hN : n.links.length = N) (fr un : Int) (hf : n.fr = fr) (hu : n.un = un) (hP : NParts w n A1 c1 A2 c2 ad cl) :
  Calls Try.prog 34 #[.agg #[.int .u32 n.id,.slice A1 n.vec.length c1,.slice A2 n.tags.length c2,.int .u64 fr,.int .u64 un,.slice (some ad) N cl]] w fun e w' => (∃ B1 d1 B2 d2 r cp φ,e = .returned (.agg (NdC n B1 d1 B2 d2 r cp).toArray) ∧ NdR w' w.heap.size (since w w') all2 φ (fun _ => i) i n B1 d1 B2 d2 r cp) ∧ Below w.heap.size w w' := by
 subst hN hf hu
 exact own_calls i n A1 c1 A2 c2 ad cl w hP
theorem parts9 {W : World} {b L : Nat} {id v : Int} {vec : List Int} {tags : List ByteArray} {A1 A2 : Option Addr} {c1 c2 : Nat} (hO : ∃ us : List Value,us.length = L + 1 ∧ (∀ (j : Nat) (u : Value),us[j]? = some u → W.cell? ((⟨b,0,none⟩ : Addr).add j) = some u) ∧ ∀ (j : Nat) (l : List Int),(List.replicate (L + 1) ([] : List Int))[j]? = some l → ∃ u,us[j]? = some u ∧ OldL W u l)
  (hC1 : Kd.C (Kd.int .i32) W A1 vec.length vec) (hf1 : vec.length ≤ c1) (hC2 : Kd.C Kd.string W A2 tags.length tags) (hf2 : tags.length ≤ c2) (hl1 : vec.length ≤ 100000) (hl2 : tags.length ≤ 100000) (hL : L ≤ 4) : NParts W ⟨id,vec,tags,v,0,List.replicate (L + 1) []⟩ A1 c1 A2 c2 ⟨b,0,none⟩ (L + 1) := by
 obtain ⟨us,k1,k2,k3⟩ := hO
 refine ⟨hf1,hC1,hf2,hC2,⟨us,by simp [k1],k2,k3⟩,hl1,hl2,by simp,by simp;omega,fun l hl => ?_⟩
 have := List.eq_of_mem_replicate hl
 subst this
 simp
theorem NdR.among {w1 w2 W : World} {i : Nat} {n : Nd} {A1 : Option Addr} {c1 : Nat} {A2 : Option Addr} {c2 r cap : Nat} (h : NdR w2 w1.heap.size (since w1 w2) all2 φ2 ψ2 i n A1 c1 A2 c2 r cap) (hb : Below w2.heap.size w2 W) (hw1 : w.heap.size ≤ w1.heap.size) (hw0 : w0.heap.size ≤ w1.heap.size) : NdR W w0.heap.size (more F w W) all2 (both w φ φ2) (both w ψ ψ2) i n A1 c1 A2 c2 r cap :=
 NdR.wide (w1 := w1) ((h.keeps (fun k c t hk hc _ _ => hb.block k hk.2)).mono (fun k hk => ⟨hk.1,Nat.lt_of_lt_of_le hk.2 hb.size⟩) (fun _ _ => rfl) (fun _ _ => rfl) (fun _ ht => ht)) hw1 hw0
theorem added_all {W w1 : World} {v1 : Value} {n : Nd} (h : GM w0 w g F all2 φ ψ vL s) (hb : Below w.heap.size w W) (hG : GM w0 W g (more F w W) all2 (both w φ φ2) (both w ψ ψ2) vL s) (hO : Only (fun i => vL.ownBlock = some i) W w1) (hr : RowN w1 w0.heap.size (more F w W) all2 (both w φ φ2) (both w ψ ψ2) v1 (s.l ++ [n])) (hv : v1.ownBlock = vL.ownBlock ∨ v1.ownBlock = some W.heap.size) :
  GX w0 (w1.setCell ⟨g,1,none⟩ v1) g (more F w (w1.setCell ⟨g,1,none⟩ v1)) ⟨s.m,s.l ++ [n]⟩ ∧ Only F w (w1.setCell ⟨g,1,none⟩ v1) := by
 have hA := hG.added hO hr hv hr.lt
 have hs : (w1.setCell ⟨g,1,none⟩ v1).heap.size = w1.heap.size := World.size_setCell _ _ _
 have hall : ∀ k,more F w W k ∨ (W.heap.size ≤ k ∧ k < w1.heap.size) → more F w (w1.setCell ⟨g,1,none⟩ v1) k := fun k hk => by
  rcases hk with (hk | hk) | hk
  ·exact .inl hk
  ·exact .inr ⟨hk.1,by rw [hs];exact Nat.lt_of_lt_of_le hk.2 hO.size⟩
  ·exact .inr ⟨Nat.le_trans hb.size hk.1,by rw [hs];exact hk.2⟩
 refine ⟨⟨_,_,_,hA.mono hall (fun k hk => ?_) (fun _ _ => rfl) (fun _ _ => rfl) (fun _ _ ht => ht)⟩, ?_⟩
 ·rcases hk with hk | hk
  ·refine ⟨(h.low k hk).1, ?_⟩
   rw [hs];exact Nat.lt_of_lt_of_le (h.low k hk).2 (Nat.le_trans hb.size hO.size)
  ·exact ⟨Nat.le_trans h.at0.size hk.1,hk.2⟩
 ·exact (Only.of_below hb).then_ ((hO.mono (fun k hk => h.vF k hk)).set ⟨g,1,none⟩ v1 h.gF) (fun i hi _ => hi)
set_option maxHeartbeats 8000000 in
set_option maxRecDepth 100000 in
theorem GT.add_ (h : GX w0 w g F s) (hl : s.l.length ≤ 90000) (id : Int) (vec : List Int) (tags : List ByteArray) (A1 : Option Addr) (c1 : Nat) (A2 : Option Addr) (c2 : Nat) (hf1 : vec.length ≤ c1) (hC1 : Kd.C (Kd.int .i32) w A1 vec.length vec) (hf2 : tags.length ≤ c2) (hC2 : Kd.C Kd.string w A2 tags.length tags) (hl1 : vec.length ≤ 100000) (hl2 : tags.length ≤ 100000) (lv v : Int) :
  Calls Try.prog 13 #[.pointer (some ⟨g,0,none⟩),.agg #[.int .u32 id,.slice A1 vec.length c1,.slice A2 tags.length c2],.int .i64 lv,.int .u64 v] w fun e w' => e = .returned (.int .i64 s.l.length) ∧ GX w0 w' g (more F w w') (s.add id vec tags lv v) ∧ Only F w w' := by
 have hu := Try.underlying84
 have hu2 := Try.underlying37
 have hu3 := Try.underlying26
 have hu4 := Try.underlying35
 have HB0 := Aside0.mk (below_alloc (Below.refl w.heap.size w) (.cells #[.int .u32 id,.slice A1 vec.length c1,.slice A2 tags.length c2] 26))
 have HX0 := Aside0.mk (heap_alloc_new w (.cells #[.int .u32 id,.slice A1 vec.length c1,.slice A2 tags.length c2] 26))
 obtain ⟨φ,ψ,vL,hG⟩ := h
 have HG := Aside0.mk hG
 have HF := Aside0.mk (fun k hk => (hG.low k hk).2)
 have HC := Aside0.mk (And.intro (And.intro hf1 hC1) (And.intro hf2 hC2))
 have HL := Aside0.mk (And.intro hl (And.intro hl1 hl2))
 obtain ⟨L,hL⟩ : ∃ z : Nat,max 0 (min lv 4) = (z : Int) := ⟨(max 0 (min lv 4)).toNat,by omega⟩
 have HLV := Aside0.mk (show L ≤ 4 ∧ clampL lv = L ∧ wrap64 ((L : Int) + 1) = ((L + 1 : Nat) : Int) by unfold clampL;rw [hL];unfold wrap64;omega)
 have HLM := Aside0.mk hL
 clear hG hf1 hC1 hf2 hC2 hl hl1 hl2 hL
 go_enter Try.func13,Try.ntmps13
 go_wp2_with fail
 obtain ⟨wb,hwb⟩ : ∃ z,w.alloc (.cells #[.int .u32 id,.slice A1 vec.length c1,.slice A2 tags.length c2] 26) = z := ⟨_,rfl⟩
 rw [hwb] at HX0 HB0 ⊢
 have HB := Aside0.mk (bel_trans HB0.out (below_drew (Below.refl _ _)))
 have HX := Aside0.mk (blk_below HX0.out (below_drew (Below.refl _ _)))
 clear HX0 HB0 hwb
 rw [HLM.out]
 refine start_ (n := 17) (S := fun w' => w'.cell? ⟨g,1,none⟩ = some vL ∧ w'.cell? ⟨w.heap.size,0,none⟩ = some (.int .u32 id) ∧ w'.cell? ⟨w.heap.size,1,none⟩ = some (.slice A1 vec.length c1) ∧ w'.cell? ⟨w.heap.size,2,none⟩ = some (.slice A2 tags.length c2)) (ds := [16]) (mB_ 17 0) (by kernel_rfl) rfl rfl ⟨((blk_cell (HG.out.below HB.out).box 1).trans rfl),((blk_cell HX.out 0).trans rfl),((blk_cell HX.out 1).trans rfl),((blk_cell HX.out 2).trans rfl)⟩ (fun hHeld => ?_)
 refine with_tabW add.tab2 add.bits2 (fun HT_ HW_ => ?_)
 generalize wb.drew = wd at HB HX hHeld ⊢
 iterate 7 (refine pn_ 0 [(0,12,1),(1,13,3),(2,14,7),(3,15,15),(6,18,79),(7,19,207),(8,20,463)] (v := ?_) (a' := ?_) rfl rfl rfl HT_.out (by kernel_rfl) (Or.inl ⟨by rfl, ?_⟩) ?_ ?_;rotate_left;(· intro w';go_simp;with_reducible rfl);rotate_left;(· simp only [Act.put,sT_,sZ_,sS_,i64_w,i32_w];rfl))
 iterate 2 (refine tn_ 463 [(4,16,479),(5,17,511)] (v := ?_) (a' := ?_) rfl rfl rfl HT_.out HW_.out (by kernel_rfl) (Or.inl ⟨by rfl, ?_⟩) hHeld ?_ ?_;rotate_left;(· rintro w' ⟨s0,s1,s2,s3⟩;go_simp;with_reducible rfl);rotate_left;(· simp only [Act.put,sT_,sZ_,sS_,i64_w,i32_w];rfl))
 refine one_ (i := 9) (N := some 21) (mB_ 17 1023) rfl rfl (one_of HT_.out (by kernel_rfl)) (by decide) (fun K hK => ?_)
 obtain ⟨i0,hi0,hzz⟩ := Option.map_eq_some_iff.1 info_ints
 simp only [Prod.mk.injEq] at hzz
 obtain ⟨w9,hrun9,ho9,hg9⟩ := run_makeSlice_full (P := Try.prog) (w := wd) wd.heap.size 35 40 i0 (.slice none 0 0) 1 hu4 hi0 hzz.1 hzz.2.1 .i64 .i64 (L + 1) (by have := HLV.out;omega) (by rw [hzz.2.2];have := HLV.out;omega) (by have := HLV.out;unfold maxLen;omega) (Nat.le_refl _)
 refine value_ (w1 := w9) (v := .slice (some ⟨wd.heap.size,0,none⟩) (L + 1) (L + 1)) (by rfl) rfl ?_ ?_
 ·go_simp
  rw [HLV.out.2.2,hrun9]
  rfl
 have hb9 := (Only.of_grown hg9 (fun k hk => by cases hk) : Only (fun _ => False) wd w9).below_of (Below.refl wd.heap.size wd) (fun i hi => hi.elim)
 have HB9 := Aside0.mk (bel_trans HB.out hb9)
 have HX9 := Aside0.mk (blk_below HX.out hb9)
 have HO9 := Aside0.mk (made_lists ho9)
 clear hb9 hrun9 ho9 hg9 hi0 hzz
 refine hK.out _ _ ⟨((blk_cell (HG.out.below HB9.out).box 1).trans rfl),((blk_cell HX9.out 0).trans rfl),((blk_cell HX9.out 1).trans rfl),((blk_cell HX9.out 2).trans rfl)⟩ (fun hHeld => ?_)
 clear hK K
 refine norm_ (a' := ?_) ?_ ?_
 rotate_left
 ·show Act.put _ (some 21) _ = _
  simp only [Act.put,sT_,sZ_,sS_,i64_w,i32_w]
  rfl
 refine pn_ 1023 [(10,22,2047)] (v := ?_) (a' := ?_) rfl rfl rfl HT_.out (by kernel_rfl) (Or.inl ⟨by rfl, ?_⟩) ?_ ?_;rotate_left;(· intro w';go_simp;with_reducible rfl);rotate_left;(· simp only [Act.put,sT_,sZ_,sS_,i64_w,i32_w];rfl)
 refine one_ (i := 11) (N := some 23) (mB_ 17 4095) rfl rfl (one_of HT_.out (by kernel_rfl)) (by decide) (fun K hK => ?_)
 refine goes_ Try.func34 (by kernel_rfl) rfl #[.agg #[.int .u32 id,.slice A1 vec.length c1,.slice A2 tags.length c2,.int .u64 v,.int .u64 0,.slice (some ⟨wd.heap.size,0,none⟩) (L + 1) (L + 1)]] (by rfl) rfl rfl (by simp only [List.map_toArray,List.map_cons,List.map_nil];rfl) ?_
 with_reducible refine (own_n s.l.length ⟨id,vec,tags,v,0,List.replicate (L + 1) []⟩ A1 c1 A2 c2 ⟨wd.heap.size,0,none⟩ (L + 1) (L + 1) w9 (by simp) v 0 rfl rfl (parts9 HO9.out (Kd.C_below HC.out.1.2 HB9.out) HC.out.1.1 (Kd.C_below HC.out.2.2 HB9.out) HC.out.2.1 HL.out.2.1 HL.out.2.2 HLV.out.1)).mono ?_
 rintro e w11 ⟨⟨B1,d1,B2,d2,r,cp,φ2,rfl,hR⟩,hb⟩
 refine ⟨_,rfl, ?_⟩
 have HR := Aside0.mk hR
 have HBO := Aside0.mk hb
 have HB11 := Aside0.mk (bel_trans HB9.out hb)
 have HX11 := Aside0.mk (blk_below HX9.out hb)
 unfold NdC
 rw [List.length_replicate]
 clear hR hb
 refine hK.out _ _ ⟨((blk_cell (HG.out.below HB11.out).box 1).trans rfl),((blk_cell HX11.out 0).trans rfl),((blk_cell HX11.out 1).trans rfl),((blk_cell HX11.out 2).trans rfl)⟩ (fun hHeld => ?_)
 clear hK K
 refine norm_ (a' := ?_) ?_ ?_
 rotate_left
 ·show Act.put _ (some 23) _ = _
  simp only [Act.put,sT_,sZ_,sS_,i64_w,i32_w]
  rfl
 refine one_ (i := 12) (N := some 24) (mB_ 17 8191) rfl rfl (one_of HT_.out (by kernel_rfl)) (by decide) (fun K hK => ?_)
 refine value_ (w1 := ?_) (v := ?_) (by rfl) rfl ?_ ?_
 rotate_left 2
 ·go_simp
  constructor
  ·rfl
  ·rfl
 have HBA := Aside0.mk (below_alloc (Below.refl _ _) (.cells #[.int .u32 id,.slice B1 vec.length d1,.slice B2 tags.length d2,.int .u64 v,.int .u64 0,.slice (some ⟨r,0,none⟩) (L + 1) cp] 37) : Below w11.heap.size w11 (w11.alloc (.cells #[.int .u32 id,.slice B1 vec.length d1,.slice B2 tags.length d2,.int .u64 v,.int .u64 0,.slice (some ⟨r,0,none⟩) (L + 1) cp] 37)))
 have HP := Aside0.mk (heap_alloc_new w11 (.cells #[.int .u32 id,.slice B1 vec.length d1,.slice B2 tags.length d2,.int .u64 v,.int .u64 0,.slice (some ⟨r,0,none⟩) (L + 1) cp] 37))
 obtain ⟨W,hW⟩ : ∃ z,w11.alloc (.cells #[.int .u32 id,.slice B1 vec.length d1,.slice B2 tags.length d2,.int .u64 v,.int .u64 0,.slice (some ⟨r,0,none⟩) (L + 1) cp] 37) = z := ⟨_,rfl⟩
 rw [hW] at HBA HP ⊢
 clear hW
 have HBW := Aside0.mk (bel_trans HB11.out HBA.out)
 have HXW := Aside0.mk (blk_below HX11.out HBA.out)
 have HGW := Aside0.mk ((HG.out.below HBW.out).wide HG.out.at0.size HF.out φ2 (fun _ => s.l.length))
 refine hK.out _ _ ⟨((blk_cell (HG.out.below HBW.out).box 1).trans rfl),((blk_cell HXW.out 0).trans rfl),((blk_cell HXW.out 1).trans rfl),((blk_cell HXW.out 2).trans rfl)⟩ (fun hHeld => ?_)
 clear hK K
 refine norm_ (a' := ?_) ?_ ?_
 rotate_left
 ·show Act.put _ (some 24) _ = _
  simp only [Act.put,sT_,sZ_,sS_,i64_w,i32_w]
  rfl
 refine one_ (i := 13) (N := some 25) (mB_ 17 16383) rfl rfl (one_of HT_.out (by kernel_rfl)) (by decide) (fun K hK => ?_)
 refine step_N rfl (.tmp 16) (.tmp 24) rfl s.l rfl HGW.out.rowN ⟨id,vec,tags,v,0,List.replicate (L + 1) []⟩ B1 d1 B2 d2 r cp w11.heap.size ?_ ?_ (HR.out.among HBA.out ?_ ?_) (by have := HL.out;omega) ?_ ?_
 ·rfl
 ·have h := HP.out
  unfold NdC
  rw [List.length_replicate]
  exact h
 ·exact HB9.out.size
 ·exact Nat.le_trans HG.out.at0.size HB9.out.size
 ·exact HGW.out.at0.size
 intro v1 w13 hrow hO hat
 have HG13 := Aside0.mk ((hO.block g (blk_lt HGW.out.box) (fun e => by obtain ⟨c,hc⟩ := HGW.out.rowB e;exact absurd (blk_type hc HGW.out.box) (by decide))).trans HGW.out.box)
 have HX13 := Aside0.mk ((hO.block w.heap.size (blk_lt HXW.out) (fun e => by have := HF.out _ (HG.out.vF _ e);omega)).trans HXW.out)
 have HFIN := Aside0.mk (added_all HG.out HBW.out HGW.out hO hrow hat)
 obtain ⟨ao1,cap1,rfl⟩ := hrow.slice
 obtain ⟨N1,hN1⟩ : ∃ z,(s.l ++ [(⟨id,vec,tags,v,0,List.replicate (L + 1) []⟩ : Nd)]).length = z := ⟨_,rfl⟩
 rw [hN1] at HFIN ⊢
 have HN1 := Aside0.mk hN1
 clear hN1
 clear hrow hO hat
 refine hK.out _ _ ⟨((blk_cell HG13.out 1).trans rfl),((blk_cell HX13.out 0).trans rfl),((blk_cell HX13.out 1).trans rfl),((blk_cell HX13.out 2).trans rfl)⟩ (fun hHeld => ?_)
 clear hK K
 refine norm_ (a' := ?_) ?_ ?_
 rotate_left
 ·show Act.put _ (some 25) _ = _
  simp only [Act.put,sT_,sZ_,sS_,i64_w,i32_w]
  rfl
 iterate 2 (refine pn_ 16383 [(14,26,32767),(15,27,65535)] (v := ?_) (a' := ?_) rfl rfl rfl HT_.out (by kernel_rfl) (Or.inl ⟨by rfl, ?_⟩) ?_ ?_;rotate_left;(· intro w';go_simp;with_reducible rfl);rotate_left;(· simp only [Act.put,sT_,sZ_,sS_,i64_w,i32_w];rfl))
 refine last_ (i := 16) (N := none) (mB_ 17 131071) rfl rfl (one_of HT_.out (by kernel_rfl)) (by decide) (fun K hK => ?_)
 have y13 := (blk_cell HG13.out 1).trans rfl
 have fz := blk_frozen HG13.out 1
 refine skip_ (w1 := ?_) (by rfl) rfl ?_ ?_
 rotate_left
 ·go_simp
  rfl
 clear y13 fz
 refine hK.out _ _ ?_
 clear hK K
 refine done_ (done_of HT_.out (by kernel_rfl)) ?_
 clear hHeld
 have HADD := Aside0.mk (show s.add id vec tags lv v = ⟨s.m,s.l ++ [⟨id,vec,tags,v,0,List.replicate (L + 1) []⟩]⟩ by unfold Gr.add;rw [HLV.out.2.1])
 generalize (⟨id,vec,tags,v,0,List.replicate (L + 1) []⟩ : Nd) = nd at HFIN HADD HN1 ⊢
 generalize w13.setCell ⟨g,1,none⟩ (.slice ao1 N1 cap1) = w14 at HFIN ⊢
 obtain ⟨ao,cap,hb, -, -⟩ := HFIN.out.1.reads
 dsimp only at hb
 rw [HN1.out] at hb
 have hN1 : s.l.length + 1 = N1 := by rw [← HN1.out,List.length_append,List.length_singleton]
 have y14 := (blk_cell hb 1).trans rfl
 have HW1 := Aside0.mk (show wrap64 ((N1 : Int) - 1) = (s.l.length : Int) by have := HL.out;unfold wrap64;omega)
 clear hb hN1
 go_wp2
 go_ret
 rw [HW1.out,HADD.out]
 exact ⟨rfl,HFIN.out⟩
end
end Go.Proofs.Ytofmlajanopniaa.Li
namespace Go.Proofs.Ytofmlajanopniaa.Li
open Go.RowKit Go.Maps Go.Proofs.YtofmlajanopniaaW.PrintWords Go.Proofs.YtofmlajanopniaaW.PrintLast Go.Proofs.YtofmlajanopniaaW.PrintMore Go.Proofs.Ytofmlajanopniaa.Tk
/-! ### Maps -/
theorem keyI64 : Keyed Try.prog 3 := int_keyed Try.underlying3
def Says (d : Int → DataW Unit) (D : DataW Unit) (f : Int → Option Int) : Prop := Maps.IsMap D ∧ ∀ id,(∀ c,f id = some c → Maps.has D (.int .i64 id) = true ∧ ∀ z,D.atKey (.int .i64 id) z = d c) ∧ (f id = none → Maps.has D (.int .i64 id) = false)
def dBool (c : Int) : DataW Unit := .lit (.bool (decide (c ≠ 0)))
theorem Says.nil (d : Int → DataW Unit) : Says d (.map []) (fun _ => none) := ⟨Maps.isMap_empty,fun id => ⟨fun c h => by simp at h,fun _ => rfl⟩⟩
theorem Says.put {d : Int → DataW Unit} {D : DataW Unit} {f : Int → Option Int} (h : Says d D f) {id : Int} (hid : (Lit.int .i64 id).wf = true) (c : Int) : Says d (D.put (.int .i64 id) (d c)) (fun z => if z = id then some c else f z) := by
 have hk := keyI64.key (keyOf_int_mk Try.underlying3 hid)
 refine ⟨h.1.put _ _,fun z => ?_⟩
 by_cases e : z = id
 ·subst e
  show (∀ c_1 : Int,(if z = z then some c else f z) = some c_1 → _) ∧ ((if z = z then some c else f z) = none → _)
  rw [if_pos rfl]
  exact ⟨fun c' hc' => ⟨Maps.has_put_same h.1 hk _,fun y => by injection hc' with hc';subst hc';exact Maps.atKey_put_same h.1 hk _ _⟩,fun hn => by simp at hn⟩
 ·show (∀ c_1 : Int,(if z = id then some c else f z) = some c_1 → _) ∧ ((if z = id then some c else f z) = none → _)
  rw [if_neg e]
  have hne : (Lit.int .i64 z) ≠ .int .i64 id := fun e2 => e (by injection e2)
  rw [Maps.has_put_other hne]
  exact ⟨fun c' hc' => ⟨((h.2 z).1 c' hc').1,fun y => by rw [Maps.atKey_put_other hne];exact ((h.2 z).1 c' hc').2 y⟩,(h.2 z).2⟩
def MapB (w : World) (b n : Nat) (f : Int → Option Int) : Prop := ∃ D,w.ownsMap Try.prog 3 (plainElem Try.prog 4) b n D ∧ Says dBool D f
theorem MapB.new (w : World) : MapB (w.alloc (.map #[] 0)) w.heap.size 0 (fun _ => none) := ⟨_,World.ownsMap_made _ _ _ _,Says.nil _⟩
def NoCells (w : World) (k : Nat) : Prop := ∀ c t,w.heap[k]? ≠ some (.cells c t (0,0))
theorem MapB.only {w w1 : World} {b n : Nat} {f : Int → Option Int} (h : MapB w b n f) {S : Nat → Prop} (hO : Only S w w1) (hn : ¬ S b) : MapB w1 b n f := by
 obtain ⟨D,h1,h2⟩ := h
 have hlt := h1.lt
 obtain ⟨es,clock,hb,F,hs,hD⟩ := h1
 exact ⟨D,⟨es,clock,(hO.block b hlt hn).trans hb,F,hs,hD⟩,h2⟩
theorem MapB.lt {w : World} {b n : Nat} {f : Int → Option Int} (h : MapB w b n f) : b < w.heap.size := by obtain ⟨D,h1,_⟩ := h;exact h1.lt
theorem MapB.nocells {w : World} {b n : Nat} {f : Int → Option Int} (h : MapB w b n f) : NoCells w b := by
 obtain ⟨D,⟨es,clock,hb,_⟩,_⟩ := h
 intro c t e
 rw [hb] at e
 cases e
theorem MapB.mono {w : World} {b n n' : Nat} {f : Int → Option Int} (h : MapB w b n f) (hn : n ≤ n') : MapB w b n' f := by obtain ⟨D,h1,h2⟩ := h;exact ⟨D,h1.mono hn,h2⟩
section
variable {w : World} {ops : Array Oper} {rest : List Oper} {o : Oper} {a : Act} {Q : Exit → Act → World → Prop}
theorem put_B (hg : o.guard = none) (m x v : Operand) (hop : o.op = Op.mapUpdate 93 m x v) (b n : Nat) (f : Int → Option Int) (hm : a.eval m = .map (some b)) (h : MapB w b n f) (hn : n < 1000000) (id : Int) (hx : a.eval x = .int .i64 id) (hv : a.eval v = .bool true)
  (hid : (Lit.int .i64 id).wf = true)
  (hK : ∀ w',MapB w' b (n + 1) (fun z => if z = id then some 1 else f z) → Only (fun k => k = b) w w' → wpList Try.prog ops Q rest (a.put o.dst undef) w') : wpList Try.prog ops Q (o :: rest) a w := by
 obtain ⟨D,h1,h2⟩ := h
 refine wpList_mapUpdate_own w hg m x v 93 hop 3 4 keyI64 Try.underlying93 _ b n D hm h1 (by unfold maxLen;omega) _ _ (.int .i64 id) hx hv (keyOf_int_mk Try.underlying3 hid) (dBool 1) [] (plainElem_bool Try.underlying4 true) ?_
 intro w1 h3 h4
 exact hK w1 ⟨_,h3,h2.put hid 1⟩ (Only.of_grown h4 (fun k hk => by cases hk;rfl))
end
theorem zeroBool (w : World) : (zeroValue 4).run Try.prog w = .ok (.bool false) w := by kernel_rfl
set_option maxRecDepth 100000 in
theorem MapB.look {w : World} {b n : Nat} {f : Int → Option Int} (h : MapB w b n f) {id : Int} (hid : (Lit.int .i64 id).wf = true) : ∃ x,(Instr.lookup 93 (.map (some b)) (.int .i64 id) false).run Try.prog w = .ok (.bool x) w ∧ (f id = none → x = false) ∧ (f id = some 1 → x = true) := by
 obtain ⟨D,h1,h2⟩ := h
 obtain ⟨v,ps,hrun,hv⟩ := h1.lookup keyI64 Try.underlying93 (zeroBool w) (plainElem_bool Try.underlying4 false) (keyOf_int_mk Try.underlying3 hid)
 obtain ⟨x,rfl,hx⟩ : ∃ x,v = .bool x ∧ D.atKey (.int .i64 id) (.lit (.bool false)) = .lit (.bool x) := by
  unfold plainElem at hv
  rw [Try.underlying4] at hv
  cases v <;> simp at hv
  exact ⟨_,rfl,hv.1.symm⟩
 refine ⟨x,hrun,fun e => ?_,fun e => ?_⟩
 ·rw [atKey_of_not_has ((h2.2 id).2 e)] at hx
  injection hx with hx
  injection hx with hx
  exact hx.symm
 ·rw [((h2.2 id).1 1 e).2] at hx
  injection hx with hx
  injection hx with hx
  exact hx.symm
def MapS (w : World) (b n : Nat) (M : List Int) : Prop := MapB w b n (fun z => if M.contains z = true then some 1 else none)
theorem MapS.new (w : World) : MapS (w.alloc (.map #[] 0)) w.heap.size 0 [] := by
 have h := MapB.new w
 unfold MapS
 simpa using h
theorem MapS.only {w w1 : World} {b n : Nat} {M : List Int} (h : MapS w b n M) {S : Nat → Prop} (hO : Only S w w1) (hn : ¬ S b) : MapS w1 b n M := MapB.only h hO hn
theorem MapS.lt {w : World} {b n : Nat} {M : List Int} (h : MapS w b n M) : b < w.heap.size := MapB.lt h
theorem MapS.below {w w1 : World} {b n : Nat} {M : List Int} (h : MapS w b n M) (hb : Below w.heap.size w w1) : MapS w1 b n M := MapB.only h (S := fun _ => False) (Only.of_below hb) (fun h => h)
theorem MapS.nocells {w : World} {b n : Nat} {M : List Int} (h : MapS w b n M) : NoCells w b := MapB.nocells h
theorem MapS.look {w : World} {b n : Nat} {M : List Int} (h : MapS w b n M) {id : Int} (hid : (Lit.int .i64 id).wf = true) : (Instr.lookup 93 (.map (some b)) (.int .i64 id) false).run Try.prog w = .ok (.bool (M.contains id)) w := by
 obtain ⟨x,h1,h2,h3⟩ := MapB.look h hid
 rw [h1]
 cases hc : M.contains id with
 | true => rw [h3 (by rw [hc];simp)]
 | false => rw [h2 (by rw [hc];simp)]
theorem set_put (M : List Int) (id : Int) : (fun z => if z = id then some (1 : Int) else if M.contains z = true then some 1 else none) = fun z => if (M ++ [id]).contains z = true then some 1 else none := by
 funext z
 by_cases e : z = id
 ·subst e;simp
 ·by_cases h : M.contains z = true
  ·rw [if_neg e,if_pos h,if_pos]
   rw [List.contains_iff_mem] at h ⊢
   exact List.mem_append_left _ h
  ·rw [if_neg e,if_neg h,if_neg]
   rw [List.contains_iff_mem] at h ⊢
   intro hm
   rcases List.mem_append.1 hm with hm | hm
   ·exact h hm
   ·exact e (List.mem_singleton.1 hm)
section
variable {w : World} {ops : Array Oper} {rest : List Oper} {o : Oper} {a : Act} {Q : Exit → Act → World → Prop}
theorem put_S (hg : o.guard = none) (m x v : Operand) (hop : o.op = Op.mapUpdate 93 m x v) (b n : Nat) (M : List Int) (hm : a.eval m = .map (some b)) (h : MapS w b n M) (hn : n < 1000000) (id : Int) (hx : a.eval x = .int .i64 id) (hv : a.eval v = .bool true)
  (hid : (Lit.int .i64 id).wf = true)
  (hK : ∀ w',MapS w' b (n + 1) (M ++ [id]) → Only (fun k => k = b) w w' → wpList Try.prog ops Q rest (a.put o.dst undef) w') : wpList Try.prog ops Q (o :: rest) a w :=
 put_B hg m x v hop b n _ hm h hn id hx hv hid (fun w' h1 h2 => hK w' (by rw [set_put] at h1;exact h1) h2)
end
end Go.Proofs.Ytofmlajanopniaa.Li
namespace Go.Proofs.Ytofmlajanopniaa.Li
open Go.RowKit Go.Proofs.YtofmlajanopniaaW.PrintWords Go.Proofs.Ytofmlajanopniaa.Q Go.Proofs.Ytofmlajanopniaa.Tk
structure Full (s : Gr) (q : List Int) (k : Wk) : Prop where
 nd : k.met.Nodup
 there : ∀ i ∈ k.met,s.there i 0 = true
 best : k.best = sortH (k.met.map (s.hit q))
 waits : ∀ h ∈ k.waits, ∃ i ∈ k.met,s.hit q i = h
def Closed (s : Gr) (q : List Int) (k : Wk) (i : Int) : Prop := s.hit q i ∈ k.waits ∨ ∀ j,(j = i - 1 ∨ j = i + 1) → s.there j 0 = true → j ∈ k.met
theorem sub_len : ∀ {l l' : List Int},l.Nodup → (∀ x ∈ l,x ∈ l') → l.length ≤ l'.length
 | [],l',_,_ => Nat.zero_le _
 | a :: l,l',hn,hs => by
  obtain ⟨h1,h2⟩ := List.nodup_cons.1 hn
  have ha := hs a List.mem_cons_self
  have := sub_len (l := l) (l' := l'.erase a) h2 (fun x hx => (List.mem_erase_of_ne (fun e => h1 (by subst e;exact hx))).2 (hs x (List.mem_cons_of_mem _ hx)))
  rw [List.length_erase_of_mem ha] at this
  have hp := List.length_pos_of_mem ha
  rw [List.length_cons]
  omega
theorem sub_all {l l' : List Int} (hn : l.Nodup) (hs : ∀ x ∈ l,x ∈ l') (hl : l'.length ≤ l.length) (x : Int) (hx : x ∈ l') : x ∈ l := by
 by_cases h : x ∈ l
 ·exact h
 ·have h2 : (x :: l).Nodup := List.nodup_cons.2 ⟨h,hn⟩
  have := sub_len h2 (fun y hy => by
   rcases List.mem_cons.1 hy with rfl | hy
   ·exact hx
   ·exact hs y hy)
  rw [List.length_cons] at this
  omega
theorem met_le {s : Gr} (hg : Good s) {D : List Int} (hn : D.Nodup) (ht : ∀ i ∈ D,s.there i 0 = true) : D.length ≤ s.l.length ∧ (D.length = s.l.length → ∀ j,s.there j 0 = true → j ∈ D) := by
 have hsub : ∀ i ∈ D,i ∈ (List.range s.l.length).map (fun k : Nat => (k : Int)) := fun i hi => by
  obtain ⟨h1,h2,_⟩ := there_range (ht i hi)
  exact List.mem_map.2 ⟨i.toNat,List.mem_range.2 (by omega),by omega⟩
 have hnd : ((List.range s.l.length).map (fun k : Nat => (k : Int))).Nodup := by
  rw [List.Nodup,List.pairwise_map]
  exact (List.nodup_range (n := s.l.length)).imp (fun {a b} hab e => hab (by omega))
 have hle := sub_len hn hsub
 rw [List.length_map,List.length_range] at hle
 refine ⟨hle,fun he j hj => ?_⟩
 obtain ⟨h1,h2,_⟩ := there_range hj
 exact sub_all hn hsub (by rw [List.length_map,List.length_range,he];exact Nat.le_refl _) j (List.mem_map.2 ⟨j.toNat,List.mem_range.2 (by omega),by omega⟩)
theorem intoL_mem {l : List H} {h x : H} : x ∈ intoL l h ↔ x = h ∨ x ∈ l := by rw [(intoL_perm l h).mem_iff,List.mem_cons]
theorem Full.meet {s : Gr} {q : List Int} {k : Wk} {W : Nat} (hg : Good s) (hW : s.l.length ≤ W) (h : Full s q k) {i : Int} (hi : s.there i 0 = true) (hn : i ∉ k.met) :
  Full s q ⟨k.met ++ [i],intoL k.waits (s.hit q i),putK W k.best (s.hit q i)⟩ ∧ k.best.length < W := by
 have hnd : (k.met ++ [i]).Nodup := by
  rw [List.nodup_append]
  refine ⟨h.nd,by simp,fun a ha b hb e => ?_⟩
  rw [List.mem_singleton] at hb
  subst hb;subst e
  exact hn ha
 have hth : ∀ j ∈ k.met ++ [i],s.there j 0 = true := fun j hj => by
  rcases List.mem_append.1 hj with hj | hj
  ·exact h.there j hj
  ·rw [List.mem_singleton] at hj;subst hj;exact hi
 have hlen := (met_le hg hnd hth).1
 rw [List.length_append,List.length_singleton] at hlen
 have hbl : k.best.length = k.met.length := by rw [h.best,sortH_len,List.length_map]
 refine ⟨⟨hnd,hth, ?_,fun x hx => ?_⟩,by omega⟩
 ·unfold putK
  rw [List.take_of_length_le (by rw [intoL_len];omega),h.best,into_sort,List.map_append]
  rfl
 ·rcases intoL_mem.1 hx with rfl | hx
  ·exact ⟨i,by simp,rfl⟩
  ·obtain ⟨j,h1,h2⟩ := h.waits x hx
   exact ⟨j,List.mem_append_left _ h1,h2⟩
structure Grown (s : Gr) (q : List Int) (k k' : Wk) : Prop where
 full : Full s q k'
 met : ∀ i ∈ k.met,i ∈ k'.met
 waits : ∀ h ∈ k.waits,h ∈ k'.waits
 new : ∀ i ∈ k'.met,i ∈ k.met ∨ s.hit q i ∈ k'.waits
 gauge : gaugeW s k' = gaugeW s k
theorem Grown.refl {s : Gr} {q : List Int} {k : Wk} (h : Full s q k) : Grown s q k k := ⟨h,fun _ h => h,fun _ h => h,fun _ h => .inl h,rfl⟩
theorem Grown.trans {s : Gr} {q : List Int} {a b c : Wk} (h1 : Grown s q a b) (h2 : Grown s q b c) : Grown s q a c :=
 ⟨h2.full,fun i hi => h2.met i (h1.met i hi),fun x hx => h2.waits x (h1.waits x hx),fun i hi => by
  rcases h2.new i hi with h3 | h3
  ·rcases h1.new i h3 with h4 | h4
   ·exact .inl h4
   ·exact .inr (h2.waits _ h4)
  ·exact .inr h3,h2.gauge.trans h1.gauge⟩
theorem grown_step {s : Gr} {q : List Int} {k : Wk} {W : Nat} (hg : Good s) (hW : s.l.length ≤ W) (h : Full s q k) (i : Int) : Grown s q k (stepN s q 0 W k i) ∧ (s.there i 0 = true → i ∈ (stepN s q 0 W k i).met) := by
 unfold stepN
 by_cases hc : (k.met.contains i || !s.there i 0) = true
 ·rw [if_pos hc]
  refine ⟨Grown.refl h,fun ht => ?_⟩
  rw [ht] at hc
  simpa using hc
 ·rw [if_neg hc]
  simp only [Bool.or_eq_true,Bool.not_eq_true',not_or,Bool.not_eq_false] at hc
  have hn : i ∉ k.met := by simpa using hc.1
  obtain ⟨hf,hl⟩ := h.meet hg hW hc.2 hn
  have hgd : goodH W k.best (s.hit q i) = true := by unfold goodH;rw [decide_eq_false (by omega)];rfl
  rw [if_pos hgd]
  refine ⟨⟨hf,fun j hj => List.mem_append_left _ hj,fun x hx => intoL_mem.2 (.inr hx),fun j hj => ?_, ?_⟩,fun _ => by simp⟩
  ·rcases List.mem_append.1 hj with hj | hj
   ·exact .inl hj
   ·rw [List.mem_singleton] at hj;subst hj;exact .inr (intoL_mem.2 (.inl rfl))
  ·unfold gaugeW
   rw [intoL_len,List.length_append,List.length_singleton]
   omega
theorem grown_fold {s : Gr} {q : List Int} {W : Nat} (hg : Good s) (hW : s.l.length ≤ W) : ∀ (N : List Int) (k : Wk),Full s q k → Grown s q k (N.foldl (stepN s q 0 W) k) ∧ ∀ i ∈ N,s.there i 0 = true → i ∈ (N.foldl (stepN s q 0 W) k).met
 | [],k,h => ⟨Grown.refl h,fun i hi => by simp at hi⟩
 | a :: N,k,h => by
  rw [List.foldl_cons]
  obtain ⟨g1,m1⟩ := grown_step hg hW h a
  obtain ⟨g2,m2⟩ := grown_fold hg hW N _ g1.full
  refine ⟨g1.trans g2,fun i hi ht => ?_⟩
  rcases List.mem_cons.1 hi with rfl | hi
  ·exact g2.met _ (m1 ht)
  ·exact m2 i hi ht
def allHits (s : Gr) (q : List Int) : List H := sortH (((List.range s.l.length).map (fun k : Nat => (k : Int))).map (s.hit q))
theorem full_all {s : Gr} {q : List Int} {k : Wk} (hg : Good s) (h : Full s q k) (ha : ∀ j,s.there j 0 = true → j ∈ k.met) : k.best = allHits s q := by
 rw [h.best]
 unfold allHits
 refine sortH_congr (List.Perm.map _ ((List.perm_ext_iff_of_nodup h.nd ?_).2 (fun j => ?_)))
 ·rw [List.Nodup,List.pairwise_map]
  exact (List.nodup_range (n := s.l.length)).imp (fun {a b} hab e => hab (by omega))
 ·rw [List.mem_map]
  constructor
  ·intro hj
   obtain ⟨h1,h2,_⟩ := there_range (h.there j hj)
   exact ⟨j.toNat,List.mem_range.2 (by omega),by omega⟩
  ·rintro ⟨i,hi,rfl⟩
   exact ha _ (there_zero hg (List.mem_range.1 hi))
theorem walk_all {s : Gr} {q : List Int} {W : Nat} (hg : Good s) (hW : s.l.length ≤ W) : ∀ (f : Nat) (k : Wk),Full s q k → k.met ≠ [] → (∀ i ∈ k.met,Closed s q k i) → gaugeW s k ≤ (f : Int) → walkL s q 0 W f k = allHits s q := by
 intro f
 induction f with
 | zero =>
  intro k h hne hc hgk
  have hl := met_le hg h.nd h.there
  unfold gaugeW at hgk
  have e : k.met.length = s.l.length := by have := hl.1;omega
  exact full_all hg h (hl.2 e)
 | succ f ih =>
  intro k h hne hc hgk
  show (match k.waits with | [] => _ | c :: rest => _) = _
  cases hw : k.waits with
  | nil =>
   refine full_all hg h ?_
   have hstep : ∀ i j,i ∈ k.met → (j = i - 1 ∨ j = i + 1) → s.there j 0 = true → j ∈ k.met := fun i j hi hij hj => by
    rcases hc i hi with h1 | h1
    ·rw [hw] at h1;simp at h1
    ·exact h1 j hij hj
   obtain ⟨i0,hi0⟩ := List.exists_mem_of_ne_nil _ hne
   have h0 := there_range (h.there i0 hi0)
   have up : ∀ d : Nat,i0 + (d : Int) < (s.l.length : Int) → i0 + (d : Int) ∈ k.met := by
    intro d
    induction d with
    | zero => intro _;simpa using hi0
    | succ d ihd =>
     intro hlt
     exact hstep (i0 + (d : Int)) _ (ihd (by omega)) (.inr (by omega)) ((there_zero_iff hg).2 ⟨by omega,by omega⟩)
   have down : ∀ d : Nat,0 ≤ i0 - (d : Int) → i0 - (d : Int) ∈ k.met := by
    intro d
    induction d with
    | zero => intro _;simpa using hi0
    | succ d ihd =>
     intro hge
     exact hstep (i0 - (d : Int)) _ (ihd (by omega)) (.inl (by omega)) ((there_zero_iff hg).2 ⟨by omega,by omega⟩)
   intro j hj
   have hjr := there_range hj
   by_cases hcmp : i0 ≤ j
   ·have := up (j - i0).toNat (by omega)
    rwa [show i0 + (((j - i0).toNat : Nat) : Int) = j by omega] at this
   ·have := down (i0 - j).toNat (by omega)
    rwa [show i0 - (((i0 - j).toNat : Nat) : Int) = j by omega] at this
  | cons c rest =>
   dsimp only
   by_cases hl : lateH W k.best c = true
   ·rw [if_pos hl]
    unfold lateH at hl
    rw [Bool.and_eq_true,decide_eq_true_eq] at hl
    have hbl : k.best.length = k.met.length := by rw [h.best,sortH_len,List.length_map]
    have hml := met_le hg h.nd h.there
    exact full_all hg h (hml.2 (by omega))
   ·rw [if_neg hl]
    obtain ⟨ic,hic,rfl⟩ := h.waits c (by rw [hw];exact List.mem_cons_self)
    have hf0 : Full s q ⟨k.met,rest,k.best⟩ := ⟨h.nd,h.there,h.best,fun x hx => h.waits x (by rw [hw];exact List.mem_cons_of_mem _ hx)⟩
    obtain ⟨g,m⟩ := grown_fold hg hW (nextG s (s.hit q ic).f1 0) _ hf0
    refine ih _ g.full (fun e => ?_) (fun i hi => ?_) ?_
    ·have := g.met ic hic
     rw [e] at this
     simp at this
    ·rcases g.new i hi with h1 | h1
     ·by_cases e : i = ic
      ·subst e
       refine .inr (fun j hj ht => m j ?_ ht)
       unfold nextG
       rw [if_pos rfl]
       refine List.mem_append_right _ ?_
       rcases hj with rfl | rfl
       ·exact List.mem_cons_self
       ·simp [Gr.hit]
      ·rcases hc i h1 with h2 | h2
       ·rw [hw] at h2
        rcases List.mem_cons.1 h2 with h2 | h2
        ·exact absurd (congrArg S58.f1 h2) e
        ·exact .inl (g.waits _ h2)
       ·exact .inr (fun j hj ht => g.met j (h2 j hj ht))
     ·exact .inl h1
    ·rw [g.gauge]
     unfold gaugeW at hgk ⊢
     rw [hw,List.length_cons] at hgk
     show (rest.length : Int) + (s.l.length : Int) - (k.met.length : Int) ≤ (f : Int)
     have e2 : ((rest.length + 1 : Nat) : Int) = (rest.length : Int) + 1 := by omega
     omega
theorem walk_finds {s : Gr} (hg : Good s) {q : List Int} {width start : Int} (hs : s.there start 0 = true) (hW : (s.l.length : Int) ≤ width) (hn : s.l.length ≤ 256) : walkG s q [start] width 0 = allHits s q := by
 have hr := there_range hs
 have hWW : s.l.length ≤ widthW width := by unfold widthW;omega
 have hfn : Full s q ⟨[],[],[]⟩ := ⟨List.nodup_nil,fun i hi => by simp at hi,by rw [List.map_nil,sortH_nil],fun x hx => by simp at hx⟩
 obtain ⟨hf,_⟩ := hfn.meet hg hWW hs (by simp)
 have e : walk0 s q [start] 0 (widthW width) = ⟨[start],intoL [] (s.hit q start),putK (widthW width) [] (s.hit q start)⟩ := by
  unfold walk0 startN
  rw [List.foldl_cons,List.foldl_nil,hs]
  simp
 unfold walkG
 rw [e]
 refine walk_all hg hWW _ _ hf (by simp) (fun i hi => ?_) ?_
 ·have hi' : i ∈ [start] := hi
  rw [List.mem_singleton] at hi'
  subst hi'
  exact .inl (by simp [intoL])
 ·unfold gaugeW
  rw [intoL_len]
  show ((([] : List H).length + 1 : Nat) : Int) + _ - (([start].length : Nat) : Int) ≤ _
  simp
  omega
end Go.Proofs.Ytofmlajanopniaa.Li
namespace Go.Proofs.Ytofmlajanopniaa.Li
open Go.RowKit Go.Proofs.YtofmlajanopniaaW.PrintWords Go.Proofs.YtofmlajanopniaaW.PrintLast Go.Proofs.YtofmlajanopniaaW.PrintMore Go.Proofs.Ytofmlajanopniaa.Q Go.Proofs.Ytofmlajanopniaa.Tk
theorem app_Hat {ops : Array Oper} {rest : List Oper} {o : Oper} {a : Act} {w : World} {Q : Exit → Act → World → Prop} (hgd : o.guard = none) (s x : Operand)
  (ho : o.op = .call { callee := .builtin .append,args := #[s,x],argTypes := #[50,50] }) (base : Nat) (v : Value) (A B : List H) (ad : Addr) (n cap : Nat)
  (hs : a.eval s = v) (hx : a.eval x = .slice (some ad) n cap) (hn : n = B.length) (hv : OwnH w base v A) (hr : ReadsH w (some ad) cap B) (hl : A.length + B.length ≤ 1000000) (hb : base ≤ w.heap.size)
  (h : ∀ v' w',OwnH w' base v' (A ++ B) → Only (fun i => v.ownBlock = some i) w w' → (v'.ownBlock = v.ownBlock ∨ v'.ownBlock = some w.heap.size) → wpList Try.prog ops Q rest (a.put o.dst v') w') : wpList Try.prog ops Q (o :: rest) a w := by
 subst hn
 obtain ⟨i0,hi,hz,hsz,hby⟩ := info_hit2
 have hu2 := Try.underlying50
 rcases hr.2 with ⟨e,_⟩ | ⟨ad2,e,h2⟩
 ·cases e
 ·injection e with e
  subst e
  refine wpList_append_own_at _ hgd s x _ ho base _ i0 _ 2 16 hu2 hi hz hsz hby rfl (by omega) v A.length (cellsOf A) hs hv ad B.length cap (cellsOf B) hx (cellsOf_len B) h2 cells_one (by unfold maxLen;omega) (by omega) hb ?_
  intro v' w' hown hg hne hat
  exact h v' w' (by unfold OwnH;rw [cellsOf_append,List.length_append];exact hown) (Only.of_grown hg (fun k hk => hk)) hat
theorem less_bel (d1 i1 d2 i2 : Int) (b : Bool) (hb : ltH ⟨d1,i1⟩ ⟨d2,i2⟩ = b) (w : World) : Calls Try.prog 48 #[.agg #[.int .i64 d1,.int .u32 i1],.agg #[.int .i64 d2,.int .u32 i2]] w fun e w' => e = .returned (.bool b) ∧ Below w.heap.size w w' :=
 (less_calls d1 i1 d2 i2 w).mono fun e w' ⟨he,hw⟩ => ⟨by rw [he,hb],by rw [hw];exact below_alloc (below_alloc (Below.refl _ _) _) _⟩
theorem OwnH.rowAt {w : World} {b r cap : Nat} {A : List H} (h : OwnH w b (.slice (some ⟨r,0,none⟩) A.length cap) A) : b ≤ r ∧ cap ≤ maxLen ∧ Tk.RowAt w r cap A := by
 rcases OwnH.row h with ⟨e,_⟩ | ⟨r2,cap2,e,h1,h2,h3⟩
 ·cases e
 ·injection e with e1 _ e3
  injection e1 with e1
  injection e1 with e1
  subst e1;subst e3
  exact ⟨h1,h2,h3⟩
theorem cells_at {w : World} {b r cap : Nat} {A : List H} (h : OwnH w b (.slice (some ⟨r,0,none⟩) A.length cap) A) {i : Nat} (hi : i < A.length) : w.cell? ⟨r,i * 2,none⟩ = some (.int .i64 (rdH A i).f0) ∧ w.cell? ⟨r,i * 2 + 1,none⟩ = some (.int .u32 (rdH A i).f1) := by
 obtain ⟨ao,cp,e,hr⟩ := OwnH.R h
 injection e with e1 _ _
 subst e1
 obtain ⟨ad,x,e4,hx,c0,c1⟩ := hr.at hi
 injection e4 with e4
 subst e4
 rw [add_plain] at c0 c1
 rw [rdH_get hi,(List.getElem?_eq_some_iff.1 hx).2]
 exact ⟨c0,c1⟩
theorem OwnZ.cell {w : World} {b cap : Nat} {ao : Option Addr} {L : List Int} (h : OwnZ w b (.slice ao L.length cap) L) {i : Nat} (hi : i < L.length) : ∃ ad,ao = some ad ∧ w.cell? (ad.add i) = some (.int .i64 L[i]) := by
 obtain ⟨ao',cap',e,hl,hC⟩ := h.C
 injection e with e1 _ _
 subst e1
 exact int_at hC hi
theorem all2_i (i j : Nat) : all2 i j := trivial
structure WM (w wr : World) (gb b W : Nat) (S : Nat → Prop) (v : Value) (V : List H) (K : Wk) : Prop where
 best : Kept wr S gb W K.best
 low : ∀ k,S k → w.heap.size ≤ k
 met : MapS wr b K.met.length K.met
 bl : w.heap.size ≤ b
 bS : ¬ S b
 waits : OwnH wr w.heap.size v V
 vS : ∀ k,v.ownBlock = some k → ¬ S k
 srt : sortH V = K.waits
 at0 : Below w.heap.size w wr
section
variable {w wr wa w' : World} {gb b W : Nat} {S : Nat → Prop} {v v' : Value} {V V' : List H} {K : Wk} {i : Int} {h0 : H}
theorem WM.vb (h : WM w wr gb b W S v V K) : v.ownBlock ≠ some b := fun e => by
 obtain ⟨c,hc⟩ := own_typed h.waits b e
 exact h.met.nocells c _ hc
theorem WM.below (h : WM w wr gb b W S v V K) (hb : Below wr.heap.size wr w') : WM w w' gb b W S v V K :=
 ⟨h.best.below hb,h.low,h.met.below hb,h.bl,h.bS,h.waits.below hb,h.vS,h.srt,bel_trans h.at0 hb⟩
theorem WM.meet (h : WM w wr gb b W S v V K) (hO : Only (fun k => k = b) wr w') (hM : MapS w' b (K.met.length + 1) (K.met ++ [i])) : WM w w' gb b W S v V ⟨K.met ++ [i],K.waits,K.best⟩ :=
 ⟨h.best.keep hO (fun k hk e => by subst e;exact h.bS hk),h.low,by show MapS w' b (K.met ++ [i]).length (K.met ++ [i]);rw [List.length_append,List.length_singleton];exact hM,h.bl,h.bS,own_move h.waits (fun k hk => hO.block k (own_lt h.waits k hk) (fun e => h.vb (by rw [← e];exact hk))),h.vS,h.srt,hO.below_of h.at0 (fun k hk => by subst hk;exact h.bl)⟩
theorem WM.put (h : WM w wr gb b W S v V K) (hO : Only S wr w') (hK : Kept w' (ext S wr w') gb W (putK W K.best h0)) : WM w w' gb b W (ext S wr w') v V ⟨K.met,K.waits,putK W K.best h0⟩ :=
 ⟨hK,fun k hk => hk.elim (h.low k) (fun hk => Nat.le_trans h.at0.size hk.1),h.met.only hO h.bS,h.bl,fun hk => hk.elim h.bS (fun hk => by have := h.met.lt;omega),own_move h.waits (fun k hk => hO.block k (own_lt h.waits k hk) (h.vS k hk)),fun k hk hs => hs.elim (h.vS k hk) (fun hs => by have := own_lt h.waits k hk;omega),h.srt,hO.below_of h.at0 h.low⟩
theorem WM.app (h : WM w wr gb b W S v V K) (hb : Below wr.heap.size wr wa) (hv : OwnH w' w.heap.size v' (V ++ [h0])) (hO : Only (fun k => v.ownBlock = some k) wa w') (hat : v'.ownBlock = v.ownBlock ∨ v'.ownBlock = some wa.heap.size) : WM w w' gb b W S v' (V ++ [h0]) ⟨K.met,intoL K.waits h0,K.best⟩ := by
 have ha := h.below hb
 refine ⟨ha.best.keep hO (fun k hk e => h.vS k e hk),h.low,ha.met.only hO ha.vb,h.bl,h.bS,hv,fun k hk hs => ?_, ?_,hO.below_of ha.at0 (fun k hk => own_base h.waits k hk)⟩
 ·rcases hat with e | e
  ·exact h.vS k (e ▸ hk) hs
  ·rw [e] at hk
   injection hk with hk
   have := ha.best.lt k hs
   omega
 ·show sortH (V ++ [h0]) = intoL K.waits h0
  rw [← h.srt,into_sort]
theorem WM.vlen (h : WM w wr gb b W S v V K) : V.length = K.waits.length := by rw [← h.srt,sortH_len]
theorem WM.pop {r n cap k : Nat} {c : H} {rest : List H} (h : WM w wr gb b W S (.slice (some ⟨r,0,none⟩) V.length cap) V K) (hR : Tk.RowAt w' r cap (V.eraseIdx k)) (hO : Only (fun i => i = r) wr w') (hn : n = (V.eraseIdx k).length) (hc : cap ≤ maxLen) (hs : K.waits = c :: rest) (hk : sortH (V.eraseIdx k) = rest) : WM w w' gb b W S (.slice (some ⟨r,0,none⟩) n cap) (V.eraseIdx k) ⟨K.met,rest,K.best⟩ := by
 subst hn
 have hrb : w.heap.size ≤ r := own_base h.waits r rfl
 exact ⟨h.best.keep hO (fun i hi e => by subst e;exact h.vS i rfl hi),h.low,h.met.only hO (fun e => h.vb (by rw [e];rfl)),h.bl,h.bS,hR.own hc hrb,fun i hi => h.vS i hi,hk,hO.below_of h.at0 (fun i hi => by subst hi;exact hrb)⟩
end
structure NB (w wr : World) (S : Nat → Prop) (vn : Value) (N : List Int) : Prop where
 own : OwnZ wr w.heap.size vn N
 nS : ∀ k,vn.ownBlock = some k → ¬ S k
section
variable {w wr wa w' : World} {gb b W : Nat} {S : Nat → Prop} {v v' vn : Value} {V V' : List H} {K : Wk} {N : List Int}
theorem NB.below (h : NB w wr S vn N) (hb : Below wr.heap.size wr w') : NB w w' S vn N := ⟨h.own.below hb,h.nS⟩
theorem NB.meet (h : NB w wr S vn N) (hO : Only (fun k => k = b) wr w') {n : Nat} {M : List Int} (hM : MapS wr b n M) : NB w w' S vn N := ⟨h.own.only hO (fun k hk e => by subst e;obtain ⟨c,hc⟩ := own_typed h.own k hk;exact hM.nocells c _ hc),h.nS⟩
theorem NB.put (h : NB w wr S vn N) (hO : Only S wr w') : NB w w' (ext S wr w') vn N := ⟨h.own.only hO (fun k hk => h.nS k hk),fun k hk hs => hs.elim (h.nS k hk) (fun hs => by have := own_lt h.own k hk;omega)⟩
theorem NB.app (h : NB w wr S vn N) (hv : OwnH wr w.heap.size v V) (hO : Only (fun k => v.ownBlock = some k) wr w') : NB w w' S vn N := ⟨h.own.only hO (fun k hk e => by
 obtain ⟨c,hc⟩ := own_typed h.own k hk
 obtain ⟨c2,hc2⟩ := own_typed hv k e
 exact absurd (blk_type hc hc2) (by decide)),h.nS⟩
end
/-! ### Plain -/
structure WOk (s : Gr) (q : List Int) (lv : Int) (k : Wk) : Prop where
 nd : k.met.Nodup
 th : ∀ i ∈ k.met,s.there i lv = true
 wt : ∀ h ∈ k.waits, ∃ i,s.there i lv = true ∧ h = s.hit q i
section
variable {s : Gr} {q : List Int} {lv : Int} {W : Nat} {k : Wk} {i : Int}
theorem WOk.nil : WOk s q lv ⟨[],[],[]⟩ := ⟨List.nodup_nil,fun _ h => by simp at h,fun _ h => by simp at h⟩
theorem WOk.met_one (h : WOk s q lv k) (ht : s.there i lv = true) (hn : k.met.contains i = false) {b : List H} : WOk s q lv ⟨k.met ++ [i],k.waits,b⟩ := by
 have hn' : i ∉ k.met := by simpa using hn
 refine ⟨?_,fun j hj => ?_,h.wt⟩
 ·show (k.met ++ [i]).Nodup
  rw [List.nodup_append]
  refine ⟨h.nd,by simp,fun a ha b hb e => ?_⟩
  rw [List.mem_singleton] at hb
  subst hb;subst e
  exact hn' ha
 ·rcases List.mem_append.1 hj with hj | hj
  ·exact h.th j hj
  ·rw [List.mem_singleton.1 hj];exact ht
theorem WOk.wait (h : WOk s q lv k) (ht : s.there i lv = true) {b : List H} : WOk s q lv ⟨k.met,intoL k.waits (s.hit q i),b⟩ :=
 ⟨h.nd,h.th,fun x hx => by
  have hx : x ∈ intoL k.waits (s.hit q i) := hx
  rw [(intoL_perm k.waits (s.hit q i)).mem_iff,List.mem_cons] at hx
  rcases hx with rfl | hx
  ·exact ⟨i,ht,rfl⟩
  ·exact h.wt x hx⟩
theorem WOk.start (h : WOk s q lv k) : WOk s q lv (startN s q lv W k i) := by
 unfold startN
 split
 ·next hc =>
  rw [Bool.and_eq_true,Bool.not_eq_true'] at hc
  exact (h.met_one hc.1 hc.2 (b := k.best)).wait hc.1
 ·exact h
theorem WOk.step (h : WOk s q lv k) : WOk s q lv (stepN s q lv W k i) := by
 unfold stepN
 split
 ·exact h
 ·next hc =>
  rw [Bool.or_eq_true,not_or,Bool.not_eq_true,Bool.not_eq_true'] at hc
  have ht : s.there i lv = true := by simpa using hc.2
  split
  ·exact (h.met_one ht hc.1 (b := k.best)).wait ht
  ·exact h.met_one ht hc.1
theorem WOk.steps (h : WOk s q lv k) (L : List Int) : WOk s q lv (L.foldl (stepN s q lv W) k) := by
 induction L generalizing k with
 | nil => exact h
 | cons a L ih => exact ih h.step
theorem WOk.starts (h : WOk s q lv k) (L : List Int) : WOk s q lv (L.foldl (startN s q lv W) k) := by
 induction L generalizing k with
 | nil => exact h
 | cons a L ih => exact ih h.start
theorem WOk.met_len (h : WOk s q lv k) : k.met.length ≤ s.l.length := by
 have := sub_len (l' := (List.range s.l.length).map (fun k : Nat => (k : Int))) h.nd (fun x hx => by
  obtain ⟨h1,h2,_⟩ := there_range (h.th x hx)
  exact List.mem_map.2 ⟨x.toNat,List.mem_range.2 (by omega),by omega⟩)
 simpa using this
theorem intoL_len (l : List H) (h : H) : (intoL l h).length = l.length + 1 := by rw [(intoL_perm l h).length_eq,List.length_cons]
theorem gauge_start : gaugeW s (startN s q lv W k i) = gaugeW s k := by
 unfold startN
 split
 ·unfold gaugeW
  simp only [intoL_len,List.length_append,List.length_singleton]
  omega
 ·rfl
theorem gauge_step : gaugeW s (stepN s q lv W k i) ≤ gaugeW s k := by
 unfold stepN
 split
 ·omega
 ·split
  ·unfold gaugeW
   simp only [intoL_len,List.length_append,List.length_singleton]
   omega
  ·unfold gaugeW
   simp only [List.length_append,List.length_singleton]
   omega
theorem gauge_steps (L : List Int) : gaugeW s (L.foldl (stepN s q lv W) k) ≤ gaugeW s k := by
 induction L generalizing k with
 | nil => exact Int.le_refl _
 | cons a L ih => exact Int.le_trans ih gauge_step
theorem gauge_starts (L : List Int) : gaugeW s (L.foldl (startN s q lv W) k) = gaugeW s k := by
 induction L generalizing k with
 | nil => rfl
 | cons a L ih => exact ih.trans gauge_start
theorem gauge_walk0 (L : List Int) : gaugeW s (walk0 s q L lv W) = s.l.length := by
 unfold walk0
 rw [gauge_starts]
 simp [gaugeW]
theorem walkL_done (f : Nat) (h : k.waits = []) : walkL s q lv W f k = k.best := by
 cases f with
 | zero => rfl
 | succ f => unfold walkL;rw [h]
theorem walkL_late {f : Nat} {c : H} {rest : List H} (h : k.waits = c :: rest) (hl : lateH W k.best c = true) : walkL s q lv W (f + 1) k = k.best := by
 unfold walkL
 rw [h]
 dsimp only
 rw [if_pos hl]
theorem walkL_on {f : Nat} {c : H} {rest : List H} (h : k.waits = c :: rest) (hl : lateH W k.best c = false) : walkL s q lv W (f + 1) k = walkL s q lv W f ((nextG s c.f1 lv).foldl (stepN s q lv W) ⟨k.met,rest,k.best⟩) := by
 conv => lhs;unfold walkL
 rw [h]
 dsimp only
 rw [if_neg (by rw [hl];simp)]
theorem gauge_pop {c : H} {rest : List H} (h : k.waits = c :: rest) {b : List H} : gaugeW s ⟨k.met,rest,b⟩ = gaugeW s k - 1 := by
 unfold gaugeW
 rw [h,List.length_cons]
 dsimp only
 omega
theorem WOk.pop (h : WOk s q lv k) {c : H} {rest : List H} (hk : k.waits = c :: rest) : WOk s q lv ⟨k.met,rest,k.best⟩ ∧ ∃ i,s.there i lv = true ∧ c = s.hit q i :=
 ⟨⟨h.nd,h.th,fun x hx => h.wt x (by rw [hk];exact List.mem_cons_of_mem _ hx)⟩,h.wt c (by rw [hk];exact List.mem_cons_self)⟩
theorem step_met {x : Int} (h : k.met.contains x = true) : stepN s q lv W k x = k := by
 unfold stepN
 rw [h]
 rfl
theorem step_good {x : Int} (h : k.met.contains x = false) (ht : s.there x lv = true) (hg : goodH W k.best (s.hit q x) = true) : stepN s q lv W k x = ⟨k.met ++ [x],intoL k.waits (s.hit q x),putK W k.best (s.hit q x)⟩ := by
 unfold stepN
 rw [h,ht,hg]
 rfl
theorem step_bad {x : Int} (h : k.met.contains x = false) (ht : s.there x lv = true) (hg : goodH W k.best (s.hit q x) = false) : stepN s q lv W k x = ⟨k.met ++ [x],k.waits,k.best⟩ := by
 unfold stepN
 rw [h,ht,hg]
 rfl
theorem nb_there (hg : Good s) {a j : Nat} (ha : s.there (a : Int) j = true) : ∀ t ∈ nbL s a j,s.there t j = true := by
 intro t ht
 obtain ⟨a2,j2,n,e1,e2,hn,hj⟩ := there_iff.1 ha
 have e1 : a2 = a := by omega
 have e2 : j2 = j := by omega
 subst e1;subst e2
 have hal := (List.getElem?_eq_some_iff.1 hn).1
 unfold nbL at ht
 rcases List.mem_append.1 ht with ht | ht
 ·obtain ⟨ls,hls⟩ : ∃ ls,n.links[j2]? = some ls := ⟨_,List.getElem?_eq_getElem hj⟩
  rw [at_nat hn hls] at ht
  exact ((hg.to_ a2 n j2 ls hn hls).1 t ht).1
 ·by_cases e : j2 = 0
  ·subst e
   rw [if_pos rfl] at ht
   refine (there_zero_iff hg).2 ?_
   rcases List.mem_append.1 ht with ht | ht
   ·split at ht
    ·next h0 => rw [List.mem_singleton.1 ht];omega
    ·simp at ht
   ·split at ht
    ·next h0 => rw [List.mem_singleton.1 ht];omega
    ·simp at ht
  ·rw [if_neg e] at ht
   simp at ht
theorem good_len (hg : Good s) {a j : Nat} {n : Nd} {ls : List Int} (hn : s.l[a]? = some n) (hj : n.links[j]? = some ls) : ls.length ≤ s.l.length := by
 obtain ⟨h1,h2⟩ := hg.to_ a n j ls hn hj
 have := sub_len (l' := (List.range s.l.length).map (fun k : Nat => (k : Int))) h2 (fun x hx => by
  obtain ⟨h3,h4,_⟩ := there_range (h1 x hx).1
  exact List.mem_map.2 ⟨x.toNat,List.mem_range.2 (by omega),by omega⟩)
 simpa using this
theorem nb_len (hg : Good s) {a j : Nat} {n : Nd} {ls : List Int} (hn : s.l[a]? = some n) (hj : n.links[j]? = some ls) : (nbL s a j).length ≤ s.l.length + 2 := by
 have h := good_len hg hn hj
 unfold nbL
 rw [at_nat hn hj]
 split
 ·rw [List.length_append,List.length_append]
  split <;> split <;> simp <;> omega
 ·simp;omega
theorem fold_snoc {N : List Int} {i : Nat} (hi : i < N.length) : (N.take (i + 1)).foldl (stepN s q lv W) k = stepN s q lv W ((N.take i).foldl (stepN s q lv W) k) N[i] := by
 rw [List.take_succ_eq_append_getElem hi,List.foldl_append]
 rfl
end
end Go.Proofs.Ytofmlajanopniaa.Li
namespace Go.Proofs.Ytofmlajanopniaa.Li
open Go.RowKit Go.Proofs.YtofmlajanopniaaW.PrintWords Go.Proofs.YtofmlajanopniaaW.PrintLast Go.Proofs.YtofmlajanopniaaW.PrintMore Go.Proofs.Ytofmlajanopniaa.Q Go.Proofs.Ytofmlajanopniaa.Tk
def wlk.T17 : Bool × List (List Nat × List Nat) := (true,[([],[]),([],[]),([],[]),([1,2],[1,2]),([3],[3]),([0,4],[0,4])])
def wlk.B17 : List Nat := [0,0,0,6,14,31]
theorem wlk.tab17 : rtab .any (opsOf Try.f19 17) = wlk.T17 := by kernel_rfl
theorem wlk.bits17 : waitsOk wlk.T17.2 wlk.B17 = true := by kernel_rfl
theorem walk_width (width : Int) : clamp (max 1 width) = widthW width := by unfold clamp widthW;omega
section
variable {w0 w w' : World} {g : Nat} {F F' : Nat → Prop} {T : Nat → Nat → Prop} {s : Gr}
theorem walk0_snoc {q L : List Int} {lv : Int} {W i : Nat} (hi : i < L.length) : walk0 s q (L.take (i + 1)) lv W = startN s q lv W (walk0 s q (L.take i) lv W) L[i] := by
 unfold walk0
 rw [List.take_succ_eq_append_getElem hi,List.foldl_append]
 rfl
theorem start_no {q : List Int} {lv : Int} {W : Nat} {K : Wk} {x : Int} (h : (s.there x lv && !K.met.contains x) = false) : startN s q lv W K x = K := by
 unfold startN
 rw [h,if_neg (by simp)]
theorem start_yes {q : List Int} {lv : Int} {W : Nat} {K : Wk} {x : Int} (h1 : s.there x lv = true) (h2 : K.met.contains x = false) : startN s q lv W K x = ⟨K.met ++ [x],intoL K.waits (s.hit q x),putK W K.best (s.hit q x)⟩ := by
 unfold startN
 rw [h1,h2]
 rfl
theorem wf_at {k N : Nat} (h : k < N) (hN : N ≤ 100000) : (Lit.int .i64 (k : Int)).wf = true := by
 simp [Lit.wf,IntKind.min,IntKind.max,IntKind.bits,IntKind.signed]
 omega
set_option maxHeartbeats 64000000 in
set_option maxRecDepth 100000 in
theorem GT.walk_ (h : GX w0 w g F s) (hg : Good s) (hm : 0 ≤ s.m) (hl : s.l.length ≤ 90000) (A : Option Addr) (c : Nat) (q : List Int) (hq : Kd.C (Kd.int .i32) w A q.length q) (hqc : q.length ≤ c) (A2 : Option Addr) (c2 : Nat) (L : List Int) (hL : Kd.C (Kd.int .i64) w A2 L.length L) (hLl : L.length ≤ 100000) (width lv : Int) :
  Calls Try.prog 19 #[.pointer (some ⟨g,0,none⟩),.slice A q.length c,.slice A2 L.length c2,.int .i64 width,.int .i64 lv] w fun e w' => (∃ v,e = .returned v ∧ OwnH w' w.heap.size v (walkG s q L width lv)) ∧ Below w.heap.size w w' := by
 have hu := Try.underlying58
 have hmm := @run_makeMap Try.prog
 have HX := Aside0.mk h
 have HGOOD := Aside0.mk hg
 have HQ := Aside0.mk (And.intro hq hqc)
 have HL := Aside0.mk hL
 have HM := Aside0.mk (And.intro hm (And.intro hl hLl))
 have HWD := Aside0.mk (walk_width width)
 have HSEE := Aside0.mk (show walkG s q L width lv = walkL s q lv (widthW width) (s.l.length + 1) (walk0 s q L lv (widthW width)) from rfl)
 obtain ⟨ANS,hANS⟩ : ∃ z,walkG s q L width lv = z := ⟨_,rfl⟩
 rw [hANS] at HSEE ⊢
 obtain ⟨W,hW⟩ : ∃ z,widthW width = z := ⟨_,rfl⟩
 rw [hW] at HWD HSEE
 clear h hg hq hqc hL hm hl hLl hANS hW
 go_enter Try.func19,Try.ntmps19
 go_wp2_with (go_at_call 45;(with_reducible refine (knew_calls (max 1 width) _).mono ?_);rintro e w1 ⟨rfl,hb,hK⟩;rw [HWD.out] at hK;have HK1 := Aside0.mk hK;have HB1 := Aside0.mk hb;clear hK hb)
 obtain ⟨gb,hgb⟩ : ∃ z,w.heap.size = z := ⟨_,rfl⟩
 obtain ⟨mb,hmb⟩ : ∃ z,w1.heap.size = z := ⟨_,rfl⟩
 have HM0 : Aside0 (WM w (w1.alloc (.map #[] 0)) gb mb W (fresh w w1) (.slice none 0 0) [] ⟨[],[],[]⟩) := ⟨by
  have hb2 := below_alloc (Below.refl w1.heap.size w1) (.map #[] 0)
  have hm0 := MapS.new w1
  rw [← hgb,← hmb]
  exact ⟨HK1.out.below hb2,fun k hk => hk.1,hm0,HB1.out.size,fun hk => absurd hk.2 (Nat.lt_irrefl _),own_nil _ _ _ _,fun k hk => (by cases hk),sortH_nil,bel_trans HB1.out hb2⟩⟩
 rw [hgb,hmb]
 clear hgb hmb HK1 HB1
 generalize w1.alloc (.map #[] 0) = w2 at HM0 ⊢
 go_loopg [13,33] L.length (fun gk v13 v33 wr => ∃ (i : Nat) (S : Nat → Prop) (V : List H),v33 = .int .i64 i ∧ Aside0 (i ≤ L.length ∧ L.length - i ≤ gk) ∧ Aside0 (WM w wr gb mb W S v13 V (walk0 s q (L.take i) lv W)))
 case atStart => exact ⟨0,_,_,rfl,⟨by omega⟩,HM0⟩
 case round =>
  obtain ⟨i,S,V,rfl,HI,HW⟩ := hrel
  clear HM0
  by_cases hi : i < L.length
  ·have q3 : (i : Int) < (L.length : Int) := by omega
   obtain ⟨ad,rfl,c0⟩ := int_at (Kd.C_below HL.out HW.out.at0) hi
   obtain ⟨x,hx⟩ : ∃ z,L[i] = z := ⟨_,rfl⟩
   rw [hx] at c0
   have HII := Aside0.mk hi
   have HSN := Aside0.mk (walk0_snoc (s := s) (q := q) (lv := lv) (W := W) hi)
   rw [hx] at HSN
   have hin : wrap64 ((i : Int) + 1) = ((i + 1 : Nat) : Int) := by have := HM.out;unfold wrap64;omega
   have HK0 := Aside0.mk (WOk.nil.starts (s := s) (q := q) (lv := lv) (W := W) (L.take i))
   rw [show (L.take i).foldl (startN s q lv W) ⟨[],[],[]⟩ = walk0 s q (L.take i) lv W from rfl] at HK0
   have HG0 := Aside0.mk (gauge_walk0 (s := s) (q := q) (lv := lv) (W := W) (L.take i))
   generalize walk0 s q (L.take i) lv W = K at HW HSN HK0 HG0
   clear hx hi
   cases ht : s.there x lv with
   | false =>
    have HT := Aside0.mk ht
    clear ht
    go_wp2_with (go_at_call 35;(with_reducible refine ((HX.out.below HW.out.at0).there_ x lv).mono ?_);rintro e w3 ⟨rfl,hb⟩;rw [HT.out];have HW3 := Aside0.mk (HW.out.below hb);clear hb c0)
    obtain ⟨gm,rfl⟩ : ∃ z,gk = z + 1 := ⟨gk - 1,by have := HI.out;have := HII.out;omega⟩
    go_roundg gm
    case measure => omega
    case rel =>
     refine ⟨i + 1,S,V,by go_num,⟨by have := HI.out;have := HII.out;omega⟩,⟨?_⟩⟩
     rw [HSN.out,start_no (by rw [HT.out];rfl)]
     exact HW3.out
   | true =>
    obtain ⟨k,j,n,rfl, -,hn, -⟩ := there_iff.1 ht
    have HKL := Aside0.mk ((List.getElem?_eq_some_iff.1 hn).1)
    have HT := Aside0.mk ht
    clear hn ht
    have hwf : (Lit.int .i64 (k : Int)).wf = true := wf_at HKL.out (by have := HM.out;omega)
    cases hc : K.met.contains (k : Int) with
    | true =>
     have HC := Aside0.mk hc
     clear hc
     go_wp2_with (go_at_call 35;(with_reducible refine ((HX.out.below HW.out.at0).there_ k lv).mono ?_);rintro e w3 ⟨rfl,hb⟩;rw [HT.out];have HW3 := Aside0.mk (HW.out.below hb);clear hb c0;have hlook := HW3.out.met.look hwf;rw [HC.out] at hlook)
     obtain ⟨gm,rfl⟩ : ∃ z,gk = z + 1 := ⟨gk - 1,by have := HI.out;have := HII.out;omega⟩
     go_roundg gm
     case measure => omega
     case rel =>
      refine ⟨i + 1,S,V,by go_num,⟨by have := HI.out;have := HII.out;omega⟩,⟨?_⟩⟩
      rw [HSN.out,start_no (by rw [HT.out,HC.out];rfl)]
      exact HW3.out
    | false =>
     have HC := Aside0.mk hc
     clear hc
     have HLEN := Aside0.mk (show K.waits.length + 1 ≤ 1000000 by have h1 := HG0.out;have h2 := HK0.out.met_len;have h3 := HM.out;unfold gaugeW at h1;omega)
     go_wp2_with (first | (have := HW7;go_at_call 47;(with_reducible refine (kput_calls S gb W K.best (s.far q k) k _ HW7.out.best).mono ?_);rintro e w8 ⟨rfl,hO,hK⟩;have HW8 := Aside0.mk (HW7.out.put hO hK);clear hO hK) | (have := HW6;go_at_call 46;(with_reducible refine ((HX.out.below HW6.out.at0).hit_ HM.out.1 A c q (Kd.C_below HQ.out.1 HW6.out.at0) HQ.out.2 k HKL.out (by have := HM.out;omega)).mono ?_);rintro e w7 ⟨rfl,hb⟩;have HW7 := Aside0.mk (HW6.out.below hb);clear hb) | (have := HW5;at_builtin;go_must (refine app_Hat rfl _ _ rfl w.heap.size _ V [s.hit q k] ⟨w5.heap.size,0,none⟩ 1 1 rfl rfl rfl (HW5.out.waits.below (below_alloc (Below.refl _ _) _)) (lit_reads w5 [s.hit q k] 1 rfl (by omega)) (by have h1 : V.length = K.waits.length := HW5.out.vlen;have h2 := HLEN.out;simp only [List.length_cons,List.length_nil];omega) (by rw [World.size_alloc];have := HW5.out.at0.size;omega) ?_);intro v6 w6 hv hO hat;have HW6 := Aside0.mk (HW5.out.app (below_alloc (Below.refl _ _) _) hv hO hat);clear hv hO hat) | (have := HW4;go_at_call 46;(with_reducible refine ((HX.out.below HW4.out.at0).hit_ HM.out.1 A c q (Kd.C_below HQ.out.1 HW4.out.at0) HQ.out.2 k HKL.out (by have := HM.out;omega)).mono ?_);rintro e w5 ⟨rfl,hb⟩;have HW5 := Aside0.mk (HW4.out.below hb);clear hb) | (at_mapUpdate;refine put_S rfl _ _ _ rfl mb K.met.length K.met rfl HW3.out.met (by have := HK0.out.met_len;have := HM.out;omega) k rfl rfl hwf ?_;intro w4 hm hO;have HW4 := Aside0.mk (HW3.out.meet hO hm);clear hm hO hlook) | (go_at_call 35;(with_reducible refine ((HX.out.below HW.out.at0).there_ k lv).mono ?_);rintro e w3 ⟨rfl,hb⟩;rw [HT.out];have HW3 := Aside0.mk (HW.out.below hb);clear hb c0;have hlook := HW3.out.met.look hwf;rw [HC.out] at hlook))
     obtain ⟨gm,rfl⟩ : ∃ z,gk = z + 1 := ⟨gk - 1,by have := HI.out;have := HII.out;omega⟩
     go_roundg gm
     case measure => omega
     case rel =>
      refine ⟨i + 1,ext S w7 w8,V ++ [s.hit q k],by go_num,⟨by have := HI.out;have := HII.out;omega⟩,⟨?_⟩⟩
      rw [HSN.out,start_yes HT.out HC.out]
      exact HW8.out
  ·have q3 : decide ((i : Int) < (L.length : Int)) = false := decide_eq_false (by omega)
   have HI0 := Aside0.mk (show i = L.length by have := HI.out;omega)
   rw [HI0.out,List.take_length] at HW
   have q4 : decide (i < L.length) = false := decide_eq_false hi
   clear hi HI HI0
   have HG0 := Aside0.mk (gauge_walk0 (s := s) (q := q) (lv := lv) (W := W) L)
   have HK0 : Aside0 (WOk s q lv (walk0 s q L lv W)) := ⟨WOk.nil.starts L⟩
   generalize walk0 s q L lv W = K0 at HW HSEE HG0 HK0
   go_wp2
   clear q3 q4
   go_loopg [13] (s.l.length + 1) (fun gk v13 wr => ∃ (f : Nat) (S : Nat → Prop) (V : List H) (K : Wk),Aside0 (f ≤ gk) ∧ Aside0 (walkL s q lv W f K = ANS ∧ gaugeW s K ≤ f ∧ f ≤ s.l.length + 1) ∧ Aside0 (WOk s q lv K) ∧ Aside0 (WM w wr gb mb W S v13 V K))
   case atStart => exact ⟨s.l.length + 1,S,V,K0,⟨Nat.le_refl _⟩,⟨HSEE.out.symm,by rw [HG0.out];omega,Nat.le_refl _⟩,HK0,HW⟩
   case round =>
    clear HW HSEE HG0 HK0
    obtain ⟨f,S,V,K,HF,HS,HK,HW⟩ := hrel
    obtain ⟨wo,rfl⟩ : ∃ z,z = wr := ⟨_,rfl⟩
    by_cases h0 : V = []
    ·subst h0
     obtain ⟨ao,cp,rfl,hr⟩ := OwnH.R HW.out.waits
     have HAN := Aside0.mk (show K.best = ANS by rw [← HS.out.1,walkL_done f (show K.waits = [] by rw [← HW.out.srt,sortH_nil])])
     clear hr
     go_wp2_with (go_at_call 52;(with_reducible refine (klist_calls S gb W K.best _ HW.out.best).mono ?_);rintro e w3 ⟨⟨v3,rfl,hv⟩,hb⟩;have HV3 := Aside0.mk (hv.weaken HW.out.at0.size);have HB3 := Aside0.mk (bel_trans HW.out.at0 hb);clear hv hb)
     go_ret
     rw [HAN.out] at HV3
     exact ⟨⟨v3,rfl,HV3.out⟩,HB3.out⟩
    ·rcases OwnH.row HW.out.waits with ⟨-,e0⟩ | ⟨r,cap,rfl,hrb,hcap,hrow⟩
     ·exact absurd e0 h0
     have HR := Aside0.mk (And.intro hrb (And.intro hcap hrow))
     have hV := List.length_pos_iff.2 h0
     have q1 : decide ((0 : Int) < (V.length : Int)) = true := decide_eq_true (by omega)
     have q1' : decide (0 < V.length) = true := decide_eq_true hV
     have HVL := Aside0.mk (And.intro h0 (show V.length = K.waits.length from HW.out.vlen))
     have HNL := Aside0.mk (show V.length ≤ 100000 by have h1 := HS.out.2.1;have h2 := HS.out.2.2;have h3 := HM.out;have h4 := HK.out.met_len;have h5 := HVL.out.2;unfold gaugeW at h1;omega)
     have HF1 := Aside0.mk (show 1 ≤ f by have h1 := HS.out.2.1;have h2 := HK.out.met_len;have h3 := HVL.out.2;unfold gaugeW at h1;omega)
     clear hrb hcap hrow hV h0
     go_wp2
     obtain ⟨go,rfl⟩ : ∃ z,gk = z + 1 := ⟨gk - 1,by have := HF.out;have := HF1.out;omega⟩
     go_loopg [16,68] V.length (fun gk v16 v68 wr => ∃ (i : Nat),v16 = .int .i64 (selTo V i : Nat) ∧ v68 = .int .i64 i ∧ Aside0 (i ≤ V.length ∧ V.length - i ≤ gk) ∧ Aside0 (Below wo.heap.size wo wr))
     case atStart => exact ⟨0,rfl,rfl,⟨by omega⟩,⟨by first | exact Below.refl _ _ | exact below_drew (Below.refl _ _)⟩⟩
     case round =>
      obtain ⟨i,rfl,rfl,HI,HB⟩ := hrel
      by_cases hi : i < V.length
      ·have q3 : (i : Int) < (V.length : Int) := by omega
       have hsl := sel_lt HVL.out.1 i (by omega)
       have HSL := Aside0.mk (And.intro hi hsl)
       have hin : wrap64 ((i : Int) + 1) = ((i + 1 : Nat) : Int) := by have := HNL.out;unfold wrap64;omega
       obtain ⟨x,hx⟩ : ∃ z,rdH V i = z := ⟨_,rfl⟩
       obtain ⟨k,hk⟩ : ∃ z,selTo V i = z := ⟨_,rfl⟩
       rw [hk] at hsl HSL ⊢
       obtain ⟨y,hy⟩ : ∃ z,rdH V k = z := ⟨_,rfl⟩
       have hcx := cells_at HW.out.waits hi
       have hcy := cells_at HW.out.waits hsl
       rw [hx] at hcx
       rw [hy] at hcy
       have c0 := pw_cell_below HB.out hcx.1
       have c1 := pw_cell_below HB.out hcx.2
       have HD0 := Aside0.mk (pw_cell_below HB.out hcy.1)
       have HD1 := Aside0.mk (pw_cell_below HB.out hcy.2)
       obtain ⟨b,hb⟩ : ∃ z,ltH ⟨x.f0,x.f1⟩ ⟨y.f0,y.f1⟩ = z := ⟨_,rfl⟩
       have HLT := Aside0.mk hb
       have HST := Aside0.mk (show selTo V (i + 1) = if b = true then i else k by rw [← hb];show (if ltH (rdH V i) (rdH V (selTo V i)) = true then i else selTo V i) = _;rw [hk,hx,hy])
       have hsl' : (k : Int) < (V.length : Int) := by omega
       clear hx hy hi hcx hcy hk hb
       go_wp2
       have hbx0 := heap_alloc_new wr (.cells #[.int .i64 x.f0,.int .u32 x.f1] 58)
       have hbb := below_alloc (Below.refl wr.heap.size wr) (.cells #[.int .i64 x.f0,.int .u32 x.f1] 58)
       have hd0 := pw_cell_below hbb HD0.out
       have hd1 := pw_cell_below hbb HD1.out
       replace hbb := bel_trans HB.out hbb
       obtain ⟨wb,hwb⟩ : ∃ z,wr.alloc (.cells #[.int .i64 x.f0,.int .u32 x.f1] 58) = z := ⟨_,rfl⟩
       rw [hwb] at hbx0 hbb hd0 hd1 ⊢
       have HBX := Aside0.mk (blk_below hbx0 (below_drew (Below.refl _ _)))
       have HBB := Aside0.mk (bel_trans hbb (below_drew (Below.refl _ _)))
       have HE0 := Aside0.mk (pw_cell_below (below_drew (Below.refl _ _)) hd0)
       have HE1 := Aside0.mk (pw_cell_below (below_drew (Below.refl _ _)) hd1)
       clear hbx0 hbb hd0 hd1 hwb HD0 HD1
       refine start_ (n := 6) (S := fun w' => w'.cell? ⟨wr.heap.size,0,none⟩ = some (.int .i64 x.f0) ∧ w'.cell? ⟨wr.heap.size,1,none⟩ = some (.int .u32 x.f1) ∧ w'.cell? ⟨r,k * 2,none⟩ = some (.int .i64 y.f0) ∧ w'.cell? ⟨r,k * 2 + 1,none⟩ = some (.int .u32 y.f1)) (ds := []) (mB_ 6 0) (by kernel_rfl) rfl rfl ⟨((blk_cell HBX.out 0).trans rfl),((blk_cell HBX.out 1).trans rfl),HE0.out,HE1.out⟩ (fun hHeld => ?_)
       refine with_tabW wlk.tab17 wlk.bits17 (fun HT_ HW_ => ?_)
       generalize wb.drew = wd at HBX HBB HE0 HE1 hHeld ⊢
       iterate 3 (refine pn_ 0 [(1,74,2),(2,75,6),(3,76,14)] (v := ?_) (a' := ?_) rfl rfl rfl HT_.out (by kernel_rfl) (Or.inl ⟨by rfl, ?_⟩) ?_ ?_;rotate_left;(· intro w';go_simp;with_reducible rfl);rotate_left;(· simp only [Act.put,sT_,sZ_,sS_,i64_w,i32_w];rfl))
       iterate 2 (refine tn_ 14 [(0,73,15),(4,77,31)] (v := ?_) (a' := ?_) rfl rfl rfl HT_.out HW_.out (by kernel_rfl) (Or.inl ⟨by rfl, ?_⟩) hHeld ?_ ?_;rotate_left;(· rintro w' ⟨s0,s1,s2,s3⟩;go_simp;with_reducible rfl);rotate_left;(· simp only [Act.put,sT_,sZ_,sS_,i64_w,i32_w];rfl))
       refine one_ (i := 5) (N := some 78) (mB_ 6 63) rfl rfl (one_of HT_.out (by kernel_rfl)) (by decide) (fun K hK => ?_)
       refine goes_ Try.func48 (by kernel_rfl) rfl #[.agg #[.int .i64 x.f0,.int .u32 x.f1],.agg #[.int .i64 y.f0,.int .u32 y.f1]] (by rfl) rfl rfl (by simp only [List.map_toArray,List.map_cons,List.map_nil];rfl) ?_
       with_reducible refine (less_bel x.f0 x.f1 y.f0 y.f1 b HLT.out _).mono ?_
       rintro e w7 ⟨rfl,hb⟩
       refine ⟨_,rfl, ?_⟩
       have HB7 := Aside0.mk (bel_trans HBB.out hb)
       have HBX7 := Aside0.mk (blk_below HBX.out hb)
       have HE07 := Aside0.mk (pw_cell_below hb HE0.out)
       have HE17 := Aside0.mk (pw_cell_below hb HE1.out)
       clear hb
       refine hK.out _ _ ⟨((blk_cell HBX7.out 0).trans rfl),((blk_cell HBX7.out 1).trans rfl),HE07.out,HE17.out⟩ (fun hHeld => ?_)
       clear hK K
       refine norm_ (a' := ?_) ?_ ?_
       rotate_left
       ·show Act.put _ (some 78) _ = _
        simp only [Act.put,sT_,sZ_,sS_,i64_w,i32_w]
        rfl
       refine done_ (done_of HT_.out (by kernel_rfl)) ?_
       clear hHeld c0 c1
       cases b with
       | true =>
        go_wp2
        obtain ⟨gm,rfl⟩ : ∃ z,gk = z + 1 := ⟨gk - 1,by have := HI.out;have := HSL.out;omega⟩
        go_roundg gm
        case measure => omega
        case rel => exact ⟨i + 1,by rw [HST.out];rfl,by go_num,⟨by have := HI.out;have := HSL.out;omega⟩,HB7⟩
       | false =>
        go_wp2
        obtain ⟨gm,rfl⟩ : ∃ z,gk = z + 1 := ⟨gk - 1,by have := HI.out;have := HSL.out;omega⟩
        go_roundg gm
        case measure => omega
        case rel => exact ⟨i + 1,by rw [HST.out];rfl,by go_num,⟨by have := HI.out;have := HSL.out;omega⟩,HB7⟩
      ·have q3 : decide ((i : Int) < (V.length : Int)) = false := decide_eq_false (by omega)
       have q4 : decide (i < V.length) = false := decide_eq_false hi
       have hie : i = V.length := by have := HI.out;omega
       have hsl := sel_lt HVL.out.1 V.length (Nat.le_refl _)
       have hss := sort_sel HVL.out.1
       rw [HW.out.srt] at hss
       rw [show selTo V i = selTo V V.length by rw [hie]]
       generalize selTo V V.length = k at hsl hss ⊢
       obtain ⟨c,hc⟩ : ∃ z,rdH V k = z := ⟨_,rfl⟩
       obtain ⟨k1,hk1⟩ : ∃ z,k + 1 = z := ⟨_,rfl⟩
       obtain ⟨m,hm⟩ : ∃ m,V.length = m + k1 := ⟨V.length - k1,by omega⟩
       obtain ⟨n2,hn2⟩ : ∃ z,k + m = z := ⟨_,rfl⟩
       have hcc := cells_at HW.out.waits hsl
       rw [hc] at hcc hss
       have c0 := pw_cell_below HB.out hcc.1
       have c1 := pw_cell_below HB.out hcc.2
       have HSS := Aside0.mk hss
       have HKK := Aside0.mk (show k1 = k + 1 ∧ V.length = m + k1 ∧ n2 = (V.eraseIdx k).length by rw [List.length_eraseIdx,if_pos hsl];omega)
       have HN2 := Aside0.mk hn2
       have hw1 : wrap64 ((k : Int) + 1) = (k1 : Int) := by have := HNL.out;unfold wrap64;omega
       have hsl' : (k : Int) < (V.length : Int) := by omega
       have HW3 := Aside0.mk (HW.out.below HB.out)
       clear hc hk1 hm hn2 hcc hss hi hie HW HB HI hsl
       have HBX := Aside0.mk (heap_alloc_new wr (.cells #[.int .i64 c.f0,.int .u32 c.f1] 58))
       have HBA := Aside0.mk (below_alloc (Below.refl wr.heap.size wr) (.cells #[.int .i64 c.f0,.int .u32 c.f1] 58))
       obtain ⟨rest,hrs⟩ : ∃ z,sortH (V.eraseIdx k) = z := ⟨_,rfl⟩
       rw [hrs] at HSS
       have HRS := Aside0.mk hrs
       obtain ⟨HK2,ci,hci,hce⟩ := HK.out.pop HSS.out
       obtain ⟨kc,jc,nc,hc1,hc2,hnc,hjc⟩ := there_iff.1 hci
       subst hc1 hc2
       have hce : c = ⟨s.far q kc,kc⟩ := hce
       obtain ⟨dc,hdc⟩ : ∃ z,s.far q (kc : Int) = z := ⟨_,rfl⟩
       rw [hdc] at hce
       subst hce
       have HK2 := Aside0.mk HK2
       have HNC := Aside0.mk hnc
       obtain ⟨lsc,hlsc⟩ : ∃ l,nc.links[jc]? = some l := ⟨_,List.getElem?_eq_getElem hjc⟩
       have HJC := Aside0.mk hlsc
       have HTC := Aside0.mk hci
       have hwk : wrap64 (kc : Int) = (kc : Int) := by have h1 := (List.getElem?_eq_some_iff.1 hnc).1;have := HM.out;unfold wrap64;omega
       clear hrs hci hnc hjc hlsc hdc
       obtain ⟨wh,hwh⟩ : ∃ z,worstH K.best = z := ⟨_,rfl⟩
       have HWH := Aside0.mk hwh
       obtain ⟨lt,hlt⟩ : ∃ z,ltH ⟨wh.f0,wh.f1⟩ ⟨dc,kc⟩ = z := ⟨_,rfl⟩
       have HLT := Aside0.mk hlt
       clear hwh hlt
       cases hfu : decide (K.best.length = W) with
       | false =>
        have HLATE := Aside0.mk (show lateH W K.best ⟨dc,kc⟩ = false by unfold lateH;rw [hfu];rfl)
        have HFU := Aside0.mk hfu
        clear hfu
        go_wp2_with (first | (have := HW5;go_at_call 51;go_must (with_reducible refine ((HX.out.below (HW5.out.below (below_alloc (Below.refl _ _) (.cells #[.int .i64 wh.f0,.int .u32 wh.f1] 58))).at0).nb_ (by have := HM.out;omega) HNC.out HJC.out (all2_i _ _) (by have h1 := good_len HGOOD.out HNC.out HJC.out;have := HM.out;omega)).mono ?_);rintro e w8 ⟨⟨v8,rfl,hv⟩,hb⟩;have HN8 := Aside0.mk (NB.mk (hv.weaken (HW5.out.below (below_alloc (Below.refl _ _) (.cells #[.int .i64 wh.f0,.int .u32 wh.f1] 58))).at0.size) (fun k hk hs => by have h1 := own_base hv k hk;have h2 := (HW5.out.below (below_alloc (Below.refl _ _) (.cells #[.int .i64 wh.f0,.int .u32 wh.f1] 58))).best.lt k hs;omega) : NB w w8 S v8 (nbL s kc jc));have HW8 := Aside0.mk ((HW5.out.below (below_alloc (Below.refl _ _) (.cells #[.int .i64 wh.f0,.int .u32 wh.f1] 58))).below hb);obtain ⟨ao8,cp8,rfl, -, -⟩ := hv.C0;clear hv hb x0 x1 xlt) | (have := HW4;go_at_call 50;(with_reducible refine (kworst_calls S gb W K.best w4 HW4.out.best).mono ?_);rintro e w5 ⟨rfl,hb⟩;rw [HWH.out,HFU.out];have HW5 := Aside0.mk (HW4.out.below hb);have HX5 := Aside0.mk (blk_below HX4.out hb);have x0 := (blk_cell HX5.out 0).trans rfl;have x1 := (blk_cell HX5.out 1).trans rfl;have xlt := blk_lt HX5.out;clear hb) | (go_at_call 49;(with_reducible refine (delete_calls r cap k k1 m V _ (OwnH.rowAt (HW3.out.below HBA.out).waits).2.2 HKK.out.2.1 HKK.out.1 (OwnH.rowAt HW3.out.waits).2.1 HNL.out).mono ?_);rintro e w4 ⟨rfl,hR,hO⟩;rw [HN2.out];have HW4 := Aside0.mk ((HW3.out.below HBA.out).pop hR hO HKK.out.2.2 (OwnH.rowAt HW3.out.waits).2.1 HSS.out HRS.out);have HX4 := Aside0.mk ((hO.block wr.heap.size (blk_lt HBX.out) (fun e => by have := own_lt HW3.out.waits r rfl;omega)).trans HBX.out);clear hR hO c0 c1))
        obtain ⟨f2,hf2⟩ : ∃ z,f = z + 1 := ⟨f - 1,by have := HF1.out;omega⟩
        have HANS := Aside0.mk (show walkL s q jc W f2 ((nbL s kc jc).foldl (stepN s q jc W) ⟨K.met,rest,K.best⟩) = ANS by rw [fold_nb];have h1 := HS.out.1;rw [hf2,walkL_on HSS.out HLATE.out] at h1;exact h1)
        have HGAU := Aside0.mk (show gaugeW s ⟨K.met,rest,K.best⟩ ≤ f2 ∧ f2 ≤ go ∧ f2 ≤ s.l.length + 1 by have h1 := gauge_pop (s := s) HSS.out (b := K.best);have h2 := HS.out.2;have h3 := HF.out;omega)
        have HNT := Aside0.mk (nb_there HGOOD.out HTC.out)
        have HNLEN := Aside0.mk (nb_len HGOOD.out HNC.out HJC.out)
        generalize nbL s kc jc = N at HANS HNT HNLEN HN8 ⊢
        generalize (⟨K.met,rest,K.best⟩ : Wk) = K1 at HANS HGAU HK2 HW8
        generalize V.eraseIdx k = V1 at HW8
        clear hf2 HF HS HK HVL HNL HF1 HSS HRS HKK HN2 HW3 HBX HBA HW4 HX4 HW5 HX5 HNC HJC HTC HLT HWH HFU HLATE hwk hw1 hsl' q1 q1' q3 q4 HR
        go_wp2
        go_loopg [13,108] N.length (fun gk v13 v108 wr => ∃ (i : Nat) (S : Nat → Prop) (V : List H) (K : Wk),v108 = .int .i64 i ∧ Aside0 (i ≤ N.length ∧ N.length - i ≤ gk) ∧ Aside0 (K = (N.take i).foldl (stepN s q jc W) K1) ∧ Aside0 (WM w wr gb mb W S v13 V K) ∧ Aside0 (NB w wr S (.slice ao8 N.length cp8) N))
        case atStart => exact ⟨0,S,V1,K1,rfl,⟨by omega⟩,⟨rfl⟩,HW8,HN8⟩
        case round =>
         clear HW8 HN8
         obtain ⟨i,S,V,K,rfl,HI,HKE,HW,HN⟩ := hrel
         have HK := Aside0.mk (show WOk s q jc K by rw [HKE.out];exact HK2.out.steps _)
         have HG := Aside0.mk (show gaugeW s K ≤ f2 by rw [HKE.out];exact Int.le_trans (gauge_steps _) HGAU.out.1)
         have HLEN := Aside0.mk (show V.length = K.waits.length ∧ V.length ≤ 200000 by have h1 := HW.out.vlen;have h2 := HG.out;have h3 := HK.out.met_len;have h4 := HGAU.out;have h5 := HM.out;unfold gaugeW at h2;omega)
         by_cases hi : i < N.length
         ·have q3 : (i : Int) < (N.length : Int) := by omega
          obtain ⟨ad8,rfl,c0⟩ := HN.out.own.cell hi
          obtain ⟨t,ht⟩ : ∃ z,N[i] = z := ⟨_,rfl⟩
          have HTT := Aside0.mk (HNT.out t (by rw [← ht];exact List.getElem_mem hi))
          have HFS := Aside0.mk (fold_snoc (s := s) (q := q) (lv := jc) (W := W) (k := K1) hi)
          rw [ht,← HKE.out] at HFS
          rw [ht] at c0
          obtain ⟨k,j2,n,hk1, -,hn, -⟩ := there_iff.1 HTT.out
          subst hk1
          have HKL := Aside0.mk ((List.getElem?_eq_some_iff.1 hn).1)
          have hwf : (Lit.int .i64 (k : Int)).wf = true := wf_at HKL.out (by have := HM.out;omega)
          have hin : wrap64 ((i : Int) + 1) = ((i + 1 : Nat) : Int) := by have := HNLEN.out;have := HM.out;unfold wrap64;omega
          have HII := Aside0.mk hi
          have hlook := HW.out.met.look hwf
          clear hn ht hi
          cases hc : K.met.contains (k : Int) with
          | true =>
           rw [hc] at hlook
           have HC := Aside0.mk hc
           clear hc
           go_wp2
           obtain ⟨gm,rfl⟩ : ∃ z,gk = z + 1 := ⟨gk - 1,by have := HI.out;have := HII.out;omega⟩
           go_roundg gm
           case measure => omega
           case rel => exact ⟨i + 1,S,V,K,by go_num,⟨by have := HI.out;have := HII.out;omega⟩,⟨by rw [HFS.out,step_met HC.out]⟩,HW,HN⟩
          | false =>
           rw [hc] at hlook
           have HC := Aside0.mk hc
           clear hc
           obtain ⟨wh2,hwh2⟩ : ∃ z,worstH K.best = z := ⟨_,rfl⟩
           have HWH := Aside0.mk hwh2
           obtain ⟨lt2,hlt2⟩ : ∃ z,ltH ⟨s.far q k,k⟩ ⟨wh2.f0,wh2.f1⟩ = z := ⟨_,rfl⟩
           have HLT := Aside0.mk hlt2
           clear hwh2 hlt2
           cases hfu : decide (K.best.length = W) with
           | false =>
            have HGD := Aside0.mk (show goodH W K.best (s.hit q k) = true by unfold goodH;rw [hfu];rfl)
            have HFU := Aside0.mk hfu
            clear hfu
            go_wp2_with (first | (have := HW6;go_at_call 47;(with_reducible refine (kput_calls S gb W K.best (s.far q k) k _ HW6.out.best).mono ?_);rintro e w8 ⟨rfl,hO,hK⟩;have HW8 := Aside0.mk (HW6.out.put hO hK);have HN8 := Aside0.mk (HN6.out.put hO);clear hO hK) | (have := HW4;at_builtin;go_must (refine app_Hat rfl _ _ rfl w.heap.size _ V [s.hit q k] ⟨(w4.alloc (.cells #[.int .i64 wh2.f0,.int .u32 wh2.f1] 58)).heap.size,0,none⟩ 1 1 rfl (by first | rfl | (rw [World.size_alloc];rfl)) rfl ((HW4.out.below (below_alloc (Below.refl _ _) (.cells #[.int .i64 wh2.f0,.int .u32 wh2.f1] 58))).waits.below (below_alloc (Below.refl _ _) _)) (lit_reads (w4.alloc (.cells #[.int .i64 wh2.f0,.int .u32 wh2.f1] 58)) [s.hit q k] 1 rfl (by omega)) (by have h2 := HLEN.out;simp only [List.length_cons,List.length_nil];omega) (by rw [World.size_alloc];have := (HW4.out.below (below_alloc (Below.refl _ _) (.cells #[.int .i64 wh2.f0,.int .u32 wh2.f1] 58))).at0.size;omega) ?_);intro v6 w6 hv hO hat;have HW6 := Aside0.mk ((HW4.out.below (below_alloc (Below.refl _ _) (.cells #[.int .i64 wh2.f0,.int .u32 wh2.f1] 58))).app (below_alloc (Below.refl _ _) _) hv hO hat);have HN6 := Aside0.mk (((HN4.out.below (below_alloc (Below.refl _ _) (.cells #[.int .i64 wh2.f0,.int .u32 wh2.f1] 58))).below (below_alloc (Below.refl _ _) _)).app ((HW4.out.below (below_alloc (Below.refl _ _) (.cells #[.int .i64 wh2.f0,.int .u32 wh2.f1] 58))).waits.below (below_alloc (Below.refl _ _) _)) hO);have HX6 := Aside0.mk ((hO.block w3.heap.size (blk_lt (blk_below (blk_below HX4.out (below_alloc (Below.refl _ _) (.cells #[.int .i64 wh2.f0,.int .u32 wh2.f1] 58))) (below_alloc (Below.refl _ _) _))) (fun e => by have h1 := own_lt HW3.out.waits _ e;omega)).trans (blk_below (blk_below HX4.out (below_alloc (Below.refl _ _) (.cells #[.int .i64 wh2.f0,.int .u32 wh2.f1] 58))) (below_alloc (Below.refl _ _) _)));clear hv hO hat x0 x1 xlt;have x0 := (blk_cell HX6.out 0).trans rfl;have x1 := (blk_cell HX6.out 1).trans rfl) | (have := HW3;go_at_call 50;(with_reducible refine (kworst_calls S gb W K.best _ (HW3.out.below (below_alloc (Below.refl _ _) (.cells #[.int .i64 (s.far q k),.int .u32 k] 58))).best).mono ?_);rintro e w4 ⟨rfl,hb⟩;rw [HWH.out,HFU.out];have hbb := bel_trans (below_alloc (Below.refl w3.heap.size w3) (.cells #[.int .i64 (s.far q k),.int .u32 k] 58)) hb;have HW4 := Aside0.mk (HW3.out.below hbb);have HN4 := Aside0.mk (HN3.out.below hbb);have HX4 := Aside0.mk (blk_below (heap_alloc_new w3 (.cells #[.int .i64 (s.far q k),.int .u32 k] 58)) hb);have x0 := (blk_cell HX4.out 0).trans rfl;have x1 := (blk_cell HX4.out 1).trans rfl;have xlt := blk_lt HX4.out;clear hb hbb) | (have := HW2;go_at_call 46;(with_reducible refine ((HX.out.below HW2.out.at0).hit_ HM.out.1 A c q (Kd.C_below HQ.out.1 HW2.out.at0) HQ.out.2 k HKL.out (by have := HM.out;omega)).mono ?_);rintro e w3 ⟨rfl,hb⟩;have HW3 := Aside0.mk (HW2.out.below hb);have HN3 := Aside0.mk (HN2.out.below hb);clear hb) | (at_mapUpdate;refine put_S rfl _ _ _ rfl mb K.met.length K.met rfl HW.out.met (by have := HK.out.met_len;have := HM.out;omega) k rfl rfl hwf ?_;intro w2 hm hO;have HW2 := Aside0.mk (HW.out.meet hO hm);have HN2 := Aside0.mk (HN.out.meet hO HW.out.met);clear hm hO hlook))
            obtain ⟨gm,rfl⟩ : ∃ z,gk = z + 1 := ⟨gk - 1,by have := HI.out;have := HII.out;omega⟩
            go_roundg gm
            case measure => omega
            case rel => exact ⟨i + 1,ext S w6 w8,V ++ [s.hit q k],⟨K.met ++ [(k : Int)],intoL K.waits (s.hit q k),putK W K.best (s.hit q k)⟩,by go_num,⟨by have := HI.out;have := HII.out;omega⟩,⟨by rw [HFS.out,step_good HC.out HTT.out HGD.out]⟩,HW8,HN8⟩
           | true =>
            have HGD := Aside0.mk (show goodH W K.best (s.hit q k) = lt2 by unfold goodH;rw [hfu,HWH.out];exact HLT.out)
            have HFU := Aside0.mk hfu
            clear hfu
            cases lt2 with
            | true =>
             go_wp2_with (first | (have := HW6;go_at_call 47;(with_reducible refine (kput_calls S gb W K.best (s.far q k) k _ HW6.out.best).mono ?_);rintro e w8 ⟨rfl,hO,hK⟩;have HW8 := Aside0.mk (HW6.out.put hO hK);have HN8 := Aside0.mk (HN6.out.put hO);clear hO hK) | (have := HW5;at_builtin;go_must (refine app_Hat rfl _ _ rfl w.heap.size _ V [s.hit q k] ⟨w5.heap.size,0,none⟩ 1 1 rfl (by first | rfl | (rw [World.size_alloc];rfl)) rfl (HW5.out.waits.below (below_alloc (Below.refl _ _) _)) (lit_reads w5 [s.hit q k] 1 rfl (by omega)) (by have h2 := HLEN.out;simp only [List.length_cons,List.length_nil];omega) (by rw [World.size_alloc];have := HW5.out.at0.size;omega) ?_);intro v6 w6 hv hO hat;have HW6 := Aside0.mk (HW5.out.app (below_alloc (Below.refl _ _) _) hv hO hat);have HN6 := Aside0.mk ((HN5.out.below (below_alloc (Below.refl _ _) _)).app (HW5.out.waits.below (below_alloc (Below.refl _ _) _)) hO);have HX6 := Aside0.mk ((hO.block w3.heap.size (blk_lt (blk_below HX5.out (below_alloc (Below.refl _ _) _))) (fun e => by have h1 := own_lt HW3.out.waits _ e;omega)).trans (blk_below HX5.out (below_alloc (Below.refl _ _) _)));clear hv hO hat x0 x1 xlt;have x0 := (blk_cell HX6.out 0).trans rfl;have x1 := (blk_cell HX6.out 1).trans rfl) | (have := HW4;go_at_call 48;(with_reducible refine (less_bel (s.far q k) k wh2.f0 wh2.f1 _ HLT.out _).mono ?_);rintro e w5 ⟨rfl,hb⟩;have hbb := bel_trans (below_alloc (Below.refl w4.heap.size w4) (.cells #[.int .i64 wh2.f0,.int .u32 wh2.f1] 58)) hb;have HW5 := Aside0.mk (HW4.out.below hbb);have HN5 := Aside0.mk (HN4.out.below hbb);have HX5 := Aside0.mk (blk_below HX4.out hbb);clear x0 x1 xlt;have x0 := (blk_cell HX5.out 0).trans rfl;have x1 := (blk_cell HX5.out 1).trans rfl;have xlt := blk_lt HX5.out;clear hb hbb) | (have := HW3;go_at_call 50;(with_reducible refine (kworst_calls S gb W K.best _ (HW3.out.below (below_alloc (Below.refl _ _) (.cells #[.int .i64 (s.far q k),.int .u32 k] 58))).best).mono ?_);rintro e w4 ⟨rfl,hb⟩;rw [HWH.out,HFU.out];have hbb := bel_trans (below_alloc (Below.refl w3.heap.size w3) (.cells #[.int .i64 (s.far q k),.int .u32 k] 58)) hb;have HW4 := Aside0.mk (HW3.out.below hbb);have HN4 := Aside0.mk (HN3.out.below hbb);have HX4 := Aside0.mk (blk_below (heap_alloc_new w3 (.cells #[.int .i64 (s.far q k),.int .u32 k] 58)) hb);have x0 := (blk_cell HX4.out 0).trans rfl;have x1 := (blk_cell HX4.out 1).trans rfl;have xlt := blk_lt HX4.out;clear hb hbb) | (have := HW2;go_at_call 46;(with_reducible refine ((HX.out.below HW2.out.at0).hit_ HM.out.1 A c q (Kd.C_below HQ.out.1 HW2.out.at0) HQ.out.2 k HKL.out (by have := HM.out;omega)).mono ?_);rintro e w3 ⟨rfl,hb⟩;have HW3 := Aside0.mk (HW2.out.below hb);have HN3 := Aside0.mk (HN2.out.below hb);clear hb) | (at_mapUpdate;refine put_S rfl _ _ _ rfl mb K.met.length K.met rfl HW.out.met (by have := HK.out.met_len;have := HM.out;omega) k rfl rfl hwf ?_;intro w2 hm hO;have HW2 := Aside0.mk (HW.out.meet hO hm);have HN2 := Aside0.mk (HN.out.meet hO HW.out.met);clear hm hO hlook))
             obtain ⟨gm,rfl⟩ : ∃ z,gk = z + 1 := ⟨gk - 1,by have := HI.out;have := HII.out;omega⟩
             go_roundg gm
             case measure => omega
             case rel => exact ⟨i + 1,ext S w6 w8,V ++ [s.hit q k],⟨K.met ++ [(k : Int)],intoL K.waits (s.hit q k),putK W K.best (s.hit q k)⟩,by go_num,⟨by have := HI.out;have := HII.out;omega⟩,⟨by rw [HFS.out,step_good HC.out HTT.out HGD.out]⟩,HW8,HN8⟩
            | false =>
             go_wp2_with (first | (have := HW4;go_at_call 48;(with_reducible refine (less_bel (s.far q k) k wh2.f0 wh2.f1 _ HLT.out _).mono ?_);rintro e w5 ⟨rfl,hb⟩;have hbb := bel_trans (below_alloc (Below.refl w4.heap.size w4) (.cells #[.int .i64 wh2.f0,.int .u32 wh2.f1] 58)) hb;have HW5 := Aside0.mk (HW4.out.below hbb);have HN5 := Aside0.mk (HN4.out.below hbb);have HX5 := Aside0.mk (blk_below HX4.out hbb);clear x0 x1 xlt;have x0 := (blk_cell HX5.out 0).trans rfl;have x1 := (blk_cell HX5.out 1).trans rfl;have xlt := blk_lt HX5.out;clear hb hbb) | (have := HW3;go_at_call 50;(with_reducible refine (kworst_calls S gb W K.best _ (HW3.out.below (below_alloc (Below.refl _ _) (.cells #[.int .i64 (s.far q k),.int .u32 k] 58))).best).mono ?_);rintro e w4 ⟨rfl,hb⟩;rw [HWH.out,HFU.out];have hbb := bel_trans (below_alloc (Below.refl w3.heap.size w3) (.cells #[.int .i64 (s.far q k),.int .u32 k] 58)) hb;have HW4 := Aside0.mk (HW3.out.below hbb);have HN4 := Aside0.mk (HN3.out.below hbb);have HX4 := Aside0.mk (blk_below (heap_alloc_new w3 (.cells #[.int .i64 (s.far q k),.int .u32 k] 58)) hb);have x0 := (blk_cell HX4.out 0).trans rfl;have x1 := (blk_cell HX4.out 1).trans rfl;have xlt := blk_lt HX4.out;clear hb hbb) | (have := HW2;go_at_call 46;(with_reducible refine ((HX.out.below HW2.out.at0).hit_ HM.out.1 A c q (Kd.C_below HQ.out.1 HW2.out.at0) HQ.out.2 k HKL.out (by have := HM.out;omega)).mono ?_);rintro e w3 ⟨rfl,hb⟩;have HW3 := Aside0.mk (HW2.out.below hb);have HN3 := Aside0.mk (HN2.out.below hb);clear hb) | (at_mapUpdate;refine put_S rfl _ _ _ rfl mb K.met.length K.met rfl HW.out.met (by have := HK.out.met_len;have := HM.out;omega) k rfl rfl hwf ?_;intro w2 hm hO;have HW2 := Aside0.mk (HW.out.meet hO hm);have HN2 := Aside0.mk (HN.out.meet hO HW.out.met);clear hm hO hlook))
             obtain ⟨gm,rfl⟩ : ∃ z,gk = z + 1 := ⟨gk - 1,by have := HI.out;have := HII.out;omega⟩
             go_roundg gm
             case measure => omega
             case rel => exact ⟨i + 1,S,V,⟨K.met ++ [(k : Int)],K.waits,K.best⟩,by go_num,⟨by have := HI.out;have := HII.out;omega⟩,⟨by rw [HFS.out,step_bad HC.out HTT.out HGD.out]⟩,HW5,HN5⟩
         ·have q3 : decide ((i : Int) < (N.length : Int)) = false := decide_eq_false (by omega)
          have q4 : decide (i < N.length) = false := decide_eq_false hi
          have hie : i = N.length := by have := HI.out;omega
          rw [hie,List.take_length] at HKE
          clear hi hie
          go_wp2
          go_roundg go
          case measure => omega
          case rel => exact ⟨f2,S,V,K,⟨by have := HGAU.out;omega⟩,⟨by rw [HKE.out];exact HANS.out,HG.out,HGAU.out.2.2⟩,HK,HW⟩
       | true =>
        have HFU := Aside0.mk hfu
        have HLATE := Aside0.mk (show lateH W K.best ⟨dc,kc⟩ = lt by unfold lateH;rw [hfu,HWH.out];exact HLT.out)
        clear hfu
        cases lt with
        | true =>
         go_wp2_with (first | (have := HW6;go_at_call 52;(with_reducible refine (klist_calls S gb W K.best _ HW6.out.best).mono ?_);rintro e w7 ⟨⟨v7,rfl,hv⟩,hb⟩;have HV7 := Aside0.mk (hv.weaken HW6.out.at0.size);have HB7 := Aside0.mk (bel_trans HW6.out.at0 hb);clear hv hb) | (have := HW5;go_at_call 48;(with_reducible refine (less_bel wh.f0 wh.f1 dc kc _ HLT.out _).mono ?_);rintro e w6 ⟨rfl,hb⟩;have hbb := bel_trans (below_alloc (Below.refl w5.heap.size w5) (.cells #[.int .i64 wh.f0,.int .u32 wh.f1] 58)) hb;have HW6 := Aside0.mk (HW5.out.below hbb);have HX6 := Aside0.mk (blk_below HX5.out hbb);clear x0 x1 xlt;have x0 := (blk_cell HX6.out 0).trans rfl;have x1 := (blk_cell HX6.out 1).trans rfl;have xlt := blk_lt HX6.out;clear hb hbb) | (have := HW4;go_at_call 50;(with_reducible refine (kworst_calls S gb W K.best w4 HW4.out.best).mono ?_);rintro e w5 ⟨rfl,hb⟩;rw [HWH.out,HFU.out];have HW5 := Aside0.mk (HW4.out.below hb);have HX5 := Aside0.mk (blk_below HX4.out hb);have x0 := (blk_cell HX5.out 0).trans rfl;have x1 := (blk_cell HX5.out 1).trans rfl;have xlt := blk_lt HX5.out;clear hb) | (go_at_call 49;(with_reducible refine (delete_calls r cap k k1 m V _ (OwnH.rowAt (HW3.out.below HBA.out).waits).2.2 HKK.out.2.1 HKK.out.1 (OwnH.rowAt HW3.out.waits).2.1 HNL.out).mono ?_);rintro e w4 ⟨rfl,hR,hO⟩;rw [HN2.out];have HW4 := Aside0.mk ((HW3.out.below HBA.out).pop hR hO HKK.out.2.2 (OwnH.rowAt HW3.out.waits).2.1 HSS.out HRS.out);have HX4 := Aside0.mk ((hO.block wr.heap.size (blk_lt HBX.out) (fun e => by have := own_lt HW3.out.waits r rfl;omega)).trans HBX.out);clear hR hO c0 c1))
         go_ret
         have hs := HS.out.1
         obtain ⟨f2,rfl⟩ : ∃ z,f = z + 1 := ⟨f - 1,by have := HF1.out;omega⟩
         rw [walkL_late HSS.out HLATE.out] at hs
         rw [← hs]
         exact ⟨⟨v7,rfl,HV7.out⟩,HB7.out⟩
        | false =>
         go_wp2_with (first | (have := HW6;go_at_call 51;go_must (with_reducible refine ((HX.out.below HW6.out.at0).nb_ (by have := HM.out;omega) HNC.out HJC.out (all2_i _ _) (by have h1 := good_len HGOOD.out HNC.out HJC.out;have := HM.out;omega)).mono ?_);rintro e w8 ⟨⟨v8,rfl,hv⟩,hb⟩;have HN8 := Aside0.mk (NB.mk (hv.weaken HW6.out.at0.size) (fun k hk hs => by have h1 := own_base hv k hk;have h2 := HW6.out.best.lt k hs;omega) : NB w w8 S v8 (nbL s kc jc));have HW8 := Aside0.mk (HW6.out.below hb);obtain ⟨ao8,cp8,rfl, -, -⟩ := hv.C0;clear hv hb x0 x1 xlt) | (have := HW5;go_at_call 48;(with_reducible refine (less_bel wh.f0 wh.f1 dc kc _ HLT.out _).mono ?_);rintro e w6 ⟨rfl,hb⟩;have hbb := bel_trans (below_alloc (Below.refl w5.heap.size w5) (.cells #[.int .i64 wh.f0,.int .u32 wh.f1] 58)) hb;have HW6 := Aside0.mk (HW5.out.below hbb);have HX6 := Aside0.mk (blk_below HX5.out hbb);clear x0 x1 xlt;have x0 := (blk_cell HX6.out 0).trans rfl;have x1 := (blk_cell HX6.out 1).trans rfl;have xlt := blk_lt HX6.out;clear hb hbb) | (have := HW4;go_at_call 50;(with_reducible refine (kworst_calls S gb W K.best w4 HW4.out.best).mono ?_);rintro e w5 ⟨rfl,hb⟩;rw [HWH.out,HFU.out];have HW5 := Aside0.mk (HW4.out.below hb);have HX5 := Aside0.mk (blk_below HX4.out hb);have x0 := (blk_cell HX5.out 0).trans rfl;have x1 := (blk_cell HX5.out 1).trans rfl;have xlt := blk_lt HX5.out;clear hb) | (go_at_call 49;(with_reducible refine (delete_calls r cap k k1 m V _ (OwnH.rowAt (HW3.out.below HBA.out).waits).2.2 HKK.out.2.1 HKK.out.1 (OwnH.rowAt HW3.out.waits).2.1 HNL.out).mono ?_);rintro e w4 ⟨rfl,hR,hO⟩;rw [HN2.out];have HW4 := Aside0.mk ((HW3.out.below HBA.out).pop hR hO HKK.out.2.2 (OwnH.rowAt HW3.out.waits).2.1 HSS.out HRS.out);have HX4 := Aside0.mk ((hO.block wr.heap.size (blk_lt HBX.out) (fun e => by have := own_lt HW3.out.waits r rfl;omega)).trans HBX.out);clear hR hO c0 c1))
         obtain ⟨f2,hf2⟩ : ∃ z,f = z + 1 := ⟨f - 1,by have := HF1.out;omega⟩
         have HANS := Aside0.mk (show walkL s q jc W f2 ((nbL s kc jc).foldl (stepN s q jc W) ⟨K.met,rest,K.best⟩) = ANS by rw [fold_nb];have h1 := HS.out.1;rw [hf2,walkL_on HSS.out HLATE.out] at h1;exact h1)
         have HGAU := Aside0.mk (show gaugeW s ⟨K.met,rest,K.best⟩ ≤ f2 ∧ f2 ≤ go ∧ f2 ≤ s.l.length + 1 by have h1 := gauge_pop (s := s) HSS.out (b := K.best);have h2 := HS.out.2;have h3 := HF.out;omega)
         have HNT := Aside0.mk (nb_there HGOOD.out HTC.out)
         have HNLEN := Aside0.mk (nb_len HGOOD.out HNC.out HJC.out)
         generalize nbL s kc jc = N at HANS HNT HNLEN HN8 ⊢
         generalize (⟨K.met,rest,K.best⟩ : Wk) = K1 at HANS HGAU HK2 HW8
         generalize V.eraseIdx k = V1 at HW8
         clear hf2 HF HS HK HVL HNL HF1 HSS HRS HKK HN2 HW3 HBX HBA HW4 HX4 HW5 HX5 HNC HJC HTC HLT HWH HFU HLATE hwk hw1 hsl' q1 q1' q3 q4 HR HW6 HX6
         go_wp2
         go_loopg [13,108] N.length (fun gk v13 v108 wr => ∃ (i : Nat) (S : Nat → Prop) (V : List H) (K : Wk),v108 = .int .i64 i ∧ Aside0 (i ≤ N.length ∧ N.length - i ≤ gk) ∧ Aside0 (K = (N.take i).foldl (stepN s q jc W) K1) ∧ Aside0 (WM w wr gb mb W S v13 V K) ∧ Aside0 (NB w wr S (.slice ao8 N.length cp8) N))
         case atStart => exact ⟨0,S,V1,K1,rfl,⟨by omega⟩,⟨rfl⟩,HW8,HN8⟩
         case round =>
          clear HW8 HN8
          obtain ⟨i,S,V,K,rfl,HI,HKE,HW,HN⟩ := hrel
          have HK := Aside0.mk (show WOk s q jc K by rw [HKE.out];exact HK2.out.steps _)
          have HG := Aside0.mk (show gaugeW s K ≤ f2 by rw [HKE.out];exact Int.le_trans (gauge_steps _) HGAU.out.1)
          have HLEN := Aside0.mk (show V.length = K.waits.length ∧ V.length ≤ 200000 by have h1 := HW.out.vlen;have h2 := HG.out;have h3 := HK.out.met_len;have h4 := HGAU.out;have h5 := HM.out;unfold gaugeW at h2;omega)
          by_cases hi : i < N.length
          ·have q3 : (i : Int) < (N.length : Int) := by omega
           obtain ⟨ad8,rfl,c0⟩ := HN.out.own.cell hi
           obtain ⟨t,ht⟩ : ∃ z,N[i] = z := ⟨_,rfl⟩
           have HTT := Aside0.mk (HNT.out t (by rw [← ht];exact List.getElem_mem hi))
           have HFS := Aside0.mk (fold_snoc (s := s) (q := q) (lv := jc) (W := W) (k := K1) hi)
           rw [ht,← HKE.out] at HFS
           rw [ht] at c0
           obtain ⟨k,j2,n,hk1, -,hn, -⟩ := there_iff.1 HTT.out
           subst hk1
           have HKL := Aside0.mk ((List.getElem?_eq_some_iff.1 hn).1)
           have hwf : (Lit.int .i64 (k : Int)).wf = true := wf_at HKL.out (by have := HM.out;omega)
           have hin : wrap64 ((i : Int) + 1) = ((i + 1 : Nat) : Int) := by have := HNLEN.out;have := HM.out;unfold wrap64;omega
           have HII := Aside0.mk hi
           have hlook := HW.out.met.look hwf
           clear hn ht hi
           cases hc : K.met.contains (k : Int) with
           | true =>
            rw [hc] at hlook
            have HC := Aside0.mk hc
            clear hc
            go_wp2
            obtain ⟨gm,rfl⟩ : ∃ z,gk = z + 1 := ⟨gk - 1,by have := HI.out;have := HII.out;omega⟩
            go_roundg gm
            case measure => omega
            case rel => exact ⟨i + 1,S,V,K,by go_num,⟨by have := HI.out;have := HII.out;omega⟩,⟨by rw [HFS.out,step_met HC.out]⟩,HW,HN⟩
           | false =>
            rw [hc] at hlook
            have HC := Aside0.mk hc
            clear hc
            obtain ⟨wh2,hwh2⟩ : ∃ z,worstH K.best = z := ⟨_,rfl⟩
            have HWH := Aside0.mk hwh2
            obtain ⟨lt2,hlt2⟩ : ∃ z,ltH ⟨s.far q k,k⟩ ⟨wh2.f0,wh2.f1⟩ = z := ⟨_,rfl⟩
            have HLT := Aside0.mk hlt2
            clear hwh2 hlt2
            cases hfu : decide (K.best.length = W) with
            | false =>
             have HGD := Aside0.mk (show goodH W K.best (s.hit q k) = true by unfold goodH;rw [hfu];rfl)
             have HFU := Aside0.mk hfu
             clear hfu
             go_wp2_with (first | (have := HW6;go_at_call 47;(with_reducible refine (kput_calls S gb W K.best (s.far q k) k _ HW6.out.best).mono ?_);rintro e w8 ⟨rfl,hO,hK⟩;have HW8 := Aside0.mk (HW6.out.put hO hK);have HN8 := Aside0.mk (HN6.out.put hO);clear hO hK) | (have := HW4;at_builtin;go_must (refine app_Hat rfl _ _ rfl w.heap.size _ V [s.hit q k] ⟨(w4.alloc (.cells #[.int .i64 wh2.f0,.int .u32 wh2.f1] 58)).heap.size,0,none⟩ 1 1 rfl (by first | rfl | (rw [World.size_alloc];rfl)) rfl ((HW4.out.below (below_alloc (Below.refl _ _) (.cells #[.int .i64 wh2.f0,.int .u32 wh2.f1] 58))).waits.below (below_alloc (Below.refl _ _) _)) (lit_reads (w4.alloc (.cells #[.int .i64 wh2.f0,.int .u32 wh2.f1] 58)) [s.hit q k] 1 rfl (by omega)) (by have h2 := HLEN.out;simp only [List.length_cons,List.length_nil];omega) (by rw [World.size_alloc];have := (HW4.out.below (below_alloc (Below.refl _ _) (.cells #[.int .i64 wh2.f0,.int .u32 wh2.f1] 58))).at0.size;omega) ?_);intro v6 w6 hv hO hat;have HW6 := Aside0.mk ((HW4.out.below (below_alloc (Below.refl _ _) (.cells #[.int .i64 wh2.f0,.int .u32 wh2.f1] 58))).app (below_alloc (Below.refl _ _) _) hv hO hat);have HN6 := Aside0.mk (((HN4.out.below (below_alloc (Below.refl _ _) (.cells #[.int .i64 wh2.f0,.int .u32 wh2.f1] 58))).below (below_alloc (Below.refl _ _) _)).app ((HW4.out.below (below_alloc (Below.refl _ _) (.cells #[.int .i64 wh2.f0,.int .u32 wh2.f1] 58))).waits.below (below_alloc (Below.refl _ _) _)) hO);have HX6 := Aside0.mk ((hO.block w3.heap.size (blk_lt (blk_below (blk_below HX4.out (below_alloc (Below.refl _ _) (.cells #[.int .i64 wh2.f0,.int .u32 wh2.f1] 58))) (below_alloc (Below.refl _ _) _))) (fun e => by have h1 := own_lt HW3.out.waits _ e;omega)).trans (blk_below (blk_below HX4.out (below_alloc (Below.refl _ _) (.cells #[.int .i64 wh2.f0,.int .u32 wh2.f1] 58))) (below_alloc (Below.refl _ _) _)));clear hv hO hat x0 x1 xlt;have x0 := (blk_cell HX6.out 0).trans rfl;have x1 := (blk_cell HX6.out 1).trans rfl) | (have := HW3;go_at_call 50;(with_reducible refine (kworst_calls S gb W K.best _ (HW3.out.below (below_alloc (Below.refl _ _) (.cells #[.int .i64 (s.far q k),.int .u32 k] 58))).best).mono ?_);rintro e w4 ⟨rfl,hb⟩;rw [HWH.out,HFU.out];have hbb := bel_trans (below_alloc (Below.refl w3.heap.size w3) (.cells #[.int .i64 (s.far q k),.int .u32 k] 58)) hb;have HW4 := Aside0.mk (HW3.out.below hbb);have HN4 := Aside0.mk (HN3.out.below hbb);have HX4 := Aside0.mk (blk_below (heap_alloc_new w3 (.cells #[.int .i64 (s.far q k),.int .u32 k] 58)) hb);have x0 := (blk_cell HX4.out 0).trans rfl;have x1 := (blk_cell HX4.out 1).trans rfl;have xlt := blk_lt HX4.out;clear hb hbb) | (have := HW2;go_at_call 46;(with_reducible refine ((HX.out.below HW2.out.at0).hit_ HM.out.1 A c q (Kd.C_below HQ.out.1 HW2.out.at0) HQ.out.2 k HKL.out (by have := HM.out;omega)).mono ?_);rintro e w3 ⟨rfl,hb⟩;have HW3 := Aside0.mk (HW2.out.below hb);have HN3 := Aside0.mk (HN2.out.below hb);clear hb) | (at_mapUpdate;refine put_S rfl _ _ _ rfl mb K.met.length K.met rfl HW.out.met (by have := HK.out.met_len;have := HM.out;omega) k rfl rfl hwf ?_;intro w2 hm hO;have HW2 := Aside0.mk (HW.out.meet hO hm);have HN2 := Aside0.mk (HN.out.meet hO HW.out.met);clear hm hO hlook))
             obtain ⟨gm,rfl⟩ : ∃ z,gk = z + 1 := ⟨gk - 1,by have := HI.out;have := HII.out;omega⟩
             go_roundg gm
             case measure => omega
             case rel => exact ⟨i + 1,ext S w6 w8,V ++ [s.hit q k],⟨K.met ++ [(k : Int)],intoL K.waits (s.hit q k),putK W K.best (s.hit q k)⟩,by go_num,⟨by have := HI.out;have := HII.out;omega⟩,⟨by rw [HFS.out,step_good HC.out HTT.out HGD.out]⟩,HW8,HN8⟩
            | true =>
             have HGD := Aside0.mk (show goodH W K.best (s.hit q k) = lt2 by unfold goodH;rw [hfu,HWH.out];exact HLT.out)
             have HFU := Aside0.mk hfu
             clear hfu
             cases lt2 with
             | true =>
              go_wp2_with (first | (have := HW6;go_at_call 47;(with_reducible refine (kput_calls S gb W K.best (s.far q k) k _ HW6.out.best).mono ?_);rintro e w8 ⟨rfl,hO,hK⟩;have HW8 := Aside0.mk (HW6.out.put hO hK);have HN8 := Aside0.mk (HN6.out.put hO);clear hO hK) | (have := HW5;at_builtin;go_must (refine app_Hat rfl _ _ rfl w.heap.size _ V [s.hit q k] ⟨w5.heap.size,0,none⟩ 1 1 rfl (by first | rfl | (rw [World.size_alloc];rfl)) rfl (HW5.out.waits.below (below_alloc (Below.refl _ _) _)) (lit_reads w5 [s.hit q k] 1 rfl (by omega)) (by have h2 := HLEN.out;simp only [List.length_cons,List.length_nil];omega) (by rw [World.size_alloc];have := HW5.out.at0.size;omega) ?_);intro v6 w6 hv hO hat;have HW6 := Aside0.mk (HW5.out.app (below_alloc (Below.refl _ _) _) hv hO hat);have HN6 := Aside0.mk ((HN5.out.below (below_alloc (Below.refl _ _) _)).app (HW5.out.waits.below (below_alloc (Below.refl _ _) _)) hO);have HX6 := Aside0.mk ((hO.block w3.heap.size (blk_lt (blk_below HX5.out (below_alloc (Below.refl _ _) _))) (fun e => by have h1 := own_lt HW3.out.waits _ e;omega)).trans (blk_below HX5.out (below_alloc (Below.refl _ _) _)));clear hv hO hat x0 x1 xlt;have x0 := (blk_cell HX6.out 0).trans rfl;have x1 := (blk_cell HX6.out 1).trans rfl) | (have := HW4;go_at_call 48;(with_reducible refine (less_bel (s.far q k) k wh2.f0 wh2.f1 _ HLT.out _).mono ?_);rintro e w5 ⟨rfl,hb⟩;have hbb := bel_trans (below_alloc (Below.refl w4.heap.size w4) (.cells #[.int .i64 wh2.f0,.int .u32 wh2.f1] 58)) hb;have HW5 := Aside0.mk (HW4.out.below hbb);have HN5 := Aside0.mk (HN4.out.below hbb);have HX5 := Aside0.mk (blk_below HX4.out hbb);clear x0 x1 xlt;have x0 := (blk_cell HX5.out 0).trans rfl;have x1 := (blk_cell HX5.out 1).trans rfl;have xlt := blk_lt HX5.out;clear hb hbb) | (have := HW3;go_at_call 50;(with_reducible refine (kworst_calls S gb W K.best _ (HW3.out.below (below_alloc (Below.refl _ _) (.cells #[.int .i64 (s.far q k),.int .u32 k] 58))).best).mono ?_);rintro e w4 ⟨rfl,hb⟩;rw [HWH.out,HFU.out];have hbb := bel_trans (below_alloc (Below.refl w3.heap.size w3) (.cells #[.int .i64 (s.far q k),.int .u32 k] 58)) hb;have HW4 := Aside0.mk (HW3.out.below hbb);have HN4 := Aside0.mk (HN3.out.below hbb);have HX4 := Aside0.mk (blk_below (heap_alloc_new w3 (.cells #[.int .i64 (s.far q k),.int .u32 k] 58)) hb);have x0 := (blk_cell HX4.out 0).trans rfl;have x1 := (blk_cell HX4.out 1).trans rfl;have xlt := blk_lt HX4.out;clear hb hbb) | (have := HW2;go_at_call 46;(with_reducible refine ((HX.out.below HW2.out.at0).hit_ HM.out.1 A c q (Kd.C_below HQ.out.1 HW2.out.at0) HQ.out.2 k HKL.out (by have := HM.out;omega)).mono ?_);rintro e w3 ⟨rfl,hb⟩;have HW3 := Aside0.mk (HW2.out.below hb);have HN3 := Aside0.mk (HN2.out.below hb);clear hb) | (at_mapUpdate;refine put_S rfl _ _ _ rfl mb K.met.length K.met rfl HW.out.met (by have := HK.out.met_len;have := HM.out;omega) k rfl rfl hwf ?_;intro w2 hm hO;have HW2 := Aside0.mk (HW.out.meet hO hm);have HN2 := Aside0.mk (HN.out.meet hO HW.out.met);clear hm hO hlook))
              obtain ⟨gm,rfl⟩ : ∃ z,gk = z + 1 := ⟨gk - 1,by have := HI.out;have := HII.out;omega⟩
              go_roundg gm
              case measure => omega
              case rel => exact ⟨i + 1,ext S w6 w8,V ++ [s.hit q k],⟨K.met ++ [(k : Int)],intoL K.waits (s.hit q k),putK W K.best (s.hit q k)⟩,by go_num,⟨by have := HI.out;have := HII.out;omega⟩,⟨by rw [HFS.out,step_good HC.out HTT.out HGD.out]⟩,HW8,HN8⟩
             | false =>
              go_wp2_with (first | (have := HW4;go_at_call 48;(with_reducible refine (less_bel (s.far q k) k wh2.f0 wh2.f1 _ HLT.out _).mono ?_);rintro e w5 ⟨rfl,hb⟩;have hbb := bel_trans (below_alloc (Below.refl w4.heap.size w4) (.cells #[.int .i64 wh2.f0,.int .u32 wh2.f1] 58)) hb;have HW5 := Aside0.mk (HW4.out.below hbb);have HN5 := Aside0.mk (HN4.out.below hbb);have HX5 := Aside0.mk (blk_below HX4.out hbb);clear x0 x1 xlt;have x0 := (blk_cell HX5.out 0).trans rfl;have x1 := (blk_cell HX5.out 1).trans rfl;have xlt := blk_lt HX5.out;clear hb hbb) | (have := HW3;go_at_call 50;(with_reducible refine (kworst_calls S gb W K.best _ (HW3.out.below (below_alloc (Below.refl _ _) (.cells #[.int .i64 (s.far q k),.int .u32 k] 58))).best).mono ?_);rintro e w4 ⟨rfl,hb⟩;rw [HWH.out,HFU.out];have hbb := bel_trans (below_alloc (Below.refl w3.heap.size w3) (.cells #[.int .i64 (s.far q k),.int .u32 k] 58)) hb;have HW4 := Aside0.mk (HW3.out.below hbb);have HN4 := Aside0.mk (HN3.out.below hbb);have HX4 := Aside0.mk (blk_below (heap_alloc_new w3 (.cells #[.int .i64 (s.far q k),.int .u32 k] 58)) hb);have x0 := (blk_cell HX4.out 0).trans rfl;have x1 := (blk_cell HX4.out 1).trans rfl;have xlt := blk_lt HX4.out;clear hb hbb) | (have := HW2;go_at_call 46;(with_reducible refine ((HX.out.below HW2.out.at0).hit_ HM.out.1 A c q (Kd.C_below HQ.out.1 HW2.out.at0) HQ.out.2 k HKL.out (by have := HM.out;omega)).mono ?_);rintro e w3 ⟨rfl,hb⟩;have HW3 := Aside0.mk (HW2.out.below hb);have HN3 := Aside0.mk (HN2.out.below hb);clear hb) | (at_mapUpdate;refine put_S rfl _ _ _ rfl mb K.met.length K.met rfl HW.out.met (by have := HK.out.met_len;have := HM.out;omega) k rfl rfl hwf ?_;intro w2 hm hO;have HW2 := Aside0.mk (HW.out.meet hO hm);have HN2 := Aside0.mk (HN.out.meet hO HW.out.met);clear hm hO hlook))
              obtain ⟨gm,rfl⟩ : ∃ z,gk = z + 1 := ⟨gk - 1,by have := HI.out;have := HII.out;omega⟩
              go_roundg gm
              case measure => omega
              case rel => exact ⟨i + 1,S,V,⟨K.met ++ [(k : Int)],K.waits,K.best⟩,by go_num,⟨by have := HI.out;have := HII.out;omega⟩,⟨by rw [HFS.out,step_bad HC.out HTT.out HGD.out]⟩,HW5,HN5⟩
          ·have q3 : decide ((i : Int) < (N.length : Int)) = false := decide_eq_false (by omega)
           have q4 : decide (i < N.length) = false := decide_eq_false hi
           have hie : i = N.length := by have := HI.out;omega
           rw [hie,List.take_length] at HKE
           clear hi hie
           go_wp2
           go_roundg go
           case measure => omega
           case rel => exact ⟨f2,S,V,K,⟨by have := HGAU.out;omega⟩,⟨by rw [HKE.out];exact HANS.out,HG.out,HGAU.out.2.2⟩,HK,HW⟩
end
end Go.Proofs.Ytofmlajanopniaa.Li
namespace Go.Proofs.Ytofmlajanopniaa.Li
open Go.RowKit Go.Maps Go.Proofs.YtofmlajanopniaaW.PrintWords Go.Proofs.YtofmlajanopniaaW.PrintLast Go.Proofs.YtofmlajanopniaaW.PrintMore Go.Proofs.Ytofmlajanopniaa.Q Go.Proofs.Ytofmlajanopniaa.Tk
theorem succ_wrap {i n : Nat} (h : i < n) (hn : n ≤ 1000000) : wrap64 ((i : Int) + 1) = ((i + 1 : Nat) : Int) := by unfold wrap64;omega
abbrev It := S26
/-! ### Whole numbers;nodes -/
/-! ### Small -/
theorem mn_le (a b : Int) (ha : 0 ≤ a) (hb : 0 ≤ b) : 0 ≤ mn a b ∧ mn a b ≤ b := by unfold mn;split <;> omega
theorem mn_lt {a b : Int} (h : mn a b < b) : a < b := by unfold mn at h;split at h <;> omega
theorem great3_l0 (l : List ByteArray) : ∀ (m : Nat) (n : Int) (i : Nat),20001 < m + i → i ≤ 20000 → (i : Int) ≤ n → n ≤ 50000 → ∃ r,lodestarref03_Great.l0 m l n (i : Int) = some r ∧ (r = false → l.length ≤ 300) := by
 intro m
 induction m with
 | zero =>
  intro n i h1 h0 h2 h3
  omega
 | succ m ih =>
  intro n i h1 h0 h2 h3
  have hend : ∃ r,(if n ≥ 20000 then (some true) else (some (decide ((l.length : Int) > 300)))) = some r ∧ (r = false → l.length ≤ 300) := by
   by_cases h : n ≥ 20000
   ·exact ⟨true,by rw [if_pos h],fun e => by cases e⟩
   ·refine ⟨decide ((l.length : Int) > 300),by rw [if_neg h],fun e => ?_⟩
    rw [decide_eq_false_iff_not] at e
    omega
  simp only [lodestarref03_Great.l0]
  by_cases hc : (i : Int) < (l.length : Int)
  ·rw [if_pos hc]
   by_cases hn : n < 20000
   ·rw [if_pos hn,if_pos (by omega)]
    have hs := mn_le ((rdOf ByteArray.empty l (i : Int)).size : Int) 20000 (by omega) (by omega)
    have e1 : wrap64 (n + 1) = n + 1 := by unfold wrap64;omega
    have e2 : wrap64 (n + 1 + mn ((rdOf ByteArray.empty l (i : Int)).size : Int) 20000) = n + 1 + mn ((rdOf ByteArray.empty l (i : Int)).size : Int) 20000 := by unfold wrap64;omega
    have e3 : wrap64 ((i : Int) + 1) = ((i + 1 : Nat) : Int) := by unfold wrap64;omega
    rw [e1,e2,e3]
    exact ih _ (i + 1) (by omega) (by omega) (by omega) (by omega)
   ·rw [if_neg hn]
    exact hend
  ·rw [if_neg hc]
   exact hend
theorem great3_f (l : List ByteArray) {m : Nat} (hm : 20001 < m) : ∃ r,lodestarref03_Great.f m l = some r ∧ (r = false → l.length ≤ 300) := great3_l0 l m 0 0 (by omega) (by omega) (by omega) (by omega)
theorem small_f (id : Int) (vec : List Int) (tags : List ByteArray) : ∃ r,lodestarref08_Small.f 30000 id vec tags = some r ∧ (r = true → vec.length ≤ 100000 ∧ tags.length ≤ 100000) := by
 obtain ⟨r0,h0,h1⟩ := great3_f tags (m := 29998) (by omega)
 have hs := mn_le (vec.length : Int) 50000 (by omega) (by omega)
 have e1 : wrap64 ((0 : Int) + 1) = 1 := by unfold wrap64;omega
 have e2 : wrap64 (1 + mn (vec.length : Int) 50000) = 1 + mn (vec.length : Int) 50000 := by unfold wrap64;omega
 have hj0 : ∀ (x : S26) (n : Int) (k : Nat),lodestarref06_GreatChanges.l0 (k + 2) [⟨false,x⟩] n 1 = some (decide (n ≥ 50000)) := by
  intro x n k
  simp only [lodestarref06_GreatChanges.l0,lodestarref06_GreatChanges.j1,List.length_singleton]
  rw [if_neg (by omega)]
  simp
 have hg : lodestarref06_GreatChanges.f 30000 [⟨false,⟨id,vec,tags⟩⟩] = some (r0 || decide (1 + mn (vec.length : Int) 50000 ≥ 50000)) := by
  show lodestarref06_GreatChanges.l0 (29999 + 1) [⟨false,⟨id,vec,tags⟩⟩] 0 0 = _
  simp only [lodestarref06_GreatChanges.l0,List.length_singleton]
  rw [if_pos (by omega)]
  show lodestarref06_GreatChanges.j1 (29998 + 1) [⟨false,⟨id,vec,tags⟩⟩] 0 0 true = _
  simp only [lodestarref06_GreatChanges.j1,List.length_singleton]
  rw [if_pos trivial,if_pos (by omega),if_pos (by omega)]
  show (lodestarref03_Great.f 29998 tags).bind _ = _
  rw [h0]
  simp only [Option.bind_some]
  cases r0 with
  | true => rfl
  | false =>
   rw [if_neg (by simp),e1]
   show lodestarref06_GreatChanges.l0 (29996 + 2) [⟨false,⟨id,vec,tags⟩⟩] (wrap64 (1 + mn (vec.length : Int) 50000)) 1 = _
   rw [e2,hj0]
   rfl
 refine ⟨!(r0 || decide (1 + mn (vec.length : Int) 50000 ≥ 50000)), ?_,fun e => ?_⟩
 ·unfold lodestarref08_Small.f
  rw [hg]
  rfl
 ·rw [Bool.not_eq_true',Bool.or_eq_false_iff,decide_eq_false_iff_not] at e
  have h2 := h1 e.1
  have h3 := mn_lt (a := (vec.length : Int)) (b := 50000) (by omega)
  exact ⟨by omega,by omega⟩
theorem small_calls (id : Int) (vec : List Int) (tags : List ByteArray) (A1 : Option Addr) (c1 : Nat) (A2 : Option Addr) (c2 : Nat) (w : World) (l1 : vec.length ≤ c1) (h1 : Kd.C (Kd.int .i32) w A1 vec.length vec) (l2 : tags.length ≤ c2) (h2 : Kd.C Kd.string w A2 tags.length tags) :
  Calls Try.prog 11 #[.agg #[.int .u32 id,.slice A1 vec.length c1,.slice A2 tags.length c2]] w fun e w' => (∃ r,e = .returned (.bool r) ∧ (r = true → vec.length ≤ 100000 ∧ tags.length ≤ 100000)) ∧ Below w.heap.size w w' := by
 obtain ⟨r,h,hr⟩ := small_f id vec tags
 exact (lodestarref08_Small.calls 30000 id (fun k => k < w.heap.size) A1 c1 vec (fun k => k < w.heap.size) A2 c2 tags r w ⟨A1,c1,rfl,l1,Kd.C_F (Kd.heap_int _) h1⟩ ⟨A2,c2,rfl,l2,Kd.C_F Kd.heap_string h2⟩ h).mono fun e w' ⟨he,hb⟩ => ⟨⟨r,he,hr⟩,hb⟩
end Go.Proofs.Ytofmlajanopniaa.Li
namespace Go.Proofs.Ytofmlajanopniaa.Li
open Go.RowKit Go.Maps Go.Proofs.YtofmlajanopniaaW.PrintWords Go.Proofs.YtofmlajanopniaaW.PrintLast Go.Proofs.YtofmlajanopniaaW.PrintMore Go.Proofs.Ytofmlajanopniaa.Q Go.Proofs.Ytofmlajanopniaa.Tk
theorem cells_item : Try.prog.cellsOf 26 = 3 := by kernel_rfl
theorem cells_i32 : Try.prog.cellsOf 21 = 1 := by kernel_rfl
theorem cells_str : Try.prog.cellsOf 9 = 1 := by kernel_rfl
theorem cells_vec : Try.prog.cellsOf 23 = 1 := by kernel_rfl
theorem cells_tags : Try.prog.cellsOf 24 = 1 := by kernel_rfl
theorem cells_u8 : Try.prog.cellsOf 5 = 1 := by kernel_rfl
theorem cells_u32 : Try.prog.cellsOf 22 = 1 := by kernel_rfl
abbrev kvec : Kd (List Int) := Kd.slice 21 (Kd.int .i32)
abbrev ktags : Kd (List ByteArray) := Kd.slice 9 Kd.string
abbrev okVec (l : List Int) : Prop := l.length ≤ maxLen ∧ ∀ x ∈ l,(Lit.int .i32 x).wf = true
abbrev okTags (l : List ByteArray) : Prop := l.length ≤ maxLen ∧ ∀ x ∈ l,x.size ≤ maxLen
theorem opens_vec : Frame.Opens Try.prog 23 kvec okVec := Frame.Opens.slice Try.underlying23 cells_i32 (Frame.Opens.int Try.underlying21)
theorem opens_tags : Frame.Opens Try.prog 24 ktags okTags := Frame.Opens.slice Try.underlying24 cells_str (Frame.Opens.string Try.underlying9)
abbrev ItT := Int × List Int × List ByteArray
abbrev kitem : Kd ItT := Kd.pair (Kd.int .u32) (Kd.pair kvec ktags)
abbrev okItem (x : ItT) : Prop := (Lit.int .u32 x.1).wf = true ∧ okVec x.2.1 ∧ okTags x.2.2
set_option maxRecDepth 100000 in
theorem opens_item : Frame.Opens Try.prog 26 kitem okItem :=
 Frame.Opens.struct Try.underlying26 cells_item (Frame.OpensFrom.cons (by rfl) (by rfl) cells_u32 (Frame.Opens.int Try.underlying22) (Frame.OpensFrom.cons (by rfl) (by rfl) cells_vec opens_vec (Frame.OpensFrom.last (by rfl) (by rfl) cells_tags opens_tags)))
theorem cells_int : Try.prog.cellsOf 3 = 1 := by kernel_rfl
abbrev kints : Kd (List Int) := Kd.slice 3 (Kd.int .i64)
abbrev OpL := Int × ItT × Int × Int × Int × Int × List Int
abbrev okI (x : Int) : Prop := (Lit.int .i64 x).wf = true
theorem slice_of {α : Type} {e : Nat} {d : Kd α} {v : Value} {x : List α} {w : World} (s : v = .slice none 0 0 ∨ ∃ a n c,v = .slice (some a) n c) (K : (Kd.slice e d).K w x v.cells.toList) :
  ∃ A c,v = .slice A x.length c ∧ x.length ≤ c ∧ Kd.C d w A x.length x := by
 obtain ⟨A,c,he,hle,hC⟩ := K
 refine ⟨A,c, ?_,hle,hC⟩
 rcases s with rfl | ⟨a,n,cc,rfl⟩
 ·simpa [Value.cells] using he
 ·simpa [Value.cells] using he
structure OpLAt (w : World) (ad : Addr) (x : OpL) (i : Nat) (A1 : Option Addr) (c1 : Nat) (A2 : Option Addr) (c2 : Nat) (A3 : Option Addr) (c3 : Nat) : Prop where
 y0 : w.cell? (ad.add (i * 9)) = some (.int .u8 x.1)
 y1 : w.cell? ⟨(ad.add (i * 9)).block,(ad.add (i * 9)).off + 1,none⟩ = some (.int .u32 x.2.1.1)
 y2 : w.cell? ⟨(ad.add (i * 9)).block,(ad.add (i * 9)).off + 1 + 1,none⟩ = some (.slice A1 x.2.1.2.1.length c1)
 y3 : w.cell? ⟨(ad.add (i * 9)).block,(ad.add (i * 9)).off + 1 + 2,none⟩ = some (.slice A2 x.2.1.2.2.length c2)
 y4 : w.cell? ⟨(ad.add (i * 9)).block,(ad.add (i * 9)).off + 4,none⟩ = some (.int .i64 x.2.2.1)
 y5 : w.cell? ⟨(ad.add (i * 9)).block,(ad.add (i * 9)).off + 5,none⟩ = some (.int .i64 x.2.2.2.1)
 y6 : w.cell? ⟨(ad.add (i * 9)).block,(ad.add (i * 9)).off + 6,none⟩ = some (.int .i64 x.2.2.2.2.1)
 y7 : w.cell? ⟨(ad.add (i * 9)).block,(ad.add (i * 9)).off + 7,none⟩ = some (.int .i64 x.2.2.2.2.2.1)
 y8 : w.cell? ⟨(ad.add (i * 9)).block,(ad.add (i * 9)).off + 8,none⟩ = some (.slice A3 x.2.2.2.2.2.2.length c3)
 fit1 : x.2.1.2.1.length ≤ c1
 vec : Kd.C (Kd.int .i32) w A1 x.2.1.2.1.length x.2.1.2.1
 fit2 : x.2.1.2.2.length ≤ c2
 tags : Kd.C Kd.string w A2 x.2.1.2.2.length x.2.1.2.2
 fit3 : x.2.2.2.2.2.2.length ≤ c3
 l : Kd.C (Kd.int .i64) w A3 x.2.2.2.2.2.2.length x.2.2.2.2.2.2
theorem OpLAt.below {w w1 : World} {ad : Addr} {x : OpL} {i : Nat} {A1 : Option Addr} {c1 : Nat} {A2 : Option Addr} {c2 : Nat} {A3 : Option Addr} {c3 : Nat} (h : OpLAt w ad x i A1 c1 A2 c2 A3 c3) (hb : Below w.heap.size w w1) : OpLAt w1 ad x i A1 c1 A2 c2 A3 c3 :=
 ⟨pw_cell_below hb h.y0,pw_cell_below hb h.y1,pw_cell_below hb h.y2,pw_cell_below hb h.y3,pw_cell_below hb h.y4,pw_cell_below hb h.y5,pw_cell_below hb h.y6,pw_cell_below hb h.y7,pw_cell_below hb h.y8,h.fit1,Kd.C_below h.vec hb,h.fit2,Kd.C_below h.tags hb,h.fit3,Kd.C_below h.l hb⟩
end Go.Proofs.Ytofmlajanopniaa.Li
namespace Go.Proofs.Ytofmlajanopniaa.Fl
open Go.RowKit Go.Shelf Go.Proofs.YtofmlajanopniaaW.PrintWords Go.Proofs.YtofmlajanopniaaW.PrintLast Go.Proofs.YtofmlajanopniaaW.PrintMore Go.Proofs.Ytofmlajanopniaa.Tk Go.Proofs.Ytofmlajanopniaa.Q Go.Proofs.Ytofmlajanopniaa.E
attribute [local go_sem] Oper.semAt_some
abbrev It := S26
structure Ask where
 m : Int
 q : List Int
 f0 : List ByteArray
 f1 : List ByteArray
 f2 : List ByteArray
def Ask.dist (a : Ask) (x : It) : Int × Bool := Fl.dist a.m a.q x.f1
def Ask.hit (a : Ask) (x : It) : H := ⟨(a.dist x).1,x.f0⟩
def Ask.wants (a : Ask) (x : It) : Bool := (a.dist x).2 && matchB a.f0 a.f1 a.f2 x.f2
def Ask.hits (a : Ask) (l : List It) : List H := (l.filter a.wants).map a.hit
structure Where where
 A1 : Option Addr
 c1 : Nat
 A2 : Option Addr
 c2 : Nat
 F0 : Option Addr
 d0 : Nat
 F1 : Option Addr
 d1 : Nat
 F2 : Option Addr
 d2 : Nat
structure Lies (w : World) (p : Where) (a : Ask) (l : List It) : Prop where
 k1 : Kd.C k26 w p.A1 l.length l
 h1 : l.length ≤ p.c1
 k2 : Kd.C (Kd.int .i32) w p.A2 a.q.length a.q
 h2 : a.q.length ≤ p.c2
 g0 : Kd.C Kd.string w p.F0 a.f0.length a.f0
 b0 : a.f0.length ≤ p.d0
 g1 : Kd.C Kd.string w p.F1 a.f1.length a.f1
 b1 : a.f1.length ≤ p.d1
 g2 : Kd.C Kd.string w p.F2 a.f2.length a.f2
 b2 : a.f2.length ≤ p.d2
abbrev Where.vf (p : Where) (a : Ask) : Value := .agg #[.slice p.F0 a.f0.length p.d0,.slice p.F1 a.f1.length p.d1,.slice p.F2 a.f2.length p.d2]
structure Fine (a : Ask) (l : List It) : Prop where
 m0 : 0 ≤ a.m
 m1 : a.m ≤ 255
 f0 : a.f0.length ≤ 100000
 f1 : a.f1.length ≤ 100000
 f2 : a.f2.length ≤ 100000
 n : l.length ≤ 300
 x : ∀ x ∈ l,x.f1.length ≤ 100000 ∧ x.f2.length ≤ 100000
section
variable {w w1 : World} {p : Where} {a : Ask} {l : List It}
theorem Lies.below (h : Lies w p a l) (hb : Below w.heap.size w w1) : Lies w1 p a l :=
 ⟨Kd.C_below h.k1 hb,h.h1,Kd.C_below h.k2 hb,h.h2,Kd.C_below h.g0 hb,h.b0,Kd.C_below h.g1 hb,h.b1,Kd.C_below h.g2 hb,h.b2⟩
theorem Lies.at (h : Lies w p a l) {i : Nat} (hi : i < l.length) : ∃ ad A1 c1 A2 c2 x,p.A1 = some ad ∧ l[i]? = some x ∧ w.cell? (ad.add (i * 3)) = some (.int .u32 x.f0) ∧ w.cell? ⟨(ad.add (i * 3)).block,(ad.add (i * 3)).off + 1,none⟩ = some (.slice A1 x.f1.length c1) ∧
  w.cell? ⟨(ad.add (i * 3)).block,(ad.add (i * 3)).off + 2,none⟩ = some (.slice A2 x.f2.length c2) ∧ x.f1.length ≤ c1 ∧ Kd.C (Kd.int .i32) w A1 x.f1.length x.f1 ∧ x.f2.length ≤ c2 ∧ Kd.C Kd.string w A2 x.f2.length x.f2 := by
 obtain ⟨ad,A1,c1,A2,c2,e,x0,x1,x2,l1,g1,l2,g2⟩ := at_T26 h.k1 (i : Int) (by omega) (by omega)
 have hr : rd_T26 l (i : Int) = l[i] := by simp [rd_T26,List.getD_eq_getElem?_getD,hi]
 rw [hr] at x0 x1 x2 l1 g1 l2 g2
 exact ⟨ad,A1,c1,A2,c2,l[i],e,List.getElem?_eq_getElem hi,x0,x1,x2,l1,g1,l2,g2⟩
end
structure Boxed4 (w : World) (b : Nat) (p : Where) (a : Ask) (l : List It) : Prop where
 m : w.cell? ⟨b,0,none⟩ = some (.int .u8 a.m)
 l : w.cell? ⟨b + 1,0,none⟩ = some (.slice p.A1 l.length p.c1)
 q : w.cell? ⟨b + 2,0,none⟩ = some (.slice p.A2 a.q.length p.c2)
 f0 : w.cell? ⟨b + 3,0,none⟩ = some (.slice p.F0 a.f0.length p.d0)
 f1 : w.cell? ⟨b + 3,1,none⟩ = some (.slice p.F1 a.f1.length p.d1)
 f2 : w.cell? ⟨b + 3,2,none⟩ = some (.slice p.F2 a.f2.length p.d2)
def notBox (n b : Nat) (k : Nat) : Prop := n ≤ k ∧ ¬ (b ≤ k ∧ k < b + 4)
theorem cell_only {S : Nat → Prop} {w w1 : World} {A : Addr} {v : Value} (h : Only S w w1) (hc : w.cell? A = some v) (hs : ¬ S A.block) : w1.cell? A = some v := by
 obtain ⟨o,ho,_⟩ := cells_of_cell hc
 have hb := h.block A.block (Array.getElem?_eq_some_iff.1 ho).1 hs
 rw [← hc]
 simp only [World.cell?,hb]
theorem Boxed4.only {w w1 : World} {n b : Nat} {p : Where} {a : Ask} {l : List It} (h : Boxed4 w b p a l) (hO : Only (notBox n b) w w1) : Boxed4 w1 b p a l := by
 have hs : ∀ i,i < 4 → ¬ notBox n b (b + i) := fun i hi hn => hn.2 (by omega)
 exact ⟨cell_only hO h.m (hs 0 (by omega)),cell_only hO h.l (hs 1 (by omega)),cell_only hO h.q (hs 2 (by omega)),cell_only hO h.f0 (hs 3 (by omega)),cell_only hO h.f1 (hs 3 (by omega)),cell_only hO h.f2 (hs 3 (by omega))⟩
end Go.Proofs.Ytofmlajanopniaa.Fl
namespace Go.Proofs.Ytofmlajanopniaa.Fl
open Go.RowKit Go.Proofs.YtofmlajanopniaaW.PrintWords Go.Proofs.YtofmlajanopniaaW.PrintLast Go.Proofs.YtofmlajanopniaaW.PrintMore Go.Proofs.Ytofmlajanopniaa.Tk Go.Proofs.Ytofmlajanopniaa.Q
theorem succ_wrap {i n : Nat} (h : i < n) (hn : n ≤ 1000000000000) : wrap64 ((i : Int) + 1) = ((i + 1 : Nat) : Int) := by rw [Tk.wrap_small (by omega) (by omega)];omega
/-! ### great -/
theorem mn_nat (x : Nat) : 0 ≤ mn (x : Int) 20000 ∧ mn (x : Int) 20000 ≤ 20000 ∧ (mn (x : Int) 20000 < 20000 → (x : Int) = mn (x : Int) 20000) := by unfold mn;omega
theorem tgreat_l0 (l : List ByteArray) : ∀ (m i : Nat) (n : Int),20001 - i < m → (i : Int) ≤ n → n ≤ 60000 → ∃ r,(∀ m',m ≤ m' → lodestarref03_Great.l0 m' l n (i : Int) = some r) ∧ (r = false → l.length ≤ 300) := by
 intro m
 induction m with
 | zero => intro i n h0;omega
 | succ m ih =>
  intro i n h0 hi hn
  by_cases hc : i < l.length
  ·by_cases h2 : n < 20000
   ·obtain ⟨b0,b1,_⟩ := mn_nat (rdOf ByteArray.empty l (i : Int)).size
    have e1 : wrap64 (n + 1) = n + 1 := Tk.wrap_small (by omega) (by omega)
    have e2 : wrap64 (n + 1 + mn ((rdOf ByteArray.empty l (i : Int)).size : Int) 20000) = n + 1 + mn ((rdOf ByteArray.empty l (i : Int)).size : Int) 20000 := Tk.wrap_small (by omega) (by omega)
    have e3 : wrap64 ((i : Int) + 1) = ((i + 1 : Nat) : Int) := succ_wrap (n := 20000) (by omega) (by omega)
    obtain ⟨r,hr,hf⟩ := ih (i + 1) (n + 1 + mn ((rdOf ByteArray.empty l (i : Int)).size : Int) 20000) (by omega) (by omega) (by omega)
    refine ⟨r,fun m' hm' => ?_,hf⟩
    obtain ⟨k,rfl⟩ : ∃ k,m' = k + 1 := ⟨m' - 1,by omega⟩
    simp only [lodestarref03_Great.l0]
    rw [if_pos (by omega),if_pos h2,if_pos (by omega),e1,e2,e3]
    exact hr k (by omega)
   ·refine ⟨true,fun m' hm' => ?_,fun h => by cases h⟩
    obtain ⟨k,rfl⟩ : ∃ k,m' = k + 1 := ⟨m' - 1,by omega⟩
    simp only [lodestarref03_Great.l0]
    rw [if_pos (by omega),if_neg h2,if_pos (by omega)]
  ·by_cases h2 : n ≥ 20000
   ·refine ⟨true,fun m' hm' => ?_,fun h => by cases h⟩
    obtain ⟨k,rfl⟩ : ∃ k,m' = k + 1 := ⟨m' - 1,by omega⟩
    simp only [lodestarref03_Great.l0]
    rw [if_neg (by omega),if_pos h2]
   ·refine ⟨decide ((l.length : Int) > 300),fun m' hm' => ?_,fun h => by have := of_decide_eq_false h;omega⟩
    obtain ⟨k,rfl⟩ : ∃ k,m' = k + 1 := ⟨m' - 1,by omega⟩
    simp only [lodestarref03_Great.l0]
    rw [if_neg (by omega),if_neg h2]
theorem tgreat_f (l : List ByteArray) : ∃ r,(∀ m,30000 ≤ m → lodestarref03_Great.f m l = some r) ∧ (r = false → l.length ≤ 300) := by
 obtain ⟨r,h1,h2⟩ := tgreat_l0 l 30000 0 0 (by omega) (by omega) (by omega)
 exact ⟨r,fun m hm => by unfold lodestarref03_Great.f;exact h1 m hm,h2⟩
theorem rdI_get {l : List It} {i : Nat} (h : i < l.length) : rd_T26 l (i : Int) = l[i] := by simp [rd_T26,List.getD_eq_getElem?_getD,List.getElem?_eq_getElem h]
theorem great_l0 (l : List It) (f0 f1 f2 : List ByteArray) : ∀ (m i : Nat) (n : Int),2 * (20001 - i) + 30002 < m → (i : Int) ≤ n → n ≤ 60000 → i ≤ l.length → (∀ x ∈ l.take i,x.f2.length ≤ 300 ∧ mn (x.f1.length : Int) 20000 ≤ n) →
  ∃ r,(∀ m',m ≤ m' → lodestarref10_Great.l0 m' l n (i : Int) f0 f1 f2 = some r) ∧ (r = false → l.length ≤ 300 ∧ f0.length ≤ 300 ∧ f1.length ≤ 300 ∧ f2.length ≤ 300 ∧ ∀ x ∈ l,x.f1.length < 20000 ∧ x.f2.length ≤ 300) := by
 intro m
 induction m using Nat.strongRecOn with
 | _ m ih =>
  intro i n h0 hi hn hil hx
  obtain ⟨k,rfl⟩ : ∃ k,m = k + 2 := ⟨m - 2,by omega⟩
  by_cases hc : i < l.length ∧ n < 20000
  ·obtain ⟨hc,h2⟩ := hc
   obtain ⟨rg,hg,hgf⟩ := tgreat_f (rd_T26 l (i : Int)).f2
   have step : ∀ m',k + 2 ≤ m' → ∃ j,m' = j + 2 ∧ lodestarref10_Great.l0 m' l n (i : Int) f0 f1 f2 = (if rg = true then some true else lodestarref10_Great.l0 j l (wrap64 ((wrap64 (n + 1)) + (mn (((rd_T26 l (i : Int)).f1).length : Int) 20000))) (wrap64 ((i : Int) + 1)) f0 f1 f2) := by
    intro m' hm'
    obtain ⟨j,rfl⟩ : ∃ j,m' = j + 2 := ⟨m' - 2,by omega⟩
    refine ⟨j,rfl, ?_⟩
    simp only [lodestarref10_Great.l0,lodestarref10_Great.j1]
    rw [if_pos (by omega),decide_eq_true h2,if_pos rfl,if_pos (by omega),if_pos (by omega),hg j (by omega)]
    rfl
   cases rg with
   | true =>
    refine ⟨true,fun m' hm' => ?_,fun h => by cases h⟩
    obtain ⟨j,_,e⟩ := step m' hm'
    rw [e,if_pos rfl]
   | false =>
    obtain ⟨b0,b1,b2⟩ := mn_nat ((rd_T26 l (i : Int)).f1).length
    have e1 : wrap64 (n + 1) = n + 1 := Tk.wrap_small (by omega) (by omega)
    have e2 : wrap64 (n + 1 + mn (((rd_T26 l (i : Int)).f1).length : Int) 20000) = n + 1 + mn (((rd_T26 l (i : Int)).f1).length : Int) 20000 := Tk.wrap_small (by omega) (by omega)
    have e3 : wrap64 ((i : Int) + 1) = ((i + 1 : Nat) : Int) := succ_wrap (n := 20000) (by omega) (by omega)
    obtain ⟨r,hr,hf⟩ := ih k (by omega) (i + 1) (n + 1 + mn (((rd_T26 l (i : Int)).f1).length : Int) 20000) (by omega) (by omega) (by omega) (by omega) (fun x hxm => by
     rw [List.take_succ_eq_append_getElem hc] at hxm
     rcases List.mem_append.1 hxm with hxm | hxm
     ·have := hx x hxm;exact ⟨this.1,by omega⟩
     ·rw [List.mem_singleton] at hxm
      subst hxm
      have := hgf rfl
      rw [rdI_get hc] at this b0 b1 ⊢
      exact ⟨this,by omega⟩)
    refine ⟨r,fun m' hm' => ?_,hf⟩
    obtain ⟨j,hj,e⟩ := step m' hm'
    rw [e,if_neg (by simp),e1,e2,e3]
    exact hr j (by omega)
  ·obtain ⟨r0,g0,q0⟩ := tgreat_f f0
   obtain ⟨r1,g1,q1⟩ := tgreat_f f1
   obtain ⟨r2,g2,q2⟩ := tgreat_f f2
   refine ⟨if n ≥ 20000 then true else if (l.length : Int) > 300 then true else (r0 || r1 || r2),fun m' hm' => ?_,fun h => ?_⟩
   ·obtain ⟨j,rfl⟩ : ∃ j,m' = j + 2 := ⟨m' - 2,by omega⟩
    have e : lodestarref10_Great.l0 (j + 2) l n (i : Int) f0 f1 f2 = lodestarref10_Great.j1 (j + 1) l n (i : Int) false f0 f1 f2 := by
     simp only [lodestarref10_Great.l0]
     by_cases hi2 : i < l.length
     ·rw [if_pos (by omega),decide_eq_false (by omega)]
     ·rw [if_neg (by omega)]
    rw [e]
    simp only [lodestarref10_Great.j1]
    rw [if_neg (by simp),g0 j (by omega),g1 j (by omega),g2 j (by omega)]
    by_cases h2 : n ≥ 20000
    ·rw [if_pos h2,if_pos h2]
    ·rw [if_neg h2,if_neg h2]
     by_cases h3 : (l.length : Int) > 300
     ·rw [if_pos h3,if_pos h3]
     ·rw [if_neg h3,if_neg h3]
      cases r0 <;> cases r1 <;> cases r2 <;> rfl
   ·by_cases h2 : n ≥ 20000
    ·rw [if_pos h2] at h;cases h
    ·rw [if_neg h2] at h
     by_cases h3 : (l.length : Int) > 300
     ·rw [if_pos h3] at h;cases h
     ·rw [if_neg h3] at h
      have hii : i = l.length := by omega
      subst hii
      rw [List.take_length] at hx
      cases r0 <;> cases r1 <;> cases r2 <;> first | (cases h;done) | skip
      exact ⟨by omega,q0 rfl,q1 rfl,q2 rfl,fun x hxm => by
       obtain ⟨u1,u2⟩ := hx x hxm
       obtain ⟨b0,b1,b2⟩ := mn_nat x.f1.length
       have := b2 (by omega)
       exact ⟨by omega,u1⟩⟩
theorem great_f (l : List It) (f0 f1 f2 : List ByteArray) : ∃ r,lodestarref10_Great.f 100000 l f0 f1 f2 = some r ∧ (r = false → l.length ≤ 300 ∧ f0.length ≤ 300 ∧ f1.length ≤ 300 ∧ f2.length ≤ 300 ∧ ∀ x ∈ l,x.f1.length < 20000 ∧ x.f2.length ≤ 300) := by
 obtain ⟨r,h1,h2⟩ := great_l0 l f0 f1 f2 100000 0 0 (by omega) (by omega) (by omega) (by omega) (fun x hx => by simp at hx)
 exact ⟨r,by unfold lodestarref10_Great.f;exact h1 100000 (Nat.le_refl _),h2⟩
/-! ### rank,behind -/
end Go.Proofs.Ytofmlajanopniaa.Fl
namespace Go.Proofs.Ytofmlajanopniaa.Li
open Go.RowKit Go.Proofs.YtofmlajanopniaaW.PrintWords Go.Proofs.Ytofmlajanopniaa.Q Go.Proofs.Ytofmlajanopniaa.Tk
structure Ix where
 g : Gr
 lk : Int
 wd : Int
 en : Int
def mostX (lk lv : Int) : Int := if lv = 0 then 2 * lk else lk
def topG (s : Gr) (e : Int) : Int := ((s.lk e).length : Int) - 1
def stepDown (s : Gr) (q : List Int) (a lv : Int) : Int := match walkG s q [a] 1 lv with
 | [] => a
 | h :: _ => h.f1
def downL (s : Gr) (q : List Int) (lv : Int) : Nat → Int → Int
 | 0,a => a
 | n + 1,a => downL s q lv n (stepDown s q a (lv + ((n : Int) + 1)))
def downG (s : Gr) (q : List Int) (e lv : Int) : Int := downL s q lv (topG s e - lv).toNat e
def placesL (l : List H) : List Int := l.map S58.f1
def chosenG (s : Gr) (q : List Int) (lk wd : Int) : Nat → List Int → List (List Int)
 | 0,_ => []
 | n + 1,L => chooseG s q (placesL (walkG s q L wd n)) lk :: chosenG s q lk wd n (placesL (walkG s q L wd n))
def nowTo (l : List Nd) (id : Int) : Nat → Int
 | 0 => -1
 | n + 1 => match l[n]? with
  | some x => if (x.id == id && x.un == 0) = true then (n : Int) else nowTo l id n
  | none => nowTo l id n
def nowG (s : Gr) (id : Int) : Int := nowTo s.l id s.l.length
def nowM (s : Gr) (id : Int) : Option Int := if 0 ≤ nowG s id then some (nowG s id) else none
def untilNow (s : Gr) (id v : Int) : Gr := if 0 ≤ nowG s id then s.until_ (nowG s id).toNat v else s
def linkBoth (s : Gr) (lk n lv b : Int) : Gr := ((s.link n b lv (mostX lk lv)).2.link b n lv (mostX lk lv)).2
def layP (lk n : Int) (s : Gr) (p : Int × Int) : Gr := linkBoth s lk n p.1 p.2
def flatC : List (List Int) → List (Int × Int)
 | [] => []
 | l :: r => l.map (fun b => ((r.length : Int),b)) ++ flatC r
def chosenP (x : Ix) (id : Int) (vec : List Int) (k v : Int) : List (List Int) :=
 if 0 ≤ x.en then chosenG (untilNow x.g id v) vec x.lk x.wd (min k (topG (untilNow x.g id v) x.en) + 1).toNat [downG (untilNow x.g id v) vec x.en k] else []
def putG (x : Ix) (id : Int) (vec : List Int) (tags : List ByteArray) (k v : Int) : Gr :=
 (flatC (chosenP x id vec k v)).foldl (layP x.lk (x.g.l.length : Int)) ((untilNow x.g id v).add id vec tags k v)
def Ix.put (x : Ix) (id : Int) (vec : List Int) (tags : List ByteArray) (lv v : Int) : Ix :=
 ⟨putG x id vec tags (clampL lv) v,x.lk,x.wd,if x.en < 0 ∨ topG (putG x id vec tags (clampL lv) v) x.en < (clampL lv : Int) then (x.g.l.length : Int) else x.en⟩
def Ix.cut (x : Ix) (id v : Int) : Ix := ⟨untilNow x.g id v,x.lk,x.wd,x.en⟩
def thereN (n : Nd) (v : Int) : Bool := decide (n.fr ≤ v) && (n.un == 0 || decide (v < n.un))
structure Fi where
 f0 : List ByteArray
 f1 : List ByteArray
 f2 : List ByteArray
def oneS (s : Gr) (q : List Int) (f : Fi) (v : Int) (h : H) : List H := match s.l[h.f1.toNat]? with
 | none => []
 | some n => if ((Fl.dist s.m q n.vec).2 && thereN n v && Fl.matchB f.f0 f.f1 f.f2 n.tags) = true then [⟨(Fl.dist s.m q n.vec).1,n.id⟩] else []
def foundS (s : Gr) (q : List Int) (f : Fi) (v : Int) (l : List H) : List H := l.flatMap (oneS s q f v)
def searchG (s : Gr) (en : Int) (q : List Int) (f : Fi) (k width v : Int) : List H :=
 if en < 0 then [] else putAll (clamp k) (foundS s q f v (walkG s q [downG s q en 0] (max width (max 0 (min k 256))) 0))
def Ix.search (x : Ix) (q : List Int) (f : Fi) (k width v : Int) : List H := searchG x.g x.en q f k width v
def staysN (keep : List Int) (n : Nd) : Bool := n.un == 0 || keep.any (thereN n)
def goesTo (keep : List Int) (l : List Nd) (i : Nat) : Int := match l[i]? with
 | none => -1
 | some n => if staysN keep n = true then (((l.take i).filter (staysN keep)).length : Int) else -1
def goes (keep : List Int) (l : List Nd) (b : Int) : Int := if 0 ≤ b then goesTo keep l b.toNat else -1
def bare (n : Nd) : Nd := { n with links := List.replicate n.links.length [] }
def bares (keep : List Int) (l : List Nd) : List Nd := (l.filter (staysN keep)).map bare
def enTo (l : List Nd) : Nat → Int
 | 0 => -1
 | n + 1 => match l[n]? with
  | some x => if enTo l n < 0 ∨ topG ⟨0,l⟩ (enTo l n) < (x.links.length : Int) - 1 then (n : Int) else enTo l n
  | none => enTo l n
def nextsL (keep : List Int) (l : List Nd) (lv : Int) (ls : List Int) : List Int :=
 ls.map (goes keep l) ++ (ls.filter (fun b => decide (goes keep l b < 0))).flatMap (fun b => (Gr.at_ ⟨0,l⟩ b lv).map (goes keep l))
def linkTo (lk a lv : Int) (s : Gr) (b : Int) : Gr := (s.link a b lv (mostX lk lv)).2
def mendG (keep : List Int) (l : List Nd) (lk : Int) (s : Gr) (a lv : Int) (ls : List Int) : Gr := (nextsL keep l lv ls).foldl (linkTo lk a lv) s
def mendTo (keep : List Int) (l : List Nd) (lk : Int) (a : Int) (n : Nd) (s : Gr) : Nat → Gr
 | 0 => s
 | j + 1 => mendG keep l lk (mendTo keep l lk a n s j) a j ((n.links[j]?).getD [])
def mendAll (keep : List Int) (l : List Nd) (lk : Int) (s : Gr) : Nat → Gr
 | 0 => s
 | i + 1 => match l[i]? with
  | none => mendAll keep l lk s i
  | some n => if staysN keep n = true then mendTo keep l lk (goesTo keep l i) n (mendAll keep l lk s i) n.links.length else mendAll keep l lk s i
def wentL (keep : List Int) (l : List Nd) : Nat := (l.filter (fun n => !staysN keep n)).length
def Ix.sweep (x : Ix) (keep : List Int) : Ix :=
 if wentL keep x.g.l = 0 then x else ⟨mendAll keep x.g.l x.lk ⟨x.g.m,bares keep x.g.l⟩ x.g.l.length,x.lk,x.wd,enTo (bares keep x.g.l) (bares keep x.g.l).length⟩
end Go.Proofs.Ytofmlajanopniaa.Li
namespace Go.Proofs.Ytofmlajanopniaa.Li
open Go.RowKit Go.Proofs.YtofmlajanopniaaW.PrintWords Go.Proofs.Ytofmlajanopniaa.Q Go.Proofs.Ytofmlajanopniaa.Tk
/-! ### What a walk finds -/
structure BOk (s : Gr) (q : List Int) (lv : Int) (k : Wk) : Prop where
 met : ∀ i ∈ k.met,s.there i lv = true
 wt : ∀ h ∈ k.waits, ∃ i ∈ k.met,h = s.hit q i
 bs : ∀ h ∈ k.best, ∃ i ∈ k.met,h = s.hit q i
 nd : k.best.Nodup
section
variable {s : Gr} {q : List Int} {lv : Int} {W : Nat} {k : Wk}
theorem BOk.nil : BOk s q lv ⟨[],[],[]⟩ := ⟨fun _ h => by simp at h,fun _ h => by simp at h,fun _ h => by simp at h,List.nodup_nil⟩
theorem mem_putK {l : List H} {h x : H} (hx : x ∈ putK W l h) : x = h ∨ x ∈ l := intoL_mem.1 (List.mem_of_mem_take hx)
theorem BOk.meet (h : BOk s q lv k) {i : Int} (hi : s.there i lv = true) (hn : k.met.contains i = false) : BOk s q lv ⟨k.met ++ [i],intoL k.waits (s.hit q i),putK W k.best (s.hit q i)⟩ := by
 have hn' : i ∉ k.met := by simpa using hn
 refine ⟨fun j hj => ?_,fun x hx => ?_,fun x hx => ?_, ?_⟩
 ·rcases List.mem_append.1 hj with hj | hj
  ·exact h.met j hj
  ·rw [List.mem_singleton.1 hj];exact hi
 ·rcases intoL_mem.1 hx with rfl | hx
  ·exact ⟨i,by simp,rfl⟩
  ·obtain ⟨j,h1,h2⟩ := h.wt x hx;exact ⟨j,List.mem_append_left _ h1,h2⟩
 ·rcases mem_putK hx with rfl | hx
  ·exact ⟨i,by simp,rfl⟩
  ·obtain ⟨j,h1,h2⟩ := h.bs x hx;exact ⟨j,List.mem_append_left _ h1,h2⟩
 ·refine List.Sublist.nodup (List.take_sublist _ _) ((intoL_perm _ _).nodup_iff.2 (List.nodup_cons.2 ⟨fun hm => ?_,h.nd⟩))
  obtain ⟨j,h1,h2⟩ := h.bs _ hm
  have e : i = j := congrArg S58.f1 h2
  exact hn' (e ▸ h1)
theorem BOk.pass (h : BOk s q lv k) {i : Int} (hi : s.there i lv = true) : BOk s q lv ⟨k.met ++ [i],k.waits,k.best⟩ := by
 refine ⟨fun j hj => ?_,fun x hx => ?_,fun x hx => ?_,h.nd⟩
 ·rcases List.mem_append.1 hj with hj | hj
  ·exact h.met j hj
  ·rw [List.mem_singleton.1 hj];exact hi
 ·obtain ⟨j,h1,h2⟩ := h.wt x hx;exact ⟨j,List.mem_append_left _ h1,h2⟩
 ·obtain ⟨j,h1,h2⟩ := h.bs x hx;exact ⟨j,List.mem_append_left _ h1,h2⟩
theorem BOk.start (h : BOk s q lv k) (i : Int) : BOk s q lv (startN s q lv W k i) := by
 unfold startN
 split
 ·next hc =>
  rw [Bool.and_eq_true,Bool.not_eq_true'] at hc
  exact h.meet hc.1 hc.2
 ·exact h
theorem BOk.step (h : BOk s q lv k) (i : Int) : BOk s q lv (stepN s q lv W k i) := by
 unfold stepN
 split
 ·exact h
 ·next hc =>
  have h1 : k.met.contains i = false ∧ s.there i lv = true := by
   cases hm : k.met.contains i <;> cases ht : s.there i lv <;> rw [hm,ht] at hc <;> simp at hc <;> exact ⟨rfl,rfl⟩
  split
  ·exact h.meet h1.2 h1.1
  ·exact h.pass h1.2
theorem BOk.steps (L : List Int) : ∀ {k : Wk},BOk s q lv k → BOk s q lv (L.foldl (stepN s q lv W) k) := by
 induction L with
 | nil => exact fun h => h
 | cons a L ih => exact fun h => ih (h.step a)
theorem BOk.starts (L : List Int) : ∀ {k : Wk},BOk s q lv k → BOk s q lv (L.foldl (startN s q lv W) k) := by
 induction L with
 | nil => exact fun h => h
 | cons a L ih => exact fun h => ih (h.start a)
theorem walkL_ok : ∀ (f : Nat) (k : Wk),BOk s q lv k → (∀ h ∈ walkL s q lv W f k, ∃ i,s.there i lv = true ∧ h = s.hit q i) ∧ (walkL s q lv W f k).Nodup := by
 intro f
 have hb : ∀ (k : Wk),BOk s q lv k → (∀ h ∈ k.best, ∃ i,s.there i lv = true ∧ h = s.hit q i) ∧ k.best.Nodup := fun k hk => ⟨fun h hh => by obtain ⟨i,h1,h2⟩ := hk.bs h hh;exact ⟨i,hk.met i h1,h2⟩,hk.nd⟩
 induction f with
 | zero => exact fun k hk => hb k hk
 | succ f ih =>
  intro k hk
  unfold walkL
  split
  ·exact hb k hk
  ·next c rest hw =>
   split
   ·exact hb k hk
   ·exact ih _ (BOk.steps _ ⟨hk.met,fun h hh => hk.wt h (by rw [hw];exact List.mem_cons_of_mem _ hh),hk.bs,hk.nd⟩)
theorem walk_ok (s : Gr) (q L : List Int) (width lv : Int) : (∀ h ∈ walkG s q L width lv, ∃ i,s.there i lv = true ∧ h = s.hit q i) ∧ (walkG s q L width lv).Nodup := walkL_ok _ _ (BOk.starts L BOk.nil)
theorem walk_there {s : Gr} {q L : List Int} {width lv : Int} {h : H} (hh : h ∈ walkG s q L width lv) : s.there h.f1 lv = true ∧ h = s.hit q h.f1 := by
 obtain ⟨i,h1,rfl⟩ := (walk_ok s q L width lv).1 h hh
 exact ⟨h1,rfl⟩
theorem stepDown_there {s : Gr} {q : List Int} {a lv : Int} : stepDown s q a lv = a ∨ s.there (stepDown s q a lv) lv = true := by
 unfold stepDown
 cases hw : walkG s q [a] 1 lv with
 | nil => exact .inl rfl
 | cons h t => exact .inr (walk_there (q := q) (L := [a]) (width := 1) (by rw [hw];exact List.mem_cons_self)).1
theorem there_down {s : Gr} {i lv lv' : Int} (h : s.there i lv = true) (h0 : 0 ≤ lv') (hl : lv' ≤ lv) : s.there i lv' = true := by
 obtain ⟨k,j,n,rfl,rfl,hn,hj⟩ := there_iff.1 h
 obtain ⟨j',rfl⟩ : ∃ j' : Nat,lv' = (j' : Int) := ⟨lv'.toNat,by omega⟩
 exact there_iff.2 ⟨k,j',n,rfl,rfl,hn,by omega⟩
theorem downL_there {s : Gr} {q : List Int} {lv : Int} (h0 : 0 ≤ lv) : ∀ (n : Nat) (a : Int),s.there a 0 = true → s.there (downL s q lv n a) 0 = true := by
 intro n
 induction n with
 | zero => exact fun a h => h
 | succ n ih =>
  intro a h
  refine ih _ ?_
  rcases stepDown_there (s := s) (q := q) (a := a) (lv := lv + ((n : Int) + 1)) with e | e
  ·rw [e];exact h
  ·exact there_down e (by omega) (by omega)
theorem downG_there {s : Gr} {q : List Int} {e lv : Int} (h0 : 0 ≤ lv) (h : s.there e 0 = true) : s.there (downG s q e lv) 0 = true := downL_there h0 _ _ h
end
/-! ### The node of an id that is there still -/
def nowKey (n : Nd) : Int × Int := (n.id,n.un)
theorem nowTo_congr {l l' : List Nd} {id : Int} : ∀ n,(∀ i,i < n → (l[i]?).map nowKey = (l'[i]?).map nowKey) → nowTo l id n = nowTo l' id n := by
 intro n
 induction n with
 | zero => intro _;rfl
 | succ n ih =>
  intro h
  have h1 := h n (by omega)
  unfold nowTo
  rw [ih (fun i hi => h i (by omega))]
  cases ha : l[n]? with
  | none =>
   cases hb : l'[n]? with
   | none => rfl
   | some y => rw [ha,hb] at h1;cases h1
  | some x =>
   cases hb : l'[n]? with
   | none => rw [ha,hb] at h1;cases h1
   | some y =>
    rw [ha,hb] at h1
    injection h1 with h1
    injection h1 with h1 h2
    dsimp only;rw [h1,h2]
theorem nowTo_spec (l : List Nd) (id : Int) : ∀ n,(nowTo l id n = -1 ∧ ∀ i x,i < n → l[i]? = some x → ¬ (x.id = id ∧ x.un = 0)) ∨ ∃ (k : Nat) (x : Nd),nowTo l id n = k ∧ k < n ∧ l[k]? = some x ∧ x.id = id ∧ x.un = 0 ∧ ∀ i y,k < i → i < n → l[i]? = some y → ¬ (y.id = id ∧ y.un = 0) := by
 intro n
 induction n with
 | zero => exact .inl ⟨rfl,fun i x h => by omega⟩
 | succ n ih =>
  unfold nowTo
  cases hx : l[n]? with
  | none =>
   dsimp only
   rcases ih with ⟨e,h⟩ | ⟨k,x,e,hk,h1,h2,h3,h4⟩
   ·refine .inl ⟨e,fun i y hi hy => ?_⟩
    by_cases e2 : i = n
    ·subst e2;rw [hx] at hy;cases hy
    ·exact h i y (by omega) hy
   ·refine .inr ⟨k,x,e,by omega,h1,h2,h3,fun i y hi hi2 hy => ?_⟩
    by_cases e2 : i = n
    ·subst e2;rw [hx] at hy;cases hy
    ·exact h4 i y hi (by omega) hy
  | some x =>
   dsimp only
   by_cases hc : x.id = id ∧ x.un = 0
   ·rw [if_pos (by simp [hc.1,hc.2])]
    exact .inr ⟨n,x,rfl,by omega,hx,hc.1,hc.2,fun i y h1 h2 => by omega⟩
   ·rw [if_neg (by simpa using hc)]
    rcases ih with ⟨e,h⟩ | ⟨k,x',e,hk,h1,h2,h3,h4⟩
    ·refine .inl ⟨e,fun i y hi hy => ?_⟩
     by_cases e2 : i = n
     ·subst e2;rw [hx] at hy;cases hy;exact hc
     ·exact h i y (by omega) hy
    ·refine .inr ⟨k,x',e,by omega,h1,h2,h3,fun i y hi hi2 hy => ?_⟩
     by_cases e2 : i = n
     ·subst e2;rw [hx] at hy;cases hy;exact hc
     ·exact h4 i y hi (by omega) hy
theorem nowTo_lt (l : List Nd) (id : Int) (n : Nat) : -1 ≤ nowTo l id n ∧ nowTo l id n < (n : Int) := by
 rcases nowTo_spec l id n with ⟨e,_⟩ | ⟨k,x,e,h,_⟩ <;> omega
theorem nowG_spec (s : Gr) (id : Int) : (nowG s id = -1 ∧ ∀ x ∈ s.l, ¬ (x.id = id ∧ x.un = 0)) ∨ ∃ (k : Nat) (x : Nd),nowG s id = k ∧ s.l[k]? = some x ∧ x.id = id ∧ x.un = 0 := by
 rcases nowTo_spec s.l id s.l.length with ⟨e,h⟩ | ⟨k,x,e,hk,h1,h2,h3, -⟩
 ·refine .inl ⟨e,fun x hx => ?_⟩
  obtain ⟨i,hi,rfl⟩ := List.getElem_of_mem hx
  exact h i _ hi (List.getElem?_eq_getElem hi)
 ·exact .inr ⟨k,x,e,h1,h2,h3⟩
theorem nowG_lt (s : Gr) (id : Int) : -1 ≤ nowG s id ∧ nowG s id < (s.l.length : Int) := nowTo_lt _ _ _
def Uniq (s : Gr) : Prop := ∀ (i j : Nat) (x y : Nd),s.l[i]? = some x → s.l[j]? = some y → x.id = y.id → x.un = 0 → y.un = 0 → i = j
end Go.Proofs.Ytofmlajanopniaa.Li
namespace Go.Proofs.Ytofmlajanopniaa.Li
open Go.RowKit Go.Proofs.YtofmlajanopniaaW.PrintWords Go.Proofs.YtofmlajanopniaaW.PrintLast Go.Proofs.YtofmlajanopniaaW.PrintMore Go.Proofs.Ytofmlajanopniaa.Q Go.Proofs.Ytofmlajanopniaa.Tk
structure Inv (s : Gr) (n : Nat) : Prop where
 good : Good s
 m : 0 ≤ s.m
 len : s.l.length ≤ n
 sm : ∀ (i : Nat) (nd : Nd),s.l[i]? = some nd → nd.vec.length ≤ 100000 ∧ nd.tags.length ≤ 100000
section
variable {s : Gr} {n n' : Nat}
theorem Inv.nil {m : Int} (h : 0 ≤ m) : Inv ⟨m,[]⟩ 0 := ⟨Good.nil m,h,Nat.le_refl _,fun i nd h => by simp at h⟩
theorem Inv.mono (h : Inv s n) (hn : n ≤ n') : Inv s n' := ⟨h.good,h.m,Nat.le_trans h.len hn,h.sm⟩
theorem Inv.lk (h : Inv s n) (i : Nat) (nd : Nd) (hi : s.l[i]? = some nd) : nd.links.length ≤ 5 ∧ ∀ l ∈ nd.links,l.length ≤ n := by
 refine ⟨(h.good.lv1 i nd hi).2,fun l hl => ?_⟩
 obtain ⟨j,hj,rfl⟩ := List.getElem_of_mem hl
 exact Nat.le_trans (good_len h.good hi (List.getElem?_eq_getElem hj)) h.len
theorem Inv.small (h : Inv s n) (hn : n ≤ 90000) : s.Small := by
 refine ⟨Nat.le_trans h.len hn,fun i nd hi => ?_⟩
 obtain ⟨h1,h2⟩ := h.lk i nd hi
 obtain ⟨h3,h4⟩ := h.sm i nd hi
 have h5 := (h.good.lv1 i nd hi).1
 exact ⟨h3,h4,by omega,by omega,fun l hl => Nat.le_trans (h2 l hl) hn⟩
theorem Inv.add (h : Inv s n) (id : Int) {vec : List Int} {tags : List ByteArray} (lv v : Int) (h1 : vec.length ≤ 100000) (h2 : tags.length ≤ 100000) : Inv (s.add id vec tags lv v) (n + 1) := by
 refine ⟨h.good.add _ _ _ _ _,h.m,by unfold Gr.add;simp;exact h.len,fun i nd hi => ?_⟩
 unfold Gr.add at hi
 dsimp only at hi
 by_cases hc : i < s.l.length
 ·rw [List.getElem?_append_left hc] at hi
  exact h.sm i nd hi
 ·rw [List.getElem?_append_right (by omega)] at hi
  have h0 : i - s.l.length = 0 := by have := (List.getElem?_eq_some_iff.1 hi).1;simp at this;omega
  rw [h0] at hi
  cases hi
  exact ⟨h1,h2⟩
theorem set_keeps {f : Nd → Nd} (hf : ∀ x,(f x).vec = x.vec ∧ (f x).tags = x.tags) {l : List Nd} {i k : Nat} {x nd : Nd} (hx : l[i]? = some x) (hk : (l.set i (f x))[k]? = some nd) : ∃ y,l[k]? = some y ∧ nd.vec = y.vec ∧ nd.tags = y.tags := by
 rw [List.getElem?_set] at hk
 by_cases e : i = k
 ·subst e
  rw [if_pos rfl] at hk
  split at hk
  ·injection hk with hk
   subst hk
   exact ⟨x,hx,hf x⟩
  ·cases hk
 ·rw [if_neg e] at hk
  exact ⟨nd,hk,rfl,rfl⟩
theorem Inv.until_ (h : Inv s n) (i : Nat) (v : Int) : Inv (s.until_ i v) n := by
 refine ⟨h.good.until_ i v,h.m, ?_,fun k nd hk => ?_⟩
 ·rw [setUn_l];exact h.len
 ·unfold Gr.until_ at hk
  cases hx : s.l[i]? with
  | none => rw [hx] at hk;exact h.sm k nd hk
  | some x =>
   rw [hx] at hk
   obtain ⟨y,h1,h2,h3⟩ := set_keeps (f := fun x => setUn x v) (fun _ => ⟨rfl,rfl⟩) hx hk
   have := h.sm k y h1
   rw [h2,h3];exact this
theorem setL_l {a lv : Nat} {ls : List Int} : (s.setL a lv ls).l.length = s.l.length := by
 unfold Gr.setL
 cases s.l[a]? with
 | none => rfl
 | some n => exact List.length_set
theorem Inv.link (h : Inv s n) (a b lv most : Int) : Inv (s.link a b lv most).2 n := by
 have hg := h.good.link a b lv most
 unfold Gr.link at hg ⊢
 split
 ·exact h
 ·next hc =>
  rw [if_neg hc] at hg
  refine ⟨hg,h.m, ?_,fun k nd hk => ?_⟩
  ·show (s.setL _ _ _).l.length ≤ n
   rw [setL_l];exact h.len
  ·dsimp only at hk
   unfold Gr.setL at hk
   cases hx : s.l[a.toNat]? with
   | none => rw [hx] at hk;exact h.sm k nd hk
   | some x =>
    rw [hx] at hk
    obtain ⟨y,h1,h2,h3⟩ := set_keeps (f := fun x => setLk x lv.toNat (linked s a b lv most)) (fun _ => ⟨rfl,rfl⟩) hx hk
    have := h.sm k y h1
    rw [h2,h3];exact this
end
theorem walkL_len {s : Gr} {q : List Int} {lv : Int} {W : Nat} : ∀ (f : Nat) (k : Wk),k.best.length ≤ W → (walkL s q lv W f k).length ≤ W := by
 intro f
 induction f with
 | zero => exact fun k h => h
 | succ f ih =>
  intro k h
  unfold walkL
  split
  ·exact h
  ·split
   ·exact h
   ·refine ih _ ?_
    suffices hs : ∀ (L : List Int) (k : Wk),k.best.length ≤ W → (L.foldl (stepN s q lv W) k).best.length ≤ W from hs _ _ h
    intro L
    induction L with
    | nil => exact fun k h => h
    | cons a L ihL =>
     intro k h
     refine ihL _ ?_
     unfold stepN
     split
     ·exact h
     ·split
      ·show (putK W k.best (s.hit q a)).length ≤ W
       unfold putK;rw [List.length_take];omega
      ·exact h
theorem walk_len (s : Gr) (q L : List Int) (width lv : Int) : (walkG s q L width lv).length ≤ 256 := by
 have hW : widthW width ≤ 256 := by unfold widthW;omega
 refine Nat.le_trans (walkL_len _ _ ?_) hW
 unfold walk0
 suffices hs : ∀ (L : List Int) (k : Wk),k.best.length ≤ widthW width → (L.foldl (startN s q lv (widthW width)) k).best.length ≤ widthW width from hs _ _ (Nat.zero_le _)
 intro L
 induction L with
 | nil => exact fun k h => h
 | cons a L ih =>
  intro k h
  refine ih _ ?_
  unfold startN
  split
  ·show (putK _ k.best (s.hit q a)).length ≤ _
   unfold putK;rw [List.length_take];omega
  ·exact h
section
variable {s : Gr}
theorem link_parts {a b lv : Int} (hc : ¬ (!s.there a lv || !s.there b lv || a == b) = true) : ∃ (ka kb j : Nat) (nd : Nd) (ls : List Int),a = ka ∧ b = kb ∧ lv = j ∧ s.l[ka]? = some nd ∧ nd.links[j]? = some ls ∧ s.there ka j = true ∧ s.there kb j = true ∧ ka ≠ kb := by
 have h1 : s.there a lv = true := by cases h : s.there a lv with | true => rfl | false => rw [h] at hc;simp at hc
 have h2 : s.there b lv = true := by cases h : s.there b lv with | true => rfl | false => rw [h] at hc;simp at hc
 have h3 : a ≠ b := fun e => by rw [e] at hc;simp at hc
 obtain ⟨ka,j,nd,rfl,rfl,hn,hj⟩ := there_iff.1 h1
 obtain ⟨kb,j2,nd2,rfl,e,hn2,hj2⟩ := there_iff.1 h2
 exact ⟨ka,kb,j,nd,_,rfl,rfl,rfl,hn,List.getElem?_eq_getElem hj,h1,h2,fun e => h3 (by rw [e])⟩
theorem there_lt (hg : Good s) {k : Nat} (h : k < s.l.length) : s.there (k : Int) 0 = true :=
 there_iff.2 ⟨k,0,s.l[k],rfl,rfl,List.getElem?_eq_getElem h,by have := (hg.lv1 k _ (List.getElem?_eq_getElem h)).1;omega⟩
end
end Go.Proofs.Ytofmlajanopniaa.Li
namespace Go.Proofs.Ytofmlajanopniaa.Li
open Go.RowKit Go.Maps Go.Proofs.YtofmlajanopniaaW.PrintWords Go.Proofs.YtofmlajanopniaaW.PrintLast Go.Proofs.YtofmlajanopniaaW.PrintMore Go.Proofs.Ytofmlajanopniaa.Q Go.Proofs.Ytofmlajanopniaa.Tk
structure M1 (X : Nat → Prop) (w0 w : World) (g : Nat) (s : Gr) : Prop where
 out : ∃ F,GX w0 w g F s ∧ ∀ k,F k → ¬ X k
 xl : ∀ k,X k → k < w.heap.size
def KeepX (X : Nat → Prop) (w w' : World) : Prop := w.heap.size ≤ w'.heap.size ∧ ∀ k,X k → w'.heap[k]? = w.heap[k]?
section
variable {X X' : Nat → Prop} {w0 w w' w2 : World} {g : Nat} {s : Gr}
theorem KeepX.refl (X : Nat → Prop) (w : World) : KeepX X w w := ⟨Nat.le_refl _,fun _ _ => rfl⟩
theorem KeepX.trans (h : KeepX X w w') (h2 : KeepX X w' w2) : KeepX X w w2 := ⟨Nat.le_trans h.1 h2.1,fun k hk => (h2.2 k hk).trans (h.2 k hk)⟩
theorem KeepX.less (h : KeepX X w w') (hX : ∀ k,X' k → X k) : KeepX X' w w' := ⟨h.1,fun k hk => h.2 k (hX k hk)⟩
theorem KeepX.below (hx : ∀ k,X k → k < w.heap.size) (hb : Below w.heap.size w w') : KeepX X w w' := ⟨hb.size,fun k hk => hb.block k (hx k hk)⟩
theorem KeepX.only {S : Nat → Prop} (hx : ∀ k,X k → k < w.heap.size) (hO : Only S w w') (hd : ∀ k,X k → ¬ S k) : KeepX X w w' := ⟨hO.size,fun k hk => hO.block k (hx k hk) (hd k hk)⟩
theorem M1.at0 (h : M1 X w0 w g s) : Below w0.heap.size w0 w := by obtain ⟨F,h1,_⟩ := h.out;exact h1.at0
theorem M1.below (h : M1 X w0 w g s) (hb : Below w.heap.size w w') : M1 X w0 w' g s := by
 obtain ⟨F,h1,h2⟩ := h.out
 exact ⟨⟨F,h1.below hb,h2⟩,fun k hk => Nat.lt_of_lt_of_le (h.xl k hk) hb.size⟩
theorem M1.less (h : M1 X w0 w g s) (hX : ∀ k,X' k → X k) : M1 X' w0 w g s := by
 obtain ⟨F,h1,h2⟩ := h.out
 exact ⟨⟨F,h1,fun k hk hx => h2 k hk (hX k hx)⟩,fun k hk => h.xl k (hX k hk)⟩
theorem M1.later (h : M1 X w0 w g s) (hb : Below w.heap.size w w') : M1 (fun k => X k ∨ (w.heap.size ≤ k ∧ k < w'.heap.size)) w0 w' g s := by
 obtain ⟨F,h1,h2⟩ := h.out
 have hl := h1.low
 refine ⟨⟨F,h1.below hb,fun k hk hx => ?_⟩,fun k hk => ?_⟩
 ·rcases hx with hx | hx
  ·exact h2 k hk hx
  ·have := (hl k hk).2;omega
 ·rcases hk with hk | hk
  ·exact Nat.lt_of_lt_of_le (h.xl k hk) hb.size
  ·exact hk.2
theorem M1.beside (h : M1 X w0 w g s) {S : Nat → Prop} (hO : Only S w w') (hS : ∀ k,S k → X k) (hl : ∀ k,S k → w0.heap.size ≤ k) : M1 X w0 w' g s := by
 obtain ⟨F,h1,h2⟩ := h.out
 exact ⟨⟨F,h1.beside hO (fun k hk hs => h2 k hk (hS k hs)) hl,h2⟩,fun k hk => Nat.lt_of_lt_of_le (h.xl k hk) hO.size⟩
theorem M1.prog {s' : Gr} {F F' : Nat → Prop} (h1 : GX w0 w g F s) (h2 : ∀ k,F k → ¬ X k) (hx : ∀ k,X k → k < w.heap.size) (hG : GX w0 w' g F' s') (hF : ∀ k,F' k → more F w w' k) (hO : Only F w w') : M1 X w0 w' g s' ∧ KeepX X w w' := by
 refine ⟨⟨⟨F',hG,fun k hk hxk => ?_⟩,fun k hk => Nat.lt_of_lt_of_le (hx k hk) hO.size⟩,KeepX.only hx hO (fun k hk hf => h2 k hf hk)⟩
 rcases hF k hk with hk | hk
 ·exact h2 k hk hxk
 ·have := hx k hxk;have := hk.1;omega
theorem M1.addP (h : M1 X w0 w g s) {n : Nat} (hi : Inv s n) (hn : n ≤ 90000) (id : Int) (vec : List Int) (tags : List ByteArray) (A1 : Option Addr) (c1 : Nat) (A2 : Option Addr) (c2 : Nat) (hf1 : vec.length ≤ c1) (hC1 : Kd.C (Kd.int .i32) w A1 vec.length vec) (hf2 : tags.length ≤ c2) (hC2 : Kd.C Kd.string w A2 tags.length tags) (hl1 : vec.length ≤ 100000) (hl2 : tags.length ≤ 100000) (lv v : Int) :
  Calls Try.prog 13 #[.pointer (some ⟨g,0,none⟩),.agg #[.int .u32 id,.slice A1 vec.length c1,.slice A2 tags.length c2],.int .i64 lv,.int .u64 v] w fun e w' => e = .returned (.int .i64 s.l.length) ∧ M1 X w0 w' g (s.add id vec tags lv v) ∧ KeepX X w w' := by
 obtain ⟨F,h1,h2⟩ := h.out
 exact (h1.add_ (Nat.le_trans hi.len hn) id vec tags A1 c1 A2 c2 hf1 hC1 hf2 hC2 hl1 hl2 lv v).mono fun e w' ⟨he,hG,hO⟩ => ⟨he,M1.prog h1 h2 h.xl hG (fun k hk => hk) hO⟩
theorem M1.linkP (h : M1 X w0 w g s) {n : Nat} (hi : Inv s n) (hn : n ≤ 90000) (a b lv most : Int) :
  Calls Try.prog 14 #[.pointer (some ⟨g,0,none⟩),.int .i64 a,.int .i64 b,.int .i64 lv,.int .i64 most] w fun e w' => e = .returned (.bool (s.link a b lv most).1) ∧ M1 X w0 w' g (s.link a b lv most).2 ∧ KeepX X w w' := by
 obtain ⟨F,h1,h2⟩ := h.out
 by_cases hc : (!s.there a lv || !s.there b lv || a == b) = true
 ·rw [show s.link a b lv most = (false,s) by unfold Gr.link;rw [if_pos hc]]
  exact (h1.link_no a b lv most hc).mono fun e w' ⟨he,hb⟩ => ⟨he,h.below hb,KeepX.below h.xl hb⟩
 ·rw [show s.link a b lv most = (true,s.setL a.toNat lv.toNat (linked s a b lv most)) by unfold Gr.link;rw [if_neg hc]]
  obtain ⟨ka,kb,j,nd,ls,rfl,rfl,rfl,hnd,hj,ha,hb,hab⟩ := link_parts hc
  have hls := (hi.lk ka nd hnd).2 ls (List.mem_of_getElem? hj)
  exact (h1.link_yes hi.m (by have := hi.len;omega) hnd hj (by omega) most ha hb hab).mono fun e w' ⟨he,⟨F',hG,hF⟩,hO⟩ => ⟨he,M1.prog h1 h2 h.xl hG hF hO⟩
theorem M1.untilP (h : M1 X w0 w g s) (k : Nat) (v : Int) (hc : s.there k 0 = true) :
  Calls Try.prog 40 #[.pointer (some ⟨g,0,none⟩),.int .i64 k,.int .u64 v] w fun e w' => e = .returned (.bool true) ∧ M1 X w0 w' g (s.until_ k v) ∧ KeepX X w w' := by
 obtain ⟨F,h1,h2⟩ := h.out
 obtain ⟨k',j,nd,e, -,hnd, -⟩ := there_iff.1 hc
 obtain rfl : k = k' := by omega
 exact (h1.until_yes k v hc).mono fun e w' ⟨he,hG,hO⟩ => ⟨he,M1.prog h1 h2 h.xl hG (fun k hk => .inl hk) hO⟩
theorem M1.lenP (h : M1 X w0 w g s) : Calls Try.prog 18 #[.pointer (some ⟨g,0,none⟩)] w fun e w' => e = .returned (.int .i64 s.l.length) ∧ Below w.heap.size w w' := by
 obtain ⟨F,h1,_⟩ := h.out
 exact h1.len_
theorem M1.chooseP (h : M1 X w0 w g s) {n : Nat} (hi : Inv s n) (hn : n ≤ 90000) (A : Option Addr) (c : Nat) (q : List Int) (hq : Kd.C (Kd.int .i32) w A q.length q) (hqc : q.length ≤ c) (A2 : Option Addr) (c2 N : Nat) (L : List Int) (hN : L.length = N) (hL : Kd.C (Kd.int .i64) w A2 N L) (hLl : N ≤ 100000) (most : Int) (R : List Int) (hR : chooseG s q L most = R) :
  Calls Try.prog 32 #[.pointer (some ⟨g,0,none⟩),.slice A q.length c,.slice A2 N c2,.int .i64 most] w fun e w' => (∃ v,e = .returned v ∧ OwnZ w' w.heap.size v R) ∧ Below w.heap.size w w' := by
 subst hN hR
 obtain ⟨F,h1,_⟩ := h.out
 exact h1.choose_ hi.m A c q hq hqc A2 c2 L hL (by have := hi.len;omega) hLl most
theorem M1.walkP (h : M1 X w0 w g s) {n : Nat} (hi : Inv s n) (hn : n ≤ 90000) (A : Option Addr) (c : Nat) (q : List Int) (hq : Kd.C (Kd.int .i32) w A q.length q) (hqc : q.length ≤ c) (A2 : Option Addr) (c2 N : Nat) (L : List Int) (hN : L.length = N) (hL : Kd.C (Kd.int .i64) w A2 N L) (hLl : N ≤ 100000) (width lv : Int) (R : List H) (hR : walkG s q L width lv = R) :
  Calls Try.prog 19 #[.pointer (some ⟨g,0,none⟩),.slice A q.length c,.slice A2 N c2,.int .i64 width,.int .i64 lv] w fun e w' => (∃ v,e = .returned v ∧ OwnH w' w.heap.size v R) ∧ Below w.heap.size w w' := by
 subst hN hR
 obtain ⟨F,h1,_⟩ := h.out
 exact h1.walk_ hi.good hi.m (by have := hi.len;omega) A c q hq hqc A2 c2 L hL hLl width lv
theorem M1.nodeN (h : M1 X w0 w g s) (i : Int) (hi : s.there i 0 = false) : Calls Try.prog 15 #[.pointer (some ⟨g,0,none⟩),.int .i64 i] w fun e w' => e = .returned (.tuple #[.agg #[.int .u32 0,.slice none 0 0,.slice none 0 0,.int .u64 0,.int .u64 0,.slice none 0 0],.bool false]) ∧ Below w.heap.size w w' := by
 obtain ⟨F,h1,_⟩ := h.out
 exact h1.node_no i hi
theorem M1.nodeY (h : M1 X w0 w g s) {n : Nat} (hi : Inv s n) (hn : n ≤ 90000) {k : Nat} {nd : Nd} (hk : s.l[k]? = some nd) : Calls Try.prog 15 #[.pointer (some ⟨g,0,none⟩),.int .i64 k] w fun e w' => (∃ B1 d1 B2 d2 r cp φ,e = .returned (.tuple #[.agg #[.int .u32 nd.id,.slice B1 nd.vec.length d1,.slice B2 nd.tags.length d2,.int .u64 nd.fr,.int .u64 nd.un,.slice (some ⟨r,0,none⟩) nd.links.length cp],.bool true]) ∧ NdR w' w.heap.size (since w w') all2 φ (fun _ => k) k nd B1 d1 B2 d2 r cp) ∧ Below w.heap.size w w' := by
 obtain ⟨F,h1,_⟩ := h.out
 exact h1.node_yes (hi.small hn) hk (there_lt hi.good (List.getElem?_eq_some_iff.1 hk).1)
end
end Go.Proofs.Ytofmlajanopniaa.Li
namespace Go.Proofs.Ytofmlajanopniaa.Li
open Go.RowKit Go.Maps Go.Proofs.YtofmlajanopniaaW.PrintWords Go.Proofs.YtofmlajanopniaaW.PrintLast Go.Proofs.YtofmlajanopniaaW.PrintMore Go.Proofs.Ytofmlajanopniaa.Tk
theorem keyU32 : Keyed Try.prog 22 := int_keyed Try.underlying22
def SaysU (D : DataW Unit) (f : Int → Option Int) : Prop := Maps.IsMap D ∧ ∀ id,(∀ c,f id = some c → Maps.has D (.int .u32 id) = true ∧ ∀ z,D.atKey (.int .u32 id) z = .lit (.int .i64 c)) ∧ (f id = none → Maps.has D (.int .u32 id) = false)
theorem SaysU.nil : SaysU (.map []) (fun _ => none) := ⟨Maps.isMap_empty,fun id => ⟨fun c h => by simp at h,fun _ => rfl⟩⟩
theorem SaysU.put {D : DataW Unit} {f : Int → Option Int} (h : SaysU D f) {id : Int} (hid : (Lit.int .u32 id).wf = true) (c : Int) : SaysU (D.put (.int .u32 id) (.lit (.int .i64 c))) (fun z => if z = id then some c else f z) := by
 have hk := keyU32.key (keyOf_int_mk Try.underlying22 hid)
 refine ⟨h.1.put _ _,fun z => ?_⟩
 by_cases e : z = id
 ·subst e
  show (∀ c_1 : Int,(if z = z then some c else f z) = some c_1 → _) ∧ ((if z = z then some c else f z) = none → _)
  rw [if_pos rfl]
  exact ⟨fun c' hc' => ⟨Maps.has_put_same h.1 hk _,fun y => by injection hc' with hc';subst hc';exact Maps.atKey_put_same h.1 hk _ _⟩,fun hn => by simp at hn⟩
 ·show (∀ c_1 : Int,(if z = id then some c else f z) = some c_1 → _) ∧ ((if z = id then some c else f z) = none → _)
  rw [if_neg e]
  have hne : (Lit.int .u32 z) ≠ .int .u32 id := fun e2 => e (by injection e2)
  rw [Maps.has_put_other hne]
  exact ⟨fun c' hc' => ⟨((h.2 z).1 c' hc').1,fun y => by rw [Maps.atKey_put_other hne];exact ((h.2 z).1 c' hc').2 y⟩,(h.2 z).2⟩
theorem SaysU.del {D : DataW Unit} {f : Int → Option Int} (h : SaysU D f) (id : Int) : SaysU (D.del (.int .u32 id)) (fun z => if z = id then none else f z) := by
 refine ⟨h.1.del _,fun z => ?_⟩
 by_cases e : z = id
 ·subst e
  show (∀ c : Int,(if z = z then none else f z) = some c → _) ∧ ((if z = z then none else f z) = none → _)
  rw [if_pos rfl]
  exact ⟨fun c hc => (by cases hc),fun _ => Maps.has_del_same⟩
 ·show (∀ c : Int,(if z = id then none else f z) = some c → _) ∧ ((if z = id then none else f z) = none → _)
  rw [if_neg e]
  have hne : (Lit.int .u32 z) ≠ .int .u32 id := fun e2 => e (by injection e2)
  rw [Maps.has_del_other hne]
  exact ⟨fun c hc => ⟨((h.2 z).1 c hc).1,fun y => by rw [Maps.atKey_del_other hne];exact ((h.2 z).1 c hc).2 y⟩,(h.2 z).2⟩
def MapI (w : World) (b n : Nat) (f : Int → Option Int) : Prop := ∃ D,w.ownsMap Try.prog 22 (plainElem Try.prog 3) b n D ∧ SaysU D f
theorem MapI.new (w : World) : MapI (w.alloc (.map #[] 0)) w.heap.size 0 (fun _ => none) := ⟨_,World.ownsMap_made _ _ _ _,SaysU.nil⟩
section
variable {w w1 : World} {b n n' : Nat} {f f' : Int → Option Int}
theorem MapI.same (h : MapI w b n f) (hb : w1.heap[b]? = w.heap[b]?) : MapI w1 b n f := by
 obtain ⟨D,h1,h2⟩ := h
 obtain ⟨es,clock,hbb,F,hs,hD⟩ := h1
 exact ⟨D,⟨es,clock,hb.trans hbb,F,hs,hD⟩,h2⟩
theorem MapI.lt (h : MapI w b n f) : b < w.heap.size := by obtain ⟨D,h1,_⟩ := h;exact h1.lt
theorem MapI.nocells (h : MapI w b n f) : NoCells w b := by
 obtain ⟨D,⟨es,clock,hb,_⟩,_⟩ := h
 intro c t e
 rw [hb] at e
 cases e
theorem MapI.mono (h : MapI w b n f) (hn : n ≤ n') : MapI w b n' f := by obtain ⟨D,h1,h2⟩ := h;exact ⟨D,h1.mono hn,h2⟩
theorem MapI.eq (h : MapI w b n f) (hf : f = f') : MapI w b n f' := hf ▸ h
theorem zeroInt (w : World) : (zeroValue 3).run Try.prog w = .ok (.int .i64 0) w := by kernel_rfl
set_option maxRecDepth 100000 in
theorem MapI.look (h : MapI w b n f) {id : Int} (hid : (Lit.int .u32 id).wf = true) : (Instr.lookup 105 (.map (some b)) (.int .u32 id) true).run Try.prog w = .ok (.tuple #[.int .i64 ((f id).getD 0),.bool (f id).isSome]) w := by
 obtain ⟨D,h1,h2⟩ := h
 obtain ⟨v,ps,hrun,hv⟩ := h1.look_ok keyU32 Try.underlying105 (zeroInt w) (plainElem_int Try.underlying3 (by decide : (Lit.int .i64 0).wf = true)) (keyOf_int_mk Try.underlying22 hid)
 obtain ⟨a,rfl,hz, -⟩ := plainElem_int_inv Try.underlying3 hv
 injection hz with hz _
 rw [hrun]
 cases hf : f id with
 | none =>
  have := (h2.2 id).2 hf
  rw [this]
  rw [atKey_of_not_has this] at hz
  injection hz with hz
  injection hz with _ hz
  subst hz
  rfl
 | some c =>
  obtain ⟨e1,e2⟩ := (h2.2 id).1 c hf
  rw [e1]
  rw [e2] at hz
  injection hz with hz
  injection hz with _ hz
  subst hz
  rfl
end
section
variable {w : World} {ops : Array Oper} {rest : List Oper} {o : Oper} {a : Act} {Q : Exit → Act → World → Prop}
theorem del_I (hg : o.guard = none) (m x : Operand) (hop : o.op = Op.call { callee := Callee.builtin Builtin.delete,args := #[m,x],argTypes := #[105,22] }) (b n : Nat) (f : Int → Option Int) (hm : a.eval m = .map (some b)) (h : MapI w b n f) (id : Int) (hx : a.eval x = .int .u32 id)
  (hid : (Lit.int .u32 id).wf = true)
  (hK : ∀ w',MapI w' b n (fun z => if z = id then none else f z) → Only (fun k => k = b) w w' → wpList Try.prog ops Q rest (a.put o.dst (.tuple #[])) w') : wpList Try.prog ops Q (o :: rest) a w := by
 obtain ⟨D,h1,h2⟩ := h
 refine wpList_delete_own w hg m x 105 22 hop 3 keyU32 Try.underlying105 _ b n D hm h1 _ (.int .u32 id) hx (keyOf_int_mk Try.underlying22 hid) ?_
 intro w1 h3 h4
 exact hK w1 ⟨_,h3,h2.del id⟩ (Only.of_grown h4.grown (fun k hk => by cases hk;rfl))
theorem MapI.store {b n : Nat} {f : Int → Option Int} (h : MapI w b n f) (hn : n < 1000000) {id c : Int} (hid : (Lit.int .u32 id).wf = true) (hc : (Lit.int .i64 c).wf = true) : ∃ w',(Instr.mapUpdate 105 (.map (some b)) (.int .u32 id) (.int .i64 c)).run Try.prog w = .ok () w' ∧ MapI w' b (n + 1) (fun z => if z = id then some c else f z) ∧ Only (fun k => k = b) w w' := by
 obtain ⟨D,h1,h2⟩ := h
 obtain ⟨w',hrun,h3,h4⟩ := h1.store keyU32 Try.underlying105 (by unfold maxLen;omega) (keyOf_int_mk Try.underlying22 hid) (plainElem_int Try.underlying3 hc)
 exact ⟨w',hrun,⟨_,h3,h2.put hid c⟩,Only.of_grown h4.grown (fun k hk => by cases hk;rfl)⟩
end
end Go.Proofs.Ytofmlajanopniaa.Li
namespace Go.Proofs.Ytofmlajanopniaa.Li
open Go.RowKit Go.Maps Go.Proofs.YtofmlajanopniaaW.PrintWords Go.Proofs.YtofmlajanopniaaW.PrintLast Go.Proofs.YtofmlajanopniaaW.PrintMore Go.Proofs.Ytofmlajanopniaa.Q Go.Proofs.Ytofmlajanopniaa.Tk
def XI (X : Nat → Prop) (b mb : Nat) (k : Nat) : Prop := X k ∨ k = b ∨ k = mb
structure PI (X : Nat → Prop) (w0 w : World) (b g mb : Nat) (lk wd en : Int) (s : Gr) (n : Nat) (f : Int → Option Int) : Prop where
 box : w.heap[b]? = some (.cells #[.int .u8 s.m,.int .i64 lk,.int .i64 wd,.pointer (some ⟨g,0,none⟩),.int .i64 en,.map (some mb)] 107 (0,0))
 map : MapI w mb n f
 gr : M1 (XI X b mb) w0 w g s
 b0 : w0.heap.size ≤ b
 m0 : w0.heap.size ≤ mb
 bX : ¬ X b
 mX : ¬ X mb
section
variable {X X' : Nat → Prop} {w0 w w' w2 : World} {b g mb : Nat} {lk wd en en' : Int} {s s' : Gr} {n n' : Nat} {f f' : Int → Option Int}
theorem PI.at0 (h : PI X w0 w b g mb lk wd en s n f) : Below w0.heap.size w0 w := h.gr.at0
theorem PI.xl (h : PI X w0 w b g mb lk wd en s n f) : ∀ k,X k → k < w.heap.size := fun k hk => h.gr.xl k (.inl hk)
theorem PI.ne (h : PI X w0 w b g mb lk wd en s n f) : b ≠ mb := fun e => h.map.nocells _ _ (e ▸ h.box)
theorem PI.below (h : PI X w0 w b g mb lk wd en s n f) (hb : Below w.heap.size w w') : PI X w0 w' b g mb lk wd en s n f :=
 ⟨blk_below h.box hb,h.map.same (hb.block mb h.map.lt),h.gr.below hb,h.b0,h.m0,h.bX,h.mX⟩
theorem PI.less (h : PI X w0 w b g mb lk wd en s n f) (hX : ∀ k,X' k → X k) : PI X' w0 w b g mb lk wd en s n f :=
 ⟨h.box,h.map,h.gr.less (fun k hk => hk.elim (fun hk => .inl (hX k hk)) .inr),h.b0,h.m0,fun hk => h.bX (hX _ hk),fun hk => h.mX (hX _ hk)⟩
theorem PI.later (h : PI X w0 w b g mb lk wd en s n f) (hb : Below w.heap.size w w') : PI (fun k => X k ∨ (w.heap.size ≤ k ∧ k < w'.heap.size)) w0 w' b g mb lk wd en s n f := by
 have lb := blk_lt h.box
 have lm := h.map.lt
 refine ⟨blk_below h.box hb,h.map.same (hb.block mb lm),(h.gr.later hb).less (fun k hk => ?_),h.b0,h.m0,fun hk => ?_,fun hk => ?_⟩
 ·rcases hk with (hk | hk) | hk
  ·exact .inl (.inl hk)
  ·exact .inr hk
  ·exact .inl (.inr hk)
 ·rcases hk with hk | hk
  ·exact h.bX hk
  ·omega
 ·rcases hk with hk | hk
  ·exact h.mX hk
  ·omega
theorem PI.beside (h : PI X w0 w b g mb lk wd en s n f) {S : Nat → Prop} (hO : Only S w w') (hS : ∀ k,S k → X k) (hl : ∀ k,S k → w0.heap.size ≤ k) : PI X w0 w' b g mb lk wd en s n f :=
 ⟨(hO.block b (blk_lt h.box) (fun hk => h.bX (hS _ hk))).trans h.box,h.map.same (hO.block mb h.map.lt (fun hk => h.mX (hS _ hk))),h.gr.beside hO (fun k hk => .inl (hS k hk)) hl,h.b0,h.m0,h.bX,h.mX⟩
theorem PI.op (h : PI X w0 w b g mb lk wd en s n f) (hG : M1 (XI X b mb) w0 w' g s') (hK : KeepX (XI X b mb) w w') (hm : s'.m = s.m) : PI X w0 w' b g mb lk wd en s' n f ∧ KeepX X w w' :=
 ⟨⟨by rw [hm];exact (hK.2 b (.inr (.inl rfl))).trans h.box,h.map.same (hK.2 mb (.inr (.inr rfl))),hG,h.b0,h.m0,h.bX,h.mX⟩,hK.less (fun k hk => .inl hk)⟩
theorem PI.put (h : PI X w0 w b g mb lk wd en s n f) (hM : MapI w' mb n' f') (hO : Only (fun k => k = mb) w w') : PI X w0 w' b g mb lk wd en s n' f' ∧ KeepX X w w' :=
 ⟨⟨(hO.block b (blk_lt h.box) h.ne).trans h.box,hM,h.gr.beside hO (fun k hk => .inr (.inr hk)) (fun k hk => by subst hk;exact h.m0),h.b0,h.m0,h.bX,h.mX⟩,KeepX.only h.xl hO (fun k hk hk2 => by subst hk2;exact h.mX hk)⟩
theorem PI.entry (h : PI X w0 w b g mb lk wd en s n f) (en' : Int) : PI X w0 (w.setCell ⟨b,4,none⟩ (.int .i64 en')) b g mb lk wd en' s n f ∧ KeepX X w (w.setCell ⟨b,4,none⟩ (.int .i64 en')) := by
 have hO : Only (fun k => k = b) w (w.setCell ⟨b,4,none⟩ (.int .i64 en')) := (Only.refl _ w).set _ _ rfl
 exact ⟨⟨blk_put h.box 4 _ rfl,h.map.same (hO.block mb h.map.lt (fun e => h.ne e.symm)),h.gr.beside hO (fun k hk => .inr (.inl hk)) (fun k hk => by subst hk;exact h.b0),h.b0,h.m0,h.bX,h.mX⟩,KeepX.only h.xl hO (fun k hk hk2 => by subst hk2;exact h.bX hk)⟩
theorem PI.keepB (h : PI X w0 w b g mb lk wd en s n f) (hb : Below w.heap.size w w') : KeepX X w w' := KeepX.below h.xl hb
end
section
variable {s : Gr} {a lv : Nat} {ls : List Int}
theorem link_m (a b lv most : Int) : (s.link a b lv most).2.m = s.m := by unfold Gr.link;split <;> rfl
end
structure IxOk (x : Ix) (n : Nat) : Prop where
 inv : Inv x.g n
 ids : ∀ nd ∈ x.g.l,(Lit.int .u32 nd.id).wf = true
 lk : 1 ≤ x.lk ∧ x.lk ≤ 8
 wd : 1 ≤ x.wd ∧ x.wd ≤ 256
 en : (x.en = -1 ∧ x.g.l = []) ∨ (x.g.there x.en 0 = true ∧ ∀ nd ∈ x.g.l,(nd.links.length : Int) - 1 ≤ topG x.g x.en)
 uniq : Uniq x.g
def PX (X : Nat → Prop) (w0 w : World) (b : Nat) (x : Ix) (n : Nat) : Prop := ∃ g mb,PI X w0 w b g mb x.lk x.wd x.en x.g n (nowM x.g)
section
variable {X X' : Nat → Prop} {w0 w w' : World} {b : Nat} {x : Ix} {n n' : Nat}
theorem PX.at0 (h : PX X w0 w b x n) : Below w0.heap.size w0 w := by obtain ⟨g,mb,h⟩ := h;exact h.at0
theorem PX.xl (h : PX X w0 w b x n) : ∀ k,X k → k < w.heap.size := by obtain ⟨g,mb,h⟩ := h;exact h.xl
theorem PX.below (h : PX X w0 w b x n) (hb : Below w.heap.size w w') : PX X w0 w' b x n := by obtain ⟨g,mb,h⟩ := h;exact ⟨g,mb,h.below hb⟩
theorem PX.less (h : PX X w0 w b x n) (hX : ∀ k,X' k → X k) : PX X' w0 w b x n := by obtain ⟨g,mb,h⟩ := h;exact ⟨g,mb,h.less hX⟩
theorem PX.later (h : PX X w0 w b x n) (hb : Below w.heap.size w w') : PX (fun k => X k ∨ (w.heap.size ≤ k ∧ k < w'.heap.size)) w0 w' b x n := by obtain ⟨g,mb,h⟩ := h;exact ⟨g,mb,h.later hb⟩
theorem PX.beside (h : PX X w0 w b x n) {S : Nat → Prop} (hO : Only S w w') (hS : ∀ k,S k → X k) (hl : ∀ k,S k → w0.heap.size ≤ k) : PX X w0 w' b x n := by obtain ⟨g,mb,h⟩ := h;exact ⟨g,mb,h.beside hO hS hl⟩
end
end Go.Proofs.Ytofmlajanopniaa.Li
namespace Go.Proofs.Ytofmlajanopniaa.Li
open Go.RowKit Go.Maps Go.Proofs.YtofmlajanopniaaW.PrintWords Go.Proofs.YtofmlajanopniaaW.PrintLast Go.Proofs.YtofmlajanopniaaW.PrintMore Go.Proofs.Ytofmlajanopniaa.Q Go.Proofs.Ytofmlajanopniaa.Tk
def thereV (fr un v : Int) : Bool := decide (fr ≤ v) && (un == 0 || decide (v < un))
set_option maxHeartbeats 4000000 in
set_option maxRecDepth 100000 in
theorem there_calls (id fr un v : Int) (A1 : Option Addr) (n1 c1 : Nat) (A2 : Option Addr) (n2 c2 : Nat) (A3 : Option Addr) (n3 c3 : Nat) (w : World) :
  Calls Try.prog 82 #[.agg #[.int .u32 id,.slice A1 n1 c1,.slice A2 n2 c2,.int .u64 fr,.int .u64 un,.slice A3 n3 c3],.int .u64 v] w fun e w' => e = .returned (.bool (thereV fr un v)) ∧ Below w.heap.size w w' := by
 have hu := Try.underlying37
 have HB0 := Aside0.mk (below_alloc (Below.refl w.heap.size w) (.cells #[.int .u32 id,.slice A1 n1 c1,.slice A2 n2 c2,.int .u64 fr,.int .u64 un,.slice A3 n3 c3] 37))
 unfold thereV
 by_cases h1 : fr ≤ v
 ·have q1 : decide (fr ≤ v) = true := decide_eq_true h1
  by_cases h2 : un = 0
  ·subst h2
   clear h1
   go_enter Try.func82,Try.ntmps82
   go_wp2
   go_ret
   refine ⟨?_,HB0.out⟩
   rw [q1];rfl
  ·have q2 : (un == 0) = false := by simpa using h2
   have q2' : (un = 0) = False := eq_false h2
   clear h1 h2
   go_enter Try.func82,Try.ntmps82
   go_wp2
   go_ret
   refine ⟨?_,HB0.out⟩
   rw [q1,q2];rfl
 ·have q1 : decide (fr ≤ v) = false := decide_eq_false h1
  clear h1
  go_enter Try.func82,Try.ntmps82
  go_wp2
  go_ret
  refine ⟨?_,HB0.out⟩
  rw [q1];rfl
section
variable {X : Nat → Prop} {w0 w : World} {b g mb : Nat} {lk wd en : Int} {s : Gr} {n : Nat} {f : Int → Option Int}
set_option maxHeartbeats 4000000 in
set_option maxRecDepth 100000 in
theorem PI.most (h : PI X w0 w b g mb lk wd en s n f) (hl : 1 ≤ lk ∧ lk ≤ 8) (lv : Int) : Calls Try.prog 62 #[.pointer (some ⟨b,0,none⟩),.int .i64 lv] w fun e w' => e = .returned (.int .i64 (mostX lk lv)) ∧ Below w.heap.size w w' := by
 have hu := Try.underlying107
 have y1 := (blk_cell h.box 1).trans rfl
 have hw : wrap64 (2 * lk) = 2 * lk := by unfold wrap64;omega
 clear h hl
 unfold mostX
 by_cases h0 : lv = 0
 ·subst h0
  go_enter Try.func62,Try.ntmps62
  go_wp2
  go_ret
  exact ⟨rfl,Below.refl _ _⟩
 ·have q : (lv == 0) = false := by simpa using h0
  have q' : (lv = 0) = False := eq_false h0
  rw [if_neg h0]
  clear h0
  go_enter Try.func62,Try.ntmps62
  go_wp2
  go_ret
  exact ⟨rfl,Below.refl _ _⟩
set_option maxHeartbeats 4000000 in
set_option maxRecDepth 100000 in
theorem PI.len_ (h : PI X w0 w b g mb lk wd en s n f) : Calls Try.prog 56 #[.pointer (some ⟨b,0,none⟩)] w fun e w' => e = .returned (.int .i64 s.l.length) ∧ Below w.heap.size w w' := by
 have hu := Try.underlying107
 have y3 := (blk_cell h.box 3).trans rfl
 have HX := Aside0.mk h.gr
 clear h
 go_enter Try.func56,Try.ntmps56
 go_wp2_with (go_at_call 18;(with_reducible refine (HX.out.lenP).mono ?_);rintro e w1 ⟨rfl,hb⟩;have HB1 := Aside0.mk hb;clear hb)
 go_ret
 exact ⟨rfl,HB1.out⟩
end
end Go.Proofs.Ytofmlajanopniaa.Li
namespace Go.Proofs.Ytofmlajanopniaa.Li
open Go.RowKit Go.Maps Go.Proofs.YtofmlajanopniaaW.PrintWords Go.Proofs.YtofmlajanopniaaW.PrintLast Go.Proofs.YtofmlajanopniaaW.PrintMore Go.Proofs.Ytofmlajanopniaa.Q Go.Proofs.Ytofmlajanopniaa.Tk
/-! ### Lists of whole numbers,written out -/
theorem row_lit {k : IntKind} {w : World} {c : Nat} {t : TypeId} (xs : List Int) (hl : xs.length ≤ 1000) (h : w.heap[c]? = some (.cells (xs.map (Value.int k)).toArray t (0,0))) : Kd.C (Kd.int k) w (some ⟨c,0,none⟩) xs.length xs := by
 refine ⟨rfl,by omega,fun _ => ⟨_,rfl,fun j p hj => ⟨[.int k p],rfl,rfl,fun i u hu => ?_⟩⟩⟩
 match i,hu with
 | 0,hu =>
  rw [add_plain,blk_cell h,List.getElem?_toArray]
  have e : j * (Kd.int k).sz + 0 = j := by show j * 1 + 0 = j;omega
  rw [e,List.getElem?_map,hj]
  exact hu
theorem lit_I (k : IntKind) (t : TypeId) (xs : List Int) (hl : xs.length ≤ 1000) (n : Nat) (hn : xs.length = n) (cs : Array Value) (hc : (xs.map (Value.int k)).toArray = cs) (w : World) : Kd.C (Kd.int k) (w.alloc (.cells cs t)) (some ⟨w.heap.size,0,none⟩) n xs := by
 subst hn hc
 exact row_lit xs hl (heap_alloc_new w _)
section
variable {w0 w w' : World} {g : Nat} {F F' : Nat → Prop} {T : Nat → Nat → Prop} {s : Gr}
end
/-! ### The example -/
end Go.Proofs.Ytofmlajanopniaa.Li
namespace Go.Proofs.Ytofmlajanopniaa.Li
open Go.RowKit Go.Maps Go.Proofs.YtofmlajanopniaaW.PrintWords Go.Proofs.YtofmlajanopniaaW.PrintLast Go.Proofs.YtofmlajanopniaaW.PrintMore Go.Proofs.Ytofmlajanopniaa.Q Go.Proofs.Ytofmlajanopniaa.Tk
theorem lit_at (k : IntKind) (t : TypeId) (xs : List Int) (hl : xs.length ≤ 1000) (n : Nat) (hn : xs.length = n) (cs : Array Value) (hc : (xs.map (Value.int k)).toArray = cs) (w : World) (b : Nat) (hb : w.heap.size = b) : Kd.C (Kd.int k) (w.alloc (.cells cs t)) (some ⟨b,0,none⟩) n xs := by
 subst hb
 exact lit_I k t xs hl n hn cs hc w
theorem lit1 (k : IntKind) (t : TypeId) (x : Int) (w : World) (b : Nat) (hb : w.heap.size = b) : Kd.C (Kd.int k) (w.alloc (.cells #[.int k x] t)) (some ⟨b,0,none⟩) 1 [x] := lit_at k t [x] (by simp) 1 rfl _ rfl w b hb
end Go.Proofs.Ytofmlajanopniaa.Li
namespace Go.Proofs.Ytofmlajanopniaa.Li
open Go.RowKit Go.Maps Go.Proofs.YtofmlajanopniaaW.PrintWords Go.Proofs.YtofmlajanopniaaW.PrintLast Go.Proofs.YtofmlajanopniaaW.PrintMore Go.Proofs.Ytofmlajanopniaa.Q Go.Proofs.Ytofmlajanopniaa.Tk
def VArr (t : Nat) (p : Value → Prop) (w : World) (b n : Nat) : Prop := ∃ cells : Array Value,w.heap[b]? = some (.cells cells t (0,0)) ∧ ∀ i,i < n → ∃ u,cells[i]? = some u ∧ p u
def isI (k : IntKind) (u : Value) : Prop := ∃ x,u = .int k x
section
variable {t t' : Nat} {p p' : Value → Prop} {w w1 : World} {b b' n n' : Nat}
theorem VArr.lt (h : VArr t p w b n) : b < w.heap.size := by obtain ⟨c,h,_⟩ := h;exact blk_lt h
theorem VArr.same (h : VArr t p w b n) (e : w1.heap[b]? = w.heap[b]?) : VArr t p w1 b n := by obtain ⟨c,h1,h2⟩ := h;exact ⟨c,e.trans h1,h2⟩
theorem VArr.below (h : VArr t p w b n) (hb : Below w.heap.size w w1) : VArr t p w1 b n := h.same (hb.block b h.lt)
theorem VArr.set (h : VArr t p w b n) (j : Nat) {u : Value} (hu : p u) : VArr t p (w.setCell ⟨b,j,none⟩ u) b n := by
 obtain ⟨c,h1,h2⟩ := h
 refine ⟨_,blk_set h1 j _,fun i hi => ?_⟩
 obtain ⟨x,hx,px⟩ := h2 i hi
 rw [Array.getElem?_setIfInBounds]
 by_cases e : j = i
 ·subst e
  have hj := (Array.getElem?_eq_some_iff.1 hx).1
  exact ⟨u,by simp [hj],hu⟩
 ·exact ⟨x,by rw [if_neg e];exact hx,px⟩
theorem VArr.any (h : VArr t p w b n) (j : Nat) {u : Value} (hu : p u) : VArr t p (w.setCell ⟨b',j,none⟩ u) b n := by
 by_cases e : b = b'
 ·subst e;exact h.set j hu
 ·exact h.same (Below.heap_setCell w ⟨b',j,none⟩ u b e)
theorem VArr.at (h : VArr t p w b n) {i : Nat} (hi : i < n) : (∃ u,w.cell? ⟨b,i,none⟩ = some u ∧ p u) ∧ w.frozen? ⟨b,i,none⟩ = false := by
 obtain ⟨c,h1,h2⟩ := h
 obtain ⟨x,hx,px⟩ := h2 i hi
 exact ⟨⟨x,(blk_cell h1 i).trans hx,px⟩,blk_frozen h1 i⟩
theorem VArr.far {k : Nat} {cs : Array Value} (h : VArr t p w b n) (hk : w.heap[k]? = some (.cells cs t' (0,0))) (ht : t' ≠ t) (j : Nat) (u : Value) : (w.setCell ⟨b,j,none⟩ u).heap[k]? = some (.cells cs t' (0,0)) := by
 obtain ⟨c,h1,h2⟩ := h
 exact (Below.heap_setCell w ⟨b,j,none⟩ u k (fun e => by have e : k = b := e;subst e;exact ht (blk_type hk h1))).trans hk
theorem VArr.past (h : VArr t p w b n) (h2 : VArr t' p' w b' n') (ht : t' ≠ t) (j : Nat) (u : Value) : VArr t' p' (w.setCell ⟨b,j,none⟩ u) b' n' := by
 obtain ⟨c,e1,e2⟩ := h2
 exact ⟨c,h.far e1 ht j u,e2⟩
end
def LArr (t : Nat) (p : Value → Prop) (w : World) (A : Option Addr) (b n : Nat) : Prop := 0 < n → A = some ⟨b,0,none⟩ ∧ VArr t p w b n
theorem LArr.below {t : Nat} {p : Value → Prop} {w w1 : World} {A : Option Addr} {b n : Nat} (h : LArr t p w A b n) (hb : Below w.heap.size w w1) : LArr t p w1 A b n := fun hn => ⟨(h hn).1,(h hn).2.below hb⟩
theorem LArr.only {t : Nat} {p : Value → Prop} {w w1 : World} {A : Option Addr} {b n : Nat} {S : Nat → Prop} (h : LArr t p w A b n) (hO : Only S w w1) (hs : 0 < n → ¬ S b) : LArr t p w1 A b n := fun hn => ⟨(h hn).1,(h hn).2.same (hO.block b (h hn).2.lt (hs hn))⟩
def LsArr (P : Nat → Prop) (w : World) (r : Nat) (ls : List (List Int)) : Prop := ∃ cells : Array Value,w.heap[r]? = some (.cells cells 40 (0,0)) ∧ ∀ (j : Nat) (l : List Int),ls[j]? = some l → ∃ (A : Option Addr) (c b : Nat),cells[j]? = some (.slice A l.length c) ∧ LArr 3 (isI .i64) w A b l.length ∧ (0 < l.length → P b)
section
variable {P : Nat → Prop} {w w1 : World} {r : Nat} {ls : List (List Int)}
theorem LsArr.at (h : LsArr P w r ls) {j : Nat} {l : List Int} (hj : ls[j]? = some l) : ∃ A c b,w.cell? ⟨r,j,none⟩ = some (.slice A l.length c) ∧ LArr 3 (isI .i64) w A b l.length ∧ (0 < l.length → P b) := by
 obtain ⟨cells,h1,h2⟩ := h
 obtain ⟨A,c,b,e1,e2,e3⟩ := h2 j l hj
 exact ⟨A,c,b,(blk_cell h1 j).trans e1,e2,e3⟩
theorem LsArr.set (h : LsArr P w r ls) {b n : Nat} (ha : VArr 3 (isI .i64) w b n) (i : Nat) (x : Int) : LsArr P (w.setCell ⟨b,i,none⟩ (.int .i64 x)) r ls := by
 obtain ⟨cells,h1,h2⟩ := h
 refine ⟨cells,ha.far h1 (by decide) i _,fun j l hj => ?_⟩
 obtain ⟨A,c,b2,e1,e2,e3⟩ := h2 j l hj
 exact ⟨A,c,b2,e1,fun hn => ⟨(e2 hn).1,(e2 hn).2.any i ⟨x,rfl⟩⟩,e3⟩
theorem LsArr.far {t : Nat} {p : Value → Prop} (h : LsArr P w r ls) {b n : Nat} (ha : VArr t p w b n) (h1 : t ≠ 40) (h2 : t ≠ 3) (i : Nat) (u : Value) : LsArr P (w.setCell ⟨b,i,none⟩ u) r ls := by
 obtain ⟨cells,k1,k2⟩ := h
 refine ⟨cells,ha.far k1 (fun e => h1 e.symm) i _,fun j l hj => ?_⟩
 obtain ⟨A,c,b2,e1,e2,e3⟩ := k2 j l hj
 exact ⟨A,c,b2,e1,fun hn => ⟨(e2 hn).1,VArr.past ha (e2 hn).2 (fun e => h2 e.symm) i u⟩,e3⟩
theorem LsArr.below (h : LsArr P w r ls) (hb : Below w.heap.size w w1) : LsArr P w1 r ls := by
 obtain ⟨cells,k1,k2⟩ := h
 refine ⟨cells,blk_below k1 hb,fun j l hj => ?_⟩
 obtain ⟨A,c,b2,e1,e2,e3⟩ := k2 j l hj
 exact ⟨A,c,b2,e1,e2.below hb,e3⟩
end
section
variable {w w' : World} {base : Nat} {F : Nat → Prop} {φ : Nat → Nat × Nat} {ψ : Nat → Nat} {i : Nat} {n : Nd} {A1 : Option Addr} {c1 : Nat} {A2 : Option Addr} {c2 r cap : Nat}
theorem NdR.told (h : NdR w base F all2 φ ψ i n A1 c1 A2 c2 r cap) (hm : n.links.length ≤ 1000) : n.vec.length ≤ c1 ∧ Kd.C (Kd.int .i32) w A1 n.vec.length n.vec ∧ n.tags.length ≤ c2 ∧ Kd.C Kd.string w A2 n.tags.length n.tags ∧ n.links.length ≤ cap ∧ Kd.C (Kd.slice 3 (Kd.int .i64)) w (some ⟨r,0,none⟩) n.links.length n.links := by
 have g1 := Kd.R_reads' h.vec
 have g2 := Kd.R_reads' h.tags
 obtain ⟨k1,k2,k3,k4,cells,k5,k6⟩ := h.lk
 refine ⟨g1.2.1,g1.2.2,g2.2.1,g2.2.2,k4,rfl,by omega,fun _ => ⟨_,rfl,fun j l hj => ?_⟩⟩
 obtain ⟨u,e1,e2⟩ := k6 j l hj
 obtain ⟨A,c,rfl,hl,hC⟩ := Kd.R_reads (e2 (all2_i _ _))
 refine ⟨[.slice A l.length c],rfl,⟨A,c,rfl,hl,hC⟩,fun i u hu => ?_⟩
 match i,hu with
 | 0,hu =>
  have e : j * (Kd.slice 3 (Kd.int .i64)).sz + 0 = j := by show j * 1 + 0 = j;omega
  rw [e,add_plain,blk_cell k5,e1]
  exact hu
theorem NdR.only {S : Nat → Prop} (h : NdR w base F all2 φ ψ i n A1 c1 A2 c2 r cap) (hO : Only S w w') (hs : ∀ k,F k → ¬ S k) : NdR w' base F all2 φ ψ i n A1 c1 A2 c2 r cap := h.keeps (fun k c t hk hc _ _ => hO.block k (blk_lt hc) (hs k hk))
end
end Go.Proofs.Ytofmlajanopniaa.Li
