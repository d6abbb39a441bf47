/- Texts of this claim,one behind the other: words,walks,plain laws. No condition. -/
import Derived.Test.YtofmlajanopniaaPk1
import Derived.Test.YtofmlajanopniaaPk5
import Derived.Test.YtofmlajanopniaaPk2
import Derived.Deep.RegionHeld3
set_option linter.unusedVariables false
set_option linter.unusedSimpArgs false
namespace Go.Proofs.Ytofmlajanopniaa.Li
open Go.RowKit Go.Maps Go.Proofs.YtofmlajanopniaaW.PrintWords Go.Proofs.YtofmlajanopniaaW.PrintLast Go.Proofs.YtofmlajanopniaaW.PrintMore Go.Proofs.Ytofmlajanopniaa.Q Go.Proofs.Ytofmlajanopniaa.Tk
def rfar.T1 : Bool × List (List Nat × List Nat) := (true,[([],[]),([0],[0]),([1],[1]),([2],[2]),([],[]),([],[]),([5],[5]),([6],[6]),([7],[7]),([],[]),([8,9],[8,9]),([10],[10]),([11],[11]),([12],[12]),([3,4,13],[3,4,13]),([14],[14]),([15],[15]),([15],[15]),([16,14,0,1,2,3,4,5,6,7,8,9,10,11,12,13,14,15,16],[16]),([17,18,0,1,2,3,4,5,6,7,8,9,10,11,12,13,14,15,16,17,18],[17])])
def rfar.B1 : List Nat := [0,1,3,7,0,0,32,96,224,0,992,2016,4064,8160,16383,32767,65535,65535,131071,524287]
theorem rfar.tab1 : rtab .any (opsOf Try.f74 1) = rfar.T1 := by kernel_rfl
theorem rfar.bits1 : waitsOk rfar.T1.2 rfar.B1 = true := by kernel_rfl
def rnear.T8 : Bool × List (List Nat × List Nat) := (true,[([],[]),([],[]),([],[]),([],[]),([],[]),([3,4],[3,4]),([5],[5]),([1,2,6],[1,2,6]),([],[]),([],[]),([8,9],[8,9]),([10],[10]),([11],[11]),([7,12],[7,12]),([0,13,7],[0,13]),([14,14,0,1,2,3,4,5,6,7,8,9,10,11,12,13,14],[0,14])])
def rnear.B8 : List Nat := [0,0,0,0,0,24,56,126,0,0,768,1792,3840,8190,16383,32767]
theorem rnear.tab8 : rtab .any (opsOf Try.f42 8) = rnear.T8 := by kernel_rfl
theorem rnear.bits8 : waitsOk rnear.T8.2 rnear.B8 = true := by kernel_rfl
theorem has_calls (A : Option Addr) (c : Nat) (L : List Int) (x : Int) (w : World) (hC : Kd.C (Kd.int .i64) w A L.length L) (hc : L.length ≤ c) (hl : L.length ≤ 1000000) (b : Bool) (hb : L.contains x = b) :
  Calls Try.prog 23 #[.slice A L.length c,.int .i64 x] w fun e w' => e = .returned (.bool b) ∧ Below w.heap.size w w' :=
 (lodestarref11_Has.calls (L.length + 1) A c L x b w hC hc (by rw [has_f L x hl (by omega),hb])).mono fun e w' ⟨he,h⟩ => ⟨he,h.below⟩
theorem rdist_calls (a0 : Int) (h0 : 0 ≤ a0) (A1 : Option Addr) (c1 : Nat) (l1 : List Int) (A2 : Option Addr) (c2 : Nat) (l2 : List Int) (D : Int × Bool) (hD : Fl.dist a0 l1 l2 = D) (w : World) (hr1 : Kd.C (Kd.int .i32) w A1 l1.length l1) (hc1 : l1.length ≤ c1) (hr2 : Kd.C (Kd.int .i32) w A2 l2.length l2) (hc2 : l2.length ≤ c2) :
  Calls Try.prog 88 #[.int .i64 a0,.slice A1 l1.length c1,.slice A2 l2.length c2] w fun e w' => e = .returned (.tuple #[.int .i64 D.1,.bool D.2]) ∧ Below w.heap.size w w' :=
 (lodestarref01_Dist.calls _ a0 A1 c1 l1 A2 c2 l2 D.1 D.2 w hr1 hc1 hr2 hc2 (by rw [Fl.rdist_f a0 h0 l1 l2 _ (Nat.le_refl _),hD])).mono fun e w' ⟨he,h⟩ => ⟨he,h.below⟩
theorem rinto_k (ao : Option Addr) (cap : Nat) (L : List H) (d k : Int) (hk : k % 4294967296 = k) (w : World) (h : ReadsH w ao cap L) (hl : L.length ≤ 1000000) :
  Calls Try.prog 73 #[.slice ao L.length cap,.agg #[.int .i64 d,.int .u32 (k % 4294967296)]] w fun e w' => (∃ v,e = .returned v ∧ OwnH w' w.heap.size v (intoL L ⟨d,k⟩)) ∧ Below w.heap.size w w' := by
 rw [hk]
 exact rinto_calls ao cap L d k w h hl
theorem OwnH.reads_ {w : World} {b n cap : Nat} {ao : Option Addr} {A : List H} (h : OwnH w b (.slice ao n cap) A) : ReadsH w ao cap A := by
 obtain ⟨a2,c2,e,hr⟩ := OwnH.R h
 injection e with e1 _ e3
 subst e1 e3
 exact hr
section
variable {w0 w w' : World} {g : Nat} {F F' : Nat → Prop} {s : Gr}
set_option maxHeartbeats 4000000 in
set_option maxRecDepth 100000 in
theorem DX.there_ (h : DX w0 w g F s) (i lv : Int) (b : Bool) (hb0 : s.there i lv = b) : Calls Try.prog 41 #[.pointer (some ⟨g,0,none⟩),.int .i64 i,.int .i64 lv] w fun e w' => e = .returned (.bool b) ∧ Below w.heap.size w w' := by
 have hu := Try.underlying48
 have hu2 := Try.underlying37
 obtain ⟨ao,cap,hb,_,hn⟩ := h.reads
 have y1 := (blk_cell hb 1).trans rfl
 have HN := Aside0.mk hn
 subst hb0
 clear h hb hn
 by_cases h0 : 0 ≤ i
 ·by_cases h1 : i < (s.l.length : Int)
  ·obtain ⟨k,rfl⟩ : ∃ k : Nat,i = (k : Int) := ⟨i.toNat,by omega⟩
   obtain ⟨n,hk⟩ : ∃ n,s.l[k]? = some n := ⟨_,List.getElem?_eq_getElem (by omega)⟩
   obtain ⟨ad,A1,c1,A2,c2,A3,c3,hao,hN⟩ := HN.out k n hk
   subst hao
   have y5 := hN.y5
   have q0 : decide ((0 : Int) ≤ (k : Int)) = true := decide_eq_true h0
   have q1 : decide ((k : Int) < (s.l.length : Int)) = true := decide_eq_true h1
   have q1' : k < s.l.length := by omega
   have q1'' : decide (k < s.l.length) = true := decide_eq_true q1'
   have HE := Aside0.mk (show s.there (k : Int) lv = (decide (0 ≤ lv) && decide (lv < (n.links.length : Int))) by unfold Gr.there;rw [lk_nat hk])
   rw [HE.out]
   clear hN
   by_cases h2 : 0 ≤ lv
   ·have q2 : decide (0 ≤ lv) = true := decide_eq_true h2
    clear h0 h1 h2 hk
    go_enter Try.func41,Try.ntmps41
    go_wp2
    go_ret
    refine ⟨?_,Below.refl _ _⟩
    rw [q2]
    rfl
   ·have q2 : decide (0 ≤ lv) = false := decide_eq_false h2
    clear h0 h1 h2 hk
    go_enter Try.func41,Try.ntmps41
    go_wp2
    go_ret
    refine ⟨?_,Below.refl _ _⟩
    rw [q2]
    rfl
  ·have q0 : decide (0 ≤ i) = true := decide_eq_true h0
   have q1 : decide (i < (s.l.length : Int)) = false := decide_eq_false h1
   have HE := Aside0.mk (there_no (s := s) (i := i) (lv := lv) (fun e => h1 (there_range e).2.1))
   rw [HE.out]
   clear h0 h1
   go_enter Try.func41,Try.ntmps41
   go_wp2
   go_ret
   exact ⟨rfl,Below.refl _ _⟩
 ·have q0 : decide (0 ≤ i) = false := decide_eq_false h0
  have HE := Aside0.mk (there_no (s := s) (i := i) (lv := lv) (fun e => h0 (there_range e).1))
  rw [HE.out]
  clear h0
  go_enter Try.func41,Try.ntmps41
  go_wp2
  go_ret
  exact ⟨rfl,Below.refl _ _⟩
set_option maxHeartbeats 4000000 in
set_option maxRecDepth 100000 in
theorem DX.far_ (h : DX w0 w g F s) (hm : 0 ≤ s.m) (A : Option Addr) (c : Nat) (q : List Int) (hq : Kd.C (Kd.int .i32) w A q.length q) (hqc : q.length ≤ c) (i : Nat) (hi : i < s.l.length) :
  Calls Try.prog 74 #[.pointer (some ⟨g,0,none⟩),.slice A q.length c,.int .i64 i] w fun e w' => e = .returned (.int .i64 (s.far q i)) ∧ Below w.heap.size w w' := by
 have hu := Try.underlying48
 have hu2 := Try.underlying37
 have hu4 := Try.underlying26
 obtain ⟨n,hn⟩ : ∃ n,s.l[i]? = some n := ⟨_,List.getElem?_eq_getElem hi⟩
 have q1 : (i : Int) < (s.l.length : Int) := by omega
 have HM := Aside0.mk hm
 have HQ := Aside0.mk (And.intro hq hqc)
 obtain ⟨D,hD⟩ : ∃ z,Fl.dist s.m q n.vec = z := ⟨_,rfl⟩
 have HD := Aside0.mk hD
 have HFAR := Aside0.mk (show s.far q (i : Int) = D.1 by unfold Gr.far;rw [vec_nat hn,hD])
 rw [HFAR.out]
 obtain ⟨ao,cap,hb, -,hnode⟩ := h.reads
 obtain ⟨ad,A1,c1,A2,c2,A3,c3,hao,hN⟩ := hnode i n hn
 subst hao
 have HX := Aside0.mk h
 have HGB := Aside0.mk hb
 have HN := Aside0.mk hN
 clear h hq hqc hn hm hD hi hb hnode hN
 go_enter Try.func74,Try.ntmps74
 go_wp2
 have HB := Aside0.mk ((below_drew (Below.refl _ _)) : Below w.heap.size w w.drew)
 have HXD := Aside0.mk (HX.out.below HB.out)
 have HGD := Aside0.mk (blk_below HGB.out HB.out)
 have HND := Aside0.mk (HN.out.below HB.out)
 clear HX HGB HN
 refine start_ (n := 20) (S := fun w' => w'.cell? ⟨g,0,none⟩ = some (.int .i64 s.m) ∧ w'.cell? ⟨g,1,none⟩ = some (.slice (some ad) s.l.length cap) ∧ w'.cell? ⟨(ad.add (i * 6)).block,(ad.add (i * 6)).off + 1,none⟩ = some (.slice A1 n.vec.length c1)) (ds := []) #[false,false,false,false,false,false,false,false,false,false,false,false,false,false,false,false,false,false,false,false] (by kernel_rfl) rfl rfl ⟨((blk_cell HGD.out 0).trans rfl),((blk_cell HGD.out 1).trans rfl),HND.out.y1⟩ (fun hHeld => ?_)
 refine with_tabW rfar.tab1 rfar.bits1 (fun HT_ HW_ => ?_)
 generalize w.drew = wd at HB HXD HGD HND hHeld ⊢
 refine pure_ (i := 0) (N := some 10) (v := ?_) (a' := ?_) #[true,false,false,false,false,false,false,false,false,false,false,false,false,false,false,false,false,false,false,false] rfl rfl (any_of HT_.out (by kernel_rfl)) (fun _ _ _ h => h) (Or.inl ⟨by rfl, ?_⟩) ?_ ?_
 rotate_left
 ·intro w'
  go_simp
  with_reducible rfl
 rotate_left
 ·simp only [Act.put,sT_,sZ_,sS_,i64_w,i32_w]
  rfl
 refine pure_ (i := 1) (N := some 11) (v := ?_) (a' := ?_) #[true,true,false,false,false,false,false,false,false,false,false,false,false,false,false,false,false,false,false,false] rfl rfl (any_of HT_.out (by kernel_rfl)) (fun _ _ _ h => h) (Or.inl ⟨by rfl, ?_⟩) ?_ ?_
 rotate_left
 ·intro w'
  go_simp
  with_reducible rfl
 rotate_left
 ·simp only [Act.put,sT_,sZ_,sS_,i64_w,i32_w]
  rfl
 refine pure_ (i := 2) (N := some 12) (v := ?_) (a' := ?_) #[true,true,true,false,false,false,false,false,false,false,false,false,false,false,false,false,false,false,false,false] rfl rfl (any_of HT_.out (by kernel_rfl)) (fun _ _ _ h => h) (Or.inl ⟨by rfl, ?_⟩) ?_ ?_
 rotate_left
 ·intro w'
  go_simp
  with_reducible rfl
 rotate_left
 ·simp only [Act.put,sT_,sZ_,sS_,i64_w,i32_w]
  rfl
 refine pure_ (i := 4) (N := some 14) (v := ?_) (a' := ?_) #[true,true,true,false,true,false,false,false,false,false,false,false,false,false,false,false,false,false,false,false] rfl rfl (any_of HT_.out (by kernel_rfl)) (fun _ _ _ h => h) (Or.inl ⟨by rfl, ?_⟩) ?_ ?_
 rotate_left
 ·intro w'
  go_simp
  with_reducible rfl
 rotate_left
 ·simp only [Act.put,sT_,sZ_,sS_,i64_w,i32_w]
  rfl
 refine pure_ (i := 5) (N := some 15) (v := ?_) (a' := ?_) #[true,true,true,false,true,true,false,false,false,false,false,false,false,false,false,false,false,false,false,false] rfl rfl (any_of HT_.out (by kernel_rfl)) (fun _ _ _ h => h) (Or.inl ⟨by rfl, ?_⟩) ?_ ?_
 rotate_left
 ·intro w'
  go_simp
  with_reducible rfl
 rotate_left
 ·simp only [Act.put,sT_,sZ_,sS_,i64_w,i32_w]
  rfl
 refine pure_ (i := 6) (N := some 16) (v := ?_) (a' := ?_) #[true,true,true,false,true,true,true,false,false,false,false,false,false,false,false,false,false,false,false,false] rfl rfl (any_of HT_.out (by kernel_rfl)) (fun _ _ _ h => h) (Or.inl ⟨by rfl, ?_⟩) ?_ ?_
 rotate_left
 ·intro w'
  go_simp
  with_reducible rfl
 rotate_left
 ·simp only [Act.put,sT_,sZ_,sS_,i64_w,i32_w]
  rfl
 refine pure_ (i := 7) (N := some 17) (v := ?_) (a' := ?_) #[true,true,true,false,true,true,true,true,false,false,false,false,false,false,false,false,false,false,false,false] rfl rfl (any_of HT_.out (by kernel_rfl)) (fun _ _ _ h => h) (Or.inl ⟨by rfl, ?_⟩) ?_ ?_
 rotate_left
 ·intro w'
  go_simp
  with_reducible rfl
 rotate_left
 ·simp only [Act.put,sT_,sZ_,sS_,i64_w,i32_w]
  rfl
 refine pure_ (i := 9) (N := some 19) (v := ?_) (a' := ?_) #[true,true,true,false,true,true,true,true,false,true,false,false,false,false,false,false,false,false,false,false] rfl rfl (any_of HT_.out (by kernel_rfl)) (fun _ _ _ h => h) (Or.inl ⟨by rfl, ?_⟩) ?_ ?_
 rotate_left
 ·intro w'
  go_simp
  with_reducible rfl
 rotate_left
 ·simp only [Act.put,sT_,sZ_,sS_,i64_w,i32_w]
  rfl
 refine take_ (i := 3) (N := some 13) (v := ?_) (a' := ?_) #[true,true,true,true,true,true,true,true,false,true,false,false,false,false,false,false,false,false,false,false] rfl rfl (take_ofW HT_.out HW_.out (by kernel_rfl)) (fun _ _ _ h => h) (Or.inl ⟨by rfl, ?_⟩) hHeld ?_ ?_
 rotate_left
 ·rintro w' ⟨s0,s1,s2⟩
  go_simp
  with_reducible rfl
 rotate_left
 ·simp only [Act.put,sT_,sZ_,sS_,i64_w,i32_w]
  rfl
 refine take_ (i := 8) (N := some 18) (v := ?_) (a' := ?_) #[true,true,true,true,true,true,true,true,true,true,false,false,false,false,false,false,false,false,false,false] rfl rfl (take_ofW HT_.out HW_.out (by kernel_rfl)) (fun _ _ _ h => h) (Or.inl ⟨by rfl, ?_⟩) hHeld ?_ ?_
 rotate_left
 ·rintro w' ⟨s0,s1,s2⟩
  go_simp
  with_reducible rfl
 rotate_left
 ·simp only [Act.put,sT_,sZ_,sS_,i64_w,i32_w]
  rfl
 refine pure_ (i := 10) (N := some 20) (v := ?_) (a' := ?_) #[true,true,true,true,true,true,true,true,true,true,true,false,false,false,false,false,false,false,false,false] rfl rfl (any_of HT_.out (by kernel_rfl)) (fun _ _ _ h => h) (Or.inl ⟨by rfl, ?_⟩) ?_ ?_
 rotate_left
 ·intro w'
  go_simp
  with_reducible rfl
 rotate_left
 ·simp only [Act.put,sT_,sZ_,sS_,i64_w,i32_w]
  rfl
 refine pure_ (i := 11) (N := some 21) (v := ?_) (a' := ?_) #[true,true,true,true,true,true,true,true,true,true,true,true,false,false,false,false,false,false,false,false] rfl rfl (any_of HT_.out (by kernel_rfl)) (fun _ _ _ h => h) (Or.inl ⟨by rfl, ?_⟩) ?_ ?_
 rotate_left
 ·intro w'
  go_simp
  with_reducible rfl
 rotate_left
 ·simp only [Act.put,sT_,sZ_,sS_,i64_w,i32_w]
  rfl
 refine pure_ (i := 12) (N := some 22) (v := ?_) (a' := ?_) #[true,true,true,true,true,true,true,true,true,true,true,true,true,false,false,false,false,false,false,false] rfl rfl (any_of HT_.out (by kernel_rfl)) (fun _ _ _ h => h) (Or.inl ⟨by rfl, ?_⟩) ?_ ?_
 rotate_left
 ·intro w'
  go_simp
  with_reducible rfl
 rotate_left
 ·simp only [Act.put,sT_,sZ_,sS_,i64_w,i32_w]
  rfl
 refine take_ (i := 13) (N := some 23) (v := ?_) (a' := ?_) #[true,true,true,true,true,true,true,true,true,true,true,true,true,true,false,false,false,false,false,false] rfl rfl (take_ofW HT_.out HW_.out (by kernel_rfl)) (fun _ _ _ h => h) (Or.inl ⟨by rfl, ?_⟩) hHeld ?_ ?_
 rotate_left
 ·rintro w' ⟨s0,s1,s2⟩
  go_simp
  with_reducible rfl
 rotate_left
 ·simp only [Act.put,sT_,sZ_,sS_,i64_w,i32_w]
  rfl
 refine one_ (i := 14) (N := some 24) #[true,true,true,true,true,true,true,true,true,true,true,true,true,true,true,false,false,false,false,false] rfl rfl (one_of HT_.out (by kernel_rfl)) (by decide) (fun K hK => ?_)
 refine goes_ Try.func88 (by kernel_rfl) rfl #[.int .i64 s.m,.slice A q.length c,.slice A1 n.vec.length c1] (by rfl) rfl rfl (by simp only [List.map_toArray,List.map_cons,List.map_nil];rfl) ?_
 with_reducible refine (rdist_calls s.m HM.out A c q A1 c1 n.vec D HD.out _ (Kd.C_below HQ.out.1 HB.out) HQ.out.2 HND.out.vec HND.out.fit1).mono ?_
 rintro e w2 ⟨rfl,hb⟩
 refine ⟨_,rfl, ?_⟩
 have HB2 := Aside0.mk (bel_trans HB.out hb)
 have HG2 := Aside0.mk (blk_below HGD.out hb)
 have HN2 := Aside0.mk (HND.out.below hb)
 clear hb
 refine hK.out _ _ ⟨((blk_cell HG2.out 0).trans rfl),((blk_cell HG2.out 1).trans rfl),HN2.out.y1⟩ (fun hHeld => ?_)
 clear hK K
 refine norm_ (a' := ?_) ?_ ?_
 rotate_left
 ·show Act.put _ (some 24) _ = _
  simp only [Act.put,sT_,sZ_,sS_,i64_w,i32_w]
  rfl
 refine pure_ (i := 15) (N := some 9) (v := ?_) (a' := ?_) #[true,true,true,true,true,true,true,true,true,true,true,true,true,true,true,true,false,false,false,false] rfl rfl (any_of HT_.out (by kernel_rfl)) (fun _ _ _ h => h) (Or.inl ⟨by rfl, ?_⟩) ?_ ?_
 rotate_left
 ·intro w'
  go_simp
  with_reducible rfl
 rotate_left
 ·simp only [Act.put,sT_,sZ_,sS_,i64_w,i32_w]
  rfl
 refine pure_ (i := 16) (N := some 25) (v := ?_) (a' := ?_) #[true,true,true,true,true,true,true,true,true,true,true,true,true,true,true,true,true,false,false,false] rfl rfl (any_of HT_.out (by kernel_rfl)) (fun _ _ _ h => h) (Or.inl ⟨by rfl, ?_⟩) ?_ ?_
 rotate_left
 ·intro w'
  go_simp
  with_reducible rfl
 rotate_left
 ·simp only [Act.put,sT_,sZ_,sS_,i64_w,i32_w]
  rfl
 refine pure_ (i := 17) (N := some 26) (v := ?_) (a' := ?_) #[true,true,true,true,true,true,true,true,true,true,true,true,true,true,true,true,true,true,false,false] rfl rfl (any_of HT_.out (by kernel_rfl)) (fun _ _ _ h => h) (Or.inl ⟨by rfl, ?_⟩) ?_ ?_
 rotate_left
 ·intro w'
  go_simp
  with_reducible rfl
 rotate_left
 ·simp only [Act.put,sT_,sZ_,sS_,i64_w,i32_w]
  rfl
 refine pure_ (i := 18) (N := some 7) (v := ?_) (a' := ?_) #[true,true,true,true,true,true,true,true,true,true,true,true,true,true,true,true,true,true,true,false] rfl rfl (any_of HT_.out (by kernel_rfl)) (fun _ _ _ h => h) (Or.inl ⟨by rfl, ?_⟩) ?_ ?_
 rotate_left
 ·intro w'
  go_simp
  with_reducible rfl
 rotate_left
 ·simp only [Act.put,sT_,sZ_,sS_,i64_w,i32_w]
  rfl
 refine pure_ (i := 19) (N := some 8) (v := ?_) (a' := ?_) #[true,true,true,true,true,true,true,true,true,true,true,true,true,true,true,true,true,true,true,true] rfl rfl (any_of HT_.out (by kernel_rfl)) (fun _ _ _ h => h) (Or.inl ⟨by rfl, ?_⟩) ?_ ?_
 rotate_left
 ·intro w'
  go_simp
  with_reducible rfl
 rotate_left
 ·simp only [Act.put,sT_,sZ_,sS_,i64_w,i32_w]
  rfl
 refine done_ (done_of HT_.out (by kernel_rfl)) ?_
 clear hHeld
 go_wp2
 go_ret
 exact ⟨rfl,HB2.out⟩
theorem far_w (h : DX w0 w g F s) (hm : 0 ≤ s.m) (A : Option Addr) (c : Nat) (q : List Int) (hq : Kd.C (Kd.int .i32) w A q.length q) (hqc : q.length ≤ c) (i : Nat) (hi : i < s.l.length) (hw : wrap64 (i : Int) = i) :
  Calls Try.prog 74 #[.pointer (some ⟨g,0,none⟩),.slice A q.length c,.int .i64 (wrap64 (i : Int))] w fun e w' => e = .returned (.int .i64 (s.far q i)) ∧ Below w.heap.size w w' := by
 rw [hw]
 exact h.far_ hm A c q hq hqc i hi
theorem nearD_take {L : List Int} {i : Nat} (hi : i < L.length) : nearD s (L.take (i + 1)) = nearStep s (nearD s (L.take i)) L[i] := by
 rw [List.take_succ_eq_append_getElem hi,nearD_snoc]
theorem nearD_len (s : Gr) (L : List Int) : (nearD s L).length ≤ L.length := by
 have := sub_len (l' := L) (nearD_nodup s L) (fun x hx => (mem_nearD.1 hx).1)
 exact this
theorem nearG_step {q L : List Int} {i : Nat} (hi : i < L.length) (hc : (s.there L[i] 0 && !(nearD s (L.take i)).contains L[i]) = true) : intoL (nearG s q (L.take i)) (s.hit q L[i]) = nearG s q (L.take (i + 1)) := by
 unfold nearG
 rw [near_into,nearD_take hi]
 unfold nearStep
 rw [if_pos hc]
theorem nearG_skip {q L : List Int} {i : Nat} (hi : i < L.length) (hc : (s.there L[i] 0 && !(nearD s (L.take i)).contains L[i]) = false) : nearG s q (L.take (i + 1)) = nearG s q (L.take i) ∧ nearD s (L.take (i + 1)) = nearD s (L.take i) := by
 have e : nearD s (L.take (i + 1)) = nearD s (L.take i) := by
  rw [nearD_take hi]
  unfold nearStep
  rw [if_neg (by rw [hc];simp)]
 exact ⟨by unfold nearG;rw [e],e⟩
set_option maxHeartbeats 8000000 in
set_option maxRecDepth 100000 in
theorem DX.near_ (h : DX w0 w g F s) (hm : 0 ≤ s.m) (A : Option Addr) (c : Nat) (q : List Int) (hq : Kd.C (Kd.int .i32) w A q.length q) (hqc : q.length ≤ c) (A2 : Option Addr) (c2 : Nat) (L : List Int) (N : Nat) (hN : L.length = N) (hL : Kd.C (Kd.int .i64) w A2 N L) (hl : s.l.length ≤ 100000) (hLl : N ≤ 100000) :
  Calls Try.prog 42 #[.pointer (some ⟨g,0,none⟩),.slice A q.length c,.slice A2 N c2] w fun e w' => (∃ v,e = .returned v ∧ OwnH w' w.heap.size v (nearG s q L)) ∧ Below w.heap.size w w' := by
 subst hN
 have hu := Try.underlying58
 have HX := Aside0.mk h
 have HQ := Aside0.mk (And.intro hq hqc)
 have HL := Aside0.mk hL
 have HM := Aside0.mk (And.intro hm (And.intro hl hLl))
 clear h hq hqc hL hm hl hLl
 go_enter Try.func42,Try.ntmps42
 go_wp2
 go_loopg [7,8,9] L.length (fun gk v7 v8 v9 wr => ∃ i : Nat,v9 = .int .i64 i ∧ Aside0 (i ≤ L.length ∧ L.length - i ≤ gk) ∧ Aside0 (OwnH wr w.heap.size v7 (nearG s q (L.take i))) ∧ Aside0 (OwnZ wr w.heap.size v8 (nearD s (L.take i))) ∧ Aside0 (Below w.heap.size w wr))
 case atStart => exact ⟨0,rfl,⟨by omega⟩,⟨by rw [show nearG s q (L.take 0) = [] by unfold nearG nearD;simp [sortH_nil]];exact own_nil _ _ _ _⟩,⟨OwnZ.nil _ _⟩,⟨Below.refl _ _⟩⟩
 case round =>
  obtain ⟨i,rfl,HI,HV,HZ,HB⟩ := hrel
  by_cases hi : i < L.length
  ·have q3 : decide ((i : Int) < (L.length : Int)) = true := decide_eq_true (by omega)
   have q3' : (i : Int) < (L.length : Int) := by omega
   have hi' : i < L.length := hi
   obtain ⟨ad,rfl,cw⟩ := int_at HL.out hi
   obtain ⟨x,hx⟩ : ∃ z,L[i] = z := ⟨_,rfl⟩
   rw [hx] at cw
   have HC0 := Aside0.mk cw
   have c0 := pw_cell_below HB.out cw
   clear cw
   have HII := Aside0.mk hi
   have hin : wrap64 ((i : Int) + 1) = ((i + 1 : Nat) : Int) := by have := HM.out;unfold wrap64;omega
   have HDL := Aside0.mk (show (nearD s (L.take i)).length ≤ 100000 by have h1 := nearD_len s (L.take i);rw [List.length_take] at h1;have := HM.out;omega)
   have HNL := Aside0.mk (show (nearG s q (L.take i)).length ≤ 100000 by have h1 := near_len s q (L.take i);rw [List.length_take] at h1;have := HM.out;omega)
   obtain ⟨az,cz,rfl,hcz,hCZ⟩ := HZ.out.C
   obtain ⟨ah,ch,rfl,hrh⟩ := OwnH.R HV.out
   have HCZ := Aside0.mk (And.intro hcz hCZ)
   have HRH := Aside0.mk hrh
   cases ht : s.there x 0 with
   | false =>
    have HT := Aside0.mk ht
    have HS := Aside0.mk (nearG_skip (s := s) (q := q) hi (by rw [hx,ht];rfl))
    clear ht hx hi hcz hCZ hrh
    go_wp2_with (go_at_call 41;(with_reducible refine ((HX.out.below HB.out).there_ x 0 _ HT.out).mono ?_);rintro e w1 ⟨rfl,hb⟩;have HB1 := Aside0.mk hb;clear hb c0)
    obtain ⟨gm,rfl⟩ : ∃ z,gk = z + 1 := ⟨gk - 1,by have := HI.out;have := HII.out;omega⟩
    go_roundg gm
    case measure => omega
    case rel =>
     refine ⟨i + 1,by go_num,⟨by have := HI.out;have := HII.out;omega⟩,⟨?_⟩,⟨?_⟩,⟨bel_trans HB.out HB1.out⟩⟩
     ·rw [HS.out.1];exact OwnH.below HV.out HB1.out
     ·rw [HS.out.2];exact HZ.out.below HB1.out
   | true =>
    obtain ⟨k,j,n,hkx, -,hn, -⟩ := there_iff.1 ht
    subst hkx
    have HKL := Aside0.mk ((List.getElem?_eq_some_iff.1 hn).1)
    have HT := Aside0.mk ht
    cases hc : (nearD s (L.take i)).contains (k : Int) with
    | true =>
     have HC := Aside0.mk hc
     have HS := Aside0.mk (nearG_skip (s := s) (q := q) hi (by rw [hx,ht,hc];rfl))
     clear ht hx hi hn hc hcz hCZ hrh
     go_wp2_with (first | (have := HB1;go_at_call 23;go_must (with_reducible refine (has_calls az cz _ k _ (Kd.C_below HCZ.out.2 HB1.out) HCZ.out.1 (by have := HDL.out;omega) _ HC.out).mono ?_);rintro e w2 ⟨rfl,hb⟩;have HB2 := Aside0.mk (bel_trans HB1.out hb);clear hb c0) | (go_at_call 41;(with_reducible refine ((HX.out.below HB.out).there_ k 0 _ HT.out).mono ?_);rintro e w1 ⟨rfl,hb⟩;have HB1 := Aside0.mk hb;replace c0 := pw_cell_below hb c0;clear hb))
     obtain ⟨gm,rfl⟩ : ∃ z,gk = z + 1 := ⟨gk - 1,by have := HI.out;have := HII.out;omega⟩
     go_roundg gm
     case measure => omega
     case rel =>
      refine ⟨i + 1,by go_num,⟨by have := HI.out;have := HII.out;omega⟩,⟨?_⟩,⟨?_⟩,⟨bel_trans HB.out HB2.out⟩⟩
      ·rw [HS.out.1];exact OwnH.below HV.out HB2.out
      ·rw [HS.out.2];exact HZ.out.below HB2.out
    | false =>
     have HC := Aside0.mk hc
     have hcond : (s.there L[i] 0 && !(nearD s (L.take i)).contains L[i]) = true := by rw [hx,ht,hc];rfl
     have HS1 := Aside0.mk (show intoL (nearG s q (L.take i)) ⟨s.far q k,k⟩ = nearG s q (L.take (i + 1)) by have h1 := nearG_step (s := s) (q := q) hi hcond;rw [hx] at h1;exact h1)
     have HS2 := Aside0.mk (show nearD s (L.take (i + 1)) = nearD s (L.take i) ++ [(k : Int)] by rw [nearD_take hi];unfold nearStep;rw [if_pos hcond,hx])
     have HWK := Aside0.mk (show (k : Int) % 4294967296 = (k : Int) by have := (List.getElem?_eq_some_iff.1 hn).1;have := HM.out;omega)
     clear ht hx hi hn hc hcond hcz hCZ hrh
     go_wp2_with (first | (have := HB2;at_builtin;go_must (refine app_Z rfl _ _ rfl w.heap.size _ (nearD s (L.take i)) [(k : Int)] (some ⟨w2.heap.size,0,none⟩) 1 1 rfl rfl rfl (HZ.out.below (below_trans_alloc HB2.out)) (lit_Z w2 k) (fun e => by cases e) (by have := HDL.out;simp only [List.length_cons,List.length_nil];omega) (by rw [World.size_alloc];have := HB.out.size;have := HB2.out.size;omega) ?_);intro v3 w3 hv hO hat;have HV3 := Aside0.mk hv;have hba := below_trans_alloc HB2.out (o := .cells #[.int .i64 (k : Int)] 3);have HH3 := Aside0.mk (show OwnH w3 w.heap.size (.slice ah (nearG s q (L.take i)).length ch) (nearG s q (L.take i)) from own_move (OwnH.below HV.out hba) (fun j hj => hO.block j (own_lt (OwnH.below HV.out hba) j hj) (fun e => by obtain ⟨c1,hc1⟩ := own_typed (OwnH.below HV.out hba) j hj;obtain ⟨c2,hc2⟩ := own_typed (HZ.out.below hba) j e;exact absurd (blk_type hc1 hc2) (by decide))));have HB3 := Aside0.mk (hO.below_of (bel_trans HB.out hba) (fun j hj => own_base HZ.out j hj));clear hv hO hat hba c0) | (have := HB1;go_at_call 23;go_must (with_reducible refine (has_calls az cz _ k _ (Kd.C_below HCZ.out.2 HB1.out) HCZ.out.1 (by have := HDL.out;omega) _ HC.out).mono ?_);rintro e w2 ⟨rfl,hb⟩;have HB2 := Aside0.mk (bel_trans HB1.out hb);replace c0 := pw_cell_below hb c0;clear hb) | (go_at_call 41;(with_reducible refine ((HX.out.below HB.out).there_ k 0 _ HT.out).mono ?_);rintro e w1 ⟨rfl,hb⟩;have HB1 := Aside0.mk hb;replace c0 := pw_cell_below hb c0;clear hb))
     have HBD := Aside0.mk (bel_trans HB3.out (below_drew (Below.refl _ _)) : Below w.heap.size w w3.drew)
     have HHD := Aside0.mk (OwnH.below HH3.out (below_drew (Below.refl _ _)))
     have HZD := Aside0.mk (HV3.out.below (below_drew (Below.refl _ _)))
     clear HB3 HH3 HV3
     refine start_ (n := 16) (S := fun w' => w'.cell? (ad.add i) = some (.int .i64 k)) (ds := []) #[false,false,false,false,false,false,false,false,false,false,false,false,false,false,false,false] (by kernel_rfl) rfl rfl ((pw_cell_below HBD.out HC0.out)) (fun hHeld => ?_)
     refine with_tabW rnear.tab8 rnear.bits8 (fun HT_ HW_ => ?_)
     generalize w3.drew = wd at HBD HHD HZD hHeld ⊢
     refine pure_ (i := 0) (N := some 38) (v := ?_) (a' := ?_) #[true,false,false,false,false,false,false,false,false,false,false,false,false,false,false,false] rfl rfl (any_of HT_.out (by kernel_rfl)) (fun _ _ _ h => h) (Or.inl ⟨by rfl, ?_⟩) ?_ ?_
     rotate_left
     ·intro w'
      go_simp
      with_reducible rfl
     rotate_left
     ·simp only [Act.put,sT_,sZ_,sS_,i64_w,i32_w]
      rfl
     refine pure_ (i := 1) (N := some 39) (v := ?_) (a' := ?_) #[true,true,false,false,false,false,false,false,false,false,false,false,false,false,false,false] rfl rfl (any_of HT_.out (by kernel_rfl)) (fun _ _ _ h => h) (Or.inl ⟨by rfl, ?_⟩) ?_ ?_
     rotate_left
     ·intro w'
      go_simp
      with_reducible rfl
     rotate_left
     ·simp only [Act.put,sT_,sZ_,sS_,i64_w,i32_w]
      rfl
     refine pure_ (i := 2) (N := some 40) (v := ?_) (a' := ?_) #[true,true,true,false,false,false,false,false,false,false,false,false,false,false,false,false] rfl rfl (any_of HT_.out (by kernel_rfl)) (fun _ _ _ h => h) (Or.inl ⟨by rfl, ?_⟩) ?_ ?_
     rotate_left
     ·intro w'
      go_simp
      with_reducible rfl
     rotate_left
     ·simp only [Act.put,sT_,sZ_,sS_,i64_w,i32_w]
      rfl
     refine pure_ (i := 3) (N := some 41) (v := ?_) (a' := ?_) #[true,true,true,true,false,false,false,false,false,false,false,false,false,false,false,false] rfl rfl (any_of HT_.out (by kernel_rfl)) (fun _ _ _ h => h) (Or.inl ⟨by rfl, ?_⟩) ?_ ?_
     rotate_left
     ·intro w'
      go_simp
      with_reducible rfl
     rotate_left
     ·simp only [Act.put,sT_,sZ_,sS_,i64_w,i32_w]
      rfl
     refine pure_ (i := 4) (N := some 42) (v := ?_) (a' := ?_) #[true,true,true,true,true,false,false,false,false,false,false,false,false,false,false,false] rfl rfl (any_of HT_.out (by kernel_rfl)) (fun _ _ _ h => h) (Or.inl ⟨by rfl, ?_⟩) ?_ ?_
     rotate_left
     ·intro w'
      go_simp
      with_reducible rfl
     rotate_left
     ·simp only [Act.put,sT_,sZ_,sS_,i64_w,i32_w]
      rfl
     refine pure_ (i := 5) (N := some 43) (v := ?_) (a' := ?_) #[true,true,true,true,true,true,false,false,false,false,false,false,false,false,false,false] rfl rfl (any_of HT_.out (by kernel_rfl)) (fun _ _ _ h => h) (Or.inl ⟨by rfl, ?_⟩) ?_ ?_
     rotate_left
     ·intro w'
      go_simp
      with_reducible rfl
     rotate_left
     ·simp only [Act.put,sT_,sZ_,sS_,i64_w,i32_w]
      rfl
     refine pure_ (i := 8) (N := some 46) (v := ?_) (a' := ?_) #[true,true,true,true,true,true,false,false,true,false,false,false,false,false,false,false] rfl rfl (any_of HT_.out (by kernel_rfl)) (fun _ _ _ h => h) (Or.inl ⟨by rfl, ?_⟩) ?_ ?_
     rotate_left
     ·intro w'
      go_simp
      with_reducible rfl
     rotate_left
     ·simp only [Act.put,sT_,sZ_,sS_,i64_w,i32_w]
      rfl
     refine pure_ (i := 9) (N := some 47) (v := ?_) (a' := ?_) #[true,true,true,true,true,true,false,false,true,true,false,false,false,false,false,false] rfl rfl (any_of HT_.out (by kernel_rfl)) (fun _ _ _ h => h) (Or.inl ⟨by rfl, ?_⟩) ?_ ?_
     rotate_left
     ·intro w'
      go_simp
      with_reducible rfl
     rotate_left
     ·simp only [Act.put,sT_,sZ_,sS_,i64_w,i32_w]
      rfl
     refine pure_ (i := 10) (N := some 48) (v := ?_) (a' := ?_) #[true,true,true,true,true,true,false,false,true,true,true,false,false,false,false,false] rfl rfl (any_of HT_.out (by kernel_rfl)) (fun _ _ _ h => h) (Or.inl ⟨by rfl, ?_⟩) ?_ ?_
     rotate_left
     ·intro w'
      go_simp
      with_reducible rfl
     rotate_left
     ·simp only [Act.put,sT_,sZ_,sS_,i64_w,i32_w]
      rfl
     refine take_ (i := 6) (N := some 44) (v := ?_) (a' := ?_) #[true,true,true,true,true,true,true,false,true,true,true,false,false,false,false,false] rfl rfl (take_ofW HT_.out HW_.out (by kernel_rfl)) (fun _ _ _ h => h) (Or.inl ⟨by rfl, ?_⟩) hHeld ?_ ?_
     rotate_left
     ·intro w' s0
      go_simp
      with_reducible rfl
     rotate_left
     ·simp only [Act.put,sT_,sZ_,sS_,i64_w,i32_w]
      rfl
     refine take_ (i := 11) (N := some 49) (v := ?_) (a' := ?_) #[true,true,true,true,true,true,true,false,true,true,true,true,false,false,false,false] rfl rfl (take_ofW HT_.out HW_.out (by kernel_rfl)) (fun _ _ _ h => h) (Or.inl ⟨by rfl, ?_⟩) hHeld ?_ ?_
     rotate_left
     ·intro w' s0
      go_simp
      with_reducible rfl
     rotate_left
     ·simp only [Act.put,sT_,sZ_,sS_,i64_w,i32_w]
      rfl
     refine pure_ (i := 12) (N := some 50) (v := ?_) (a' := ?_) #[true,true,true,true,true,true,true,false,true,true,true,true,true,false,false,false] rfl rfl (any_of HT_.out (by kernel_rfl)) (fun _ _ _ h => h) (Or.inl ⟨by rfl, ?_⟩) ?_ ?_
     rotate_left
     ·intro w'
      go_simp
      with_reducible rfl
     rotate_left
     ·simp only [Act.put,sT_,sZ_,sS_,i64_w,i32_w]
      rfl
     refine one_ (i := 7) (N := some 45) #[true,true,true,true,true,true,true,true,true,true,true,true,true,false,false,false] rfl rfl (one_of HT_.out (by kernel_rfl)) (by decide) (fun K hK => ?_)
     refine goes_ Try.func74 (by kernel_rfl) rfl #[.pointer (some ⟨g,0,none⟩),.slice A q.length c,.int .i64 k] (by rfl) rfl rfl (by simp only [List.map_toArray,List.map_cons,List.map_nil];rfl) ?_
     with_reducible refine ((HX.out.below HBD.out).far_ HM.out.1 A c q (Kd.C_below HQ.out.1 HBD.out) HQ.out.2 k HKL.out).mono ?_
     rintro e w7 ⟨rfl,hb⟩
     refine ⟨_,rfl, ?_⟩
     have HB7 := Aside0.mk (bel_trans HBD.out hb)
     have HH7 := Aside0.mk (OwnH.below HHD.out hb)
     have HZ7 := Aside0.mk (HZD.out.below hb)
     clear hb
     refine hK.out _ _ ((pw_cell_below HB7.out HC0.out)) (fun hHeld => ?_)
     clear hK K
     refine norm_ (a' := ?_) ?_ ?_
     rotate_left
     ·show Act.put _ (some 45) _ = _
      simp only [Act.put,sT_,sZ_,sS_,i64_w,i32_w]
      rfl
     refine pure_ (i := 13) (N := some 51) (v := ?_) (a' := ?_) #[true,true,true,true,true,true,true,true,true,true,true,true,true,true,false,false] rfl rfl (any_of HT_.out (by kernel_rfl)) (fun _ _ _ h => h) (Or.inl ⟨by rfl, ?_⟩) ?_ ?_
     rotate_left
     ·intro w'
      go_simp
      with_reducible rfl
     rotate_left
     ·simp only [Act.put,sT_,sZ_,sS_,i64_w,i32_w]
      rfl
     refine one_ (i := 14) (N := some 52) #[true,true,true,true,true,true,true,true,true,true,true,true,true,true,true,false] rfl rfl (one_of HT_.out (by kernel_rfl)) (by decide) (fun K hK => ?_)
     refine goes_ Try.func73 (by kernel_rfl) rfl #[.slice ah (nearG s q (L.take i)).length ch,.agg #[.int .i64 (s.far q k),.int .u32 ((k : Int) % 4294967296)]] (by rfl) rfl rfl (by simp only [List.map_toArray,List.map_cons,List.map_nil];rfl) ?_
     with_reducible refine (rinto_k ah ch (nearG s q (L.take i)) (s.far q k) k HWK.out _ (OwnH.reads_ HH7.out) (by have := HNL.out;omega)).mono ?_
     rintro e w8 ⟨⟨v8,rfl,hv⟩,hb⟩
     refine ⟨_,rfl, ?_⟩
     have HH8 := Aside0.mk (OwnH.weaken hv HB7.out.size)
     have HB8 := Aside0.mk (bel_trans HB7.out hb)
     have HZ8 := Aside0.mk (HZ7.out.below hb)
     clear hv hb
     refine hK.out _ _ ((pw_cell_below HB8.out HC0.out)) (fun hHeld => ?_)
     clear hK K
     refine norm_ (a' := ?_) ?_ ?_
     rotate_left
     ·show Act.put _ (some 52) _ = _
      simp only [Act.put,sT_,sZ_,sS_,i64_w,i32_w]
      rfl
     refine pure_ (i := 15) (N := some 7) (v := ?_) (a' := ?_) #[true,true,true,true,true,true,true,true,true,true,true,true,true,true,true,true] rfl rfl (any_of HT_.out (by kernel_rfl)) (fun _ _ _ h => h) (Or.inl ⟨by rfl, ?_⟩) ?_ ?_
     rotate_left
     ·intro w'
      go_simp
      with_reducible rfl
     rotate_left
     ·simp only [Act.put,sT_,sZ_,sS_,i64_w,i32_w]
      rfl
     refine done_ (done_of HT_.out (by kernel_rfl)) ?_
     clear hHeld
     go_wp2
     obtain ⟨gm,rfl⟩ : ∃ z,gk = z + 1 := ⟨gk - 1,by have := HI.out;have := HII.out;omega⟩
     go_roundg gm
     case measure => omega
     case rel =>
      refine ⟨i + 1,by go_num,⟨by have := HI.out;have := HII.out;omega⟩,⟨?_⟩,⟨?_⟩,HB8⟩
      ·rw [← HS1.out];exact HH8.out
      ·rw [HS2.out];exact HZ8.out
  ·have q3 : decide ((i : Int) < (L.length : Int)) = false := decide_eq_false (by omega)
   have q4 : decide (i < L.length) = false := decide_eq_false hi
   have HI0 := Aside0.mk (show i = L.length by have := HI.out;omega)
   rw [HI0.out,List.take_length] at HV
   clear hi HI HI0 HZ
   go_wp2
   go_ret
   exact ⟨⟨_,rfl,HV.out⟩,HB.out⟩
end
end Go.Proofs.Ytofmlajanopniaa.Li
namespace Go.Proofs.Ytofmlajanopniaa.Li
open Go.RowKit Go.Maps Go.Proofs.YtofmlajanopniaaW.PrintWords Go.Proofs.YtofmlajanopniaaW.PrintLast Go.Proofs.YtofmlajanopniaaW.PrintMore Go.Proofs.Ytofmlajanopniaa.Q Go.Proofs.Ytofmlajanopniaa.Tk
def rch.T10 : Bool × List (List Nat × List Nat) := (true,[([],[]),([0],[0]),([1],[1]),([1],[1]),([3,1],[1,3]),([4,1],[1,4]),([5,1],[1,5]),([1],[1]),([1],[1]),([7,8,1],[1,7,8]),([9,1],[1,9]),([6,10,1],[1,6,10]),([11,1],[1,11]),([12,1],[1,12]),([13,1],[1,13]),([1],[1]),([1],[1]),([15,16,1],[1,15,16]),([17,1],[1,17]),([18,1],[1,18]),([19,1],[1,19]),([2,14,20,1,1],[1,2,14,20]),([1],[1]),([1],[1]),([22,23,1],[1,22,23]),([24,1],[1,24]),([25,1],[1,25]),([21,26,1],[1,21,26]),([1,27],[1,27]),([28,21,0,1,2,3,4,5,6,7,8,9,10,11,12,13,14,15,16,17,18,19,20,21,22,23,24,25,26,27,28],[0,28])])
def rch.B10 : List Nat := [0,1,3,3,11,27,59,3,3,387,899,2043,4091,8187,16379,3,3,98307,229379,491523,1015811,2097151,3,3,12582915,29360131,62914563,134217727,268435455,536870911]
theorem rch.tab10 : rtab .any (opsOf Try.f43 10) = rch.T10 := by kernel_rfl
theorem rch.bits10 : waitsOk rch.T10.2 rch.B10 = true := by kernel_rfl
section
variable {s : Gr} {most : Int} {near : List H} {T : List Int}
theorem fill_step {j : Nat} {h : H} (hj : near[j]? = some h) : fillTo T near (j + 1) = if T.contains h.f1 = true then fillTo T near j else fillTo T near j ++ [h.f1] := by
 obtain ⟨hl,rfl⟩ := List.getElem?_eq_some_iff.1 hj
 unfold fillTo
 rw [List.take_succ_eq_append_getElem hl,List.map_append,List.filter_append,← List.append_assoc]
 by_cases hc : T.contains near[j].f1 = true
 ·have hf : [near[j].f1].filter (fun i => !T.contains i) = [] := by simp only [List.filter_cons,hc];simp
  rw [if_pos hc]
  show _ ++ [near[j].f1].filter _ = _
  rw [hf,List.append_nil]
 ·have hc' : T.contains near[j].f1 = false := by simpa using hc
  have hf : [near[j].f1].filter (fun i => !T.contains i) = [near[j].f1] := by simp only [List.filter_cons,hc'];simp
  rw [if_neg hc]
  show _ ++ [near[j].f1].filter _ = _
  rw [hf]
theorem fill_has (hn : (near.map S58.f1).Nodup) {j : Nat} {h : H} (hj : near[j]? = some h) : (fillTo T near j).contains h.f1 = T.contains h.f1 := by
 obtain ⟨hl,rfl⟩ := List.getElem?_eq_some_iff.1 hj
 have hnot : near[j].f1 ∉ (near.take j).map S58.f1 := fun hm => by
  have e : near = near.take j ++ near[j] :: near.drop (j + 1) := by rw [List.getElem_cons_drop,List.take_append_drop]
  rw [e,List.map_append,List.nodup_append] at hn
  exact hn.2.2 _ hm near[j].f1 (List.mem_map.2 ⟨near[j],List.mem_cons_self,rfl⟩) rfl
 rw [Bool.eq_iff_iff,List.contains_iff_mem,List.contains_iff_mem]
 unfold fillTo
 rw [List.mem_append]
 exact ⟨fun hm => hm.elim id (fun hm => absurd (List.mem_filter.1 hm).1 hnot),.inl⟩
theorem fill_zero : fillTo T near 0 = T := by simp [fillTo]
theorem fill_all {j : Nat} : fillTo T near near.length = fillTo T near j ++ ((near.drop j).map S58.f1).filter (fun i => !T.contains i) := by
 unfold fillTo
 rw [List.append_assoc,← List.filter_append,← List.map_append,List.take_append_drop,List.take_length]
theorem fill_done {q L : List Int} {j : Nat} (hT : T = (choose2 s most (nearG s q L)).1) (hle : ((fillTo T (nearG s q L) j).length : Int) ≤ max 0 most) (hd : (nearG s q L).length ≤ j ∨ most ≤ ((fillTo T (nearG s q L) j).length : Int)) : fillTo T (nearG s q L) j = chooseG s q L most := by
 obtain ⟨hp,_⟩ := choose_passed s most (near := nearG s q L) near_ids
 have hall : (choose2 s most (nearG s q L)).1 ++ (choose2 s most (nearG s q L)).2 = fillTo T (nearG s q L) (nearG s q L).length := by
  rw [hp,← hT]
  unfold fillTo
  rw [List.take_length]
 unfold chooseG
 rw [hall,fill_all (j := j)]
 rcases hd with hd | hd
 ·have e : ((nearG s q L).drop j).map S58.f1 = [] := by rw [List.drop_eq_nil_of_le hd];rfl
  rw [e,List.filter_nil,List.append_nil,List.take_of_length_le (by omega)]
 ·by_cases h0 : most ≤ 0
  ·have : (fillTo T (nearG s q L) j).length = 0 := by omega
   rw [show most.toNat = 0 by omega,List.take_zero]
   exact List.length_eq_zero_iff.1 this
  ·rw [List.take_append_of_le_length (by omega),List.take_of_length_le (by omega)]
theorem choose_same {i : Nat} (h : most ≤ (((choose2 s most (near.take i)).1.length : Nat) : Int)) : (choose2 s most near).1 = (choose2 s most (near.take i)).1 := by
 have e : near = near.take i ++ near.drop i := (List.take_append_drop i near).symm
 have e2 : choose2 s most near = (near.drop i).foldl (chooseStep s most) (choose2 s most (near.take i)) := by
  conv => lhs;rw [e]
  unfold choose2
  rw [List.foldl_append]
 rw [e2]
 exact choose_full s most _ _ h
theorem take_step {i : Nat} {h : H} (hi : near[i]? = some h) (hm : (((choose2 s most (near.take i)).1.length : Nat) : Int) < most) : (choose2 s most (near.take (i + 1))).1 = if blocked s (choose2 s most (near.take i)).1 h = true then (choose2 s most (near.take i)).1 else (choose2 s most (near.take i)).1 ++ [h.f1] := by
 obtain ⟨hl,rfl⟩ := List.getElem?_eq_some_iff.1 hi
 rw [List.take_succ_eq_append_getElem hl,choose2_snoc]
 unfold chooseStep
 rw [show decide (most ≤ ((choose2 s most (near.take i)).1.length : Int)) = false from decide_eq_false (by omega),Bool.or_false]
 split <;> rfl
def fineTo (s : Gr) (T : List Int) (h : H) (k : Nat) : Bool := !blocked s (T.take k) h
theorem fine_step {h : H} {k : Nat} {t : Int} (hk : T[k]? = some t) : fineTo s T h (k + 1) = (fineTo s T h k && decide (h.f0 ≤ s.far (s.vec t) h.f1)) := by
 obtain ⟨hl,rfl⟩ := List.getElem?_eq_some_iff.1 hk
 unfold fineTo blocked
 rw [List.take_succ_eq_append_getElem hl,List.any_append,Bool.not_or]
 congr 1
 simp only [List.any_cons,List.any_nil,Bool.or_false]
 rw [← decide_not]
 exact decide_eq_decide.2 (by omega)
theorem fine_zero {h : H} : fineTo s T h 0 = true := by simp [fineTo,blocked]
theorem fine_all {h : H} : fineTo s T h T.length = !blocked s T h := by unfold fineTo;rw [List.take_length]
end
section
variable {w0 w w' : World} {g : Nat} {F F' : Nat → Prop} {s : Gr}
set_option maxHeartbeats 16000000 in
set_option maxRecDepth 100000 in
theorem DX.choose_ (h : DX w0 w g F s) (hm : 0 ≤ s.m) (A : Option Addr) (c : Nat) (q : List Int) (hq : Kd.C (Kd.int .i32) w A q.length q) (hqc : q.length ≤ c) (A2 : Option Addr) (c2 : Nat) (L : List Int) (N : Nat) (hN : L.length = N) (hL : Kd.C (Kd.int .i64) w A2 N L) (hl : s.l.length ≤ 100000) (hLl : N ≤ 100000) (most : Int) :
  Calls Try.prog 43 #[.pointer (some ⟨g,0,none⟩),.slice A q.length c,.slice A2 N c2,.int .i64 most] w fun e w' => (∃ v,e = .returned v ∧ OwnZ w' w.heap.size v (chooseG s q L most)) ∧ Below w.heap.size w w' := by
 have hu := Try.underlying58
 have hu2 := Try.underlying37
 have hu3 := Try.underlying48
 have hu4 := Try.underlying26
 have HX := Aside0.mk h
 have HQ := Aside0.mk (And.intro hq hqc)
 have HL := Aside0.mk hL
 have HM := Aside0.mk (And.intro hm (And.intro hl hLl))
 have HNE := Aside0.mk hN
 obtain ⟨ANS,hANS⟩ : ∃ z,chooseG s q L most = z := ⟨_,rfl⟩
 rw [hANS]
 have HANS := Aside0.mk hANS
 clear h hq hqc hL hm hl hLl hN hANS
 go_enter Try.func43,Try.ntmps43
 go_wp2_with (go_at_call 42;(with_reducible refine (HX.out.near_ HM.out.1 A c q HQ.out.1 HQ.out.2 A2 c2 L N HNE.out HL.out HM.out.2.1 HM.out.2.2).mono ?_);rintro e w1 ⟨⟨v1,rfl,hv⟩,hb⟩;have HB1 := Aside0.mk hb;obtain ⟨ao,cp,rfl,hr⟩ := OwnH.R hv;have HR := Aside0.mk hr;clear hb hv hr)
 have HIDS := Aside0.mk (near_ids (s := s) (q := q) (L := L))
 have HPL := Aside0.mk (show ∀ x ∈ nearG s q L, ∃ k : Nat,x = ⟨s.far q k,k⟩ ∧ k < s.l.length from fun x hx => by
  obtain ⟨p,hpL,hp,hxe⟩ := mem_near.1 hx
  obtain ⟨k,jj,n,rfl, -,hn, -⟩ := there_iff.1 hp
  exact ⟨k,hxe.symm,(List.getElem?_eq_some_iff.1 hn).1⟩)
 have HNL := Aside0.mk (show (nearG s q L).length ≤ 100000 by have := near_len s q L;have := HM.out;have := HNE.out;omega)
 have HTK := Aside0.mk (fun i => taken_in (s := s) (q := q) (L := L) (most := most) (i := i))
 have HDONE := Aside0.mk (fun (T : List Int) (j : Nat) => fill_done (s := s) (most := most) (q := q) (L := L) (T := T) (j := j))
 rw [HANS.out] at HDONE
 generalize nearG s q L = M at HR HIDS HPL HNL HTK HDONE ⊢
 clear HANS HL
 go_loopg [10,11] M.length (fun gk v10 v11 wr => ∃ i : Nat,v11 = .int .i64 i ∧ Aside0 (i ≤ M.length ∧ M.length - i ≤ gk) ∧ Aside0 (OwnZ wr w1.heap.size v10 (choose2 s most (M.take i)).1) ∧ Aside0 (Below w1.heap.size w1 wr))
 case atStart => exact ⟨0,rfl,⟨by omega⟩,⟨OwnZ.nil _ _⟩,⟨Below.refl _ _⟩⟩
 case round =>
  obtain ⟨i,rfl,HI,HZ,HB⟩ := hrel
  have HTL := Aside0.mk (show (choose2 s most (M.take i)).1.length ≤ 100000 by have h1 := (choose2_len s most (M.take i)).1;rw [List.length_take] at h1;have := HNL.out;omega)
  have HTLM := Aside0.mk (choose2_len s most (M.take i)).2
  have HTI := Aside0.mk (HTK.out i)
  by_cases hi : i < M.length ∧ (((choose2 s most (M.take i)).1.length : Nat) : Int) < most
  ·obtain ⟨hi,hmo⟩ := hi
   have q3 : decide ((i : Int) < (M.length : Int)) = true := decide_eq_true (by omega)
   have q3' : (i : Int) < (M.length : Int) := by omega
   obtain ⟨ad,x,rfl,hx,cx0,cx1⟩ := HR.out.at hi
   have HTS := Aside0.mk (take_step (s := s) (most := most) hx hmo)
   obtain ⟨kx,hkx,hkl⟩ := HPL.out x (List.mem_of_getElem? hx)
   obtain ⟨dx,hdx⟩ : ∃ z,s.far q (kx : Int) = z := ⟨_,rfl⟩
   rw [hdx] at hkx
   subst hkx
   have HII := Aside0.mk hi
   have HKX := Aside0.mk hkl
   have HCX := Aside0.mk (And.intro cx0 cx1)
   have HWK := Aside0.mk (show wrap64 (kx : Int) = (kx : Int) by have := HKX.out;have := HM.out;unfold wrap64;omega)
   generalize (choose2 s most (M.take i)).1 = T at HZ HTL HTLM HTI HTS hmo
   have q4 : decide ((T.length : Int) < most) = true := decide_eq_true hmo
   have hin : wrap64 ((i : Int) + 1) = ((i + 1 : Nat) : Int) := by have := HNL.out;unfold wrap64;omega
   obtain ⟨az,cz,rfl,hcz,hCZ⟩ := HZ.out.C
   have HCZ := Aside0.mk (And.intro hcz hCZ)
   obtain ⟨go,rfl⟩ : ∃ z,gk = z + 1 := ⟨gk - 1,by have := HI.out;omega⟩
   obtain ⟨wo,rfl⟩ : ∃ z,z = wr := ⟨_,rfl⟩
   clear hi hmo hx hkl hdx cx0 cx1 hcz hCZ
   go_wp2
   go_loopg [12,13] T.length (fun gk v12 v13 wr => ∃ k : Nat,v13 = .int .i64 k ∧ v12 = .bool (fineTo s T ⟨dx,kx⟩ k) ∧ Aside0 (k ≤ T.length ∧ T.length - k ≤ gk) ∧ Aside0 (Below wo.heap.size wo wr))
   case atStart => exact ⟨0,rfl,by rw [fine_zero],⟨by omega⟩,⟨by first | exact Below.refl _ _ | exact below_drew (Below.refl _ _)⟩⟩
   case round =>
    obtain ⟨k,rfl,rfl,HK,HB2⟩ := hrel
    by_cases hk : k < T.length
    ·have p3 : decide ((k : Int) < (T.length : Int)) = true := decide_eq_true (by omega)
     have p3' : (k : Int) < (T.length : Int) := by omega
     have HKK := Aside0.mk hk
     obtain ⟨adz,rfl,cz0⟩ := int_at HCZ.out.2 hk
     obtain ⟨t,ht,htl⟩ := HTI.out T[k] (List.getElem_mem hk)
     rw [ht] at cz0
     have HFS := Aside0.mk (fine_step (s := s) (h := ⟨dx,kx⟩) (List.getElem?_eq_getElem hk))
     rw [ht] at HFS
     have HCZ0 := Aside0.mk cz0
     obtain ⟨n,hn⟩ : ∃ n,s.l[t]? = some n := ⟨_,List.getElem?_eq_getElem htl⟩
     have HNN := Aside0.mk hn
     have HVN := Aside0.mk (vec_nat hn)
     have htl' : (t : Int) < (s.l.length : Int) := by omega
     have hkn : wrap64 ((k : Int) + 1) = ((k + 1 : Nat) : Int) := by have := HTL.out;unfold wrap64;omega
     obtain ⟨f0,hf0⟩ : ∃ z,fineTo s T ⟨dx,kx⟩ k = z := ⟨_,rfl⟩
     rw [hf0] at HFS ⊢
     clear hk ht htl hn cz0 hf0
     obtain ⟨gm,rfl⟩ : ∃ z,gk = z + 1 := ⟨gk - 1,by have := HK.out;have := HKK.out;omega⟩
     cases f0 with
     | false =>
      go_wp2
      have HBD := Aside0.mk (bel_trans HB2.out (below_drew (Below.refl _ _)) : Below wo.heap.size wo wr.drew)
      clear HB2
      refine start_ (n := 30) (S := fun w' => True) (ds := []) #[false,false,false,false,false,false,false,false,false,false,false,false,false,false,false,false,false,false,false,false,false,false,false,false,false,false,false,false,false,false] (by kernel_rfl) rfl rfl trivial (fun hHeld => ?_)
      refine with_tabW rch.tab10 rch.bits10 (fun HT_ HW_ => ?_)
      generalize wr.drew = wd at HBD hHeld ⊢
      refine pure_ (i := 0) (N := some 37) (v := ?_) (a' := ?_) #[true,false,false,false,false,false,false,false,false,false,false,false,false,false,false,false,false,false,false,false,false,false,false,false,false,false,false,false,false,false] rfl rfl (any_of HT_.out (by kernel_rfl)) (fun _ _ _ h => h) (Or.inl ⟨by rfl, ?_⟩) ?_ ?_
      rotate_left
      ·intro w'
       go_simp
       with_reducible rfl
      rotate_left
      ·simp only [Act.put,sT_,sZ_,sS_,i64_w,i32_w]
       rfl
      refine pure_ (i := 1) (N := some 38) (v := ?_) (a' := ?_) #[true,true,false,false,false,false,false,false,false,false,false,false,false,false,false,false,false,false,false,false,false,false,false,false,false,false,false,false,false,false] rfl rfl (any_of HT_.out (by kernel_rfl)) (fun _ _ _ h => h) (Or.inl ⟨by rfl, ?_⟩) ?_ ?_
      rotate_left
      ·intro w'
       go_simp
       with_reducible rfl
      rotate_left
      ·simp only [Act.put,sT_,sZ_,sS_,i64_w,i32_w]
       rfl
      refine pure_ (i := 2) (N := some 39) (v := undef) (a' := ?_) #[true,true,true,false,false,false,false,false,false,false,false,false,false,false,false,false,false,false,false,false,false,false,false,false,false,false,false,false,false,false] rfl rfl (any_of HT_.out (by kernel_rfl)) (fun _ _ _ h => h) (Or.inr ⟨by rfl,rfl⟩) ?_ ?_
      rotate_left
      ·simp only [Act.put,sT_,sZ_,sS_,i64_w,i32_w]
       rfl
      refine pure_ (i := 3) (N := some 40) (v := undef) (a' := ?_) #[true,true,true,true,false,false,false,false,false,false,false,false,false,false,false,false,false,false,false,false,false,false,false,false,false,false,false,false,false,false] rfl rfl (any_of HT_.out (by kernel_rfl)) (fun _ _ _ h => h) (Or.inr ⟨by rfl,rfl⟩) ?_ ?_
      rotate_left
      ·simp only [Act.put,sT_,sZ_,sS_,i64_w,i32_w]
       rfl
      refine pure_ (i := 4) (N := some 41) (v := undef) (a' := ?_) #[true,true,true,true,true,false,false,false,false,false,false,false,false,false,false,false,false,false,false,false,false,false,false,false,false,false,false,false,false,false] rfl rfl (any_of HT_.out (by kernel_rfl)) (fun _ _ _ h => h) (Or.inr ⟨by rfl,rfl⟩) ?_ ?_
      rotate_left
      ·simp only [Act.put,sT_,sZ_,sS_,i64_w,i32_w]
       rfl
      refine pure_ (i := 5) (N := some 42) (v := undef) (a' := ?_) #[true,true,true,true,true,true,false,false,false,false,false,false,false,false,false,false,false,false,false,false,false,false,false,false,false,false,false,false,false,false] rfl rfl (any_of HT_.out (by kernel_rfl)) (fun _ _ _ h => h) (Or.inr ⟨by rfl,rfl⟩) ?_ ?_
      rotate_left
      ·simp only [Act.put,sT_,sZ_,sS_,i64_w,i32_w]
       rfl
      refine pure_ (i := 6) (N := some 43) (v := undef) (a' := ?_) #[true,true,true,true,true,true,true,false,false,false,false,false,false,false,false,false,false,false,false,false,false,false,false,false,false,false,false,false,false,false] rfl rfl (any_of HT_.out (by kernel_rfl)) (fun _ _ _ h => h) (Or.inr ⟨by rfl,rfl⟩) ?_ ?_
      rotate_left
      ·simp only [Act.put,sT_,sZ_,sS_,i64_w,i32_w]
       rfl
      refine pure_ (i := 7) (N := some 44) (v := undef) (a' := ?_) #[true,true,true,true,true,true,true,true,false,false,false,false,false,false,false,false,false,false,false,false,false,false,false,false,false,false,false,false,false,false] rfl rfl (any_of HT_.out (by kernel_rfl)) (fun _ _ _ h => h) (Or.inr ⟨by rfl,rfl⟩) ?_ ?_
      rotate_left
      ·simp only [Act.put,sT_,sZ_,sS_,i64_w,i32_w]
       rfl
      refine pure_ (i := 8) (N := some 45) (v := undef) (a' := ?_) #[true,true,true,true,true,true,true,true,true,false,false,false,false,false,false,false,false,false,false,false,false,false,false,false,false,false,false,false,false,false] rfl rfl (any_of HT_.out (by kernel_rfl)) (fun _ _ _ h => h) (Or.inr ⟨by rfl,rfl⟩) ?_ ?_
      rotate_left
      ·simp only [Act.put,sT_,sZ_,sS_,i64_w,i32_w]
       rfl
      refine pure_ (i := 9) (N := some 46) (v := undef) (a' := ?_) #[true,true,true,true,true,true,true,true,true,true,false,false,false,false,false,false,false,false,false,false,false,false,false,false,false,false,false,false,false,false] rfl rfl (any_of HT_.out (by kernel_rfl)) (fun _ _ _ h => h) (Or.inr ⟨by rfl,rfl⟩) ?_ ?_
      rotate_left
      ·simp only [Act.put,sT_,sZ_,sS_,i64_w,i32_w]
       rfl
      refine pure_ (i := 10) (N := some 47) (v := undef) (a' := ?_) #[true,true,true,true,true,true,true,true,true,true,true,false,false,false,false,false,false,false,false,false,false,false,false,false,false,false,false,false,false,false] rfl rfl (any_of HT_.out (by kernel_rfl)) (fun _ _ _ h => h) (Or.inr ⟨by rfl,rfl⟩) ?_ ?_
      rotate_left
      ·simp only [Act.put,sT_,sZ_,sS_,i64_w,i32_w]
       rfl
      refine pure_ (i := 11) (N := some 48) (v := undef) (a' := ?_) #[true,true,true,true,true,true,true,true,true,true,true,true,false,false,false,false,false,false,false,false,false,false,false,false,false,false,false,false,false,false] rfl rfl (any_of HT_.out (by kernel_rfl)) (fun _ _ _ h => h) (Or.inr ⟨by rfl,rfl⟩) ?_ ?_
      rotate_left
      ·simp only [Act.put,sT_,sZ_,sS_,i64_w,i32_w]
       rfl
      refine pure_ (i := 12) (N := some 49) (v := undef) (a' := ?_) #[true,true,true,true,true,true,true,true,true,true,true,true,true,false,false,false,false,false,false,false,false,false,false,false,false,false,false,false,false,false] rfl rfl (any_of HT_.out (by kernel_rfl)) (fun _ _ _ h => h) (Or.inr ⟨by rfl,rfl⟩) ?_ ?_
      rotate_left
      ·simp only [Act.put,sT_,sZ_,sS_,i64_w,i32_w]
       rfl
      refine pure_ (i := 13) (N := some 50) (v := undef) (a' := ?_) #[true,true,true,true,true,true,true,true,true,true,true,true,true,true,false,false,false,false,false,false,false,false,false,false,false,false,false,false,false,false] rfl rfl (any_of HT_.out (by kernel_rfl)) (fun _ _ _ h => h) (Or.inr ⟨by rfl,rfl⟩) ?_ ?_
      rotate_left
      ·simp only [Act.put,sT_,sZ_,sS_,i64_w,i32_w]
       rfl
      refine pure_ (i := 14) (N := some 51) (v := undef) (a' := ?_) #[true,true,true,true,true,true,true,true,true,true,true,true,true,true,true,false,false,false,false,false,false,false,false,false,false,false,false,false,false,false] rfl rfl (any_of HT_.out (by kernel_rfl)) (fun _ _ _ h => h) (Or.inr ⟨by rfl,rfl⟩) ?_ ?_
      rotate_left
      ·simp only [Act.put,sT_,sZ_,sS_,i64_w,i32_w]
       rfl
      refine pure_ (i := 15) (N := some 52) (v := undef) (a' := ?_) #[true,true,true,true,true,true,true,true,true,true,true,true,true,true,true,true,false,false,false,false,false,false,false,false,false,false,false,false,false,false] rfl rfl (any_of HT_.out (by kernel_rfl)) (fun _ _ _ h => h) (Or.inr ⟨by rfl,rfl⟩) ?_ ?_
      rotate_left
      ·simp only [Act.put,sT_,sZ_,sS_,i64_w,i32_w]
       rfl
      refine pure_ (i := 16) (N := some 53) (v := undef) (a' := ?_) #[true,true,true,true,true,true,true,true,true,true,true,true,true,true,true,true,true,false,false,false,false,false,false,false,false,false,false,false,false,false] rfl rfl (any_of HT_.out (by kernel_rfl)) (fun _ _ _ h => h) (Or.inr ⟨by rfl,rfl⟩) ?_ ?_
      rotate_left
      ·simp only [Act.put,sT_,sZ_,sS_,i64_w,i32_w]
       rfl
      refine pure_ (i := 17) (N := some 54) (v := undef) (a' := ?_) #[true,true,true,true,true,true,true,true,true,true,true,true,true,true,true,true,true,true,false,false,false,false,false,false,false,false,false,false,false,false] rfl rfl (any_of HT_.out (by kernel_rfl)) (fun _ _ _ h => h) (Or.inr ⟨by rfl,rfl⟩) ?_ ?_
      rotate_left
      ·simp only [Act.put,sT_,sZ_,sS_,i64_w,i32_w]
       rfl
      refine pure_ (i := 18) (N := some 55) (v := undef) (a' := ?_) #[true,true,true,true,true,true,true,true,true,true,true,true,true,true,true,true,true,true,true,false,false,false,false,false,false,false,false,false,false,false] rfl rfl (any_of HT_.out (by kernel_rfl)) (fun _ _ _ h => h) (Or.inr ⟨by rfl,rfl⟩) ?_ ?_
      rotate_left
      ·simp only [Act.put,sT_,sZ_,sS_,i64_w,i32_w]
       rfl
      refine pure_ (i := 19) (N := some 56) (v := undef) (a' := ?_) #[true,true,true,true,true,true,true,true,true,true,true,true,true,true,true,true,true,true,true,true,false,false,false,false,false,false,false,false,false,false] rfl rfl (any_of HT_.out (by kernel_rfl)) (fun _ _ _ h => h) (Or.inr ⟨by rfl,rfl⟩) ?_ ?_
      rotate_left
      ·simp only [Act.put,sT_,sZ_,sS_,i64_w,i32_w]
       rfl
      refine pure_ (i := 20) (N := some 57) (v := undef) (a' := ?_) #[true,true,true,true,true,true,true,true,true,true,true,true,true,true,true,true,true,true,true,true,true,false,false,false,false,false,false,false,false,false] rfl rfl (any_of HT_.out (by kernel_rfl)) (fun _ _ _ h => h) (Or.inr ⟨by rfl,rfl⟩) ?_ ?_
      rotate_left
      ·simp only [Act.put,sT_,sZ_,sS_,i64_w,i32_w]
       rfl
      refine pure_ (i := 21) (N := some 58) (v := undef) (a' := ?_) #[true,true,true,true,true,true,true,true,true,true,true,true,true,true,true,true,true,true,true,true,true,true,false,false,false,false,false,false,false,false] rfl rfl (any_of HT_.out (by kernel_rfl)) (fun _ _ _ h => h) (Or.inr ⟨by rfl,rfl⟩) ?_ ?_
      rotate_left
      ·simp only [Act.put,sT_,sZ_,sS_,i64_w,i32_w]
       rfl
      refine pure_ (i := 22) (N := some 59) (v := undef) (a' := ?_) #[true,true,true,true,true,true,true,true,true,true,true,true,true,true,true,true,true,true,true,true,true,true,true,false,false,false,false,false,false,false] rfl rfl (any_of HT_.out (by kernel_rfl)) (fun _ _ _ h => h) (Or.inr ⟨by rfl,rfl⟩) ?_ ?_
      rotate_left
      ·simp only [Act.put,sT_,sZ_,sS_,i64_w,i32_w]
       rfl
      refine pure_ (i := 23) (N := some 60) (v := undef) (a' := ?_) #[true,true,true,true,true,true,true,true,true,true,true,true,true,true,true,true,true,true,true,true,true,true,true,true,false,false,false,false,false,false] rfl rfl (any_of HT_.out (by kernel_rfl)) (fun _ _ _ h => h) (Or.inr ⟨by rfl,rfl⟩) ?_ ?_
      rotate_left
      ·simp only [Act.put,sT_,sZ_,sS_,i64_w,i32_w]
       rfl
      refine pure_ (i := 24) (N := some 61) (v := undef) (a' := ?_) #[true,true,true,true,true,true,true,true,true,true,true,true,true,true,true,true,true,true,true,true,true,true,true,true,true,false,false,false,false,false] rfl rfl (any_of HT_.out (by kernel_rfl)) (fun _ _ _ h => h) (Or.inr ⟨by rfl,rfl⟩) ?_ ?_
      rotate_left
      ·simp only [Act.put,sT_,sZ_,sS_,i64_w,i32_w]
       rfl
      refine pure_ (i := 25) (N := some 62) (v := undef) (a' := ?_) #[true,true,true,true,true,true,true,true,true,true,true,true,true,true,true,true,true,true,true,true,true,true,true,true,true,true,false,false,false,false] rfl rfl (any_of HT_.out (by kernel_rfl)) (fun _ _ _ h => h) (Or.inr ⟨by rfl,rfl⟩) ?_ ?_
      rotate_left
      ·simp only [Act.put,sT_,sZ_,sS_,i64_w,i32_w]
       rfl
      refine pure_ (i := 26) (N := some 63) (v := undef) (a' := ?_) #[true,true,true,true,true,true,true,true,true,true,true,true,true,true,true,true,true,true,true,true,true,true,true,true,true,true,true,false,false,false] rfl rfl (any_of HT_.out (by kernel_rfl)) (fun _ _ _ h => h) (Or.inr ⟨by rfl,rfl⟩) ?_ ?_
      rotate_left
      ·simp only [Act.put,sT_,sZ_,sS_,i64_w,i32_w]
       rfl
      refine pure_ (i := 27) (N := some 64) (v := undef) (a' := ?_) #[true,true,true,true,true,true,true,true,true,true,true,true,true,true,true,true,true,true,true,true,true,true,true,true,true,true,true,true,false,false] rfl rfl (any_of HT_.out (by kernel_rfl)) (fun _ _ _ h => h) (Or.inr ⟨by rfl,rfl⟩) ?_ ?_
      rotate_left
      ·simp only [Act.put,sT_,sZ_,sS_,i64_w,i32_w]
       rfl
      refine pure_ (i := 28) (N := some 65) (v := ?_) (a' := ?_) #[true,true,true,true,true,true,true,true,true,true,true,true,true,true,true,true,true,true,true,true,true,true,true,true,true,true,true,true,true,false] rfl rfl (any_of HT_.out (by kernel_rfl)) (fun _ _ _ h => h) (Or.inl ⟨by rfl, ?_⟩) ?_ ?_
      rotate_left
      ·intro w'
       go_simp
       with_reducible rfl
      rotate_left
      ·simp only [Act.put,sT_,sZ_,sS_,i64_w,i32_w]
       rfl
      refine pure_ (i := 29) (N := some 12) (v := ?_) (a' := ?_) #[true,true,true,true,true,true,true,true,true,true,true,true,true,true,true,true,true,true,true,true,true,true,true,true,true,true,true,true,true,true] rfl rfl (any_of HT_.out (by kernel_rfl)) (fun _ _ _ h => h) (Or.inl ⟨by rfl, ?_⟩) ?_ ?_
      rotate_left
      ·intro w'
       go_simp
       with_reducible rfl
      rotate_left
      ·simp only [Act.put,sT_,sZ_,sS_,i64_w,i32_w]
       rfl
      refine done_ (done_of HT_.out (by kernel_rfl)) ?_
      clear hHeld
      go_wp2
      go_roundg gm
      case measure => omega
      case rel => exact ⟨k + 1,by go_num,by rw [HFS.out];rfl,⟨by have := HK.out;have := HKK.out;omega⟩,HBD⟩
     | true =>
      go_wp2
      have HBD := Aside0.mk (bel_trans HB2.out (below_drew (Below.refl _ _)) : Below wo.heap.size wo wr.drew)
      clear HB2
      have HGX := Aside0.mk (HX.out.below (bel_trans HB1.out (bel_trans HB.out HBD.out)))
      obtain ⟨ag,cg,hbx, -,hnode⟩ := HGX.out.reads
      obtain ⟨ad2,A1,c1,A3,c3,A4,c4,rfl,hN⟩ := hnode t n HNN.out
      have HGB := Aside0.mk hbx
      have HN := Aside0.mk hN
      clear hbx hnode hN
      refine start_ (n := 30) (S := fun w' => w'.cell? ⟨g,1,none⟩ = some (.slice (some ad2) s.l.length cg) ∧ w'.cell? (adz.add k) = some (.int .i64 t) ∧ w'.cell? ⟨(ad2.add (t * 6)).block,(ad2.add (t * 6)).off + 1,none⟩ = some (.slice A1 n.vec.length c1) ∧ w'.cell? (ad.add (i * 2)) = some (.int .i64 dx) ∧ w'.cell? ⟨(ad.add (i * 2)).block,(ad.add (i * 2)).off + 1,none⟩ = some (.int .u32 kx)) (ds := []) #[false,false,false,false,false,false,false,false,false,false,false,false,false,false,false,false,false,false,false,false,false,false,false,false,false,false,false,false,false,false] (by kernel_rfl) rfl rfl ⟨((blk_cell HGB.out 1).trans rfl),(pw_cell_below HBD.out HCZ0.out),HN.out.y1,(pw_cell_below (bel_trans HB.out HBD.out) HCX.out.1),(pw_cell_below (bel_trans HB.out HBD.out) HCX.out.2)⟩ (fun hHeld => ?_)
      refine with_tabW rch.tab10 rch.bits10 (fun HT_ HW_ => ?_)
      generalize wr.drew = wd at HBD HGX HGB HN hHeld ⊢
      refine pure_ (i := 0) (N := some 37) (v := ?_) (a' := ?_) #[true,false,false,false,false,false,false,false,false,false,false,false,false,false,false,false,false,false,false,false,false,false,false,false,false,false,false,false,false,false] rfl rfl (any_of HT_.out (by kernel_rfl)) (fun _ _ _ h => h) (Or.inl ⟨by rfl, ?_⟩) ?_ ?_
      rotate_left
      ·intro w'
       go_simp
       with_reducible rfl
      rotate_left
      ·simp only [Act.put,sT_,sZ_,sS_,i64_w,i32_w]
       rfl
      refine pure_ (i := 1) (N := some 38) (v := ?_) (a' := ?_) #[true,true,false,false,false,false,false,false,false,false,false,false,false,false,false,false,false,false,false,false,false,false,false,false,false,false,false,false,false,false] rfl rfl (any_of HT_.out (by kernel_rfl)) (fun _ _ _ h => h) (Or.inl ⟨by rfl, ?_⟩) ?_ ?_
      rotate_left
      ·intro w'
       go_simp
       with_reducible rfl
      rotate_left
      ·simp only [Act.put,sT_,sZ_,sS_,i64_w,i32_w]
       rfl
      refine pure_ (i := 2) (N := some 39) (v := ?_) (a' := ?_) #[true,true,true,false,false,false,false,false,false,false,false,false,false,false,false,false,false,false,false,false,false,false,false,false,false,false,false,false,false,false] rfl rfl (any_of HT_.out (by kernel_rfl)) (fun _ _ _ h => h) (Or.inl ⟨by rfl, ?_⟩) ?_ ?_
      rotate_left
      ·intro w'
       go_simp
       with_reducible rfl
      rotate_left
      ·simp only [Act.put,sT_,sZ_,sS_,i64_w,i32_w]
       rfl
      refine pure_ (i := 3) (N := some 40) (v := ?_) (a' := ?_) #[true,true,true,true,false,false,false,false,false,false,false,false,false,false,false,false,false,false,false,false,false,false,false,false,false,false,false,false,false,false] rfl rfl (any_of HT_.out (by kernel_rfl)) (fun _ _ _ h => h) (Or.inl ⟨by rfl, ?_⟩) ?_ ?_
      rotate_left
      ·intro w'
       go_simp
       with_reducible rfl
      rotate_left
      ·simp only [Act.put,sT_,sZ_,sS_,i64_w,i32_w]
       rfl
      refine pure_ (i := 4) (N := some 41) (v := ?_) (a' := ?_) #[true,true,true,true,true,false,false,false,false,false,false,false,false,false,false,false,false,false,false,false,false,false,false,false,false,false,false,false,false,false] rfl rfl (any_of HT_.out (by kernel_rfl)) (fun _ _ _ h => h) (Or.inl ⟨by rfl, ?_⟩) ?_ ?_
      rotate_left
      ·intro w'
       go_simp
       with_reducible rfl
      rotate_left
      ·simp only [Act.put,sT_,sZ_,sS_,i64_w,i32_w]
       rfl
      refine pure_ (i := 5) (N := some 42) (v := ?_) (a' := ?_) #[true,true,true,true,true,true,false,false,false,false,false,false,false,false,false,false,false,false,false,false,false,false,false,false,false,false,false,false,false,false] rfl rfl (any_of HT_.out (by kernel_rfl)) (fun _ _ _ h => h) (Or.inl ⟨by rfl, ?_⟩) ?_ ?_
      rotate_left
      ·intro w'
       go_simp
       with_reducible rfl
      rotate_left
      ·simp only [Act.put,sT_,sZ_,sS_,i64_w,i32_w]
       rfl
      refine pure_ (i := 7) (N := some 44) (v := ?_) (a' := ?_) #[true,true,true,true,true,true,false,true,false,false,false,false,false,false,false,false,false,false,false,false,false,false,false,false,false,false,false,false,false,false] rfl rfl (any_of HT_.out (by kernel_rfl)) (fun _ _ _ h => h) (Or.inl ⟨by rfl, ?_⟩) ?_ ?_
      rotate_left
      ·intro w'
       go_simp
       with_reducible rfl
      rotate_left
      ·simp only [Act.put,sT_,sZ_,sS_,i64_w,i32_w]
       rfl
      refine pure_ (i := 8) (N := some 45) (v := ?_) (a' := ?_) #[true,true,true,true,true,true,false,true,true,false,false,false,false,false,false,false,false,false,false,false,false,false,false,false,false,false,false,false,false,false] rfl rfl (any_of HT_.out (by kernel_rfl)) (fun _ _ _ h => h) (Or.inl ⟨by rfl, ?_⟩) ?_ ?_
      rotate_left
      ·intro w'
       go_simp
       with_reducible rfl
      rotate_left
      ·simp only [Act.put,sT_,sZ_,sS_,i64_w,i32_w]
       rfl
      refine pure_ (i := 9) (N := some 46) (v := ?_) (a' := ?_) #[true,true,true,true,true,true,false,true,true,true,false,false,false,false,false,false,false,false,false,false,false,false,false,false,false,false,false,false,false,false] rfl rfl (any_of HT_.out (by kernel_rfl)) (fun _ _ _ h => h) (Or.inl ⟨by rfl, ?_⟩) ?_ ?_
      rotate_left
      ·intro w'
       go_simp
       with_reducible rfl
      rotate_left
      ·simp only [Act.put,sT_,sZ_,sS_,i64_w,i32_w]
       rfl
      refine pure_ (i := 15) (N := some 52) (v := ?_) (a' := ?_) #[true,true,true,true,true,true,false,true,true,true,false,false,false,false,false,true,false,false,false,false,false,false,false,false,false,false,false,false,false,false] rfl rfl (any_of HT_.out (by kernel_rfl)) (fun _ _ _ h => h) (Or.inl ⟨by rfl, ?_⟩) ?_ ?_
      rotate_left
      ·intro w'
       go_simp
       with_reducible rfl
      rotate_left
      ·simp only [Act.put,sT_,sZ_,sS_,i64_w,i32_w]
       rfl
      refine pure_ (i := 16) (N := some 53) (v := ?_) (a' := ?_) #[true,true,true,true,true,true,false,true,true,true,false,false,false,false,false,true,true,false,false,false,false,false,false,false,false,false,false,false,false,false] rfl rfl (any_of HT_.out (by kernel_rfl)) (fun _ _ _ h => h) (Or.inl ⟨by rfl, ?_⟩) ?_ ?_
      rotate_left
      ·intro w'
       go_simp
       with_reducible rfl
      rotate_left
      ·simp only [Act.put,sT_,sZ_,sS_,i64_w,i32_w]
       rfl
      refine pure_ (i := 17) (N := some 54) (v := ?_) (a' := ?_) #[true,true,true,true,true,true,false,true,true,true,false,false,false,false,false,true,true,true,false,false,false,false,false,false,false,false,false,false,false,false] rfl rfl (any_of HT_.out (by kernel_rfl)) (fun _ _ _ h => h) (Or.inl ⟨by rfl, ?_⟩) ?_ ?_
      rotate_left
      ·intro w'
       go_simp
       with_reducible rfl
      rotate_left
      ·simp only [Act.put,sT_,sZ_,sS_,i64_w,i32_w]
       rfl
      refine pure_ (i := 18) (N := some 55) (v := ?_) (a' := ?_) #[true,true,true,true,true,true,false,true,true,true,false,false,false,false,false,true,true,true,true,false,false,false,false,false,false,false,false,false,false,false] rfl rfl (any_of HT_.out (by kernel_rfl)) (fun _ _ _ h => h) (Or.inl ⟨by rfl, ?_⟩) ?_ ?_
      rotate_left
      ·intro w'
       go_simp
       with_reducible rfl
      rotate_left
      ·simp only [Act.put,sT_,sZ_,sS_,i64_w,i32_w]
       rfl
      refine pure_ (i := 22) (N := some 59) (v := ?_) (a' := ?_) #[true,true,true,true,true,true,false,true,true,true,false,false,false,false,false,true,true,true,true,false,false,false,true,false,false,false,false,false,false,false] rfl rfl (any_of HT_.out (by kernel_rfl)) (fun _ _ _ h => h) (Or.inl ⟨by rfl, ?_⟩) ?_ ?_
      rotate_left
      ·intro w'
       go_simp
       with_reducible rfl
      rotate_left
      ·simp only [Act.put,sT_,sZ_,sS_,i64_w,i32_w]
       rfl
      refine pure_ (i := 23) (N := some 60) (v := ?_) (a' := ?_) #[true,true,true,true,true,true,false,true,true,true,false,false,false,false,false,true,true,true,true,false,false,false,true,true,false,false,false,false,false,false] rfl rfl (any_of HT_.out (by kernel_rfl)) (fun _ _ _ h => h) (Or.inl ⟨by rfl, ?_⟩) ?_ ?_
      rotate_left
      ·intro w'
       go_simp
       with_reducible rfl
      rotate_left
      ·simp only [Act.put,sT_,sZ_,sS_,i64_w,i32_w]
       rfl
      refine pure_ (i := 24) (N := some 61) (v := ?_) (a' := ?_) #[true,true,true,true,true,true,false,true,true,true,false,false,false,false,false,true,true,true,true,false,false,false,true,true,true,false,false,false,false,false] rfl rfl (any_of HT_.out (by kernel_rfl)) (fun _ _ _ h => h) (Or.inl ⟨by rfl, ?_⟩) ?_ ?_
      rotate_left
      ·intro w'
       go_simp
       with_reducible rfl
      rotate_left
      ·simp only [Act.put,sT_,sZ_,sS_,i64_w,i32_w]
       rfl
      refine pure_ (i := 25) (N := some 62) (v := ?_) (a' := ?_) #[true,true,true,true,true,true,false,true,true,true,false,false,false,false,false,true,true,true,true,false,false,false,true,true,true,true,false,false,false,false] rfl rfl (any_of HT_.out (by kernel_rfl)) (fun _ _ _ h => h) (Or.inl ⟨by rfl, ?_⟩) ?_ ?_
      rotate_left
      ·intro w'
       go_simp
       with_reducible rfl
      rotate_left
      ·simp only [Act.put,sT_,sZ_,sS_,i64_w,i32_w]
       rfl
      refine take_ (i := 6) (N := some 43) (v := ?_) (a' := ?_) #[true,true,true,true,true,true,true,true,true,true,false,false,false,false,false,true,true,true,true,false,false,false,true,true,true,true,false,false,false,false] rfl rfl (take_ofW HT_.out HW_.out (by kernel_rfl)) (fun _ _ _ h => h) (Or.inl ⟨by rfl, ?_⟩) hHeld ?_ ?_
      rotate_left
      ·rintro w' ⟨s0,s1,s2,s3,s4⟩
       go_simp
       with_reducible rfl
      rotate_left
      ·simp only [Act.put,sT_,sZ_,sS_,i64_w,i32_w]
       rfl
      refine take_ (i := 10) (N := some 47) (v := ?_) (a' := ?_) #[true,true,true,true,true,true,true,true,true,true,true,false,false,false,false,true,true,true,true,false,false,false,true,true,true,true,false,false,false,false] rfl rfl (take_ofW HT_.out HW_.out (by kernel_rfl)) (fun _ _ _ h => h) (Or.inl ⟨by rfl, ?_⟩) hHeld ?_ ?_
      rotate_left
      ·rintro w' ⟨s0,s1,s2,s3,s4⟩
       go_simp
       with_reducible rfl
      rotate_left
      ·simp only [Act.put,sT_,sZ_,sS_,i64_w,i32_w]
       rfl
      refine pure_ (i := 11) (N := some 48) (v := ?_) (a' := ?_) #[true,true,true,true,true,true,true,true,true,true,true,true,false,false,false,true,true,true,true,false,false,false,true,true,true,true,false,false,false,false] rfl rfl (any_of HT_.out (by kernel_rfl)) (fun _ _ _ h => h) (Or.inl ⟨by rfl, ?_⟩) ?_ ?_
      rotate_left
      ·intro w'
       go_simp
       with_reducible rfl
      rotate_left
      ·simp only [Act.put,sT_,sZ_,sS_,i64_w,i32_w]
       rfl
      refine pure_ (i := 12) (N := some 49) (v := ?_) (a' := ?_) #[true,true,true,true,true,true,true,true,true,true,true,true,true,false,false,true,true,true,true,false,false,false,true,true,true,true,false,false,false,false] rfl rfl (any_of HT_.out (by kernel_rfl)) (fun _ _ _ h => h) (Or.inl ⟨by rfl, ?_⟩) ?_ ?_
      rotate_left
      ·intro w'
       go_simp
       with_reducible rfl
      rotate_left
      ·simp only [Act.put,sT_,sZ_,sS_,i64_w,i32_w]
       rfl
      refine pure_ (i := 13) (N := some 50) (v := ?_) (a' := ?_) #[true,true,true,true,true,true,true,true,true,true,true,true,true,true,false,true,true,true,true,false,false,false,true,true,true,true,false,false,false,false] rfl rfl (any_of HT_.out (by kernel_rfl)) (fun _ _ _ h => h) (Or.inl ⟨by rfl, ?_⟩) ?_ ?_
      rotate_left
      ·intro w'
       go_simp
       with_reducible rfl
      rotate_left
      ·simp only [Act.put,sT_,sZ_,sS_,i64_w,i32_w]
       rfl
      refine take_ (i := 14) (N := some 51) (v := ?_) (a' := ?_) #[true,true,true,true,true,true,true,true,true,true,true,true,true,true,true,true,true,true,true,false,false,false,true,true,true,true,false,false,false,false] rfl rfl (take_ofW HT_.out HW_.out (by kernel_rfl)) (fun _ _ _ h => h) (Or.inl ⟨by rfl, ?_⟩) hHeld ?_ ?_
      rotate_left
      ·rintro w' ⟨s0,s1,s2,s3,s4⟩
       go_simp
       with_reducible rfl
      rotate_left
      ·simp only [Act.put,sT_,sZ_,sS_,i64_w,i32_w]
       rfl
      refine take_ (i := 19) (N := some 56) (v := ?_) (a' := ?_) #[true,true,true,true,true,true,true,true,true,true,true,true,true,true,true,true,true,true,true,true,false,false,true,true,true,true,false,false,false,false] rfl rfl (take_ofW HT_.out HW_.out (by kernel_rfl)) (fun _ _ _ h => h) (Or.inl ⟨by rfl, ?_⟩) hHeld ?_ ?_
      rotate_left
      ·rintro w' ⟨s0,s1,s2,s3,s4⟩
       go_simp
       with_reducible rfl
      rotate_left
      ·simp only [Act.put,sT_,sZ_,sS_,i64_w,i32_w]
       rfl
      refine pure_ (i := 20) (N := some 57) (v := ?_) (a' := ?_) #[true,true,true,true,true,true,true,true,true,true,true,true,true,true,true,true,true,true,true,true,true,false,true,true,true,true,false,false,false,false] rfl rfl (any_of HT_.out (by kernel_rfl)) (fun _ _ _ h => h) (Or.inl ⟨by rfl, ?_⟩) ?_ ?_
      rotate_left
      ·intro w'
       go_simp
       with_reducible rfl
      rotate_left
      ·simp only [Act.put,sT_,sZ_,sS_,i64_w,i32_w]
       rfl
      refine take_ (i := 26) (N := some 63) (v := ?_) (a' := ?_) #[true,true,true,true,true,true,true,true,true,true,true,true,true,true,true,true,true,true,true,true,true,false,true,true,true,true,true,false,false,false] rfl rfl (take_ofW HT_.out HW_.out (by kernel_rfl)) (fun _ _ _ h => h) (Or.inl ⟨by rfl, ?_⟩) hHeld ?_ ?_
      rotate_left
      ·rintro w' ⟨s0,s1,s2,s3,s4⟩
       go_simp
       with_reducible rfl
      rotate_left
      ·simp only [Act.put,sT_,sZ_,sS_,i64_w,i32_w]
       rfl
      refine one_ (i := 21) (N := some 58) #[true,true,true,true,true,true,true,true,true,true,true,true,true,true,true,true,true,true,true,true,true,true,true,true,true,true,true,false,false,false] rfl rfl (one_of HT_.out (by kernel_rfl)) (by decide) (fun K hK => ?_)
      refine goes_ Try.func74 (by kernel_rfl) rfl #[.pointer (some ⟨g,0,none⟩),.slice A1 n.vec.length c1,.int .i64 (wrap64 (kx : Int))] (by rfl) rfl rfl (by simp only [List.map_toArray,List.map_cons,List.map_nil];rfl) ?_
      with_reducible refine (far_w HGX.out HM.out.1 A1 c1 n.vec HN.out.vec HN.out.fit1 kx HKX.out HWK.out).mono ?_
      rintro e w7 ⟨rfl,hb⟩
      refine ⟨_,rfl, ?_⟩
      have HB7 := Aside0.mk (bel_trans HBD.out hb)
      have HGB7 := Aside0.mk (blk_below HGB.out hb)
      have HN7 := Aside0.mk (HN.out.below hb)
      clear hb
      refine hK.out _ _ ⟨((blk_cell HGB7.out 1).trans rfl),(pw_cell_below HB7.out HCZ0.out),HN7.out.y1,(pw_cell_below (bel_trans HB.out HB7.out) HCX.out.1),(pw_cell_below (bel_trans HB.out HB7.out) HCX.out.2)⟩ (fun hHeld => ?_)
      clear hK K
      refine norm_ (a' := ?_) ?_ ?_
      rotate_left
      ·show Act.put _ (some 58) _ = _
       simp only [Act.put,sT_,sZ_,sS_,i64_w,i32_w]
       rfl
      refine pure_ (i := 27) (N := some 64) (v := ?_) (a' := ?_) #[true,true,true,true,true,true,true,true,true,true,true,true,true,true,true,true,true,true,true,true,true,true,true,true,true,true,true,true,false,false] rfl rfl (any_of HT_.out (by kernel_rfl)) (fun _ _ _ h => h) (Or.inl ⟨by rfl, ?_⟩) ?_ ?_
      rotate_left
      ·intro w'
       go_simp
       with_reducible rfl
      rotate_left
      ·simp only [Act.put,sT_,sZ_,sS_,i64_w,i32_w]
       rfl
      refine pure_ (i := 28) (N := some 65) (v := ?_) (a' := ?_) #[true,true,true,true,true,true,true,true,true,true,true,true,true,true,true,true,true,true,true,true,true,true,true,true,true,true,true,true,true,false] rfl rfl (any_of HT_.out (by kernel_rfl)) (fun _ _ _ h => h) (Or.inl ⟨by rfl, ?_⟩) ?_ ?_
      rotate_left
      ·intro w'
       go_simp
       with_reducible rfl
      rotate_left
      ·simp only [Act.put,sT_,sZ_,sS_,i64_w,i32_w]
       rfl
      refine pure_ (i := 29) (N := some 12) (v := ?_) (a' := ?_) #[true,true,true,true,true,true,true,true,true,true,true,true,true,true,true,true,true,true,true,true,true,true,true,true,true,true,true,true,true,true] rfl rfl (any_of HT_.out (by kernel_rfl)) (fun _ _ _ h => h) (Or.inl ⟨by rfl, ?_⟩) ?_ ?_
      rotate_left
      ·intro w'
       go_simp
       with_reducible rfl
      rotate_left
      ·simp only [Act.put,sT_,sZ_,sS_,i64_w,i32_w]
       rfl
      refine done_ (done_of HT_.out (by kernel_rfl)) ?_
      clear hHeld
      go_wp2
      go_roundg gm
      case measure => omega
      case rel => exact ⟨k + 1,by go_num,by rw [HFS.out,HVN.out];rfl,⟨by have := HK.out;have := HKK.out;omega⟩,HB7⟩
    ·have p3 : decide ((k : Int) < (T.length : Int)) = false := decide_eq_false (by omega)
     have p3' : decide (k < T.length) = false := decide_eq_false hk
     have hke : k = T.length := by have := HK.out;omega
     rw [hke,fine_all]
     have y1 := pw_cell_below (bel_trans HB.out HB2.out) HCX.out.2
     have hwk := HWK.out
     have HB3 := Aside0.mk (bel_trans HB.out HB2.out)
     have HZ3 := Aside0.mk (HZ.out.below HB2.out)
     rw [hke] at p3 p3'
     clear hk hke HK HB2 HB HZ
     obtain ⟨bl,hbl⟩ : ∃ z,blocked s T ⟨dx,kx⟩ = z := ⟨_,rfl⟩
     rw [hbl] at HTS ⊢
     clear hbl
     cases bl with
     | true =>
      go_wp2
      go_roundg go
      case measure => omega
      case rel =>
       refine ⟨i + 1,by go_num,⟨by have := HI.out;have := HII.out;omega⟩,⟨?_⟩,HB3⟩
       rw [HTS.out,if_pos trivial]
       exact HZ3.out
     | false =>
      go_wp2_with (at_builtin;go_must (refine app_Z rfl _ _ rfl w1.heap.size _ T [(kx : Int)] (some ⟨wr.heap.size,0,none⟩) 1 1 rfl rfl rfl (HZ3.out.below (below_trans_alloc (Below.refl _ _))) (lit_Z wr kx) (fun e => by cases e) (by have := HTL.out;simp only [List.length_cons,List.length_nil];omega) (by rw [World.size_alloc];have := HB3.out.size;omega) ?_);intro v3 w3 hv hO hat;have HV3 := Aside0.mk hv;have HB4 := Aside0.mk (hO.below_of (below_alloc HB3.out _) (fun i hi => own_base HZ3.out i hi));clear hv hO hat)
      go_roundg go
      case measure => omega
      case rel =>
       refine ⟨i + 1,by go_num,⟨by have := HI.out;have := HII.out;omega⟩,⟨?_⟩,HB4⟩
       rw [HTS.out,if_neg (by simp)]
       exact HV3.out
  ·obtain ⟨T,hT⟩ : ∃ z,(choose2 s most M).1 = z := ⟨_,rfl⟩
   have hsame : (choose2 s most M).1 = (choose2 s most (M.take i)).1 := by
    by_cases hi2 : i < M.length
    ·exact choose_same (by have := fun h => hi ⟨hi2,h⟩;omega)
    ·rw [List.take_of_length_le (by omega)]
   rw [← hsame,hT] at HZ HTL HTLM HTI
   have HDN := Aside0.mk (HDONE.out T)
   have HT := Aside0.mk hT
   obtain ⟨az,cz,rfl,hcz,hCZ⟩ := HZ.out.C
   clear hcz hCZ
   have hT2 : (choose2 s most (M.take i)).1.length = T.length := by rw [← hsame,hT]
   cases q3 : decide ((i : Int) < (M.length : Int)) with
   | false =>
    have q3n : decide (i < M.length) = false := decide_eq_false (by have := of_decide_eq_false q3;omega)
    clear hi hsame hT hT2
    go_wp2
    go_loopg [10,14] M.length (fun gk v10 v14 wr => ∃ j : Nat,v14 = .int .i64 j ∧ Aside0 (j ≤ M.length ∧ M.length - j ≤ gk) ∧ Aside0 (OwnZ wr w1.heap.size v10 (fillTo T M j)) ∧ Aside0 (Below w1.heap.size w1 wr) ∧ Aside0 (((fillTo T M j).length : Int) ≤ max 0 most))
    case atStart => exact ⟨0,rfl,⟨by omega⟩,⟨by rw [fill_zero];exact HZ.out⟩,HB,⟨by rw [fill_zero];exact HTLM.out⟩⟩
    case round =>
     clear HZ HB
     obtain ⟨j,rfl,HJ,HZ,HB,HFL⟩ := hrel
     obtain ⟨az,cz,rfl,hcz,hCZ⟩ := HZ.out.C
     have HCZ := Aside0.mk (And.intro hcz hCZ)
     have HUL := Aside0.mk (show (fillTo T M j).length ≤ 200000 by unfold fillTo;have h1 := List.length_filter_le (fun i => !T.contains i) ((M.take j).map S58.f1);rw [List.length_map,List.length_take] at h1;rw [List.length_append];have := HTL.out;have := HNL.out;omega)
     clear hcz hCZ
     by_cases hj : j < M.length ∧ ((fillTo T M j).length : Int) < most
     ·obtain ⟨hj,hmo⟩ := hj
      have p3 : decide ((j : Int) < (M.length : Int)) = true := decide_eq_true (by omega)
      have p3' : (j : Int) < (M.length : Int) := by omega
      obtain ⟨ad,x,rfl,hx,cx0,cx1⟩ := HR.out.at hj
      obtain ⟨kx,hkx,hkl⟩ := HPL.out x (List.mem_of_getElem? hx)
      have HFS := Aside0.mk (fill_step (T := T) hx)
      have HFH := Aside0.mk (fill_has (T := T) HIDS.out hx)
      have hxf : x.f1 = (kx : Int) := by rw [hkx]
      rw [hxf] at HFS HFH cx1
      have HJJ := Aside0.mk hj
      have HCX := Aside0.mk cx1
      have p4 : decide (((fillTo T M j).length : Int) < most) = true := decide_eq_true hmo
      have hin : wrap64 ((j : Int) + 1) = ((j + 1 : Nat) : Int) := by have := HNL.out;unfold wrap64;omega
      have hwk : wrap64 (kx : Int) = (kx : Int) := by have := HM.out;unfold wrap64;omega
      have y1 := pw_cell_below HB.out cx1
      obtain ⟨gm,rfl⟩ : ∃ z,gk = z + 1 := ⟨gk - 1,by have := HJ.out;omega⟩
      have hfh : (fillTo T M j).contains (kx : Int) = T.contains (kx : Int) := HFH.out
      obtain ⟨b,hb⟩ : ∃ z,T.contains (kx : Int) = z := ⟨_,rfl⟩
      rw [hb] at hfh HFS
      have HHAS := Aside0.mk hfh
      have HFL1 := Aside0.mk (show ((fillTo T M j).length : Int) + 1 ≤ max 0 most by omega)
      clear hj hmo hx hkl hkx hxf cx0 cx1 hfh hb HFH
      obtain ⟨U,hU⟩ : ∃ z,fillTo T M j = z := ⟨_,rfl⟩
      rw [hU] at HZ HCZ HUL HFS HHAS HFL HFL1 p4 ⊢
      clear hU
      cases b with
      | true =>
       go_wp2_with (go_at_call 23;go_must (with_reducible refine (has_calls az cz U kx _ HCZ.out.2 HCZ.out.1 (by have := HUL.out;omega) _ HHAS.out).mono ?_);rintro e w2 ⟨rfl,hb⟩;have HB2 := Aside0.mk (bel_trans HB.out hb);have HZ2 := Aside0.mk (HZ.out.below hb);clear hb y1)
       go_roundg gm
       case measure => omega
       case rel => exact ⟨j + 1,by go_num,⟨by have := HJ.out;have := HJJ.out;omega⟩,⟨by rw [HFS.out,if_pos trivial];exact HZ2.out⟩,HB2,⟨by rw [HFS.out,if_pos trivial];exact HFL.out⟩⟩
      | false =>
       go_wp2_with (first | (have := HB2;at_builtin;go_must (refine app_Z rfl _ _ rfl w1.heap.size _ U [(kx : Int)] (some ⟨w2.heap.size,0,none⟩) 1 1 rfl rfl rfl (HZ2.out.below (below_trans_alloc (Below.refl _ _))) (lit_Z w2 kx) (fun e => by cases e) (by have := HUL.out;simp only [List.length_cons,List.length_nil];omega) (by rw [World.size_alloc];have := HB2.out.size;omega) ?_);intro v3 w3 hv hO hat;have HV3 := Aside0.mk hv;have HB4 := Aside0.mk (hO.below_of (below_alloc HB2.out _) (fun i hi => own_base HZ2.out i hi));clear hv hO hat) | (go_at_call 23;go_must (with_reducible refine (has_calls az cz U kx _ HCZ.out.2 HCZ.out.1 (by have := HUL.out;omega) _ HHAS.out).mono ?_);rintro e w2 ⟨rfl,hb⟩;have HB2 := Aside0.mk (bel_trans HB.out hb);have HZ2 := Aside0.mk (HZ.out.below hb);replace y1 := pw_cell_below hb y1;clear hb))
       go_roundg gm
       case measure => omega
       case rel => exact ⟨j + 1,by go_num,⟨by have := HJ.out;have := HJJ.out;omega⟩,⟨by rw [HFS.out,if_neg (by simp)];exact HV3.out⟩,HB4,⟨by rw [HFS.out,if_neg (by simp),List.length_append,List.length_singleton];have := HFL1.out;omega⟩⟩
     ·have HAN := Aside0.mk (HDN.out j HT.out.symm HFL.out (by have := fun h1 h2 => hj ⟨h1,h2⟩;omega))
      cases p3 : decide ((j : Int) < (M.length : Int)) with
      | false =>
       have p3n : decide (j < M.length) = false := decide_eq_false (by have := of_decide_eq_false p3;omega)
       clear hj
       go_wp2
       go_ret
       exact ⟨⟨_,rfl,by rw [← HAN.out];exact HZ.out.weaken HB1.out.size⟩,bel_trans HB1.out HB.out⟩
      | true =>
       have p4 : decide (((fillTo T M j).length : Int) < most) = false := decide_eq_false (fun h => hj ⟨by have := of_decide_eq_true p3;omega,h⟩)
       have p3n : decide (j < M.length) = true := decide_eq_true (by have := of_decide_eq_true p3;omega)
       clear hj
       go_wp2
       go_ret
       exact ⟨⟨_,rfl,by rw [← HAN.out];exact HZ.out.weaken HB1.out.size⟩,bel_trans HB1.out HB.out⟩
   | true =>
    have q4 : decide ((T.length : Int) < most) = false := decide_eq_false (fun h => hi ⟨by have := of_decide_eq_true q3;omega,by rw [hT2];exact h⟩)
    have q3n : decide (i < M.length) = true := decide_eq_true (by have := of_decide_eq_true q3;omega)
    clear hi hsame hT hT2
    go_wp2
    go_loopg [10,14] M.length (fun gk v10 v14 wr => ∃ j : Nat,v14 = .int .i64 j ∧ Aside0 (j ≤ M.length ∧ M.length - j ≤ gk) ∧ Aside0 (OwnZ wr w1.heap.size v10 (fillTo T M j)) ∧ Aside0 (Below w1.heap.size w1 wr) ∧ Aside0 (((fillTo T M j).length : Int) ≤ max 0 most))
    case atStart => exact ⟨0,rfl,⟨by omega⟩,⟨by rw [fill_zero];exact HZ.out⟩,HB,⟨by rw [fill_zero];exact HTLM.out⟩⟩
    case round =>
     clear HZ HB
     obtain ⟨j,rfl,HJ,HZ,HB,HFL⟩ := hrel
     obtain ⟨az,cz,rfl,hcz,hCZ⟩ := HZ.out.C
     have HCZ := Aside0.mk (And.intro hcz hCZ)
     have HUL := Aside0.mk (show (fillTo T M j).length ≤ 200000 by unfold fillTo;have h1 := List.length_filter_le (fun i => !T.contains i) ((M.take j).map S58.f1);rw [List.length_map,List.length_take] at h1;rw [List.length_append];have := HTL.out;have := HNL.out;omega)
     clear hcz hCZ
     by_cases hj : j < M.length ∧ ((fillTo T M j).length : Int) < most
     ·obtain ⟨hj,hmo⟩ := hj
      have p3 : decide ((j : Int) < (M.length : Int)) = true := decide_eq_true (by omega)
      have p3' : (j : Int) < (M.length : Int) := by omega
      obtain ⟨ad,x,rfl,hx,cx0,cx1⟩ := HR.out.at hj
      obtain ⟨kx,hkx,hkl⟩ := HPL.out x (List.mem_of_getElem? hx)
      have HFS := Aside0.mk (fill_step (T := T) hx)
      have HFH := Aside0.mk (fill_has (T := T) HIDS.out hx)
      have hxf : x.f1 = (kx : Int) := by rw [hkx]
      rw [hxf] at HFS HFH cx1
      have HJJ := Aside0.mk hj
      have HCX := Aside0.mk cx1
      have p4 : decide (((fillTo T M j).length : Int) < most) = true := decide_eq_true hmo
      have hin : wrap64 ((j : Int) + 1) = ((j + 1 : Nat) : Int) := by have := HNL.out;unfold wrap64;omega
      have hwk : wrap64 (kx : Int) = (kx : Int) := by have := HM.out;unfold wrap64;omega
      have y1 := pw_cell_below HB.out cx1
      obtain ⟨gm,rfl⟩ : ∃ z,gk = z + 1 := ⟨gk - 1,by have := HJ.out;omega⟩
      have hfh : (fillTo T M j).contains (kx : Int) = T.contains (kx : Int) := HFH.out
      obtain ⟨b,hb⟩ : ∃ z,T.contains (kx : Int) = z := ⟨_,rfl⟩
      rw [hb] at hfh HFS
      have HHAS := Aside0.mk hfh
      have HFL1 := Aside0.mk (show ((fillTo T M j).length : Int) + 1 ≤ max 0 most by omega)
      clear hj hmo hx hkl hkx hxf cx0 cx1 hfh hb HFH
      obtain ⟨U,hU⟩ : ∃ z,fillTo T M j = z := ⟨_,rfl⟩
      rw [hU] at HZ HCZ HUL HFS HHAS HFL HFL1 p4 ⊢
      clear hU
      cases b with
      | true =>
       go_wp2_with (go_at_call 23;go_must (with_reducible refine (has_calls az cz U kx _ HCZ.out.2 HCZ.out.1 (by have := HUL.out;omega) _ HHAS.out).mono ?_);rintro e w2 ⟨rfl,hb⟩;have HB2 := Aside0.mk (bel_trans HB.out hb);have HZ2 := Aside0.mk (HZ.out.below hb);clear hb y1)
       go_roundg gm
       case measure => omega
       case rel => exact ⟨j + 1,by go_num,⟨by have := HJ.out;have := HJJ.out;omega⟩,⟨by rw [HFS.out,if_pos trivial];exact HZ2.out⟩,HB2,⟨by rw [HFS.out,if_pos trivial];exact HFL.out⟩⟩
      | false =>
       go_wp2_with (first | (have := HB2;at_builtin;go_must (refine app_Z rfl _ _ rfl w1.heap.size _ U [(kx : Int)] (some ⟨w2.heap.size,0,none⟩) 1 1 rfl rfl rfl (HZ2.out.below (below_trans_alloc (Below.refl _ _))) (lit_Z w2 kx) (fun e => by cases e) (by have := HUL.out;simp only [List.length_cons,List.length_nil];omega) (by rw [World.size_alloc];have := HB2.out.size;omega) ?_);intro v3 w3 hv hO hat;have HV3 := Aside0.mk hv;have HB4 := Aside0.mk (hO.below_of (below_alloc HB2.out _) (fun i hi => own_base HZ2.out i hi));clear hv hO hat) | (go_at_call 23;go_must (with_reducible refine (has_calls az cz U kx _ HCZ.out.2 HCZ.out.1 (by have := HUL.out;omega) _ HHAS.out).mono ?_);rintro e w2 ⟨rfl,hb⟩;have HB2 := Aside0.mk (bel_trans HB.out hb);have HZ2 := Aside0.mk (HZ.out.below hb);replace y1 := pw_cell_below hb y1;clear hb))
       go_roundg gm
       case measure => omega
       case rel => exact ⟨j + 1,by go_num,⟨by have := HJ.out;have := HJJ.out;omega⟩,⟨by rw [HFS.out,if_neg (by simp)];exact HV3.out⟩,HB4,⟨by rw [HFS.out,if_neg (by simp),List.length_append,List.length_singleton];have := HFL1.out;omega⟩⟩
     ·have HAN := Aside0.mk (HDN.out j HT.out.symm HFL.out (by have := fun h1 h2 => hj ⟨h1,h2⟩;omega))
      cases p3 : decide ((j : Int) < (M.length : Int)) with
      | false =>
       have p3n : decide (j < M.length) = false := decide_eq_false (by have := of_decide_eq_false p3;omega)
       clear hj
       go_wp2
       go_ret
       exact ⟨⟨_,rfl,by rw [← HAN.out];exact HZ.out.weaken HB1.out.size⟩,bel_trans HB1.out HB.out⟩
      | true =>
       have p4 : decide (((fillTo T M j).length : Int) < most) = false := decide_eq_false (fun h => hj ⟨by have := of_decide_eq_true p3;omega,h⟩)
       have p3n : decide (j < M.length) = true := decide_eq_true (by have := of_decide_eq_true p3;omega)
       clear hj
       go_wp2
       go_ret
       exact ⟨⟨_,rfl,by rw [← HAN.out];exact HZ.out.weaken HB1.out.size⟩,bel_trans HB1.out HB.out⟩
end
end Go.Proofs.Ytofmlajanopniaa.Li
namespace Go.Proofs.Ytofmlajanopniaa.Li
open Go.RowKit Go.Maps Go.Proofs.YtofmlajanopniaaW.PrintWords Go.Proofs.YtofmlajanopniaaW.PrintLast Go.Proofs.YtofmlajanopniaaW.PrintMore Go.Proofs.Ytofmlajanopniaa.Q Go.Proofs.Ytofmlajanopniaa.Tk
section
variable {w0 w w' : World} {g : Nat} {F F' : Nat → Prop} {vL : Value} {s : Gr}
theorem relinked {W5 W6 : World} {ka j rb r6 cp6 : Nat} {n : Nd} {l : List Int} {vl : Value} (h : DM w0 w g F vL s) (hB : Below w.heap.size w W6) (hs5 : w.heap.size ≤ W5.heap.size) (hn : s.l[ka]? = some n) (hr : vL.ownBlock = some rb) (hj : j < n.links.length)
  (hK : LkD w0 W6 (fun k => F k ∨ (W5.heap.size ≤ k ∧ k < W6.heap.size)) (.slice (some ⟨r6,0,none⟩) n.links.length cp6) n.links) (h6 : w.heap.size ≤ r6) (hZ : OwnZ W6 w.heap.size vl l) :
  DX w0 ((W6.setCell ⟨r6,j,none⟩ vl).setCell ⟨rb,ka * 6 + 5,none⟩ (.slice (some ⟨r6,0,none⟩) n.links.length cp6)) g (more F w ((W6.setCell ⟨r6,j,none⟩ vl).setCell ⟨rb,ka * 6 + 5,none⟩ (.slice (some ⟨r6,0,none⟩) n.links.length cp6))) (s.setL ka j l) ∧ Only F w ((W6.setCell ⟨r6,j,none⟩ vl).setCell ⟨rb,ka * 6 + 5,none⟩ (.slice (some ⟨r6,0,none⟩) n.links.length cp6)) := by
 have hlow := h.low
 have hw0 := h.at0.size
 have h67 : (W6.setCell ⟨r6,j,none⟩ vl).heap.size = W6.heap.size := World.size_setCell _ _ _
 have hG7 : DM w0 (W6.setCell ⟨r6,j,none⟩ vl) g F vL s := (h.below hB).same (fun k hk => Below.heap_setCell W6 ⟨r6,j,none⟩ vl k (by have := (hlow k hk).2;show k ≠ r6;omega)) (by rw [h67];exact Nat.le_refl _) (below_set (bel_trans h.at0 hB) (by omega))
 have hL7 : LkD w0 (W6.setCell ⟨r6,j,none⟩ vl) (more F w W6) (.slice (some ⟨r6,0,none⟩) n.links.length cp6) (n.links.set j l) :=
  (hK.mono (fun k hk => hk.imp id (fun hk => ⟨Nat.le_trans hs5 hk.1,hk.2⟩))).set rfl hj ((hZ.weaken hw0).R (fun k hk => .inr ⟨own_base hZ k hk,own_lt hZ k hk⟩))
 have hG7' : DM w0 (W6.setCell ⟨r6,j,none⟩ vl) g (more F w W6) vL s := hG7.mono (fun k hk => .inl hk) (fun k hk => by
  rw [h67]
  rcases hk with hk | hk
  ·exact ⟨(hlow k hk).1,Nat.lt_of_lt_of_le (hlow k hk).2 hB.size⟩
  ·exact ⟨Nat.le_trans hw0 hk.1,hk.2⟩)
 have hs8 : ((W6.setCell ⟨r6,j,none⟩ vl).setCell ⟨rb,ka * 6 + 5,none⟩ (.slice (some ⟨r6,0,none⟩) n.links.length cp6)).heap.size = W6.heap.size := by rw [World.size_setCell];exact h67
 have hrb := h.vF rb hr
 refine ⟨⟨vL, ?_⟩, ?_⟩
 ·have := hG7'.links (lv := j) (l := l) hn hr hL7
  refine this.mono (fun k hk => hk.imp id (fun hk => ⟨hk.1,by rw [hs8];exact hk.2⟩)) (fun k hk => ?_)
  rw [hs8]
  rcases hk with hk | hk
  ·exact ⟨(hlow k hk).1,Nat.lt_of_lt_of_le (hlow k hk).2 hB.size⟩
  ·exact ⟨Nat.le_trans hw0 hk.1,by have := hk.2;rw [hs8] at this;exact this⟩
 ·refine (Only.of_below hB).then_ (((Only.refl (fun k => k = r6 ∨ k = rb) W6).set ⟨r6,j,none⟩ vl (.inl rfl)).set ⟨rb,ka * 6 + 5,none⟩ _ (.inr rfl)) (fun i hi hlt => ?_)
  rcases hi with rfl | rfl
  ·omega
  ·exact hrb
structure RdL (w : World) (g : Nat) (s : Gr) (ka j : Nat) (n : Nd) (ls : List Int) (rb cap r c3 : Nat) (A1 : Option Addr) (c1 : Nat) (A5 : Option Addr) (c5 : Nat) : Prop where
 y1 : w.cell? ⟨g,1,none⟩ = some (.slice (some ⟨rb,0,none⟩) s.l.length cap)
 yv : w.cell? ⟨rb,ka * 6 + 1,none⟩ = some (.slice A1 n.vec.length c1)
 y5 : w.cell? ⟨rb,ka * 6 + 5,none⟩ = some (.slice (some ⟨r,0,none⟩) n.links.length c3)
 z : w.cell? ⟨r,j,none⟩ = some (.slice A5 ls.length c5)
 C : Kd.C (Kd.int .i64) w A5 ls.length ls
 c0 : A5 = none → c5 = 0
 fit : n.vec.length ≤ c1
 V : Kd.C (Kd.int .i32) w A1 n.vec.length n.vec
 fz : w.frozen? ⟨rb,ka * 6 + 5,none⟩ = false
 fit3 : n.links.length ≤ c3
 us : ∃ us : List Value,us.length = n.links.length ∧ (∀ j u,us[j]? = some u → w.cell? ((⟨r,0,none⟩ : Addr).add j) = some u) ∧ ∀ u ∈ us,u.oneCell' = true
theorem RdL.below {g ka j : Nat} {n : Nd} {ls : List Int} {rb cap r c3 : Nat} {A1 : Option Addr} {c1 : Nat} {A5 : Option Addr} {c5 : Nat} (h : RdL w g s ka j n ls rb cap r c3 A1 c1 A5 c5) (hb : Below w.heap.size w w') : RdL w' g s ka j n ls rb cap r c3 A1 c1 A5 c5 := by
 obtain ⟨us,e1,e2,e3⟩ := h.us
 refine ⟨pw_cell_below hb h.y1,pw_cell_below hb h.yv,pw_cell_below hb h.y5,pw_cell_below hb h.z,Kd.C_below h.C hb,h.c0,h.fit,Kd.C_below h.V hb, ?_,h.fit3,us,e1,fun j u hu => pw_cell_below hb (e2 j u hu),e3⟩
 have := h.y5
 have hlt : rb < w.heap.size := by
  cases hh : w.heap[rb]? with
  | none => unfold World.cell? at this;simp [hh] at this
  | some o => exact blk_lt hh
 have hsame := hb.block rb hlt
 have hf := h.fz
 unfold World.frozen? at hf ⊢
 simpa [hsame] using hf
theorem DM.rdl (h : DM w0 w g F vL s) {ka j : Nat} {n : Nd} {ls : List Int} (hn : s.l[ka]? = some n) (hj : n.links[j]? = some ls) : ∃ rb cap r c3 A1 c1 A5 c5,vL = .slice (some ⟨rb,0,none⟩) s.l.length cap ∧ RdL w g s ka j n ls rb cap r c3 A1 c1 A5 c5 ∧ LkD w0 w F (.slice (some ⟨r,0,none⟩) n.links.length c3) n.links := by
 obtain ⟨ao,cap,rfl,hl,h0,hnode⟩ := h.node
 obtain ⟨ad,A1,c1,A2,c2,A3,c3,rfl,hN,hL,hf⟩ := hnode ka n hn
 obtain ⟨inner,h1,_⟩ := h.row
 rcases h1.2 with ⟨e,_⟩ | ⟨rb,cap2,cur,e,hb,hh,hc1,hc2,hc3,hc4⟩
 ·cases e
 ·injection e with e1 _ e3
  injection e1 with e1
  subst e1 e3
  obtain ⟨r,cp,u,e,hz,hR,hFr⟩ := hL.at hj
  injection e with ea _ ec
  subst ea ec
  obtain ⟨A5,c5,rfl,hc0,hC⟩ := (OwnZ.of_R hR).C0
  have y5 := hN.y5
  have y1 := hN.y1
  rw [add_plain] at y5 y1
  refine ⟨rb,cap,r,c3,A1,c1,A5,c5,rfl,⟨(blk_cell h.box 1).trans rfl,y1,y5,hz,hC,hc0,hN.fit1,hN.vec,blk_frozen hh _,hN.fit3, ?_⟩,hL⟩
  obtain ⟨_,inn,k1,k2⟩ := hL
  have hil : inn.length = n.links.length := by rw [k1.1];omega
  refine ⟨inn,hil,fun i u hu => ?_,fun u hu => ?_⟩
  ·have hi := (List.getElem?_eq_some_iff.1 hu).1
   rw [add_plain]
   exact (row_cell k1 (by omega)).1.trans hu
  ·obtain ⟨i,hi,rfl⟩ := List.getElem_of_mem hu
   obtain ⟨u2,e1,e2⟩ := k2 i (n.links[i]'(by omega)) (List.getElem?_eq_getElem _)
   rw [List.getElem?_eq_getElem hi] at e1
   injection e1 with e1
   obtain ⟨A,c,rfl⟩ := Kd.R_slice e2
   rw [e1];rfl
theorem LkD.us {ls : List (List Int)} (h : LkD w0 w F vL ls) {us : List Value} {r cp : Nat} (hv : vL = .slice (some ⟨r,0,none⟩) ls.length cp) (hul : us.length = ls.length) (hc : ∀ j u,us[j]? = some u → w.cell? ((⟨r,0,none⟩ : Addr).add j) = some u) : ∀ (j : Nat) (l : List Int),ls[j]? = some l → ∃ u,us[j]? = some u ∧ (Kd.int .i64).R 3 w w0.heap.size F u l := fun j l hj => by
 obtain ⟨r2,cap2,u,e,e1,e2,_⟩ := h.at hj
 rw [hv] at e
 injection e with ea _ _
 injection ea with ea
 injection ea with ea
 subst ea
 have hjl := (List.getElem?_eq_some_iff.1 hj).1
 obtain ⟨u2,hu2⟩ : ∃ u2,us[j]? = some u2 := ⟨_,List.getElem?_eq_getElem (by omega)⟩
 have := hc j u2 hu2
 rw [add_plain,e1] at this
 injection this with this
 subst this
 exact ⟨_,hu2,e2⟩
theorem LkD.nil (w0 w : World) (F : Nat → Prop) : LkD w0 w F (.slice none 0 0) [] := ⟨fun k hk => by (cases hk),[],own_nil _ _ _ _,fun j l hj => by simp at hj⟩
set_option maxHeartbeats 4000000 in
set_option maxRecDepth 100000 in
theorem DX.link_no (h : DX w0 w g F s) (a b lv most : Int) (hno : (!s.there a lv || !s.there b lv || a == b) = true) :
  Calls Try.prog 39 #[.pointer (some ⟨g,0,none⟩),.int .i64 a,.int .i64 b,.int .i64 lv,.int .i64 most] w fun e w' => e = .returned (.bool false) ∧ Below w.heap.size w w' := by
 have HX := Aside0.mk h
 have HNO := Aside0.mk hno
 clear h hno
 obtain ⟨ta,hta⟩ : ∃ z,s.there a lv = z := ⟨_,rfl⟩
 obtain ⟨tb,htb⟩ : ∃ z,s.there b lv = z := ⟨_,rfl⟩
 rw [hta,htb] at HNO
 have HTA := Aside0.mk hta
 have HTB := Aside0.mk htb
 clear hta htb
 cases ta with
 | false =>
  go_enter Try.func39,Try.ntmps39
  go_wp2_with (go_at_call 41;(with_reducible refine (HX.out.there_ a lv _ HTA.out).mono ?_);rintro e w1 ⟨rfl,hb⟩;have HB1 := Aside0.mk hb;clear hb)
  go_ret
  exact ⟨rfl,HB1.out⟩
 | true =>
  cases tb with
  | false =>
   go_enter Try.func39,Try.ntmps39
   go_wp2_with (first | (have := HB1;go_at_call 41;(with_reducible refine ((HX.out.below HB1.out).there_ b lv _ HTB.out).mono ?_);rintro e w2 ⟨rfl,hb⟩;have HB2 := Aside0.mk (bel_trans HB1.out hb);clear hb) | (go_at_call 41;(with_reducible refine (HX.out.there_ a lv _ HTA.out).mono ?_);rintro e w1 ⟨rfl,hb⟩;have HB1 := Aside0.mk hb;clear hb))
   go_ret
   exact ⟨rfl,HB2.out⟩
  | true =>
   have hab : (a == b) = true := by have := HNO.out;simpa using this
   have q1 : decide (a = b) = true := by simpa using hab
   go_enter Try.func39,Try.ntmps39
   go_wp2_with (first | (have := HB1;go_at_call 41;(with_reducible refine ((HX.out.below HB1.out).there_ b lv _ HTB.out).mono ?_);rintro e w2 ⟨rfl,hb⟩;have HB2 := Aside0.mk (bel_trans HB1.out hb);clear hb) | (go_at_call 41;(with_reducible refine (HX.out.there_ a lv _ HTA.out).mono ?_);rintro e w1 ⟨rfl,hb⟩;have HB1 := Aside0.mk hb;clear hb))
   go_ret
   exact ⟨rfl,HB2.out⟩
set_option maxHeartbeats 16000000 in
set_option maxRecDepth 100000 in
theorem DX.link_yes (h : DX w0 w g F s) (hm : 0 ≤ s.m) (hl : s.l.length ≤ 100000) {ka kb j : Nat} {n : Nd} {ls : List Int} (hn : s.l[ka]? = some n) (hj : n.links[j]? = some ls) (hls : ls.length ≤ 90000) (hnl : n.links.length ≤ 900) (most : Int) (ha : s.there ka j = true) (hb : s.there kb j = true) (hab : ka ≠ kb) :
  Calls Try.prog 39 #[.pointer (some ⟨g,0,none⟩),.int .i64 ka,.int .i64 kb,.int .i64 j,.int .i64 most] w fun e w' => e = .returned (.bool true) ∧ (∃ F',DX w0 w' g F' (s.setL ka j (linked s ka kb j most)) ∧ ∀ k,F' k → more F w w' k) ∧ Only F w w' := by
 have hu := Try.underlying48
 have hu2 := Try.underlying37
 have hu3 := Try.underlying26
 have HTA := Aside0.mk ha
 have HTB := Aside0.mk hb
 have HX := Aside0.mk h
 obtain ⟨vL,hG⟩ := h
 obtain ⟨rb,cap,r,c3,A1,c1,A5,c5,rfl,hR,hL⟩ := hG.rdl hn hj
 have HG := Aside0.mk hG
 have HRD := Aside0.mk hR
 have HLK := Aside0.mk hL
 have HM := Aside0.mk (show 0 ≤ s.m ∧ s.l.length ≤ 100000 ∧ ls.length ≤ 90000 ∧ n.links.length ≤ 900 ∧ w0.heap.size ≤ w.heap.size from ⟨hm,hl,hls,hnl,hG.at0.size⟩)
 have HNN := Aside0.mk hn
 have HJL := Aside0.mk (List.getElem?_eq_some_iff.1 hj).1
 have q1 : (ka : Int) < (s.l.length : Int) := by have := (List.getElem?_eq_some_iff.1 hn).1;omega
 have q2 : (j : Int) < (n.links.length : Int) := by have := (List.getElem?_eq_some_iff.1 hj).1;omega
 have q3 : decide ((ka : Int) = (kb : Int)) = false := decide_eq_false (by omega)
 have q4 : decide (ka = kb) = false := decide_eq_false hab
 have q5 : ((ka : Int) == (kb : Int)) = false := beq_eq_false_iff_ne.2 (by omega)
 have q6 : (ka == kb) = false := beq_eq_false_iff_ne.2 hab
 have q7 : (ka = kb) = False := eq_false hab
 have HAT := Aside0.mk (show s.at_ ka j = ls by unfold Gr.at_;rw [lk_nat hn];simp [hj])
 have HVE := Aside0.mk (show s.vec ka = n.vec from vec_nat hn)
 have HLEN := Aside0.mk (show (ls ++ [(kb : Int)]).length = ls.length + 1 by simp)
 clear hG hR hL hm hl hn hj hls hnl ha hb hab
 cases hc : ls.contains (kb : Int) with
 | true =>
  have HCC := Aside0.mk hc
  cases hbig : decide (most < (ls.length : Int)) with
  | false =>
   have HLD := Aside0.mk (show linked s ka kb j most = ls by unfold linked;rw [HAT.out,hc];simp only [if_true];rw [if_neg (decide_eq_false_iff_not.1 hbig)])
   clear hc
   go_enter Try.func39,Try.ntmps39
   go_wp2_with (first | (have := HZ4;at_builtin;obtain ⟨us,hul,huc,hu1⟩ := HR4.out.us;go_must (refine app_L (w0 := w0) (F := F) rfl _ _ rfl (v := .slice none 0 0) (ls := []) (ls2 := n.links) (us := us) (LkD.nil w0 _ F) rfl rfl rfl hul (Nat.lt_of_le_of_lt (Nat.zero_le _) HJL.out) huc (LkD.us (HLK.out.below HB4.out) rfl hul huc) hu1 (by have := HM.out;simp only [List.length_nil];omega) (HG.out.below HB4.out).at0.size ?_);intro v8 w8 hv hO hat;rw [List.nil_append] at hv;have hb := hO.below_of (Below.refl w4.heap.size w4) (fun k hk => by cases hk);have HB8 := Aside0.mk (bel_trans HB4.out hb);have HZ8 := Aside0.mk (HZ4.out.below hb);obtain ⟨r8,cp8,u8,rfl,hz8, -, -⟩ := hv.at (List.getElem?_eq_getElem HJL.out);have hat8 : r8 = w4.heap.size := (by rcases hat with e | e;cases e;injection e);have HV8 := Aside0.mk hv;have H8 := Aside0.mk (show w.heap.size ≤ r8 by rw [hat8];exact HB4.out.size);obtain ⟨c8,hc8⟩ := (by obtain ⟨_,inn,k1,_⟩ := hv;exact own_typed k1 r8 rfl : ∃ c,w8.heap[r8]? = some (.cells c 40 (0,0)));have fz := blk_frozen hc8 j;have HS5 := Aside0.mk (HB4.out.size);clear y1 y5 yv yz;have HR8 := Aside0.mk (HRD.out.below HB8.out);have y1 := HR8.out.y1;have y5 := HR8.out.y5;have yv := HR8.out.yv;have yz := HR8.out.z;have fz2 := HR8.out.fz;have HNE := Aside0.mk (show rb ≠ r8 by have h1 := (HX.out.low rb (HG.out.vF rb rfl)).2;have h2 := H8.out;omega);have HNG := Aside0.mk (show g ≠ r8 by have h1 := (HX.out.low g HG.out.gF).2;have h2 := H8.out;omega);have ne1 := HNE.out;have ne2 := HNG.out;clear hv hO hat hb hat8 hul huc hu1) | (have := HZ3;go_at_call 23;go_must (with_reducible refine (has_calls a3 k3 ls kb _ HC3.out.2 HC3.out.1 (by have := HM.out;omega) _ HCC.out).mono ?_);rintro e w4 ⟨rfl,hb⟩;have HB4 := Aside0.mk (bel_trans HB3.out hb);have HZ4 := Aside0.mk (HZ3.out.below hb);have HC4 := Aside0.mk (Kd.C_below HC3.out.2 hb);have HR4 := Aside0.mk (HRD.out.below HB4.out);have y1 := HR4.out.y1;have y5 := HR4.out.y5;have yv := HR4.out.yv;have yz := HR4.out.z;clear hb) | (have := HR2;at_builtin;go_must (refine app_Z rfl _ _ rfl w.heap.size _ [] ls A5 ls.length c5 rfl rfl rfl (OwnZ.nil _ _) HR2.out.C HR2.out.c0 (by have := HM.out;simp only [List.length_nil];omega) HB2.out.size ?_);intro v3 w3 hv hO hat;rw [List.nil_append] at hv;have hb := hO.below_of (Below.refl w2.heap.size w2) (fun k hk => by cases hk);have HB3 := Aside0.mk (bel_trans HB2.out hb);have HZ3 := Aside0.mk hv;obtain ⟨a3,k3,rfl,hf3,hC3⟩ := hv.C;have HC3 := Aside0.mk (And.intro hf3 hC3);clear hv hO hat hb hf3 hC3 y1 y5 yv yz) | (have := HB1;go_at_call 41;(with_reducible refine ((HX.out.below HB1.out).there_ kb j _ HTB.out).mono ?_);rintro e w2 ⟨rfl,hb⟩;have HB2 := Aside0.mk (bel_trans HB1.out hb);have HR2 := Aside0.mk (HRD.out.below HB2.out);have y1 := HR2.out.y1;have y5 := HR2.out.y5;have yv := HR2.out.yv;have yz := HR2.out.z;clear hb) | (go_at_call 41;(with_reducible refine (HX.out.there_ ka j _ HTA.out).mono ?_);rintro e w1 ⟨rfl,hb⟩;have HB1 := Aside0.mk hb;clear hb))
   skip
   go_ret
   rw [HLD.out]
   obtain ⟨hf1,hf2⟩ := relinked HG.out HB8.out HS5.out HNN.out rfl HJL.out HV8.out H8.out HZ8.out
   exact ⟨rfl,⟨_,hf1,fun k hk => hk⟩,hf2⟩
  | true =>
   have HLD := Aside0.mk (show linked s ka kb j most = chooseG s n.vec ls most by unfold linked;rw [HAT.out,hc];simp only [if_true];rw [if_pos (of_decide_eq_true hbig),HVE.out])
   clear hc
   go_enter Try.func39,Try.ntmps39
   go_wp2_with (first | (have := HZ7;at_builtin;obtain ⟨us,hul,huc,hu1⟩ := HR7.out.us;go_must (refine app_L (w0 := w0) (F := F) rfl _ _ rfl (v := .slice none 0 0) (ls := []) (ls2 := n.links) (us := us) (LkD.nil w0 _ F) rfl rfl rfl hul (Nat.lt_of_le_of_lt (Nat.zero_le _) HJL.out) huc (LkD.us (HLK.out.below HB7.out) rfl hul huc) hu1 (by have := HM.out;simp only [List.length_nil];omega) (HG.out.below HB7.out).at0.size ?_);intro v8 w8 hv hO hat;rw [List.nil_append] at hv;have hb := hO.below_of (Below.refl w7.heap.size w7) (fun k hk => by cases hk);have HB8 := Aside0.mk (bel_trans HB7.out hb);have HZ8 := Aside0.mk (HZ7.out.below hb);obtain ⟨r8,cp8,u8,rfl,hz8, -, -⟩ := hv.at (List.getElem?_eq_getElem HJL.out);have hat8 : r8 = w7.heap.size := (by rcases hat with e | e;cases e;injection e);have HV8 := Aside0.mk hv;have H8 := Aside0.mk (show w.heap.size ≤ r8 by rw [hat8];exact HB7.out.size);obtain ⟨c8,hc8⟩ := (by obtain ⟨_,inn,k1,_⟩ := hv;exact own_typed k1 r8 rfl : ∃ c,w8.heap[r8]? = some (.cells c 40 (0,0)));have fz := blk_frozen hc8 j;have HS5 := Aside0.mk (HB7.out.size);clear y1 y5 yv yz;have HR8 := Aside0.mk (HRD.out.below HB8.out);have y1 := HR8.out.y1;have y5 := HR8.out.y5;have yv := HR8.out.yv;have yz := HR8.out.z;have fz2 := HR8.out.fz;have HNE := Aside0.mk (show rb ≠ r8 by have h1 := (HX.out.low rb (HG.out.vF rb rfl)).2;have h2 := H8.out;omega);have HNG := Aside0.mk (show g ≠ r8 by have h1 := (HX.out.low g HG.out.gF).2;have h2 := H8.out;omega);have ne1 := HNE.out;have ne2 := HNG.out;clear hv hO hat hb hat8 hul huc hu1) | (have := HZ4;go_at_call 43;go_must (with_reducible refine ((HX.out.below HB4.out).choose_ HM.out.1 A1 c1 n.vec HR4.out.V HR4.out.fit a3 k3 ls (ls.length) rfl HC4.out HM.out.2.1 (by have := HM.out;omega) most).mono ?_);rintro e w7 ⟨⟨v7,rfl,hv⟩,hb⟩;obtain ⟨a7,k7,rfl, -, -⟩ := hv.C;have HB7 := Aside0.mk (bel_trans HB4.out hb);have HZ7 := Aside0.mk (hv.weaken HB4.out.size);clear y1 y5 yv yz;have HR7 := Aside0.mk (HRD.out.below HB7.out);have y1 := HR7.out.y1;have y5 := HR7.out.y5;have yv := HR7.out.yv;have yz := HR7.out.z;clear hv hb) | (have := HZ3;go_at_call 23;go_must (with_reducible refine (has_calls a3 k3 ls kb _ HC3.out.2 HC3.out.1 (by have := HM.out;omega) _ HCC.out).mono ?_);rintro e w4 ⟨rfl,hb⟩;have HB4 := Aside0.mk (bel_trans HB3.out hb);have HZ4 := Aside0.mk (HZ3.out.below hb);have HC4 := Aside0.mk (Kd.C_below HC3.out.2 hb);have HR4 := Aside0.mk (HRD.out.below HB4.out);have y1 := HR4.out.y1;have y5 := HR4.out.y5;have yv := HR4.out.yv;have yz := HR4.out.z;clear hb) | (have := HR2;at_builtin;go_must (refine app_Z rfl _ _ rfl w.heap.size _ [] ls A5 ls.length c5 rfl rfl rfl (OwnZ.nil _ _) HR2.out.C HR2.out.c0 (by have := HM.out;simp only [List.length_nil];omega) HB2.out.size ?_);intro v3 w3 hv hO hat;rw [List.nil_append] at hv;have hb := hO.below_of (Below.refl w2.heap.size w2) (fun k hk => by cases hk);have HB3 := Aside0.mk (bel_trans HB2.out hb);have HZ3 := Aside0.mk hv;obtain ⟨a3,k3,rfl,hf3,hC3⟩ := hv.C;have HC3 := Aside0.mk (And.intro hf3 hC3);clear hv hO hat hb hf3 hC3 y1 y5 yv yz) | (have := HB1;go_at_call 41;(with_reducible refine ((HX.out.below HB1.out).there_ kb j _ HTB.out).mono ?_);rintro e w2 ⟨rfl,hb⟩;have HB2 := Aside0.mk (bel_trans HB1.out hb);have HR2 := Aside0.mk (HRD.out.below HB2.out);have y1 := HR2.out.y1;have y5 := HR2.out.y5;have yv := HR2.out.yv;have yz := HR2.out.z;clear hb) | (go_at_call 41;(with_reducible refine (HX.out.there_ ka j _ HTA.out).mono ?_);rintro e w1 ⟨rfl,hb⟩;have HB1 := Aside0.mk hb;clear hb))
   skip
   go_ret
   rw [HLD.out]
   obtain ⟨hf1,hf2⟩ := relinked HG.out HB8.out HS5.out HNN.out rfl HJL.out HV8.out H8.out HZ8.out
   exact ⟨rfl,⟨_,hf1,fun k hk => hk⟩,hf2⟩
 | false =>
  have HCC := Aside0.mk hc
  cases hbig : decide (most < (ls.length : Int) + 1) with
  | false =>
   have HLD := Aside0.mk (show linked s ka kb j most = ls ++ [(kb : Int)] by unfold linked;rw [HAT.out,hc];simp only [Bool.false_eq_true,if_false];rw [if_neg (by have := decide_eq_false_iff_not.1 hbig;rw [HLEN.out];omega)])
   clear hc
   go_enter Try.func39,Try.ntmps39
   go_wp2_with (first | (have := HZ5;at_builtin;obtain ⟨us,hul,huc,hu1⟩ := HR5.out.us;go_must (refine app_L (w0 := w0) (F := F) rfl _ _ rfl (v := .slice none 0 0) (ls := []) (ls2 := n.links) (us := us) (LkD.nil w0 _ F) rfl rfl rfl hul (Nat.lt_of_le_of_lt (Nat.zero_le _) HJL.out) huc (LkD.us (HLK.out.below HB5.out) rfl hul huc) hu1 (by have := HM.out;simp only [List.length_nil];omega) (HG.out.below HB5.out).at0.size ?_);intro v8 w8 hv hO hat;rw [List.nil_append] at hv;have hb := hO.below_of (Below.refl w5.heap.size w5) (fun k hk => by cases hk);have HB8 := Aside0.mk (bel_trans HB5.out hb);have HZ8 := Aside0.mk (HZ5.out.below hb);obtain ⟨r8,cp8,u8,rfl,hz8, -, -⟩ := hv.at (List.getElem?_eq_getElem HJL.out);have hat8 : r8 = w5.heap.size := (by rcases hat with e | e;cases e;injection e);have HV8 := Aside0.mk hv;have H8 := Aside0.mk (show w.heap.size ≤ r8 by rw [hat8];exact HB5.out.size);obtain ⟨c8,hc8⟩ := (by obtain ⟨_,inn,k1,_⟩ := hv;exact own_typed k1 r8 rfl : ∃ c,w8.heap[r8]? = some (.cells c 40 (0,0)));have fz := blk_frozen hc8 j;have HS5 := Aside0.mk (HB5.out.size);clear y1 y5 yv yz;have HR8 := Aside0.mk (HRD.out.below HB8.out);have y1 := HR8.out.y1;have y5 := HR8.out.y5;have yv := HR8.out.yv;have yz := HR8.out.z;have fz2 := HR8.out.fz;have HNE := Aside0.mk (show rb ≠ r8 by have h1 := (HX.out.low rb (HG.out.vF rb rfl)).2;have h2 := H8.out;omega);have HNG := Aside0.mk (show g ≠ r8 by have h1 := (HX.out.low g HG.out.gF).2;have h2 := H8.out;omega);have ne1 := HNE.out;have ne2 := HNG.out;clear hv hO hat hb hat8 hul huc hu1) | (have := HZ4;at_builtin;go_must (refine app_Z rfl _ _ rfl w.heap.size _ ls [(kb : Int)] (some ⟨w4.heap.size,0,none⟩) 1 1 rfl rfl rfl (HZ4.out.below (below_trans_alloc (Below.refl _ _))) (lit_Z w4 kb) (fun e => by cases e) (by have := HM.out;simp only [List.length_cons,List.length_nil];omega) (by rw [World.size_alloc];have := HB4.out.size;omega) ?_);intro v5 w5 hv hO hat;have HB5 := Aside0.mk (hO.below_of (below_alloc HB4.out _) (fun i hi => own_base HZ4.out i hi));have HZ5 := Aside0.mk hv;obtain ⟨a5,k5,rfl,hf5,hC5⟩ := hv.C;rw [HLEN.out] at hf5 hC5 HZ5 ⊢;have HC5 := Aside0.mk (And.intro hf5 hC5);clear y1 y5 yv yz;have HR5 := Aside0.mk (HRD.out.below HB5.out);have y1 := HR5.out.y1;have y5 := HR5.out.y5;have yv := HR5.out.yv;have yz := HR5.out.z;clear hv hO hat hf5 hC5) | (have := HZ3;go_at_call 23;go_must (with_reducible refine (has_calls a3 k3 ls kb _ HC3.out.2 HC3.out.1 (by have := HM.out;omega) _ HCC.out).mono ?_);rintro e w4 ⟨rfl,hb⟩;have HB4 := Aside0.mk (bel_trans HB3.out hb);have HZ4 := Aside0.mk (HZ3.out.below hb);have HC4 := Aside0.mk (Kd.C_below HC3.out.2 hb);have HR4 := Aside0.mk (HRD.out.below HB4.out);have y1 := HR4.out.y1;have y5 := HR4.out.y5;have yv := HR4.out.yv;have yz := HR4.out.z;clear hb) | (have := HR2;at_builtin;go_must (refine app_Z rfl _ _ rfl w.heap.size _ [] ls A5 ls.length c5 rfl rfl rfl (OwnZ.nil _ _) HR2.out.C HR2.out.c0 (by have := HM.out;simp only [List.length_nil];omega) HB2.out.size ?_);intro v3 w3 hv hO hat;rw [List.nil_append] at hv;have hb := hO.below_of (Below.refl w2.heap.size w2) (fun k hk => by cases hk);have HB3 := Aside0.mk (bel_trans HB2.out hb);have HZ3 := Aside0.mk hv;obtain ⟨a3,k3,rfl,hf3,hC3⟩ := hv.C;have HC3 := Aside0.mk (And.intro hf3 hC3);clear hv hO hat hb hf3 hC3 y1 y5 yv yz) | (have := HB1;go_at_call 41;(with_reducible refine ((HX.out.below HB1.out).there_ kb j _ HTB.out).mono ?_);rintro e w2 ⟨rfl,hb⟩;have HB2 := Aside0.mk (bel_trans HB1.out hb);have HR2 := Aside0.mk (HRD.out.below HB2.out);have y1 := HR2.out.y1;have y5 := HR2.out.y5;have yv := HR2.out.yv;have yz := HR2.out.z;clear hb) | (go_at_call 41;(with_reducible refine (HX.out.there_ ka j _ HTA.out).mono ?_);rintro e w1 ⟨rfl,hb⟩;have HB1 := Aside0.mk hb;clear hb))
   skip
   go_ret
   rw [HLD.out]
   obtain ⟨hf1,hf2⟩ := relinked HG.out HB8.out HS5.out HNN.out rfl HJL.out HV8.out H8.out HZ8.out
   exact ⟨rfl,⟨_,hf1,fun k hk => hk⟩,hf2⟩
  | true =>
   have HLD := Aside0.mk (show linked s ka kb j most = chooseG s n.vec (ls ++ [(kb : Int)]) most by unfold linked;rw [HAT.out,hc];simp only [Bool.false_eq_true,if_false];rw [if_pos (by have := of_decide_eq_true hbig;rw [HLEN.out];omega),HVE.out])
   clear hc
   go_enter Try.func39,Try.ntmps39
   go_wp2_with (first | (have := HZ7;at_builtin;obtain ⟨us,hul,huc,hu1⟩ := HR7.out.us;go_must (refine app_L (w0 := w0) (F := F) rfl _ _ rfl (v := .slice none 0 0) (ls := []) (ls2 := n.links) (us := us) (LkD.nil w0 _ F) rfl rfl rfl hul (Nat.lt_of_le_of_lt (Nat.zero_le _) HJL.out) huc (LkD.us (HLK.out.below HB7.out) rfl hul huc) hu1 (by have := HM.out;simp only [List.length_nil];omega) (HG.out.below HB7.out).at0.size ?_);intro v8 w8 hv hO hat;rw [List.nil_append] at hv;have hb := hO.below_of (Below.refl w7.heap.size w7) (fun k hk => by cases hk);have HB8 := Aside0.mk (bel_trans HB7.out hb);have HZ8 := Aside0.mk (HZ7.out.below hb);obtain ⟨r8,cp8,u8,rfl,hz8, -, -⟩ := hv.at (List.getElem?_eq_getElem HJL.out);have hat8 : r8 = w7.heap.size := (by rcases hat with e | e;cases e;injection e);have HV8 := Aside0.mk hv;have H8 := Aside0.mk (show w.heap.size ≤ r8 by rw [hat8];exact HB7.out.size);obtain ⟨c8,hc8⟩ := (by obtain ⟨_,inn,k1,_⟩ := hv;exact own_typed k1 r8 rfl : ∃ c,w8.heap[r8]? = some (.cells c 40 (0,0)));have fz := blk_frozen hc8 j;have HS5 := Aside0.mk (HB7.out.size);clear y1 y5 yv yz;have HR8 := Aside0.mk (HRD.out.below HB8.out);have y1 := HR8.out.y1;have y5 := HR8.out.y5;have yv := HR8.out.yv;have yz := HR8.out.z;have fz2 := HR8.out.fz;have HNE := Aside0.mk (show rb ≠ r8 by have h1 := (HX.out.low rb (HG.out.vF rb rfl)).2;have h2 := H8.out;omega);have HNG := Aside0.mk (show g ≠ r8 by have h1 := (HX.out.low g HG.out.gF).2;have h2 := H8.out;omega);have ne1 := HNE.out;have ne2 := HNG.out;clear hv hO hat hb hat8 hul huc hu1) | (have := HZ5;go_at_call 43;go_must (with_reducible refine ((HX.out.below HB5.out).choose_ HM.out.1 A1 c1 n.vec HR5.out.V HR5.out.fit a5 k5 (ls ++ [(kb : Int)]) (ls.length + 1) HLEN.out HC5.out.2 HM.out.2.1 (by have := HM.out;omega) most).mono ?_);rintro e w7 ⟨⟨v7,rfl,hv⟩,hb⟩;obtain ⟨a7,k7,rfl, -, -⟩ := hv.C;have HB7 := Aside0.mk (bel_trans HB5.out hb);have HZ7 := Aside0.mk (hv.weaken HB5.out.size);clear y1 y5 yv yz;have HR7 := Aside0.mk (HRD.out.below HB7.out);have y1 := HR7.out.y1;have y5 := HR7.out.y5;have yv := HR7.out.yv;have yz := HR7.out.z;clear hv hb) | (have := HZ4;at_builtin;go_must (refine app_Z rfl _ _ rfl w.heap.size _ ls [(kb : Int)] (some ⟨w4.heap.size,0,none⟩) 1 1 rfl rfl rfl (HZ4.out.below (below_trans_alloc (Below.refl _ _))) (lit_Z w4 kb) (fun e => by cases e) (by have := HM.out;simp only [List.length_cons,List.length_nil];omega) (by rw [World.size_alloc];have := HB4.out.size;omega) ?_);intro v5 w5 hv hO hat;have HB5 := Aside0.mk (hO.below_of (below_alloc HB4.out _) (fun i hi => own_base HZ4.out i hi));have HZ5 := Aside0.mk hv;obtain ⟨a5,k5,rfl,hf5,hC5⟩ := hv.C;rw [HLEN.out] at hf5 hC5 HZ5 ⊢;have HC5 := Aside0.mk (And.intro hf5 hC5);clear y1 y5 yv yz;have HR5 := Aside0.mk (HRD.out.below HB5.out);have y1 := HR5.out.y1;have y5 := HR5.out.y5;have yv := HR5.out.yv;have yz := HR5.out.z;clear hv hO hat hf5 hC5) | (have := HZ3;go_at_call 23;go_must (with_reducible refine (has_calls a3 k3 ls kb _ HC3.out.2 HC3.out.1 (by have := HM.out;omega) _ HCC.out).mono ?_);rintro e w4 ⟨rfl,hb⟩;have HB4 := Aside0.mk (bel_trans HB3.out hb);have HZ4 := Aside0.mk (HZ3.out.below hb);have HC4 := Aside0.mk (Kd.C_below HC3.out.2 hb);have HR4 := Aside0.mk (HRD.out.below HB4.out);have y1 := HR4.out.y1;have y5 := HR4.out.y5;have yv := HR4.out.yv;have yz := HR4.out.z;clear hb) | (have := HR2;at_builtin;go_must (refine app_Z rfl _ _ rfl w.heap.size _ [] ls A5 ls.length c5 rfl rfl rfl (OwnZ.nil _ _) HR2.out.C HR2.out.c0 (by have := HM.out;simp only [List.length_nil];omega) HB2.out.size ?_);intro v3 w3 hv hO hat;rw [List.nil_append] at hv;have hb := hO.below_of (Below.refl w2.heap.size w2) (fun k hk => by cases hk);have HB3 := Aside0.mk (bel_trans HB2.out hb);have HZ3 := Aside0.mk hv;obtain ⟨a3,k3,rfl,hf3,hC3⟩ := hv.C;have HC3 := Aside0.mk (And.intro hf3 hC3);clear hv hO hat hb hf3 hC3 y1 y5 yv yz) | (have := HB1;go_at_call 41;(with_reducible refine ((HX.out.below HB1.out).there_ kb j _ HTB.out).mono ?_);rintro e w2 ⟨rfl,hb⟩;have HB2 := Aside0.mk (bel_trans HB1.out hb);have HR2 := Aside0.mk (HRD.out.below HB2.out);have y1 := HR2.out.y1;have y5 := HR2.out.y5;have yv := HR2.out.yv;have yz := HR2.out.z;clear hb) | (go_at_call 41;(with_reducible refine (HX.out.there_ ka j _ HTA.out).mono ?_);rintro e w1 ⟨rfl,hb⟩;have HB1 := Aside0.mk hb;clear hb))
   skip
   go_ret
   rw [HLD.out]
   obtain ⟨hf1,hf2⟩ := relinked HG.out HB8.out HS5.out HNN.out rfl HJL.out HV8.out H8.out HZ8.out
   exact ⟨rfl,⟨_,hf1,fun k hk => hk⟩,hf2⟩
end
end Go.Proofs.Ytofmlajanopniaa.Li
namespace Go.Proofs.Ytofmlajanopniaa.Li
open Go.RowKit Go.Maps Go.Proofs.YtofmlajanopniaaW.PrintWords Go.Proofs.YtofmlajanopniaaW.PrintLast Go.Proofs.YtofmlajanopniaaW.PrintMore Go.Proofs.Ytofmlajanopniaa.Q Go.Proofs.Ytofmlajanopniaa.Tk
def radd.T6 : Bool × List (List Nat × List Nat) := (true,[([],[]),([],[]),([1],[1]),([2],[2]),([3],[3]),([],[]),([5],[5]),([4,6],[4,6]),([0,0,1,2,3,4,5,6,7],[0]),([8,0,1,2,3,4,5,6,7],[8]),([9,7,7,0,1,2,3,4,5,6,7],[7,9])])
def radd.B6 : List Nat := [0,0,2,6,14,0,32,126,255,511,1023]
theorem radd.tab6 : rtab .any (opsOf Try.f38 6) = radd.T6 := by kernel_rfl
theorem radd.bits6 : waitsOk radd.T6.2 radd.B6 = true := by kernel_rfl
section
variable {ops : Array Oper} {rest : List Oper} {o : Oper} {a : Act} {w0 w : World} {K : Act → World → Prop} {Q : Exit → Act → World → Prop} {E : Prop} {F : Nat → Prop} {vL : Value}
theorem step_D (hgd : o.guard = none) (sl x : Operand) (ho : o.op = .call { callee := .builtin .append,args := #[sl,x],argTypes := #[46,46] }) (l : List Nd) (hs : a.eval sl = vL) (hrow : RowD w0 w F vL l) (n : Nd) (A1 : Option Addr) (c1 : Nat) (A2 : Option Addr) (c2 : Nat) (v3 : Value) (p : Nat) (hx : a.eval x = .slice (some ⟨p,0,none⟩) 1 1) (hp : w.heap[p]? = some (.cells (DC n A1 c1 A2 c2 v3).toArray 37 (0,0)))
  (hf : FrV w0 n A1 c1 A2 c2) (hL : LkD w0 w F v3 n.links) (hl : l.length ≤ 100000) (hb : w0.heap.size ≤ w.heap.size)
  (h : ∀ v1 w1,RowD w0 w1 F v1 (l ++ [n]) → Only (fun i => vL.ownBlock = some i) w w1 → (v1.ownBlock = vL.ownBlock ∨ v1.ownBlock = some w.heap.size) → K (a.put o.dst v1) w1) : if Region.wanted o (yielded ops a.tmps) = true then Oper.wp Try.prog o a w K Q else E := by
 obtain ⟨v1,w1,hrun,h1,h2,h3⟩ := run_append_D o.type l hrow n A1 c1 A2 c2 v3 p hp hf hL hl hb
 rw [if_pos (by simp [Region.wanted,hgd])]
 unfold Oper.wp execOp
 simp only [ho,resolve,invoke,builtin,Sem.run_bind,Sem.run_pure,Result.andThen_ok,List.map_toArray,List.map_cons,List.map_nil,hs,hx,hrun]
 exact h v1 w1 h1 h2 h3
end
section
variable {w0 w w' : World} {g : Nat} {F F' : Nat → Prop} {vL : Value} {s : Gr}
theorem added_allD {W w1 : World} {v1 : Value} {n : Nd} (h : DM w0 w g F vL s) (hb : Below w.heap.size w W) (hG : DM w0 W g (more F w W) vL s) (hO : Only (fun i => vL.ownBlock = some i) W w1) (hr : RowD w0 w1 (more F w W) v1 (s.l ++ [n])) (hv : v1.ownBlock = vL.ownBlock ∨ v1.ownBlock = some W.heap.size) :
  DX w0 (w1.setCell ⟨g,1,none⟩ v1) g (more F w (w1.setCell ⟨g,1,none⟩ v1)) ⟨s.m,s.l ++ [n]⟩ ∧ Only F w (w1.setCell ⟨g,1,none⟩ v1) := by
 have hA := hG.added hO hr hv
 have hs : (w1.setCell ⟨g,1,none⟩ v1).heap.size = w1.heap.size := World.size_setCell _ _ _
 have hall : ∀ k,more F w W k ∨ (W.heap.size ≤ k ∧ k < w1.heap.size) → more F w (w1.setCell ⟨g,1,none⟩ v1) k := fun k hk => by
  rcases hk with (hk | hk) | hk
  ·exact .inl hk
  ·exact .inr ⟨hk.1,by rw [hs];exact Nat.lt_of_lt_of_le hk.2 hO.size⟩
  ·exact .inr ⟨Nat.le_trans hb.size hk.1,by rw [hs];exact hk.2⟩
 refine ⟨⟨_,hA.mono hall (fun k hk => ?_)⟩, ?_⟩
 ·rcases hk with hk | hk
  ·refine ⟨(h.low k hk).1, ?_⟩
   rw [hs];exact Nat.lt_of_lt_of_le (h.low k hk).2 (Nat.le_trans hb.size hO.size)
  ·exact ⟨Nat.le_trans h.at0.size hk.1,hk.2⟩
 ·exact (Only.of_below hb).then_ ((hO.mono (fun k hk => h.vF k hk)).set ⟨g,1,none⟩ v1 h.gF) (fun i hi _ => hi)
theorem DM.widen {W : World} (h : DM w0 W g F vL s) (hw : w0.heap.size ≤ w.heap.size) : DM w0 W g (more F w W) vL s := h.mono (fun k hk => .inl hk) (fun k hk => hk.elim (h.low k) (fun hk => ⟨Nat.le_trans hw hk.1,hk.2⟩))
theorem LkD.boxed {W : World} {b : Nat} {v u : Value} {ls : List (List Int)} {c : Array Value} (h : LkD w0 W F v ls) (hc : W.heap[b]? = some (.cells c 37 (0,0))) (j : Nat) : LkD w0 (W.setCell ⟨b,j,none⟩ u) F v ls :=
 h.keeps (fun k c2 t _ hk ht _ => Below.heap_setCell W ⟨b,j,none⟩ u k (fun e => by have e : k = b := e;subst e;exact ht (blk_type hk hc)))
theorem lit_nil (w : World) : ∀ (j : Nat) (u : Value),([.slice none 0 0] : List Value)[j]? = some u → (w.alloc (.cells #[.slice none 0 0] 40)).cell? ((⟨w.heap.size,0,none⟩ : Addr).add j) = some u := fun j u hu => by
 rw [add_plain,blk_cell (heap_alloc_new w _)]
 simpa using hu
theorem nil_row (w0 w : World) (F : Nat → Prop) : ∀ (j : Nat) (l : List Int),([[]] : List (List Int))[j]? = some l → ∃ u,([.slice none 0 0] : List Value)[j]? = some u ∧ (Kd.int .i64).R 3 w w0.heap.size F u l := fun j l hj => by
 match j,hj with
 | 0,hj =>
  cases hj
  exact ⟨_,rfl,Kd.R_nil _ _ _ _ _⟩
set_option maxHeartbeats 8000000 in
set_option maxRecDepth 100000 in
theorem DX.add_ (h : DX w0 w g F s) (hl : s.l.length ≤ 90000) (id : Int) (vec : List Int) (tags : List ByteArray) (A1 : Option Addr) (c1 : Nat) (A2 : Option Addr) (c2 : Nat) (hfr : ∀ (fr : Int) (ls : List (List Int)),FrV w0 ⟨id,vec,tags,fr,0,ls⟩ A1 c1 A2 c2) (lv v : Int) :
  Calls Try.prog 38 #[.pointer (some ⟨g,0,none⟩),.agg #[.int .u32 id,.slice A1 vec.length c1,.slice A2 tags.length c2],.int .i64 lv,.int .u64 v] w fun e w' => e = .returned (.int .i64 s.l.length) ∧ DX w0 w' g (more F w w') (s.add id vec tags lv v) ∧ Only F w w' := by
 have hu := Try.underlying48
 have hu2 := Try.underlying37
 have hu3 := Try.underlying26
 obtain ⟨vL,hG⟩ := h
 have HG := Aside0.mk hG
 have HFR := Aside0.mk hfr
 have HL := Aside0.mk (And.intro hl hG.at0.size)
 obtain ⟨L,hL⟩ : ∃ z : Nat,max 0 (min lv 4) = (z : Int) := ⟨(max 0 (min lv 4)).toNat,by omega⟩
 have HLV := Aside0.mk (show L ≤ 4 ∧ clampL lv = L by unfold clampL;rw [hL];omega)
 have HLM := Aside0.mk hL
 have hba := below_alloc (Below.refl w.heap.size w) (.cells #[.int .u32 id,.slice A1 vec.length c1,.slice A2 tags.length c2] 26)
 have HB0 := Aside0.mk (below_alloc hba (.cells #[.int .u32 id,.slice A1 vec.length c1,.slice A2 tags.length c2,.int .u64 v,.int .u64 0,.slice none 0 0] 37))
 have HX0 := Aside0.mk (show (((w.alloc (.cells #[.int .u32 id,.slice A1 vec.length c1,.slice A2 tags.length c2] 26)).alloc (.cells #[.int .u32 id,.slice A1 vec.length c1,.slice A2 tags.length c2,.int .u64 v,.int .u64 0,.slice none 0 0] 37)).heap[w.heap.size + 1]? = some (.cells #[.int .u32 id,.slice A1 vec.length c1,.slice A2 tags.length c2,.int .u64 v,.int .u64 0,.slice none 0 0] 37 (0,0))) by have := heap_alloc_new (w.alloc (.cells #[.int .u32 id,.slice A1 vec.length c1,.slice A2 tags.length c2] 26)) (.cells #[.int .u32 id,.slice A1 vec.length c1,.slice A2 tags.length c2,.int .u64 v,.int .u64 0,.slice none 0 0] 37);rw [World.size_alloc] at this;exact this)
 clear hG hfr hl hL hba
 go_enter Try.func38,Try.ntmps38
 go_wp2
 go_loopg [10] (L + 2) (fun gk v10 wr => ∃ (i : Nat) (v3 : Value),v10 = .int .i64 i ∧ Aside0 (i ≤ L + 1 ∧ L + 1 - i < gk) ∧ Aside0 (wr.heap[w.heap.size + 1]? = some (.cells #[.int .u32 id,.slice A1 vec.length c1,.slice A2 tags.length c2,.int .u64 v,.int .u64 0,v3] 37 (0,0))) ∧ Aside0 (LkD w0 wr (since w wr) v3 (List.replicate i [])) ∧ Aside0 (Below w.heap.size w wr))
 case atStart => exact ⟨0,_,rfl,⟨by omega⟩,HX0,⟨LkD.nil _ _ _⟩,HB0⟩
 case round =>
  clear HX0 HB0
  obtain ⟨i,v3,rfl,HI,HX,HK,HB⟩ := hrel
  obtain ⟨A3,c3,rfl, -, -⟩ := HK.out.slice
  rw [List.length_replicate] at HK HX
  have y5 := (blk_cell HX.out 5).trans rfl
  by_cases hi : i ≤ L
  ·have q3 : decide ((i : Int) ≤ max 0 (min lv 4)) = true := decide_eq_true (by rw [HLM.out];omega)
   have HII := Aside0.mk hi
   have hin : wrap64 ((i : Int) + 1) = ((i + 1 : Nat) : Int) := by have := HLV.out;unfold wrap64;omega
   have fz : ∀ j,wr.frozen? ⟨w.heap.size + 1,j,none⟩ = false := fun j => blk_frozen HX.out j
   clear hi
   go_wp2_with (at_builtin;go_must (refine app_L (w0 := w0) rfl _ _ rfl (ls2 := [[]]) (us := [.slice none 0 0]) (HK.out.below (below_alloc (Below.refl _ _) _)) rfl rfl rfl rfl (by omega) (lit_nil wr) (nil_row w0 _ _) (by simp [Value.oneCell']) (by have := HLV.out;have := HII.out;rw [List.length_replicate];omega) (by rw [World.size_alloc];have := HL.out;have := HB.out.size;omega) ?_);intro v6 w6 hv hO hat;have hba := below_alloc (Below.refl wr.heap.size wr) (.cells #[.slice none 0 0] 40);have HX6 := Aside0.mk ((hO.block (w.heap.size + 1) (blk_lt (blk_below HX.out hba)) (fun e => by obtain ⟨c,hc⟩ := (by obtain ⟨_,inn,k1,_⟩ := HK.out.below hba;exact own_typed k1 _ e : ∃ c,(wr.alloc (.cells #[.slice none 0 0] 40)).heap[w.heap.size + 1]? = some (.cells c 40 (0,0)));exact absurd (blk_type (blk_below HX.out hba) hc) (by decide))).trans (blk_below HX.out hba));have HB6 := Aside0.mk (hO.below_of (bel_trans HB.out hba) (fun k hk => by obtain ⟨hF,inn,k1,_⟩ := HK.out;exact (hF k hk).1));have HK6 := Aside0.mk (show LkD w0 w6 (since w w6) v6 (List.replicate (i + 1) []) by rw [List.replicate_succ'];exact hv.mono (fun k hk => by rcases hk with hk | hk;exact ⟨hk.1,Nat.lt_of_lt_of_le hk.2 (Nat.le_trans hba.size hO.size)⟩;exact ⟨Nat.le_trans HB.out.size (Nat.le_trans hba.size hk.1),hk.2⟩));obtain ⟨A6,c6,rfl, -, -⟩ := HK6.out.slice;rw [List.length_replicate] at HK6 ⊢;have y6 := (blk_cell HX6.out 5).trans rfl;have fz6 : ∀ j,w6.frozen? ⟨w.heap.size + 1,j,none⟩ = false := (fun j => blk_frozen HX6.out j);clear hv hO hat hba y5 fz)
   obtain ⟨gm,rfl⟩ : ∃ z,gk = z + 1 := ⟨gk - 1,by have := HI.out;omega⟩
   go_roundg gm
   case measure => omega
   case rel =>
    refine ⟨i + 1,_,by go_num,⟨by have := HI.out;have := HII.out;omega⟩,⟨blk_put HX6.out 5 _ rfl⟩,⟨?_⟩,⟨below_set HB6.out (by omega)⟩⟩
    exact (HK6.out.boxed HX6.out 5).mono (fun k hk => ⟨hk.1,by rw [World.size_setCell];exact hk.2⟩)
  ·have q3 : decide ((i : Int) ≤ max 0 (min lv 4)) = false := decide_eq_false (by rw [HLM.out];omega)
   have hie : i = L + 1 := by have := HI.out;omega
   rw [hie] at HX HK
   clear hi y5 hie
   go_wp2
   have HBD := Aside0.mk (bel_trans HB.out (below_drew (Below.refl _ _)))
   have HXD := Aside0.mk (blk_below HX.out (below_drew (Below.refl _ _)))
   have HKD := Aside0.mk (HK.out.below (below_drew (Below.refl _ _)))
   clear HB HX HK
   have HSZ := Aside0.mk (below_drew (Below.refl wr.heap.size wr)).size
   refine start_ (n := 11) (S := fun w' => w'.cell? ⟨g,1,none⟩ = some vL ∧ w'.cell? ⟨w.heap.size + 1,0,none⟩ = some (.int .u32 id) ∧ w'.cell? ⟨w.heap.size + 1,1,none⟩ = some (.slice A1 vec.length c1) ∧ w'.cell? ⟨w.heap.size + 1,2,none⟩ = some (.slice A2 tags.length c2) ∧ w'.cell? ⟨w.heap.size + 1,3,none⟩ = some (.int .u64 v) ∧ w'.cell? ⟨w.heap.size + 1,4,none⟩ = some (.int .u64 0) ∧ w'.cell? ⟨w.heap.size + 1,5,none⟩ = some (.slice A3 (L + 1) c3)) (ds := [10]) #[false,false,false,false,false,false,false,false,false,false,false] (by kernel_rfl) rfl rfl ⟨((blk_cell (HG.out.below HBD.out).box 1).trans rfl),((blk_cell HXD.out 0).trans rfl),((blk_cell HXD.out 1).trans rfl),((blk_cell HXD.out 2).trans rfl),((blk_cell HXD.out 3).trans rfl),((blk_cell HXD.out 4).trans rfl),((blk_cell HXD.out 5).trans rfl)⟩ (fun hHeld => ?_)
   refine with_tabW radd.tab6 radd.bits6 (fun HT_ HW_ => ?_)
   generalize wr.drew = wd at HBD HXD HKD HSZ hHeld ⊢
   refine pure_ (i := 0) (N := some 26) (v := ?_) (a' := ?_) #[true,false,false,false,false,false,false,false,false,false,false] rfl rfl (any_of HT_.out (by kernel_rfl)) (fun _ _ _ h => h) (Or.inl ⟨by rfl, ?_⟩) ?_ ?_
   rotate_left
   ·intro w'
    go_simp
    with_reducible rfl
   rotate_left
   ·simp only [Act.put,sT_,sZ_,sS_,i64_w,i32_w]
    rfl
   refine pure_ (i := 1) (N := some 27) (v := ?_) (a' := ?_) #[true,true,false,false,false,false,false,false,false,false,false] rfl rfl (any_of HT_.out (by kernel_rfl)) (fun _ _ _ h => h) (Or.inl ⟨by rfl, ?_⟩) ?_ ?_
   rotate_left
   ·intro w'
    go_simp
    with_reducible rfl
   rotate_left
   ·simp only [Act.put,sT_,sZ_,sS_,i64_w,i32_w]
    rfl
   refine pure_ (i := 2) (N := some 28) (v := ?_) (a' := ?_) #[true,true,true,false,false,false,false,false,false,false,false] rfl rfl (any_of HT_.out (by kernel_rfl)) (fun _ _ _ h => h) (Or.inl ⟨by rfl, ?_⟩) ?_ ?_
   rotate_left
   ·intro w'
    go_simp
    with_reducible rfl
   rotate_left
   ·simp only [Act.put,sT_,sZ_,sS_,i64_w,i32_w]
    rfl
   refine pure_ (i := 3) (N := some 29) (v := ?_) (a' := ?_) #[true,true,true,true,false,false,false,false,false,false,false] rfl rfl (any_of HT_.out (by kernel_rfl)) (fun _ _ _ h => h) (Or.inl ⟨by rfl, ?_⟩) ?_ ?_
   rotate_left
   ·intro w'
    go_simp
    with_reducible rfl
   rotate_left
   ·simp only [Act.put,sT_,sZ_,sS_,i64_w,i32_w]
    rfl
   refine take_ (i := 4) (N := some 30) (v := ?_) (a' := ?_) #[true,true,true,true,true,false,false,false,false,false,false] rfl rfl (take_ofW HT_.out HW_.out (by kernel_rfl)) (fun _ _ _ h => h) (Or.inl ⟨by rfl, ?_⟩) hHeld ?_ ?_
   rotate_left
   ·rintro w' ⟨s0,s1,s2,s3,s4,s5,s6⟩
    go_simp
    with_reducible rfl
   rotate_left
   ·simp only [Act.put,sT_,sZ_,sS_,i64_w,i32_w]
    rfl
   refine take_ (i := 5) (N := some 31) (v := ?_) (a' := ?_) #[true,true,true,true,true,true,false,false,false,false,false] rfl rfl (take_ofW HT_.out HW_.out (by kernel_rfl)) (fun _ _ _ h => h) (Or.inl ⟨by rfl, ?_⟩) hHeld ?_ ?_
   rotate_left
   ·rintro w' ⟨s0,s1,s2,s3,s4,s5,s6⟩
    go_simp
    with_reducible rfl
   rotate_left
   ·simp only [Act.put,sT_,sZ_,sS_,i64_w,i32_w]
    rfl
   refine one_ (i := 6) (N := some 32) #[true,true,true,true,true,true,true,false,false,false,false] rfl rfl (one_of HT_.out (by kernel_rfl)) (by decide) (fun K hK => ?_)
   refine value_ (w1 := ?_) (v := ?_) (by rfl) rfl ?_ ?_
   rotate_left 2
   ·go_simp
    constructor
    ·rfl
    ·rfl
   have HBA := Aside0.mk (below_alloc (Below.refl _ _) (.cells #[.int .u32 id,.slice A1 vec.length c1,.slice A2 tags.length c2,.int .u64 v,.int .u64 0,.slice A3 (L + 1) c3] 37) : Below wd.heap.size wd (wd.alloc (.cells #[.int .u32 id,.slice A1 vec.length c1,.slice A2 tags.length c2,.int .u64 v,.int .u64 0,.slice A3 (L + 1) c3] 37)))
   have HP := Aside0.mk (heap_alloc_new wd (.cells #[.int .u32 id,.slice A1 vec.length c1,.slice A2 tags.length c2,.int .u64 v,.int .u64 0,.slice A3 (L + 1) c3] 37))
   obtain ⟨W,hW⟩ : ∃ z,wd.alloc (.cells #[.int .u32 id,.slice A1 vec.length c1,.slice A2 tags.length c2,.int .u64 v,.int .u64 0,.slice A3 (L + 1) c3] 37) = z := ⟨_,rfl⟩
   rw [hW] at HBA HP ⊢
   clear hW
   have HBW := Aside0.mk (bel_trans HBD.out HBA.out)
   have HXW := Aside0.mk (blk_below HXD.out HBA.out)
   have HKW := Aside0.mk (HKD.out.below HBA.out)
   have HGW := Aside0.mk ((HG.out.below HBW.out).widen (w := w) HG.out.at0.size)
   refine hK.out _ _ ⟨((blk_cell (HG.out.below HBW.out).box 1).trans rfl),((blk_cell HXW.out 0).trans rfl),((blk_cell HXW.out 1).trans rfl),((blk_cell HXW.out 2).trans rfl),((blk_cell HXW.out 3).trans rfl),((blk_cell HXW.out 4).trans rfl),((blk_cell HXW.out 5).trans rfl)⟩ (fun hHeld => ?_)
   clear hK K
   refine norm_ (a' := ?_) ?_ ?_
   rotate_left
   ·show Act.put _ (some 32) _ = _
    simp only [Act.put,sT_,sZ_,sS_,i64_w,i32_w]
    rfl
   refine one_ (i := 7) (N := some 33) #[true,true,true,true,true,true,true,true,false,false,false] rfl rfl (one_of HT_.out (by kernel_rfl)) (by decide) (fun K hK => ?_)
   refine step_D (w0 := w0) rfl (.tmp 30) (.tmp 32) rfl s.l rfl HGW.out.rowD ⟨id,vec,tags,v,0,List.replicate (L + 1) []⟩ A1 c1 A2 c2 (.slice A3 (L + 1) c3) wd.heap.size rfl HP.out (HFR.out _ _) (HKW.out.mono (fun k hk => .inr ⟨hk.1,Nat.lt_of_lt_of_le hk.2 (Nat.le_trans HSZ.out HBA.out.size)⟩)) (by have := HL.out;omega) HGW.out.at0.size ?_
   intro v1 w13 hrow hO hat
   have HG13 := Aside0.mk ((hO.block g (blk_lt HGW.out.box) (fun e => by obtain ⟨c,hc⟩ := HGW.out.rowB e;exact absurd (blk_type hc HGW.out.box) (by decide))).trans HGW.out.box)
   have HX13 := Aside0.mk ((hO.block (w.heap.size + 1) (blk_lt HXW.out) (fun e => by have := (HG.out.low _ (HG.out.vF _ e)).2;omega)).trans HXW.out)
   have HFIN := Aside0.mk (added_allD HG.out HBW.out HGW.out hO hrow hat)
   obtain ⟨ao1,cap1,rfl⟩ := hrow.slice
   obtain ⟨N1,hN1⟩ : ∃ z,(s.l ++ [(⟨id,vec,tags,v,0,List.replicate (L + 1) []⟩ : Nd)]).length = z := ⟨_,rfl⟩
   rw [hN1] at HFIN ⊢
   have HN1 := Aside0.mk hN1
   clear hN1 hrow hO hat
   refine hK.out _ _ ⟨((blk_cell HG13.out 1).trans rfl),((blk_cell HX13.out 0).trans rfl),((blk_cell HX13.out 1).trans rfl),((blk_cell HX13.out 2).trans rfl),((blk_cell HX13.out 3).trans rfl),((blk_cell HX13.out 4).trans rfl),((blk_cell HX13.out 5).trans rfl)⟩ (fun hHeld => ?_)
   clear hK K
   refine norm_ (a' := ?_) ?_ ?_
   rotate_left
   ·show Act.put _ (some 33) _ = _
    simp only [Act.put,sT_,sZ_,sS_,i64_w,i32_w]
    rfl
   refine pure_ (i := 8) (N := some 34) (v := ?_) (a' := ?_) #[true,true,true,true,true,true,true,true,true,false,false] rfl rfl (any_of HT_.out (by kernel_rfl)) (fun _ _ _ h => h) (Or.inl ⟨by rfl, ?_⟩) ?_ ?_
   rotate_left
   ·intro w'
    go_simp
    with_reducible rfl
   rotate_left
   ·simp only [Act.put,sT_,sZ_,sS_,i64_w,i32_w]
    rfl
   refine pure_ (i := 9) (N := some 35) (v := ?_) (a' := ?_) #[true,true,true,true,true,true,true,true,true,true,false] rfl rfl (any_of HT_.out (by kernel_rfl)) (fun _ _ _ h => h) (Or.inl ⟨by rfl, ?_⟩) ?_ ?_
   rotate_left
   ·intro w'
    go_simp
    with_reducible rfl
   rotate_left
   ·simp only [Act.put,sT_,sZ_,sS_,i64_w,i32_w]
    rfl
   refine last_ (i := 10) (N := none) #[true,true,true,true,true,true,true,true,true,true,true] rfl rfl (one_of HT_.out (by kernel_rfl)) (by decide) (fun K hK => ?_)
   have y13 := (blk_cell HG13.out 1).trans rfl
   have fz := blk_frozen HG13.out 1
   refine skip_ (w1 := ?_) (by rfl) rfl ?_ ?_
   rotate_left
   ·go_simp
    rfl
   clear y13 fz
   refine hK.out _ _ ?_
   clear hK K
   refine done_ (done_of HT_.out (by kernel_rfl)) ?_
   clear hHeld
   have HADD := Aside0.mk (show s.add id vec tags lv v = ⟨s.m,s.l ++ [⟨id,vec,tags,v,0,List.replicate (L + 1) []⟩]⟩ by unfold Gr.add;rw [HLV.out.2])
   generalize (⟨id,vec,tags,v,0,List.replicate (L + 1) []⟩ : Nd) = nd at HFIN HADD HN1 ⊢
   generalize w13.setCell ⟨g,1,none⟩ (.slice ao1 N1 cap1) = w14 at HFIN ⊢
   obtain ⟨ao,cap,hb, -, -⟩ := HFIN.out.1.reads
   dsimp only at hb
   rw [HN1.out] at hb
   have hN1 : s.l.length + 1 = N1 := by rw [← HN1.out,List.length_append,List.length_singleton]
   have y14 := (blk_cell hb 1).trans rfl
   have HW1 := Aside0.mk (show wrap64 ((N1 : Int) - 1) = (s.l.length : Int) by have := HL.out;unfold wrap64;omega)
   clear hb hN1
   go_wp2
   go_ret
   rw [HW1.out,HADD.out]
   exact ⟨rfl,HFIN.out⟩
end
end Go.Proofs.Ytofmlajanopniaa.Li
namespace Go.Proofs.Ytofmlajanopniaa.Li
open Go.RowKit Go.Maps Go.Proofs.YtofmlajanopniaaW.PrintWords Go.Proofs.YtofmlajanopniaaW.PrintLast Go.Proofs.YtofmlajanopniaaW.PrintMore Go.Proofs.Ytofmlajanopniaa.Q Go.Proofs.Ytofmlajanopniaa.Tk
def RH (w : World) (v : Value) (A : List H) : Prop := (A = [] ∧ v = .slice none 0 0) ∨ ∃ r off n cap c,v = .slice (some ⟨r,off,none⟩) n cap ∧ n = A.length ∧ n ≤ cap ∧ w.heap[r]? = some (.cells c 58 (0,0)) ∧ ∀ j u,(cellsOf A)[j]? = some u → c[off + j]? = some u
section
variable {w w' : World} {b : Nat} {v : Value} {A : List H}
theorem RH.nil (w : World) : RH w (.slice none 0 0) [] := .inl ⟨rfl,rfl⟩
theorem RH.of_own (h : OwnH w b v A) : RH w v A := by
 rcases OwnH.row h with ⟨rfl,rfl⟩ | ⟨r,cap,rfl,h1,h2,h3⟩
 ·exact .inl ⟨rfl,rfl⟩
 ·obtain ⟨rest,hb,hl⟩ := h3.out
  refine .inr ⟨r,0,_,cap,_,rfl,rfl,h3.le,hb,fun j u hu => ?_⟩
  rw [Nat.zero_add,List.getElem?_toArray,List.getElem?_append_left (List.getElem?_eq_some_iff.1 hu).1]
  exact hu
theorem RH.only (h : RH w v A) {S : Nat → Prop} (hO : Only S w w') (hS : ∀ k,S k → ∀ c,w.heap[k]? ≠ some (.cells c 58 (0,0))) : RH w' v A := by
 rcases h with h | ⟨r,off,n,cap,c,e,h1,h2,h3,h4⟩
 ·exact .inl h
 ·exact .inr ⟨r,off,n,cap,c,e,h1,h2,(hO.block r (blk_lt h3) (fun hs => hS r hs c h3)).trans h3,h4⟩
theorem RH.below (h : RH w v A) (hb : Below w.heap.size w w') : RH w' v A := h.only (Only.of_below (S := fun _ => False) hb) (fun _ h => h.elim)
theorem RH.reads (h : RH w v A) : ∃ ao cap,v = .slice ao A.length cap ∧ ReadsH w ao cap A := by
 rcases h with ⟨rfl,rfl⟩ | ⟨r,off,n,cap,c,rfl,rfl,h2,h3,h4⟩
 ·exact ⟨none,0,rfl,Nat.le_refl _,.inl ⟨rfl,rfl,rfl⟩⟩
 ·exact ⟨_,cap,rfl,h2,.inr ⟨_,rfl,fun j u hu => by rw [add_off,blk_cell h3];exact h4 j u hu⟩⟩
theorem RH.cons {x : H} {rest : List H} (h : RH w v (x :: rest)) : ∃ r off n cap,v = .slice (some ⟨r,off,none⟩) (n + 1) (cap + 1) ∧ n = rest.length ∧ w.cell? ⟨r,off,none⟩ = some (.int .i64 x.f0) ∧ w.cell? ⟨r,off + 1,none⟩ = some (.int .u32 x.f1) ∧ RH w (.slice (some ⟨r,off + 2,none⟩) n cap) rest ∧ n ≤ cap := by
 rcases h with ⟨e,_⟩ | ⟨r,off,n,cap,c,rfl,h1,h2,h3,h4⟩
 ·cases e
 ·obtain ⟨n2,rfl⟩ : ∃ n2,n = n2 + 1 := ⟨rest.length,by rw [h1];rfl⟩
  obtain ⟨cp2,rfl⟩ : ∃ c2,cap = c2 + 1 := ⟨cap - 1,by omega⟩
  have hn : n2 = rest.length := by simpa using h1
  refine ⟨r,off,n2,cp2,rfl,hn, ?_, ?_,.inr ⟨r,off + 2,n2,cp2,c,rfl,hn,by omega,h3,fun j u hu => ?_⟩,by omega⟩
  ·rw [blk_cell h3]
   have := h4 0 (.int .i64 x.f0) rfl
   simpa using this
  ·rw [blk_cell h3]
   exact h4 1 (.int .u32 x.f1) rfl
  ·have := h4 (2 + j) u (by rw [show cellsOf (x :: rest) = enc x ++ cellsOf rest from rfl,List.getElem?_append_right (by show 2 ≤ 2 + j;omega),show 2 + j - (enc x).length = j by show 2 + j - 2 = j;omega];exact hu)
   rw [← this]
   congr 1
   omega
theorem RH.zero {r off2 n : Nat} {A : List H} (h : RH w (.slice (some ⟨r,off2,none⟩) n 0) A) (off : Nat) : RH w (.slice (some ⟨r,off,none⟩) A.length 0) A := by
 rcases h with ⟨_,e⟩ | ⟨r',off',n',cap',c,e,h1,h2,h3,h4⟩
 ·cases e
 ·injection e with e1 e2 e3
  injection e1 with e1
  injection e1 with e1 e1b
  subst e1 e2 e3
  have h0 : A = [] := List.length_eq_zero_iff.1 (by omega)
  subst h0
  exact .inr ⟨r,off,0,0,c,rfl,rfl,Nat.le_refl _,h3,fun j u hu => by simp [cellsOf] at hu⟩
theorem RH.len (h : RH w v A) : ∃ ao cap,v = .slice ao A.length cap := by obtain ⟨ao,cap,e,_⟩ := h.reads;exact ⟨ao,cap,e⟩
end
theorem rless_f (a b : H) : lodestarref02_Less.f a.f0 a.f1 b.f0 b.f1 = some (ltH a b) := by
 unfold lodestarref02_Less.f ltH
 by_cases h : a.f0 = b.f0
 ·rw [if_pos h]
  congr 1
  simp [h]
 ·rw [if_neg h]
  congr 1
  have : (a.f0 == b.f0) = false := beq_eq_false_iff_ne.2 h
  rw [this]
  simp
theorem rless_calls (d1 i1 d2 i2 : Int) (b : Bool) (hb : ltH ⟨d1,i1⟩ ⟨d2,i2⟩ = b) (w : World) : Calls Try.prog 22 #[.agg #[.int .i64 d1,.int .u32 i1],.agg #[.int .i64 d2,.int .u32 i2]] w fun e w' => e = .returned (.bool b) ∧ Below w.heap.size w w' :=
 (lodestarref02_Less.calls d1 i1 d2 i2 b w (by rw [← hb];exact rless_f ⟨d1,i1⟩ ⟨d2,i2⟩)).mono fun e w' h => h
theorem worst_at {A : List H} {W : Nat} (h : A.length = W) (hW : 0 < W) : A[W - 1]? = some (worstH A) := by
 unfold worstH
 rw [List.getLastD_eq_getLast?,List.getLast?_eq_getElem?,h]
 obtain ⟨x,hx⟩ : ∃ x,A[W - 1]? = some x := ⟨_,List.getElem?_eq_getElem (by omega)⟩
 rw [hx]
 rfl
theorem gk_pos {i n gk : Nat} (h : i ≤ n ∧ n - i ≤ gk) (hi : i < n) : ∃ z,gk = z + 1 := ⟨gk - 1,by omega⟩
theorem gk_next {i n gm : Nat} (h : i ≤ n ∧ n - i ≤ gm + 1) (hi : i < n) : i + 1 ≤ n ∧ n - (i + 1) ≤ gm := by omega
def WB (W : Nat) (k : Wk) : Prop := k.best.length ≤ W
section
variable {s : Gr} {q : List Int} {lv : Int} {W : Nat} {k : Wk} {i : Int}
theorem putK_len (W : Nat) (L : List H) (h : H) : (putK W L h).length ≤ W := by unfold putK;rw [List.length_take];omega
theorem WB.start (h : WB W k) : WB W (startN s q lv W k i) := by
 unfold startN
 split
 ·exact putK_len _ _ _
 ·exact h
theorem WB.step (h : WB W k) : WB W (stepN s q lv W k i) := by
 unfold stepN
 split
 ·exact h
 ·split
  ·exact putK_len _ _ _
  ·exact h
theorem WB.steps (h : WB W k) (L : List Int) : WB W (L.foldl (stepN s q lv W) k) := by
 induction L generalizing k with
 | nil => exact h
 | cons a L ih => exact ih h.step
theorem WB.starts (h : WB W k) (L : List Int) : WB W (L.foldl (startN s q lv W) k) := by
 induction L generalizing k with
 | nil => exact h
 | cons a L ih => exact ih h.start
theorem step_skip {x : Int} (h : (k.met.contains x || !s.there x lv) = true) : stepN s q lv W k x = k := by
 unfold stepN
 rw [if_pos h]
theorem width_pos (width : Int) : 0 < widthW width ∧ widthW width ≤ 256 ∧ max 1 (min width 256) = (widthW width : Int) := by unfold widthW;omega
end
theorem OwnZ.cc {w : World} {b n cap : Nat} {ao : Option Addr} {L : List Int} (h : OwnZ w b (.slice ao n cap) L) : Kd.C (Kd.int .i64) w ao L.length L := by
 obtain ⟨a2,c2,e,hl,hC⟩ := h.C
 injection e with e1 _ _
 subst e1
 exact hC
theorem RH.reads_ {w : World} {n cap : Nat} {ao : Option Addr} {A : List H} (h : RH w (.slice ao n cap) A) : ReadsH w ao cap A := by
 obtain ⟨a2,c2,e,hr⟩ := h.reads
 injection e with e1 _ e3
 subst e1 e3
 exact hr
theorem rfirst_own {w : World} {b : Nat} {v : Value} {A : List H} (h : OwnH w b v A) (W : Nat) (hl : A.length ≤ 1000000) :
  Calls Try.prog 75 #[v,.int .i64 W] w fun e w' => (∃ v,e = .returned v ∧ OwnH w' w.heap.size v (A.take W)) ∧ Below w.heap.size w w' := by
 obtain ⟨ao,cap,rfl,hr⟩ := OwnH.R h
 exact rfirst_calls ao cap A W w hr hl
structure DW (w wr : World) (vm vw vb : Value) (K : Wk) : Prop where
 met : OwnZ wr w.heap.size vm K.met
 waits : RH wr vw K.waits
 best : OwnH wr w.heap.size vb K.best
 at0 : Below w.heap.size w wr
section
variable {w wr wa w' : World} {vm vw vb v : Value} {K : Wk} {x : Int} {A : List H}
theorem DW.below (h : DW w wr vm vw vb K) (hb : Below wr.heap.size wr w') : DW w w' vm vw vb K := ⟨h.met.below hb,h.waits.below hb,OwnH.below h.best hb,bel_trans h.at0 hb⟩
theorem DW.meet (h : DW w wr vm vw vb K) (hb : Below wr.heap.size wr wa) (hv : OwnZ w' w.heap.size v (K.met ++ [x])) (hO : Only (fun k => vm.ownBlock = some k) wa w') : DW w w' v vw vb ⟨K.met ++ [x],K.waits,K.best⟩ := by
 have ha := h.below hb
 have hty : ∀ k,vm.ownBlock = some k → ∀ c,wa.heap[k]? ≠ some (.cells c 58 (0,0)) := fun k hk c hc => by
  obtain ⟨c2,hc2⟩ := own_typed ha.met k hk
  exact absurd (blk_type hc hc2) (by decide)
 refine ⟨hv,ha.waits.only hO hty,own_move ha.best (fun k hk => hO.block k (own_lt ha.best k hk) (fun e => ?_)),hO.below_of ha.at0 (fun k hk => own_base h.met k hk)⟩
 obtain ⟨c,hc⟩ := own_typed ha.best k hk
 exact hty k e c hc
theorem DW.wait (h : DW w wr vm vw vb K) (hb : Below wr.heap.size wr w') (hv : OwnH w' wr.heap.size v A) : DW w w' vm v vb ⟨K.met,A,K.best⟩ :=
 ⟨h.met.below hb,RH.of_own hv,OwnH.below h.best hb,bel_trans h.at0 hb⟩
theorem DW.keep (h : DW w wr vm vw vb K) (hb : Below wr.heap.size wr w') (hv : OwnH w' wr.heap.size v A) : DW w w' vm vw v ⟨K.met,K.waits,A⟩ :=
 ⟨h.met.below hb,h.waits.below hb,OwnH.weaken hv h.at0.size,bel_trans h.at0 hb⟩
end
structure ND (w wr : World) (vm vn : Value) (N : List Int) : Prop where
 own : OwnZ wr w.heap.size vn N
 ne : ∀ k,vm.ownBlock = some k → vn.ownBlock ≠ some k
theorem ND.below {w wr w' : World} {vm vn : Value} {N : List Int} (h : ND w wr vm vn N) (hb : Below wr.heap.size wr w') : ND w w' vm vn N := ⟨h.own.below hb,h.ne⟩
theorem ND.meet {w wr wa w' : World} {vm vn v : Value} {N : List Int} (h : ND w wr vm vn N) (hb : Below wr.heap.size wr wa) (hO : Only (fun k => vm.ownBlock = some k) wa w') (hat : v.ownBlock = vm.ownBlock ∨ v.ownBlock = some wa.heap.size) : ND w w' v vn N := by
 have ha := h.below hb
 refine ⟨ha.own.only hO (fun k hk e => h.ne k e hk),fun k hk e => ?_⟩
 rcases hat with h1 | h1
 ·exact h.ne k (h1 ▸ hk) e
 ·rw [h1] at hk
  injection hk with hk
  have := own_lt ha.own k e
  omega
theorem ND.at {w wr : World} {vm : Value} {n cn : Nat} {ao : Option Addr} {N : List Int} (h : ND w wr vm (.slice ao n cn) N) {i : Nat} (hi : i < N.length) : ∃ ad,ao = some ad ∧ wr.cell? (ad.add i) = some (.int .i64 N[i]) := by
 obtain ⟨a2,c2,e,hl,hC⟩ := h.own.C
 injection e with e1 _ _
 subst e1
 exact int_at hC hi
end Go.Proofs.Ytofmlajanopniaa.Li
namespace Go.Proofs.Ytofmlajanopniaa.Li
open Go.RowKit Go.Maps Go.Proofs.YtofmlajanopniaaW.PrintWords Go.Proofs.YtofmlajanopniaaW.PrintLast Go.Proofs.YtofmlajanopniaaW.PrintMore Go.Proofs.Ytofmlajanopniaa.Q Go.Proofs.Ytofmlajanopniaa.Tk
def rwk.T9 : Bool × List (List Nat × List Nat) := (true,[([],[]),([],[]),([],[]),([],[]),([2,3],[2,3]),([4],[4]),([0,1,5],[0,1,5]),([],[]),([],[]),([7,8],[7,8]),([9],[9]),([10],[10]),([6,11],[6,11]),([],[]),([13,12,6,0,1,2,3,4,5,6,7,8,9,10,11,12,13],[12,13])])
def rwk.B9 : List Nat := [0,0,0,0,12,28,63,0,0,384,896,1920,4095,0,16383]
theorem rwk.tab9 : rtab .any (opsOf Try.f44 9) = rwk.T9 := by kernel_rfl
theorem rwk.bits9 : waitsOk rwk.T9.2 rwk.B9 = true := by kernel_rfl
def rwk.T15 : Bool × List (List Nat × List Nat) := (true,[([],[]),([0],[0]),([],[]),([1,2],[1,2]),([3],[3]),([4],[4]),([4],[4]),([6,4],[4,6]),([5,7,4],[4,5,7]),([8,4],[4,8]),([4],[4]),([9,10,4,4],[4,9,10]),([4,11],[4,11])])
def rwk.B15 : List Nat := [0,1,0,7,15,31,31,95,255,511,31,2047,4095]
theorem rwk.tab15 : rtab .any (opsOf Try.f44 15) = rwk.T15 := by kernel_rfl
theorem rwk.bits15 : waitsOk rwk.T15.2 rwk.B15 = true := by kernel_rfl
def rwk.T27 : Bool × List (List Nat × List Nat) := (true,[([],[]),([],[]),([],[]),([],[]),([2,3],[2,3]),([4],[4]),([0,1,5],[0,1,5]),([],[]),([],[]),([7,8],[7,8]),([9],[9]),([10],[10]),([6,11],[6,11]),([],[]),([13,12,6,0,1,2,3,4,5,6,7,8,9,10,11,12,13],[12,13])])
def rwk.B27 : List Nat := [0,0,0,0,12,28,63,0,0,384,896,1920,4095,0,16383]
theorem rwk.tab27 : rtab .any (opsOf Try.f44 27) = rwk.T27 := by kernel_rfl
theorem rwk.bits27 : waitsOk rwk.T27.2 rwk.B27 = true := by kernel_rfl
def rwk.T28 : Bool × List (List Nat × List Nat) := (true,[([],[]),([0],[0]),([],[]),([1,2],[1,2]),([3],[3]),([4],[4]),([4],[4]),([4],[4]),([7,4],[4,7]),([8,4],[4,8]),([6,9,4],[4,6,9]),([10,4],[4,10]),([5,11,4,4],[4,5,11]),([4,12],[4,12])])
def rwk.B28 : List Nat := [0,1,0,7,15,31,31,31,159,415,991,2015,4095,8191]
theorem rwk.tab28 : rtab .any (opsOf Try.f44 28) = rwk.T28 := by kernel_rfl
theorem rwk.bits28 : waitsOk rwk.T28.2 rwk.B28 = true := by kernel_rfl
theorem boxed_hit {W w' : World} {b : Nat} {d0 i0 d i : Int} (hb : W.heap[b]? = some (.cells #[.int .i64 d0,.int .u32 i0] 58 (0,0))) (hw : (W.setCell ⟨b,0,none⟩ (.int .i64 d)).setCell ⟨b,1,none⟩ (.int .u32 i) = w') : w'.heap[b]? = some (.cells #[.int .i64 d,.int .u32 i] 58 (0,0)) := by
 rw [← hw]
 exact blk_put (blk_put hb 0 _ rfl) 1 _ rfl
theorem worst_cells {w : World} {b n cap W W1 : Nat} {ao : Option Addr} {B : List H} (h : OwnH w b (.slice ao n cap) B) (hl : B.length = W) (hW : W = W1 + 1) : ∃ rb,ao = some ⟨rb,0,none⟩ ∧ w.cell? ⟨rb,W1 * 2,none⟩ = some (.int .i64 (worstH B).f0) ∧ w.cell? ⟨rb,W1 * 2 + 1,none⟩ = some (.int .u32 (worstH B).f1) := by
 rcases OwnH.row h with ⟨_,e⟩ | ⟨r,cp,e,_⟩
 ·rw [e] at hl;simp at hl;omega
 ·injection e with e1 e2 e3
  subst e1 e2 e3
  have h1 := cells_at h (i := W1) (by omega)
  have h2 : rdH B W1 = worstH B := by
   rw [rdH_get (by omega)]
   have := worst_at hl (by omega)
   rw [show W - 1 = W1 by omega,List.getElem?_eq_getElem (by omega)] at this
   injection this
  rw [h2] at h1
  exact ⟨r,rfl,h1⟩
theorem dw_other {w wr wa w' : World} {vm vw vb vn : Value} {K : Wk} {N : List Int} (h : DW w wr vm vw vb K) (hb : Below wr.heap.size wr wa) (hN : OwnZ wr w.heap.size vn N) (hne : ∀ k,vm.ownBlock = some k → vn.ownBlock ≠ some k) (hO : Only (fun k => vn.ownBlock = some k) wa w') : DW w w' vm vw vb K := by
 have ha := h.below hb
 have hNa := hN.below hb
 have hty : ∀ k,vn.ownBlock = some k → ∀ c,wa.heap[k]? ≠ some (.cells c 58 (0,0)) := fun k hk c hc => by
  obtain ⟨c2,hc2⟩ := own_typed hNa k hk
  exact absurd (blk_type hc hc2) (by decide)
 refine ⟨ha.met.only hO (fun k hk e => hne k hk e),ha.waits.only hO hty,own_move ha.best (fun k hk => hO.block k (own_lt ha.best k hk) (fun e => ?_)),hO.below_of ha.at0 (fun k hk => own_base hN k hk)⟩
 obtain ⟨c,hc⟩ := own_typed ha.best k hk
 exact hty k e c hc
theorem wrap_u32 {k : Nat} (h : k ≤ 1000000) : IntKind.u32.wrap (k : Int) = (k : Int) := by
 unfold IntKind.wrap
 simp only [IntKind.bits,IntKind.signed,Bool.false_and,Bool.false_eq_true,if_false]
 omega
section
variable {w0 w w' : World} {g : Nat} {F F' : Nat → Prop} {s : Gr}
set_option maxHeartbeats 64000000 in
set_option maxRecDepth 100000 in
theorem DX.walk_ (h : DX w0 w g F s) (hm : 0 ≤ s.m) (hl : s.l.length ≤ 90000) (hlk : ∀ (i : Nat) (n : Nd),s.l[i]? = some n → ∀ l ∈ n.links,l.length ≤ 90000) (A : Option Addr) (c : Nat) (q : List Int) (hq : Kd.C (Kd.int .i32) w A q.length q) (hqc : q.length ≤ c) (A2 : Option Addr) (c2 : Nat) (L : List Int) (hL : Kd.C (Kd.int .i64) w A2 L.length L) (hLl : L.length ≤ 100000) (width lv : Int) :
  Calls Try.prog 44 #[.pointer (some ⟨g,0,none⟩),.slice A q.length c,.slice A2 L.length c2,.int .i64 width,.int .i64 lv] w fun e w' => (∃ v,e = .returned v ∧ OwnH w' w.heap.size v (walkG s q L width lv)) ∧ Below w.heap.size w w' := by
 have hu := Try.underlying58
 have hu2 := Try.underlying37
 have hu3 := Try.underlying48
 have hu5 := Try.underlying50
 have HX := Aside0.mk h
 have HLK := Aside0.mk hlk
 have HQ := Aside0.mk (And.intro hq hqc)
 have HL := Aside0.mk hL
 have HM := Aside0.mk (And.intro hm (And.intro hl hLl))
 have HWD := Aside0.mk (width_pos width)
 have HSEE := Aside0.mk (show walkG s q L width lv = walkL s q lv (widthW width) (s.l.length + 1) (walk0 s q L lv (widthW width)) from rfl)
 obtain ⟨ANS,hANS⟩ : ∃ z,walkG s q L width lv = z := ⟨_,rfl⟩
 rw [hANS] at HSEE ⊢
 obtain ⟨W,hW⟩ : ∃ z,widthW width = z := ⟨_,rfl⟩
 rw [hW] at HWD HSEE
 clear h hlk hq hqc hL hm hl hLl hANS hW
 go_enter Try.func44,Try.ntmps44
 go_wp2
 rw [HWD.out.2.2]
 go_loopg [11,12,13,14] L.length (fun gk v11 v12 v13 v14 wr => ∃ (i : Nat),v14 = .int .i64 i ∧ Aside0 (i ≤ L.length ∧ L.length - i ≤ gk) ∧ Aside0 (DW w wr v11 v12 v13 (walk0 s q (L.take i) lv W)))
 case atStart => exact ⟨0,rfl,⟨by omega⟩,⟨⟨OwnZ.nil _ _,RH.nil _,own_nil _ _ _ _,Below.refl _ _⟩⟩⟩
 case round =>
  obtain ⟨i,rfl,HI,HW⟩ := hrel
  by_cases hi : i < L.length
  ·have q3 : decide ((i : Int) < (L.length : Int)) = true := decide_eq_true (by omega)
   have q3' : (i : Int) < (L.length : Int) := by omega
   obtain ⟨ad,rfl,cw⟩ := int_at HL.out hi
   obtain ⟨x,hx⟩ : ∃ z,L[i] = z := ⟨_,rfl⟩
   rw [hx] at cw
   have HC0 := Aside0.mk cw
   have c0 := pw_cell_below HW.out.at0 cw
   have HII := Aside0.mk hi
   have HSN := Aside0.mk (walk0_snoc (s := s) (q := q) (lv := lv) (W := W) hi)
   rw [hx] at HSN
   have hin : wrap64 ((i : Int) + 1) = ((i + 1 : Nat) : Int) := by have := HM.out;unfold wrap64;omega
   have HK0 : Aside0 (WOk s q lv (walk0 s q (L.take i) lv W)) := ⟨WOk.nil.starts _⟩
   have HG0 := Aside0.mk (gauge_walk0 (s := s) (q := q) (lv := lv) (W := W) (L.take i))
   have HWB : Aside0 (WB W (walk0 s q (L.take i) lv W)) := ⟨WB.starts (k := ⟨[],[],[]⟩) (Nat.zero_le _) _⟩
   generalize walk0 s q (L.take i) lv W = KW at HW HSN HK0 HG0 HWB
   have HLEN := Aside0.mk (show KW.met.length ≤ 90000 ∧ KW.waits.length ≤ 90000 ∧ KW.best.length ≤ 256 by have h1 := HG0.out;have h2 := HK0.out.met_len;have h3 := HM.out;have h4 : KW.best.length ≤ W := HWB.out;have h5 := HWD.out;unfold gaugeW at h1;omega)
   obtain ⟨az,cz,rfl,hcz,hCZ⟩ := HW.out.met.C
   obtain ⟨ah,ch,rfl,hrh⟩ := HW.out.waits.reads
   obtain ⟨ab,cb,rfl,hrb⟩ := OwnH.R HW.out.best
   have HCZ := Aside0.mk (And.intro hcz hCZ)
   obtain ⟨gm,rfl⟩ := gk_pos HI.out HII.out
   clear hx hi cw hcz hCZ hrh hrb
   cases ht : s.there x lv with
   | false =>
    have HT := Aside0.mk ht
    clear ht
    go_wp2_with (go_at_call 41;(with_reducible refine ((HX.out.below HW.out.at0).there_ x lv _ HT.out).mono ?_);rintro e w3 ⟨rfl,hb⟩;have HW3 := Aside0.mk (HW.out.below hb);clear hb c0)
    go_roundg gm
    case measure => omega
    case rel =>
     refine ⟨i + 1,by go_num,⟨gk_next HI.out HII.out⟩,⟨?_⟩⟩
     rw [HSN.out,start_no (by rw [HT.out];rfl)]
     exact HW3.out
   | true =>
    obtain ⟨k,j,n,rfl, -,hn, -⟩ := there_iff.1 ht
    have HKL := Aside0.mk ((List.getElem?_eq_some_iff.1 hn).1)
    have HT := Aside0.mk ht
    clear hn ht
    cases hc : KW.met.contains (k : Int) with
    | true =>
     have HC := Aside0.mk hc
     clear hc
     go_wp2_with (first | (have := HW3;go_at_call 23;go_must (with_reducible refine (has_calls az cz _ k _ (OwnZ.cc HW3.out.met) HCZ.out.1 (by have := HLEN.out;omega) _ HC.out).mono ?_);rintro e w4 ⟨rfl,hb⟩;have HW4 := Aside0.mk (HW3.out.below hb);clear hb c0) | (go_at_call 41;(with_reducible refine ((HX.out.below HW.out.at0).there_ k lv _ HT.out).mono ?_);rintro e w3 ⟨rfl,hb⟩;have HW3 := Aside0.mk (HW.out.below hb);replace c0 := pw_cell_below hb c0;clear hb))
     go_roundg gm
     case measure => omega
     case rel =>
      refine ⟨i + 1,by go_num,⟨gk_next HI.out HII.out⟩,⟨?_⟩⟩
      rw [HSN.out,start_no (by rw [HT.out,HC.out];rfl)]
      exact HW4.out
    | false =>
     have HC := Aside0.mk hc
     have HWK := Aside0.mk (wrap_u32 (k := k) (by have := HKL.out;have := HM.out;omega))
     clear hc
     go_wp2_with (first | (have := HW4;at_builtin;go_must (refine app_Z rfl _ _ rfl w.heap.size _ KW.met [(k : Int)] (some ⟨w4.heap.size,0,none⟩) 1 1 rfl rfl rfl (HW4.out.met.below (below_alloc (Below.refl _ _) _)) (lit_Z w4 k) (fun e => by cases e) (by have := HLEN.out;simp only [List.length_cons,List.length_nil];omega) (by rw [World.size_alloc];have := HW4.out.at0.size;omega) ?_);intro v5 w5 hv hO hat;have HW5 := Aside0.mk (HW4.out.meet (below_alloc (Below.refl _ _) _) hv hO);clear hv hO hat c0) | (have := HW3;go_at_call 23;go_must (with_reducible refine (has_calls az cz _ k _ (OwnZ.cc HW3.out.met) HCZ.out.1 (by have := HLEN.out;omega) _ HC.out).mono ?_);rintro e w4 ⟨rfl,hb⟩;have HW4 := Aside0.mk (HW3.out.below hb);replace c0 := pw_cell_below hb c0;clear hb) | (go_at_call 41;(with_reducible refine ((HX.out.below HW.out.at0).there_ k lv _ HT.out).mono ?_);rintro e w3 ⟨rfl,hb⟩;have HW3 := Aside0.mk (HW.out.below hb);replace c0 := pw_cell_below hb c0;clear hb))
     have HWD9 := Aside0.mk (HW5.out.below (below_drew (Below.refl _ _)))
     have HCD9 := Aside0.mk (pw_cell_below HWD9.out.at0 HC0.out)
     refine start_ (n := 15) (S := fun w' => w'.cell? (ad.add i) = some (.int .i64 k)) (ds := [14]) #[false,false,false,false,false,false,false,false,false,false,false,false,false,false,false] (by kernel_rfl) rfl rfl (HCD9.out) (fun hHeld => ?_)
     refine with_tabW rwk.tab9 rwk.bits9 (fun HT_ HW_ => ?_)
     generalize w5.drew = wd at HWD9 HCD9 hHeld ⊢
     have HB9 := Aside0.mk (Below.refl wd.heap.size wd)
     refine pure_ (i := 0) (N := some 53) (v := ?_) (a' := ?_) #[true,false,false,false,false,false,false,false,false,false,false,false,false,false,false] rfl rfl (any_of HT_.out (by kernel_rfl)) (fun _ _ _ h => h) (Or.inl ⟨by rfl, ?_⟩) ?_ ?_
     rotate_left
     ·intro w'
      go_simp
      with_reducible rfl
     rotate_left
     ·simp only [Act.put,sT_,sZ_,sS_,i64_w,i32_w]
      rfl
     refine pure_ (i := 1) (N := some 54) (v := ?_) (a' := ?_) #[true,true,false,false,false,false,false,false,false,false,false,false,false,false,false] rfl rfl (any_of HT_.out (by kernel_rfl)) (fun _ _ _ h => h) (Or.inl ⟨by rfl, ?_⟩) ?_ ?_
     rotate_left
     ·intro w'
      go_simp
      with_reducible rfl
     rotate_left
     ·simp only [Act.put,sT_,sZ_,sS_,i64_w,i32_w]
      rfl
     refine pure_ (i := 2) (N := some 55) (v := ?_) (a' := ?_) #[true,true,true,false,false,false,false,false,false,false,false,false,false,false,false] rfl rfl (any_of HT_.out (by kernel_rfl)) (fun _ _ _ h => h) (Or.inl ⟨by rfl, ?_⟩) ?_ ?_
     rotate_left
     ·intro w'
      go_simp
      with_reducible rfl
     rotate_left
     ·simp only [Act.put,sT_,sZ_,sS_,i64_w,i32_w]
      rfl
     refine pure_ (i := 3) (N := some 56) (v := ?_) (a' := ?_) #[true,true,true,true,false,false,false,false,false,false,false,false,false,false,false] rfl rfl (any_of HT_.out (by kernel_rfl)) (fun _ _ _ h => h) (Or.inl ⟨by rfl, ?_⟩) ?_ ?_
     rotate_left
     ·intro w'
      go_simp
      with_reducible rfl
     rotate_left
     ·simp only [Act.put,sT_,sZ_,sS_,i64_w,i32_w]
      rfl
     refine pure_ (i := 4) (N := some 57) (v := ?_) (a' := ?_) #[true,true,true,true,true,false,false,false,false,false,false,false,false,false,false] rfl rfl (any_of HT_.out (by kernel_rfl)) (fun _ _ _ h => h) (Or.inl ⟨by rfl, ?_⟩) ?_ ?_
     rotate_left
     ·intro w'
      go_simp
      with_reducible rfl
     rotate_left
     ·simp only [Act.put,sT_,sZ_,sS_,i64_w,i32_w]
      rfl
     refine pure_ (i := 7) (N := some 60) (v := ?_) (a' := ?_) #[true,true,true,true,true,false,false,true,false,false,false,false,false,false,false] rfl rfl (any_of HT_.out (by kernel_rfl)) (fun _ _ _ h => h) (Or.inl ⟨by rfl, ?_⟩) ?_ ?_
     rotate_left
     ·intro w'
      go_simp
      with_reducible rfl
     rotate_left
     ·simp only [Act.put,sT_,sZ_,sS_,i64_w,i32_w]
      rfl
     refine pure_ (i := 8) (N := some 61) (v := ?_) (a' := ?_) #[true,true,true,true,true,false,false,true,true,false,false,false,false,false,false] rfl rfl (any_of HT_.out (by kernel_rfl)) (fun _ _ _ h => h) (Or.inl ⟨by rfl, ?_⟩) ?_ ?_
     rotate_left
     ·intro w'
      go_simp
      with_reducible rfl
     rotate_left
     ·simp only [Act.put,sT_,sZ_,sS_,i64_w,i32_w]
      rfl
     refine pure_ (i := 9) (N := some 62) (v := ?_) (a' := ?_) #[true,true,true,true,true,false,false,true,true,true,false,false,false,false,false] rfl rfl (any_of HT_.out (by kernel_rfl)) (fun _ _ _ h => h) (Or.inl ⟨by rfl, ?_⟩) ?_ ?_
     rotate_left
     ·intro w'
      go_simp
      with_reducible rfl
     rotate_left
     ·simp only [Act.put,sT_,sZ_,sS_,i64_w,i32_w]
      rfl
     refine take_ (i := 5) (N := some 58) (v := ?_) (a' := ?_) #[true,true,true,true,true,true,false,true,true,true,false,false,false,false,false] rfl rfl (take_ofW HT_.out HW_.out (by kernel_rfl)) (fun _ _ _ h => h) (Or.inl ⟨by rfl, ?_⟩) hHeld ?_ ?_
     rotate_left
     ·intro w' s0
      go_simp
      with_reducible rfl
     rotate_left
     ·simp only [Act.put,sT_,sZ_,sS_,i64_w,i32_w]
      rfl
     refine take_ (i := 10) (N := some 63) (v := ?_) (a' := ?_) #[true,true,true,true,true,true,false,true,true,true,true,false,false,false,false] rfl rfl (take_ofW HT_.out HW_.out (by kernel_rfl)) (fun _ _ _ h => h) (Or.inl ⟨by rfl, ?_⟩) hHeld ?_ ?_
     rotate_left
     ·intro w' s0
      go_simp
      with_reducible rfl
     rotate_left
     ·simp only [Act.put,sT_,sZ_,sS_,i64_w,i32_w]
      rfl
     refine pure_ (i := 11) (N := some 64) (v := ?_) (a' := ?_) #[true,true,true,true,true,true,false,true,true,true,true,true,false,false,false] rfl rfl (any_of HT_.out (by kernel_rfl)) (fun _ _ _ h => h) (Or.inl ⟨by rfl, ?_⟩) ?_ ?_
     rotate_left
     ·intro w'
      go_simp
      with_reducible rfl
     rotate_left
     ·simp only [Act.put,sT_,sZ_,sS_,i64_w,i32_w]
      rfl
     refine join_ (σ := Nat) 1 #[true,true,true,true,true,true,true,true,true,true,true,true,true,true,false] (fun b_ => [(59,.int .i64 (s.far q k)),(15,.pointer (some ⟨b_,0,none⟩)),(65,.agg #[.int .i64 (s.far q k),.int .u32 (IntKind.u32.wrap (k : Int))])]) (fun b_ w' => Below wd.heap.size wd w' ∧ w'.cell? (ad.add i) = some (.int .i64 k) ∧ (World.heap w')[b_]? = some (.cells #[.int .i64 0,.int .u32 0] 58 (0,0)) ∧ wd.heap.size ≤ b_) ?_ ?_
     rotate_left
     ·intro hCont
      refine two_ (i := 6) (j := 13) (Ni := some 59) (Nj := some 15) #[true,true,true,true,true,true,true,true,true,true,true,true,false,false,false] #[true,true,true,true,true,true,false,true,true,true,true,true,false,true,false] rfl rfl rfl rfl (two_of HT_.out (by kernel_rfl)) (by decide) (by decide) (fun K hK => ?_) (fun K hK => ?_)
      ·skip
       refine goes_ Try.func74 (by kernel_rfl) rfl #[.pointer (some ⟨g,0,none⟩),.slice A q.length c,.int .i64 k] (by rfl) rfl rfl (by simp only [List.map_toArray,List.map_cons,List.map_nil];rfl) ?_
       with_reducible refine ((HX.out.below (bel_trans HWD9.out.at0 HB9.out)).far_ HM.out.1 A c q (Kd.C_below HQ.out.1 (bel_trans HWD9.out.at0 HB9.out)) HQ.out.2 k HKL.out).mono ?_
       rintro e w7 ⟨rfl,hb⟩
       refine ⟨_,rfl, ?_⟩
       have NHB9 := Aside0.mk (bel_trans HB9.out hb)
       clear hb
       clear HB9
       have HB9 := NHB9
       clear NHB9
       refine hK.out _ _ ((pw_cell_below HB9.out HCD9.out)) (fun hHeld => ?_)
       clear hK K
       refine norm_ (a' := ?_) ?_ ?_
       rotate_left
       ·show Act.put _ (some 59) _ = _
        simp only [Act.put,sT_,sZ_,sS_,i64_w,i32_w]
        rfl
       refine pure_ (i := 12) (N := some 65) (v := ?_) (a' := ?_) #[true,true,true,true,true,true,true,true,true,true,true,true,true,false,false] rfl rfl (any_of HT_.out (by kernel_rfl)) (fun _ _ _ h => h) (Or.inl ⟨by rfl, ?_⟩) ?_ ?_
       rotate_left
       ·intro w'
        go_simp
        with_reducible rfl
       rotate_left
       ·simp only [Act.put,sT_,sZ_,sS_,i64_w,i32_w]
        rfl
       refine one_ (i := 13) (N := some 15) #[true,true,true,true,true,true,true,true,true,true,true,true,true,true,false] rfl rfl (one_of HT_.out (by kernel_rfl)) (by decide) (fun K hK => ?_)
       refine value_ (w1 := ?_) (v := ?_) (by rfl) rfl ?_ ?_
       rotate_left 2
       ·go_simp
        constructor
        ·rfl
        ·rfl
       have HBX := Aside0.mk (by have h := heap_alloc_new w7 (.cells #[.int .i64 0,.int .u32 0] 58);(try simp only [World.size_alloc] at h);exact h)
       have HYN := Aside0.mk (by have h := HB9.out.size;(try simp only [World.size_alloc] at h);exact h)
       have NHB9 := Aside0.mk (bel_alloc HB9.out (.cells #[.int .i64 0,.int .u32 0] 58))
       clear HB9
       have HB9 := NHB9
       clear NHB9
       refine hK.out _ _ ((pw_cell_below HB9.out HCD9.out)) (fun hHeld => ?_)
       clear hK K
       refine norm_ (a' := ?_) ?_ ?_
       rotate_left
       ·show Act.put _ (some 15) _ = _
        simp only [Act.put,sT_,sZ_,sS_,i64_w,i32_w]
        rfl
       exact norm_ (by simp only [Go.Proofs.YtofmlajanopniaaW.PrintLast.putAll,Act.put,sT_,sZ_,sS_]) (hCont (World.heap w7).size _ ⟨HB9.out,(pw_cell_below HB9.out HCD9.out),HBX.out,HYN.out⟩)
      ·skip
       refine value_ (w1 := ?_) (v := ?_) (by rfl) rfl ?_ ?_
       rotate_left 2
       ·go_simp
        constructor
        ·rfl
        ·rfl
       have HBX := Aside0.mk (by have h := heap_alloc_new wd (.cells #[.int .i64 0,.int .u32 0] 58);(try simp only [World.size_alloc] at h);exact h)
       have HYN := Aside0.mk (by have h := HB9.out.size;(try simp only [World.size_alloc] at h);exact h)
       have NHB9 := Aside0.mk (bel_alloc HB9.out (.cells #[.int .i64 0,.int .u32 0] 58))
       clear HB9
       have HB9 := NHB9
       clear NHB9
       refine hK.out _ _ ((pw_cell_below HB9.out HCD9.out)) (fun hHeld => ?_)
       clear hK K
       refine norm_ (a' := ?_) ?_ ?_
       rotate_left
       ·show Act.put _ (some 15) _ = _
        simp only [Act.put,sT_,sZ_,sS_,i64_w,i32_w]
        rfl
       refine one_ (i := 6) (N := some 59) #[true,true,true,true,true,true,true,true,true,true,true,true,false,true,false] rfl rfl (one_of HT_.out (by kernel_rfl)) (by decide) (fun K hK => ?_)
       refine goes_ Try.func74 (by kernel_rfl) rfl #[.pointer (some ⟨g,0,none⟩),.slice A q.length c,.int .i64 k] (by rfl) rfl rfl (by simp only [List.map_toArray,List.map_cons,List.map_nil];rfl) ?_
       with_reducible refine ((HX.out.below (bel_trans HWD9.out.at0 HB9.out)).far_ HM.out.1 A c q (Kd.C_below HQ.out.1 (bel_trans HWD9.out.at0 HB9.out)) HQ.out.2 k HKL.out).mono ?_
       rintro e w7 ⟨rfl,hb⟩
       refine ⟨_,rfl, ?_⟩
       have NHB9 := Aside0.mk (bel_trans HB9.out hb)
       have NHBX := Aside0.mk (blk_below HBX.out hb)
       clear hb
       clear HB9 HBX
       have HB9 := NHB9
       have HBX := NHBX
       clear NHB9 NHBX
       refine hK.out _ _ ((pw_cell_below HB9.out HCD9.out)) (fun hHeld => ?_)
       clear hK K
       refine norm_ (a' := ?_) ?_ ?_
       rotate_left
       ·show Act.put _ (some 59) _ = _
        simp only [Act.put,sT_,sZ_,sS_,i64_w,i32_w]
        rfl
       refine pure_ (i := 12) (N := some 65) (v := ?_) (a' := ?_) #[true,true,true,true,true,true,true,true,true,true,true,true,true,true,false] rfl rfl (any_of HT_.out (by kernel_rfl)) (fun _ _ _ h => h) (Or.inl ⟨by rfl, ?_⟩) ?_ ?_
       rotate_left
       ·intro w'
        go_simp
        with_reducible rfl
       rotate_left
       ·simp only [Act.put,sT_,sZ_,sS_,i64_w,i32_w]
        rfl
       exact norm_ (by simp only [Go.Proofs.YtofmlajanopniaaW.PrintLast.putAll,Act.put,sT_,sZ_,sS_]) (hCont (World.heap wd).size _ ⟨HB9.out,(pw_cell_below HB9.out HCD9.out),HBX.out,HYN.out⟩)
     rintro b9 w8 ⟨h1,h2,h3,h4⟩
     clear HB9
     have HB8 := Aside0.mk (show Below wd.heap.size wd w8 from h1)
     have HX8 := Aside0.mk (show (World.heap w8)[b9]? = some (.cells #[.int .i64 0,.int .u32 0] 58 (0,0)) from h3)
     have HYN := Aside0.mk (show wd.heap.size ≤ b9 from h4)
     clear h1 h3 h4
     have hHeld := h2
     refine norm_ (a' := ?_) ?_ ?_
     rotate_left
     ·simp only [Go.Proofs.YtofmlajanopniaaW.PrintLast.putAll,Act.put,sT_,sZ_,sS_]
      rfl
     refine last_ (i := 14) (N := none) #[true,true,true,true,true,true,true,true,true,true,true,true,true,true,true] rfl rfl (one_of HT_.out (by kernel_rfl)) (by decide) (fun K hK => ?_)
     have z0 := (blk_cell HX8.out 0).trans rfl
     have z1 := (blk_cell HX8.out 1).trans rfl
     have fz : ∀ j,w8.frozen? ⟨b9,j,none⟩ = false := fun j => blk_frozen HX8.out j
     refine skip_ (w1 := ?_) (by rfl) rfl ?_ ?_
     rotate_left
     ·go_simp
      rfl
     clear z0 z1 fz
     refine hK.out _ _ ?_
     clear hK K
     refine done_ (done_of HT_.out (by kernel_rfl)) ?_
     clear hHeld
     rw [HWK.out]
     obtain ⟨w9,hw9⟩ : ∃ z,(w8.setCell ⟨b9,0,none⟩ (.int .i64 (s.far q k))).setCell ⟨b9,1,none⟩ (.int .u32 k) = z := ⟨_,rfl⟩
     have HX9 := Aside0.mk (boxed_hit HX8.out hw9)
     have HW9 := Aside0.mk (HWD9.out.below (show Below wd.heap.size wd w9 by rw [← hw9];exact below_set (below_set HB8.out HYN.out) HYN.out))
     rw [hw9]
     have b0 := (blk_cell HX9.out 0).trans rfl
     have b1 := (blk_cell HX9.out 1).trans rfl
     clear hw9 HWD9 HCD9 HX8 HB8 HYN
     go_wp2_with (first | (have := HW11;go_at_call 75;go_must (with_reducible refine (rfirst_own HW11.out W (by have := HLEN.out;rw [intoL_len];omega)).mono ?_);rintro e w12 ⟨⟨v12,rfl,hv⟩,hb⟩;have HW12 := Aside0.mk ((HW10.out.below HB11.out).keep hb hv);clear hv hb) | (have := HW10;go_at_call 73;go_must (with_reducible refine (rinto_calls ab cb KW.best (s.far q k) k _ (OwnH.reads_ HW10.out.best) (by have := HLEN.out;omega)).mono ?_);rintro e w11 ⟨⟨v11,rfl,hv⟩,hb⟩;have HB11 := Aside0.mk hb;have HW11 := Aside0.mk hv;clear hv hb) | (go_at_call 73;go_must (with_reducible refine (rinto_calls ah ch KW.waits (s.far q k) k _ (RH.reads_ HW9.out.waits) (by have := HLEN.out;omega)).mono ?_);rintro e w10 ⟨⟨v10,rfl,hv⟩,hb⟩;have HW10 := Aside0.mk (HW9.out.wait hb hv);have b0 := pw_cell_below hb b0;have b1 := pw_cell_below hb b1;clear hv hb))
     go_roundg gm
     case measure => omega
     case rel =>
      refine ⟨i + 1,by go_num,⟨gk_next HI.out HII.out⟩,⟨?_⟩⟩
      rw [HSN.out,start_yes HT.out HC.out]
      exact HW12.out
  ·have q3 : decide ((i : Int) < (L.length : Int)) = false := decide_eq_false (by omega)
   have q4 : decide (i < L.length) = false := decide_eq_false hi
   have HI0 := Aside0.mk (show i = L.length by have := HI.out;omega)
   rw [HI0.out,List.take_length] at HW
   clear hi HI HI0
   have HG0 := Aside0.mk (gauge_walk0 (s := s) (q := q) (lv := lv) (W := W) L)
   have HK0 : Aside0 (WOk s q lv (walk0 s q L lv W)) := ⟨WOk.nil.starts L⟩
   have HWB : Aside0 (WB W (walk0 s q L lv W)) := ⟨WB.starts (k := ⟨[],[],[]⟩) (Nat.zero_le _) L⟩
   generalize walk0 s q L lv W = K0 at HW HSEE HG0 HK0 HWB
   go_wp2
   clear q3 q4
   go_loopg [11,12,13] (s.l.length + 1) (fun gk v11 v12 v13 wr => ∃ (f : Nat) (KW : Wk),Aside0 (f ≤ gk) ∧ Aside0 (walkL s q lv W f KW = ANS ∧ gaugeW s KW ≤ f ∧ f ≤ s.l.length + 1) ∧ Aside0 (WOk s q lv KW) ∧ Aside0 (WB W KW) ∧ Aside0 (DW w wr v11 v12 v13 KW))
   case atStart => exact ⟨s.l.length + 1,K0,⟨Nat.le_refl _⟩,⟨HSEE.out.symm,by rw [HG0.out];omega,Nat.le_refl _⟩,HK0,HWB,HW⟩
   case round =>
    clear HW HSEE HG0 HK0 HWB
    obtain ⟨f,KW,HF,HS,HK,HWB,HW⟩ := hrel
    cases hwt : KW.waits with
    | nil =>
     have HAN := Aside0.mk (show KW.best = ANS by rw [← HS.out.1,walkL_done f hwt])
     obtain ⟨ao,cp,rfl,hr⟩ := HW.out.waits.reads
     rw [hwt]
     clear hr hwt
     go_wp2
     go_ret
     exact ⟨⟨_,rfl,by rw [← HAN.out];exact HW.out.best⟩,HW.out.at0⟩
    | cons hc rest =>
     have HWT := Aside0.mk hwt
     have hrh := HW.out.waits
     rw [hwt] at hrh
     obtain ⟨r,off,n,cap,rfl,hnr,c0,c1,HRR,hnc⟩ := hrh.cons
     obtain ⟨n1,hn1⟩ : ∃ z,n + 1 = z := ⟨_,rfl⟩
     obtain ⟨cap1,hcap1⟩ : ∃ z,cap + 1 = z := ⟨_,rfl⟩
     rw [hn1,hcap1] at HW ⊢
     have q1 : decide ((0 : Int) < (n1 : Int)) = true := decide_eq_true (by omega)
     have q1' : decide (0 < n1) = true := decide_eq_true (by omega)
     have q2 : 0 < n1 := by omega
     have q2' : 1 ≤ n1 := by omega
     have q2'' : (0 : Int) < (n1 : Int) := by omega
     have q5 : n1 ≤ cap1 := by omega
     have HRR := Aside0.mk HRR
     have HN1 := Aside0.mk (And.intro hn1 hcap1)
     clear hwt hrh hn1 hcap1
     have HBX0 := Aside0.mk (heap_alloc_new wr (.cells #[.int .i64 hc.f0,.int .u32 hc.f1] 58))
     have HBA0 := Aside0.mk (below_alloc (Below.refl wr.heap.size wr) (.cells #[.int .i64 hc.f0,.int .u32 hc.f1] 58))
     go_upto_region 14 with (fail)
     go_cut [12] (fun v12 wc => wc = wr.alloc (.cells #[.int .i64 hc.f0,.int .u32 hc.f1] 58) ∧ ∃ (ah : Option Addr) (ch : Nat),v12 = .slice ah rest.length ch ∧ Aside0 (RH wr v12 rest))
     case first =>
      go_wp2
      all_goals go_meet
      all_goals first
       | exact ⟨rfl,some ⟨r,off,none⟩,0,by rw [show n1 - 1 = rest.length by have := HN1.out;omega],⟨by rw [show n1 - 1 = rest.length by have := HN1.out;omega];exact RH.zero (off2 := off + 2) (n := n) (by have h1 := HRR.out;rwa [show cap = 0 by have := HN1.out;omega] at h1) off⟩⟩
       | exact ⟨rfl,some ⟨r,off + 2,none⟩,cap1 - 1,by rw [show n1 - 1 = rest.length by have := HN1.out;omega],⟨by have h1 := HRR.out;rwa [show n = n1 - 1 by have := HN1.out;omega,show cap = cap1 - 1 by have := HN1.out;omega] at h1⟩⟩
     case rest =>
      obtain ⟨rfl,ah,ch,rfl,HR12⟩ := hcut
      have HWb := Aside0.mk (DW.mk HW.out.met HR12.out HW.out.best HW.out.at0 : DW w wr _ _ _ ⟨KW.met,rest,KW.best⟩)
      have HWo := Aside0.mk (HWb.out.below HBA0.out)
      generalize wr.alloc (.cells #[.int .i64 hc.f0,.int .u32 hc.f1] 58) = wo at HBX0 HWo ⊢
      obtain ⟨bo,hbo⟩ : ∃ z,wr.heap.size = z := ⟨_,rfl⟩
      rw [hbo] at HBX0 ⊢
      have HF1 := Aside0.mk (show 1 ≤ f by have h1 := HS.out.2.1;have h2 := HK.out.met_len;have h3 : KW.waits.length = rest.length + 1 := (by rw [HWT.out];rfl);unfold gaugeW at h1;omega)
      obtain ⟨go,rfl⟩ : ∃ z,gk = z + 1 := ⟨gk - 1,by have := HF.out;have := HF1.out;omega⟩
      obtain ⟨late,hlate⟩ : ∃ z,lateH W KW.best hc = z := ⟨_,rfl⟩
      have HLATE := Aside0.mk hlate
      have HK2 := Aside0.mk (HK.out.pop HWT.out).1
      obtain ⟨ab,cb,rfl,hrb⟩ := OwnH.R HW.out.best
      clear hlate hbo HBA0 HWb HR12 HRR HW HN1 q1 q1' q2 q2' q2'' q5 c0 c1 hrb hnr hnc
      go_upto_region 15 with (fail)
      go_cut [94] (fun v94 wc => v94 = .bool late ∧ Aside0 (Below wo.heap.size wo wc))
      case first =>
       cases hfu : decide (KW.best.length = W) with
       | false =>
        have HLF := Aside0.mk (show late = false by rw [← HLATE.out];unfold lateH;rw [hfu];rfl)
        have p1 : decide ((KW.best.length : Int) = (W : Int)) = false := decide_eq_false (by have := of_decide_eq_false hfu;omega)
        have p2 : ((KW.best.length : Int) == (W : Int)) = false := beq_eq_false_iff_ne.2 (by have := of_decide_eq_false hfu;omega)
        clear hfu
        have HBD := Aside0.mk ((below_drew (Below.refl _ _)) : Below wo.heap.size wo wo.drew)
        refine start_ (n := 13) (S := fun w' => True) (ds := []) #[false,false,false,false,false,false,false,false,false,false,false,false,false] (by kernel_rfl) rfl rfl trivial (fun hHeld => ?_)
        refine with_tabW rwk.tab15 rwk.bits15 (fun HT_ HW_ => ?_)
        generalize wo.drew = wd at HBD hHeld ⊢
        refine pure_ (i := 0) (N := some 82) (v := ?_) (a' := ?_) #[true,false,false,false,false,false,false,false,false,false,false,false,false] rfl rfl (any_of HT_.out (by kernel_rfl)) (fun _ _ _ h => h) (Or.inl ⟨by rfl, ?_⟩) ?_ ?_
        rotate_left
        ·intro w'
         go_simp
         with_reducible rfl
        rotate_left
        ·simp only [Act.put,sT_,sZ_,sS_,i64_w,i32_w]
         rfl
        refine pure_ (i := 1) (N := some 83) (v := ?_) (a' := ?_) #[true,true,false,false,false,false,false,false,false,false,false,false,false] rfl rfl (any_of HT_.out (by kernel_rfl)) (fun _ _ _ h => h) (Or.inl ⟨by rfl, ?_⟩) ?_ ?_
        rotate_left
        ·intro w'
         go_simp
         with_reducible rfl
        rotate_left
        ·simp only [Act.put,sT_,sZ_,sS_,i64_w,i32_w]
         rfl
        refine pure_ (i := 2) (N := some 84) (v := ?_) (a' := ?_) #[true,true,true,false,false,false,false,false,false,false,false,false,false] rfl rfl (any_of HT_.out (by kernel_rfl)) (fun _ _ _ h => h) (Or.inl ⟨by rfl, ?_⟩) ?_ ?_
        rotate_left
        ·intro w'
         go_simp
         with_reducible rfl
        rotate_left
        ·simp only [Act.put,sT_,sZ_,sS_,i64_w,i32_w]
         rfl
        refine pure_ (i := 3) (N := some 85) (v := ?_) (a' := ?_) #[true,true,true,true,false,false,false,false,false,false,false,false,false] rfl rfl (any_of HT_.out (by kernel_rfl)) (fun _ _ _ h => h) (Or.inl ⟨by rfl, ?_⟩) ?_ ?_
        rotate_left
        ·intro w'
         go_simp
         with_reducible rfl
        rotate_left
        ·simp only [Act.put,sT_,sZ_,sS_,i64_w,i32_w]
         rfl
        refine pure_ (i := 4) (N := some 86) (v := ?_) (a' := ?_) #[true,true,true,true,true,false,false,false,false,false,false,false,false] rfl rfl (any_of HT_.out (by kernel_rfl)) (fun _ _ _ h => h) (Or.inl ⟨by rfl, ?_⟩) ?_ ?_
        rotate_left
        ·intro w'
         go_simp
         with_reducible rfl
        rotate_left
        ·simp only [Act.put,sT_,sZ_,sS_,i64_w,i32_w]
         rfl
        refine pure_ (i := 5) (N := some 87) (v := undef) (a' := ?_) #[true,true,true,true,true,true,false,false,false,false,false,false,false] rfl rfl (any_of HT_.out (by kernel_rfl)) (fun _ _ _ h => h) (Or.inr ⟨by rfl,rfl⟩) ?_ ?_
        rotate_left
        ·simp only [Act.put,sT_,sZ_,sS_,i64_w,i32_w]
         rfl
        refine pure_ (i := 6) (N := some 88) (v := undef) (a' := ?_) #[true,true,true,true,true,true,true,false,false,false,false,false,false] rfl rfl (any_of HT_.out (by kernel_rfl)) (fun _ _ _ h => h) (Or.inr ⟨by rfl,rfl⟩) ?_ ?_
        rotate_left
        ·simp only [Act.put,sT_,sZ_,sS_,i64_w,i32_w]
         rfl
        refine pure_ (i := 7) (N := some 89) (v := undef) (a' := ?_) #[true,true,true,true,true,true,true,true,false,false,false,false,false] rfl rfl (any_of HT_.out (by kernel_rfl)) (fun _ _ _ h => h) (Or.inr ⟨by rfl,rfl⟩) ?_ ?_
        rotate_left
        ·simp only [Act.put,sT_,sZ_,sS_,i64_w,i32_w]
         rfl
        refine pure_ (i := 8) (N := some 90) (v := undef) (a' := ?_) #[true,true,true,true,true,true,true,true,true,false,false,false,false] rfl rfl (any_of HT_.out (by kernel_rfl)) (fun _ _ _ h => h) (Or.inr ⟨by rfl,rfl⟩) ?_ ?_
        rotate_left
        ·simp only [Act.put,sT_,sZ_,sS_,i64_w,i32_w]
         rfl
        refine pure_ (i := 9) (N := some 91) (v := undef) (a' := ?_) #[true,true,true,true,true,true,true,true,true,true,false,false,false] rfl rfl (any_of HT_.out (by kernel_rfl)) (fun _ _ _ h => h) (Or.inr ⟨by rfl,rfl⟩) ?_ ?_
        rotate_left
        ·simp only [Act.put,sT_,sZ_,sS_,i64_w,i32_w]
         rfl
        refine pure_ (i := 10) (N := some 92) (v := undef) (a' := ?_) #[true,true,true,true,true,true,true,true,true,true,true,false,false] rfl rfl (any_of HT_.out (by kernel_rfl)) (fun _ _ _ h => h) (Or.inr ⟨by rfl,rfl⟩) ?_ ?_
        rotate_left
        ·simp only [Act.put,sT_,sZ_,sS_,i64_w,i32_w]
         rfl
        refine pure_ (i := 11) (N := some 93) (v := undef) (a' := ?_) #[true,true,true,true,true,true,true,true,true,true,true,true,false] rfl rfl (any_of HT_.out (by kernel_rfl)) (fun _ _ _ h => h) (Or.inr ⟨by rfl,rfl⟩) ?_ ?_
        rotate_left
        ·simp only [Act.put,sT_,sZ_,sS_,i64_w,i32_w]
         rfl
        refine pure_ (i := 12) (N := some 94) (v := ?_) (a' := ?_) #[true,true,true,true,true,true,true,true,true,true,true,true,true] rfl rfl (any_of HT_.out (by kernel_rfl)) (fun _ _ _ h => h) (Or.inl ⟨by rfl, ?_⟩) ?_ ?_
        rotate_left
        ·intro w'
         go_simp
         with_reducible rfl
        rotate_left
        ·simp only [Act.put,sT_,sZ_,sS_,i64_w,i32_w]
         rfl
        refine done_ (done_of HT_.out (by kernel_rfl)) ?_
        clear hHeld
        go_wp2
        go_meet
        exact ⟨by rw [HLF.out],HBD⟩
       | true =>
        have HLT := Aside0.mk (show ltH ⟨(worstH KW.best).f0,(worstH KW.best).f1⟩ ⟨hc.f0,hc.f1⟩ = late by rw [← HLATE.out];unfold lateH;rw [hfu];rfl)
        have p1 : decide ((KW.best.length : Int) = (W : Int)) = true := decide_eq_true (by have := of_decide_eq_true hfu;omega)
        have p2 : ((KW.best.length : Int) == (W : Int)) = true := beq_iff_eq.2 (by have := of_decide_eq_true hfu;omega)
        obtain ⟨W1,hW1⟩ : ∃ z,W = z + 1 := ⟨W - 1,by have := HWD.out;omega⟩
        have p3 : IntKind.i64.wrap ((W : Int) - 1) = (W1 : Int) := by rw [IntWalk.i64_in _ (by have := HWD.out;omega)];omega
        have p4 : (W1 : Int) < (KW.best.length : Int) := by have := of_decide_eq_true hfu;omega
        obtain ⟨rb,hab,y0,y1⟩ := worst_cells HWo.out.best (W := W) (W1 := W1) (of_decide_eq_true hfu) hW1
        subst hab
        have HY := Aside0.mk (And.intro y0 y1)
        clear hfu hW1 y0 y1
        have HBD := Aside0.mk ((below_drew (Below.refl _ _)) : Below wo.heap.size wo wo.drew)
        refine start_ (n := 13) (S := fun w' => w'.cell? ⟨rb,W1 * 2,none⟩ = some (.int .i64 (worstH KW.best).f0) ∧ w'.cell? ⟨rb,W1 * 2 + 1,none⟩ = some (.int .u32 (worstH KW.best).f1) ∧ w'.cell? ⟨bo,0,none⟩ = some (.int .i64 hc.f0) ∧ w'.cell? ⟨bo,1,none⟩ = some (.int .u32 hc.f1)) (ds := []) #[false,false,false,false,false,false,false,false,false,false,false,false,false] (by kernel_rfl) rfl rfl ⟨(pw_cell_below HBD.out HY.out.1),(pw_cell_below HBD.out HY.out.2),((blk_cell (blk_below HBX0.out HBD.out) 0).trans rfl),((blk_cell (blk_below HBX0.out HBD.out) 1).trans rfl)⟩ (fun hHeld => ?_)
        refine with_tabW rwk.tab15 rwk.bits15 (fun HT_ HW_ => ?_)
        generalize wo.drew = wd at HBD hHeld ⊢
        refine pure_ (i := 0) (N := some 82) (v := ?_) (a' := ?_) #[true,false,false,false,false,false,false,false,false,false,false,false,false] rfl rfl (any_of HT_.out (by kernel_rfl)) (fun _ _ _ h => h) (Or.inl ⟨by rfl, ?_⟩) ?_ ?_
        rotate_left
        ·intro w'
         go_simp
         with_reducible rfl
        rotate_left
        ·simp only [Act.put,sT_,sZ_,sS_,i64_w,i32_w]
         rfl
        refine pure_ (i := 1) (N := some 83) (v := ?_) (a' := ?_) #[true,true,false,false,false,false,false,false,false,false,false,false,false] rfl rfl (any_of HT_.out (by kernel_rfl)) (fun _ _ _ h => h) (Or.inl ⟨by rfl, ?_⟩) ?_ ?_
        rotate_left
        ·intro w'
         go_simp
         with_reducible rfl
        rotate_left
        ·simp only [Act.put,sT_,sZ_,sS_,i64_w,i32_w]
         rfl
        refine pure_ (i := 2) (N := some 84) (v := ?_) (a' := ?_) #[true,true,true,false,false,false,false,false,false,false,false,false,false] rfl rfl (any_of HT_.out (by kernel_rfl)) (fun _ _ _ h => h) (Or.inl ⟨by rfl, ?_⟩) ?_ ?_
        rotate_left
        ·intro w'
         go_simp
         with_reducible rfl
        rotate_left
        ·simp only [Act.put,sT_,sZ_,sS_,i64_w,i32_w]
         rfl
        refine pure_ (i := 3) (N := some 85) (v := ?_) (a' := ?_) #[true,true,true,true,false,false,false,false,false,false,false,false,false] rfl rfl (any_of HT_.out (by kernel_rfl)) (fun _ _ _ h => h) (Or.inl ⟨by rfl, ?_⟩) ?_ ?_
        rotate_left
        ·intro w'
         go_simp
         with_reducible rfl
        rotate_left
        ·simp only [Act.put,sT_,sZ_,sS_,i64_w,i32_w]
         rfl
        refine pure_ (i := 4) (N := some 86) (v := ?_) (a' := ?_) #[true,true,true,true,true,false,false,false,false,false,false,false,false] rfl rfl (any_of HT_.out (by kernel_rfl)) (fun _ _ _ h => h) (Or.inl ⟨by rfl, ?_⟩) ?_ ?_
        rotate_left
        ·intro w'
         go_simp
         with_reducible rfl
        rotate_left
        ·simp only [Act.put,sT_,sZ_,sS_,i64_w,i32_w]
         rfl
        refine pure_ (i := 5) (N := some 87) (v := ?_) (a' := ?_) #[true,true,true,true,true,true,false,false,false,false,false,false,false] rfl rfl (any_of HT_.out (by kernel_rfl)) (fun _ _ _ h => h) (Or.inl ⟨by rfl, ?_⟩) ?_ ?_
        rotate_left
        ·intro w'
         go_simp
         with_reducible rfl
        rotate_left
        ·simp only [Act.put,sT_,sZ_,sS_,i64_w,i32_w]
         rfl
        refine pure_ (i := 6) (N := some 88) (v := ?_) (a' := ?_) #[true,true,true,true,true,true,true,false,false,false,false,false,false] rfl rfl (any_of HT_.out (by kernel_rfl)) (fun _ _ _ h => h) (Or.inl ⟨by rfl, ?_⟩) ?_ ?_
        rotate_left
        ·intro w'
         go_simp
         with_reducible rfl
        rotate_left
        ·simp only [Act.put,sT_,sZ_,sS_,i64_w,i32_w]
         rfl
        refine pure_ (i := 7) (N := some 89) (v := ?_) (a' := ?_) #[true,true,true,true,true,true,true,true,false,false,false,false,false] rfl rfl (any_of HT_.out (by kernel_rfl)) (fun _ _ _ h => h) (Or.inl ⟨by rfl, ?_⟩) ?_ ?_
        rotate_left
        ·intro w'
         go_simp
         with_reducible rfl
        rotate_left
        ·simp only [Act.put,sT_,sZ_,sS_,i64_w,i32_w]
         rfl
        refine pure_ (i := 8) (N := some 90) (v := ?_) (a' := ?_) #[true,true,true,true,true,true,true,true,true,false,false,false,false] rfl rfl (any_of HT_.out (by kernel_rfl)) (fun _ _ _ h => h) (Or.inl ⟨by rfl, ?_⟩) ?_ ?_
        rotate_left
        ·intro w'
         go_simp
         with_reducible rfl
        rotate_left
        ·simp only [Act.put,sT_,sZ_,sS_,i64_w,i32_w]
         rfl
        refine take_ (i := 9) (N := some 91) (v := ?_) (a' := ?_) #[true,true,true,true,true,true,true,true,true,true,false,false,false] rfl rfl (take_ofW HT_.out HW_.out (by kernel_rfl)) (fun _ _ _ h => h) (Or.inl ⟨by rfl, ?_⟩) hHeld ?_ ?_
        rotate_left
        ·rintro w' ⟨s0,s1,s2,s3⟩
         go_simp
         with_reducible rfl
        rotate_left
        ·simp only [Act.put,sT_,sZ_,sS_,i64_w,i32_w]
         rfl
        refine take_ (i := 10) (N := some 92) (v := ?_) (a' := ?_) #[true,true,true,true,true,true,true,true,true,true,true,false,false] rfl rfl (take_ofW HT_.out HW_.out (by kernel_rfl)) (fun _ _ _ h => h) (Or.inl ⟨by rfl, ?_⟩) hHeld ?_ ?_
        rotate_left
        ·rintro w' ⟨s0,s1,s2,s3⟩
         go_simp
         with_reducible rfl
        rotate_left
        ·simp only [Act.put,sT_,sZ_,sS_,i64_w,i32_w]
         rfl
        refine one_ (i := 11) (N := some 93) #[true,true,true,true,true,true,true,true,true,true,true,true,false] rfl rfl (one_of HT_.out (by kernel_rfl)) (by decide) (fun K hK => ?_)
        refine goes_ Try.func22 (by kernel_rfl) rfl #[.agg #[.int .i64 (worstH KW.best).f0,.int .u32 (worstH KW.best).f1],.agg #[.int .i64 hc.f0,.int .u32 hc.f1]] (by rfl) rfl rfl (by simp only [List.map_toArray,List.map_cons,List.map_nil];rfl) ?_
        with_reducible refine (rless_calls _ _ _ _ late HLT.out _).mono ?_
        rintro e w7 ⟨rfl,hb⟩
        refine ⟨_,rfl, ?_⟩
        have HB7 := Aside0.mk (bel_trans HBD.out hb)
        clear hb
        refine hK.out _ _ ⟨(pw_cell_below HB7.out HY.out.1),(pw_cell_below HB7.out HY.out.2),((blk_cell (blk_below HBX0.out HB7.out) 0).trans rfl),((blk_cell (blk_below HBX0.out HB7.out) 1).trans rfl)⟩ (fun hHeld => ?_)
        clear hK K
        refine norm_ (a' := ?_) ?_ ?_
        rotate_left
        ·show Act.put _ (some 93) _ = _
         simp only [Act.put,sT_,sZ_,sS_,i64_w,i32_w]
         rfl
        refine pure_ (i := 12) (N := some 94) (v := ?_) (a' := ?_) #[true,true,true,true,true,true,true,true,true,true,true,true,true] rfl rfl (any_of HT_.out (by kernel_rfl)) (fun _ _ _ h => h) (Or.inl ⟨by rfl, ?_⟩) ?_ ?_
        rotate_left
        ·intro w'
         go_simp
         with_reducible rfl
        rotate_left
        ·simp only [Act.put,sT_,sZ_,sS_,i64_w,i32_w]
         rfl
        refine done_ (done_of HT_.out (by kernel_rfl)) ?_
        clear hHeld
        go_wp2
        go_meet
        exact ⟨rfl,HB7⟩
      case rest =>
       obtain ⟨rfl,HBc⟩ := hcut
       have HWc := Aside0.mk (HWo.out.below HBc.out)
       cases late with
       | true =>
        go_wp2
        go_ret
        obtain ⟨f2,rfl⟩ : ∃ z,f = z + 1 := ⟨f - 1,by have := HF1.out;omega⟩
        have hs := HS.out.1
        rw [walkL_late HWT.out HLATE.out] at hs
        exact ⟨⟨_,rfl,by rw [← hs];exact HWc.out.best⟩,HWc.out.at0⟩
       | false =>
        obtain ⟨-,ci,hci,hce⟩ := HK.out.pop HWT.out
        obtain ⟨kc,jc,nc,hc1,hc2,hnc,hjc⟩ := there_iff.1 hci
        subst hc1 hc2
        have hcf : hc.f1 = (kc : Int) := by rw [hce];rfl
        obtain ⟨lsc,hlsc⟩ : ∃ l,nc.links[jc]? = some l := ⟨_,List.getElem?_eq_getElem hjc⟩
        have HLSL := Aside0.mk (HLK.out kc nc hnc lsc (List.mem_of_getElem? hlsc))
        have HNX := Aside0.mk (show nextG s kc jc = lsc ++ (if (jc : Int) = 0 then [(kc : Int) - 1,(kc : Int) + 1] else []) by unfold nextG;rw [at_nat hnc hlsc])
        have HKC := Aside0.mk (show kc < 90000 by have h1 := (List.getElem?_eq_some_iff.1 hnc).1;have := HM.out;omega)
        have HANS := Aside0.mk (show ∀ f2,f = f2 + 1 → walkL s q jc W f2 ((nextG s kc jc).foldl (stepN s q jc W) ⟨KW.met,rest,KW.best⟩) = ANS from fun f2 hf2 => by have h1 := HS.out.1;rw [hf2,walkL_on HWT.out HLATE.out,hcf] at h1;exact h1)
        obtain ⟨f2,hf2⟩ : ∃ z,f = z + 1 := ⟨f - 1,by have := HF1.out;omega⟩
        have HANS2 := Aside0.mk (HANS.out f2 hf2)
        have HGAU := Aside0.mk (show gaugeW s ⟨KW.met,rest,KW.best⟩ ≤ f2 ∧ f2 ≤ go ∧ f2 ≤ s.l.length + 1 by have h1 := gauge_pop (s := s) HWT.out (b := KW.best);have h2 := HS.out.2;have h3 := HF.out;omega)
        have HWB1 := Aside0.mk (show WB W ⟨KW.met,rest,KW.best⟩ from HWB.out)
        obtain ⟨vLg,hGm⟩ := HX.out.below HWc.out.at0
        obtain ⟨rg,capg,rr,cg3,Ag1,cg1,Ag5,cg5,rfl,hRd, -⟩ := hGm.rdl hnc hlsc
        have HRD := Aside0.mk hRd
        have y1 := hRd.y1
        have y5 := hRd.y5
        have yz := hRd.z
        have bx1 := (blk_cell (blk_below HBX0.out HBc.out) 1).trans rfl
        rw [hcf] at bx1
        have p1 : (kc : Int) < (s.l.length : Int) := by have := (List.getElem?_eq_some_iff.1 hnc).1;omega
        have p2 : (jc : Int) < (nc.links.length : Int) := by have := hjc;omega
        have hwk : wrap64 (kc : Int) = (kc : Int) := by have := HKC.out;unfold wrap64;omega
        have hwm : wrap64 ((kc : Int) - 1) = (kc : Int) - 1 := by have := HKC.out;unfold wrap64;omega
        have hwp : wrap64 ((kc : Int) + 1) = (kc : Int) + 1 := by have := HKC.out;unfold wrap64;omega
        clear hci hce hcf hlsc hnc hjc hGm hRd hf2 HANS HLATE
        go_upto_if 113 with (at_builtin;go_must (refine app_Z rfl _ _ rfl w.heap.size _ [] lsc Ag5 lsc.length cg5 rfl rfl rfl (OwnZ.nil _ _) HRD.out.C HRD.out.c0 (by have := HLSL.out;simp only [List.length_nil];omega) HWc.out.at0.size ?_);intro v3 w3 hv hO hat;rw [List.nil_append] at hv;have hb := hO.below_of (Below.refl wc.heap.size wc) (fun k hk => by cases hk);have HW3 := Aside0.mk (HWc.out.below hb);have HZ3 := Aside0.mk hv;have HNM := Aside0.mk (show ∀ k,u11.ownBlock = some k → v3.ownBlock ≠ some k from fun k hk e => by have h1 := own_lt HWc.out.met k hk;rcases hat with h2 | h2;rw [h2] at e;cases e;rw [h2] at e;injection e with e;omega);clear hv hO hat hb y1 y5 yz bx1)
        go_cut [18] (fun v18 wd => Aside0 (DW w wd u11 (.slice ah rest.length ch) (.slice ab KW.best.length cb) ⟨KW.met,rest,KW.best⟩) ∧ Aside0 (ND w wd u11 v18 (nextG s kc jc)))
        case first =>
         by_cases hj0 : jc = 0
         ·have r1 : decide ((jc : Int) = 0) = true := decide_eq_true (by omega)
          have r2 : decide (jc = 0) = true := decide_eq_true hj0
          have r3 : ((jc : Int) == 0) = true := beq_iff_eq.2 (by omega)
          have HNY := Aside0.mk (show nextG s kc jc = lsc ++ [(kc : Int) - 1,(kc : Int) + 1] by rw [HNX.out,if_pos (by omega)])
          clear hj0
          go_wp2_with (at_builtin;go_must (refine app_Z rfl _ _ rfl w.heap.size _ lsc [(kc : Int) - 1,(kc : Int) + 1] (some ⟨w3.heap.size,0,none⟩) 2 2 rfl rfl rfl (HZ3.out.below (below_trans_alloc (Below.refl _ _))) (lit2 .i64 3 _ _ w3 _ rfl) (fun e => by cases e) (by have := HLSL.out;simp only [List.length_cons,List.length_nil];omega) (by rw [World.size_alloc];have := HW3.out.at0.size;omega) ?_);intro v4 w4 hv hO hat;have HW4 := Aside0.mk (dw_other HW3.out (below_alloc (Below.refl _ _) _) HZ3.out HNM.out hO);have HN4 := Aside0.mk (ND.mk hv (fun k hk e => by have h1 := own_lt HW3.out.met k hk;rcases hat with h2 | h2;exact HNM.out k hk (h2 ▸ e);rw [h2,World.size_alloc] at e;injection e with e;omega) : ND w w4 u11 v4 (lsc ++ [(kc : Int) - 1,(kc : Int) + 1]));clear hv hO hat)
          go_meet
          exact ⟨HW4,⟨by rw [HNY.out];exact HN4.out⟩⟩
         ·have r1 : decide ((jc : Int) = 0) = false := decide_eq_false (by omega)
          have r2 : decide (jc = 0) = false := decide_eq_false hj0
          have r3 : ((jc : Int) == 0) = false := beq_eq_false_iff_ne.2 (by omega)
          have HNY := Aside0.mk (show nextG s kc jc = lsc by rw [HNX.out,if_neg (by omega),List.append_nil])
          clear hj0
          go_wp2
          go_meet
          exact ⟨HW3,⟨by rw [HNY.out];exact ⟨HZ3.out,HNM.out⟩⟩⟩
        case rest =>
         obtain ⟨HWd,HNd⟩ := hcut
         have HNL := Aside0.mk (show (nextG s kc jc).length ≤ 90002 by rw [HNX.out,List.length_append];have := HLSL.out;split <;> simp <;> omega)
         generalize nextG s kc jc = N at HANS2 HNd HNL
         generalize (⟨KW.met,rest,KW.best⟩ : Wk) = K1 at HANS2 HGAU HK2 HWB1 HWd
         go_wp2
         go_loopg [11,12,13,19] N.length (fun gk v11 v12 v13 v19 wr => ∃ (i : Nat) (KW : Wk),v19 = .int .i64 i ∧ Aside0 (i ≤ N.length ∧ N.length - i ≤ gk) ∧ Aside0 (KW = (N.take i).foldl (stepN s q jc W) K1) ∧ Aside0 (DW w wr v11 v12 v13 KW) ∧ Aside0 (ND w wr v11 u18 N))
         case atStart => exact ⟨0,K1,rfl,⟨by omega⟩,⟨rfl⟩,HWd,HNd⟩
         case round =>
          clear HWd HNd HWc HWo HBX0 HBc
          clear HF HS HK HWB HWT HF1
          obtain ⟨i,KW,rfl,HI,HKE,HW,HN⟩ := hrel
          have HK := Aside0.mk (show WOk s q jc KW by rw [HKE.out];exact HK2.out.steps _)
          have HWB := Aside0.mk (show WB W KW by rw [HKE.out];exact HWB1.out.steps _)
          have HG := Aside0.mk (show gaugeW s KW ≤ f2 by rw [HKE.out];exact Int.le_trans (gauge_steps _) HGAU.out.1)
          have HLEN := Aside0.mk (show KW.met.length ≤ 90000 ∧ KW.waits.length ≤ 200000 ∧ KW.best.length ≤ 256 by have h1 := HG.out;have h2 := HK.out.met_len;have h3 := HM.out;have h4 : KW.best.length ≤ W := HWB.out;have h5 := HWD.out;have h6 := HGAU.out;unfold gaugeW at h1;omega)
          by_cases hi : i < N.length
          ·have r3 : decide ((i : Int) < (N.length : Int)) = true := decide_eq_true (by omega)
           have r3' : (i : Int) < (N.length : Int) := by omega
           obtain ⟨an,cn,rfl, -, -⟩ := HN.out.own.C
           obtain ⟨adn,rfl,c0⟩ := HN.out.at hi
           obtain ⟨t,ht0⟩ : ∃ z,N[i] = z := ⟨_,rfl⟩
           rw [ht0] at c0
           have HTE := Aside0.mk (show ∃ h : i < N.length,N[i] = t from ⟨hi,ht0⟩)
           have HFS := Aside0.mk (fold_snoc (s := s) (q := q) (lv := jc) (W := W) (k := K1) hi)
           rw [ht0,← HKE.out] at HFS
           have HII := Aside0.mk hi
           have hin : wrap64 ((i : Int) + 1) = ((i + 1 : Nat) : Int) := by have := HNL.out;unfold wrap64;omega
           obtain ⟨az,cz,rfl,hcz, -⟩ := HW.out.met.C
           obtain ⟨ah,ch,rfl, -⟩ := HW.out.waits.reads
           obtain ⟨ab,cb,rfl, -⟩ := OwnH.R HW.out.best
           have HCZ := Aside0.mk hcz
           obtain ⟨gm,rfl⟩ := gk_pos HI.out HII.out
           clear ht0 hi hcz
           cases hc : KW.met.contains t with
           | true =>
            have HC := Aside0.mk hc
            clear hc
            go_wp2_with (go_at_call 23;go_must (with_reducible refine (has_calls az cz _ t _ (OwnZ.cc HW.out.met) HCZ.out (by have := HLEN.out;omega) _ HC.out).mono ?_);rintro e w4 ⟨rfl,hb⟩;have HW4 := Aside0.mk (HW.out.below hb);have HN4 := Aside0.mk (HN.out.below hb);clear hb c0)
            go_roundg gm
            case measure => omega
            case rel => exact ⟨i + 1,KW,by go_num,⟨gk_next HI.out HII.out⟩,⟨by rw [HFS.out,step_met HC.out]⟩,HW4,HN4⟩
           | false =>
            have HC := Aside0.mk hc
            clear hc
            cases ht : s.there t jc with
            | false =>
             have HT := Aside0.mk ht
             clear ht
             go_wp2_with (first | (have := HW4;go_at_call 41;go_must (with_reducible refine ((HX.out.below HW4.out.at0).there_ t jc _ HT.out).mono ?_);rintro e w5 ⟨rfl,hb⟩;have HW5 := Aside0.mk (HW4.out.below hb);have HN5 := Aside0.mk (HN4.out.below hb);clear hb c0) | (go_at_call 23;go_must (with_reducible refine (has_calls az cz _ t _ (OwnZ.cc HW.out.met) HCZ.out (by have := HLEN.out;omega) _ HC.out).mono ?_);rintro e w4 ⟨rfl,hb⟩;have HW4 := Aside0.mk (HW.out.below hb);have HN4 := Aside0.mk (HN.out.below hb);replace c0 := pw_cell_below hb c0;clear hb))
             go_roundg gm
             case measure => omega
             case rel => exact ⟨i + 1,KW,by go_num,⟨gk_next HI.out HII.out⟩,⟨by rw [HFS.out,step_skip (by rw [HT.out];simp)]⟩,HW5,HN5⟩
            | true =>
             obtain ⟨k,j2,n,rfl, -,hn, -⟩ := there_iff.1 ht
             have HKL := Aside0.mk ((List.getElem?_eq_some_iff.1 hn).1)
             have HT := Aside0.mk ht
             have HWK := Aside0.mk (wrap_u32 (k := k) (by have := HKL.out;have := HM.out;omega))
             clear hn ht
             go_wp2_with (first | (have := HW4b;at_builtin;go_must (refine app_Z rfl _ _ rfl w.heap.size _ KW.met [(k : Int)] (some ⟨w4b.heap.size,0,none⟩) 1 1 rfl rfl rfl (HW4b.out.met.below (below_alloc (Below.refl _ _) _)) (lit_Z w4b k) (fun e => by cases e) (by have := HLEN.out;simp only [List.length_cons,List.length_nil];omega) (by rw [World.size_alloc];have := HW4b.out.at0.size;omega) ?_);intro v5 w5 hv hO hat;have HW5 := Aside0.mk (HW4b.out.meet (below_alloc (Below.refl _ _) _) hv hO);have HN5 := Aside0.mk (HN4b.out.meet (below_alloc (Below.refl _ _) _) hO hat);obtain ⟨ad5,had5,c5⟩ := HN5.out.at HII.out;injection had5 with had5;subst had5;rw [HTE.out.2] at c5;have HC5 := Aside0.mk c5;clear hv hO hat c0) | (have := HW4;go_at_call 41;go_must (with_reducible refine ((HX.out.below HW4.out.at0).there_ k jc _ HT.out).mono ?_);rintro e w4b ⟨rfl,hb⟩;have HW4b := Aside0.mk (HW4.out.below hb);have HN4b := Aside0.mk (HN4.out.below hb);replace c0 := pw_cell_below hb c0;clear hb) | (go_at_call 23;go_must (with_reducible refine (has_calls az cz _ k _ (OwnZ.cc HW.out.met) HCZ.out (by have := HLEN.out;omega) _ HC.out).mono ?_);rintro e w4 ⟨rfl,hb⟩;have HW4 := Aside0.mk (HW.out.below hb);have HN4 := Aside0.mk (HN.out.below hb);replace c0 := pw_cell_below hb c0;clear hb))
             clear c5
             have HWD9 := Aside0.mk (HW5.out.below (below_drew (Below.refl _ _)))
             have HCD9 := Aside0.mk (pw_cell_below (below_drew (Below.refl _ _)) HC5.out)
             have HND9 := Aside0.mk (HN5.out.below (below_drew (Below.refl _ _)))
             refine start_ (n := 15) (S := fun w' => w'.cell? (adn.add i) = some (.int .i64 k)) (ds := [14]) #[false,false,false,false,false,false,false,false,false,false,false,false,false,false,false] (by kernel_rfl) rfl rfl (HCD9.out) (fun hHeld => ?_)
             refine with_tabW rwk.tab27 rwk.bits27 (fun HT_ HW_ => ?_)
             generalize w5.drew = wd at HWD9 HCD9 HND9 hHeld ⊢
             have HB9 := Aside0.mk (Below.refl wd.heap.size wd)
             refine pure_ (i := 0) (N := some 150) (v := ?_) (a' := ?_) #[true,false,false,false,false,false,false,false,false,false,false,false,false,false,false] rfl rfl (any_of HT_.out (by kernel_rfl)) (fun _ _ _ h => h) (Or.inl ⟨by rfl, ?_⟩) ?_ ?_
             rotate_left
             ·intro w'
              go_simp
              with_reducible rfl
             rotate_left
             ·simp only [Act.put,sT_,sZ_,sS_,i64_w,i32_w]
              rfl
             refine pure_ (i := 1) (N := some 151) (v := ?_) (a' := ?_) #[true,true,false,false,false,false,false,false,false,false,false,false,false,false,false] rfl rfl (any_of HT_.out (by kernel_rfl)) (fun _ _ _ h => h) (Or.inl ⟨by rfl, ?_⟩) ?_ ?_
             rotate_left
             ·intro w'
              go_simp
              with_reducible rfl
             rotate_left
             ·simp only [Act.put,sT_,sZ_,sS_,i64_w,i32_w]
              rfl
             refine pure_ (i := 2) (N := some 152) (v := ?_) (a' := ?_) #[true,true,true,false,false,false,false,false,false,false,false,false,false,false,false] rfl rfl (any_of HT_.out (by kernel_rfl)) (fun _ _ _ h => h) (Or.inl ⟨by rfl, ?_⟩) ?_ ?_
             rotate_left
             ·intro w'
              go_simp
              with_reducible rfl
             rotate_left
             ·simp only [Act.put,sT_,sZ_,sS_,i64_w,i32_w]
              rfl
             refine pure_ (i := 3) (N := some 153) (v := ?_) (a' := ?_) #[true,true,true,true,false,false,false,false,false,false,false,false,false,false,false] rfl rfl (any_of HT_.out (by kernel_rfl)) (fun _ _ _ h => h) (Or.inl ⟨by rfl, ?_⟩) ?_ ?_
             rotate_left
             ·intro w'
              go_simp
              with_reducible rfl
             rotate_left
             ·simp only [Act.put,sT_,sZ_,sS_,i64_w,i32_w]
              rfl
             refine pure_ (i := 4) (N := some 154) (v := ?_) (a' := ?_) #[true,true,true,true,true,false,false,false,false,false,false,false,false,false,false] rfl rfl (any_of HT_.out (by kernel_rfl)) (fun _ _ _ h => h) (Or.inl ⟨by rfl, ?_⟩) ?_ ?_
             rotate_left
             ·intro w'
              go_simp
              with_reducible rfl
             rotate_left
             ·simp only [Act.put,sT_,sZ_,sS_,i64_w,i32_w]
              rfl
             refine pure_ (i := 7) (N := some 157) (v := ?_) (a' := ?_) #[true,true,true,true,true,false,false,true,false,false,false,false,false,false,false] rfl rfl (any_of HT_.out (by kernel_rfl)) (fun _ _ _ h => h) (Or.inl ⟨by rfl, ?_⟩) ?_ ?_
             rotate_left
             ·intro w'
              go_simp
              with_reducible rfl
             rotate_left
             ·simp only [Act.put,sT_,sZ_,sS_,i64_w,i32_w]
              rfl
             refine pure_ (i := 8) (N := some 158) (v := ?_) (a' := ?_) #[true,true,true,true,true,false,false,true,true,false,false,false,false,false,false] rfl rfl (any_of HT_.out (by kernel_rfl)) (fun _ _ _ h => h) (Or.inl ⟨by rfl, ?_⟩) ?_ ?_
             rotate_left
             ·intro w'
              go_simp
              with_reducible rfl
             rotate_left
             ·simp only [Act.put,sT_,sZ_,sS_,i64_w,i32_w]
              rfl
             refine pure_ (i := 9) (N := some 159) (v := ?_) (a' := ?_) #[true,true,true,true,true,false,false,true,true,true,false,false,false,false,false] rfl rfl (any_of HT_.out (by kernel_rfl)) (fun _ _ _ h => h) (Or.inl ⟨by rfl, ?_⟩) ?_ ?_
             rotate_left
             ·intro w'
              go_simp
              with_reducible rfl
             rotate_left
             ·simp only [Act.put,sT_,sZ_,sS_,i64_w,i32_w]
              rfl
             refine take_ (i := 5) (N := some 155) (v := ?_) (a' := ?_) #[true,true,true,true,true,true,false,true,true,true,false,false,false,false,false] rfl rfl (take_ofW HT_.out HW_.out (by kernel_rfl)) (fun _ _ _ h => h) (Or.inl ⟨by rfl, ?_⟩) hHeld ?_ ?_
             rotate_left
             ·intro w' s0
              go_simp
              with_reducible rfl
             rotate_left
             ·simp only [Act.put,sT_,sZ_,sS_,i64_w,i32_w]
              rfl
             refine take_ (i := 10) (N := some 160) (v := ?_) (a' := ?_) #[true,true,true,true,true,true,false,true,true,true,true,false,false,false,false] rfl rfl (take_ofW HT_.out HW_.out (by kernel_rfl)) (fun _ _ _ h => h) (Or.inl ⟨by rfl, ?_⟩) hHeld ?_ ?_
             rotate_left
             ·intro w' s0
              go_simp
              with_reducible rfl
             rotate_left
             ·simp only [Act.put,sT_,sZ_,sS_,i64_w,i32_w]
              rfl
             refine pure_ (i := 11) (N := some 161) (v := ?_) (a' := ?_) #[true,true,true,true,true,true,false,true,true,true,true,true,false,false,false] rfl rfl (any_of HT_.out (by kernel_rfl)) (fun _ _ _ h => h) (Or.inl ⟨by rfl, ?_⟩) ?_ ?_
             rotate_left
             ·intro w'
              go_simp
              with_reducible rfl
             rotate_left
             ·simp only [Act.put,sT_,sZ_,sS_,i64_w,i32_w]
              rfl
             refine join_ (σ := Nat) 1 #[true,true,true,true,true,true,true,true,true,true,true,true,true,true,false] (fun b_ => [(156,.int .i64 (s.far q k)),(20,.pointer (some ⟨b_,0,none⟩)),(162,.agg #[.int .i64 (s.far q k),.int .u32 (IntKind.u32.wrap (k : Int))])]) (fun b_ w' => Below wd.heap.size wd w' ∧ w'.cell? (adn.add i) = some (.int .i64 k) ∧ (World.heap w')[b_]? = some (.cells #[.int .i64 0,.int .u32 0] 58 (0,0)) ∧ wd.heap.size ≤ b_) ?_ ?_
             rotate_left
             ·intro hCont
              refine two_ (i := 6) (j := 13) (Ni := some 156) (Nj := some 20) #[true,true,true,true,true,true,true,true,true,true,true,true,false,false,false] #[true,true,true,true,true,true,false,true,true,true,true,true,false,true,false] rfl rfl rfl rfl (two_of HT_.out (by kernel_rfl)) (by decide) (by decide) (fun K hK => ?_) (fun K hK => ?_)
              ·skip
               refine goes_ Try.func74 (by kernel_rfl) rfl #[.pointer (some ⟨g,0,none⟩),.slice A q.length c,.int .i64 k] (by rfl) rfl rfl (by simp only [List.map_toArray,List.map_cons,List.map_nil];rfl) ?_
               with_reducible refine ((HX.out.below (bel_trans HWD9.out.at0 HB9.out)).far_ HM.out.1 A c q (Kd.C_below HQ.out.1 (bel_trans HWD9.out.at0 HB9.out)) HQ.out.2 k HKL.out).mono ?_
               rintro e w7 ⟨rfl,hb⟩
               refine ⟨_,rfl, ?_⟩
               have NHB9 := Aside0.mk (bel_trans HB9.out hb)
               clear hb
               clear HB9
               have HB9 := NHB9
               clear NHB9
               refine hK.out _ _ ((pw_cell_below HB9.out HCD9.out)) (fun hHeld => ?_)
               clear hK K
               refine norm_ (a' := ?_) ?_ ?_
               rotate_left
               ·show Act.put _ (some 156) _ = _
                simp only [Act.put,sT_,sZ_,sS_,i64_w,i32_w]
                rfl
               refine pure_ (i := 12) (N := some 162) (v := ?_) (a' := ?_) #[true,true,true,true,true,true,true,true,true,true,true,true,true,false,false] rfl rfl (any_of HT_.out (by kernel_rfl)) (fun _ _ _ h => h) (Or.inl ⟨by rfl, ?_⟩) ?_ ?_
               rotate_left
               ·intro w'
                go_simp
                with_reducible rfl
               rotate_left
               ·simp only [Act.put,sT_,sZ_,sS_,i64_w,i32_w]
                rfl
               refine one_ (i := 13) (N := some 20) #[true,true,true,true,true,true,true,true,true,true,true,true,true,true,false] rfl rfl (one_of HT_.out (by kernel_rfl)) (by decide) (fun K hK => ?_)
               refine value_ (w1 := ?_) (v := ?_) (by rfl) rfl ?_ ?_
               rotate_left 2
               ·go_simp
                constructor
                ·rfl
                ·rfl
               have HBX := Aside0.mk (by have h := heap_alloc_new w7 (.cells #[.int .i64 0,.int .u32 0] 58);(try simp only [World.size_alloc] at h);exact h)
               have HYN := Aside0.mk (by have h := HB9.out.size;(try simp only [World.size_alloc] at h);exact h)
               have NHB9 := Aside0.mk (bel_alloc HB9.out (.cells #[.int .i64 0,.int .u32 0] 58))
               clear HB9
               have HB9 := NHB9
               clear NHB9
               refine hK.out _ _ ((pw_cell_below HB9.out HCD9.out)) (fun hHeld => ?_)
               clear hK K
               refine norm_ (a' := ?_) ?_ ?_
               rotate_left
               ·show Act.put _ (some 20) _ = _
                simp only [Act.put,sT_,sZ_,sS_,i64_w,i32_w]
                rfl
               exact norm_ (by simp only [Go.Proofs.YtofmlajanopniaaW.PrintLast.putAll,Act.put,sT_,sZ_,sS_]) (hCont (World.heap w7).size _ ⟨HB9.out,(pw_cell_below HB9.out HCD9.out),HBX.out,HYN.out⟩)
              ·skip
               refine value_ (w1 := ?_) (v := ?_) (by rfl) rfl ?_ ?_
               rotate_left 2
               ·go_simp
                constructor
                ·rfl
                ·rfl
               have HBX := Aside0.mk (by have h := heap_alloc_new wd (.cells #[.int .i64 0,.int .u32 0] 58);(try simp only [World.size_alloc] at h);exact h)
               have HYN := Aside0.mk (by have h := HB9.out.size;(try simp only [World.size_alloc] at h);exact h)
               have NHB9 := Aside0.mk (bel_alloc HB9.out (.cells #[.int .i64 0,.int .u32 0] 58))
               clear HB9
               have HB9 := NHB9
               clear NHB9
               refine hK.out _ _ ((pw_cell_below HB9.out HCD9.out)) (fun hHeld => ?_)
               clear hK K
               refine norm_ (a' := ?_) ?_ ?_
               rotate_left
               ·show Act.put _ (some 20) _ = _
                simp only [Act.put,sT_,sZ_,sS_,i64_w,i32_w]
                rfl
               refine one_ (i := 6) (N := some 156) #[true,true,true,true,true,true,true,true,true,true,true,true,false,true,false] rfl rfl (one_of HT_.out (by kernel_rfl)) (by decide) (fun K hK => ?_)
               refine goes_ Try.func74 (by kernel_rfl) rfl #[.pointer (some ⟨g,0,none⟩),.slice A q.length c,.int .i64 k] (by rfl) rfl rfl (by simp only [List.map_toArray,List.map_cons,List.map_nil];rfl) ?_
               with_reducible refine ((HX.out.below (bel_trans HWD9.out.at0 HB9.out)).far_ HM.out.1 A c q (Kd.C_below HQ.out.1 (bel_trans HWD9.out.at0 HB9.out)) HQ.out.2 k HKL.out).mono ?_
               rintro e w7 ⟨rfl,hb⟩
               refine ⟨_,rfl, ?_⟩
               have NHB9 := Aside0.mk (bel_trans HB9.out hb)
               have NHBX := Aside0.mk (blk_below HBX.out hb)
               clear hb
               clear HB9 HBX
               have HB9 := NHB9
               have HBX := NHBX
               clear NHB9 NHBX
               refine hK.out _ _ ((pw_cell_below HB9.out HCD9.out)) (fun hHeld => ?_)
               clear hK K
               refine norm_ (a' := ?_) ?_ ?_
               rotate_left
               ·show Act.put _ (some 156) _ = _
                simp only [Act.put,sT_,sZ_,sS_,i64_w,i32_w]
                rfl
               refine pure_ (i := 12) (N := some 162) (v := ?_) (a' := ?_) #[true,true,true,true,true,true,true,true,true,true,true,true,true,true,false] rfl rfl (any_of HT_.out (by kernel_rfl)) (fun _ _ _ h => h) (Or.inl ⟨by rfl, ?_⟩) ?_ ?_
               rotate_left
               ·intro w'
                go_simp
                with_reducible rfl
               rotate_left
               ·simp only [Act.put,sT_,sZ_,sS_,i64_w,i32_w]
                rfl
               exact norm_ (by simp only [Go.Proofs.YtofmlajanopniaaW.PrintLast.putAll,Act.put,sT_,sZ_,sS_]) (hCont (World.heap wd).size _ ⟨HB9.out,(pw_cell_below HB9.out HCD9.out),HBX.out,HYN.out⟩)
             rintro b9 w8 ⟨h1,h2,h3,h4⟩
             clear HB9
             have HB8 := Aside0.mk (show Below wd.heap.size wd w8 from h1)
             have HX8 := Aside0.mk (show (World.heap w8)[b9]? = some (.cells #[.int .i64 0,.int .u32 0] 58 (0,0)) from h3)
             have HYN := Aside0.mk (show wd.heap.size ≤ b9 from h4)
             clear h1 h3 h4
             have hHeld := h2
             refine norm_ (a' := ?_) ?_ ?_
             rotate_left
             ·simp only [Go.Proofs.YtofmlajanopniaaW.PrintLast.putAll,Act.put,sT_,sZ_,sS_]
              rfl
             refine last_ (i := 14) (N := none) #[true,true,true,true,true,true,true,true,true,true,true,true,true,true,true] rfl rfl (one_of HT_.out (by kernel_rfl)) (by decide) (fun K hK => ?_)
             have z0 := (blk_cell HX8.out 0).trans rfl
             have z1 := (blk_cell HX8.out 1).trans rfl
             have fz : ∀ j,w8.frozen? ⟨b9,j,none⟩ = false := fun j => blk_frozen HX8.out j
             refine skip_ (w1 := ?_) (by rfl) rfl ?_ ?_
             rotate_left
             ·go_simp
              rfl
             clear z0 z1 fz
             refine hK.out _ _ ?_
             clear hK K
             refine done_ (done_of HT_.out (by kernel_rfl)) ?_
             clear hHeld
             rw [HWK.out]
             obtain ⟨w9,hw9⟩ : ∃ z,(w8.setCell ⟨b9,0,none⟩ (.int .i64 (s.far q k))).setCell ⟨b9,1,none⟩ (.int .u32 k) = z := ⟨_,rfl⟩
             have HX9 := Aside0.mk (boxed_hit HX8.out hw9)
             have HW9 := Aside0.mk (HWD9.out.below (show Below wd.heap.size wd w9 by rw [← hw9];exact below_set (below_set HB8.out HYN.out) HYN.out))
             rw [hw9]
             have HN9 := Aside0.mk (HND9.out.below (show Below wd.heap.size wd w9 by rw [← hw9];exact below_set (below_set HB8.out HYN.out) HYN.out))
             clear HND9
             have b0 := (blk_cell HX9.out 0).trans rfl
             have b1 := (blk_cell HX9.out 1).trans rfl
             clear hw9 HWD9 HCD9 HX8 HB8 HYN
             obtain ⟨gd,hgd⟩ : ∃ z,goodH W KW.best (s.hit q k) = z := ⟨_,rfl⟩
             have HGD := Aside0.mk hgd
             clear hgd b0 b1
             go_upto_region 28 with (fail)
             go_cut [176] (fun v176 wc => v176 = .bool gd ∧ Aside0 (Below w9.heap.size w9 wc))
             case first =>
              by_cases hfu : KW.best.length < W
              ·have HGT := Aside0.mk (show gd = true by rw [← HGD.out];unfold goodH;rw [decide_eq_false (by omega : ¬ KW.best.length = W)];rfl)
               have p1 : decide ((KW.best.length : Int) < (W : Int)) = true := decide_eq_true (by omega)
               have p2 : decide (KW.best.length < W) = true := decide_eq_true hfu
               clear hfu
               have HBD := Aside0.mk ((below_drew (Below.refl _ _)) : Below w9.heap.size w9 w9.drew)
               refine start_ (n := 14) (S := fun w' => True) (ds := []) #[false,false,false,false,false,false,false,false,false,false,false,false,false,false] (by kernel_rfl) rfl rfl trivial (fun hHeld => ?_)
               refine with_tabW rwk.tab28 rwk.bits28 (fun HT_ HW_ => ?_)
               generalize w9.drew = wd at HBD hHeld ⊢
               refine pure_ (i := 0) (N := some 163) (v := ?_) (a' := ?_) #[true,false,false,false,false,false,false,false,false,false,false,false,false,false] rfl rfl (any_of HT_.out (by kernel_rfl)) (fun _ _ _ h => h) (Or.inl ⟨by rfl, ?_⟩) ?_ ?_
               rotate_left
               ·intro w'
                go_simp
                with_reducible rfl
               rotate_left
               ·simp only [Act.put,sT_,sZ_,sS_,i64_w,i32_w]
                rfl
               refine pure_ (i := 1) (N := some 164) (v := ?_) (a' := ?_) #[true,true,false,false,false,false,false,false,false,false,false,false,false,false] rfl rfl (any_of HT_.out (by kernel_rfl)) (fun _ _ _ h => h) (Or.inl ⟨by rfl, ?_⟩) ?_ ?_
               rotate_left
               ·intro w'
                go_simp
                with_reducible rfl
               rotate_left
               ·simp only [Act.put,sT_,sZ_,sS_,i64_w,i32_w]
                rfl
               refine pure_ (i := 2) (N := some 165) (v := ?_) (a' := ?_) #[true,true,true,false,false,false,false,false,false,false,false,false,false,false] rfl rfl (any_of HT_.out (by kernel_rfl)) (fun _ _ _ h => h) (Or.inl ⟨by rfl, ?_⟩) ?_ ?_
               rotate_left
               ·intro w'
                go_simp
                with_reducible rfl
               rotate_left
               ·simp only [Act.put,sT_,sZ_,sS_,i64_w,i32_w]
                rfl
               refine pure_ (i := 3) (N := some 166) (v := ?_) (a' := ?_) #[true,true,true,true,false,false,false,false,false,false,false,false,false,false] rfl rfl (any_of HT_.out (by kernel_rfl)) (fun _ _ _ h => h) (Or.inl ⟨by rfl, ?_⟩) ?_ ?_
               rotate_left
               ·intro w'
                go_simp
                with_reducible rfl
               rotate_left
               ·simp only [Act.put,sT_,sZ_,sS_,i64_w,i32_w]
                rfl
               refine pure_ (i := 4) (N := some 167) (v := ?_) (a' := ?_) #[true,true,true,true,true,false,false,false,false,false,false,false,false,false] rfl rfl (any_of HT_.out (by kernel_rfl)) (fun _ _ _ h => h) (Or.inl ⟨by rfl, ?_⟩) ?_ ?_
               rotate_left
               ·intro w'
                go_simp
                with_reducible rfl
               rotate_left
               ·simp only [Act.put,sT_,sZ_,sS_,i64_w,i32_w]
                rfl
               refine pure_ (i := 5) (N := some 168) (v := undef) (a' := ?_) #[true,true,true,true,true,true,false,false,false,false,false,false,false,false] rfl rfl (any_of HT_.out (by kernel_rfl)) (fun _ _ _ h => h) (Or.inr ⟨by rfl,rfl⟩) ?_ ?_
               rotate_left
               ·simp only [Act.put,sT_,sZ_,sS_,i64_w,i32_w]
                rfl
               refine pure_ (i := 6) (N := some 169) (v := undef) (a' := ?_) #[true,true,true,true,true,true,true,false,false,false,false,false,false,false] rfl rfl (any_of HT_.out (by kernel_rfl)) (fun _ _ _ h => h) (Or.inr ⟨by rfl,rfl⟩) ?_ ?_
               rotate_left
               ·simp only [Act.put,sT_,sZ_,sS_,i64_w,i32_w]
                rfl
               refine pure_ (i := 7) (N := some 170) (v := undef) (a' := ?_) #[true,true,true,true,true,true,true,true,false,false,false,false,false,false] rfl rfl (any_of HT_.out (by kernel_rfl)) (fun _ _ _ h => h) (Or.inr ⟨by rfl,rfl⟩) ?_ ?_
               rotate_left
               ·simp only [Act.put,sT_,sZ_,sS_,i64_w,i32_w]
                rfl
               refine pure_ (i := 8) (N := some 171) (v := undef) (a' := ?_) #[true,true,true,true,true,true,true,true,true,false,false,false,false,false] rfl rfl (any_of HT_.out (by kernel_rfl)) (fun _ _ _ h => h) (Or.inr ⟨by rfl,rfl⟩) ?_ ?_
               rotate_left
               ·simp only [Act.put,sT_,sZ_,sS_,i64_w,i32_w]
                rfl
               refine pure_ (i := 9) (N := some 172) (v := undef) (a' := ?_) #[true,true,true,true,true,true,true,true,true,true,false,false,false,false] rfl rfl (any_of HT_.out (by kernel_rfl)) (fun _ _ _ h => h) (Or.inr ⟨by rfl,rfl⟩) ?_ ?_
               rotate_left
               ·simp only [Act.put,sT_,sZ_,sS_,i64_w,i32_w]
                rfl
               refine pure_ (i := 10) (N := some 173) (v := undef) (a' := ?_) #[true,true,true,true,true,true,true,true,true,true,true,false,false,false] rfl rfl (any_of HT_.out (by kernel_rfl)) (fun _ _ _ h => h) (Or.inr ⟨by rfl,rfl⟩) ?_ ?_
               rotate_left
               ·simp only [Act.put,sT_,sZ_,sS_,i64_w,i32_w]
                rfl
               refine pure_ (i := 11) (N := some 174) (v := undef) (a' := ?_) #[true,true,true,true,true,true,true,true,true,true,true,true,false,false] rfl rfl (any_of HT_.out (by kernel_rfl)) (fun _ _ _ h => h) (Or.inr ⟨by rfl,rfl⟩) ?_ ?_
               rotate_left
               ·simp only [Act.put,sT_,sZ_,sS_,i64_w,i32_w]
                rfl
               refine pure_ (i := 12) (N := some 175) (v := undef) (a' := ?_) #[true,true,true,true,true,true,true,true,true,true,true,true,true,false] rfl rfl (any_of HT_.out (by kernel_rfl)) (fun _ _ _ h => h) (Or.inr ⟨by rfl,rfl⟩) ?_ ?_
               rotate_left
               ·simp only [Act.put,sT_,sZ_,sS_,i64_w,i32_w]
                rfl
               refine pure_ (i := 13) (N := some 176) (v := ?_) (a' := ?_) #[true,true,true,true,true,true,true,true,true,true,true,true,true,true] rfl rfl (any_of HT_.out (by kernel_rfl)) (fun _ _ _ h => h) (Or.inl ⟨by rfl, ?_⟩) ?_ ?_
               rotate_left
               ·intro w'
                go_simp
                with_reducible rfl
               rotate_left
               ·simp only [Act.put,sT_,sZ_,sS_,i64_w,i32_w]
                rfl
               refine done_ (done_of HT_.out (by kernel_rfl)) ?_
               clear hHeld
               go_wp2
               go_meet
               exact ⟨by rw [HGT.out],HBD⟩
              ·have hfe : KW.best.length = W := by have h4 : KW.best.length ≤ W := HWB.out;omega
               have HLT := Aside0.mk (show ltH ⟨s.far q k,k⟩ ⟨(worstH KW.best).f0,(worstH KW.best).f1⟩ = gd by rw [← HGD.out];unfold goodH;rw [decide_eq_true hfe];rfl)
               have p1 : decide ((KW.best.length : Int) < (W : Int)) = false := decide_eq_false (by omega)
               have p2 : decide (KW.best.length < W) = false := decide_eq_false hfu
               obtain ⟨W1,hW1⟩ : ∃ z,W = z + 1 := ⟨W - 1,by have := HWD.out;omega⟩
               have p3 : IntKind.i64.wrap ((KW.best.length : Int) - 1) = (W1 : Int) := by rw [IntWalk.i64_in _ (by have := HWD.out;omega)];omega
               have p4 : (W1 : Int) < (KW.best.length : Int) := by omega
               obtain ⟨rb,hab,y0,y1⟩ := worst_cells HW9.out.best (W := W) (W1 := W1) hfe hW1
               subst hab
               have HY := Aside0.mk (And.intro y0 y1)
               clear hfu hfe hW1 y0 y1
               have HBD := Aside0.mk ((below_drew (Below.refl _ _)) : Below w9.heap.size w9 w9.drew)
               refine start_ (n := 14) (S := fun w' => w'.cell? ⟨rb,W1 * 2,none⟩ = some (.int .i64 (worstH KW.best).f0) ∧ w'.cell? ⟨rb,W1 * 2 + 1,none⟩ = some (.int .u32 (worstH KW.best).f1) ∧ w'.cell? ⟨b9,0,none⟩ = some (.int .i64 (s.far q k)) ∧ w'.cell? ⟨b9,1,none⟩ = some (.int .u32 k)) (ds := []) #[false,false,false,false,false,false,false,false,false,false,false,false,false,false] (by kernel_rfl) rfl rfl ⟨(pw_cell_below HBD.out HY.out.1),(pw_cell_below HBD.out HY.out.2),((blk_cell (blk_below HX9.out HBD.out) 0).trans rfl),((blk_cell (blk_below HX9.out HBD.out) 1).trans rfl)⟩ (fun hHeld => ?_)
               refine with_tabW rwk.tab28 rwk.bits28 (fun HT_ HW_ => ?_)
               generalize w9.drew = wd at HBD hHeld ⊢
               refine pure_ (i := 0) (N := some 163) (v := ?_) (a' := ?_) #[true,false,false,false,false,false,false,false,false,false,false,false,false,false] rfl rfl (any_of HT_.out (by kernel_rfl)) (fun _ _ _ h => h) (Or.inl ⟨by rfl, ?_⟩) ?_ ?_
               rotate_left
               ·intro w'
                go_simp
                with_reducible rfl
               rotate_left
               ·simp only [Act.put,sT_,sZ_,sS_,i64_w,i32_w]
                rfl
               refine pure_ (i := 1) (N := some 164) (v := ?_) (a' := ?_) #[true,true,false,false,false,false,false,false,false,false,false,false,false,false] rfl rfl (any_of HT_.out (by kernel_rfl)) (fun _ _ _ h => h) (Or.inl ⟨by rfl, ?_⟩) ?_ ?_
               rotate_left
               ·intro w'
                go_simp
                with_reducible rfl
               rotate_left
               ·simp only [Act.put,sT_,sZ_,sS_,i64_w,i32_w]
                rfl
               refine pure_ (i := 2) (N := some 165) (v := ?_) (a' := ?_) #[true,true,true,false,false,false,false,false,false,false,false,false,false,false] rfl rfl (any_of HT_.out (by kernel_rfl)) (fun _ _ _ h => h) (Or.inl ⟨by rfl, ?_⟩) ?_ ?_
               rotate_left
               ·intro w'
                go_simp
                with_reducible rfl
               rotate_left
               ·simp only [Act.put,sT_,sZ_,sS_,i64_w,i32_w]
                rfl
               refine pure_ (i := 3) (N := some 166) (v := ?_) (a' := ?_) #[true,true,true,true,false,false,false,false,false,false,false,false,false,false] rfl rfl (any_of HT_.out (by kernel_rfl)) (fun _ _ _ h => h) (Or.inl ⟨by rfl, ?_⟩) ?_ ?_
               rotate_left
               ·intro w'
                go_simp
                with_reducible rfl
               rotate_left
               ·simp only [Act.put,sT_,sZ_,sS_,i64_w,i32_w]
                rfl
               refine pure_ (i := 4) (N := some 167) (v := ?_) (a' := ?_) #[true,true,true,true,true,false,false,false,false,false,false,false,false,false] rfl rfl (any_of HT_.out (by kernel_rfl)) (fun _ _ _ h => h) (Or.inl ⟨by rfl, ?_⟩) ?_ ?_
               rotate_left
               ·intro w'
                go_simp
                with_reducible rfl
               rotate_left
               ·simp only [Act.put,sT_,sZ_,sS_,i64_w,i32_w]
                rfl
               refine pure_ (i := 6) (N := some 169) (v := ?_) (a' := ?_) #[true,true,true,true,true,false,true,false,false,false,false,false,false,false] rfl rfl (any_of HT_.out (by kernel_rfl)) (fun _ _ _ h => h) (Or.inl ⟨by rfl, ?_⟩) ?_ ?_
               rotate_left
               ·intro w'
                go_simp
                with_reducible rfl
               rotate_left
               ·simp only [Act.put,sT_,sZ_,sS_,i64_w,i32_w]
                rfl
               refine pure_ (i := 7) (N := some 170) (v := ?_) (a' := ?_) #[true,true,true,true,true,false,true,true,false,false,false,false,false,false] rfl rfl (any_of HT_.out (by kernel_rfl)) (fun _ _ _ h => h) (Or.inl ⟨by rfl, ?_⟩) ?_ ?_
               rotate_left
               ·intro w'
                go_simp
                with_reducible rfl
               rotate_left
               ·simp only [Act.put,sT_,sZ_,sS_,i64_w,i32_w]
                rfl
               refine pure_ (i := 8) (N := some 171) (v := ?_) (a' := ?_) #[true,true,true,true,true,false,true,true,true,false,false,false,false,false] rfl rfl (any_of HT_.out (by kernel_rfl)) (fun _ _ _ h => h) (Or.inl ⟨by rfl, ?_⟩) ?_ ?_
               rotate_left
               ·intro w'
                go_simp
                with_reducible rfl
               rotate_left
               ·simp only [Act.put,sT_,sZ_,sS_,i64_w,i32_w]
                rfl
               refine pure_ (i := 9) (N := some 172) (v := ?_) (a' := ?_) #[true,true,true,true,true,false,true,true,true,true,false,false,false,false] rfl rfl (any_of HT_.out (by kernel_rfl)) (fun _ _ _ h => h) (Or.inl ⟨by rfl, ?_⟩) ?_ ?_
               rotate_left
               ·intro w'
                go_simp
                with_reducible rfl
               rotate_left
               ·simp only [Act.put,sT_,sZ_,sS_,i64_w,i32_w]
                rfl
               refine pure_ (i := 10) (N := some 173) (v := ?_) (a' := ?_) #[true,true,true,true,true,false,true,true,true,true,true,false,false,false] rfl rfl (any_of HT_.out (by kernel_rfl)) (fun _ _ _ h => h) (Or.inl ⟨by rfl, ?_⟩) ?_ ?_
               rotate_left
               ·intro w'
                go_simp
                with_reducible rfl
               rotate_left
               ·simp only [Act.put,sT_,sZ_,sS_,i64_w,i32_w]
                rfl
               refine take_ (i := 5) (N := some 168) (v := ?_) (a' := ?_) #[true,true,true,true,true,true,true,true,true,true,true,false,false,false] rfl rfl (take_ofW HT_.out HW_.out (by kernel_rfl)) (fun _ _ _ h => h) (Or.inl ⟨by rfl, ?_⟩) hHeld ?_ ?_
               rotate_left
               ·rintro w' ⟨s0,s1,s2,s3⟩
                go_simp
                with_reducible rfl
               rotate_left
               ·simp only [Act.put,sT_,sZ_,sS_,i64_w,i32_w]
                rfl
               refine take_ (i := 11) (N := some 174) (v := ?_) (a' := ?_) #[true,true,true,true,true,true,true,true,true,true,true,true,false,false] rfl rfl (take_ofW HT_.out HW_.out (by kernel_rfl)) (fun _ _ _ h => h) (Or.inl ⟨by rfl, ?_⟩) hHeld ?_ ?_
               rotate_left
               ·rintro w' ⟨s0,s1,s2,s3⟩
                go_simp
                with_reducible rfl
               rotate_left
               ·simp only [Act.put,sT_,sZ_,sS_,i64_w,i32_w]
                rfl
               refine one_ (i := 12) (N := some 175) #[true,true,true,true,true,true,true,true,true,true,true,true,true,false] rfl rfl (one_of HT_.out (by kernel_rfl)) (by decide) (fun K hK => ?_)
               refine goes_ Try.func22 (by kernel_rfl) rfl #[.agg #[.int .i64 (s.far q k),.int .u32 k],.agg #[.int .i64 (worstH KW.best).f0,.int .u32 (worstH KW.best).f1]] (by rfl) rfl rfl (by simp only [List.map_toArray,List.map_cons,List.map_nil];rfl) ?_
               with_reducible refine (rless_calls _ _ _ _ gd HLT.out _).mono ?_
               rintro e w7 ⟨rfl,hb⟩
               refine ⟨_,rfl, ?_⟩
               have HB7 := Aside0.mk (bel_trans HBD.out hb)
               clear hb
               refine hK.out _ _ ⟨(pw_cell_below HB7.out HY.out.1),(pw_cell_below HB7.out HY.out.2),((blk_cell (blk_below HX9.out HB7.out) 0).trans rfl),((blk_cell (blk_below HX9.out HB7.out) 1).trans rfl)⟩ (fun hHeld => ?_)
               clear hK K
               refine norm_ (a' := ?_) ?_ ?_
               rotate_left
               ·show Act.put _ (some 175) _ = _
                simp only [Act.put,sT_,sZ_,sS_,i64_w,i32_w]
                rfl
               refine pure_ (i := 13) (N := some 176) (v := ?_) (a' := ?_) #[true,true,true,true,true,true,true,true,true,true,true,true,true,true] rfl rfl (any_of HT_.out (by kernel_rfl)) (fun _ _ _ h => h) (Or.inl ⟨by rfl, ?_⟩) ?_ ?_
               rotate_left
               ·intro w'
                go_simp
                with_reducible rfl
               rotate_left
               ·simp only [Act.put,sT_,sZ_,sS_,i64_w,i32_w]
                rfl
               refine done_ (done_of HT_.out (by kernel_rfl)) ?_
               clear hHeld
               go_wp2
               go_meet
               exact ⟨rfl,HB7⟩
             case rest =>
              obtain ⟨rfl,HBc⟩ := hcut
              have HWc := Aside0.mk (HW9.out.below HBc.out)
              have HNc := Aside0.mk (HN9.out.below HBc.out)
              have b0 := (blk_cell (blk_below HX9.out HBc.out) 0).trans rfl
              have b1 := (blk_cell (blk_below HX9.out HBc.out) 1).trans rfl
              cases gd with
              | false =>
               go_wp2
               go_roundg gm
               case measure => omega
               case rel => exact ⟨i + 1,⟨KW.met ++ [(k : Int)],KW.waits,KW.best⟩,by go_num,⟨gk_next HI.out HII.out⟩,⟨by rw [HFS.out,step_bad HC.out HT.out HGD.out]⟩,HWc,HNc⟩
              | true =>
               go_wp2_with (first | (have := HW11;go_at_call 75;go_must (with_reducible refine (rfirst_own HW11.out W (by have := HLEN.out;rw [intoL_len];omega)).mono ?_);rintro e w12 ⟨⟨v12,rfl,hv⟩,hb⟩;have HW12 := Aside0.mk ((HW10.out.below HB11.out).keep hb hv);have HN12 := Aside0.mk ((HN10.out.below HB11.out).below hb);clear hv hb) | (have := HW10;go_at_call 73;go_must (with_reducible refine (rinto_calls ab cb KW.best (s.far q k) k _ (OwnH.reads_ HW10.out.best) (by have := HLEN.out;omega)).mono ?_);rintro e w11 ⟨⟨v11,rfl,hv⟩,hb⟩;have HB11 := Aside0.mk hb;have HW11 := Aside0.mk hv;clear hv hb) | (go_at_call 73;go_must (with_reducible refine (rinto_calls ah ch KW.waits (s.far q k) k _ (RH.reads_ HWc.out.waits) (by have := HLEN.out;omega)).mono ?_);rintro e w10 ⟨⟨v10,rfl,hv⟩,hb⟩;have HW10 := Aside0.mk (HWc.out.wait hb hv);have HN10 := Aside0.mk (HNc.out.below hb);have b0 := pw_cell_below hb b0;have b1 := pw_cell_below hb b1;clear hv hb))
               go_roundg gm
               case measure => omega
               case rel => exact ⟨i + 1,⟨KW.met ++ [(k : Int)],intoL KW.waits (s.hit q k),putK W KW.best (s.hit q k)⟩,by go_num,⟨gk_next HI.out HII.out⟩,⟨by rw [HFS.out,step_good HC.out HT.out HGD.out]⟩,HW12,HN12⟩
          ·have r3 : decide ((i : Int) < (N.length : Int)) = false := decide_eq_false (by omega)
           have r4 : decide (i < N.length) = false := decide_eq_false hi
           have hie : i = N.length := by have := HI.out;omega
           rw [hie,List.take_length] at HKE
           obtain ⟨an,cn,rfl, -, -⟩ := HN.out.own.C
           clear hi hie
           go_wp2
           go_roundg go
           case measure => omega
           case rel => exact ⟨f2,KW,⟨by have := HGAU.out;omega⟩,⟨by rw [HKE.out];exact HANS2.out,HG.out,HGAU.out.2.2⟩,HK,HWB,HW⟩
end
end Go.Proofs.Ytofmlajanopniaa.Li
