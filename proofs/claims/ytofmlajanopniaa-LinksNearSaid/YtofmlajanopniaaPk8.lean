/- Texts of this claim,one behind the other: words,walks,plain laws. No condition. -/
import Derived.Test.YtofmlajanopniaaPk1
import Derived.Test.YtofmlajanopniaaPk7
set_option linter.unusedVariables false
set_option linter.unusedSimpArgs false
namespace Go.Proofs.Ytofmlajanopniaa.Li
open Go.RowKit Go.Maps Go.Proofs.YtofmlajanopniaaW.PrintWords Go.Proofs.YtofmlajanopniaaW.PrintLast Go.Proofs.YtofmlajanopniaaW.PrintMore Go.Proofs.Ytofmlajanopniaa.Q Go.Proofs.Ytofmlajanopniaa.Tk
def nrl.T11 : Bool × List (List Nat × List Nat) := (true,[([],[]),([0],[0]),([1],[1]),([2],[2]),([2],[2]),([4,2],[2,4]),([3,5,2],[2,3,5]),([6,2],[2,6]),([2],[2]),([2],[2]),([8,9,2],[2,8,9]),([10,2],[2,10]),([7,11,2,2],[2,7,11]),([12,2],[2,12]),([2,13],[2,13]),([14,12],[14]),([15],[15]),([15],[15]),([15],[15]),([17,18,15],[15,17,18]),([19,15],[15,19]),([20,15],[15,20]),([21,15],[15,21]),([16,22,15,15],[15,16,22]),([23,15],[15,23]),([15,24],[15,24])])
def nrl.B11 : List Nat := [0,1,3,7,7,23,63,127,7,7,775,1799,4095,8191,16383,32767,65535,65535,65535,458751,983039,2031615,4128767,8388607,16777215,33554431]
theorem nrl.tab11 : rtab .any (opsOf Try.f5 11) = nrl.T11 := by kernel_rfl
theorem nrl.bits11 : waitsOk nrl.T11.2 nrl.B11 = true := by kernel_rfl
def nrl.T17 : Bool × List (List Nat × List Nat) := (true,[([],[]),([],[]),([0,1],[0,1]),([2],[2]),([3],[3]),([4],[4]),([5],[5]),([5],[5]),([6,7,5],[5,6,7]),([8,5],[5,8]),([5],[5]),([10,5,5],[5,10]),([9,11,5],[5,9,11]),([5,12],[5,12]),([13,11],[13]),([14],[14]),([14],[14]),([15,16,14],[14,15,16]),([14],[14]),([14],[14]),([18,19,14],[14,18,19]),([20,14],[14,20]),([17,21,14,14],[14,17,21]),([22,14],[14,22]),([14,23],[14,23])])
def nrl.B17 : List Nat := [0,0,3,7,15,31,63,63,255,511,63,1087,4095,8191,16383,32767,32767,131071,32767,32767,819199,1867775,4194303,8388607,16777215]
theorem nrl.tab17 : rtab .any (opsOf Try.f5 17) = nrl.T17 := by kernel_rfl
theorem nrl.bits17 : waitsOk nrl.T17.2 nrl.B17 = true := by kernel_rfl
section
variable {s : Gr} {q L : List Int}
theorem near_lt {i : Nat} {a b : H} (ha : (nearG s q L)[i]? = some a) (hb : (nearG s q L)[i + 1]? = some b) : ltH a b = true := by
 obtain ⟨h1,rfl⟩ := List.getElem?_eq_some_iff.1 ha
 obtain ⟨h2,rfl⟩ := List.getElem?_eq_some_iff.1 hb
 have hle := List.pairwise_iff_getElem.1 (near_sorted s q L) i (i + 1) h1 h2 (by omega)
 cases h : ltH (nearG s q L)[i] (nearG s q L)[i + 1] with
 | true => rfl
 | false =>
  have he := leH_anti _ _ hle (leH_yes.2 h)
  exact absurd he (List.pairwise_iff_getElem.1 (near_nodup s q L) i (i + 1) h1 h2 (by omega))
theorem near_place {x : H} (h : x ∈ nearG s q L) : x.f1 ∈ L ∧ 0 ≤ x.f1 ∧ x.f1 < (s.l.length : Int) := by
 obtain ⟨j,h1,h2,rfl⟩ := mem_near.1 h
 obtain ⟨h3,h4, -⟩ := there_range h2
 exact ⟨h1,h3,h4⟩
theorem nearG_len : (nearG s q L).length = (nearD s L).length := by simp [nearG,sortH_len]
theorem nearD_mem : ∀ {L : List Int} {j : Int},j ∈ nearD s L ↔ j ∈ L ∧ s.there j 0 = true := by
 intro L
 suffices h : ∀ (D : List Int) (j : Int),j ∈ L.foldl (nearStep s) D ↔ j ∈ D ∨ (j ∈ L ∧ s.there j 0 = true) by
  intro j
  have := h [] j
  simpa [nearD] using this
 induction L with
 | nil => intro D j;simp
 | cons a L ih =>
  intro D j
  rw [List.foldl_cons,ih,near_step_mem,List.mem_cons]
  constructor
  ·rintro ((h | ⟨h1,h2⟩) | ⟨h1,h2⟩)
   ·exact .inl h
   ·subst h1;exact .inr ⟨.inl rfl,h2⟩
   ·exact .inr ⟨.inr h1,h2⟩
  ·rintro (h | ⟨h1 | h1,h2⟩)
   ·exact .inl (.inl h)
   ·subst h1;exact .inl (.inr ⟨rfl,h2⟩)
   ·exact .inr ⟨h1,h2⟩
theorem count_no {i : Nat} {x : Int} (hx : L[i]? = some x) (h : s.there x 0 = false ∨ (L.take i).contains x = true) : (nearD s (L.take (i + 1))).length = (nearD s (L.take i)).length := by
 have e : L.take (i + 1) = L.take i ++ [x] := by rw [List.take_add_one,hx];rfl
 rw [e,nearD_snoc]
 unfold nearStep
 rw [if_neg]
 intro hc
 rw [Bool.and_eq_true] at hc
 rcases h with h | h
 ·rw [h] at hc;simp at hc
 ·have h1 : x ∈ L.take i := by simpa using h
  have h2 : x ∈ nearD s (L.take i) := nearD_mem.2 ⟨h1,hc.1⟩
  simp [h2] at hc
theorem count_yes {i : Nat} {x : Int} (hx : L[i]? = some x) (h1 : s.there x 0 = true) (h2 : (L.take i).contains x = false) : (nearD s (L.take (i + 1))).length = (nearD s (L.take i)).length + 1 := by
 have e : L.take (i + 1) = L.take i ++ [x] := by rw [List.take_add_one,hx];rfl
 rw [e,nearD_snoc]
 unfold nearStep
 have h3 : x ∉ nearD s (L.take i) := fun hc => by
  have h4 := (nearD_mem.1 hc).1
  simp [h4] at h2
 rw [if_pos (by rw [h1];simp [h3])]
 simp
end
theorem far_no {s : Gr} {i : Int} (h : ¬ (0 ≤ i ∧ i < (s.l.length : Int))) : s.there i 0 = false := by
 cases hc : s.there i 0 with
 | false => rfl
 | true => have := there_range hc;omega
theorem C_take {w : World} {A : Option Addr} {L : List Int} (h : Kd.C (Kd.int .i64) w A L.length L) {i : Nat} (hi : i ≤ L.length) : Kd.C (Kd.int .i64) w A i (L.take i) := by
 refine ⟨by rw [List.length_take];omega,Nat.le_trans hi h.2.1,fun h0 => ?_⟩
 obtain ⟨ad,e,hc⟩ := h.2.2 (by omega)
 refine ⟨ad,e,fun j p hj => hc j p ?_⟩
 have hl := (List.getElem?_eq_some_iff.1 hj).1
 rw [List.length_take] at hl
 rw [List.getElem?_take,if_pos (by omega)] at hj
 exact hj
theorem has_n (A : Option Addr) (c : Nat) (L : List Int) (n : Nat) (hn : L.length = n) (x : Int) (w : World) (hC : Kd.C (Kd.int .i64) w A n L) (hc : n ≤ c) (hl : n ≤ 1000000) (b : Bool) (hb : L.contains x = b) :
  Calls Try.prog 23 #[.slice A n c,.int .i64 x] w fun e w' => e = .returned (.bool b) ∧ Below w.heap.size w w' := by
 subst hn
 exact has_calls A c L x w hC hc hl b hb
set_option maxHeartbeats 32000000 in
set_option maxRecDepth 100000 in
theorem linksNear_walk (m : Int) (hm : (Lit.int .u8 m).wf = true) (A : Option Addr) (c : Nat) (l : List OpL) (A2 : Option Addr) (c2 : Nat) (q : List Int) (A3 : Option Addr) (c3 : Nat) (L : List Int) (w : World) (hC : Kd.C kopL w A l.length l) (hok : okOpsL l) (hq : q.length ≤ c2) (hQ : Kd.C (Kd.int .i32) w A2 q.length q) (hl : L.length ≤ c3) (hL : Kd.C (Kd.int .i64) w A3 L.length L) :
  Calls Try.prog 5 #[.int .u8 m,.slice A l.length c,.slice A2 q.length c2,.slice A3 L.length c3] w fun e w' => e = .returned (.bool true) ∧ Below w.heap.size w w' := by
 have hu5 := Try.underlying48
 have hu3 := Try.underlying58
 obtain ⟨mm,hmm⟩ : ∃ z,m.tmod 2 = z := ⟨_,rfl⟩
 have HMM := Aside0.mk (show 0 ≤ mm by have := mod2 hm;omega)
 have HMW := Aside0.mk (show wrap64 mm = mm by rw [← hmm];exact mod2_wrap hm)
 have HM2 := Aside0.mk hmm
 have HC := Aside0.mk hC
 have HOK := Aside0.mk hok
 have HQ := Aside0.mk (And.intro hq hQ)
 have HL := Aside0.mk (And.intro hl hL)
 clear hC hok hq hQ hmm hm hl hL
 have q200 : (L.length ≤ 200) ∨ ¬ (L.length ≤ 200) := Decidable.em _
 have q100 : (q.length ≤ 100) ∨ ¬ (q.length ≤ 100) := Decidable.em _
 rcases q200 with h200 | h200
 ·have p4 : decide ((200 : Int) < (L.length : Int)) = false := decide_eq_false (by omega)
  have p4' : decide (200 < L.length) = false := decide_eq_false (by omega)
  have HLL := Aside0.mk h200
  clear h200
  rcases q100 with h100 | h100
  ·have q4 : decide ((100 : Int) < (q.length : Int)) = false := decide_eq_false (by omega)
   have q4' : decide (100 < q.length) = false := decide_eq_false (by omega)
   clear h100
   go_enter Try.func5,Try.ntmps5
   go_wp2_with (first | (go_at_call 10;(with_reducible refine (alive_calls _).mono ?_);rintro e w1 ⟨rfl,hb⟩;have HB1 := Aside0.mk hb;clear hb) | (have := HB1;go_at_call 12;rw [HM2.out];(with_reducible refine (gnew_calls mm _).mono ?_);rintro e w3 ⟨rfl,hw3⟩;have HN3 := Aside0.mk (M2.new HB1.out mm hw3);clear hw3) | (have := HN3;go_at_call 17;rw [HM2.out,HMW.out];(with_reducible refine (build_ HN3.out (Inv.nil HMM.out) A c l HC.out HOK.out 60 60 rfl (by omega)).mono ?_);rintro e w4 ⟨rfl,s,hM,hV⟩;have HM4 := Aside0.mk hM;have HV := Aside0.mk hV;have HSL := Aside0.mk hV.len;clear hM hV) | (have := HM4;go_at_call 21;go_must (with_reducible refine (HM4.out.nearP HV.out (by omega) A2 c2 q (Kd.C_below HQ.out.2 HM4.out.at0) HQ.out.1 A3 c3 L (Kd.C_below HL.out.2 HM4.out.at0) (by have := HLL.out;omega)).mono ?_);rintro e w5 ⟨⟨v5,rfl,hv⟩,hb⟩;obtain ⟨ao,cp,rfl,hrd⟩ := hv.reads;have HM5 := Aside0.mk (HM4.out.below hb);have HRD := Aside0.mk hrd;clear hv hb hrd))
   clear p4 p4' q4 q4'
   obtain ⟨N,hN⟩ : ∃ z,nearG s q L = z := ⟨_,rfl⟩
   have HPL := Aside0.mk (show ∀ x ∈ N,x.f1 ∈ L ∧ 0 ≤ x.f1 ∧ x.f1 < (s.l.length : Int) by rw [← hN];exact fun x hx => near_place hx)
   have HLT := Aside0.mk (show ∀ (i : Nat) (a b : H),N[i]? = some a → N[i + 1]? = some b → ltH a b = true by rw [← hN];exact fun i a b h1 h2 => near_lt h1 h2)
   have HNL := Aside0.mk (show N.length = (nearD s L).length by rw [← hN];exact nearG_len)
   have HNB := Aside0.mk (show N.length ≤ 200 by rw [← hN];have h1 := near_len s q L;have h2 := HLL.out;omega)
   have HSN := Aside0.mk (show s.l.length ≤ 60 by have := HSL.out;omega)
   obtain ⟨g,hg⟩ : ∃ z,w1.heap.size = z := ⟨_,rfl⟩
   obtain ⟨gr,hgr⟩ : ∃ z,w3.heap.size = z := ⟨_,rfl⟩
   have HM6 := Aside0.mk (show M2 (fun _ => False) w w5 g gr s s by rw [← hg,← hgr];exact HM5.out)
   try rw [hN] at HRD
   try rw [hN]
   rw [hg]
   try rw [hgr]
   clear HM5 HB1 HN3 hg hgr hN HM4
   have HC3 := Aside0.mk (Kd.C_below HL.out.2 HM6.out.at0)
   go_loopg [11] N.length (fun gk v11 wr => ∃ (i : Nat),v11 = .int .i64 i ∧ Aside0 (i ≤ N.length ∧ N.length - i ≤ gk) ∧ Aside0 (Below w5.heap.size w5 wr))
   case atStart => exact ⟨0,rfl,⟨by omega⟩,⟨Below.refl _ _⟩⟩
   case round =>
    obtain ⟨i,rfl,HI,HBR⟩ := hrel
    by_cases hi : i < N.length
    ·have q1 : decide ((i : Int) < (N.length : Int)) = true := decide_eq_true (by omega)
     have q1' : decide (i < N.length) = true := decide_eq_true (by omega)
     have p4 : (i : Int) < (N.length : Int) := by omega
     have HIL := Aside0.mk hi
     have HIN := Aside0.mk (show wrap64 ((i : Int) + 1) = ((i + 1 : Nat) : Int) by have := HNB.out;unfold wrap64;omega)
     obtain ⟨gk,rfl⟩ : ∃ m,gk = m + 1 := ⟨gk - 1,by have := HI.out;omega⟩
     obtain ⟨ad,x,rfl,hx,c0,c1⟩ := HRD.out.at hi
     have HX := Aside0.mk hx
     have HXP := Aside0.mk (HPL.out x (List.mem_of_getElem? hx))
     have HXC := Aside0.mk (show L.contains x.f1 = true by simpa using HXP.out.1)
     have pw : IntKind.i64.wrap x.f1 = x.f1 := by have h1 := HXP.out;have h2 := HSN.out;rw [IntWalk.i64_in _ (by omega)]
     have HCX := Aside0.mk (And.intro c0 c1)
     clear hi hx c0 c1
     rcases Nat.eq_zero_or_pos i with h0 | h0
     ·skip
      have p0 : decide ((0 : Int) < (i : Int)) = false := decide_eq_false (by omega)
      have p0' : decide (0 < i) = false := decide_eq_false (by omega)
      clear h0
      go_wp2
      have HB7 := Aside0.mk (bel_trans HBR.out (below_drew (Below.refl _ _)))
      refine start_ (n := 26) (S := fun w' => w'.cell? (ad.add (i * 2)) = some (.int .i64 x.f0) ∧ w'.cell? ⟨(ad.add (i * 2)).block,(ad.add (i * 2)).off + 1,none⟩ = some (.int .u32 x.f1)) (ds := []) #[false,false,false,false,false,false,false,false,false,false,false,false,false,false,false,false,false,false,false,false,false,false,false,false,false,false] (by kernel_rfl) rfl rfl ⟨(pw_cell_below HB7.out HCX.out.1),(pw_cell_below HB7.out HCX.out.2)⟩ (fun hHeld => ?_)
      refine with_tabW nrl.tab11 nrl.bits11 (fun HT_ HW_ => ?_)
      generalize wr.drew = wd at HB7 hHeld ⊢
      refine pure_ (i := 0) (N := some 45) (v := ?_) (a' := ?_) #[true,false,false,false,false,false,false,false,false,false,false,false,false,false,false,false,false,false,false,false,false,false,false,false,false,false] rfl rfl (any_of HT_.out (by kernel_rfl)) (fun _ _ _ h => h) (Or.inl ⟨by rfl, ?_⟩) ?_ ?_
      rotate_left
      ·intro w'
       go_simp
       with_reducible rfl
      rotate_left
      ·simp only [Act.put,sT_,sZ_,sS_,i64_w,i32_w]
       rfl
      refine pure_ (i := 1) (N := some 46) (v := ?_) (a' := ?_) #[true,true,false,false,false,false,false,false,false,false,false,false,false,false,false,false,false,false,false,false,false,false,false,false,false,false] rfl rfl (any_of HT_.out (by kernel_rfl)) (fun _ _ _ h => h) (Or.inl ⟨by rfl, ?_⟩) ?_ ?_
      rotate_left
      ·intro w'
       go_simp
       with_reducible rfl
      rotate_left
      ·simp only [Act.put,sT_,sZ_,sS_,i64_w,i32_w]
       rfl
      refine pure_ (i := 2) (N := some 47) (v := ?_) (a' := ?_) #[true,true,true,false,false,false,false,false,false,false,false,false,false,false,false,false,false,false,false,false,false,false,false,false,false,false] rfl rfl (any_of HT_.out (by kernel_rfl)) (fun _ _ _ h => h) (Or.inl ⟨by rfl, ?_⟩) ?_ ?_
      rotate_left
      ·intro w'
       go_simp
       with_reducible rfl
      rotate_left
      ·simp only [Act.put,sT_,sZ_,sS_,i64_w,i32_w]
       rfl
      refine pure_ (i := 3) (N := some 48) (v := undef) (a' := ?_) #[true,true,true,true,false,false,false,false,false,false,false,false,false,false,false,false,false,false,false,false,false,false,false,false,false,false] rfl rfl (any_of HT_.out (by kernel_rfl)) (fun _ _ _ h => h) (Or.inr ⟨by rfl,rfl⟩) ?_ ?_
      rotate_left
      ·simp only [Act.put,sT_,sZ_,sS_,i64_w,i32_w]
       rfl
      refine pure_ (i := 4) (N := some 49) (v := undef) (a' := ?_) #[true,true,true,true,true,false,false,false,false,false,false,false,false,false,false,false,false,false,false,false,false,false,false,false,false,false] rfl rfl (any_of HT_.out (by kernel_rfl)) (fun _ _ _ h => h) (Or.inr ⟨by rfl,rfl⟩) ?_ ?_
      rotate_left
      ·simp only [Act.put,sT_,sZ_,sS_,i64_w,i32_w]
       rfl
      refine pure_ (i := 5) (N := some 50) (v := undef) (a' := ?_) #[true,true,true,true,true,true,false,false,false,false,false,false,false,false,false,false,false,false,false,false,false,false,false,false,false,false] rfl rfl (any_of HT_.out (by kernel_rfl)) (fun _ _ _ h => h) (Or.inr ⟨by rfl,rfl⟩) ?_ ?_
      rotate_left
      ·simp only [Act.put,sT_,sZ_,sS_,i64_w,i32_w]
       rfl
      refine pure_ (i := 6) (N := some 51) (v := undef) (a' := ?_) #[true,true,true,true,true,true,true,false,false,false,false,false,false,false,false,false,false,false,false,false,false,false,false,false,false,false] rfl rfl (any_of HT_.out (by kernel_rfl)) (fun _ _ _ h => h) (Or.inr ⟨by rfl,rfl⟩) ?_ ?_
      rotate_left
      ·simp only [Act.put,sT_,sZ_,sS_,i64_w,i32_w]
       rfl
      refine pure_ (i := 7) (N := some 52) (v := undef) (a' := ?_) #[true,true,true,true,true,true,true,true,false,false,false,false,false,false,false,false,false,false,false,false,false,false,false,false,false,false] rfl rfl (any_of HT_.out (by kernel_rfl)) (fun _ _ _ h => h) (Or.inr ⟨by rfl,rfl⟩) ?_ ?_
      rotate_left
      ·simp only [Act.put,sT_,sZ_,sS_,i64_w,i32_w]
       rfl
      refine pure_ (i := 8) (N := some 53) (v := undef) (a' := ?_) #[true,true,true,true,true,true,true,true,true,false,false,false,false,false,false,false,false,false,false,false,false,false,false,false,false,false] rfl rfl (any_of HT_.out (by kernel_rfl)) (fun _ _ _ h => h) (Or.inr ⟨by rfl,rfl⟩) ?_ ?_
      rotate_left
      ·simp only [Act.put,sT_,sZ_,sS_,i64_w,i32_w]
       rfl
      refine pure_ (i := 9) (N := some 54) (v := undef) (a' := ?_) #[true,true,true,true,true,true,true,true,true,true,false,false,false,false,false,false,false,false,false,false,false,false,false,false,false,false] rfl rfl (any_of HT_.out (by kernel_rfl)) (fun _ _ _ h => h) (Or.inr ⟨by rfl,rfl⟩) ?_ ?_
      rotate_left
      ·simp only [Act.put,sT_,sZ_,sS_,i64_w,i32_w]
       rfl
      refine pure_ (i := 10) (N := some 55) (v := undef) (a' := ?_) #[true,true,true,true,true,true,true,true,true,true,true,false,false,false,false,false,false,false,false,false,false,false,false,false,false,false] rfl rfl (any_of HT_.out (by kernel_rfl)) (fun _ _ _ h => h) (Or.inr ⟨by rfl,rfl⟩) ?_ ?_
      rotate_left
      ·simp only [Act.put,sT_,sZ_,sS_,i64_w,i32_w]
       rfl
      refine pure_ (i := 11) (N := some 56) (v := undef) (a' := ?_) #[true,true,true,true,true,true,true,true,true,true,true,true,false,false,false,false,false,false,false,false,false,false,false,false,false,false] rfl rfl (any_of HT_.out (by kernel_rfl)) (fun _ _ _ h => h) (Or.inr ⟨by rfl,rfl⟩) ?_ ?_
      rotate_left
      ·simp only [Act.put,sT_,sZ_,sS_,i64_w,i32_w]
       rfl
      refine pure_ (i := 12) (N := some 57) (v := undef) (a' := ?_) #[true,true,true,true,true,true,true,true,true,true,true,true,true,false,false,false,false,false,false,false,false,false,false,false,false,false] rfl rfl (any_of HT_.out (by kernel_rfl)) (fun _ _ _ h => h) (Or.inr ⟨by rfl,rfl⟩) ?_ ?_
      rotate_left
      ·simp only [Act.put,sT_,sZ_,sS_,i64_w,i32_w]
       rfl
      refine pure_ (i := 13) (N := some 58) (v := undef) (a' := ?_) #[true,true,true,true,true,true,true,true,true,true,true,true,true,true,false,false,false,false,false,false,false,false,false,false,false,false] rfl rfl (any_of HT_.out (by kernel_rfl)) (fun _ _ _ h => h) (Or.inr ⟨by rfl,rfl⟩) ?_ ?_
      rotate_left
      ·simp only [Act.put,sT_,sZ_,sS_,i64_w,i32_w]
       rfl
      refine pure_ (i := 14) (N := some 59) (v := ?_) (a' := ?_) #[true,true,true,true,true,true,true,true,true,true,true,true,true,true,true,false,false,false,false,false,false,false,false,false,false,false] rfl rfl (any_of HT_.out (by kernel_rfl)) (fun _ _ _ h => h) (Or.inl ⟨by rfl, ?_⟩) ?_ ?_
      rotate_left
      ·intro w'
       go_simp
       with_reducible rfl
      rotate_left
      ·simp only [Act.put,sT_,sZ_,sS_,i64_w,i32_w]
       rfl
      refine pure_ (i := 15) (N := some 60) (v := ?_) (a' := ?_) #[true,true,true,true,true,true,true,true,true,true,true,true,true,true,true,true,false,false,false,false,false,false,false,false,false,false] rfl rfl (any_of HT_.out (by kernel_rfl)) (fun _ _ _ h => h) (Or.inl ⟨by rfl, ?_⟩) ?_ ?_
      rotate_left
      ·intro w'
       go_simp
       with_reducible rfl
      rotate_left
      ·simp only [Act.put,sT_,sZ_,sS_,i64_w,i32_w]
       rfl
      refine pure_ (i := 16) (N := some 61) (v := ?_) (a' := ?_) #[true,true,true,true,true,true,true,true,true,true,true,true,true,true,true,true,true,false,false,false,false,false,false,false,false,false] rfl rfl (any_of HT_.out (by kernel_rfl)) (fun _ _ _ h => h) (Or.inl ⟨by rfl, ?_⟩) ?_ ?_
      rotate_left
      ·intro w'
       go_simp
       with_reducible rfl
      rotate_left
      ·simp only [Act.put,sT_,sZ_,sS_,i64_w,i32_w]
       rfl
      refine pure_ (i := 17) (N := some 62) (v := ?_) (a' := ?_) #[true,true,true,true,true,true,true,true,true,true,true,true,true,true,true,true,true,true,false,false,false,false,false,false,false,false] rfl rfl (any_of HT_.out (by kernel_rfl)) (fun _ _ _ h => h) (Or.inl ⟨by rfl, ?_⟩) ?_ ?_
      rotate_left
      ·intro w'
       go_simp
       with_reducible rfl
      rotate_left
      ·simp only [Act.put,sT_,sZ_,sS_,i64_w,i32_w]
       rfl
      refine pure_ (i := 18) (N := some 63) (v := ?_) (a' := ?_) #[true,true,true,true,true,true,true,true,true,true,true,true,true,true,true,true,true,true,true,false,false,false,false,false,false,false] rfl rfl (any_of HT_.out (by kernel_rfl)) (fun _ _ _ h => h) (Or.inl ⟨by rfl, ?_⟩) ?_ ?_
      rotate_left
      ·intro w'
       go_simp
       with_reducible rfl
      rotate_left
      ·simp only [Act.put,sT_,sZ_,sS_,i64_w,i32_w]
       rfl
      refine pure_ (i := 19) (N := some 64) (v := ?_) (a' := ?_) #[true,true,true,true,true,true,true,true,true,true,true,true,true,true,true,true,true,true,true,true,false,false,false,false,false,false] rfl rfl (any_of HT_.out (by kernel_rfl)) (fun _ _ _ h => h) (Or.inl ⟨by rfl, ?_⟩) ?_ ?_
      rotate_left
      ·intro w'
       go_simp
       with_reducible rfl
      rotate_left
      ·simp only [Act.put,sT_,sZ_,sS_,i64_w,i32_w]
       rfl
      refine pure_ (i := 20) (N := some 65) (v := ?_) (a' := ?_) #[true,true,true,true,true,true,true,true,true,true,true,true,true,true,true,true,true,true,true,true,true,false,false,false,false,false] rfl rfl (any_of HT_.out (by kernel_rfl)) (fun _ _ _ h => h) (Or.inl ⟨by rfl, ?_⟩) ?_ ?_
      rotate_left
      ·intro w'
       go_simp
       with_reducible rfl
      rotate_left
      ·simp only [Act.put,sT_,sZ_,sS_,i64_w,i32_w]
       rfl
      refine take_ (i := 21) (N := some 66) (v := ?_) (a' := ?_) #[true,true,true,true,true,true,true,true,true,true,true,true,true,true,true,true,true,true,true,true,true,true,false,false,false,false] rfl rfl (take_ofW HT_.out HW_.out (by kernel_rfl)) (fun _ _ _ h => h) (Or.inl ⟨by rfl, ?_⟩) hHeld ?_ ?_
      rotate_left
      ·rintro w' ⟨s0,s1⟩
       go_simp
       with_reducible rfl
      rotate_left
      ·simp only [Act.put,sT_,sZ_,sS_,i64_w,i32_w]
       rfl
      refine pure_ (i := 22) (N := some 67) (v := ?_) (a' := ?_) #[true,true,true,true,true,true,true,true,true,true,true,true,true,true,true,true,true,true,true,true,true,true,true,false,false,false] rfl rfl (any_of HT_.out (by kernel_rfl)) (fun _ _ _ h => h) (Or.inl ⟨by rfl, ?_⟩) ?_ ?_
      rotate_left
      ·intro w'
       go_simp
       with_reducible rfl
      rotate_left
      ·simp only [Act.put,sT_,sZ_,sS_,i64_w,i32_w]
       rfl
      refine one_ (i := 23) (N := some 68) #[true,true,true,true,true,true,true,true,true,true,true,true,true,true,true,true,true,true,true,true,true,true,true,true,false,false] rfl rfl (one_of HT_.out (by kernel_rfl)) (by decide) (fun K hK => ?_)
      refine goes_ Try.func23 (by kernel_rfl) rfl #[.slice A3 L.length c3,.int .i64 x.f1] (by rfl) rfl rfl (by simp only [List.map_toArray,List.map_cons,List.map_nil];rfl) ?_
      with_reducible refine (has_calls A3 c3 L x.f1 _ (Kd.C_below HC3.out HB7.out) HL.out.1 (by have := HLL.out;omega) true HXC.out).mono ?_
      rintro e w8 ⟨rfl,hb⟩
      refine ⟨_,rfl, ?_⟩
      have HB8 := Aside0.mk (bel_trans HB7.out hb)
      clear hb
      refine hK.out _ _ ⟨(pw_cell_below HB8.out HCX.out.1),(pw_cell_below HB8.out HCX.out.2)⟩ (fun hHeld => ?_)
      clear hK K
      refine norm_ (a' := ?_) ?_ ?_
      rotate_left
      ·show Act.put _ (some 68) _ = _
       simp only [Act.put,sT_,sZ_,sS_,i64_w,i32_w]
       rfl
      refine pure_ (i := 24) (N := some 69) (v := ?_) (a' := ?_) #[true,true,true,true,true,true,true,true,true,true,true,true,true,true,true,true,true,true,true,true,true,true,true,true,true,false] rfl rfl (any_of HT_.out (by kernel_rfl)) (fun _ _ _ h => h) (Or.inl ⟨by rfl, ?_⟩) ?_ ?_
      rotate_left
      ·intro w'
       go_simp
       with_reducible rfl
      rotate_left
      ·simp only [Act.put,sT_,sZ_,sS_,i64_w,i32_w]
       rfl
      refine pure_ (i := 25) (N := some 70) (v := ?_) (a' := ?_) #[true,true,true,true,true,true,true,true,true,true,true,true,true,true,true,true,true,true,true,true,true,true,true,true,true,true] rfl rfl (any_of HT_.out (by kernel_rfl)) (fun _ _ _ h => h) (Or.inl ⟨by rfl, ?_⟩) ?_ ?_
      rotate_left
      ·intro w'
       go_simp
       with_reducible rfl
      rotate_left
      ·simp only [Act.put,sT_,sZ_,sS_,i64_w,i32_w]
       rfl
      refine done_ (done_of HT_.out (by kernel_rfl)) ?_
      clear hHeld
      go_wp2
      go_roundg gk
      case measure => omega
      case rel => exact ⟨i + 1,congrArg (Value.int .i64) HIN.out,⟨by have := HI.out;have := HIL.out;omega⟩,HB8⟩
     ·skip
      have p0 : decide ((0 : Int) < (i : Int)) = true := decide_eq_true (by omega)
      have p0' : decide (0 < i) = true := decide_eq_true h0
      obtain ⟨i1,hi1⟩ : ∃ z,i = z + 1 := ⟨i - 1,by omega⟩
      have p3 : IntKind.i64.wrap ((i : Int) - 1) = (i1 : Int) := by have h1 := HIL.out;have h2 := HNB.out;rw [IntWalk.i64_in _ (by omega)];omega
      have p5 : (i1 : Int) < (N.length : Int) := by have := HIL.out;omega
      obtain ⟨ad2,y,e2,hy,d0,d1⟩ := HRD.out.at (i := i1) (by have := HIL.out;omega)
      injection e2 with e2
      subst e2
      have HDY := Aside0.mk (And.intro d0 d1)
      have HLY := Aside0.mk (HLT.out i1 y x hy (by rw [← hi1];exact HX.out))
      clear d0 d1 hy h0 hi1
      go_wp2
      have HB7 := Aside0.mk (bel_trans HBR.out (below_drew (Below.refl _ _)))
      refine start_ (n := 26) (S := fun w' => w'.cell? (ad.add (i * 2)) = some (.int .i64 x.f0) ∧ w'.cell? ⟨(ad.add (i * 2)).block,(ad.add (i * 2)).off + 1,none⟩ = some (.int .u32 x.f1) ∧ w'.cell? (ad.add (i1 * 2)) = some (.int .i64 y.f0) ∧ w'.cell? ⟨(ad.add (i1 * 2)).block,(ad.add (i1 * 2)).off + 1,none⟩ = some (.int .u32 y.f1)) (ds := []) #[false,false,false,false,false,false,false,false,false,false,false,false,false,false,false,false,false,false,false,false,false,false,false,false,false,false] (by kernel_rfl) rfl rfl ⟨(pw_cell_below HB7.out HCX.out.1),(pw_cell_below HB7.out HCX.out.2),(pw_cell_below HB7.out HDY.out.1),(pw_cell_below HB7.out HDY.out.2)⟩ (fun hHeld => ?_)
      refine with_tabW nrl.tab11 nrl.bits11 (fun HT_ HW_ => ?_)
      generalize wr.drew = wd at HB7 hHeld ⊢
      refine pure_ (i := 0) (N := some 45) (v := ?_) (a' := ?_) #[true,false,false,false,false,false,false,false,false,false,false,false,false,false,false,false,false,false,false,false,false,false,false,false,false,false] rfl rfl (any_of HT_.out (by kernel_rfl)) (fun _ _ _ h => h) (Or.inl ⟨by rfl, ?_⟩) ?_ ?_
      rotate_left
      ·intro w'
       go_simp
       with_reducible rfl
      rotate_left
      ·simp only [Act.put,sT_,sZ_,sS_,i64_w,i32_w]
       rfl
      refine pure_ (i := 1) (N := some 46) (v := ?_) (a' := ?_) #[true,true,false,false,false,false,false,false,false,false,false,false,false,false,false,false,false,false,false,false,false,false,false,false,false,false] rfl rfl (any_of HT_.out (by kernel_rfl)) (fun _ _ _ h => h) (Or.inl ⟨by rfl, ?_⟩) ?_ ?_
      rotate_left
      ·intro w'
       go_simp
       with_reducible rfl
      rotate_left
      ·simp only [Act.put,sT_,sZ_,sS_,i64_w,i32_w]
       rfl
      refine pure_ (i := 2) (N := some 47) (v := ?_) (a' := ?_) #[true,true,true,false,false,false,false,false,false,false,false,false,false,false,false,false,false,false,false,false,false,false,false,false,false,false] rfl rfl (any_of HT_.out (by kernel_rfl)) (fun _ _ _ h => h) (Or.inl ⟨by rfl, ?_⟩) ?_ ?_
      rotate_left
      ·intro w'
       go_simp
       with_reducible rfl
      rotate_left
      ·simp only [Act.put,sT_,sZ_,sS_,i64_w,i32_w]
       rfl
      refine pure_ (i := 3) (N := some 48) (v := ?_) (a' := ?_) #[true,true,true,true,false,false,false,false,false,false,false,false,false,false,false,false,false,false,false,false,false,false,false,false,false,false] rfl rfl (any_of HT_.out (by kernel_rfl)) (fun _ _ _ h => h) (Or.inl ⟨by rfl, ?_⟩) ?_ ?_
      rotate_left
      ·intro w'
       go_simp
       with_reducible rfl
      rotate_left
      ·simp only [Act.put,sT_,sZ_,sS_,i64_w,i32_w]
       rfl
      refine pure_ (i := 4) (N := some 49) (v := ?_) (a' := ?_) #[true,true,true,true,true,false,false,false,false,false,false,false,false,false,false,false,false,false,false,false,false,false,false,false,false,false] rfl rfl (any_of HT_.out (by kernel_rfl)) (fun _ _ _ h => h) (Or.inl ⟨by rfl, ?_⟩) ?_ ?_
      rotate_left
      ·intro w'
       go_simp
       with_reducible rfl
      rotate_left
      ·simp only [Act.put,sT_,sZ_,sS_,i64_w,i32_w]
       rfl
      refine pure_ (i := 5) (N := some 50) (v := ?_) (a' := ?_) #[true,true,true,true,true,true,false,false,false,false,false,false,false,false,false,false,false,false,false,false,false,false,false,false,false,false] rfl rfl (any_of HT_.out (by kernel_rfl)) (fun _ _ _ h => h) (Or.inl ⟨by rfl, ?_⟩) ?_ ?_
      rotate_left
      ·intro w'
       go_simp
       with_reducible rfl
      rotate_left
      ·simp only [Act.put,sT_,sZ_,sS_,i64_w,i32_w]
       rfl
      refine pure_ (i := 6) (N := some 51) (v := ?_) (a' := ?_) #[true,true,true,true,true,true,true,false,false,false,false,false,false,false,false,false,false,false,false,false,false,false,false,false,false,false] rfl rfl (any_of HT_.out (by kernel_rfl)) (fun _ _ _ h => h) (Or.inl ⟨by rfl, ?_⟩) ?_ ?_
      rotate_left
      ·intro w'
       go_simp
       with_reducible rfl
      rotate_left
      ·simp only [Act.put,sT_,sZ_,sS_,i64_w,i32_w]
       rfl
      refine pure_ (i := 8) (N := some 53) (v := ?_) (a' := ?_) #[true,true,true,true,true,true,true,false,true,false,false,false,false,false,false,false,false,false,false,false,false,false,false,false,false,false] rfl rfl (any_of HT_.out (by kernel_rfl)) (fun _ _ _ h => h) (Or.inl ⟨by rfl, ?_⟩) ?_ ?_
      rotate_left
      ·intro w'
       go_simp
       with_reducible rfl
      rotate_left
      ·simp only [Act.put,sT_,sZ_,sS_,i64_w,i32_w]
       rfl
      refine pure_ (i := 9) (N := some 54) (v := ?_) (a' := ?_) #[true,true,true,true,true,true,true,false,true,true,false,false,false,false,false,false,false,false,false,false,false,false,false,false,false,false] rfl rfl (any_of HT_.out (by kernel_rfl)) (fun _ _ _ h => h) (Or.inl ⟨by rfl, ?_⟩) ?_ ?_
      rotate_left
      ·intro w'
       go_simp
       with_reducible rfl
      rotate_left
      ·simp only [Act.put,sT_,sZ_,sS_,i64_w,i32_w]
       rfl
      refine pure_ (i := 10) (N := some 55) (v := ?_) (a' := ?_) #[true,true,true,true,true,true,true,false,true,true,true,false,false,false,false,false,false,false,false,false,false,false,false,false,false,false] rfl rfl (any_of HT_.out (by kernel_rfl)) (fun _ _ _ h => h) (Or.inl ⟨by rfl, ?_⟩) ?_ ?_
      rotate_left
      ·intro w'
       go_simp
       with_reducible rfl
      rotate_left
      ·simp only [Act.put,sT_,sZ_,sS_,i64_w,i32_w]
       rfl
      refine take_ (i := 7) (N := some 52) (v := ?_) (a' := ?_) #[true,true,true,true,true,true,true,true,true,true,true,false,false,false,false,false,false,false,false,false,false,false,false,false,false,false] rfl rfl (take_ofW HT_.out HW_.out (by kernel_rfl)) (fun _ _ _ h => h) (Or.inl ⟨by rfl, ?_⟩) hHeld ?_ ?_
      rotate_left
      ·rintro w' ⟨s0,s1,s2,s3⟩
       go_simp
       with_reducible rfl
      rotate_left
      ·simp only [Act.put,sT_,sZ_,sS_,i64_w,i32_w]
       rfl
      refine take_ (i := 11) (N := some 56) (v := ?_) (a' := ?_) #[true,true,true,true,true,true,true,true,true,true,true,true,false,false,false,false,false,false,false,false,false,false,false,false,false,false] rfl rfl (take_ofW HT_.out HW_.out (by kernel_rfl)) (fun _ _ _ h => h) (Or.inl ⟨by rfl, ?_⟩) hHeld ?_ ?_
      rotate_left
      ·rintro w' ⟨s0,s1,s2,s3⟩
       go_simp
       with_reducible rfl
      rotate_left
      ·simp only [Act.put,sT_,sZ_,sS_,i64_w,i32_w]
       rfl
      refine one_ (i := 12) (N := some 57) #[true,true,true,true,true,true,true,true,true,true,true,true,true,false,false,false,false,false,false,false,false,false,false,false,false,false] rfl rfl (one_of HT_.out (by kernel_rfl)) (by decide) (fun K hK => ?_)
      refine goes_ Try.func22 (by kernel_rfl) rfl #[.agg #[.int .i64 y.f0,.int .u32 y.f1],.agg #[.int .i64 x.f0,.int .u32 x.f1]] (by rfl) rfl rfl (by simp only [List.map_toArray,List.map_cons,List.map_nil];rfl) ?_
      with_reducible refine (rless_calls _ _ _ _ true HLY.out _).mono ?_
      rintro e w9 ⟨rfl,hb⟩
      refine ⟨_,rfl, ?_⟩
      have HB9 := Aside0.mk (bel_trans HB7.out hb)
      clear hb
      refine hK.out _ _ ⟨(pw_cell_below HB9.out HCX.out.1),(pw_cell_below HB9.out HCX.out.2),(pw_cell_below HB9.out HDY.out.1),(pw_cell_below HB9.out HDY.out.2)⟩ (fun hHeld => ?_)
      clear hK K
      refine norm_ (a' := ?_) ?_ ?_
      rotate_left
      ·show Act.put _ (some 57) _ = _
       simp only [Act.put,sT_,sZ_,sS_,i64_w,i32_w]
       rfl
      refine pure_ (i := 13) (N := some 58) (v := ?_) (a' := ?_) #[true,true,true,true,true,true,true,true,true,true,true,true,true,true,false,false,false,false,false,false,false,false,false,false,false,false] rfl rfl (any_of HT_.out (by kernel_rfl)) (fun _ _ _ h => h) (Or.inl ⟨by rfl, ?_⟩) ?_ ?_
      rotate_left
      ·intro w'
       go_simp
       with_reducible rfl
      rotate_left
      ·simp only [Act.put,sT_,sZ_,sS_,i64_w,i32_w]
       rfl
      refine pure_ (i := 14) (N := some 59) (v := ?_) (a' := ?_) #[true,true,true,true,true,true,true,true,true,true,true,true,true,true,true,false,false,false,false,false,false,false,false,false,false,false] rfl rfl (any_of HT_.out (by kernel_rfl)) (fun _ _ _ h => h) (Or.inl ⟨by rfl, ?_⟩) ?_ ?_
      rotate_left
      ·intro w'
       go_simp
       with_reducible rfl
      rotate_left
      ·simp only [Act.put,sT_,sZ_,sS_,i64_w,i32_w]
       rfl
      refine pure_ (i := 15) (N := some 60) (v := ?_) (a' := ?_) #[true,true,true,true,true,true,true,true,true,true,true,true,true,true,true,true,false,false,false,false,false,false,false,false,false,false] rfl rfl (any_of HT_.out (by kernel_rfl)) (fun _ _ _ h => h) (Or.inl ⟨by rfl, ?_⟩) ?_ ?_
      rotate_left
      ·intro w'
       go_simp
       with_reducible rfl
      rotate_left
      ·simp only [Act.put,sT_,sZ_,sS_,i64_w,i32_w]
       rfl
      refine pure_ (i := 16) (N := some 61) (v := ?_) (a' := ?_) #[true,true,true,true,true,true,true,true,true,true,true,true,true,true,true,true,true,false,false,false,false,false,false,false,false,false] rfl rfl (any_of HT_.out (by kernel_rfl)) (fun _ _ _ h => h) (Or.inl ⟨by rfl, ?_⟩) ?_ ?_
      rotate_left
      ·intro w'
       go_simp
       with_reducible rfl
      rotate_left
      ·simp only [Act.put,sT_,sZ_,sS_,i64_w,i32_w]
       rfl
      refine pure_ (i := 17) (N := some 62) (v := ?_) (a' := ?_) #[true,true,true,true,true,true,true,true,true,true,true,true,true,true,true,true,true,true,false,false,false,false,false,false,false,false] rfl rfl (any_of HT_.out (by kernel_rfl)) (fun _ _ _ h => h) (Or.inl ⟨by rfl, ?_⟩) ?_ ?_
      rotate_left
      ·intro w'
       go_simp
       with_reducible rfl
      rotate_left
      ·simp only [Act.put,sT_,sZ_,sS_,i64_w,i32_w]
       rfl
      refine pure_ (i := 18) (N := some 63) (v := ?_) (a' := ?_) #[true,true,true,true,true,true,true,true,true,true,true,true,true,true,true,true,true,true,true,false,false,false,false,false,false,false] rfl rfl (any_of HT_.out (by kernel_rfl)) (fun _ _ _ h => h) (Or.inl ⟨by rfl, ?_⟩) ?_ ?_
      rotate_left
      ·intro w'
       go_simp
       with_reducible rfl
      rotate_left
      ·simp only [Act.put,sT_,sZ_,sS_,i64_w,i32_w]
       rfl
      refine pure_ (i := 19) (N := some 64) (v := ?_) (a' := ?_) #[true,true,true,true,true,true,true,true,true,true,true,true,true,true,true,true,true,true,true,true,false,false,false,false,false,false] rfl rfl (any_of HT_.out (by kernel_rfl)) (fun _ _ _ h => h) (Or.inl ⟨by rfl, ?_⟩) ?_ ?_
      rotate_left
      ·intro w'
       go_simp
       with_reducible rfl
      rotate_left
      ·simp only [Act.put,sT_,sZ_,sS_,i64_w,i32_w]
       rfl
      refine pure_ (i := 20) (N := some 65) (v := ?_) (a' := ?_) #[true,true,true,true,true,true,true,true,true,true,true,true,true,true,true,true,true,true,true,true,true,false,false,false,false,false] rfl rfl (any_of HT_.out (by kernel_rfl)) (fun _ _ _ h => h) (Or.inl ⟨by rfl, ?_⟩) ?_ ?_
      rotate_left
      ·intro w'
       go_simp
       with_reducible rfl
      rotate_left
      ·simp only [Act.put,sT_,sZ_,sS_,i64_w,i32_w]
       rfl
      refine take_ (i := 21) (N := some 66) (v := ?_) (a' := ?_) #[true,true,true,true,true,true,true,true,true,true,true,true,true,true,true,true,true,true,true,true,true,true,false,false,false,false] rfl rfl (take_ofW HT_.out HW_.out (by kernel_rfl)) (fun _ _ _ h => h) (Or.inl ⟨by rfl, ?_⟩) hHeld ?_ ?_
      rotate_left
      ·rintro w' ⟨s0,s1,s2,s3⟩
       go_simp
       with_reducible rfl
      rotate_left
      ·simp only [Act.put,sT_,sZ_,sS_,i64_w,i32_w]
       rfl
      refine pure_ (i := 22) (N := some 67) (v := ?_) (a' := ?_) #[true,true,true,true,true,true,true,true,true,true,true,true,true,true,true,true,true,true,true,true,true,true,true,false,false,false] rfl rfl (any_of HT_.out (by kernel_rfl)) (fun _ _ _ h => h) (Or.inl ⟨by rfl, ?_⟩) ?_ ?_
      rotate_left
      ·intro w'
       go_simp
       with_reducible rfl
      rotate_left
      ·simp only [Act.put,sT_,sZ_,sS_,i64_w,i32_w]
       rfl
      refine one_ (i := 23) (N := some 68) #[true,true,true,true,true,true,true,true,true,true,true,true,true,true,true,true,true,true,true,true,true,true,true,true,false,false] rfl rfl (one_of HT_.out (by kernel_rfl)) (by decide) (fun K hK => ?_)
      refine goes_ Try.func23 (by kernel_rfl) rfl #[.slice A3 L.length c3,.int .i64 x.f1] (by rfl) rfl rfl (by simp only [List.map_toArray,List.map_cons,List.map_nil];rfl) ?_
      with_reducible refine (has_calls A3 c3 L x.f1 _ (Kd.C_below HC3.out HB9.out) HL.out.1 (by have := HLL.out;omega) true HXC.out).mono ?_
      rintro e w8 ⟨rfl,hb⟩
      refine ⟨_,rfl, ?_⟩
      have HB8 := Aside0.mk (bel_trans HB9.out hb)
      clear hb
      refine hK.out _ _ ⟨(pw_cell_below HB8.out HCX.out.1),(pw_cell_below HB8.out HCX.out.2),(pw_cell_below HB8.out HDY.out.1),(pw_cell_below HB8.out HDY.out.2)⟩ (fun hHeld => ?_)
      clear hK K
      refine norm_ (a' := ?_) ?_ ?_
      rotate_left
      ·show Act.put _ (some 68) _ = _
       simp only [Act.put,sT_,sZ_,sS_,i64_w,i32_w]
       rfl
      refine pure_ (i := 24) (N := some 69) (v := ?_) (a' := ?_) #[true,true,true,true,true,true,true,true,true,true,true,true,true,true,true,true,true,true,true,true,true,true,true,true,true,false] rfl rfl (any_of HT_.out (by kernel_rfl)) (fun _ _ _ h => h) (Or.inl ⟨by rfl, ?_⟩) ?_ ?_
      rotate_left
      ·intro w'
       go_simp
       with_reducible rfl
      rotate_left
      ·simp only [Act.put,sT_,sZ_,sS_,i64_w,i32_w]
       rfl
      refine pure_ (i := 25) (N := some 70) (v := ?_) (a' := ?_) #[true,true,true,true,true,true,true,true,true,true,true,true,true,true,true,true,true,true,true,true,true,true,true,true,true,true] rfl rfl (any_of HT_.out (by kernel_rfl)) (fun _ _ _ h => h) (Or.inl ⟨by rfl, ?_⟩) ?_ ?_
      rotate_left
      ·intro w'
       go_simp
       with_reducible rfl
      rotate_left
      ·simp only [Act.put,sT_,sZ_,sS_,i64_w,i32_w]
       rfl
      refine done_ (done_of HT_.out (by kernel_rfl)) ?_
      clear hHeld
      go_wp2
      go_roundg gk
      case measure => omega
      case rel => exact ⟨i + 1,congrArg (Value.int .i64) HIN.out,⟨by have := HI.out;have := HIL.out;omega⟩,HB8⟩
    ·have q1 : decide ((i : Int) < (N.length : Int)) = false := decide_eq_false (by omega)
     have q1' : (i < N.length) = False := eq_false hi
     have q1'' : decide (i < N.length) = false := decide_eq_false hi
     clear hi HI
     go_wp2
     have HM7 := Aside0.mk (HM6.out.below HBR.out)
     clear q1 q1' q1''
     obtain ⟨wl,hwl⟩ : ∃ z,wr = z := ⟨_,rfl⟩
     rw [hwl] at HM7 HBR ⊢
     clear hwl
     have HC7 := Aside0.mk (Kd.C_below HC3.out HBR.out)
     clear HBR
     go_loopg [12,13] L.length (fun gk v12 v13 wr => ∃ (i : Nat),v13 = .int .i64 i ∧ v12 = .int .i64 ((nearD s (L.take i)).length : Nat) ∧ Aside0 (i ≤ L.length ∧ L.length - i ≤ gk) ∧ Aside0 (Below wl.heap.size wl wr))
     case atStart => exact ⟨0,rfl,rfl,⟨by omega⟩,⟨Below.refl _ _⟩⟩
     case round =>
      obtain ⟨i,rfl,rfl,HI,HBR⟩ := hrel
      obtain ⟨cn,hcn⟩ : ∃ z,(nearD s (L.take i)).length = z := ⟨_,rfl⟩
      have HCN := Aside0.mk hcn
      rw [hcn]
      clear hcn
      by_cases hi : i < L.length
      ·have q1 : decide ((i : Int) < (L.length : Int)) = true := decide_eq_true (by omega)
       have q1' : decide (i < L.length) = true := decide_eq_true (by omega)
       have p4 : (i : Int) < (L.length : Int) := by omega
       have HIL := Aside0.mk hi
       have HIN := Aside0.mk (show wrap64 ((i : Int) + 1) = ((i + 1 : Nat) : Int) by have := HLL.out;unfold wrap64;omega)
       obtain ⟨gk,rfl⟩ : ∃ m,gk = m + 1 := ⟨gk - 1,by have := HI.out;omega⟩
       obtain ⟨ad,rfl,c0⟩ := int_at HC7.out hi
       obtain ⟨x,hx⟩ : ∃ z,L[i] = z := ⟨_,rfl⟩
       have HX := Aside0.mk (show L[i]? = some x by rw [List.getElem?_eq_getElem hi,hx])
       rw [hx] at c0
       have HCX := Aside0.mk c0
       have HMR := Aside0.mk (HM7.out.below HBR.out)
       have ps : (i : Int) ≤ (c3 : Int) := by have h1 := HL.out.1;omega
       have ps' : i ≤ c3 := by have h1 := HL.out.1;omega
       have HCB := Aside0.mk (show cn ≤ 1000 by rw [← HCN.out];have h1 : (nearD s (L.take i)).length ≤ _ := (by rw [← nearG_len (q := [])];exact near_len s [] (L.take i));rw [List.length_take] at h1;have := HLL.out;omega)
       have HCW := Aside0.mk (show wrap64 ((cn : Int) + 1) = ((cn + 1 : Nat) : Int) by have := HCB.out;unfold wrap64;omega)
       clear hi hx c0
       by_cases h0 : 0 ≤ x
       ·have r0 : decide (0 ≤ x) = true := decide_eq_true h0
        by_cases h1 : x < (s.l.length : Int)
        ·have r1 : decide (x < (s.l.length : Int)) = true := decide_eq_true h1
         have HTX := Aside0.mk (show s.there x 0 = true by obtain ⟨k,rfl⟩ : ∃ k : Nat,x = k := ⟨x.toNat,by omega⟩;exact there_lt HV.out.good (by omega))
         clear h0 h1
         cases hb : (L.take i).contains x with
         | true =>
          have HBC := Aside0.mk hb
          clear hb
          go_wp2
          have HM8 := Aside0.mk (HMR.out.below (below_drew (Below.refl _ _)))
          have HB8 := Aside0.mk (bel_trans HBR.out (below_drew (Below.refl _ _)))
          clear HMR
          refine start_ (n := 25) (S := fun w' => w'.cell? (ad.add i) = some (.int .i64 x)) (ds := []) #[false,false,false,false,false,false,false,false,false,false,false,false,false,false,false,false,false,false,false,false,false,false,false,false,false] (by kernel_rfl) rfl rfl ((pw_cell_below HB8.out HCX.out)) (fun hHeld => ?_)
          refine with_tabW nrl.tab17 nrl.bits17 (fun HT_ HW_ => ?_)
          generalize wr.drew = wd at HM8 HB8 hHeld ⊢
          refine pure_ (i := 0) (N := some 77) (v := ?_) (a' := ?_) #[true,false,false,false,false,false,false,false,false,false,false,false,false,false,false,false,false,false,false,false,false,false,false,false,false] rfl rfl (any_of HT_.out (by kernel_rfl)) (fun _ _ _ h => h) (Or.inl ⟨by rfl, ?_⟩) ?_ ?_
          rotate_left
          ·intro w'
           go_simp
           with_reducible rfl
          rotate_left
          ·simp only [Act.put,sT_,sZ_,sS_,i64_w,i32_w]
           rfl
          refine pure_ (i := 1) (N := some 78) (v := ?_) (a' := ?_) #[true,true,false,false,false,false,false,false,false,false,false,false,false,false,false,false,false,false,false,false,false,false,false,false,false] rfl rfl (any_of HT_.out (by kernel_rfl)) (fun _ _ _ h => h) (Or.inl ⟨by rfl, ?_⟩) ?_ ?_
          rotate_left
          ·intro w'
           go_simp
           with_reducible rfl
          rotate_left
          ·simp only [Act.put,sT_,sZ_,sS_,i64_w,i32_w]
           rfl
          refine pure_ (i := 2) (N := some 79) (v := ?_) (a' := ?_) #[true,true,true,false,false,false,false,false,false,false,false,false,false,false,false,false,false,false,false,false,false,false,false,false,false] rfl rfl (any_of HT_.out (by kernel_rfl)) (fun _ _ _ h => h) (Or.inl ⟨by rfl, ?_⟩) ?_ ?_
          rotate_left
          ·intro w'
           go_simp
           with_reducible rfl
          rotate_left
          ·simp only [Act.put,sT_,sZ_,sS_,i64_w,i32_w]
           rfl
          refine take_ (i := 3) (N := some 80) (v := ?_) (a' := ?_) #[true,true,true,true,false,false,false,false,false,false,false,false,false,false,false,false,false,false,false,false,false,false,false,false,false] rfl rfl (take_ofW HT_.out HW_.out (by kernel_rfl)) (fun _ _ _ h => h) (Or.inl ⟨by rfl, ?_⟩) hHeld ?_ ?_
          rotate_left
          ·intro w' s0
           go_simp
           with_reducible rfl
          rotate_left
          ·simp only [Act.put,sT_,sZ_,sS_,i64_w,i32_w]
           rfl
          refine pure_ (i := 4) (N := some 81) (v := ?_) (a' := ?_) #[true,true,true,true,true,false,false,false,false,false,false,false,false,false,false,false,false,false,false,false,false,false,false,false,false] rfl rfl (any_of HT_.out (by kernel_rfl)) (fun _ _ _ h => h) (Or.inl ⟨by rfl, ?_⟩) ?_ ?_
          rotate_left
          ·intro w'
           go_simp
           with_reducible rfl
          rotate_left
          ·simp only [Act.put,sT_,sZ_,sS_,i64_w,i32_w]
           rfl
          refine pure_ (i := 5) (N := some 82) (v := ?_) (a' := ?_) #[true,true,true,true,true,true,false,false,false,false,false,false,false,false,false,false,false,false,false,false,false,false,false,false,false] rfl rfl (any_of HT_.out (by kernel_rfl)) (fun _ _ _ h => h) (Or.inl ⟨by rfl, ?_⟩) ?_ ?_
          rotate_left
          ·intro w'
           go_simp
           with_reducible rfl
          rotate_left
          ·simp only [Act.put,sT_,sZ_,sS_,i64_w,i32_w]
           rfl
          refine pure_ (i := 6) (N := some 83) (v := ?_) (a' := ?_) #[true,true,true,true,true,true,true,false,false,false,false,false,false,false,false,false,false,false,false,false,false,false,false,false,false] rfl rfl (any_of HT_.out (by kernel_rfl)) (fun _ _ _ h => h) (Or.inl ⟨by rfl, ?_⟩) ?_ ?_
          rotate_left
          ·intro w'
           go_simp
           with_reducible rfl
          rotate_left
          ·simp only [Act.put,sT_,sZ_,sS_,i64_w,i32_w]
           rfl
          refine pure_ (i := 7) (N := some 84) (v := ?_) (a' := ?_) #[true,true,true,true,true,true,true,true,false,false,false,false,false,false,false,false,false,false,false,false,false,false,false,false,false] rfl rfl (any_of HT_.out (by kernel_rfl)) (fun _ _ _ h => h) (Or.inl ⟨by rfl, ?_⟩) ?_ ?_
          rotate_left
          ·intro w'
           go_simp
           with_reducible rfl
          rotate_left
          ·simp only [Act.put,sT_,sZ_,sS_,i64_w,i32_w]
           rfl
          refine pure_ (i := 8) (N := some 85) (v := ?_) (a' := ?_) #[true,true,true,true,true,true,true,true,true,false,false,false,false,false,false,false,false,false,false,false,false,false,false,false,false] rfl rfl (any_of HT_.out (by kernel_rfl)) (fun _ _ _ h => h) (Or.inl ⟨by rfl, ?_⟩) ?_ ?_
          rotate_left
          ·intro w'
           go_simp
           with_reducible rfl
          rotate_left
          ·simp only [Act.put,sT_,sZ_,sS_,i64_w,i32_w]
           rfl
          refine pure_ (i := 10) (N := some 87) (v := ?_) (a' := ?_) #[true,true,true,true,true,true,true,true,true,false,true,false,false,false,false,false,false,false,false,false,false,false,false,false,false] rfl rfl (any_of HT_.out (by kernel_rfl)) (fun _ _ _ h => h) (Or.inl ⟨by rfl, ?_⟩) ?_ ?_
          rotate_left
          ·intro w'
           go_simp
           with_reducible rfl
          rotate_left
          ·simp only [Act.put,sT_,sZ_,sS_,i64_w,i32_w]
           rfl
          refine take_ (i := 9) (N := some 86) (v := ?_) (a' := ?_) #[true,true,true,true,true,true,true,true,true,true,true,false,false,false,false,false,false,false,false,false,false,false,false,false,false] rfl rfl (take_ofW HT_.out HW_.out (by kernel_rfl)) (fun _ _ _ h => h) (Or.inl ⟨by rfl, ?_⟩) hHeld ?_ ?_
          rotate_left
          ·intro w' s0
           go_simp
           with_reducible rfl
          rotate_left
          ·simp only [Act.put,sT_,sZ_,sS_,i64_w,i32_w]
           rfl
          refine one_ (i := 11) (N := some 88) #[true,true,true,true,true,true,true,true,true,true,true,true,false,false,false,false,false,false,false,false,false,false,false,false,false] rfl rfl (one_of HT_.out (by kernel_rfl)) (by decide) (fun K hK => ?_)
          refine goes_ Try.func18 (by kernel_rfl) rfl #[.pointer (some ⟨g,0,none⟩)] (by rfl) rfl rfl (by simp only [List.map_toArray,List.map_cons,List.map_nil];rfl) ?_
          with_reducible refine (HM8.out.lenP).mono ?_
          rintro e w9 ⟨rfl,hb⟩
          refine ⟨_,rfl, ?_⟩
          have HM9 := Aside0.mk (HM8.out.below hb)
          have HB9 := Aside0.mk (bel_trans HB8.out hb)
          clear hb
          refine hK.out _ _ ((pw_cell_below HB9.out HCX.out)) (fun hHeld => ?_)
          clear hK K
          refine norm_ (a' := ?_) ?_ ?_
          rotate_left
          ·show Act.put _ (some 88) _ = _
           simp only [Act.put,sT_,sZ_,sS_,i64_w,i32_w]
           rfl
          refine pure_ (i := 12) (N := some 89) (v := ?_) (a' := ?_) #[true,true,true,true,true,true,true,true,true,true,true,true,true,false,false,false,false,false,false,false,false,false,false,false,false] rfl rfl (any_of HT_.out (by kernel_rfl)) (fun _ _ _ h => h) (Or.inl ⟨by rfl, ?_⟩) ?_ ?_
          rotate_left
          ·intro w'
           go_simp
           with_reducible rfl
          rotate_left
          ·simp only [Act.put,sT_,sZ_,sS_,i64_w,i32_w]
           rfl
          refine pure_ (i := 13) (N := some 90) (v := ?_) (a' := ?_) #[true,true,true,true,true,true,true,true,true,true,true,true,true,true,false,false,false,false,false,false,false,false,false,false,false] rfl rfl (any_of HT_.out (by kernel_rfl)) (fun _ _ _ h => h) (Or.inl ⟨by rfl, ?_⟩) ?_ ?_
          rotate_left
          ·intro w'
           go_simp
           with_reducible rfl
          rotate_left
          ·simp only [Act.put,sT_,sZ_,sS_,i64_w,i32_w]
           rfl
          refine pure_ (i := 14) (N := some 91) (v := ?_) (a' := ?_) #[true,true,true,true,true,true,true,true,true,true,true,true,true,true,true,false,false,false,false,false,false,false,false,false,false] rfl rfl (any_of HT_.out (by kernel_rfl)) (fun _ _ _ h => h) (Or.inl ⟨by rfl, ?_⟩) ?_ ?_
          rotate_left
          ·intro w'
           go_simp
           with_reducible rfl
          rotate_left
          ·simp only [Act.put,sT_,sZ_,sS_,i64_w,i32_w]
           rfl
          refine pure_ (i := 15) (N := some 92) (v := ?_) (a' := ?_) #[true,true,true,true,true,true,true,true,true,true,true,true,true,true,true,true,false,false,false,false,false,false,false,false,false] rfl rfl (any_of HT_.out (by kernel_rfl)) (fun _ _ _ h => h) (Or.inl ⟨by rfl, ?_⟩) ?_ ?_
          rotate_left
          ·intro w'
           go_simp
           with_reducible rfl
          rotate_left
          ·simp only [Act.put,sT_,sZ_,sS_,i64_w,i32_w]
           rfl
          refine pure_ (i := 16) (N := some 93) (v := ?_) (a' := ?_) #[true,true,true,true,true,true,true,true,true,true,true,true,true,true,true,true,true,false,false,false,false,false,false,false,false] rfl rfl (any_of HT_.out (by kernel_rfl)) (fun _ _ _ h => h) (Or.inl ⟨by rfl, ?_⟩) ?_ ?_
          rotate_left
          ·intro w'
           go_simp
           with_reducible rfl
          rotate_left
          ·simp only [Act.put,sT_,sZ_,sS_,i64_w,i32_w]
           rfl
          refine pure_ (i := 17) (N := some 94) (v := ?_) (a' := ?_) #[true,true,true,true,true,true,true,true,true,true,true,true,true,true,true,true,true,true,false,false,false,false,false,false,false] rfl rfl (any_of HT_.out (by kernel_rfl)) (fun _ _ _ h => h) (Or.inl ⟨by rfl, ?_⟩) ?_ ?_
          rotate_left
          ·intro w'
           go_simp
           with_reducible rfl
          rotate_left
          ·simp only [Act.put,sT_,sZ_,sS_,i64_w,i32_w]
           rfl
          refine pure_ (i := 18) (N := some 95) (v := ?_) (a' := ?_) #[true,true,true,true,true,true,true,true,true,true,true,true,true,true,true,true,true,true,true,false,false,false,false,false,false] rfl rfl (any_of HT_.out (by kernel_rfl)) (fun _ _ _ h => h) (Or.inl ⟨by rfl, ?_⟩) ?_ ?_
          rotate_left
          ·intro w'
           go_simp
           with_reducible rfl
          rotate_left
          ·simp only [Act.put,sT_,sZ_,sS_,i64_w,i32_w]
           rfl
          refine pure_ (i := 19) (N := some 96) (v := ?_) (a' := ?_) #[true,true,true,true,true,true,true,true,true,true,true,true,true,true,true,true,true,true,true,true,false,false,false,false,false] rfl rfl (any_of HT_.out (by kernel_rfl)) (fun _ _ _ h => h) (Or.inl ⟨by rfl, ?_⟩) ?_ ?_
          rotate_left
          ·intro w'
           go_simp
           with_reducible rfl
          rotate_left
          ·simp only [Act.put,sT_,sZ_,sS_,i64_w,i32_w]
           rfl
          refine pure_ (i := 20) (N := some 97) (v := ?_) (a' := ?_) #[true,true,true,true,true,true,true,true,true,true,true,true,true,true,true,true,true,true,true,true,true,false,false,false,false] rfl rfl (any_of HT_.out (by kernel_rfl)) (fun _ _ _ h => h) (Or.inl ⟨by rfl, ?_⟩) ?_ ?_
          rotate_left
          ·intro w'
           go_simp
           with_reducible rfl
          rotate_left
          ·simp only [Act.put,sT_,sZ_,sS_,i64_w,i32_w]
           rfl
          refine take_ (i := 21) (N := some 98) (v := ?_) (a' := ?_) #[true,true,true,true,true,true,true,true,true,true,true,true,true,true,true,true,true,true,true,true,true,true,false,false,false] rfl rfl (take_ofW HT_.out HW_.out (by kernel_rfl)) (fun _ _ _ h => h) (Or.inl ⟨by rfl, ?_⟩) hHeld ?_ ?_
          rotate_left
          ·intro w' s0
           go_simp
           with_reducible rfl
          rotate_left
          ·simp only [Act.put,sT_,sZ_,sS_,i64_w,i32_w]
           rfl
          refine one_ (i := 22) (N := some 99) #[true,true,true,true,true,true,true,true,true,true,true,true,true,true,true,true,true,true,true,true,true,true,true,false,false] rfl rfl (one_of HT_.out (by kernel_rfl)) (by decide) (fun K hK => ?_)
          refine goes_ Try.func23 (by kernel_rfl) rfl #[.slice (some ad) i c3,.int .i64 x] (by rfl) rfl rfl (by simp only [List.map_toArray,List.map_cons,List.map_nil];rfl) ?_
          with_reducible refine (has_n (some ad) c3 (L.take i) i (by rw [List.length_take];have := HIL.out;omega) x _ (C_take (Kd.C_below HC7.out HB9.out) (by have := HIL.out;omega)) (by have := HL.out.1;have := HIL.out;omega) (by have := HLL.out;have := HIL.out;omega) true HBC.out).mono ?_
          rintro e w10 ⟨rfl,hb⟩
          refine ⟨_,rfl, ?_⟩
          have HB10 := Aside0.mk (bel_trans HB9.out hb)
          clear hb
          refine hK.out _ _ ((pw_cell_below HB10.out HCX.out)) (fun hHeld => ?_)
          clear hK K
          refine norm_ (a' := ?_) ?_ ?_
          rotate_left
          ·show Act.put _ (some 99) _ = _
           simp only [Act.put,sT_,sZ_,sS_,i64_w,i32_w]
           rfl
          refine pure_ (i := 23) (N := some 100) (v := ?_) (a' := ?_) #[true,true,true,true,true,true,true,true,true,true,true,true,true,true,true,true,true,true,true,true,true,true,true,true,false] rfl rfl (any_of HT_.out (by kernel_rfl)) (fun _ _ _ h => h) (Or.inl ⟨by rfl, ?_⟩) ?_ ?_
          rotate_left
          ·intro w'
           go_simp
           with_reducible rfl
          rotate_left
          ·simp only [Act.put,sT_,sZ_,sS_,i64_w,i32_w]
           rfl
          refine pure_ (i := 24) (N := some 101) (v := ?_) (a' := ?_) #[true,true,true,true,true,true,true,true,true,true,true,true,true,true,true,true,true,true,true,true,true,true,true,true,true] rfl rfl (any_of HT_.out (by kernel_rfl)) (fun _ _ _ h => h) (Or.inl ⟨by rfl, ?_⟩) ?_ ?_
          rotate_left
          ·intro w'
           go_simp
           with_reducible rfl
          rotate_left
          ·simp only [Act.put,sT_,sZ_,sS_,i64_w,i32_w]
           rfl
          refine done_ (done_of HT_.out (by kernel_rfl)) ?_
          clear hHeld
          go_wp2
          go_roundg gk
          case measure => omega
          case rel => exact ⟨i + 1,congrArg (Value.int .i64) HIN.out,congrArg (fun z : Nat => Value.int .i64 (z : Int)) (by rw [count_no HX.out (.inr HBC.out)];exact HCN.out.symm),⟨by have := HI.out;have := HIL.out;omega⟩,HB10⟩
         | false =>
          have HBC := Aside0.mk hb
          clear hb
          go_wp2
          have HM8 := Aside0.mk (HMR.out.below (below_drew (Below.refl _ _)))
          have HB8 := Aside0.mk (bel_trans HBR.out (below_drew (Below.refl _ _)))
          clear HMR
          refine start_ (n := 25) (S := fun w' => w'.cell? (ad.add i) = some (.int .i64 x)) (ds := []) #[false,false,false,false,false,false,false,false,false,false,false,false,false,false,false,false,false,false,false,false,false,false,false,false,false] (by kernel_rfl) rfl rfl ((pw_cell_below HB8.out HCX.out)) (fun hHeld => ?_)
          refine with_tabW nrl.tab17 nrl.bits17 (fun HT_ HW_ => ?_)
          generalize wr.drew = wd at HM8 HB8 hHeld ⊢
          refine pure_ (i := 0) (N := some 77) (v := ?_) (a' := ?_) #[true,false,false,false,false,false,false,false,false,false,false,false,false,false,false,false,false,false,false,false,false,false,false,false,false] rfl rfl (any_of HT_.out (by kernel_rfl)) (fun _ _ _ h => h) (Or.inl ⟨by rfl, ?_⟩) ?_ ?_
          rotate_left
          ·intro w'
           go_simp
           with_reducible rfl
          rotate_left
          ·simp only [Act.put,sT_,sZ_,sS_,i64_w,i32_w]
           rfl
          refine pure_ (i := 1) (N := some 78) (v := ?_) (a' := ?_) #[true,true,false,false,false,false,false,false,false,false,false,false,false,false,false,false,false,false,false,false,false,false,false,false,false] rfl rfl (any_of HT_.out (by kernel_rfl)) (fun _ _ _ h => h) (Or.inl ⟨by rfl, ?_⟩) ?_ ?_
          rotate_left
          ·intro w'
           go_simp
           with_reducible rfl
          rotate_left
          ·simp only [Act.put,sT_,sZ_,sS_,i64_w,i32_w]
           rfl
          refine pure_ (i := 2) (N := some 79) (v := ?_) (a' := ?_) #[true,true,true,false,false,false,false,false,false,false,false,false,false,false,false,false,false,false,false,false,false,false,false,false,false] rfl rfl (any_of HT_.out (by kernel_rfl)) (fun _ _ _ h => h) (Or.inl ⟨by rfl, ?_⟩) ?_ ?_
          rotate_left
          ·intro w'
           go_simp
           with_reducible rfl
          rotate_left
          ·simp only [Act.put,sT_,sZ_,sS_,i64_w,i32_w]
           rfl
          refine take_ (i := 3) (N := some 80) (v := ?_) (a' := ?_) #[true,true,true,true,false,false,false,false,false,false,false,false,false,false,false,false,false,false,false,false,false,false,false,false,false] rfl rfl (take_ofW HT_.out HW_.out (by kernel_rfl)) (fun _ _ _ h => h) (Or.inl ⟨by rfl, ?_⟩) hHeld ?_ ?_
          rotate_left
          ·intro w' s0
           go_simp
           with_reducible rfl
          rotate_left
          ·simp only [Act.put,sT_,sZ_,sS_,i64_w,i32_w]
           rfl
          refine pure_ (i := 4) (N := some 81) (v := ?_) (a' := ?_) #[true,true,true,true,true,false,false,false,false,false,false,false,false,false,false,false,false,false,false,false,false,false,false,false,false] rfl rfl (any_of HT_.out (by kernel_rfl)) (fun _ _ _ h => h) (Or.inl ⟨by rfl, ?_⟩) ?_ ?_
          rotate_left
          ·intro w'
           go_simp
           with_reducible rfl
          rotate_left
          ·simp only [Act.put,sT_,sZ_,sS_,i64_w,i32_w]
           rfl
          refine pure_ (i := 5) (N := some 82) (v := ?_) (a' := ?_) #[true,true,true,true,true,true,false,false,false,false,false,false,false,false,false,false,false,false,false,false,false,false,false,false,false] rfl rfl (any_of HT_.out (by kernel_rfl)) (fun _ _ _ h => h) (Or.inl ⟨by rfl, ?_⟩) ?_ ?_
          rotate_left
          ·intro w'
           go_simp
           with_reducible rfl
          rotate_left
          ·simp only [Act.put,sT_,sZ_,sS_,i64_w,i32_w]
           rfl
          refine pure_ (i := 6) (N := some 83) (v := ?_) (a' := ?_) #[true,true,true,true,true,true,true,false,false,false,false,false,false,false,false,false,false,false,false,false,false,false,false,false,false] rfl rfl (any_of HT_.out (by kernel_rfl)) (fun _ _ _ h => h) (Or.inl ⟨by rfl, ?_⟩) ?_ ?_
          rotate_left
          ·intro w'
           go_simp
           with_reducible rfl
          rotate_left
          ·simp only [Act.put,sT_,sZ_,sS_,i64_w,i32_w]
           rfl
          refine pure_ (i := 7) (N := some 84) (v := ?_) (a' := ?_) #[true,true,true,true,true,true,true,true,false,false,false,false,false,false,false,false,false,false,false,false,false,false,false,false,false] rfl rfl (any_of HT_.out (by kernel_rfl)) (fun _ _ _ h => h) (Or.inl ⟨by rfl, ?_⟩) ?_ ?_
          rotate_left
          ·intro w'
           go_simp
           with_reducible rfl
          rotate_left
          ·simp only [Act.put,sT_,sZ_,sS_,i64_w,i32_w]
           rfl
          refine pure_ (i := 8) (N := some 85) (v := ?_) (a' := ?_) #[true,true,true,true,true,true,true,true,true,false,false,false,false,false,false,false,false,false,false,false,false,false,false,false,false] rfl rfl (any_of HT_.out (by kernel_rfl)) (fun _ _ _ h => h) (Or.inl ⟨by rfl, ?_⟩) ?_ ?_
          rotate_left
          ·intro w'
           go_simp
           with_reducible rfl
          rotate_left
          ·simp only [Act.put,sT_,sZ_,sS_,i64_w,i32_w]
           rfl
          refine pure_ (i := 10) (N := some 87) (v := ?_) (a' := ?_) #[true,true,true,true,true,true,true,true,true,false,true,false,false,false,false,false,false,false,false,false,false,false,false,false,false] rfl rfl (any_of HT_.out (by kernel_rfl)) (fun _ _ _ h => h) (Or.inl ⟨by rfl, ?_⟩) ?_ ?_
          rotate_left
          ·intro w'
           go_simp
           with_reducible rfl
          rotate_left
          ·simp only [Act.put,sT_,sZ_,sS_,i64_w,i32_w]
           rfl
          refine take_ (i := 9) (N := some 86) (v := ?_) (a' := ?_) #[true,true,true,true,true,true,true,true,true,true,true,false,false,false,false,false,false,false,false,false,false,false,false,false,false] rfl rfl (take_ofW HT_.out HW_.out (by kernel_rfl)) (fun _ _ _ h => h) (Or.inl ⟨by rfl, ?_⟩) hHeld ?_ ?_
          rotate_left
          ·intro w' s0
           go_simp
           with_reducible rfl
          rotate_left
          ·simp only [Act.put,sT_,sZ_,sS_,i64_w,i32_w]
           rfl
          refine one_ (i := 11) (N := some 88) #[true,true,true,true,true,true,true,true,true,true,true,true,false,false,false,false,false,false,false,false,false,false,false,false,false] rfl rfl (one_of HT_.out (by kernel_rfl)) (by decide) (fun K hK => ?_)
          refine goes_ Try.func18 (by kernel_rfl) rfl #[.pointer (some ⟨g,0,none⟩)] (by rfl) rfl rfl (by simp only [List.map_toArray,List.map_cons,List.map_nil];rfl) ?_
          with_reducible refine (HM8.out.lenP).mono ?_
          rintro e w9 ⟨rfl,hb⟩
          refine ⟨_,rfl, ?_⟩
          have HM9 := Aside0.mk (HM8.out.below hb)
          have HB9 := Aside0.mk (bel_trans HB8.out hb)
          clear hb
          refine hK.out _ _ ((pw_cell_below HB9.out HCX.out)) (fun hHeld => ?_)
          clear hK K
          refine norm_ (a' := ?_) ?_ ?_
          rotate_left
          ·show Act.put _ (some 88) _ = _
           simp only [Act.put,sT_,sZ_,sS_,i64_w,i32_w]
           rfl
          refine pure_ (i := 12) (N := some 89) (v := ?_) (a' := ?_) #[true,true,true,true,true,true,true,true,true,true,true,true,true,false,false,false,false,false,false,false,false,false,false,false,false] rfl rfl (any_of HT_.out (by kernel_rfl)) (fun _ _ _ h => h) (Or.inl ⟨by rfl, ?_⟩) ?_ ?_
          rotate_left
          ·intro w'
           go_simp
           with_reducible rfl
          rotate_left
          ·simp only [Act.put,sT_,sZ_,sS_,i64_w,i32_w]
           rfl
          refine pure_ (i := 13) (N := some 90) (v := ?_) (a' := ?_) #[true,true,true,true,true,true,true,true,true,true,true,true,true,true,false,false,false,false,false,false,false,false,false,false,false] rfl rfl (any_of HT_.out (by kernel_rfl)) (fun _ _ _ h => h) (Or.inl ⟨by rfl, ?_⟩) ?_ ?_
          rotate_left
          ·intro w'
           go_simp
           with_reducible rfl
          rotate_left
          ·simp only [Act.put,sT_,sZ_,sS_,i64_w,i32_w]
           rfl
          refine pure_ (i := 14) (N := some 91) (v := ?_) (a' := ?_) #[true,true,true,true,true,true,true,true,true,true,true,true,true,true,true,false,false,false,false,false,false,false,false,false,false] rfl rfl (any_of HT_.out (by kernel_rfl)) (fun _ _ _ h => h) (Or.inl ⟨by rfl, ?_⟩) ?_ ?_
          rotate_left
          ·intro w'
           go_simp
           with_reducible rfl
          rotate_left
          ·simp only [Act.put,sT_,sZ_,sS_,i64_w,i32_w]
           rfl
          refine pure_ (i := 15) (N := some 92) (v := ?_) (a' := ?_) #[true,true,true,true,true,true,true,true,true,true,true,true,true,true,true,true,false,false,false,false,false,false,false,false,false] rfl rfl (any_of HT_.out (by kernel_rfl)) (fun _ _ _ h => h) (Or.inl ⟨by rfl, ?_⟩) ?_ ?_
          rotate_left
          ·intro w'
           go_simp
           with_reducible rfl
          rotate_left
          ·simp only [Act.put,sT_,sZ_,sS_,i64_w,i32_w]
           rfl
          refine pure_ (i := 16) (N := some 93) (v := ?_) (a' := ?_) #[true,true,true,true,true,true,true,true,true,true,true,true,true,true,true,true,true,false,false,false,false,false,false,false,false] rfl rfl (any_of HT_.out (by kernel_rfl)) (fun _ _ _ h => h) (Or.inl ⟨by rfl, ?_⟩) ?_ ?_
          rotate_left
          ·intro w'
           go_simp
           with_reducible rfl
          rotate_left
          ·simp only [Act.put,sT_,sZ_,sS_,i64_w,i32_w]
           rfl
          refine pure_ (i := 17) (N := some 94) (v := ?_) (a' := ?_) #[true,true,true,true,true,true,true,true,true,true,true,true,true,true,true,true,true,true,false,false,false,false,false,false,false] rfl rfl (any_of HT_.out (by kernel_rfl)) (fun _ _ _ h => h) (Or.inl ⟨by rfl, ?_⟩) ?_ ?_
          rotate_left
          ·intro w'
           go_simp
           with_reducible rfl
          rotate_left
          ·simp only [Act.put,sT_,sZ_,sS_,i64_w,i32_w]
           rfl
          refine pure_ (i := 18) (N := some 95) (v := ?_) (a' := ?_) #[true,true,true,true,true,true,true,true,true,true,true,true,true,true,true,true,true,true,true,false,false,false,false,false,false] rfl rfl (any_of HT_.out (by kernel_rfl)) (fun _ _ _ h => h) (Or.inl ⟨by rfl, ?_⟩) ?_ ?_
          rotate_left
          ·intro w'
           go_simp
           with_reducible rfl
          rotate_left
          ·simp only [Act.put,sT_,sZ_,sS_,i64_w,i32_w]
           rfl
          refine pure_ (i := 19) (N := some 96) (v := ?_) (a' := ?_) #[true,true,true,true,true,true,true,true,true,true,true,true,true,true,true,true,true,true,true,true,false,false,false,false,false] rfl rfl (any_of HT_.out (by kernel_rfl)) (fun _ _ _ h => h) (Or.inl ⟨by rfl, ?_⟩) ?_ ?_
          rotate_left
          ·intro w'
           go_simp
           with_reducible rfl
          rotate_left
          ·simp only [Act.put,sT_,sZ_,sS_,i64_w,i32_w]
           rfl
          refine pure_ (i := 20) (N := some 97) (v := ?_) (a' := ?_) #[true,true,true,true,true,true,true,true,true,true,true,true,true,true,true,true,true,true,true,true,true,false,false,false,false] rfl rfl (any_of HT_.out (by kernel_rfl)) (fun _ _ _ h => h) (Or.inl ⟨by rfl, ?_⟩) ?_ ?_
          rotate_left
          ·intro w'
           go_simp
           with_reducible rfl
          rotate_left
          ·simp only [Act.put,sT_,sZ_,sS_,i64_w,i32_w]
           rfl
          refine take_ (i := 21) (N := some 98) (v := ?_) (a' := ?_) #[true,true,true,true,true,true,true,true,true,true,true,true,true,true,true,true,true,true,true,true,true,true,false,false,false] rfl rfl (take_ofW HT_.out HW_.out (by kernel_rfl)) (fun _ _ _ h => h) (Or.inl ⟨by rfl, ?_⟩) hHeld ?_ ?_
          rotate_left
          ·intro w' s0
           go_simp
           with_reducible rfl
          rotate_left
          ·simp only [Act.put,sT_,sZ_,sS_,i64_w,i32_w]
           rfl
          refine one_ (i := 22) (N := some 99) #[true,true,true,true,true,true,true,true,true,true,true,true,true,true,true,true,true,true,true,true,true,true,true,false,false] rfl rfl (one_of HT_.out (by kernel_rfl)) (by decide) (fun K hK => ?_)
          refine goes_ Try.func23 (by kernel_rfl) rfl #[.slice (some ad) i c3,.int .i64 x] (by rfl) rfl rfl (by simp only [List.map_toArray,List.map_cons,List.map_nil];rfl) ?_
          with_reducible refine (has_n (some ad) c3 (L.take i) i (by rw [List.length_take];have := HIL.out;omega) x _ (C_take (Kd.C_below HC7.out HB9.out) (by have := HIL.out;omega)) (by have := HL.out.1;have := HIL.out;omega) (by have := HLL.out;have := HIL.out;omega) false HBC.out).mono ?_
          rintro e w10 ⟨rfl,hb⟩
          refine ⟨_,rfl, ?_⟩
          have HB10 := Aside0.mk (bel_trans HB9.out hb)
          clear hb
          refine hK.out _ _ ((pw_cell_below HB10.out HCX.out)) (fun hHeld => ?_)
          clear hK K
          refine norm_ (a' := ?_) ?_ ?_
          rotate_left
          ·show Act.put _ (some 99) _ = _
           simp only [Act.put,sT_,sZ_,sS_,i64_w,i32_w]
           rfl
          refine pure_ (i := 23) (N := some 100) (v := ?_) (a' := ?_) #[true,true,true,true,true,true,true,true,true,true,true,true,true,true,true,true,true,true,true,true,true,true,true,true,false] rfl rfl (any_of HT_.out (by kernel_rfl)) (fun _ _ _ h => h) (Or.inl ⟨by rfl, ?_⟩) ?_ ?_
          rotate_left
          ·intro w'
           go_simp
           with_reducible rfl
          rotate_left
          ·simp only [Act.put,sT_,sZ_,sS_,i64_w,i32_w]
           rfl
          refine pure_ (i := 24) (N := some 101) (v := ?_) (a' := ?_) #[true,true,true,true,true,true,true,true,true,true,true,true,true,true,true,true,true,true,true,true,true,true,true,true,true] rfl rfl (any_of HT_.out (by kernel_rfl)) (fun _ _ _ h => h) (Or.inl ⟨by rfl, ?_⟩) ?_ ?_
          rotate_left
          ·intro w'
           go_simp
           with_reducible rfl
          rotate_left
          ·simp only [Act.put,sT_,sZ_,sS_,i64_w,i32_w]
           rfl
          refine done_ (done_of HT_.out (by kernel_rfl)) ?_
          clear hHeld
          go_wp2
          go_roundg gk
          case measure => omega
          case rel => exact ⟨i + 1,congrArg (Value.int .i64) HIN.out,(congrArg (Value.int .i64) HCW.out).trans (congrArg (fun z : Nat => Value.int .i64 (z : Int)) (by rw [count_yes HX.out HTX.out HBC.out];rw [HCN.out])),⟨by have := HI.out;have := HIL.out;omega⟩,HB10⟩
        ·have r1 : decide (x < (s.l.length : Int)) = false := decide_eq_false h1
         have HTX := Aside0.mk (show s.there x 0 = false from far_no (by omega))
         clear h0 h1
         go_wp2
         have HM8 := Aside0.mk (HMR.out.below (below_drew (Below.refl _ _)))
         have HB8 := Aside0.mk (bel_trans HBR.out (below_drew (Below.refl _ _)))
         clear HMR
         refine start_ (n := 25) (S := fun w' => w'.cell? (ad.add i) = some (.int .i64 x)) (ds := []) #[false,false,false,false,false,false,false,false,false,false,false,false,false,false,false,false,false,false,false,false,false,false,false,false,false] (by kernel_rfl) rfl rfl ((pw_cell_below HB8.out HCX.out)) (fun hHeld => ?_)
         refine with_tabW nrl.tab17 nrl.bits17 (fun HT_ HW_ => ?_)
         generalize wr.drew = wd at HM8 HB8 hHeld ⊢
         refine pure_ (i := 0) (N := some 77) (v := ?_) (a' := ?_) #[true,false,false,false,false,false,false,false,false,false,false,false,false,false,false,false,false,false,false,false,false,false,false,false,false] rfl rfl (any_of HT_.out (by kernel_rfl)) (fun _ _ _ h => h) (Or.inl ⟨by rfl, ?_⟩) ?_ ?_
         rotate_left
         ·intro w'
          go_simp
          with_reducible rfl
         rotate_left
         ·simp only [Act.put,sT_,sZ_,sS_,i64_w,i32_w]
          rfl
         refine pure_ (i := 1) (N := some 78) (v := ?_) (a' := ?_) #[true,true,false,false,false,false,false,false,false,false,false,false,false,false,false,false,false,false,false,false,false,false,false,false,false] rfl rfl (any_of HT_.out (by kernel_rfl)) (fun _ _ _ h => h) (Or.inl ⟨by rfl, ?_⟩) ?_ ?_
         rotate_left
         ·intro w'
          go_simp
          with_reducible rfl
         rotate_left
         ·simp only [Act.put,sT_,sZ_,sS_,i64_w,i32_w]
          rfl
         refine pure_ (i := 2) (N := some 79) (v := ?_) (a' := ?_) #[true,true,true,false,false,false,false,false,false,false,false,false,false,false,false,false,false,false,false,false,false,false,false,false,false] rfl rfl (any_of HT_.out (by kernel_rfl)) (fun _ _ _ h => h) (Or.inl ⟨by rfl, ?_⟩) ?_ ?_
         rotate_left
         ·intro w'
          go_simp
          with_reducible rfl
         rotate_left
         ·simp only [Act.put,sT_,sZ_,sS_,i64_w,i32_w]
          rfl
         refine take_ (i := 3) (N := some 80) (v := ?_) (a' := ?_) #[true,true,true,true,false,false,false,false,false,false,false,false,false,false,false,false,false,false,false,false,false,false,false,false,false] rfl rfl (take_ofW HT_.out HW_.out (by kernel_rfl)) (fun _ _ _ h => h) (Or.inl ⟨by rfl, ?_⟩) hHeld ?_ ?_
         rotate_left
         ·intro w' s0
          go_simp
          with_reducible rfl
         rotate_left
         ·simp only [Act.put,sT_,sZ_,sS_,i64_w,i32_w]
          rfl
         refine pure_ (i := 4) (N := some 81) (v := ?_) (a' := ?_) #[true,true,true,true,true,false,false,false,false,false,false,false,false,false,false,false,false,false,false,false,false,false,false,false,false] rfl rfl (any_of HT_.out (by kernel_rfl)) (fun _ _ _ h => h) (Or.inl ⟨by rfl, ?_⟩) ?_ ?_
         rotate_left
         ·intro w'
          go_simp
          with_reducible rfl
         rotate_left
         ·simp only [Act.put,sT_,sZ_,sS_,i64_w,i32_w]
          rfl
         refine pure_ (i := 5) (N := some 82) (v := ?_) (a' := ?_) #[true,true,true,true,true,true,false,false,false,false,false,false,false,false,false,false,false,false,false,false,false,false,false,false,false] rfl rfl (any_of HT_.out (by kernel_rfl)) (fun _ _ _ h => h) (Or.inl ⟨by rfl, ?_⟩) ?_ ?_
         rotate_left
         ·intro w'
          go_simp
          with_reducible rfl
         rotate_left
         ·simp only [Act.put,sT_,sZ_,sS_,i64_w,i32_w]
          rfl
         refine pure_ (i := 6) (N := some 83) (v := ?_) (a' := ?_) #[true,true,true,true,true,true,true,false,false,false,false,false,false,false,false,false,false,false,false,false,false,false,false,false,false] rfl rfl (any_of HT_.out (by kernel_rfl)) (fun _ _ _ h => h) (Or.inl ⟨by rfl, ?_⟩) ?_ ?_
         rotate_left
         ·intro w'
          go_simp
          with_reducible rfl
         rotate_left
         ·simp only [Act.put,sT_,sZ_,sS_,i64_w,i32_w]
          rfl
         refine pure_ (i := 7) (N := some 84) (v := ?_) (a' := ?_) #[true,true,true,true,true,true,true,true,false,false,false,false,false,false,false,false,false,false,false,false,false,false,false,false,false] rfl rfl (any_of HT_.out (by kernel_rfl)) (fun _ _ _ h => h) (Or.inl ⟨by rfl, ?_⟩) ?_ ?_
         rotate_left
         ·intro w'
          go_simp
          with_reducible rfl
         rotate_left
         ·simp only [Act.put,sT_,sZ_,sS_,i64_w,i32_w]
          rfl
         refine pure_ (i := 8) (N := some 85) (v := ?_) (a' := ?_) #[true,true,true,true,true,true,true,true,true,false,false,false,false,false,false,false,false,false,false,false,false,false,false,false,false] rfl rfl (any_of HT_.out (by kernel_rfl)) (fun _ _ _ h => h) (Or.inl ⟨by rfl, ?_⟩) ?_ ?_
         rotate_left
         ·intro w'
          go_simp
          with_reducible rfl
         rotate_left
         ·simp only [Act.put,sT_,sZ_,sS_,i64_w,i32_w]
          rfl
         refine pure_ (i := 10) (N := some 87) (v := ?_) (a' := ?_) #[true,true,true,true,true,true,true,true,true,false,true,false,false,false,false,false,false,false,false,false,false,false,false,false,false] rfl rfl (any_of HT_.out (by kernel_rfl)) (fun _ _ _ h => h) (Or.inl ⟨by rfl, ?_⟩) ?_ ?_
         rotate_left
         ·intro w'
          go_simp
          with_reducible rfl
         rotate_left
         ·simp only [Act.put,sT_,sZ_,sS_,i64_w,i32_w]
          rfl
         refine take_ (i := 9) (N := some 86) (v := ?_) (a' := ?_) #[true,true,true,true,true,true,true,true,true,true,true,false,false,false,false,false,false,false,false,false,false,false,false,false,false] rfl rfl (take_ofW HT_.out HW_.out (by kernel_rfl)) (fun _ _ _ h => h) (Or.inl ⟨by rfl, ?_⟩) hHeld ?_ ?_
         rotate_left
         ·intro w' s0
          go_simp
          with_reducible rfl
         rotate_left
         ·simp only [Act.put,sT_,sZ_,sS_,i64_w,i32_w]
          rfl
         refine one_ (i := 11) (N := some 88) #[true,true,true,true,true,true,true,true,true,true,true,true,false,false,false,false,false,false,false,false,false,false,false,false,false] rfl rfl (one_of HT_.out (by kernel_rfl)) (by decide) (fun K hK => ?_)
         refine goes_ Try.func18 (by kernel_rfl) rfl #[.pointer (some ⟨g,0,none⟩)] (by rfl) rfl rfl (by simp only [List.map_toArray,List.map_cons,List.map_nil];rfl) ?_
         with_reducible refine (HM8.out.lenP).mono ?_
         rintro e w9 ⟨rfl,hb⟩
         refine ⟨_,rfl, ?_⟩
         have HM9 := Aside0.mk (HM8.out.below hb)
         have HB9 := Aside0.mk (bel_trans HB8.out hb)
         clear hb
         refine hK.out _ _ ((pw_cell_below HB9.out HCX.out)) (fun hHeld => ?_)
         clear hK K
         refine norm_ (a' := ?_) ?_ ?_
         rotate_left
         ·show Act.put _ (some 88) _ = _
          simp only [Act.put,sT_,sZ_,sS_,i64_w,i32_w]
          rfl
         refine pure_ (i := 12) (N := some 89) (v := ?_) (a' := ?_) #[true,true,true,true,true,true,true,true,true,true,true,true,true,false,false,false,false,false,false,false,false,false,false,false,false] rfl rfl (any_of HT_.out (by kernel_rfl)) (fun _ _ _ h => h) (Or.inl ⟨by rfl, ?_⟩) ?_ ?_
         rotate_left
         ·intro w'
          go_simp
          with_reducible rfl
         rotate_left
         ·simp only [Act.put,sT_,sZ_,sS_,i64_w,i32_w]
          rfl
         refine pure_ (i := 13) (N := some 90) (v := ?_) (a' := ?_) #[true,true,true,true,true,true,true,true,true,true,true,true,true,true,false,false,false,false,false,false,false,false,false,false,false] rfl rfl (any_of HT_.out (by kernel_rfl)) (fun _ _ _ h => h) (Or.inl ⟨by rfl, ?_⟩) ?_ ?_
         rotate_left
         ·intro w'
          go_simp
          with_reducible rfl
         rotate_left
         ·simp only [Act.put,sT_,sZ_,sS_,i64_w,i32_w]
          rfl
         refine pure_ (i := 14) (N := some 91) (v := ?_) (a' := ?_) #[true,true,true,true,true,true,true,true,true,true,true,true,true,true,true,false,false,false,false,false,false,false,false,false,false] rfl rfl (any_of HT_.out (by kernel_rfl)) (fun _ _ _ h => h) (Or.inl ⟨by rfl, ?_⟩) ?_ ?_
         rotate_left
         ·intro w'
          go_simp
          with_reducible rfl
         rotate_left
         ·simp only [Act.put,sT_,sZ_,sS_,i64_w,i32_w]
          rfl
         refine pure_ (i := 15) (N := some 92) (v := undef) (a' := ?_) #[true,true,true,true,true,true,true,true,true,true,true,true,true,true,true,true,false,false,false,false,false,false,false,false,false] rfl rfl (any_of HT_.out (by kernel_rfl)) (fun _ _ _ h => h) (Or.inr ⟨by rfl,rfl⟩) ?_ ?_
         rotate_left
         ·simp only [Act.put,sT_,sZ_,sS_,i64_w,i32_w]
          rfl
         refine pure_ (i := 16) (N := some 93) (v := undef) (a' := ?_) #[true,true,true,true,true,true,true,true,true,true,true,true,true,true,true,true,true,false,false,false,false,false,false,false,false] rfl rfl (any_of HT_.out (by kernel_rfl)) (fun _ _ _ h => h) (Or.inr ⟨by rfl,rfl⟩) ?_ ?_
         rotate_left
         ·simp only [Act.put,sT_,sZ_,sS_,i64_w,i32_w]
          rfl
         refine pure_ (i := 17) (N := some 94) (v := undef) (a' := ?_) #[true,true,true,true,true,true,true,true,true,true,true,true,true,true,true,true,true,true,false,false,false,false,false,false,false] rfl rfl (any_of HT_.out (by kernel_rfl)) (fun _ _ _ h => h) (Or.inr ⟨by rfl,rfl⟩) ?_ ?_
         rotate_left
         ·simp only [Act.put,sT_,sZ_,sS_,i64_w,i32_w]
          rfl
         refine pure_ (i := 18) (N := some 95) (v := undef) (a' := ?_) #[true,true,true,true,true,true,true,true,true,true,true,true,true,true,true,true,true,true,true,false,false,false,false,false,false] rfl rfl (any_of HT_.out (by kernel_rfl)) (fun _ _ _ h => h) (Or.inr ⟨by rfl,rfl⟩) ?_ ?_
         rotate_left
         ·simp only [Act.put,sT_,sZ_,sS_,i64_w,i32_w]
          rfl
         refine pure_ (i := 19) (N := some 96) (v := undef) (a' := ?_) #[true,true,true,true,true,true,true,true,true,true,true,true,true,true,true,true,true,true,true,true,false,false,false,false,false] rfl rfl (any_of HT_.out (by kernel_rfl)) (fun _ _ _ h => h) (Or.inr ⟨by rfl,rfl⟩) ?_ ?_
         rotate_left
         ·simp only [Act.put,sT_,sZ_,sS_,i64_w,i32_w]
          rfl
         refine pure_ (i := 20) (N := some 97) (v := undef) (a' := ?_) #[true,true,true,true,true,true,true,true,true,true,true,true,true,true,true,true,true,true,true,true,true,false,false,false,false] rfl rfl (any_of HT_.out (by kernel_rfl)) (fun _ _ _ h => h) (Or.inr ⟨by rfl,rfl⟩) ?_ ?_
         rotate_left
         ·simp only [Act.put,sT_,sZ_,sS_,i64_w,i32_w]
          rfl
         refine pure_ (i := 21) (N := some 98) (v := undef) (a' := ?_) #[true,true,true,true,true,true,true,true,true,true,true,true,true,true,true,true,true,true,true,true,true,true,false,false,false] rfl rfl (any_of HT_.out (by kernel_rfl)) (fun _ _ _ h => h) (Or.inr ⟨by rfl,rfl⟩) ?_ ?_
         rotate_left
         ·simp only [Act.put,sT_,sZ_,sS_,i64_w,i32_w]
          rfl
         refine pure_ (i := 22) (N := some 99) (v := undef) (a' := ?_) #[true,true,true,true,true,true,true,true,true,true,true,true,true,true,true,true,true,true,true,true,true,true,true,false,false] rfl rfl (any_of HT_.out (by kernel_rfl)) (fun _ _ _ h => h) (Or.inr ⟨by rfl,rfl⟩) ?_ ?_
         rotate_left
         ·simp only [Act.put,sT_,sZ_,sS_,i64_w,i32_w]
          rfl
         refine pure_ (i := 23) (N := some 100) (v := undef) (a' := ?_) #[true,true,true,true,true,true,true,true,true,true,true,true,true,true,true,true,true,true,true,true,true,true,true,true,false] rfl rfl (any_of HT_.out (by kernel_rfl)) (fun _ _ _ h => h) (Or.inr ⟨by rfl,rfl⟩) ?_ ?_
         rotate_left
         ·simp only [Act.put,sT_,sZ_,sS_,i64_w,i32_w]
          rfl
         refine pure_ (i := 24) (N := some 101) (v := ?_) (a' := ?_) #[true,true,true,true,true,true,true,true,true,true,true,true,true,true,true,true,true,true,true,true,true,true,true,true,true] rfl rfl (any_of HT_.out (by kernel_rfl)) (fun _ _ _ h => h) (Or.inl ⟨by rfl, ?_⟩) ?_ ?_
         rotate_left
         ·intro w'
          go_simp
          with_reducible rfl
         rotate_left
         ·simp only [Act.put,sT_,sZ_,sS_,i64_w,i32_w]
          rfl
         refine done_ (done_of HT_.out (by kernel_rfl)) ?_
         clear hHeld
         go_wp2
         go_roundg gk
         case measure => omega
         case rel => exact ⟨i + 1,congrArg (Value.int .i64) HIN.out,congrArg (fun z : Nat => Value.int .i64 (z : Int)) (by rw [count_no HX.out (.inl HTX.out)];exact HCN.out.symm),⟨by have := HI.out;have := HIL.out;omega⟩,HB9⟩
       ·have r0 : decide (0 ≤ x) = false := decide_eq_false h0
        have HTX := Aside0.mk (show s.there x 0 = false from far_no (by omega))
        clear h0
        go_wp2
        have HM8 := Aside0.mk (HMR.out.below (below_drew (Below.refl _ _)))
        have HB8 := Aside0.mk (bel_trans HBR.out (below_drew (Below.refl _ _)))
        clear HMR
        refine start_ (n := 25) (S := fun w' => w'.cell? (ad.add i) = some (.int .i64 x)) (ds := []) #[false,false,false,false,false,false,false,false,false,false,false,false,false,false,false,false,false,false,false,false,false,false,false,false,false] (by kernel_rfl) rfl rfl ((pw_cell_below HB8.out HCX.out)) (fun hHeld => ?_)
        refine with_tabW nrl.tab17 nrl.bits17 (fun HT_ HW_ => ?_)
        generalize wr.drew = wd at HM8 HB8 hHeld ⊢
        refine pure_ (i := 0) (N := some 77) (v := ?_) (a' := ?_) #[true,false,false,false,false,false,false,false,false,false,false,false,false,false,false,false,false,false,false,false,false,false,false,false,false] rfl rfl (any_of HT_.out (by kernel_rfl)) (fun _ _ _ h => h) (Or.inl ⟨by rfl, ?_⟩) ?_ ?_
        rotate_left
        ·intro w'
         go_simp
         with_reducible rfl
        rotate_left
        ·simp only [Act.put,sT_,sZ_,sS_,i64_w,i32_w]
         rfl
        refine pure_ (i := 1) (N := some 78) (v := ?_) (a' := ?_) #[true,true,false,false,false,false,false,false,false,false,false,false,false,false,false,false,false,false,false,false,false,false,false,false,false] rfl rfl (any_of HT_.out (by kernel_rfl)) (fun _ _ _ h => h) (Or.inl ⟨by rfl, ?_⟩) ?_ ?_
        rotate_left
        ·intro w'
         go_simp
         with_reducible rfl
        rotate_left
        ·simp only [Act.put,sT_,sZ_,sS_,i64_w,i32_w]
         rfl
        refine pure_ (i := 2) (N := some 79) (v := ?_) (a' := ?_) #[true,true,true,false,false,false,false,false,false,false,false,false,false,false,false,false,false,false,false,false,false,false,false,false,false] rfl rfl (any_of HT_.out (by kernel_rfl)) (fun _ _ _ h => h) (Or.inl ⟨by rfl, ?_⟩) ?_ ?_
        rotate_left
        ·intro w'
         go_simp
         with_reducible rfl
        rotate_left
        ·simp only [Act.put,sT_,sZ_,sS_,i64_w,i32_w]
         rfl
        refine take_ (i := 3) (N := some 80) (v := ?_) (a' := ?_) #[true,true,true,true,false,false,false,false,false,false,false,false,false,false,false,false,false,false,false,false,false,false,false,false,false] rfl rfl (take_ofW HT_.out HW_.out (by kernel_rfl)) (fun _ _ _ h => h) (Or.inl ⟨by rfl, ?_⟩) hHeld ?_ ?_
        rotate_left
        ·intro w' s0
         go_simp
         with_reducible rfl
        rotate_left
        ·simp only [Act.put,sT_,sZ_,sS_,i64_w,i32_w]
         rfl
        refine pure_ (i := 4) (N := some 81) (v := ?_) (a' := ?_) #[true,true,true,true,true,false,false,false,false,false,false,false,false,false,false,false,false,false,false,false,false,false,false,false,false] rfl rfl (any_of HT_.out (by kernel_rfl)) (fun _ _ _ h => h) (Or.inl ⟨by rfl, ?_⟩) ?_ ?_
        rotate_left
        ·intro w'
         go_simp
         with_reducible rfl
        rotate_left
        ·simp only [Act.put,sT_,sZ_,sS_,i64_w,i32_w]
         rfl
        refine pure_ (i := 5) (N := some 82) (v := ?_) (a' := ?_) #[true,true,true,true,true,true,false,false,false,false,false,false,false,false,false,false,false,false,false,false,false,false,false,false,false] rfl rfl (any_of HT_.out (by kernel_rfl)) (fun _ _ _ h => h) (Or.inl ⟨by rfl, ?_⟩) ?_ ?_
        rotate_left
        ·intro w'
         go_simp
         with_reducible rfl
        rotate_left
        ·simp only [Act.put,sT_,sZ_,sS_,i64_w,i32_w]
         rfl
        refine pure_ (i := 6) (N := some 83) (v := undef) (a' := ?_) #[true,true,true,true,true,true,true,false,false,false,false,false,false,false,false,false,false,false,false,false,false,false,false,false,false] rfl rfl (any_of HT_.out (by kernel_rfl)) (fun _ _ _ h => h) (Or.inr ⟨by rfl,rfl⟩) ?_ ?_
        rotate_left
        ·simp only [Act.put,sT_,sZ_,sS_,i64_w,i32_w]
         rfl
        refine pure_ (i := 7) (N := some 84) (v := undef) (a' := ?_) #[true,true,true,true,true,true,true,true,false,false,false,false,false,false,false,false,false,false,false,false,false,false,false,false,false] rfl rfl (any_of HT_.out (by kernel_rfl)) (fun _ _ _ h => h) (Or.inr ⟨by rfl,rfl⟩) ?_ ?_
        rotate_left
        ·simp only [Act.put,sT_,sZ_,sS_,i64_w,i32_w]
         rfl
        refine pure_ (i := 8) (N := some 85) (v := undef) (a' := ?_) #[true,true,true,true,true,true,true,true,true,false,false,false,false,false,false,false,false,false,false,false,false,false,false,false,false] rfl rfl (any_of HT_.out (by kernel_rfl)) (fun _ _ _ h => h) (Or.inr ⟨by rfl,rfl⟩) ?_ ?_
        rotate_left
        ·simp only [Act.put,sT_,sZ_,sS_,i64_w,i32_w]
         rfl
        refine pure_ (i := 9) (N := some 86) (v := undef) (a' := ?_) #[true,true,true,true,true,true,true,true,true,true,false,false,false,false,false,false,false,false,false,false,false,false,false,false,false] rfl rfl (any_of HT_.out (by kernel_rfl)) (fun _ _ _ h => h) (Or.inr ⟨by rfl,rfl⟩) ?_ ?_
        rotate_left
        ·simp only [Act.put,sT_,sZ_,sS_,i64_w,i32_w]
         rfl
        refine pure_ (i := 10) (N := some 87) (v := undef) (a' := ?_) #[true,true,true,true,true,true,true,true,true,true,true,false,false,false,false,false,false,false,false,false,false,false,false,false,false] rfl rfl (any_of HT_.out (by kernel_rfl)) (fun _ _ _ h => h) (Or.inr ⟨by rfl,rfl⟩) ?_ ?_
        rotate_left
        ·simp only [Act.put,sT_,sZ_,sS_,i64_w,i32_w]
         rfl
        refine pure_ (i := 11) (N := some 88) (v := undef) (a' := ?_) #[true,true,true,true,true,true,true,true,true,true,true,true,false,false,false,false,false,false,false,false,false,false,false,false,false] rfl rfl (any_of HT_.out (by kernel_rfl)) (fun _ _ _ h => h) (Or.inr ⟨by rfl,rfl⟩) ?_ ?_
        rotate_left
        ·simp only [Act.put,sT_,sZ_,sS_,i64_w,i32_w]
         rfl
        refine pure_ (i := 12) (N := some 89) (v := undef) (a' := ?_) #[true,true,true,true,true,true,true,true,true,true,true,true,true,false,false,false,false,false,false,false,false,false,false,false,false] rfl rfl (any_of HT_.out (by kernel_rfl)) (fun _ _ _ h => h) (Or.inr ⟨by rfl,rfl⟩) ?_ ?_
        rotate_left
        ·simp only [Act.put,sT_,sZ_,sS_,i64_w,i32_w]
         rfl
        refine pure_ (i := 13) (N := some 90) (v := ?_) (a' := ?_) #[true,true,true,true,true,true,true,true,true,true,true,true,true,true,false,false,false,false,false,false,false,false,false,false,false] rfl rfl (any_of HT_.out (by kernel_rfl)) (fun _ _ _ h => h) (Or.inl ⟨by rfl, ?_⟩) ?_ ?_
        rotate_left
        ·intro w'
         go_simp
         with_reducible rfl
        rotate_left
        ·simp only [Act.put,sT_,sZ_,sS_,i64_w,i32_w]
         rfl
        refine pure_ (i := 14) (N := some 91) (v := ?_) (a' := ?_) #[true,true,true,true,true,true,true,true,true,true,true,true,true,true,true,false,false,false,false,false,false,false,false,false,false] rfl rfl (any_of HT_.out (by kernel_rfl)) (fun _ _ _ h => h) (Or.inl ⟨by rfl, ?_⟩) ?_ ?_
        rotate_left
        ·intro w'
         go_simp
         with_reducible rfl
        rotate_left
        ·simp only [Act.put,sT_,sZ_,sS_,i64_w,i32_w]
         rfl
        refine pure_ (i := 15) (N := some 92) (v := undef) (a' := ?_) #[true,true,true,true,true,true,true,true,true,true,true,true,true,true,true,true,false,false,false,false,false,false,false,false,false] rfl rfl (any_of HT_.out (by kernel_rfl)) (fun _ _ _ h => h) (Or.inr ⟨by rfl,rfl⟩) ?_ ?_
        rotate_left
        ·simp only [Act.put,sT_,sZ_,sS_,i64_w,i32_w]
         rfl
        refine pure_ (i := 16) (N := some 93) (v := undef) (a' := ?_) #[true,true,true,true,true,true,true,true,true,true,true,true,true,true,true,true,true,false,false,false,false,false,false,false,false] rfl rfl (any_of HT_.out (by kernel_rfl)) (fun _ _ _ h => h) (Or.inr ⟨by rfl,rfl⟩) ?_ ?_
        rotate_left
        ·simp only [Act.put,sT_,sZ_,sS_,i64_w,i32_w]
         rfl
        refine pure_ (i := 17) (N := some 94) (v := undef) (a' := ?_) #[true,true,true,true,true,true,true,true,true,true,true,true,true,true,true,true,true,true,false,false,false,false,false,false,false] rfl rfl (any_of HT_.out (by kernel_rfl)) (fun _ _ _ h => h) (Or.inr ⟨by rfl,rfl⟩) ?_ ?_
        rotate_left
        ·simp only [Act.put,sT_,sZ_,sS_,i64_w,i32_w]
         rfl
        refine pure_ (i := 18) (N := some 95) (v := undef) (a' := ?_) #[true,true,true,true,true,true,true,true,true,true,true,true,true,true,true,true,true,true,true,false,false,false,false,false,false] rfl rfl (any_of HT_.out (by kernel_rfl)) (fun _ _ _ h => h) (Or.inr ⟨by rfl,rfl⟩) ?_ ?_
        rotate_left
        ·simp only [Act.put,sT_,sZ_,sS_,i64_w,i32_w]
         rfl
        refine pure_ (i := 19) (N := some 96) (v := undef) (a' := ?_) #[true,true,true,true,true,true,true,true,true,true,true,true,true,true,true,true,true,true,true,true,false,false,false,false,false] rfl rfl (any_of HT_.out (by kernel_rfl)) (fun _ _ _ h => h) (Or.inr ⟨by rfl,rfl⟩) ?_ ?_
        rotate_left
        ·simp only [Act.put,sT_,sZ_,sS_,i64_w,i32_w]
         rfl
        refine pure_ (i := 20) (N := some 97) (v := undef) (a' := ?_) #[true,true,true,true,true,true,true,true,true,true,true,true,true,true,true,true,true,true,true,true,true,false,false,false,false] rfl rfl (any_of HT_.out (by kernel_rfl)) (fun _ _ _ h => h) (Or.inr ⟨by rfl,rfl⟩) ?_ ?_
        rotate_left
        ·simp only [Act.put,sT_,sZ_,sS_,i64_w,i32_w]
         rfl
        refine pure_ (i := 21) (N := some 98) (v := undef) (a' := ?_) #[true,true,true,true,true,true,true,true,true,true,true,true,true,true,true,true,true,true,true,true,true,true,false,false,false] rfl rfl (any_of HT_.out (by kernel_rfl)) (fun _ _ _ h => h) (Or.inr ⟨by rfl,rfl⟩) ?_ ?_
        rotate_left
        ·simp only [Act.put,sT_,sZ_,sS_,i64_w,i32_w]
         rfl
        refine pure_ (i := 22) (N := some 99) (v := undef) (a' := ?_) #[true,true,true,true,true,true,true,true,true,true,true,true,true,true,true,true,true,true,true,true,true,true,true,false,false] rfl rfl (any_of HT_.out (by kernel_rfl)) (fun _ _ _ h => h) (Or.inr ⟨by rfl,rfl⟩) ?_ ?_
        rotate_left
        ·simp only [Act.put,sT_,sZ_,sS_,i64_w,i32_w]
         rfl
        refine pure_ (i := 23) (N := some 100) (v := undef) (a' := ?_) #[true,true,true,true,true,true,true,true,true,true,true,true,true,true,true,true,true,true,true,true,true,true,true,true,false] rfl rfl (any_of HT_.out (by kernel_rfl)) (fun _ _ _ h => h) (Or.inr ⟨by rfl,rfl⟩) ?_ ?_
        rotate_left
        ·simp only [Act.put,sT_,sZ_,sS_,i64_w,i32_w]
         rfl
        refine pure_ (i := 24) (N := some 101) (v := ?_) (a' := ?_) #[true,true,true,true,true,true,true,true,true,true,true,true,true,true,true,true,true,true,true,true,true,true,true,true,true] rfl rfl (any_of HT_.out (by kernel_rfl)) (fun _ _ _ h => h) (Or.inl ⟨by rfl, ?_⟩) ?_ ?_
        rotate_left
        ·intro w'
         go_simp
         with_reducible rfl
        rotate_left
        ·simp only [Act.put,sT_,sZ_,sS_,i64_w,i32_w]
         rfl
        refine done_ (done_of HT_.out (by kernel_rfl)) ?_
        clear hHeld
        go_wp2
        go_roundg gk
        case measure => omega
        case rel => exact ⟨i + 1,congrArg (Value.int .i64) HIN.out,congrArg (fun z : Nat => Value.int .i64 (z : Int)) (by rw [count_no HX.out (.inl HTX.out)];exact HCN.out.symm),⟨by have := HI.out;have := HIL.out;omega⟩,HB8⟩
      ·have q1 : decide ((i : Int) < (L.length : Int)) = false := decide_eq_false (by omega)
       have q1' : (i < L.length) = False := eq_false hi
       have q1'' : decide (i < L.length) = false := decide_eq_false hi
       obtain rfl : L.length = i := by have := HI.out;omega
       have HEQ := Aside0.mk (show N.length = cn by rw [HNL.out,← HCN.out,List.take_length])
       clear hi
       rw [← HEQ.out]
       go_wp2
       go_ret
       exact ⟨by simp,(HM7.out.below HBR.out).at0⟩
  ·have q4 : decide ((100 : Int) < (q.length : Int)) = true := decide_eq_true (by omega)
   have q4' : decide (100 < q.length) = true := decide_eq_true (by omega)
   clear h100
   go_enter Try.func5,Try.ntmps5
   go_wp2_with (first | (go_at_call 10;(with_reducible refine (alive_calls _).mono ?_);rintro e w1 ⟨rfl,hb⟩;have HB1 := Aside0.mk hb;clear hb))
   go_ret
   exact ⟨rfl,HB1.out⟩
 ·have p4 : decide ((200 : Int) < (L.length : Int)) = true := decide_eq_true (by omega)
  have p4' : decide (200 < L.length) = true := decide_eq_true (by omega)
  clear h200 q100
  go_enter Try.func5,Try.ntmps5
  go_wp2_with (first | (go_at_call 10;(with_reducible refine (alive_calls _).mono ?_);rintro e w1 ⟨rfl,hb⟩;have HB1 := Aside0.mk hb;clear hb))
  go_ret
  exact ⟨rfl,HB1.out⟩
theorem near_row (m : Int) (hm : (Lit.int .u8 m).wf = true) (v1 : Value) (s1 : v1 = .slice none 0 0 ∨ ∃ a n c,v1 = .slice (some a) n c) (x1 : List OpL) {W : World} (K1 : (Kd.slice 89 kopL).K W x1 v1.cells.toList) (o1 : okOpsL x1) (v2 : Value) (s2 : v2 = .slice none 0 0 ∨ ∃ a n c,v2 = .slice (some a) n c) (x2 : List Int) (K2 : kvec.K W x2 v2.cells.toList) (o2 : okVec x2) (v3 : Value) (s3 : v3 = .slice none 0 0 ∨ ∃ a n c,v3 = .slice (some a) n c) (x3 : List Int) (K3 : kints.K W x3 v3.cells.toList) (o3 : okInts x3) (_ : World) :
  Calls Try.prog 5 #[.int .u8 m,v1,v2,v3] W fun e w' => e = .returned (.bool true) ∧ Below W.heap.size W w' := by
 obtain ⟨A,c,rfl,g1,g2⟩ := slice_of s1 K1
 obtain ⟨A2,c2,rfl,g3,g4⟩ := slice_of s2 K2
 obtain ⟨A3,c3,rfl,g5,g6⟩ := slice_of s3 K3
 exact linksNear_walk m hm A c x1 A2 c2 x2 A3 c3 x3 W g2 o1 g3 g4 g5 g6
end Go.Proofs.Ytofmlajanopniaa.Li
