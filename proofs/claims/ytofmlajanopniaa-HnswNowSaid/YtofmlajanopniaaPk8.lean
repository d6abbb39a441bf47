/- Texts of this claim,one behind the other: words,walks,plain laws. No condition. -/
import Derived.Test.YtofmlajanopniaaPk1
import Derived.Test.YtofmlajanopniaaPk7
set_option linter.unusedVariables false
set_option linter.unusedSimpArgs false
namespace Go.Proofs.Ytofmlajanopniaa.Li
open Go.RowKit Go.Maps Go.Proofs.YtofmlajanopniaaW.PrintWords Go.Proofs.YtofmlajanopniaaW.PrintLast Go.Proofs.YtofmlajanopniaaW.PrintMore Go.Proofs.Ytofmlajanopniaa.Q Go.Proofs.Ytofmlajanopniaa.Tk
def now.T13 : Bool × List (List Nat × List Nat) := (true,[([],[]),([],[]),([],[]),([1,2],[1,2]),([3],[3]),([4],[4]),([],[]),([],[]),([6,7],[6,7]),([8],[8]),([9],[9]),([],[]),([0,5,10,11],[0,5,10,11])])
def now.B13 : List Nat := [0,0,0,6,14,30,0,0,192,448,960,0,4095]
theorem now.tab13 : rtab .any (opsOf Try.f9 13) = now.T13 := by kernel_rfl
theorem now.bits13 : waitsOk now.T13.2 now.B13 = true := by kernel_rfl
def now.T18 : Bool × List (List Nat × List Nat) := (true,[([],[]),([],[]),([0,1],[0,1]),([2],[2]),([],[]),([3,4],[3,4]),([],[]),([],[]),([6,7],[6,7]),([8],[8]),([9],[9]),([10],[10]),([5,11],[5,11])])
def now.B18 : List Nat := [0,0,3,7,0,31,0,0,192,448,960,1984,4095]
theorem now.tab18 : rtab .any (opsOf Try.f9 18) = now.T18 := by kernel_rfl
theorem now.bits18 : waitsOk now.T18.2 now.B18 = true := by kernel_rfl
def now.T23 : Bool × List (List Nat × List Nat) := (true,[([],[]),([],[]),([0,1],[0,1]),([2],[2]),([3],[3]),([4],[4]),([],[]),([],[]),([6,7],[6,7]),([8],[8]),([9],[9]),([10],[10]),([5,11],[5,11]),([12],[12]),([13],[13]),([13],[13]),([14,15,13],[13,14,15]),([16,13],[13,16]),([17,13],[13,17]),([18,13],[13,18]),([13,19],[13,19]),([20,13],[20]),([21],[21]),([21],[21]),([22,23,21],[21,22,23]),([24,21],[21,24]),([25,21],[21,25]),([26,21],[21,26]),([21,27],[21,27])])
def now.B23 : List Nat := [0,0,3,7,15,31,0,0,192,448,960,1984,4095,8191,16383,16383,65535,131071,262143,524287,1048575,2097151,4194303,4194303,16777215,33554431,67108863,134217727,268435455]
theorem now.tab23 : rtab .any (opsOf Try.f9 23) = now.T23 := by kernel_rfl
theorem now.bits23 : waitsOk now.T23.2 now.B23 = true := by kernel_rfl
set_option maxHeartbeats 64000000 in
set_option maxRecDepth 100000 in
theorem hnswNow_walk (A : Option Addr) (c : Nat) (l : List OpH) (w : World) (hC : Kd.C kopH w A l.length l) (hok : okOpsH l) :
  Calls Try.prog 9 #[.slice A l.length c] w fun e w' => e = .returned (.bool true) ∧ Below w.heap.size w w' := by
 have hu := Try.underlying71
 have hu2 := Try.underlying37
 have hu3 := Try.underlying26
 have hu4 := Try.underlying68
 have HC := Aside0.mk hC
 have HOK := Aside0.mk hok
 clear hC hok
 go_enter Try.func9,Try.ntmps9
 go_wp2_with (first | (go_at_call 24;(with_reducible refine (alive12_calls _).mono ?_);rintro e w1 ⟨rfl,hb⟩;have HB1 := Aside0.mk hb;clear hb) | (have := HB1;go_at_call 25;(with_reducible refine (hnew_calls 0 3 8 _).mono ?_);rintro e w2 ⟨rfl,hw2⟩;have HP2 : Aside0 (PX (fun _ => False) w w2 (w1.heap.size + 2) ⟨⟨0,[]⟩,lkN 3,wdN 8, -1⟩ 0) := ⟨by rw [hw2];exact PX.new HB1.out 0 (lkN 3) (wdN 8)⟩;clear hw2))
 obtain ⟨b,hb⟩ : ∃ z,w1.heap.size + 2 = z := ⟨_,rfl⟩
 rw [hb] at HP2
 (try rw [hb])
 clear hb
 go_loopg [4,5] 60 (fun gk v4 v5 wr => ∃ (i : Nat) (x : Ix),v5 = .int .i64 i ∧ v4 = .int .u64 ((i : Int) + 1) ∧ Aside0 (i ≤ 60 ∧ 60 - i ≤ gk) ∧ Aside0 (PX (fun _ => False) w wr b x i) ∧ Aside0 (IxOk x i ∧ VerOk x.g ((i : Int) + 1)))
 case atStart => exact ⟨0,_,rfl,rfl,⟨by omega,by omega⟩,HP2,⟨new_ok (Int.le_refl 0) 3 8,fun nd hnd => by cases hnd⟩⟩
 case round =>
  clear HP2 HB1
  obtain ⟨i,x,rfl,rfl,HI,HP,HX⟩ := hrel
  by_cases hi : i < l.length ∧ i < 60
  ·have q1 : decide ((i : Int) < (l.length : Int)) = true := decide_eq_true (by omega)
   have q1' : (i : Int) < (l.length : Int) := by omega
   have q2 : decide ((i : Int) < (60 : Int)) = true := decide_eq_true (by omega)
   have q2' : decide (i < 60) = true := decide_eq_true hi.2
   have HIL := Aside0.mk hi
   have HIN := Aside0.mk (show wrap64 ((i : Int) + 1) = ((i + 1 : Nat) : Int) by unfold wrap64;omega)
   have hv1 : IntKind.u64.wrap ((i : Int) + 1 + 1) = (i : Int) + 1 + 1 := by unfold IntKind.wrap;simp only [IntKind.bits,IntKind.signed,Bool.false_and,Bool.false_eq_true,if_false];omega
   obtain ⟨gk,rfl⟩ : ∃ m,gk = m + 1 := ⟨gk - 1,by have := HI.out;omega⟩
   obtain ⟨ad,y,A1,c1,A2,c2,F0,d0,F1,d1,F2,d2,A3,c3,rfl,hy,hO⟩ := opHAt HC.out hi.1
   have HO := Aside0.mk hO
   have HYK := Aside0.mk (HOK.out.2 y (List.mem_of_getElem? hy))
   have HPA := Aside0.mk HP.out.at0
   obtain ⟨y0,y1,y2,y3,y4,y5,y6,y7,y8,y9,y10,y11,y12, -⟩ := hO.below HPA.out
   clear hi hy hO
   go_upto_if 26 with (go_at_call 26;(with_reducible refine (great12_calls y A1 c1 A2 c2 F0 d0 F1 d1 F2 d2 A3 c3 _ (HO.out.ls.below HPA.out)).mono ?_);rintro e w3 ⟨⟨r,rfl,hr⟩,hb⟩;have HP3 := Aside0.mk (HP.out.below hb);have HR := Aside0.mk hr;clear hb hr)
   cases r with
   | true =>
    clear y0 y1 y2 y3 y4 y5 y6 y7 y8 y9 y10 y11 y12
    go_wp2
    go_ret
    exact ⟨rfl,HP3.out.at0⟩
   | false =>
    have HF := Aside0.mk (HR.out rfl)
    have HPA3 := Aside0.mk HP3.out.at0
    clear y0 y1 y2 y3 y4 y5 y6 y7 y8 y9 y10 y11 y12 HP HPA
    obtain ⟨y0,y1,y2,y3,y4, -, -, -, -, -, -, -, -, -⟩ := HO.out.below HPA3.out
    obtain ⟨V,hV⟩ : ∃ z : Int,(i : Int) + 1 + 1 = z := ⟨_,rfl⟩
    replace hv1 := hv1.trans hV
    have HV := Aside0.mk (show V = ((i + 1 : Nat) : Int) + 1 ∧ V ≠ 0 ∧ 0 ≤ V by omega)
    have HV2 := Aside0.mk (show (i : Int) + 1 ≤ V by omega)
    have HCV := Aside0.mk (show Value.int .u64 V = .int .u64 (((i + 1 : Nat) : Int) + 1) by rw [HV.out.1])
    clear hV
    cases hk : (y.1.tmod 3 == 1) with
    | true =>
     go_wp2_with (go_at_call 27;(with_reducible refine (HP3.out.cut HX.out.1 y.2.1.1 V HYK.out.2.1.1 HV.out.2.1).mono ?_);rintro e w4 ⟨rfl,hp, -⟩;have HP4 := Aside0.mk hp;clear hp)
     go_roundg gk
     case measure => omega
     case rel => exact ⟨i + 1,_,congrArg (Value.int .i64) HIN.out,HCV.out,⟨by have := HI.out;have := HIL.out;omega⟩,⟨HP4.out.monoN (by omega)⟩,⟨(cut_ok HX.out.1 y.2.1.1 HV.out.2.1).mono (by omega),by rw [← HV.out.1];exact untilNow_ver (HX.out.2.mono HV2.out) _⟩⟩
    | false =>
     go_wp2
     have HPD := Aside0.mk (HP3.out.below (below_drew (Below.refl _ _)))
     have HOD := Aside0.mk (HO.out.below HPD.out.at0)
     clear HP3 HPA3 y0 y1 y2 y3 y4
     refine start_ (n := 13) (S := fun w' => w'.cell? ⟨(ad.add (i * 13)).block,(ad.add (i * 13)).off + 1,none⟩ = some (.int .u32 y.2.1.1) ∧ w'.cell? ⟨(ad.add (i * 13)).block,(ad.add (i * 13)).off + 1 + 1,none⟩ = some (.slice A1 y.2.1.2.1.length c1) ∧ w'.cell? ⟨(ad.add (i * 13)).block,(ad.add (i * 13)).off + 1 + 2,none⟩ = some (.slice A2 y.2.1.2.2.length c2) ∧ w'.cell? ⟨(ad.add (i * 13)).block,(ad.add (i * 13)).off + 4,none⟩ = some (.int .i64 y.2.2.1)) (ds := []) (mB_ 13 0) (by kernel_rfl) rfl rfl ⟨(HO.out.below HPD.out.at0).y1,(HO.out.below HPD.out.at0).y2,(HO.out.below HPD.out.at0).y3,(HO.out.below HPD.out.at0).y4⟩ (fun hHeld => ?_)
     refine with_tabW now.tab13 now.bits13 (fun HT_ HW_ => ?_)
     generalize w3.drew = wd at HPD HOD hHeld ⊢
     iterate 10 (refine pn_ 0 [(0,45,1),(1,46,3),(2,47,7),(3,48,15),(4,49,31),(6,51,95),(7,52,223),(8,53,479),(9,54,991),(11,56,3039)] (v := ?_) (a' := ?_) rfl rfl rfl HT_.out (by kernel_rfl) (Or.inl ⟨by rfl, ?_⟩) ?_ ?_;rotate_left;(· intro w';go_simp;with_reducible rfl);rotate_left;(· simp only [Act.put,sT_,sZ_,sS_,i64_w,i32_w];rfl))
     iterate 2 (refine tn_ 3039 [(5,50,3071),(10,55,4095)] (v := ?_) (a' := ?_) rfl rfl rfl HT_.out HW_.out (by kernel_rfl) (Or.inl ⟨by rfl, ?_⟩) hHeld ?_ ?_;rotate_left;(· rintro w' ⟨s0,s1,s2,s3⟩;go_simp;with_reducible rfl);rotate_left;(· simp only [Act.put,sT_,sZ_,sS_,i64_w,i32_w];rfl))
     refine one_ (i := 12) (N := some 57) (mB_ 13 8191) rfl rfl (one_of HT_.out (by kernel_rfl)) (by decide) (fun K hK => ?_)
     refine goes_ Try.func28 (by kernel_rfl) rfl #[.pointer (some ⟨b,0,none⟩),.agg #[.int .u32 y.2.1.1,.slice A1 y.2.1.2.1.length c1,.slice A2 y.2.1.2.2.length c2],.int .i64 y.2.2.1,.int .u64 V] (by rfl) rfl rfl (by simp only [List.map_toArray,List.map_cons,List.map_nil];rfl) ?_
     with_reducible refine (HPD.out.put_ HX.out.1 (by have := HIL.out;omega) y.2.1.1 y.2.1.2.1 y.2.1.2.2 A1 c1 A2 c2 HO.out.ls.fit1 HO.out.ls.fit2 HF.out.vec HF.out.tags (fun W _ hb => ⟨Kd.C_below HO.out.ls.vec hb,Kd.C_below HO.out.ls.tags hb⟩) HYK.out.2.1.1 y.2.2.1 V HV.out.2.1).mono ?_
     rintro e w4 ⟨rfl,hp, -⟩
     refine ⟨_,rfl, ?_⟩
     have HP4 := Aside0.mk hp
     clear hp
     refine hK.out _ _ ⟨(HO.out.below HP4.out.at0).y1,(HO.out.below HP4.out.at0).y2,(HO.out.below HP4.out.at0).y3,(HO.out.below HP4.out.at0).y4⟩ (fun hHeld => ?_)
     clear hK K
     refine norm_ (a' := ?_) ?_ ?_
     rotate_left
     ·show Act.put _ (some 57) _ = _
      simp only [Act.put,sT_,sZ_,sS_,i64_w,i32_w]
      rfl
     refine done_ (done_of HT_.out (by kernel_rfl)) ?_
     clear hHeld HPD HOD
     go_wp2
     go_roundg gk
     case measure => omega
     case rel => exact ⟨i + 1,_,congrArg (Value.int .i64) HIN.out,HCV.out,⟨by have := HI.out;have := HIL.out;omega⟩,HP4,⟨put_ok HX.out.1 HYK.out.2.1.1 HF.out.vec HF.out.tags _ HV.out.2.1,by rw [← HV.out.1];exact put_ver (HX.out.2.mono HV2.out) HV.out.2.2 _ _ _ _⟩⟩
  ·have HBE := Aside0.mk HP.out.at0
   obtain ⟨V,hV⟩ : ∃ z : Int,(i : Int) + 1 = z := ⟨_,rfl⟩
   rw [hV] at HX
   have HQ : Aside0 ((decide ((i : Int) < (l.length : Int)) && decide ((i : Int) < (60 : Int))) = false) := ⟨by rw [Bool.and_eq_false_iff,decide_eq_false_iff_not,decide_eq_false_iff_not];omega⟩
   have HLT := Aside0.mk (show x.g.l.length ≤ 60 by have := HX.out.1.inv.len;have := HI.out;omega)
   by_cases hil : i < l.length
   ·have q1 : decide ((i : Int) < (l.length : Int)) = true := decide_eq_true (by omega)
    have q1' : (i : Int) < (l.length : Int) := by omega
    have q1'' : decide (i < l.length) = true := decide_eq_true hil
    have q2 : decide ((i : Int) < (60 : Int)) = false := decide_eq_false (by omega)
    have q2' : decide (i < 60) = false := decide_eq_false (by omega)
    have q2'' : (i < 60) = False := eq_false (by omega)
    have q2''' : ((i : Int) < 60) = False := eq_false (by omega)
    clear hi hil
    rw [hV]
    clear hV
    go_wp2_with (go_at_call 29;(with_reducible refine (HP.out.nodes_ HX.out.1 (by have := HI.out;omega)).mono ?_);rintro e w5 ⟨⟨vN,rfl,hv⟩,hb⟩;have HN5 := Aside0.mk hv;have HB5 := Aside0.mk (bel_trans HBE.out hb);obtain ⟨aN,cN,rfl⟩ := OwnN.slice hv;clear hv hb)
    obtain ⟨wR,rfl⟩ : ∃ z,z = wr := ⟨_,rfl⟩
    go_loopg [7] x.g.l.length (fun gk v7 wr => ∃ (i : Nat),v7 = .int .i64 i ∧ Aside0 (i ≤ x.g.l.length ∧ x.g.l.length - i ≤ gk) ∧ Aside0 (Below w5.heap.size w5 wr))
    case atStart => exact ⟨0,rfl,⟨by omega⟩,⟨Below.refl _ _⟩⟩
    case round =>
     obtain ⟨j,rfl,HJ,HB⟩ := hrel
     by_cases hj : j < x.g.l.length
     ·have p1 : decide ((j : Int) < (x.g.l.length : Int)) = true := decide_eq_true (by omega)
      have p1' : (j : Int) < (x.g.l.length : Int) := by omega
      have HJN := Aside0.mk (show wrap64 ((j : Int) + 1) = ((j + 1 : Nat) : Int) by have := HLT.out;unfold wrap64;omega)
      have HJL := Aside0.mk hj
      obtain ⟨gk,rfl⟩ : ∃ m,gk = m + 1 := ⟨gk - 1,by have := HJ.out;omega⟩
      obtain ⟨nd,hnd⟩ : ∃ z,x.g.l[j]? = some z := ⟨_,List.getElem?_eq_getElem hj⟩
      have HND := Aside0.mk hnd
      obtain ⟨rb,cap,B1,d1,B2,d2,r_,cp,hvn,hnode, -⟩ := OwnN.static HN5.out hnd
      injection hvn with hv1 _ hv3
      subst hv1 hv3
      have HNC : Aside0 (∀ W,Below w5.heap.size w5 W → _) := ⟨fun W hW => (hnode W (fun k hk => hW.block k hk.2)).1.cells⟩
      have HTH := Aside0.mk (there_last (HX.out.2 nd (List.mem_of_getElem? hnd)).1 (HX.out.2 nd (List.mem_of_getElem? hnd)).2)
      obtain ⟨ub,hub⟩ : ∃ z,(nd.un == 0) = z := ⟨_,rfl⟩
      rw [hub] at HTH
      have HUB := Aside0.mk hub
      clear hj hnd hnode
      go_wp2
      have HBD := Aside0.mk (bel_trans HB.out (below_drew (Below.refl _ _)) : Below w5.heap.size w5 wr.drew)
      clear HB
      refine start_ (n := 13) (S := fun w' => w'.cell? ⟨rb,j * 6,none⟩ = some (.int .u32 nd.id) ∧ w'.cell? ⟨rb,j * 6 + 1,none⟩ = some (.slice B1 nd.vec.length d1) ∧ w'.cell? ⟨rb,j * 6 + 2,none⟩ = some (.slice B2 nd.tags.length d2) ∧ w'.cell? ⟨rb,j * 6 + 3,none⟩ = some (.int .u64 nd.fr) ∧ w'.cell? ⟨rb,j * 6 + 4,none⟩ = some (.int .u64 nd.un) ∧ w'.cell? ⟨rb,j * 6 + 5,none⟩ = some (.slice (some ⟨r_,0,none⟩) nd.links.length cp)) (ds := []) (mB_ 13 0) (by kernel_rfl) rfl rfl ⟨(HNC.out _ HBD.out).1,(HNC.out _ HBD.out).2.1,(HNC.out _ HBD.out).2.2.1,(HNC.out _ HBD.out).2.2.2.1,(HNC.out _ HBD.out).2.2.2.2.1,(HNC.out _ HBD.out).2.2.2.2.2⟩ (fun hHeld => ?_)
      refine with_tabW now.tab18 now.bits18 (fun HT_ HW_ => ?_)
      generalize wr.drew = wd at HBD hHeld ⊢
      iterate 8 (refine pn_ 0 [(0,66,1),(1,67,3),(2,68,7),(4,70,23),(6,72,87),(7,73,215),(8,74,471),(9,75,983)] (v := ?_) (a' := ?_) rfl rfl rfl HT_.out (by kernel_rfl) (Or.inl ⟨by rfl, ?_⟩) ?_ ?_;rotate_left;(· intro w';go_simp;with_reducible rfl);rotate_left;(· simp only [Act.put,sT_,sZ_,sS_,i64_w,i32_w];rfl))
      iterate 2 (refine tn_ 983 [(3,69,991),(10,76,2015)] (v := ?_) (a' := ?_) rfl rfl rfl HT_.out HW_.out (by kernel_rfl) (Or.inl ⟨by rfl, ?_⟩) hHeld ?_ ?_;rotate_left;(· rintro w' ⟨s0,s1,s2,s3,s4,s5⟩;go_simp;with_reducible rfl);rotate_left;(· simp only [Act.put,sT_,sZ_,sS_,i64_w,i32_w];rfl))
      refine pn_ 2015 [(11,77,4063)] (v := ?_) (a' := ?_) rfl rfl rfl HT_.out (by kernel_rfl) (Or.inl ⟨by rfl, ?_⟩) ?_ ?_;rotate_left;(· intro w';go_simp;with_reducible rfl);rotate_left;(· simp only [Act.put,sT_,sZ_,sS_,i64_w,i32_w];rfl)
      refine one_ (i := 5) (N := some 71) (mB_ 13 4095) rfl rfl (one_of HT_.out (by kernel_rfl)) (by decide) (fun K hK => ?_)
      refine goes_ Try.func30 (by kernel_rfl) rfl #[.agg #[.int .u32 nd.id,.slice B1 nd.vec.length d1,.slice B2 nd.tags.length d2,.int .u64 nd.fr,.int .u64 nd.un,.slice (some ⟨r_,0,none⟩) nd.links.length cp],.int .u64 V] (by rfl) rfl rfl (by simp only [List.map_toArray,List.map_cons,List.map_nil];rfl) ?_
      with_reducible refine (rthere_calls nd.id nd.fr nd.un V B1 nd.vec.length d1 B2 nd.tags.length d2 (some ⟨r_,0,none⟩) nd.links.length cp _).mono ?_
      rintro e w6 ⟨rfl,hb⟩
      refine ⟨_,rfl, ?_⟩
      rw [HTH.out]
      have HB6 := Aside0.mk (bel_trans HBD.out hb)
      clear hb
      refine hK.out _ _ ⟨(HNC.out _ HB6.out).1,(HNC.out _ HB6.out).2.1,(HNC.out _ HB6.out).2.2.1,(HNC.out _ HB6.out).2.2.2.1,(HNC.out _ HB6.out).2.2.2.2.1,(HNC.out _ HB6.out).2.2.2.2.2⟩ (fun hHeld => ?_)
      clear hK K
      refine norm_ (a' := ?_) ?_ ?_
      rotate_left
      ·show Act.put _ (some 71) _ = _
       simp only [Act.put,sT_,sZ_,sS_,i64_w,i32_w]
       rfl
      refine pn_ 4095 [(12,78,8191)] (v := ?_) (a' := ?_) rfl rfl rfl HT_.out (by kernel_rfl) (Or.inl ⟨by rfl, ?_⟩) ?_ ?_;rotate_left;(· intro w';go_simp;with_reducible rfl);rotate_left;(· simp only [Act.put,sT_,sZ_,sS_,i64_w,i32_w];rfl)
      refine done_ (done_of HT_.out (by kernel_rfl)) ?_
      clear hHeld HBD
      (try rw [hub])
      clear hub
      have hxx : (ub != ub) = false := by cases ub <;> rfl
      have hxy : (ub == ub) = true := by cases ub <;> rfl
      obtain ⟨go,rfl⟩ : ∃ z,z = gk := ⟨_,rfl⟩
      go_wp2
      go_loopg [8] j (fun gk v8 wr => ∃ (k : Nat),v8 = .int .i64 k ∧ Aside0 (k ≤ j ∧ j - k ≤ gk) ∧ Aside0 (Below w5.heap.size w5 wr))
      case atStart => exact ⟨0,rfl,⟨by omega⟩,HB6⟩
      case round =>
       clear HB6
       obtain ⟨k,rfl,HK,HB⟩ := hrel
       by_cases hk : k < j
       ·have p2 : decide ((k : Int) < (j : Int)) = true := decide_eq_true (by omega)
        have p2' : decide (k < j) = true := decide_eq_true hk
        have p3 : (k : Int) < (x.g.l.length : Int) := by have := HJL.out;omega
        have HKN := Aside0.mk (show wrap64 ((k : Int) + 1) = ((k + 1 : Nat) : Int) by have := HLT.out;have := HJL.out;unfold wrap64;omega)
        have HKL := Aside0.mk hk
        obtain ⟨gk,rfl⟩ : ∃ m,gk = m + 1 := ⟨gk - 1,by have := HK.out;omega⟩
        obtain ⟨ne,hne⟩ : ∃ z,x.g.l[k]? = some z := ⟨_,List.getElem?_eq_getElem (by have := HJL.out;omega)⟩
        obtain ⟨rb2,cap2,E1,e1,E2,e2,r2,cp2,hvn,hnode, -⟩ := OwnN.static HN5.out hne
        injection hvn with hv1 _ hv3
        injection hv1 with hv1
        injection hv1 with hv1
        subst hv1
        clear hv3
        have HNE : Aside0 (∀ W,Below w5.heap.size w5 W → _) := ⟨fun W hW => (hnode W (fun k hk => hW.block k hk.2)).1.cells⟩
        have HUQ : Aside0 (nd.id = ne.id → nd.un = 0 → ¬ ne.un = 0) := ⟨fun e1 e2 e3 => by have := HX.out.1.uniq j k nd ne HND.out hne e1 e2 e3;have := HKL.out;omega⟩
        clear hk hne hnode
        by_cases hid : nd.id = ne.id
        ·have a1 : (nd.id == ne.id) = true := by simpa using hid
         have a1' : (nd.id = ne.id) = True := eq_true hid
         by_cases hun : nd.un = 0
         ·have a2 : (nd.un == 0) = true := by simpa using hun
          have a2' : (nd.un = 0) = True := eq_true hun
          have a3 : (ne.un == 0) = false := by simpa using HUQ.out hid hun
          have a3' : (ne.un = 0) = False := eq_false (HUQ.out hid hun)
          clear hid hun
          go_wp2
          have HBD := Aside0.mk (bel_trans HB.out (below_drew (Below.refl _ _)) : Below w5.heap.size w5 wr.drew)
          clear HB
          refine start_ (n := 29) (S := fun w' => w'.cell? ⟨rb,j * 6,none⟩ = some (.int .u32 nd.id) ∧ w'.cell? ⟨rb,k * 6,none⟩ = some (.int .u32 ne.id) ∧ w'.cell? ⟨rb,j * 6 + 4,none⟩ = some (.int .u64 nd.un) ∧ w'.cell? ⟨rb,k * 6 + 4,none⟩ = some (.int .u64 ne.un)) (ds := []) (mB_ 29 0) (by kernel_rfl) rfl rfl ⟨(HNC.out _ HBD.out).1,(HNE.out _ HBD.out).1,(HNC.out _ HBD.out).2.2.2.2.1,(HNE.out _ HBD.out).2.2.2.2.1⟩ (fun hHeld => ?_)
          refine with_tabW now.tab23 now.bits23 (fun HT_ HW_ => ?_)
          generalize wr.drew = wd at HBD hHeld ⊢
          iterate 10 (refine pn_ 0 [(0,84,1),(1,85,3),(2,86,7),(3,87,15),(4,88,31),(6,90,95),(7,91,223),(8,92,479),(9,93,991),(10,94,2015)] (v := ?_) (a' := ?_) rfl rfl rfl HT_.out (by kernel_rfl) (Or.inl ⟨by rfl, ?_⟩) ?_ ?_;rotate_left;(· intro w';go_simp;with_reducible rfl);rotate_left;(· simp only [Act.put,sT_,sZ_,sS_,i64_w,i32_w];rfl))
          iterate 2 (refine tn_ 2015 [(5,89,2047),(11,95,4095)] (v := ?_) (a' := ?_) rfl rfl rfl HT_.out HW_.out (by kernel_rfl) (Or.inl ⟨by rfl, ?_⟩) hHeld ?_ ?_;rotate_left;(· rintro w' ⟨s0,s1,s2,s3⟩;go_simp;with_reducible rfl);rotate_left;(· simp only [Act.put,sT_,sZ_,sS_,i64_w,i32_w];rfl))
          iterate 6 (refine pn_ 4095 [(12,96,8191),(13,97,16383),(14,98,32767),(15,99,65535),(16,100,131071),(17,101,262143)] (v := ?_) (a' := ?_) rfl rfl rfl HT_.out (by kernel_rfl) (Or.inl ⟨by rfl, ?_⟩) ?_ ?_;rotate_left;(· intro w';go_simp;with_reducible rfl);rotate_left;(· simp only [Act.put,sT_,sZ_,sS_,i64_w,i32_w];rfl))
          refine tn_ 262143 [(18,102,524287)] (v := ?_) (a' := ?_) rfl rfl rfl HT_.out HW_.out (by kernel_rfl) (Or.inl ⟨by rfl, ?_⟩) hHeld ?_ ?_;rotate_left;(· rintro w' ⟨s0,s1,s2,s3⟩;go_simp;with_reducible rfl);rotate_left;(· simp only [Act.put,sT_,sZ_,sS_,i64_w,i32_w];rfl)
          iterate 7 (refine pn_ 524287 [(19,103,1048575),(20,104,2097151),(21,105,4194303),(22,106,8388607),(23,107,16777215),(24,108,33554431),(25,109,67108863)] (v := ?_) (a' := ?_) rfl rfl rfl HT_.out (by kernel_rfl) (Or.inl ⟨by rfl, ?_⟩) ?_ ?_;rotate_left;(· intro w';go_simp;with_reducible rfl);rotate_left;(· simp only [Act.put,sT_,sZ_,sS_,i64_w,i32_w];rfl))
          refine tn_ 67108863 [(26,110,134217727)] (v := ?_) (a' := ?_) rfl rfl rfl HT_.out HW_.out (by kernel_rfl) (Or.inl ⟨by rfl, ?_⟩) hHeld ?_ ?_;rotate_left;(· rintro w' ⟨s0,s1,s2,s3⟩;go_simp;with_reducible rfl);rotate_left;(· simp only [Act.put,sT_,sZ_,sS_,i64_w,i32_w];rfl)
          iterate 2 (refine pn_ 134217727 [(27,111,268435455),(28,112,536870911)] (v := ?_) (a' := ?_) rfl rfl rfl HT_.out (by kernel_rfl) (Or.inl ⟨by rfl, ?_⟩) ?_ ?_;rotate_left;(· intro w';go_simp;with_reducible rfl);rotate_left;(· simp only [Act.put,sT_,sZ_,sS_,i64_w,i32_w];rfl))
          refine done_ (done_of HT_.out (by kernel_rfl)) ?_
          clear hHeld
          go_wp2
          go_roundg gk
          case measure => omega
          case rel => exact ⟨k + 1,congrArg (Value.int .i64) HKN.out,⟨by have := HK.out;have := HKL.out;omega⟩,HBD⟩
         ·have a2 : (nd.un == 0) = false := by simpa using hun
          have a2' : (nd.un = 0) = False := eq_false hun
          clear hid hun
          go_wp2
          have HBD := Aside0.mk (bel_trans HB.out (below_drew (Below.refl _ _)) : Below w5.heap.size w5 wr.drew)
          clear HB
          refine start_ (n := 29) (S := fun w' => w'.cell? ⟨rb,j * 6,none⟩ = some (.int .u32 nd.id) ∧ w'.cell? ⟨rb,k * 6,none⟩ = some (.int .u32 ne.id) ∧ w'.cell? ⟨rb,j * 6 + 4,none⟩ = some (.int .u64 nd.un) ∧ w'.cell? ⟨rb,k * 6 + 4,none⟩ = some (.int .u64 ne.un)) (ds := []) (mB_ 29 0) (by kernel_rfl) rfl rfl ⟨(HNC.out _ HBD.out).1,(HNE.out _ HBD.out).1,(HNC.out _ HBD.out).2.2.2.2.1,(HNE.out _ HBD.out).2.2.2.2.1⟩ (fun hHeld => ?_)
          refine with_tabW now.tab23 now.bits23 (fun HT_ HW_ => ?_)
          generalize wr.drew = wd at HBD hHeld ⊢
          iterate 10 (refine pn_ 0 [(0,84,1),(1,85,3),(2,86,7),(3,87,15),(4,88,31),(6,90,95),(7,91,223),(8,92,479),(9,93,991),(10,94,2015)] (v := ?_) (a' := ?_) rfl rfl rfl HT_.out (by kernel_rfl) (Or.inl ⟨by rfl, ?_⟩) ?_ ?_;rotate_left;(· intro w';go_simp;with_reducible rfl);rotate_left;(· simp only [Act.put,sT_,sZ_,sS_,i64_w,i32_w];rfl))
          iterate 2 (refine tn_ 2015 [(5,89,2047),(11,95,4095)] (v := ?_) (a' := ?_) rfl rfl rfl HT_.out HW_.out (by kernel_rfl) (Or.inl ⟨by rfl, ?_⟩) hHeld ?_ ?_;rotate_left;(· rintro w' ⟨s0,s1,s2,s3⟩;go_simp;with_reducible rfl);rotate_left;(· simp only [Act.put,sT_,sZ_,sS_,i64_w,i32_w];rfl))
          iterate 6 (refine pn_ 4095 [(12,96,8191),(13,97,16383),(14,98,32767),(15,99,65535),(16,100,131071),(17,101,262143)] (v := ?_) (a' := ?_) rfl rfl rfl HT_.out (by kernel_rfl) (Or.inl ⟨by rfl, ?_⟩) ?_ ?_;rotate_left;(· intro w';go_simp;with_reducible rfl);rotate_left;(· simp only [Act.put,sT_,sZ_,sS_,i64_w,i32_w];rfl))
          refine tn_ 262143 [(18,102,524287)] (v := ?_) (a' := ?_) rfl rfl rfl HT_.out HW_.out (by kernel_rfl) (Or.inl ⟨by rfl, ?_⟩) hHeld ?_ ?_;rotate_left;(· rintro w' ⟨s0,s1,s2,s3⟩;go_simp;with_reducible rfl);rotate_left;(· simp only [Act.put,sT_,sZ_,sS_,i64_w,i32_w];rfl)
          iterate 3 (refine pn_ 524287 [(19,103,1048575),(20,104,2097151),(21,105,4194303)] (v := ?_) (a' := ?_) rfl rfl rfl HT_.out (by kernel_rfl) (Or.inl ⟨by rfl, ?_⟩) ?_ ?_;rotate_left;(· intro w';go_simp;with_reducible rfl);rotate_left;(· simp only [Act.put,sT_,sZ_,sS_,i64_w,i32_w];rfl))
          iterate 6 (refine pn_ 4194303 [(22,106,8388607),(23,107,16777215),(24,108,33554431),(25,109,67108863),(26,110,134217727),(27,111,268435455)] (v := undef) (a' := ?_) rfl rfl rfl HT_.out (by kernel_rfl) (Or.inr ⟨by rfl,rfl⟩) ?_ ?_;rotate_left;(· simp only [Act.put,sT_,sZ_,sS_,i64_w,i32_w];rfl))
          refine pn_ 268435455 [(28,112,536870911)] (v := ?_) (a' := ?_) rfl rfl rfl HT_.out (by kernel_rfl) (Or.inl ⟨by rfl, ?_⟩) ?_ ?_;rotate_left;(· intro w';go_simp;with_reducible rfl);rotate_left;(· simp only [Act.put,sT_,sZ_,sS_,i64_w,i32_w];rfl)
          refine done_ (done_of HT_.out (by kernel_rfl)) ?_
          clear hHeld
          go_wp2
          go_roundg gk
          case measure => omega
          case rel => exact ⟨k + 1,congrArg (Value.int .i64) HKN.out,⟨by have := HK.out;have := HKL.out;omega⟩,HBD⟩
        ·have a1 : (nd.id == ne.id) = false := by simpa using hid
         have a1' : (nd.id = ne.id) = False := eq_false hid
         clear hid
         go_wp2
         have HBD := Aside0.mk (bel_trans HB.out (below_drew (Below.refl _ _)) : Below w5.heap.size w5 wr.drew)
         clear HB
         refine start_ (n := 29) (S := fun w' => w'.cell? ⟨rb,j * 6,none⟩ = some (.int .u32 nd.id) ∧ w'.cell? ⟨rb,k * 6,none⟩ = some (.int .u32 ne.id) ∧ w'.cell? ⟨rb,j * 6 + 4,none⟩ = some (.int .u64 nd.un) ∧ w'.cell? ⟨rb,k * 6 + 4,none⟩ = some (.int .u64 ne.un)) (ds := []) (mB_ 29 0) (by kernel_rfl) rfl rfl ⟨(HNC.out _ HBD.out).1,(HNE.out _ HBD.out).1,(HNC.out _ HBD.out).2.2.2.2.1,(HNE.out _ HBD.out).2.2.2.2.1⟩ (fun hHeld => ?_)
         refine with_tabW now.tab23 now.bits23 (fun HT_ HW_ => ?_)
         generalize wr.drew = wd at HBD hHeld ⊢
         iterate 10 (refine pn_ 0 [(0,84,1),(1,85,3),(2,86,7),(3,87,15),(4,88,31),(6,90,95),(7,91,223),(8,92,479),(9,93,991),(10,94,2015)] (v := ?_) (a' := ?_) rfl rfl rfl HT_.out (by kernel_rfl) (Or.inl ⟨by rfl, ?_⟩) ?_ ?_;rotate_left;(· intro w';go_simp;with_reducible rfl);rotate_left;(· simp only [Act.put,sT_,sZ_,sS_,i64_w,i32_w];rfl))
         iterate 2 (refine tn_ 2015 [(5,89,2047),(11,95,4095)] (v := ?_) (a' := ?_) rfl rfl rfl HT_.out HW_.out (by kernel_rfl) (Or.inl ⟨by rfl, ?_⟩) hHeld ?_ ?_;rotate_left;(· rintro w' ⟨s0,s1,s2,s3⟩;go_simp;with_reducible rfl);rotate_left;(· simp only [Act.put,sT_,sZ_,sS_,i64_w,i32_w];rfl))
         iterate 2 (refine pn_ 4095 [(12,96,8191),(13,97,16383)] (v := ?_) (a' := ?_) rfl rfl rfl HT_.out (by kernel_rfl) (Or.inl ⟨by rfl, ?_⟩) ?_ ?_;rotate_left;(· intro w';go_simp;with_reducible rfl);rotate_left;(· simp only [Act.put,sT_,sZ_,sS_,i64_w,i32_w];rfl))
         iterate 6 (refine pn_ 16383 [(14,98,32767),(15,99,65535),(16,100,131071),(17,101,262143),(18,102,524287),(19,103,1048575)] (v := undef) (a' := ?_) rfl rfl rfl HT_.out (by kernel_rfl) (Or.inr ⟨by rfl,rfl⟩) ?_ ?_;rotate_left;(· simp only [Act.put,sT_,sZ_,sS_,i64_w,i32_w];rfl))
         iterate 2 (refine pn_ 1048575 [(20,104,2097151),(21,105,4194303)] (v := ?_) (a' := ?_) rfl rfl rfl HT_.out (by kernel_rfl) (Or.inl ⟨by rfl, ?_⟩) ?_ ?_;rotate_left;(· intro w';go_simp;with_reducible rfl);rotate_left;(· simp only [Act.put,sT_,sZ_,sS_,i64_w,i32_w];rfl))
         iterate 6 (refine pn_ 4194303 [(22,106,8388607),(23,107,16777215),(24,108,33554431),(25,109,67108863),(26,110,134217727),(27,111,268435455)] (v := undef) (a' := ?_) rfl rfl rfl HT_.out (by kernel_rfl) (Or.inr ⟨by rfl,rfl⟩) ?_ ?_;rotate_left;(· simp only [Act.put,sT_,sZ_,sS_,i64_w,i32_w];rfl))
         refine pn_ 268435455 [(28,112,536870911)] (v := ?_) (a' := ?_) rfl rfl rfl HT_.out (by kernel_rfl) (Or.inl ⟨by rfl, ?_⟩) ?_ ?_;rotate_left;(· intro w';go_simp;with_reducible rfl);rotate_left;(· simp only [Act.put,sT_,sZ_,sS_,i64_w,i32_w];rfl)
         refine done_ (done_of HT_.out (by kernel_rfl)) ?_
         clear hHeld
         go_wp2
         go_roundg gk
         case measure => omega
         case rel => exact ⟨k + 1,congrArg (Value.int .i64) HKN.out,⟨by have := HK.out;have := HKL.out;omega⟩,HBD⟩
       ·have p2 : decide ((k : Int) < (j : Int)) = false := decide_eq_false (by omega)
        have p2' : (k < j) = False := eq_false hk
        have p2'' : decide (k < j) = false := decide_eq_false hk
        clear hk
        go_wp2
        go_roundg go
        case measure => omega
        case rel => exact ⟨j + 1,congrArg (Value.int .i64) HJN.out,⟨by have := HJ.out;have := HJL.out;omega⟩,HB⟩
     ·have p1 : decide ((j : Int) < (x.g.l.length : Int)) = false := decide_eq_false (by omega)
      have p1' : (j < x.g.l.length) = False := eq_false hj
      have p1'' : decide (j < x.g.l.length) = false := decide_eq_false hj
      clear hj
      go_wp2
      go_ret
      exact ⟨rfl,bel_trans HB5.out HB.out⟩
   ·have q1 : decide ((i : Int) < (l.length : Int)) = false := decide_eq_false (by omega)
    have q1' : decide (i < l.length) = false := decide_eq_false hil
    have q1'' : (i < l.length) = False := eq_false hil
    clear hi hil
    rw [hV]
    clear hV
    go_wp2_with (go_at_call 29;(with_reducible refine (HP.out.nodes_ HX.out.1 (by have := HI.out;omega)).mono ?_);rintro e w5 ⟨⟨vN,rfl,hv⟩,hb⟩;have HN5 := Aside0.mk hv;have HB5 := Aside0.mk (bel_trans HBE.out hb);obtain ⟨aN,cN,rfl⟩ := OwnN.slice hv;clear hv hb)
    obtain ⟨wR,rfl⟩ : ∃ z,z = wr := ⟨_,rfl⟩
    go_loopg [7] x.g.l.length (fun gk v7 wr => ∃ (i : Nat),v7 = .int .i64 i ∧ Aside0 (i ≤ x.g.l.length ∧ x.g.l.length - i ≤ gk) ∧ Aside0 (Below w5.heap.size w5 wr))
    case atStart => exact ⟨0,rfl,⟨by omega⟩,⟨Below.refl _ _⟩⟩
    case round =>
     obtain ⟨j,rfl,HJ,HB⟩ := hrel
     by_cases hj : j < x.g.l.length
     ·have p1 : decide ((j : Int) < (x.g.l.length : Int)) = true := decide_eq_true (by omega)
      have p1' : (j : Int) < (x.g.l.length : Int) := by omega
      have HJN := Aside0.mk (show wrap64 ((j : Int) + 1) = ((j + 1 : Nat) : Int) by have := HLT.out;unfold wrap64;omega)
      have HJL := Aside0.mk hj
      obtain ⟨gk,rfl⟩ : ∃ m,gk = m + 1 := ⟨gk - 1,by have := HJ.out;omega⟩
      obtain ⟨nd,hnd⟩ : ∃ z,x.g.l[j]? = some z := ⟨_,List.getElem?_eq_getElem hj⟩
      have HND := Aside0.mk hnd
      obtain ⟨rb,cap,B1,d1,B2,d2,r_,cp,hvn,hnode, -⟩ := OwnN.static HN5.out hnd
      injection hvn with hv1 _ hv3
      subst hv1 hv3
      have HNC : Aside0 (∀ W,Below w5.heap.size w5 W → _) := ⟨fun W hW => (hnode W (fun k hk => hW.block k hk.2)).1.cells⟩
      have HTH := Aside0.mk (there_last (HX.out.2 nd (List.mem_of_getElem? hnd)).1 (HX.out.2 nd (List.mem_of_getElem? hnd)).2)
      obtain ⟨ub,hub⟩ : ∃ z,(nd.un == 0) = z := ⟨_,rfl⟩
      rw [hub] at HTH
      have HUB := Aside0.mk hub
      clear hj hnd hnode
      go_wp2
      have HBD := Aside0.mk (bel_trans HB.out (below_drew (Below.refl _ _)) : Below w5.heap.size w5 wr.drew)
      clear HB
      refine start_ (n := 13) (S := fun w' => w'.cell? ⟨rb,j * 6,none⟩ = some (.int .u32 nd.id) ∧ w'.cell? ⟨rb,j * 6 + 1,none⟩ = some (.slice B1 nd.vec.length d1) ∧ w'.cell? ⟨rb,j * 6 + 2,none⟩ = some (.slice B2 nd.tags.length d2) ∧ w'.cell? ⟨rb,j * 6 + 3,none⟩ = some (.int .u64 nd.fr) ∧ w'.cell? ⟨rb,j * 6 + 4,none⟩ = some (.int .u64 nd.un) ∧ w'.cell? ⟨rb,j * 6 + 5,none⟩ = some (.slice (some ⟨r_,0,none⟩) nd.links.length cp)) (ds := []) (mB_ 13 0) (by kernel_rfl) rfl rfl ⟨(HNC.out _ HBD.out).1,(HNC.out _ HBD.out).2.1,(HNC.out _ HBD.out).2.2.1,(HNC.out _ HBD.out).2.2.2.1,(HNC.out _ HBD.out).2.2.2.2.1,(HNC.out _ HBD.out).2.2.2.2.2⟩ (fun hHeld => ?_)
      refine with_tabW now.tab18 now.bits18 (fun HT_ HW_ => ?_)
      generalize wr.drew = wd at HBD hHeld ⊢
      iterate 8 (refine pn_ 0 [(0,66,1),(1,67,3),(2,68,7),(4,70,23),(6,72,87),(7,73,215),(8,74,471),(9,75,983)] (v := ?_) (a' := ?_) rfl rfl rfl HT_.out (by kernel_rfl) (Or.inl ⟨by rfl, ?_⟩) ?_ ?_;rotate_left;(· intro w';go_simp;with_reducible rfl);rotate_left;(· simp only [Act.put,sT_,sZ_,sS_,i64_w,i32_w];rfl))
      iterate 2 (refine tn_ 983 [(3,69,991),(10,76,2015)] (v := ?_) (a' := ?_) rfl rfl rfl HT_.out HW_.out (by kernel_rfl) (Or.inl ⟨by rfl, ?_⟩) hHeld ?_ ?_;rotate_left;(· rintro w' ⟨s0,s1,s2,s3,s4,s5⟩;go_simp;with_reducible rfl);rotate_left;(· simp only [Act.put,sT_,sZ_,sS_,i64_w,i32_w];rfl))
      refine pn_ 2015 [(11,77,4063)] (v := ?_) (a' := ?_) rfl rfl rfl HT_.out (by kernel_rfl) (Or.inl ⟨by rfl, ?_⟩) ?_ ?_;rotate_left;(· intro w';go_simp;with_reducible rfl);rotate_left;(· simp only [Act.put,sT_,sZ_,sS_,i64_w,i32_w];rfl)
      refine one_ (i := 5) (N := some 71) (mB_ 13 4095) rfl rfl (one_of HT_.out (by kernel_rfl)) (by decide) (fun K hK => ?_)
      refine goes_ Try.func30 (by kernel_rfl) rfl #[.agg #[.int .u32 nd.id,.slice B1 nd.vec.length d1,.slice B2 nd.tags.length d2,.int .u64 nd.fr,.int .u64 nd.un,.slice (some ⟨r_,0,none⟩) nd.links.length cp],.int .u64 V] (by rfl) rfl rfl (by simp only [List.map_toArray,List.map_cons,List.map_nil];rfl) ?_
      with_reducible refine (rthere_calls nd.id nd.fr nd.un V B1 nd.vec.length d1 B2 nd.tags.length d2 (some ⟨r_,0,none⟩) nd.links.length cp _).mono ?_
      rintro e w6 ⟨rfl,hb⟩
      refine ⟨_,rfl, ?_⟩
      rw [HTH.out]
      have HB6 := Aside0.mk (bel_trans HBD.out hb)
      clear hb
      refine hK.out _ _ ⟨(HNC.out _ HB6.out).1,(HNC.out _ HB6.out).2.1,(HNC.out _ HB6.out).2.2.1,(HNC.out _ HB6.out).2.2.2.1,(HNC.out _ HB6.out).2.2.2.2.1,(HNC.out _ HB6.out).2.2.2.2.2⟩ (fun hHeld => ?_)
      clear hK K
      refine norm_ (a' := ?_) ?_ ?_
      rotate_left
      ·show Act.put _ (some 71) _ = _
       simp only [Act.put,sT_,sZ_,sS_,i64_w,i32_w]
       rfl
      refine pn_ 4095 [(12,78,8191)] (v := ?_) (a' := ?_) rfl rfl rfl HT_.out (by kernel_rfl) (Or.inl ⟨by rfl, ?_⟩) ?_ ?_;rotate_left;(· intro w';go_simp;with_reducible rfl);rotate_left;(· simp only [Act.put,sT_,sZ_,sS_,i64_w,i32_w];rfl)
      refine done_ (done_of HT_.out (by kernel_rfl)) ?_
      clear hHeld HBD
      (try rw [hub])
      clear hub
      have hxx : (ub != ub) = false := by cases ub <;> rfl
      have hxy : (ub == ub) = true := by cases ub <;> rfl
      obtain ⟨go,rfl⟩ : ∃ z,z = gk := ⟨_,rfl⟩
      go_wp2
      go_loopg [8] j (fun gk v8 wr => ∃ (k : Nat),v8 = .int .i64 k ∧ Aside0 (k ≤ j ∧ j - k ≤ gk) ∧ Aside0 (Below w5.heap.size w5 wr))
      case atStart => exact ⟨0,rfl,⟨by omega⟩,HB6⟩
      case round =>
       clear HB6
       obtain ⟨k,rfl,HK,HB⟩ := hrel
       by_cases hk : k < j
       ·have p2 : decide ((k : Int) < (j : Int)) = true := decide_eq_true (by omega)
        have p2' : decide (k < j) = true := decide_eq_true hk
        have p3 : (k : Int) < (x.g.l.length : Int) := by have := HJL.out;omega
        have HKN := Aside0.mk (show wrap64 ((k : Int) + 1) = ((k + 1 : Nat) : Int) by have := HLT.out;have := HJL.out;unfold wrap64;omega)
        have HKL := Aside0.mk hk
        obtain ⟨gk,rfl⟩ : ∃ m,gk = m + 1 := ⟨gk - 1,by have := HK.out;omega⟩
        obtain ⟨ne,hne⟩ : ∃ z,x.g.l[k]? = some z := ⟨_,List.getElem?_eq_getElem (by have := HJL.out;omega)⟩
        obtain ⟨rb2,cap2,E1,e1,E2,e2,r2,cp2,hvn,hnode, -⟩ := OwnN.static HN5.out hne
        injection hvn with hv1 _ hv3
        injection hv1 with hv1
        injection hv1 with hv1
        subst hv1
        clear hv3
        have HNE : Aside0 (∀ W,Below w5.heap.size w5 W → _) := ⟨fun W hW => (hnode W (fun k hk => hW.block k hk.2)).1.cells⟩
        have HUQ : Aside0 (nd.id = ne.id → nd.un = 0 → ¬ ne.un = 0) := ⟨fun e1 e2 e3 => by have := HX.out.1.uniq j k nd ne HND.out hne e1 e2 e3;have := HKL.out;omega⟩
        clear hk hne hnode
        by_cases hid : nd.id = ne.id
        ·have a1 : (nd.id == ne.id) = true := by simpa using hid
         have a1' : (nd.id = ne.id) = True := eq_true hid
         by_cases hun : nd.un = 0
         ·have a2 : (nd.un == 0) = true := by simpa using hun
          have a2' : (nd.un = 0) = True := eq_true hun
          have a3 : (ne.un == 0) = false := by simpa using HUQ.out hid hun
          have a3' : (ne.un = 0) = False := eq_false (HUQ.out hid hun)
          clear hid hun
          go_wp2
          have HBD := Aside0.mk (bel_trans HB.out (below_drew (Below.refl _ _)) : Below w5.heap.size w5 wr.drew)
          clear HB
          refine start_ (n := 29) (S := fun w' => w'.cell? ⟨rb,j * 6,none⟩ = some (.int .u32 nd.id) ∧ w'.cell? ⟨rb,k * 6,none⟩ = some (.int .u32 ne.id) ∧ w'.cell? ⟨rb,j * 6 + 4,none⟩ = some (.int .u64 nd.un) ∧ w'.cell? ⟨rb,k * 6 + 4,none⟩ = some (.int .u64 ne.un)) (ds := []) (mB_ 29 0) (by kernel_rfl) rfl rfl ⟨(HNC.out _ HBD.out).1,(HNE.out _ HBD.out).1,(HNC.out _ HBD.out).2.2.2.2.1,(HNE.out _ HBD.out).2.2.2.2.1⟩ (fun hHeld => ?_)
          refine with_tabW now.tab23 now.bits23 (fun HT_ HW_ => ?_)
          generalize wr.drew = wd at HBD hHeld ⊢
          iterate 10 (refine pn_ 0 [(0,84,1),(1,85,3),(2,86,7),(3,87,15),(4,88,31),(6,90,95),(7,91,223),(8,92,479),(9,93,991),(10,94,2015)] (v := ?_) (a' := ?_) rfl rfl rfl HT_.out (by kernel_rfl) (Or.inl ⟨by rfl, ?_⟩) ?_ ?_;rotate_left;(· intro w';go_simp;with_reducible rfl);rotate_left;(· simp only [Act.put,sT_,sZ_,sS_,i64_w,i32_w];rfl))
          iterate 2 (refine tn_ 2015 [(5,89,2047),(11,95,4095)] (v := ?_) (a' := ?_) rfl rfl rfl HT_.out HW_.out (by kernel_rfl) (Or.inl ⟨by rfl, ?_⟩) hHeld ?_ ?_;rotate_left;(· rintro w' ⟨s0,s1,s2,s3⟩;go_simp;with_reducible rfl);rotate_left;(· simp only [Act.put,sT_,sZ_,sS_,i64_w,i32_w];rfl))
          iterate 6 (refine pn_ 4095 [(12,96,8191),(13,97,16383),(14,98,32767),(15,99,65535),(16,100,131071),(17,101,262143)] (v := ?_) (a' := ?_) rfl rfl rfl HT_.out (by kernel_rfl) (Or.inl ⟨by rfl, ?_⟩) ?_ ?_;rotate_left;(· intro w';go_simp;with_reducible rfl);rotate_left;(· simp only [Act.put,sT_,sZ_,sS_,i64_w,i32_w];rfl))
          refine tn_ 262143 [(18,102,524287)] (v := ?_) (a' := ?_) rfl rfl rfl HT_.out HW_.out (by kernel_rfl) (Or.inl ⟨by rfl, ?_⟩) hHeld ?_ ?_;rotate_left;(· rintro w' ⟨s0,s1,s2,s3⟩;go_simp;with_reducible rfl);rotate_left;(· simp only [Act.put,sT_,sZ_,sS_,i64_w,i32_w];rfl)
          iterate 7 (refine pn_ 524287 [(19,103,1048575),(20,104,2097151),(21,105,4194303),(22,106,8388607),(23,107,16777215),(24,108,33554431),(25,109,67108863)] (v := ?_) (a' := ?_) rfl rfl rfl HT_.out (by kernel_rfl) (Or.inl ⟨by rfl, ?_⟩) ?_ ?_;rotate_left;(· intro w';go_simp;with_reducible rfl);rotate_left;(· simp only [Act.put,sT_,sZ_,sS_,i64_w,i32_w];rfl))
          refine tn_ 67108863 [(26,110,134217727)] (v := ?_) (a' := ?_) rfl rfl rfl HT_.out HW_.out (by kernel_rfl) (Or.inl ⟨by rfl, ?_⟩) hHeld ?_ ?_;rotate_left;(· rintro w' ⟨s0,s1,s2,s3⟩;go_simp;with_reducible rfl);rotate_left;(· simp only [Act.put,sT_,sZ_,sS_,i64_w,i32_w];rfl)
          iterate 2 (refine pn_ 134217727 [(27,111,268435455),(28,112,536870911)] (v := ?_) (a' := ?_) rfl rfl rfl HT_.out (by kernel_rfl) (Or.inl ⟨by rfl, ?_⟩) ?_ ?_;rotate_left;(· intro w';go_simp;with_reducible rfl);rotate_left;(· simp only [Act.put,sT_,sZ_,sS_,i64_w,i32_w];rfl))
          refine done_ (done_of HT_.out (by kernel_rfl)) ?_
          clear hHeld
          go_wp2
          go_roundg gk
          case measure => omega
          case rel => exact ⟨k + 1,congrArg (Value.int .i64) HKN.out,⟨by have := HK.out;have := HKL.out;omega⟩,HBD⟩
         ·have a2 : (nd.un == 0) = false := by simpa using hun
          have a2' : (nd.un = 0) = False := eq_false hun
          clear hid hun
          go_wp2
          have HBD := Aside0.mk (bel_trans HB.out (below_drew (Below.refl _ _)) : Below w5.heap.size w5 wr.drew)
          clear HB
          refine start_ (n := 29) (S := fun w' => w'.cell? ⟨rb,j * 6,none⟩ = some (.int .u32 nd.id) ∧ w'.cell? ⟨rb,k * 6,none⟩ = some (.int .u32 ne.id) ∧ w'.cell? ⟨rb,j * 6 + 4,none⟩ = some (.int .u64 nd.un) ∧ w'.cell? ⟨rb,k * 6 + 4,none⟩ = some (.int .u64 ne.un)) (ds := []) (mB_ 29 0) (by kernel_rfl) rfl rfl ⟨(HNC.out _ HBD.out).1,(HNE.out _ HBD.out).1,(HNC.out _ HBD.out).2.2.2.2.1,(HNE.out _ HBD.out).2.2.2.2.1⟩ (fun hHeld => ?_)
          refine with_tabW now.tab23 now.bits23 (fun HT_ HW_ => ?_)
          generalize wr.drew = wd at HBD hHeld ⊢
          iterate 10 (refine pn_ 0 [(0,84,1),(1,85,3),(2,86,7),(3,87,15),(4,88,31),(6,90,95),(7,91,223),(8,92,479),(9,93,991),(10,94,2015)] (v := ?_) (a' := ?_) rfl rfl rfl HT_.out (by kernel_rfl) (Or.inl ⟨by rfl, ?_⟩) ?_ ?_;rotate_left;(· intro w';go_simp;with_reducible rfl);rotate_left;(· simp only [Act.put,sT_,sZ_,sS_,i64_w,i32_w];rfl))
          iterate 2 (refine tn_ 2015 [(5,89,2047),(11,95,4095)] (v := ?_) (a' := ?_) rfl rfl rfl HT_.out HW_.out (by kernel_rfl) (Or.inl ⟨by rfl, ?_⟩) hHeld ?_ ?_;rotate_left;(· rintro w' ⟨s0,s1,s2,s3⟩;go_simp;with_reducible rfl);rotate_left;(· simp only [Act.put,sT_,sZ_,sS_,i64_w,i32_w];rfl))
          iterate 6 (refine pn_ 4095 [(12,96,8191),(13,97,16383),(14,98,32767),(15,99,65535),(16,100,131071),(17,101,262143)] (v := ?_) (a' := ?_) rfl rfl rfl HT_.out (by kernel_rfl) (Or.inl ⟨by rfl, ?_⟩) ?_ ?_;rotate_left;(· intro w';go_simp;with_reducible rfl);rotate_left;(· simp only [Act.put,sT_,sZ_,sS_,i64_w,i32_w];rfl))
          refine tn_ 262143 [(18,102,524287)] (v := ?_) (a' := ?_) rfl rfl rfl HT_.out HW_.out (by kernel_rfl) (Or.inl ⟨by rfl, ?_⟩) hHeld ?_ ?_;rotate_left;(· rintro w' ⟨s0,s1,s2,s3⟩;go_simp;with_reducible rfl);rotate_left;(· simp only [Act.put,sT_,sZ_,sS_,i64_w,i32_w];rfl)
          iterate 3 (refine pn_ 524287 [(19,103,1048575),(20,104,2097151),(21,105,4194303)] (v := ?_) (a' := ?_) rfl rfl rfl HT_.out (by kernel_rfl) (Or.inl ⟨by rfl, ?_⟩) ?_ ?_;rotate_left;(· intro w';go_simp;with_reducible rfl);rotate_left;(· simp only [Act.put,sT_,sZ_,sS_,i64_w,i32_w];rfl))
          iterate 6 (refine pn_ 4194303 [(22,106,8388607),(23,107,16777215),(24,108,33554431),(25,109,67108863),(26,110,134217727),(27,111,268435455)] (v := undef) (a' := ?_) rfl rfl rfl HT_.out (by kernel_rfl) (Or.inr ⟨by rfl,rfl⟩) ?_ ?_;rotate_left;(· simp only [Act.put,sT_,sZ_,sS_,i64_w,i32_w];rfl))
          refine pn_ 268435455 [(28,112,536870911)] (v := ?_) (a' := ?_) rfl rfl rfl HT_.out (by kernel_rfl) (Or.inl ⟨by rfl, ?_⟩) ?_ ?_;rotate_left;(· intro w';go_simp;with_reducible rfl);rotate_left;(· simp only [Act.put,sT_,sZ_,sS_,i64_w,i32_w];rfl)
          refine done_ (done_of HT_.out (by kernel_rfl)) ?_
          clear hHeld
          go_wp2
          go_roundg gk
          case measure => omega
          case rel => exact ⟨k + 1,congrArg (Value.int .i64) HKN.out,⟨by have := HK.out;have := HKL.out;omega⟩,HBD⟩
        ·have a1 : (nd.id == ne.id) = false := by simpa using hid
         have a1' : (nd.id = ne.id) = False := eq_false hid
         clear hid
         go_wp2
         have HBD := Aside0.mk (bel_trans HB.out (below_drew (Below.refl _ _)) : Below w5.heap.size w5 wr.drew)
         clear HB
         refine start_ (n := 29) (S := fun w' => w'.cell? ⟨rb,j * 6,none⟩ = some (.int .u32 nd.id) ∧ w'.cell? ⟨rb,k * 6,none⟩ = some (.int .u32 ne.id) ∧ w'.cell? ⟨rb,j * 6 + 4,none⟩ = some (.int .u64 nd.un) ∧ w'.cell? ⟨rb,k * 6 + 4,none⟩ = some (.int .u64 ne.un)) (ds := []) (mB_ 29 0) (by kernel_rfl) rfl rfl ⟨(HNC.out _ HBD.out).1,(HNE.out _ HBD.out).1,(HNC.out _ HBD.out).2.2.2.2.1,(HNE.out _ HBD.out).2.2.2.2.1⟩ (fun hHeld => ?_)
         refine with_tabW now.tab23 now.bits23 (fun HT_ HW_ => ?_)
         generalize wr.drew = wd at HBD hHeld ⊢
         iterate 10 (refine pn_ 0 [(0,84,1),(1,85,3),(2,86,7),(3,87,15),(4,88,31),(6,90,95),(7,91,223),(8,92,479),(9,93,991),(10,94,2015)] (v := ?_) (a' := ?_) rfl rfl rfl HT_.out (by kernel_rfl) (Or.inl ⟨by rfl, ?_⟩) ?_ ?_;rotate_left;(· intro w';go_simp;with_reducible rfl);rotate_left;(· simp only [Act.put,sT_,sZ_,sS_,i64_w,i32_w];rfl))
         iterate 2 (refine tn_ 2015 [(5,89,2047),(11,95,4095)] (v := ?_) (a' := ?_) rfl rfl rfl HT_.out HW_.out (by kernel_rfl) (Or.inl ⟨by rfl, ?_⟩) hHeld ?_ ?_;rotate_left;(· rintro w' ⟨s0,s1,s2,s3⟩;go_simp;with_reducible rfl);rotate_left;(· simp only [Act.put,sT_,sZ_,sS_,i64_w,i32_w];rfl))
         iterate 2 (refine pn_ 4095 [(12,96,8191),(13,97,16383)] (v := ?_) (a' := ?_) rfl rfl rfl HT_.out (by kernel_rfl) (Or.inl ⟨by rfl, ?_⟩) ?_ ?_;rotate_left;(· intro w';go_simp;with_reducible rfl);rotate_left;(· simp only [Act.put,sT_,sZ_,sS_,i64_w,i32_w];rfl))
         iterate 6 (refine pn_ 16383 [(14,98,32767),(15,99,65535),(16,100,131071),(17,101,262143),(18,102,524287),(19,103,1048575)] (v := undef) (a' := ?_) rfl rfl rfl HT_.out (by kernel_rfl) (Or.inr ⟨by rfl,rfl⟩) ?_ ?_;rotate_left;(· simp only [Act.put,sT_,sZ_,sS_,i64_w,i32_w];rfl))
         iterate 2 (refine pn_ 1048575 [(20,104,2097151),(21,105,4194303)] (v := ?_) (a' := ?_) rfl rfl rfl HT_.out (by kernel_rfl) (Or.inl ⟨by rfl, ?_⟩) ?_ ?_;rotate_left;(· intro w';go_simp;with_reducible rfl);rotate_left;(· simp only [Act.put,sT_,sZ_,sS_,i64_w,i32_w];rfl))
         iterate 6 (refine pn_ 4194303 [(22,106,8388607),(23,107,16777215),(24,108,33554431),(25,109,67108863),(26,110,134217727),(27,111,268435455)] (v := undef) (a' := ?_) rfl rfl rfl HT_.out (by kernel_rfl) (Or.inr ⟨by rfl,rfl⟩) ?_ ?_;rotate_left;(· simp only [Act.put,sT_,sZ_,sS_,i64_w,i32_w];rfl))
         refine pn_ 268435455 [(28,112,536870911)] (v := ?_) (a' := ?_) rfl rfl rfl HT_.out (by kernel_rfl) (Or.inl ⟨by rfl, ?_⟩) ?_ ?_;rotate_left;(· intro w';go_simp;with_reducible rfl);rotate_left;(· simp only [Act.put,sT_,sZ_,sS_,i64_w,i32_w];rfl)
         refine done_ (done_of HT_.out (by kernel_rfl)) ?_
         clear hHeld
         go_wp2
         go_roundg gk
         case measure => omega
         case rel => exact ⟨k + 1,congrArg (Value.int .i64) HKN.out,⟨by have := HK.out;have := HKL.out;omega⟩,HBD⟩
       ·have p2 : decide ((k : Int) < (j : Int)) = false := decide_eq_false (by omega)
        have p2' : (k < j) = False := eq_false hk
        have p2'' : decide (k < j) = false := decide_eq_false hk
        clear hk
        go_wp2
        go_roundg go
        case measure => omega
        case rel => exact ⟨j + 1,congrArg (Value.int .i64) HJN.out,⟨by have := HJ.out;have := HJL.out;omega⟩,HB⟩
     ·have p1 : decide ((j : Int) < (x.g.l.length : Int)) = false := decide_eq_false (by omega)
      have p1' : (j < x.g.l.length) = False := eq_false hj
      have p1'' : decide (j < x.g.l.length) = false := decide_eq_false hj
      clear hj
      go_wp2
      go_ret
      exact ⟨rfl,bel_trans HB5.out HB.out⟩
theorem now_row (v1 : Value) (s1 : v1 = .slice none 0 0 ∨ ∃ a n c,v1 = .slice (some a) n c) (x1 : List OpH) {W : World} (K1 : (Kd.slice 71 kopH).K W x1 v1.cells.toList) (o1 : okOpsH x1) (_ : World) :
  Calls Try.prog 9 #[v1] W fun e w' => e = .returned (.bool true) ∧ Below W.heap.size W w' := by
 obtain ⟨A,c,rfl,g1,g2⟩ := slice_of s1 K1
 exact hnswNow_walk A c x1 W g2 o1
end Go.Proofs.Ytofmlajanopniaa.Li
