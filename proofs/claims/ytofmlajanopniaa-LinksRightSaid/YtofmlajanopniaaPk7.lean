/- Texts of this claim, one behind the other: words, walks, plain laws. No condition. -/
import Derived.Test.YtofmlajanopniaaPk1
import Derived.Test.YtofmlajanopniaaPk6
import Derived.Test.YtofmlajanopniaaPk5
set_option linter.unusedVariables false
set_option linter.unusedSimpArgs false
namespace Go.Proofs.Ytofmlajanopniaa.Li
open Go.RowKit Go.Maps Go.Proofs.YtofmlajanopniaaW.PrintWords Go.Proofs.YtofmlajanopniaaW.PrintLast Go.Proofs.YtofmlajanopniaaW.PrintMore Go.Proofs.Ytofmlajanopniaa.Q Go.Proofs.Ytofmlajanopniaa.Tk
def rwk.T9 : Bool × List (List Nat × List Nat) := (true, [([], []), ([], []), ([], []), ([], []), ([2, 3], [2, 3]), ([4], [4]), ([0, 1, 5], [0, 1, 5]), ([], []), ([], []), ([7, 8], [7, 8]), ([9], [9]), ([10], [10]), ([6, 11], [6, 11]), ([], []), ([13, 12, 6, 0, 1, 2, 3, 4, 5, 6, 7, 8, 9, 10, 11, 12, 13], [12, 13])])
def rwk.B9 : List Nat := [0, 0, 0, 0, 12, 28, 63, 0, 0, 384, 896, 1920, 4095, 0, 16383]
theorem rwk.tab9 : rtab .any (opsOf Try.f44 9) = rwk.T9 := by kernel_rfl
theorem rwk.bits9 : waitsOk rwk.T9.2 rwk.B9 = true := by kernel_rfl
def rwk.T15 : Bool × List (List Nat × List Nat) := (true, [([], []), ([0], [0]), ([], []), ([1, 2], [1, 2]), ([3], [3]), ([4], [4]), ([4], [4]), ([6, 4], [4, 6]), ([5, 7, 4], [4, 5, 7]), ([8, 4], [4, 8]), ([4], [4]), ([9, 10, 4, 4], [4, 9, 10]), ([4, 11], [4, 11])])
def rwk.B15 : List Nat := [0, 1, 0, 7, 15, 31, 31, 95, 255, 511, 31, 2047, 4095]
theorem rwk.tab15 : rtab .any (opsOf Try.f44 15) = rwk.T15 := by kernel_rfl
theorem rwk.bits15 : waitsOk rwk.T15.2 rwk.B15 = true := by kernel_rfl
def rwk.T27 : Bool × List (List Nat × List Nat) := (true, [([], []), ([], []), ([], []), ([], []), ([2, 3], [2, 3]), ([4], [4]), ([0, 1, 5], [0, 1, 5]), ([], []), ([], []), ([7, 8], [7, 8]), ([9], [9]), ([10], [10]), ([6, 11], [6, 11]), ([], []), ([13, 12, 6, 0, 1, 2, 3, 4, 5, 6, 7, 8, 9, 10, 11, 12, 13], [12, 13])])
def rwk.B27 : List Nat := [0, 0, 0, 0, 12, 28, 63, 0, 0, 384, 896, 1920, 4095, 0, 16383]
theorem rwk.tab27 : rtab .any (opsOf Try.f44 27) = rwk.T27 := by kernel_rfl
theorem rwk.bits27 : waitsOk rwk.T27.2 rwk.B27 = true := by kernel_rfl
def rwk.T28 : Bool × List (List Nat × List Nat) := (true, [([], []), ([0], [0]), ([], []), ([1, 2], [1, 2]), ([3], [3]), ([4], [4]), ([4], [4]), ([4], [4]), ([7, 4], [4, 7]), ([8, 4], [4, 8]), ([6, 9, 4], [4, 6, 9]), ([10, 4], [4, 10]), ([5, 11, 4, 4], [4, 5, 11]), ([4, 12], [4, 12])])
def rwk.B28 : List Nat := [0, 1, 0, 7, 15, 31, 31, 31, 159, 415, 991, 2015, 4095, 8191]
theorem rwk.tab28 : rtab .any (opsOf Try.f44 28) = rwk.T28 := by kernel_rfl
theorem rwk.bits28 : waitsOk rwk.T28.2 rwk.B28 = true := by kernel_rfl
theorem boxed_hit {W w' : World} {b : Nat} {d0 i0 d i : Int} (hb : W.heap[b]? = some (.cells #[.int .i64 d0, .int .u32 i0] 58 (0, 0))) (hw : (W.setCell ⟨b, 0, none⟩ (.int .i64 d)).setCell ⟨b, 1, none⟩ (.int .u32 i) = w') : w'.heap[b]? = some (.cells #[.int .i64 d, .int .u32 i] 58 (0, 0)) := by
 rw [← hw]
 exact blk_put (blk_put hb 0 _ rfl) 1 _ rfl
theorem worst_cells {w : World} {b n cap W W1 : Nat} {ao : Option Addr} {B : List H} (h : OwnH w b (.slice ao n cap) B) (hl : B.length = W) (hW : W = W1 + 1) : ∃ rb, ao = some ⟨rb, 0, none⟩ ∧ w.cell? ⟨rb, W1 * 2, none⟩ = some (.int .i64 (worstH B).f0) ∧ w.cell? ⟨rb, W1 * 2 + 1, none⟩ = some (.int .u32 (worstH B).f1) := by
 rcases OwnH.row h with ⟨_, e⟩ | ⟨r, cp, e, _⟩
 ·rw [e] at hl; simp at hl; omega
 ·injection e with e1 e2 e3
  subst e1 e2 e3
  have h1 := cells_at h (i := W1) (by omega)
  have h2 : rdH B W1 = worstH B := by
   rw [rdH_get (by omega)]
   have := worst_at hl (by omega)
   rw [show W - 1 = W1 by omega, List.getElem?_eq_getElem (by omega)] at this
   injection this
  rw [h2] at h1
  exact ⟨r, rfl, h1⟩
theorem dw_other {w wr wa w' : World} {vm vw vb vn : Value} {K : Wk} {N : List Int} (h : DW w wr vm vw vb K) (hb : Below wr.heap.size wr wa) (hN : OwnZ wr w.heap.size vn N) (hne : ∀ k, vm.ownBlock = some k → vn.ownBlock ≠ some k) (hO : Only (fun k => vn.ownBlock = some k) wa w') : DW w w' vm vw vb K := by
 have ha := h.below hb
 have hNa := hN.below hb
 have hty : ∀ k, vn.ownBlock = some k → ∀ c, wa.heap[k]? ≠ some (.cells c 58 (0, 0)) := fun k hk c hc => by
  obtain ⟨c2, hc2⟩ := own_typed hNa k hk
  exact absurd (blk_type hc hc2) (by decide)
 refine ⟨ha.met.only hO (fun k hk e => hne k hk e), ha.waits.only hO hty, own_move ha.best (fun k hk => hO.block k (own_lt ha.best k hk) (fun e => ?_)), hO.below_of ha.at0 (fun k hk => own_base hN k hk)⟩
 obtain ⟨c, hc⟩ := own_typed ha.best k hk
 exact hty k e c hc
theorem wrap_u32 {k : Nat} (h : k ≤ 1000000) : IntKind.u32.wrap (k : Int) = (k : Int) := by
 unfold IntKind.wrap
 simp only [IntKind.bits, IntKind.signed, Bool.false_and, Bool.false_eq_true, if_false]
 omega
section
variable {w0 w w' : World} {g : Nat} {F F' : Nat → Prop} {s : Gr}
set_option maxHeartbeats 64000000 in
set_option maxRecDepth 100000 in
theorem DX.walk_ (h : DX w0 w g F s) (hm : 0 ≤ s.m) (hl : s.l.length ≤ 90000) (hlk : ∀ (i : Nat) (n : Nd), s.l[i]? = some n → ∀ l ∈ n.links, l.length ≤ 90000) (A : Option Addr) (c : Nat) (q : List Int) (hq : Kd.C (Kd.int .i32) w A q.length q) (hqc : q.length ≤ c) (A2 : Option Addr) (c2 : Nat) (L : List Int) (hL : Kd.C (Kd.int .i64) w A2 L.length L) (hLl : L.length ≤ 100000) (width lv : Int) :
  Calls Try.prog 44 #[.pointer (some ⟨g, 0, none⟩), .slice A q.length c, .slice A2 L.length c2, .int .i64 width, .int .i64 lv] w fun e w' => (∃ v, e = .returned v ∧ OwnH w' w.heap.size v (walkG s q L width lv)) ∧ Below w.heap.size w w' := by
 have hu := Try.underlying58
 have hu2 := Try.underlying37
 have hu3 := Try.underlying48
 have hu5 := Try.underlying50
 have HX := Aside0.mk h
 have HLK := Aside0.mk hlk
 have HQ := Aside0.mk (And.intro hq hqc)
 have HL := Aside0.mk hL
 have HM := Aside0.mk (And.intro hm (And.intro hl hLl))
 have HWD := Aside0.mk (width_pos width)
 have HSEE := Aside0.mk (show walkG s q L width lv = walkL s q lv (widthW width) (s.l.length + 1) (walk0 s q L lv (widthW width)) from rfl)
 obtain ⟨ANS, hANS⟩ : ∃ z, walkG s q L width lv = z := ⟨_, rfl⟩
 rw [hANS] at HSEE ⊢
 obtain ⟨W, hW⟩ : ∃ z, widthW width = z := ⟨_, rfl⟩
 rw [hW] at HWD HSEE
 clear h hlk hq hqc hL hm hl hLl hANS hW
 go_enter Try.func44, Try.ntmps44
 go_wp2
 rw [HWD.out.2.2]
 go_loopg [11, 12, 13, 14] L.length (fun gk v11 v12 v13 v14 wr => ∃ (i : Nat), v14 = .int .i64 i ∧ Aside0 (i ≤ L.length ∧ L.length - i ≤ gk) ∧ Aside0 (DW w wr v11 v12 v13 (walk0 s q (L.take i) lv W)))
 case atStart => exact ⟨0, rfl, ⟨by omega⟩, ⟨⟨OwnZ.nil _ _, RH.nil _, own_nil _ _ _ _, Below.refl _ _⟩⟩⟩
 case round =>
  obtain ⟨i, rfl, HI, HW⟩ := hrel
  by_cases hi : i < L.length
  ·have q3 : decide ((i : Int) < (L.length : Int)) = true := decide_eq_true (by omega)
   have q3' : (i : Int) < (L.length : Int) := by omega
   obtain ⟨ad, rfl, cw⟩ := int_at HL.out hi
   obtain ⟨x, hx⟩ : ∃ z, L[i] = z := ⟨_, rfl⟩
   rw [hx] at cw
   have HC0 := Aside0.mk cw
   have c0 := pw_cell_below HW.out.at0 cw
   have HII := Aside0.mk hi
   have HSN := Aside0.mk (walk0_snoc (s := s) (q := q) (lv := lv) (W := W) hi)
   rw [hx] at HSN
   have hin : wrap64 ((i : Int) + 1) = ((i + 1 : Nat) : Int) := by have := HM.out; unfold wrap64; omega
   have HK0 : Aside0 (WOk s q lv (walk0 s q (L.take i) lv W)) := ⟨WOk.nil.starts _⟩
   have HG0 := Aside0.mk (gauge_walk0 (s := s) (q := q) (lv := lv) (W := W) (L.take i))
   have HWB : Aside0 (WB W (walk0 s q (L.take i) lv W)) := ⟨WB.starts (k := ⟨[], [], []⟩) (Nat.zero_le _) _⟩
   generalize walk0 s q (L.take i) lv W = KW at HW HSN HK0 HG0 HWB
   have HLEN := Aside0.mk (show KW.met.length ≤ 90000 ∧ KW.waits.length ≤ 90000 ∧ KW.best.length ≤ 256 by have h1 := HG0.out; have h2 := HK0.out.met_len; have h3 := HM.out; have h4 : KW.best.length ≤ W := HWB.out; have h5 := HWD.out; unfold gaugeW at h1; omega)
   obtain ⟨az, cz, rfl, hcz, hCZ⟩ := HW.out.met.C
   obtain ⟨ah, ch, rfl, hrh⟩ := HW.out.waits.reads
   obtain ⟨ab, cb, rfl, hrb⟩ := OwnH.R HW.out.best
   have HCZ := Aside0.mk (And.intro hcz hCZ)
   obtain ⟨gm, rfl⟩ := gk_pos HI.out HII.out
   clear hx hi cw hcz hCZ hrh hrb
   cases ht : s.there x lv with
   | false =>
    have HT := Aside0.mk ht
    clear ht
    go_wp2_with (go_at_call 41; (with_reducible refine ((HX.out.below HW.out.at0).there_ x lv _ HT.out).mono ?_); rintro e w3 ⟨rfl, hb⟩; have HW3 := Aside0.mk (HW.out.below hb); clear hb c0)
    go_roundg gm
    case measure => omega
    case rel =>
     refine ⟨i + 1, by go_num, ⟨gk_next HI.out HII.out⟩, ⟨?_⟩⟩
     rw [HSN.out, start_no (by rw [HT.out]; rfl)]
     exact HW3.out
   | true =>
    obtain ⟨k, j, n, rfl, -, hn, -⟩ := there_iff.1 ht
    have HKL := Aside0.mk ((List.getElem?_eq_some_iff.1 hn).1)
    have HT := Aside0.mk ht
    clear hn ht
    cases hc : KW.met.contains (k : Int) with
    | true =>
     have HC := Aside0.mk hc
     clear hc
     go_wp2_with (first | (have := HW3; go_at_call 23; go_must (with_reducible refine (has_calls az cz _ k _ (OwnZ.cc HW3.out.met) HCZ.out.1 (by have := HLEN.out; omega) _ HC.out).mono ?_); rintro e w4 ⟨rfl, hb⟩; have HW4 := Aside0.mk (HW3.out.below hb); clear hb c0) | (go_at_call 41; (with_reducible refine ((HX.out.below HW.out.at0).there_ k lv _ HT.out).mono ?_); rintro e w3 ⟨rfl, hb⟩; have HW3 := Aside0.mk (HW.out.below hb); replace c0 := pw_cell_below hb c0; clear hb))
     go_roundg gm
     case measure => omega
     case rel =>
      refine ⟨i + 1, by go_num, ⟨gk_next HI.out HII.out⟩, ⟨?_⟩⟩
      rw [HSN.out, start_no (by rw [HT.out, HC.out]; rfl)]
      exact HW4.out
    | false =>
     have HC := Aside0.mk hc
     have HWK := Aside0.mk (wrap_u32 (k := k) (by have := HKL.out; have := HM.out; omega))
     clear hc
     go_wp2_with (first | (have := HW4; at_builtin; go_must (refine app_Z rfl _ _ rfl w.heap.size _ KW.met [(k : Int)] (some ⟨w4.heap.size, 0, none⟩) 1 1 rfl rfl rfl (HW4.out.met.below (below_alloc (Below.refl _ _) _)) (lit_Z w4 k) (fun e => by cases e) (by have := HLEN.out; simp only [List.length_cons, List.length_nil]; omega) (by rw [World.size_alloc]; have := HW4.out.at0.size; omega) ?_); intro v5 w5 hv hO hat; have HW5 := Aside0.mk (HW4.out.meet (below_alloc (Below.refl _ _) _) hv hO); clear hv hO hat c0) | (have := HW3; go_at_call 23; go_must (with_reducible refine (has_calls az cz _ k _ (OwnZ.cc HW3.out.met) HCZ.out.1 (by have := HLEN.out; omega) _ HC.out).mono ?_); rintro e w4 ⟨rfl, hb⟩; have HW4 := Aside0.mk (HW3.out.below hb); replace c0 := pw_cell_below hb c0; clear hb) | (go_at_call 41; (with_reducible refine ((HX.out.below HW.out.at0).there_ k lv _ HT.out).mono ?_); rintro e w3 ⟨rfl, hb⟩; have HW3 := Aside0.mk (HW.out.below hb); replace c0 := pw_cell_below hb c0; clear hb))
     have HWD9 := Aside0.mk (HW5.out.below (below_drew (Below.refl _ _)))
     have HCD9 := Aside0.mk (pw_cell_below HWD9.out.at0 HC0.out)
     refine start_ (n := 15) (S := fun w' => w'.cell? (ad.add i) = some (.int .i64 k)) (ds := [14]) #[false, false, false, false, false, false, false, false, false, false, false, false, false, false, false] (by kernel_rfl) rfl rfl (HCD9.out) (fun hHeld => ?_)
     refine with_tabW rwk.tab9 rwk.bits9 (fun HT_ HW_ => ?_)
     generalize w5.drew = wd at HWD9 HCD9 hHeld ⊢
     have HB9 := Aside0.mk (Below.refl wd.heap.size wd)
     refine pure_ (i := 0) (N := some 53) (v := ?_) (a' := ?_) #[true, false, false, false, false, false, false, false, false, false, false, false, false, false, false] rfl rfl (any_of HT_.out (by kernel_rfl)) (fun _ _ _ h => h) (Or.inl ⟨by rfl, ?_⟩) ?_ ?_
     rotate_left
     ·intro w'
      go_simp
      with_reducible rfl
     rotate_left
     ·simp only [Act.put, sT_, sZ_, sS_, i64_w, i32_w]
      rfl
     refine pure_ (i := 1) (N := some 54) (v := ?_) (a' := ?_) #[true, true, false, false, false, false, false, false, false, false, false, false, false, false, false] rfl rfl (any_of HT_.out (by kernel_rfl)) (fun _ _ _ h => h) (Or.inl ⟨by rfl, ?_⟩) ?_ ?_
     rotate_left
     ·intro w'
      go_simp
      with_reducible rfl
     rotate_left
     ·simp only [Act.put, sT_, sZ_, sS_, i64_w, i32_w]
      rfl
     refine pure_ (i := 2) (N := some 55) (v := ?_) (a' := ?_) #[true, true, true, false, false, false, false, false, false, false, false, false, false, false, false] rfl rfl (any_of HT_.out (by kernel_rfl)) (fun _ _ _ h => h) (Or.inl ⟨by rfl, ?_⟩) ?_ ?_
     rotate_left
     ·intro w'
      go_simp
      with_reducible rfl
     rotate_left
     ·simp only [Act.put, sT_, sZ_, sS_, i64_w, i32_w]
      rfl
     refine pure_ (i := 3) (N := some 56) (v := ?_) (a' := ?_) #[true, true, true, true, false, false, false, false, false, false, false, false, false, false, false] rfl rfl (any_of HT_.out (by kernel_rfl)) (fun _ _ _ h => h) (Or.inl ⟨by rfl, ?_⟩) ?_ ?_
     rotate_left
     ·intro w'
      go_simp
      with_reducible rfl
     rotate_left
     ·simp only [Act.put, sT_, sZ_, sS_, i64_w, i32_w]
      rfl
     refine pure_ (i := 4) (N := some 57) (v := ?_) (a' := ?_) #[true, true, true, true, true, false, false, false, false, false, false, false, false, false, false] rfl rfl (any_of HT_.out (by kernel_rfl)) (fun _ _ _ h => h) (Or.inl ⟨by rfl, ?_⟩) ?_ ?_
     rotate_left
     ·intro w'
      go_simp
      with_reducible rfl
     rotate_left
     ·simp only [Act.put, sT_, sZ_, sS_, i64_w, i32_w]
      rfl
     refine pure_ (i := 7) (N := some 60) (v := ?_) (a' := ?_) #[true, true, true, true, true, false, false, true, false, false, false, false, false, false, false] rfl rfl (any_of HT_.out (by kernel_rfl)) (fun _ _ _ h => h) (Or.inl ⟨by rfl, ?_⟩) ?_ ?_
     rotate_left
     ·intro w'
      go_simp
      with_reducible rfl
     rotate_left
     ·simp only [Act.put, sT_, sZ_, sS_, i64_w, i32_w]
      rfl
     refine pure_ (i := 8) (N := some 61) (v := ?_) (a' := ?_) #[true, true, true, true, true, false, false, true, true, false, false, false, false, false, false] rfl rfl (any_of HT_.out (by kernel_rfl)) (fun _ _ _ h => h) (Or.inl ⟨by rfl, ?_⟩) ?_ ?_
     rotate_left
     ·intro w'
      go_simp
      with_reducible rfl
     rotate_left
     ·simp only [Act.put, sT_, sZ_, sS_, i64_w, i32_w]
      rfl
     refine pure_ (i := 9) (N := some 62) (v := ?_) (a' := ?_) #[true, true, true, true, true, false, false, true, true, true, false, false, false, false, false] rfl rfl (any_of HT_.out (by kernel_rfl)) (fun _ _ _ h => h) (Or.inl ⟨by rfl, ?_⟩) ?_ ?_
     rotate_left
     ·intro w'
      go_simp
      with_reducible rfl
     rotate_left
     ·simp only [Act.put, sT_, sZ_, sS_, i64_w, i32_w]
      rfl
     refine take_ (i := 5) (N := some 58) (v := ?_) (a' := ?_) #[true, true, true, true, true, true, false, true, true, true, false, false, false, false, false] rfl rfl (take_ofW HT_.out HW_.out (by kernel_rfl)) (fun _ _ _ h => h) (Or.inl ⟨by rfl, ?_⟩) hHeld ?_ ?_
     rotate_left
     ·intro w' s0
      go_simp
      with_reducible rfl
     rotate_left
     ·simp only [Act.put, sT_, sZ_, sS_, i64_w, i32_w]
      rfl
     refine take_ (i := 10) (N := some 63) (v := ?_) (a' := ?_) #[true, true, true, true, true, true, false, true, true, true, true, false, false, false, false] rfl rfl (take_ofW HT_.out HW_.out (by kernel_rfl)) (fun _ _ _ h => h) (Or.inl ⟨by rfl, ?_⟩) hHeld ?_ ?_
     rotate_left
     ·intro w' s0
      go_simp
      with_reducible rfl
     rotate_left
     ·simp only [Act.put, sT_, sZ_, sS_, i64_w, i32_w]
      rfl
     refine pure_ (i := 11) (N := some 64) (v := ?_) (a' := ?_) #[true, true, true, true, true, true, false, true, true, true, true, true, false, false, false] rfl rfl (any_of HT_.out (by kernel_rfl)) (fun _ _ _ h => h) (Or.inl ⟨by rfl, ?_⟩) ?_ ?_
     rotate_left
     ·intro w'
      go_simp
      with_reducible rfl
     rotate_left
     ·simp only [Act.put, sT_, sZ_, sS_, i64_w, i32_w]
      rfl
     refine join_ (σ := Nat) 1 #[true, true, true, true, true, true, true, true, true, true, true, true, true, true, false] (fun b_ => [(59, .int .i64 (s.far q k)), (15, .pointer (some ⟨b_, 0, none⟩)), (65, .agg #[.int .i64 (s.far q k), .int .u32 (IntKind.u32.wrap (k : Int))])]) (fun b_ w' => Below wd.heap.size wd w' ∧ w'.cell? (ad.add i) = some (.int .i64 k) ∧ (World.heap w')[b_]? = some (.cells #[.int .i64 0, .int .u32 0] 58 (0, 0)) ∧ wd.heap.size ≤ b_) ?_ ?_
     rotate_left
     ·intro hCont
      refine two_ (i := 6) (j := 13) (Ni := some 59) (Nj := some 15) #[true, true, true, true, true, true, true, true, true, true, true, true, false, false, false] #[true, true, true, true, true, true, false, true, true, true, true, true, false, true, false] rfl rfl rfl rfl (two_of HT_.out (by kernel_rfl)) (by decide) (by decide) (fun K hK => ?_) (fun K hK => ?_)
      ·skip
       refine goes_ Try.func74 (by kernel_rfl) rfl #[.pointer (some ⟨g, 0, none⟩), .slice A q.length c, .int .i64 k] (by rfl) rfl rfl (by simp only [List.map_toArray, List.map_cons, List.map_nil]; rfl) ?_
       with_reducible refine ((HX.out.below (bel_trans HWD9.out.at0 HB9.out)).far_ HM.out.1 A c q (Kd.C_below HQ.out.1 (bel_trans HWD9.out.at0 HB9.out)) HQ.out.2 k HKL.out).mono ?_
       rintro e w7 ⟨rfl, hb⟩
       refine ⟨_, rfl, ?_⟩
       have NHB9 := Aside0.mk (bel_trans HB9.out hb)
       clear hb
       clear HB9
       have HB9 := NHB9
       clear NHB9
       refine hK.out _ _ ((pw_cell_below HB9.out HCD9.out)) (fun hHeld => ?_)
       clear hK K
       refine norm_ (a' := ?_) ?_ ?_
       rotate_left
       ·show Act.put _ (some 59) _ = _
        simp only [Act.put, sT_, sZ_, sS_, i64_w, i32_w]
        rfl
       refine pure_ (i := 12) (N := some 65) (v := ?_) (a' := ?_) #[true, true, true, true, true, true, true, true, true, true, true, true, true, false, false] rfl rfl (any_of HT_.out (by kernel_rfl)) (fun _ _ _ h => h) (Or.inl ⟨by rfl, ?_⟩) ?_ ?_
       rotate_left
       ·intro w'
        go_simp
        with_reducible rfl
       rotate_left
       ·simp only [Act.put, sT_, sZ_, sS_, i64_w, i32_w]
        rfl
       refine one_ (i := 13) (N := some 15) #[true, true, true, true, true, true, true, true, true, true, true, true, true, true, false] rfl rfl (one_of HT_.out (by kernel_rfl)) (by decide) (fun K hK => ?_)
       refine value_ (w1 := ?_) (v := ?_) (by rfl) rfl ?_ ?_
       rotate_left 2
       ·go_simp
        constructor
        ·rfl
        ·rfl
       have HBX := Aside0.mk (by have h := heap_alloc_new w7 (.cells #[.int .i64 0, .int .u32 0] 58); (try simp only [World.size_alloc] at h); exact h)
       have HYN := Aside0.mk (by have h := HB9.out.size; (try simp only [World.size_alloc] at h); exact h)
       have NHB9 := Aside0.mk (bel_alloc HB9.out (.cells #[.int .i64 0, .int .u32 0] 58))
       clear HB9
       have HB9 := NHB9
       clear NHB9
       refine hK.out _ _ ((pw_cell_below HB9.out HCD9.out)) (fun hHeld => ?_)
       clear hK K
       refine norm_ (a' := ?_) ?_ ?_
       rotate_left
       ·show Act.put _ (some 15) _ = _
        simp only [Act.put, sT_, sZ_, sS_, i64_w, i32_w]
        rfl
       exact norm_ (by simp only [Go.Proofs.YtofmlajanopniaaW.PrintLast.putAll, Act.put, sT_, sZ_, sS_]) (hCont (World.heap w7).size _ ⟨HB9.out, (pw_cell_below HB9.out HCD9.out), HBX.out, HYN.out⟩)
      ·skip
       refine value_ (w1 := ?_) (v := ?_) (by rfl) rfl ?_ ?_
       rotate_left 2
       ·go_simp
        constructor
        ·rfl
        ·rfl
       have HBX := Aside0.mk (by have h := heap_alloc_new wd (.cells #[.int .i64 0, .int .u32 0] 58); (try simp only [World.size_alloc] at h); exact h)
       have HYN := Aside0.mk (by have h := HB9.out.size; (try simp only [World.size_alloc] at h); exact h)
       have NHB9 := Aside0.mk (bel_alloc HB9.out (.cells #[.int .i64 0, .int .u32 0] 58))
       clear HB9
       have HB9 := NHB9
       clear NHB9
       refine hK.out _ _ ((pw_cell_below HB9.out HCD9.out)) (fun hHeld => ?_)
       clear hK K
       refine norm_ (a' := ?_) ?_ ?_
       rotate_left
       ·show Act.put _ (some 15) _ = _
        simp only [Act.put, sT_, sZ_, sS_, i64_w, i32_w]
        rfl
       refine one_ (i := 6) (N := some 59) #[true, true, true, true, true, true, true, true, true, true, true, true, false, true, false] rfl rfl (one_of HT_.out (by kernel_rfl)) (by decide) (fun K hK => ?_)
       refine goes_ Try.func74 (by kernel_rfl) rfl #[.pointer (some ⟨g, 0, none⟩), .slice A q.length c, .int .i64 k] (by rfl) rfl rfl (by simp only [List.map_toArray, List.map_cons, List.map_nil]; rfl) ?_
       with_reducible refine ((HX.out.below (bel_trans HWD9.out.at0 HB9.out)).far_ HM.out.1 A c q (Kd.C_below HQ.out.1 (bel_trans HWD9.out.at0 HB9.out)) HQ.out.2 k HKL.out).mono ?_
       rintro e w7 ⟨rfl, hb⟩
       refine ⟨_, rfl, ?_⟩
       have NHB9 := Aside0.mk (bel_trans HB9.out hb)
       have NHBX := Aside0.mk (blk_below HBX.out hb)
       clear hb
       clear HB9 HBX
       have HB9 := NHB9
       have HBX := NHBX
       clear NHB9 NHBX
       refine hK.out _ _ ((pw_cell_below HB9.out HCD9.out)) (fun hHeld => ?_)
       clear hK K
       refine norm_ (a' := ?_) ?_ ?_
       rotate_left
       ·show Act.put _ (some 59) _ = _
        simp only [Act.put, sT_, sZ_, sS_, i64_w, i32_w]
        rfl
       refine pure_ (i := 12) (N := some 65) (v := ?_) (a' := ?_) #[true, true, true, true, true, true, true, true, true, true, true, true, true, true, false] rfl rfl (any_of HT_.out (by kernel_rfl)) (fun _ _ _ h => h) (Or.inl ⟨by rfl, ?_⟩) ?_ ?_
       rotate_left
       ·intro w'
        go_simp
        with_reducible rfl
       rotate_left
       ·simp only [Act.put, sT_, sZ_, sS_, i64_w, i32_w]
        rfl
       exact norm_ (by simp only [Go.Proofs.YtofmlajanopniaaW.PrintLast.putAll, Act.put, sT_, sZ_, sS_]) (hCont (World.heap wd).size _ ⟨HB9.out, (pw_cell_below HB9.out HCD9.out), HBX.out, HYN.out⟩)
     rintro b9 w8 ⟨h1, h2, h3, h4⟩
     clear HB9
     have HB8 := Aside0.mk (show Below wd.heap.size wd w8 from h1)
     have HX8 := Aside0.mk (show (World.heap w8)[b9]? = some (.cells #[.int .i64 0, .int .u32 0] 58 (0, 0)) from h3)
     have HYN := Aside0.mk (show wd.heap.size ≤ b9 from h4)
     clear h1 h3 h4
     have hHeld := h2
     refine norm_ (a' := ?_) ?_ ?_
     rotate_left
     ·simp only [Go.Proofs.YtofmlajanopniaaW.PrintLast.putAll, Act.put, sT_, sZ_, sS_]
      rfl
     refine last_ (i := 14) (N := none) #[true, true, true, true, true, true, true, true, true, true, true, true, true, true, true] rfl rfl (one_of HT_.out (by kernel_rfl)) (by decide) (fun K hK => ?_)
     have z0 := (blk_cell HX8.out 0).trans rfl
     have z1 := (blk_cell HX8.out 1).trans rfl
     have fz : ∀ j, w8.frozen? ⟨b9, j, none⟩ = false := fun j => blk_frozen HX8.out j
     refine skip_ (w1 := ?_) (by rfl) rfl ?_ ?_
     rotate_left
     ·go_simp
      rfl
     clear z0 z1 fz
     refine hK.out _ _ ?_
     clear hK K
     refine done_ (done_of HT_.out (by kernel_rfl)) ?_
     clear hHeld
     rw [HWK.out]
     obtain ⟨w9, hw9⟩ : ∃ z, (w8.setCell ⟨b9, 0, none⟩ (.int .i64 (s.far q k))).setCell ⟨b9, 1, none⟩ (.int .u32 k) = z := ⟨_, rfl⟩
     have HX9 := Aside0.mk (boxed_hit HX8.out hw9)
     have HW9 := Aside0.mk (HWD9.out.below (show Below wd.heap.size wd w9 by rw [← hw9]; exact below_set (below_set HB8.out HYN.out) HYN.out))
     rw [hw9]
     have b0 := (blk_cell HX9.out 0).trans rfl
     have b1 := (blk_cell HX9.out 1).trans rfl
     clear hw9 HWD9 HCD9 HX8 HB8 HYN
     go_wp2_with (first | (have := HW11; go_at_call 75; go_must (with_reducible refine (rfirst_own HW11.out W (by have := HLEN.out; rw [intoL_len]; omega)).mono ?_); rintro e w12 ⟨⟨v12, rfl, hv⟩, hb⟩; have HW12 := Aside0.mk ((HW10.out.below HB11.out).keep hb hv); clear hv hb) | (have := HW10; go_at_call 73; go_must (with_reducible refine (rinto_calls ab cb KW.best (s.far q k) k _ (OwnH.reads_ HW10.out.best) (by have := HLEN.out; omega)).mono ?_); rintro e w11 ⟨⟨v11, rfl, hv⟩, hb⟩; have HB11 := Aside0.mk hb; have HW11 := Aside0.mk hv; clear hv hb) | (go_at_call 73; go_must (with_reducible refine (rinto_calls ah ch KW.waits (s.far q k) k _ (RH.reads_ HW9.out.waits) (by have := HLEN.out; omega)).mono ?_); rintro e w10 ⟨⟨v10, rfl, hv⟩, hb⟩; have HW10 := Aside0.mk (HW9.out.wait hb hv); have b0 := pw_cell_below hb b0; have b1 := pw_cell_below hb b1; clear hv hb))
     go_roundg gm
     case measure => omega
     case rel =>
      refine ⟨i + 1, by go_num, ⟨gk_next HI.out HII.out⟩, ⟨?_⟩⟩
      rw [HSN.out, start_yes HT.out HC.out]
      exact HW12.out
  ·have q3 : decide ((i : Int) < (L.length : Int)) = false := decide_eq_false (by omega)
   have q4 : decide (i < L.length) = false := decide_eq_false hi
   have HI0 := Aside0.mk (show i = L.length by have := HI.out; omega)
   rw [HI0.out, List.take_length] at HW
   clear hi HI HI0
   have HG0 := Aside0.mk (gauge_walk0 (s := s) (q := q) (lv := lv) (W := W) L)
   have HK0 : Aside0 (WOk s q lv (walk0 s q L lv W)) := ⟨WOk.nil.starts L⟩
   have HWB : Aside0 (WB W (walk0 s q L lv W)) := ⟨WB.starts (k := ⟨[], [], []⟩) (Nat.zero_le _) L⟩
   generalize walk0 s q L lv W = K0 at HW HSEE HG0 HK0 HWB
   go_wp2
   clear q3 q4
   go_loopg [11, 12, 13] (s.l.length + 1) (fun gk v11 v12 v13 wr => ∃ (f : Nat) (KW : Wk), Aside0 (f ≤ gk) ∧ Aside0 (walkL s q lv W f KW = ANS ∧ gaugeW s KW ≤ f ∧ f ≤ s.l.length + 1) ∧ Aside0 (WOk s q lv KW) ∧ Aside0 (WB W KW) ∧ Aside0 (DW w wr v11 v12 v13 KW))
   case atStart => exact ⟨s.l.length + 1, K0, ⟨Nat.le_refl _⟩, ⟨HSEE.out.symm, by rw [HG0.out]; omega, Nat.le_refl _⟩, HK0, HWB, HW⟩
   case round =>
    clear HW HSEE HG0 HK0 HWB
    obtain ⟨f, KW, HF, HS, HK, HWB, HW⟩ := hrel
    cases hwt : KW.waits with
    | nil =>
     have HAN := Aside0.mk (show KW.best = ANS by rw [← HS.out.1, walkL_done f hwt])
     obtain ⟨ao, cp, rfl, hr⟩ := HW.out.waits.reads
     rw [hwt]
     clear hr hwt
     go_wp2
     go_ret
     exact ⟨⟨_, rfl, by rw [← HAN.out]; exact HW.out.best⟩, HW.out.at0⟩
    | cons hc rest =>
     have HWT := Aside0.mk hwt
     have hrh := HW.out.waits
     rw [hwt] at hrh
     obtain ⟨r, off, n, cap, rfl, hnr, c0, c1, HRR, hnc⟩ := hrh.cons
     obtain ⟨n1, hn1⟩ : ∃ z, n + 1 = z := ⟨_, rfl⟩
     obtain ⟨cap1, hcap1⟩ : ∃ z, cap + 1 = z := ⟨_, rfl⟩
     rw [hn1, hcap1] at HW ⊢
     have q1 : decide ((0 : Int) < (n1 : Int)) = true := decide_eq_true (by omega)
     have q1' : decide (0 < n1) = true := decide_eq_true (by omega)
     have q2 : 0 < n1 := by omega
     have q2' : 1 ≤ n1 := by omega
     have q2'' : (0 : Int) < (n1 : Int) := by omega
     have q5 : n1 ≤ cap1 := by omega
     have HRR := Aside0.mk HRR
     have HN1 := Aside0.mk (And.intro hn1 hcap1)
     clear hwt hrh hn1 hcap1
     have HBX0 := Aside0.mk (heap_alloc_new wr (.cells #[.int .i64 hc.f0, .int .u32 hc.f1] 58))
     have HBA0 := Aside0.mk (below_alloc (Below.refl wr.heap.size wr) (.cells #[.int .i64 hc.f0, .int .u32 hc.f1] 58))
     go_upto_region 14 with (fail)
     go_cut [12] (fun v12 wc => wc = wr.alloc (.cells #[.int .i64 hc.f0, .int .u32 hc.f1] 58) ∧ ∃ (ah : Option Addr) (ch : Nat), v12 = .slice ah rest.length ch ∧ Aside0 (RH wr v12 rest))
     case first =>
      go_wp2
      all_goals go_meet
      all_goals first
       | exact ⟨rfl, some ⟨r, off, none⟩, 0, by rw [show n1 - 1 = rest.length by have := HN1.out; omega], ⟨by rw [show n1 - 1 = rest.length by have := HN1.out; omega]; exact RH.zero (off2 := off + 2) (n := n) (by have h1 := HRR.out; rwa [show cap = 0 by have := HN1.out; omega] at h1) off⟩⟩
       | exact ⟨rfl, some ⟨r, off + 2, none⟩, cap1 - 1, by rw [show n1 - 1 = rest.length by have := HN1.out; omega], ⟨by have h1 := HRR.out; rwa [show n = n1 - 1 by have := HN1.out; omega, show cap = cap1 - 1 by have := HN1.out; omega] at h1⟩⟩
     case rest =>
      obtain ⟨rfl, ah, ch, rfl, HR12⟩ := hcut
      have HWb := Aside0.mk (DW.mk HW.out.met HR12.out HW.out.best HW.out.at0 : DW w wr _ _ _ ⟨KW.met, rest, KW.best⟩)
      have HWo := Aside0.mk (HWb.out.below HBA0.out)
      generalize wr.alloc (.cells #[.int .i64 hc.f0, .int .u32 hc.f1] 58) = wo at HBX0 HWo ⊢
      obtain ⟨bo, hbo⟩ : ∃ z, wr.heap.size = z := ⟨_, rfl⟩
      rw [hbo] at HBX0 ⊢
      have HF1 := Aside0.mk (show 1 ≤ f by have h1 := HS.out.2.1; have h2 := HK.out.met_len; have h3 : KW.waits.length = rest.length + 1 := (by rw [HWT.out]; rfl); unfold gaugeW at h1; omega)
      obtain ⟨go, rfl⟩ : ∃ z, gk = z + 1 := ⟨gk - 1, by have := HF.out; have := HF1.out; omega⟩
      obtain ⟨late, hlate⟩ : ∃ z, lateH W KW.best hc = z := ⟨_, rfl⟩
      have HLATE := Aside0.mk hlate
      have HK2 := Aside0.mk (HK.out.pop HWT.out).1
      obtain ⟨ab, cb, rfl, hrb⟩ := OwnH.R HW.out.best
      clear hlate hbo HBA0 HWb HR12 HRR HW HN1 q1 q1' q2 q2' q2'' q5 c0 c1 hrb hnr hnc
      go_upto_region 15 with (fail)
      go_cut [94] (fun v94 wc => v94 = .bool late ∧ Aside0 (Below wo.heap.size wo wc))
      case first =>
       cases hfu : decide (KW.best.length = W) with
       | false =>
        have HLF := Aside0.mk (show late = false by rw [← HLATE.out]; unfold lateH; rw [hfu]; rfl)
        have p1 : decide ((KW.best.length : Int) = (W : Int)) = false := decide_eq_false (by have := of_decide_eq_false hfu; omega)
        have p2 : ((KW.best.length : Int) == (W : Int)) = false := beq_eq_false_iff_ne.2 (by have := of_decide_eq_false hfu; omega)
        clear hfu
        have HBD := Aside0.mk ((below_drew (Below.refl _ _)) : Below wo.heap.size wo wo.drew)
        refine start_ (n := 13) (S := fun w' => True) (ds := []) #[false, false, false, false, false, false, false, false, false, false, false, false, false] (by kernel_rfl) rfl rfl trivial (fun hHeld => ?_)
        refine with_tabW rwk.tab15 rwk.bits15 (fun HT_ HW_ => ?_)
        generalize wo.drew = wd at HBD hHeld ⊢
        refine pure_ (i := 0) (N := some 82) (v := ?_) (a' := ?_) #[true, false, false, false, false, false, false, false, false, false, false, false, false] rfl rfl (any_of HT_.out (by kernel_rfl)) (fun _ _ _ h => h) (Or.inl ⟨by rfl, ?_⟩) ?_ ?_
        rotate_left
        ·intro w'
         go_simp
         with_reducible rfl
        rotate_left
        ·simp only [Act.put, sT_, sZ_, sS_, i64_w, i32_w]
         rfl
        refine pure_ (i := 1) (N := some 83) (v := ?_) (a' := ?_) #[true, true, false, false, false, false, false, false, false, false, false, false, false] rfl rfl (any_of HT_.out (by kernel_rfl)) (fun _ _ _ h => h) (Or.inl ⟨by rfl, ?_⟩) ?_ ?_
        rotate_left
        ·intro w'
         go_simp
         with_reducible rfl
        rotate_left
        ·simp only [Act.put, sT_, sZ_, sS_, i64_w, i32_w]
         rfl
        refine pure_ (i := 2) (N := some 84) (v := ?_) (a' := ?_) #[true, true, true, false, false, false, false, false, false, false, false, false, false] rfl rfl (any_of HT_.out (by kernel_rfl)) (fun _ _ _ h => h) (Or.inl ⟨by rfl, ?_⟩) ?_ ?_
        rotate_left
        ·intro w'
         go_simp
         with_reducible rfl
        rotate_left
        ·simp only [Act.put, sT_, sZ_, sS_, i64_w, i32_w]
         rfl
        refine pure_ (i := 3) (N := some 85) (v := ?_) (a' := ?_) #[true, true, true, true, false, false, false, false, false, false, false, false, false] rfl rfl (any_of HT_.out (by kernel_rfl)) (fun _ _ _ h => h) (Or.inl ⟨by rfl, ?_⟩) ?_ ?_
        rotate_left
        ·intro w'
         go_simp
         with_reducible rfl
        rotate_left
        ·simp only [Act.put, sT_, sZ_, sS_, i64_w, i32_w]
         rfl
        refine pure_ (i := 4) (N := some 86) (v := ?_) (a' := ?_) #[true, true, true, true, true, false, false, false, false, false, false, false, false] rfl rfl (any_of HT_.out (by kernel_rfl)) (fun _ _ _ h => h) (Or.inl ⟨by rfl, ?_⟩) ?_ ?_
        rotate_left
        ·intro w'
         go_simp
         with_reducible rfl
        rotate_left
        ·simp only [Act.put, sT_, sZ_, sS_, i64_w, i32_w]
         rfl
        refine pure_ (i := 5) (N := some 87) (v := undef) (a' := ?_) #[true, true, true, true, true, true, false, false, false, false, false, false, false] rfl rfl (any_of HT_.out (by kernel_rfl)) (fun _ _ _ h => h) (Or.inr ⟨by rfl, rfl⟩) ?_ ?_
        rotate_left
        ·simp only [Act.put, sT_, sZ_, sS_, i64_w, i32_w]
         rfl
        refine pure_ (i := 6) (N := some 88) (v := undef) (a' := ?_) #[true, true, true, true, true, true, true, false, false, false, false, false, false] rfl rfl (any_of HT_.out (by kernel_rfl)) (fun _ _ _ h => h) (Or.inr ⟨by rfl, rfl⟩) ?_ ?_
        rotate_left
        ·simp only [Act.put, sT_, sZ_, sS_, i64_w, i32_w]
         rfl
        refine pure_ (i := 7) (N := some 89) (v := undef) (a' := ?_) #[true, true, true, true, true, true, true, true, false, false, false, false, false] rfl rfl (any_of HT_.out (by kernel_rfl)) (fun _ _ _ h => h) (Or.inr ⟨by rfl, rfl⟩) ?_ ?_
        rotate_left
        ·simp only [Act.put, sT_, sZ_, sS_, i64_w, i32_w]
         rfl
        refine pure_ (i := 8) (N := some 90) (v := undef) (a' := ?_) #[true, true, true, true, true, true, true, true, true, false, false, false, false] rfl rfl (any_of HT_.out (by kernel_rfl)) (fun _ _ _ h => h) (Or.inr ⟨by rfl, rfl⟩) ?_ ?_
        rotate_left
        ·simp only [Act.put, sT_, sZ_, sS_, i64_w, i32_w]
         rfl
        refine pure_ (i := 9) (N := some 91) (v := undef) (a' := ?_) #[true, true, true, true, true, true, true, true, true, true, false, false, false] rfl rfl (any_of HT_.out (by kernel_rfl)) (fun _ _ _ h => h) (Or.inr ⟨by rfl, rfl⟩) ?_ ?_
        rotate_left
        ·simp only [Act.put, sT_, sZ_, sS_, i64_w, i32_w]
         rfl
        refine pure_ (i := 10) (N := some 92) (v := undef) (a' := ?_) #[true, true, true, true, true, true, true, true, true, true, true, false, false] rfl rfl (any_of HT_.out (by kernel_rfl)) (fun _ _ _ h => h) (Or.inr ⟨by rfl, rfl⟩) ?_ ?_
        rotate_left
        ·simp only [Act.put, sT_, sZ_, sS_, i64_w, i32_w]
         rfl
        refine pure_ (i := 11) (N := some 93) (v := undef) (a' := ?_) #[true, true, true, true, true, true, true, true, true, true, true, true, false] rfl rfl (any_of HT_.out (by kernel_rfl)) (fun _ _ _ h => h) (Or.inr ⟨by rfl, rfl⟩) ?_ ?_
        rotate_left
        ·simp only [Act.put, sT_, sZ_, sS_, i64_w, i32_w]
         rfl
        refine pure_ (i := 12) (N := some 94) (v := ?_) (a' := ?_) #[true, true, true, true, true, true, true, true, true, true, true, true, true] rfl rfl (any_of HT_.out (by kernel_rfl)) (fun _ _ _ h => h) (Or.inl ⟨by rfl, ?_⟩) ?_ ?_
        rotate_left
        ·intro w'
         go_simp
         with_reducible rfl
        rotate_left
        ·simp only [Act.put, sT_, sZ_, sS_, i64_w, i32_w]
         rfl
        refine done_ (done_of HT_.out (by kernel_rfl)) ?_
        clear hHeld
        go_wp2
        go_meet
        exact ⟨by rw [HLF.out], HBD⟩
       | true =>
        have HLT := Aside0.mk (show ltH ⟨(worstH KW.best).f0, (worstH KW.best).f1⟩ ⟨hc.f0, hc.f1⟩ = late by rw [← HLATE.out]; unfold lateH; rw [hfu]; rfl)
        have p1 : decide ((KW.best.length : Int) = (W : Int)) = true := decide_eq_true (by have := of_decide_eq_true hfu; omega)
        have p2 : ((KW.best.length : Int) == (W : Int)) = true := beq_iff_eq.2 (by have := of_decide_eq_true hfu; omega)
        obtain ⟨W1, hW1⟩ : ∃ z, W = z + 1 := ⟨W - 1, by have := HWD.out; omega⟩
        have p3 : IntKind.i64.wrap ((W : Int) - 1) = (W1 : Int) := by rw [IntWalk.i64_in _ (by have := HWD.out; omega)]; omega
        have p4 : (W1 : Int) < (KW.best.length : Int) := by have := of_decide_eq_true hfu; omega
        obtain ⟨rb, hab, y0, y1⟩ := worst_cells HWo.out.best (W := W) (W1 := W1) (of_decide_eq_true hfu) hW1
        subst hab
        have HY := Aside0.mk (And.intro y0 y1)
        clear hfu hW1 y0 y1
        have HBD := Aside0.mk ((below_drew (Below.refl _ _)) : Below wo.heap.size wo wo.drew)
        refine start_ (n := 13) (S := fun w' => w'.cell? ⟨rb, W1 * 2, none⟩ = some (.int .i64 (worstH KW.best).f0) ∧ w'.cell? ⟨rb, W1 * 2 + 1, none⟩ = some (.int .u32 (worstH KW.best).f1) ∧ w'.cell? ⟨bo, 0, none⟩ = some (.int .i64 hc.f0) ∧ w'.cell? ⟨bo, 1, none⟩ = some (.int .u32 hc.f1)) (ds := []) #[false, false, false, false, false, false, false, false, false, false, false, false, false] (by kernel_rfl) rfl rfl ⟨(pw_cell_below HBD.out HY.out.1), (pw_cell_below HBD.out HY.out.2), ((blk_cell (blk_below HBX0.out HBD.out) 0).trans rfl), ((blk_cell (blk_below HBX0.out HBD.out) 1).trans rfl)⟩ (fun hHeld => ?_)
        refine with_tabW rwk.tab15 rwk.bits15 (fun HT_ HW_ => ?_)
        generalize wo.drew = wd at HBD hHeld ⊢
        refine pure_ (i := 0) (N := some 82) (v := ?_) (a' := ?_) #[true, false, false, false, false, false, false, false, false, false, false, false, false] rfl rfl (any_of HT_.out (by kernel_rfl)) (fun _ _ _ h => h) (Or.inl ⟨by rfl, ?_⟩) ?_ ?_
        rotate_left
        ·intro w'
         go_simp
         with_reducible rfl
        rotate_left
        ·simp only [Act.put, sT_, sZ_, sS_, i64_w, i32_w]
         rfl
        refine pure_ (i := 1) (N := some 83) (v := ?_) (a' := ?_) #[true, true, false, false, false, false, false, false, false, false, false, false, false] rfl rfl (any_of HT_.out (by kernel_rfl)) (fun _ _ _ h => h) (Or.inl ⟨by rfl, ?_⟩) ?_ ?_
        rotate_left
        ·intro w'
         go_simp
         with_reducible rfl
        rotate_left
        ·simp only [Act.put, sT_, sZ_, sS_, i64_w, i32_w]
         rfl
        refine pure_ (i := 2) (N := some 84) (v := ?_) (a' := ?_) #[true, true, true, false, false, false, false, false, false, false, false, false, false] rfl rfl (any_of HT_.out (by kernel_rfl)) (fun _ _ _ h => h) (Or.inl ⟨by rfl, ?_⟩) ?_ ?_
        rotate_left
        ·intro w'
         go_simp
         with_reducible rfl
        rotate_left
        ·simp only [Act.put, sT_, sZ_, sS_, i64_w, i32_w]
         rfl
        refine pure_ (i := 3) (N := some 85) (v := ?_) (a' := ?_) #[true, true, true, true, false, false, false, false, false, false, false, false, false] rfl rfl (any_of HT_.out (by kernel_rfl)) (fun _ _ _ h => h) (Or.inl ⟨by rfl, ?_⟩) ?_ ?_
        rotate_left
        ·intro w'
         go_simp
         with_reducible rfl
        rotate_left
        ·simp only [Act.put, sT_, sZ_, sS_, i64_w, i32_w]
         rfl
        refine pure_ (i := 4) (N := some 86) (v := ?_) (a' := ?_) #[true, true, true, true, true, false, false, false, false, false, false, false, false] rfl rfl (any_of HT_.out (by kernel_rfl)) (fun _ _ _ h => h) (Or.inl ⟨by rfl, ?_⟩) ?_ ?_
        rotate_left
        ·intro w'
         go_simp
         with_reducible rfl
        rotate_left
        ·simp only [Act.put, sT_, sZ_, sS_, i64_w, i32_w]
         rfl
        refine pure_ (i := 5) (N := some 87) (v := ?_) (a' := ?_) #[true, true, true, true, true, true, false, false, false, false, false, false, false] rfl rfl (any_of HT_.out (by kernel_rfl)) (fun _ _ _ h => h) (Or.inl ⟨by rfl, ?_⟩) ?_ ?_
        rotate_left
        ·intro w'
         go_simp
         with_reducible rfl
        rotate_left
        ·simp only [Act.put, sT_, sZ_, sS_, i64_w, i32_w]
         rfl
        refine pure_ (i := 6) (N := some 88) (v := ?_) (a' := ?_) #[true, true, true, true, true, true, true, false, false, false, false, false, false] rfl rfl (any_of HT_.out (by kernel_rfl)) (fun _ _ _ h => h) (Or.inl ⟨by rfl, ?_⟩) ?_ ?_
        rotate_left
        ·intro w'
         go_simp
         with_reducible rfl
        rotate_left
        ·simp only [Act.put, sT_, sZ_, sS_, i64_w, i32_w]
         rfl
        refine pure_ (i := 7) (N := some 89) (v := ?_) (a' := ?_) #[true, true, true, true, true, true, true, true, false, false, false, false, false] rfl rfl (any_of HT_.out (by kernel_rfl)) (fun _ _ _ h => h) (Or.inl ⟨by rfl, ?_⟩) ?_ ?_
        rotate_left
        ·intro w'
         go_simp
         with_reducible rfl
        rotate_left
        ·simp only [Act.put, sT_, sZ_, sS_, i64_w, i32_w]
         rfl
        refine pure_ (i := 8) (N := some 90) (v := ?_) (a' := ?_) #[true, true, true, true, true, true, true, true, true, false, false, false, false] rfl rfl (any_of HT_.out (by kernel_rfl)) (fun _ _ _ h => h) (Or.inl ⟨by rfl, ?_⟩) ?_ ?_
        rotate_left
        ·intro w'
         go_simp
         with_reducible rfl
        rotate_left
        ·simp only [Act.put, sT_, sZ_, sS_, i64_w, i32_w]
         rfl
        refine take_ (i := 9) (N := some 91) (v := ?_) (a' := ?_) #[true, true, true, true, true, true, true, true, true, true, false, false, false] rfl rfl (take_ofW HT_.out HW_.out (by kernel_rfl)) (fun _ _ _ h => h) (Or.inl ⟨by rfl, ?_⟩) hHeld ?_ ?_
        rotate_left
        ·rintro w' ⟨s0, s1, s2, s3⟩
         go_simp
         with_reducible rfl
        rotate_left
        ·simp only [Act.put, sT_, sZ_, sS_, i64_w, i32_w]
         rfl
        refine take_ (i := 10) (N := some 92) (v := ?_) (a' := ?_) #[true, true, true, true, true, true, true, true, true, true, true, false, false] rfl rfl (take_ofW HT_.out HW_.out (by kernel_rfl)) (fun _ _ _ h => h) (Or.inl ⟨by rfl, ?_⟩) hHeld ?_ ?_
        rotate_left
        ·rintro w' ⟨s0, s1, s2, s3⟩
         go_simp
         with_reducible rfl
        rotate_left
        ·simp only [Act.put, sT_, sZ_, sS_, i64_w, i32_w]
         rfl
        refine one_ (i := 11) (N := some 93) #[true, true, true, true, true, true, true, true, true, true, true, true, false] rfl rfl (one_of HT_.out (by kernel_rfl)) (by decide) (fun K hK => ?_)
        refine goes_ Try.func22 (by kernel_rfl) rfl #[.agg #[.int .i64 (worstH KW.best).f0, .int .u32 (worstH KW.best).f1], .agg #[.int .i64 hc.f0, .int .u32 hc.f1]] (by rfl) rfl rfl (by simp only [List.map_toArray, List.map_cons, List.map_nil]; rfl) ?_
        with_reducible refine (rless_calls _ _ _ _ late HLT.out _).mono ?_
        rintro e w7 ⟨rfl, hb⟩
        refine ⟨_, rfl, ?_⟩
        have HB7 := Aside0.mk (bel_trans HBD.out hb)
        clear hb
        refine hK.out _ _ ⟨(pw_cell_below HB7.out HY.out.1), (pw_cell_below HB7.out HY.out.2), ((blk_cell (blk_below HBX0.out HB7.out) 0).trans rfl), ((blk_cell (blk_below HBX0.out HB7.out) 1).trans rfl)⟩ (fun hHeld => ?_)
        clear hK K
        refine norm_ (a' := ?_) ?_ ?_
        rotate_left
        ·show Act.put _ (some 93) _ = _
         simp only [Act.put, sT_, sZ_, sS_, i64_w, i32_w]
         rfl
        refine pure_ (i := 12) (N := some 94) (v := ?_) (a' := ?_) #[true, true, true, true, true, true, true, true, true, true, true, true, true] rfl rfl (any_of HT_.out (by kernel_rfl)) (fun _ _ _ h => h) (Or.inl ⟨by rfl, ?_⟩) ?_ ?_
        rotate_left
        ·intro w'
         go_simp
         with_reducible rfl
        rotate_left
        ·simp only [Act.put, sT_, sZ_, sS_, i64_w, i32_w]
         rfl
        refine done_ (done_of HT_.out (by kernel_rfl)) ?_
        clear hHeld
        go_wp2
        go_meet
        exact ⟨rfl, HB7⟩
      case rest =>
       obtain ⟨rfl, HBc⟩ := hcut
       have HWc := Aside0.mk (HWo.out.below HBc.out)
       cases late with
       | true =>
        go_wp2
        go_ret
        obtain ⟨f2, rfl⟩ : ∃ z, f = z + 1 := ⟨f - 1, by have := HF1.out; omega⟩
        have hs := HS.out.1
        rw [walkL_late HWT.out HLATE.out] at hs
        exact ⟨⟨_, rfl, by rw [← hs]; exact HWc.out.best⟩, HWc.out.at0⟩
       | false =>
        obtain ⟨-, ci, hci, hce⟩ := HK.out.pop HWT.out
        obtain ⟨kc, jc, nc, hc1, hc2, hnc, hjc⟩ := there_iff.1 hci
        subst hc1 hc2
        have hcf : hc.f1 = (kc : Int) := by rw [hce]; rfl
        obtain ⟨lsc, hlsc⟩ : ∃ l, nc.links[jc]? = some l := ⟨_, List.getElem?_eq_getElem hjc⟩
        have HLSL := Aside0.mk (HLK.out kc nc hnc lsc (List.mem_of_getElem? hlsc))
        have HNX := Aside0.mk (show nextG s kc jc = lsc ++ (if (jc : Int) = 0 then [(kc : Int) - 1, (kc : Int) + 1] else []) by unfold nextG; rw [at_nat hnc hlsc])
        have HKC := Aside0.mk (show kc < 90000 by have h1 := (List.getElem?_eq_some_iff.1 hnc).1; have := HM.out; omega)
        have HANS := Aside0.mk (show ∀ f2, f = f2 + 1 → walkL s q jc W f2 ((nextG s kc jc).foldl (stepN s q jc W) ⟨KW.met, rest, KW.best⟩) = ANS from fun f2 hf2 => by have h1 := HS.out.1; rw [hf2, walkL_on HWT.out HLATE.out, hcf] at h1; exact h1)
        obtain ⟨f2, hf2⟩ : ∃ z, f = z + 1 := ⟨f - 1, by have := HF1.out; omega⟩
        have HANS2 := Aside0.mk (HANS.out f2 hf2)
        have HGAU := Aside0.mk (show gaugeW s ⟨KW.met, rest, KW.best⟩ ≤ f2 ∧ f2 ≤ go ∧ f2 ≤ s.l.length + 1 by have h1 := gauge_pop (s := s) HWT.out (b := KW.best); have h2 := HS.out.2; have h3 := HF.out; omega)
        have HWB1 := Aside0.mk (show WB W ⟨KW.met, rest, KW.best⟩ from HWB.out)
        obtain ⟨vLg, hGm⟩ := HX.out.below HWc.out.at0
        obtain ⟨rg, capg, rr, cg3, Ag1, cg1, Ag5, cg5, rfl, hRd, -⟩ := hGm.rdl hnc hlsc
        have HRD := Aside0.mk hRd
        have y1 := hRd.y1
        have y5 := hRd.y5
        have yz := hRd.z
        have bx1 := (blk_cell (blk_below HBX0.out HBc.out) 1).trans rfl
        rw [hcf] at bx1
        have p1 : (kc : Int) < (s.l.length : Int) := by have := (List.getElem?_eq_some_iff.1 hnc).1; omega
        have p2 : (jc : Int) < (nc.links.length : Int) := by have := hjc; omega
        have hwk : wrap64 (kc : Int) = (kc : Int) := by have := HKC.out; unfold wrap64; omega
        have hwm : wrap64 ((kc : Int) - 1) = (kc : Int) - 1 := by have := HKC.out; unfold wrap64; omega
        have hwp : wrap64 ((kc : Int) + 1) = (kc : Int) + 1 := by have := HKC.out; unfold wrap64; omega
        clear hci hce hcf hlsc hnc hjc hGm hRd hf2 HANS HLATE
        go_upto_if 113 with (at_builtin; go_must (refine app_Z rfl _ _ rfl w.heap.size _ [] lsc Ag5 lsc.length cg5 rfl rfl rfl (OwnZ.nil _ _) HRD.out.C HRD.out.c0 (by have := HLSL.out; simp only [List.length_nil]; omega) HWc.out.at0.size ?_); intro v3 w3 hv hO hat; rw [List.nil_append] at hv; have hb := hO.below_of (Below.refl wc.heap.size wc) (fun k hk => by cases hk); have HW3 := Aside0.mk (HWc.out.below hb); have HZ3 := Aside0.mk hv; have HNM := Aside0.mk (show ∀ k, u11.ownBlock = some k → v3.ownBlock ≠ some k from fun k hk e => by have h1 := own_lt HWc.out.met k hk; rcases hat with h2 | h2; rw [h2] at e; cases e; rw [h2] at e; injection e with e; omega); clear hv hO hat hb y1 y5 yz bx1)
        go_cut [18] (fun v18 wd => Aside0 (DW w wd u11 (.slice ah rest.length ch) (.slice ab KW.best.length cb) ⟨KW.met, rest, KW.best⟩) ∧ Aside0 (ND w wd u11 v18 (nextG s kc jc)))
        case first =>
         by_cases hj0 : jc = 0
         ·have r1 : decide ((jc : Int) = 0) = true := decide_eq_true (by omega)
          have r2 : decide (jc = 0) = true := decide_eq_true hj0
          have r3 : ((jc : Int) == 0) = true := beq_iff_eq.2 (by omega)
          have HNY := Aside0.mk (show nextG s kc jc = lsc ++ [(kc : Int) - 1, (kc : Int) + 1] by rw [HNX.out, if_pos (by omega)])
          clear hj0
          go_wp2_with (at_builtin; go_must (refine app_Z rfl _ _ rfl w.heap.size _ lsc [(kc : Int) - 1, (kc : Int) + 1] (some ⟨w3.heap.size, 0, none⟩) 2 2 rfl rfl rfl (HZ3.out.below (below_trans_alloc (Below.refl _ _))) (lit2 .i64 3 _ _ w3 _ rfl) (fun e => by cases e) (by have := HLSL.out; simp only [List.length_cons, List.length_nil]; omega) (by rw [World.size_alloc]; have := HW3.out.at0.size; omega) ?_); intro v4 w4 hv hO hat; have HW4 := Aside0.mk (dw_other HW3.out (below_alloc (Below.refl _ _) _) HZ3.out HNM.out hO); have HN4 := Aside0.mk (ND.mk hv (fun k hk e => by have h1 := own_lt HW3.out.met k hk; rcases hat with h2 | h2; exact HNM.out k hk (h2 ▸ e); rw [h2, World.size_alloc] at e; injection e with e; omega) : ND w w4 u11 v4 (lsc ++ [(kc : Int) - 1, (kc : Int) + 1])); clear hv hO hat)
          go_meet
          exact ⟨HW4, ⟨by rw [HNY.out]; exact HN4.out⟩⟩
         ·have r1 : decide ((jc : Int) = 0) = false := decide_eq_false (by omega)
          have r2 : decide (jc = 0) = false := decide_eq_false hj0
          have r3 : ((jc : Int) == 0) = false := beq_eq_false_iff_ne.2 (by omega)
          have HNY := Aside0.mk (show nextG s kc jc = lsc by rw [HNX.out, if_neg (by omega), List.append_nil])
          clear hj0
          go_wp2
          go_meet
          exact ⟨HW3, ⟨by rw [HNY.out]; exact ⟨HZ3.out, HNM.out⟩⟩⟩
        case rest =>
         obtain ⟨HWd, HNd⟩ := hcut
         have HNL := Aside0.mk (show (nextG s kc jc).length ≤ 90002 by rw [HNX.out, List.length_append]; have := HLSL.out; split <;> simp <;> omega)
         generalize nextG s kc jc = N at HANS2 HNd HNL
         generalize (⟨KW.met, rest, KW.best⟩ : Wk) = K1 at HANS2 HGAU HK2 HWB1 HWd
         go_wp2
         go_loopg [11, 12, 13, 19] N.length (fun gk v11 v12 v13 v19 wr => ∃ (i : Nat) (KW : Wk), v19 = .int .i64 i ∧ Aside0 (i ≤ N.length ∧ N.length - i ≤ gk) ∧ Aside0 (KW = (N.take i).foldl (stepN s q jc W) K1) ∧ Aside0 (DW w wr v11 v12 v13 KW) ∧ Aside0 (ND w wr v11 u18 N))
         case atStart => exact ⟨0, K1, rfl, ⟨by omega⟩, ⟨rfl⟩, HWd, HNd⟩
         case round =>
          clear HWd HNd HWc HWo HBX0 HBc
          clear HF HS HK HWB HWT HF1
          obtain ⟨i, KW, rfl, HI, HKE, HW, HN⟩ := hrel
          have HK := Aside0.mk (show WOk s q jc KW by rw [HKE.out]; exact HK2.out.steps _)
          have HWB := Aside0.mk (show WB W KW by rw [HKE.out]; exact HWB1.out.steps _)
          have HG := Aside0.mk (show gaugeW s KW ≤ f2 by rw [HKE.out]; exact Int.le_trans (gauge_steps _) HGAU.out.1)
          have HLEN := Aside0.mk (show KW.met.length ≤ 90000 ∧ KW.waits.length ≤ 200000 ∧ KW.best.length ≤ 256 by have h1 := HG.out; have h2 := HK.out.met_len; have h3 := HM.out; have h4 : KW.best.length ≤ W := HWB.out; have h5 := HWD.out; have h6 := HGAU.out; unfold gaugeW at h1; omega)
          by_cases hi : i < N.length
          ·have r3 : decide ((i : Int) < (N.length : Int)) = true := decide_eq_true (by omega)
           have r3' : (i : Int) < (N.length : Int) := by omega
           obtain ⟨an, cn, rfl, -, -⟩ := HN.out.own.C
           obtain ⟨adn, rfl, c0⟩ := HN.out.at hi
           obtain ⟨t, ht0⟩ : ∃ z, N[i] = z := ⟨_, rfl⟩
           rw [ht0] at c0
           have HTE := Aside0.mk (show ∃ h : i < N.length, N[i] = t from ⟨hi, ht0⟩)
           have HFS := Aside0.mk (fold_snoc (s := s) (q := q) (lv := jc) (W := W) (k := K1) hi)
           rw [ht0, ← HKE.out] at HFS
           have HII := Aside0.mk hi
           have hin : wrap64 ((i : Int) + 1) = ((i + 1 : Nat) : Int) := by have := HNL.out; unfold wrap64; omega
           obtain ⟨az, cz, rfl, hcz, -⟩ := HW.out.met.C
           obtain ⟨ah, ch, rfl, -⟩ := HW.out.waits.reads
           obtain ⟨ab, cb, rfl, -⟩ := OwnH.R HW.out.best
           have HCZ := Aside0.mk hcz
           obtain ⟨gm, rfl⟩ := gk_pos HI.out HII.out
           clear ht0 hi hcz
           cases hc : KW.met.contains t with
           | true =>
            have HC := Aside0.mk hc
            clear hc
            go_wp2_with (go_at_call 23; go_must (with_reducible refine (has_calls az cz _ t _ (OwnZ.cc HW.out.met) HCZ.out (by have := HLEN.out; omega) _ HC.out).mono ?_); rintro e w4 ⟨rfl, hb⟩; have HW4 := Aside0.mk (HW.out.below hb); have HN4 := Aside0.mk (HN.out.below hb); clear hb c0)
            go_roundg gm
            case measure => omega
            case rel => exact ⟨i + 1, KW, by go_num, ⟨gk_next HI.out HII.out⟩, ⟨by rw [HFS.out, step_met HC.out]⟩, HW4, HN4⟩
           | false =>
            have HC := Aside0.mk hc
            clear hc
            cases ht : s.there t jc with
            | false =>
             have HT := Aside0.mk ht
             clear ht
             go_wp2_with (first | (have := HW4; go_at_call 41; go_must (with_reducible refine ((HX.out.below HW4.out.at0).there_ t jc _ HT.out).mono ?_); rintro e w5 ⟨rfl, hb⟩; have HW5 := Aside0.mk (HW4.out.below hb); have HN5 := Aside0.mk (HN4.out.below hb); clear hb c0) | (go_at_call 23; go_must (with_reducible refine (has_calls az cz _ t _ (OwnZ.cc HW.out.met) HCZ.out (by have := HLEN.out; omega) _ HC.out).mono ?_); rintro e w4 ⟨rfl, hb⟩; have HW4 := Aside0.mk (HW.out.below hb); have HN4 := Aside0.mk (HN.out.below hb); replace c0 := pw_cell_below hb c0; clear hb))
             go_roundg gm
             case measure => omega
             case rel => exact ⟨i + 1, KW, by go_num, ⟨gk_next HI.out HII.out⟩, ⟨by rw [HFS.out, step_skip (by rw [HT.out]; simp)]⟩, HW5, HN5⟩
            | true =>
             obtain ⟨k, j2, n, rfl, -, hn, -⟩ := there_iff.1 ht
             have HKL := Aside0.mk ((List.getElem?_eq_some_iff.1 hn).1)
             have HT := Aside0.mk ht
             have HWK := Aside0.mk (wrap_u32 (k := k) (by have := HKL.out; have := HM.out; omega))
             clear hn ht
             go_wp2_with (first | (have := HW4b; at_builtin; go_must (refine app_Z rfl _ _ rfl w.heap.size _ KW.met [(k : Int)] (some ⟨w4b.heap.size, 0, none⟩) 1 1 rfl rfl rfl (HW4b.out.met.below (below_alloc (Below.refl _ _) _)) (lit_Z w4b k) (fun e => by cases e) (by have := HLEN.out; simp only [List.length_cons, List.length_nil]; omega) (by rw [World.size_alloc]; have := HW4b.out.at0.size; omega) ?_); intro v5 w5 hv hO hat; have HW5 := Aside0.mk (HW4b.out.meet (below_alloc (Below.refl _ _) _) hv hO); have HN5 := Aside0.mk (HN4b.out.meet (below_alloc (Below.refl _ _) _) hO hat); obtain ⟨ad5, had5, c5⟩ := HN5.out.at HII.out; injection had5 with had5; subst had5; rw [HTE.out.2] at c5; have HC5 := Aside0.mk c5; clear hv hO hat c0) | (have := HW4; go_at_call 41; go_must (with_reducible refine ((HX.out.below HW4.out.at0).there_ k jc _ HT.out).mono ?_); rintro e w4b ⟨rfl, hb⟩; have HW4b := Aside0.mk (HW4.out.below hb); have HN4b := Aside0.mk (HN4.out.below hb); replace c0 := pw_cell_below hb c0; clear hb) | (go_at_call 23; go_must (with_reducible refine (has_calls az cz _ k _ (OwnZ.cc HW.out.met) HCZ.out (by have := HLEN.out; omega) _ HC.out).mono ?_); rintro e w4 ⟨rfl, hb⟩; have HW4 := Aside0.mk (HW.out.below hb); have HN4 := Aside0.mk (HN.out.below hb); replace c0 := pw_cell_below hb c0; clear hb))
             clear c5
             have HWD9 := Aside0.mk (HW5.out.below (below_drew (Below.refl _ _)))
             have HCD9 := Aside0.mk (pw_cell_below (below_drew (Below.refl _ _)) HC5.out)
             have HND9 := Aside0.mk (HN5.out.below (below_drew (Below.refl _ _)))
             refine start_ (n := 15) (S := fun w' => w'.cell? (adn.add i) = some (.int .i64 k)) (ds := [14]) #[false, false, false, false, false, false, false, false, false, false, false, false, false, false, false] (by kernel_rfl) rfl rfl (HCD9.out) (fun hHeld => ?_)
             refine with_tabW rwk.tab27 rwk.bits27 (fun HT_ HW_ => ?_)
             generalize w5.drew = wd at HWD9 HCD9 HND9 hHeld ⊢
             have HB9 := Aside0.mk (Below.refl wd.heap.size wd)
             refine pure_ (i := 0) (N := some 150) (v := ?_) (a' := ?_) #[true, false, false, false, false, false, false, false, false, false, false, false, false, false, false] rfl rfl (any_of HT_.out (by kernel_rfl)) (fun _ _ _ h => h) (Or.inl ⟨by rfl, ?_⟩) ?_ ?_
             rotate_left
             ·intro w'
              go_simp
              with_reducible rfl
             rotate_left
             ·simp only [Act.put, sT_, sZ_, sS_, i64_w, i32_w]
              rfl
             refine pure_ (i := 1) (N := some 151) (v := ?_) (a' := ?_) #[true, true, false, false, false, false, false, false, false, false, false, false, false, false, false] rfl rfl (any_of HT_.out (by kernel_rfl)) (fun _ _ _ h => h) (Or.inl ⟨by rfl, ?_⟩) ?_ ?_
             rotate_left
             ·intro w'
              go_simp
              with_reducible rfl
             rotate_left
             ·simp only [Act.put, sT_, sZ_, sS_, i64_w, i32_w]
              rfl
             refine pure_ (i := 2) (N := some 152) (v := ?_) (a' := ?_) #[true, true, true, false, false, false, false, false, false, false, false, false, false, false, false] rfl rfl (any_of HT_.out (by kernel_rfl)) (fun _ _ _ h => h) (Or.inl ⟨by rfl, ?_⟩) ?_ ?_
             rotate_left
             ·intro w'
              go_simp
              with_reducible rfl
             rotate_left
             ·simp only [Act.put, sT_, sZ_, sS_, i64_w, i32_w]
              rfl
             refine pure_ (i := 3) (N := some 153) (v := ?_) (a' := ?_) #[true, true, true, true, false, false, false, false, false, false, false, false, false, false, false] rfl rfl (any_of HT_.out (by kernel_rfl)) (fun _ _ _ h => h) (Or.inl ⟨by rfl, ?_⟩) ?_ ?_
             rotate_left
             ·intro w'
              go_simp
              with_reducible rfl
             rotate_left
             ·simp only [Act.put, sT_, sZ_, sS_, i64_w, i32_w]
              rfl
             refine pure_ (i := 4) (N := some 154) (v := ?_) (a' := ?_) #[true, true, true, true, true, false, false, false, false, false, false, false, false, false, false] rfl rfl (any_of HT_.out (by kernel_rfl)) (fun _ _ _ h => h) (Or.inl ⟨by rfl, ?_⟩) ?_ ?_
             rotate_left
             ·intro w'
              go_simp
              with_reducible rfl
             rotate_left
             ·simp only [Act.put, sT_, sZ_, sS_, i64_w, i32_w]
              rfl
             refine pure_ (i := 7) (N := some 157) (v := ?_) (a' := ?_) #[true, true, true, true, true, false, false, true, false, false, false, false, false, false, false] rfl rfl (any_of HT_.out (by kernel_rfl)) (fun _ _ _ h => h) (Or.inl ⟨by rfl, ?_⟩) ?_ ?_
             rotate_left
             ·intro w'
              go_simp
              with_reducible rfl
             rotate_left
             ·simp only [Act.put, sT_, sZ_, sS_, i64_w, i32_w]
              rfl
             refine pure_ (i := 8) (N := some 158) (v := ?_) (a' := ?_) #[true, true, true, true, true, false, false, true, true, false, false, false, false, false, false] rfl rfl (any_of HT_.out (by kernel_rfl)) (fun _ _ _ h => h) (Or.inl ⟨by rfl, ?_⟩) ?_ ?_
             rotate_left
             ·intro w'
              go_simp
              with_reducible rfl
             rotate_left
             ·simp only [Act.put, sT_, sZ_, sS_, i64_w, i32_w]
              rfl
             refine pure_ (i := 9) (N := some 159) (v := ?_) (a' := ?_) #[true, true, true, true, true, false, false, true, true, true, false, false, false, false, false] rfl rfl (any_of HT_.out (by kernel_rfl)) (fun _ _ _ h => h) (Or.inl ⟨by rfl, ?_⟩) ?_ ?_
             rotate_left
             ·intro w'
              go_simp
              with_reducible rfl
             rotate_left
             ·simp only [Act.put, sT_, sZ_, sS_, i64_w, i32_w]
              rfl
             refine take_ (i := 5) (N := some 155) (v := ?_) (a' := ?_) #[true, true, true, true, true, true, false, true, true, true, false, false, false, false, false] rfl rfl (take_ofW HT_.out HW_.out (by kernel_rfl)) (fun _ _ _ h => h) (Or.inl ⟨by rfl, ?_⟩) hHeld ?_ ?_
             rotate_left
             ·intro w' s0
              go_simp
              with_reducible rfl
             rotate_left
             ·simp only [Act.put, sT_, sZ_, sS_, i64_w, i32_w]
              rfl
             refine take_ (i := 10) (N := some 160) (v := ?_) (a' := ?_) #[true, true, true, true, true, true, false, true, true, true, true, false, false, false, false] rfl rfl (take_ofW HT_.out HW_.out (by kernel_rfl)) (fun _ _ _ h => h) (Or.inl ⟨by rfl, ?_⟩) hHeld ?_ ?_
             rotate_left
             ·intro w' s0
              go_simp
              with_reducible rfl
             rotate_left
             ·simp only [Act.put, sT_, sZ_, sS_, i64_w, i32_w]
              rfl
             refine pure_ (i := 11) (N := some 161) (v := ?_) (a' := ?_) #[true, true, true, true, true, true, false, true, true, true, true, true, false, false, false] rfl rfl (any_of HT_.out (by kernel_rfl)) (fun _ _ _ h => h) (Or.inl ⟨by rfl, ?_⟩) ?_ ?_
             rotate_left
             ·intro w'
              go_simp
              with_reducible rfl
             rotate_left
             ·simp only [Act.put, sT_, sZ_, sS_, i64_w, i32_w]
              rfl
             refine join_ (σ := Nat) 1 #[true, true, true, true, true, true, true, true, true, true, true, true, true, true, false] (fun b_ => [(156, .int .i64 (s.far q k)), (20, .pointer (some ⟨b_, 0, none⟩)), (162, .agg #[.int .i64 (s.far q k), .int .u32 (IntKind.u32.wrap (k : Int))])]) (fun b_ w' => Below wd.heap.size wd w' ∧ w'.cell? (adn.add i) = some (.int .i64 k) ∧ (World.heap w')[b_]? = some (.cells #[.int .i64 0, .int .u32 0] 58 (0, 0)) ∧ wd.heap.size ≤ b_) ?_ ?_
             rotate_left
             ·intro hCont
              refine two_ (i := 6) (j := 13) (Ni := some 156) (Nj := some 20) #[true, true, true, true, true, true, true, true, true, true, true, true, false, false, false] #[true, true, true, true, true, true, false, true, true, true, true, true, false, true, false] rfl rfl rfl rfl (two_of HT_.out (by kernel_rfl)) (by decide) (by decide) (fun K hK => ?_) (fun K hK => ?_)
              ·skip
               refine goes_ Try.func74 (by kernel_rfl) rfl #[.pointer (some ⟨g, 0, none⟩), .slice A q.length c, .int .i64 k] (by rfl) rfl rfl (by simp only [List.map_toArray, List.map_cons, List.map_nil]; rfl) ?_
               with_reducible refine ((HX.out.below (bel_trans HWD9.out.at0 HB9.out)).far_ HM.out.1 A c q (Kd.C_below HQ.out.1 (bel_trans HWD9.out.at0 HB9.out)) HQ.out.2 k HKL.out).mono ?_
               rintro e w7 ⟨rfl, hb⟩
               refine ⟨_, rfl, ?_⟩
               have NHB9 := Aside0.mk (bel_trans HB9.out hb)
               clear hb
               clear HB9
               have HB9 := NHB9
               clear NHB9
               refine hK.out _ _ ((pw_cell_below HB9.out HCD9.out)) (fun hHeld => ?_)
               clear hK K
               refine norm_ (a' := ?_) ?_ ?_
               rotate_left
               ·show Act.put _ (some 156) _ = _
                simp only [Act.put, sT_, sZ_, sS_, i64_w, i32_w]
                rfl
               refine pure_ (i := 12) (N := some 162) (v := ?_) (a' := ?_) #[true, true, true, true, true, true, true, true, true, true, true, true, true, false, false] rfl rfl (any_of HT_.out (by kernel_rfl)) (fun _ _ _ h => h) (Or.inl ⟨by rfl, ?_⟩) ?_ ?_
               rotate_left
               ·intro w'
                go_simp
                with_reducible rfl
               rotate_left
               ·simp only [Act.put, sT_, sZ_, sS_, i64_w, i32_w]
                rfl
               refine one_ (i := 13) (N := some 20) #[true, true, true, true, true, true, true, true, true, true, true, true, true, true, false] rfl rfl (one_of HT_.out (by kernel_rfl)) (by decide) (fun K hK => ?_)
               refine value_ (w1 := ?_) (v := ?_) (by rfl) rfl ?_ ?_
               rotate_left 2
               ·go_simp
                constructor
                ·rfl
                ·rfl
               have HBX := Aside0.mk (by have h := heap_alloc_new w7 (.cells #[.int .i64 0, .int .u32 0] 58); (try simp only [World.size_alloc] at h); exact h)
               have HYN := Aside0.mk (by have h := HB9.out.size; (try simp only [World.size_alloc] at h); exact h)
               have NHB9 := Aside0.mk (bel_alloc HB9.out (.cells #[.int .i64 0, .int .u32 0] 58))
               clear HB9
               have HB9 := NHB9
               clear NHB9
               refine hK.out _ _ ((pw_cell_below HB9.out HCD9.out)) (fun hHeld => ?_)
               clear hK K
               refine norm_ (a' := ?_) ?_ ?_
               rotate_left
               ·show Act.put _ (some 20) _ = _
                simp only [Act.put, sT_, sZ_, sS_, i64_w, i32_w]
                rfl
               exact norm_ (by simp only [Go.Proofs.YtofmlajanopniaaW.PrintLast.putAll, Act.put, sT_, sZ_, sS_]) (hCont (World.heap w7).size _ ⟨HB9.out, (pw_cell_below HB9.out HCD9.out), HBX.out, HYN.out⟩)
              ·skip
               refine value_ (w1 := ?_) (v := ?_) (by rfl) rfl ?_ ?_
               rotate_left 2
               ·go_simp
                constructor
                ·rfl
                ·rfl
               have HBX := Aside0.mk (by have h := heap_alloc_new wd (.cells #[.int .i64 0, .int .u32 0] 58); (try simp only [World.size_alloc] at h); exact h)
               have HYN := Aside0.mk (by have h := HB9.out.size; (try simp only [World.size_alloc] at h); exact h)
               have NHB9 := Aside0.mk (bel_alloc HB9.out (.cells #[.int .i64 0, .int .u32 0] 58))
               clear HB9
               have HB9 := NHB9
               clear NHB9
               refine hK.out _ _ ((pw_cell_below HB9.out HCD9.out)) (fun hHeld => ?_)
               clear hK K
               refine norm_ (a' := ?_) ?_ ?_
               rotate_left
               ·show Act.put _ (some 20) _ = _
                simp only [Act.put, sT_, sZ_, sS_, i64_w, i32_w]
                rfl
               refine one_ (i := 6) (N := some 156) #[true, true, true, true, true, true, true, true, true, true, true, true, false, true, false] rfl rfl (one_of HT_.out (by kernel_rfl)) (by decide) (fun K hK => ?_)
               refine goes_ Try.func74 (by kernel_rfl) rfl #[.pointer (some ⟨g, 0, none⟩), .slice A q.length c, .int .i64 k] (by rfl) rfl rfl (by simp only [List.map_toArray, List.map_cons, List.map_nil]; rfl) ?_
               with_reducible refine ((HX.out.below (bel_trans HWD9.out.at0 HB9.out)).far_ HM.out.1 A c q (Kd.C_below HQ.out.1 (bel_trans HWD9.out.at0 HB9.out)) HQ.out.2 k HKL.out).mono ?_
               rintro e w7 ⟨rfl, hb⟩
               refine ⟨_, rfl, ?_⟩
               have NHB9 := Aside0.mk (bel_trans HB9.out hb)
               have NHBX := Aside0.mk (blk_below HBX.out hb)
               clear hb
               clear HB9 HBX
               have HB9 := NHB9
               have HBX := NHBX
               clear NHB9 NHBX
               refine hK.out _ _ ((pw_cell_below HB9.out HCD9.out)) (fun hHeld => ?_)
               clear hK K
               refine norm_ (a' := ?_) ?_ ?_
               rotate_left
               ·show Act.put _ (some 156) _ = _
                simp only [Act.put, sT_, sZ_, sS_, i64_w, i32_w]
                rfl
               refine pure_ (i := 12) (N := some 162) (v := ?_) (a' := ?_) #[true, true, true, true, true, true, true, true, true, true, true, true, true, true, false] rfl rfl (any_of HT_.out (by kernel_rfl)) (fun _ _ _ h => h) (Or.inl ⟨by rfl, ?_⟩) ?_ ?_
               rotate_left
               ·intro w'
                go_simp
                with_reducible rfl
               rotate_left
               ·simp only [Act.put, sT_, sZ_, sS_, i64_w, i32_w]
                rfl
               exact norm_ (by simp only [Go.Proofs.YtofmlajanopniaaW.PrintLast.putAll, Act.put, sT_, sZ_, sS_]) (hCont (World.heap wd).size _ ⟨HB9.out, (pw_cell_below HB9.out HCD9.out), HBX.out, HYN.out⟩)
             rintro b9 w8 ⟨h1, h2, h3, h4⟩
             clear HB9
             have HB8 := Aside0.mk (show Below wd.heap.size wd w8 from h1)
             have HX8 := Aside0.mk (show (World.heap w8)[b9]? = some (.cells #[.int .i64 0, .int .u32 0] 58 (0, 0)) from h3)
             have HYN := Aside0.mk (show wd.heap.size ≤ b9 from h4)
             clear h1 h3 h4
             have hHeld := h2
             refine norm_ (a' := ?_) ?_ ?_
             rotate_left
             ·simp only [Go.Proofs.YtofmlajanopniaaW.PrintLast.putAll, Act.put, sT_, sZ_, sS_]
              rfl
             refine last_ (i := 14) (N := none) #[true, true, true, true, true, true, true, true, true, true, true, true, true, true, true] rfl rfl (one_of HT_.out (by kernel_rfl)) (by decide) (fun K hK => ?_)
             have z0 := (blk_cell HX8.out 0).trans rfl
             have z1 := (blk_cell HX8.out 1).trans rfl
             have fz : ∀ j, w8.frozen? ⟨b9, j, none⟩ = false := fun j => blk_frozen HX8.out j
             refine skip_ (w1 := ?_) (by rfl) rfl ?_ ?_
             rotate_left
             ·go_simp
              rfl
             clear z0 z1 fz
             refine hK.out _ _ ?_
             clear hK K
             refine done_ (done_of HT_.out (by kernel_rfl)) ?_
             clear hHeld
             rw [HWK.out]
             obtain ⟨w9, hw9⟩ : ∃ z, (w8.setCell ⟨b9, 0, none⟩ (.int .i64 (s.far q k))).setCell ⟨b9, 1, none⟩ (.int .u32 k) = z := ⟨_, rfl⟩
             have HX9 := Aside0.mk (boxed_hit HX8.out hw9)
             have HW9 := Aside0.mk (HWD9.out.below (show Below wd.heap.size wd w9 by rw [← hw9]; exact below_set (below_set HB8.out HYN.out) HYN.out))
             rw [hw9]
             have HN9 := Aside0.mk (HND9.out.below (show Below wd.heap.size wd w9 by rw [← hw9]; exact below_set (below_set HB8.out HYN.out) HYN.out))
             clear HND9
             have b0 := (blk_cell HX9.out 0).trans rfl
             have b1 := (blk_cell HX9.out 1).trans rfl
             clear hw9 HWD9 HCD9 HX8 HB8 HYN
             obtain ⟨gd, hgd⟩ : ∃ z, goodH W KW.best (s.hit q k) = z := ⟨_, rfl⟩
             have HGD := Aside0.mk hgd
             clear hgd b0 b1
             go_upto_region 28 with (fail)
             go_cut [176] (fun v176 wc => v176 = .bool gd ∧ Aside0 (Below w9.heap.size w9 wc))
             case first =>
              by_cases hfu : KW.best.length < W
              ·have HGT := Aside0.mk (show gd = true by rw [← HGD.out]; unfold goodH; rw [decide_eq_false (by omega : ¬ KW.best.length = W)]; rfl)
               have p1 : decide ((KW.best.length : Int) < (W : Int)) = true := decide_eq_true (by omega)
               have p2 : decide (KW.best.length < W) = true := decide_eq_true hfu
               clear hfu
               have HBD := Aside0.mk ((below_drew (Below.refl _ _)) : Below w9.heap.size w9 w9.drew)
               refine start_ (n := 14) (S := fun w' => True) (ds := []) #[false, false, false, false, false, false, false, false, false, false, false, false, false, false] (by kernel_rfl) rfl rfl trivial (fun hHeld => ?_)
               refine with_tabW rwk.tab28 rwk.bits28 (fun HT_ HW_ => ?_)
               generalize w9.drew = wd at HBD hHeld ⊢
               refine pure_ (i := 0) (N := some 163) (v := ?_) (a' := ?_) #[true, false, false, false, false, false, false, false, false, false, false, false, false, false] rfl rfl (any_of HT_.out (by kernel_rfl)) (fun _ _ _ h => h) (Or.inl ⟨by rfl, ?_⟩) ?_ ?_
               rotate_left
               ·intro w'
                go_simp
                with_reducible rfl
               rotate_left
               ·simp only [Act.put, sT_, sZ_, sS_, i64_w, i32_w]
                rfl
               refine pure_ (i := 1) (N := some 164) (v := ?_) (a' := ?_) #[true, true, false, false, false, false, false, false, false, false, false, false, false, false] rfl rfl (any_of HT_.out (by kernel_rfl)) (fun _ _ _ h => h) (Or.inl ⟨by rfl, ?_⟩) ?_ ?_
               rotate_left
               ·intro w'
                go_simp
                with_reducible rfl
               rotate_left
               ·simp only [Act.put, sT_, sZ_, sS_, i64_w, i32_w]
                rfl
               refine pure_ (i := 2) (N := some 165) (v := ?_) (a' := ?_) #[true, true, true, false, false, false, false, false, false, false, false, false, false, false] rfl rfl (any_of HT_.out (by kernel_rfl)) (fun _ _ _ h => h) (Or.inl ⟨by rfl, ?_⟩) ?_ ?_
               rotate_left
               ·intro w'
                go_simp
                with_reducible rfl
               rotate_left
               ·simp only [Act.put, sT_, sZ_, sS_, i64_w, i32_w]
                rfl
               refine pure_ (i := 3) (N := some 166) (v := ?_) (a' := ?_) #[true, true, true, true, false, false, false, false, false, false, false, false, false, false] rfl rfl (any_of HT_.out (by kernel_rfl)) (fun _ _ _ h => h) (Or.inl ⟨by rfl, ?_⟩) ?_ ?_
               rotate_left
               ·intro w'
                go_simp
                with_reducible rfl
               rotate_left
               ·simp only [Act.put, sT_, sZ_, sS_, i64_w, i32_w]
                rfl
               refine pure_ (i := 4) (N := some 167) (v := ?_) (a' := ?_) #[true, true, true, true, true, false, false, false, false, false, false, false, false, false] rfl rfl (any_of HT_.out (by kernel_rfl)) (fun _ _ _ h => h) (Or.inl ⟨by rfl, ?_⟩) ?_ ?_
               rotate_left
               ·intro w'
                go_simp
                with_reducible rfl
               rotate_left
               ·simp only [Act.put, sT_, sZ_, sS_, i64_w, i32_w]
                rfl
               refine pure_ (i := 5) (N := some 168) (v := undef) (a' := ?_) #[true, true, true, true, true, true, false, false, false, false, false, false, false, false] rfl rfl (any_of HT_.out (by kernel_rfl)) (fun _ _ _ h => h) (Or.inr ⟨by rfl, rfl⟩) ?_ ?_
               rotate_left
               ·simp only [Act.put, sT_, sZ_, sS_, i64_w, i32_w]
                rfl
               refine pure_ (i := 6) (N := some 169) (v := undef) (a' := ?_) #[true, true, true, true, true, true, true, false, false, false, false, false, false, false] rfl rfl (any_of HT_.out (by kernel_rfl)) (fun _ _ _ h => h) (Or.inr ⟨by rfl, rfl⟩) ?_ ?_
               rotate_left
               ·simp only [Act.put, sT_, sZ_, sS_, i64_w, i32_w]
                rfl
               refine pure_ (i := 7) (N := some 170) (v := undef) (a' := ?_) #[true, true, true, true, true, true, true, true, false, false, false, false, false, false] rfl rfl (any_of HT_.out (by kernel_rfl)) (fun _ _ _ h => h) (Or.inr ⟨by rfl, rfl⟩) ?_ ?_
               rotate_left
               ·simp only [Act.put, sT_, sZ_, sS_, i64_w, i32_w]
                rfl
               refine pure_ (i := 8) (N := some 171) (v := undef) (a' := ?_) #[true, true, true, true, true, true, true, true, true, false, false, false, false, false] rfl rfl (any_of HT_.out (by kernel_rfl)) (fun _ _ _ h => h) (Or.inr ⟨by rfl, rfl⟩) ?_ ?_
               rotate_left
               ·simp only [Act.put, sT_, sZ_, sS_, i64_w, i32_w]
                rfl
               refine pure_ (i := 9) (N := some 172) (v := undef) (a' := ?_) #[true, true, true, true, true, true, true, true, true, true, false, false, false, false] rfl rfl (any_of HT_.out (by kernel_rfl)) (fun _ _ _ h => h) (Or.inr ⟨by rfl, rfl⟩) ?_ ?_
               rotate_left
               ·simp only [Act.put, sT_, sZ_, sS_, i64_w, i32_w]
                rfl
               refine pure_ (i := 10) (N := some 173) (v := undef) (a' := ?_) #[true, true, true, true, true, true, true, true, true, true, true, false, false, false] rfl rfl (any_of HT_.out (by kernel_rfl)) (fun _ _ _ h => h) (Or.inr ⟨by rfl, rfl⟩) ?_ ?_
               rotate_left
               ·simp only [Act.put, sT_, sZ_, sS_, i64_w, i32_w]
                rfl
               refine pure_ (i := 11) (N := some 174) (v := undef) (a' := ?_) #[true, true, true, true, true, true, true, true, true, true, true, true, false, false] rfl rfl (any_of HT_.out (by kernel_rfl)) (fun _ _ _ h => h) (Or.inr ⟨by rfl, rfl⟩) ?_ ?_
               rotate_left
               ·simp only [Act.put, sT_, sZ_, sS_, i64_w, i32_w]
                rfl
               refine pure_ (i := 12) (N := some 175) (v := undef) (a' := ?_) #[true, true, true, true, true, true, true, true, true, true, true, true, true, false] rfl rfl (any_of HT_.out (by kernel_rfl)) (fun _ _ _ h => h) (Or.inr ⟨by rfl, rfl⟩) ?_ ?_
               rotate_left
               ·simp only [Act.put, sT_, sZ_, sS_, i64_w, i32_w]
                rfl
               refine pure_ (i := 13) (N := some 176) (v := ?_) (a' := ?_) #[true, true, true, true, true, true, true, true, true, true, true, true, true, true] rfl rfl (any_of HT_.out (by kernel_rfl)) (fun _ _ _ h => h) (Or.inl ⟨by rfl, ?_⟩) ?_ ?_
               rotate_left
               ·intro w'
                go_simp
                with_reducible rfl
               rotate_left
               ·simp only [Act.put, sT_, sZ_, sS_, i64_w, i32_w]
                rfl
               refine done_ (done_of HT_.out (by kernel_rfl)) ?_
               clear hHeld
               go_wp2
               go_meet
               exact ⟨by rw [HGT.out], HBD⟩
              ·have hfe : KW.best.length = W := by have h4 : KW.best.length ≤ W := HWB.out; omega
               have HLT := Aside0.mk (show ltH ⟨s.far q k, k⟩ ⟨(worstH KW.best).f0, (worstH KW.best).f1⟩ = gd by rw [← HGD.out]; unfold goodH; rw [decide_eq_true hfe]; rfl)
               have p1 : decide ((KW.best.length : Int) < (W : Int)) = false := decide_eq_false (by omega)
               have p2 : decide (KW.best.length < W) = false := decide_eq_false hfu
               obtain ⟨W1, hW1⟩ : ∃ z, W = z + 1 := ⟨W - 1, by have := HWD.out; omega⟩
               have p3 : IntKind.i64.wrap ((KW.best.length : Int) - 1) = (W1 : Int) := by rw [IntWalk.i64_in _ (by have := HWD.out; omega)]; omega
               have p4 : (W1 : Int) < (KW.best.length : Int) := by omega
               obtain ⟨rb, hab, y0, y1⟩ := worst_cells HW9.out.best (W := W) (W1 := W1) hfe hW1
               subst hab
               have HY := Aside0.mk (And.intro y0 y1)
               clear hfu hfe hW1 y0 y1
               have HBD := Aside0.mk ((below_drew (Below.refl _ _)) : Below w9.heap.size w9 w9.drew)
               refine start_ (n := 14) (S := fun w' => w'.cell? ⟨rb, W1 * 2, none⟩ = some (.int .i64 (worstH KW.best).f0) ∧ w'.cell? ⟨rb, W1 * 2 + 1, none⟩ = some (.int .u32 (worstH KW.best).f1) ∧ w'.cell? ⟨b9, 0, none⟩ = some (.int .i64 (s.far q k)) ∧ w'.cell? ⟨b9, 1, none⟩ = some (.int .u32 k)) (ds := []) #[false, false, false, false, false, false, false, false, false, false, false, false, false, false] (by kernel_rfl) rfl rfl ⟨(pw_cell_below HBD.out HY.out.1), (pw_cell_below HBD.out HY.out.2), ((blk_cell (blk_below HX9.out HBD.out) 0).trans rfl), ((blk_cell (blk_below HX9.out HBD.out) 1).trans rfl)⟩ (fun hHeld => ?_)
               refine with_tabW rwk.tab28 rwk.bits28 (fun HT_ HW_ => ?_)
               generalize w9.drew = wd at HBD hHeld ⊢
               refine pure_ (i := 0) (N := some 163) (v := ?_) (a' := ?_) #[true, false, false, false, false, false, false, false, false, false, false, false, false, false] rfl rfl (any_of HT_.out (by kernel_rfl)) (fun _ _ _ h => h) (Or.inl ⟨by rfl, ?_⟩) ?_ ?_
               rotate_left
               ·intro w'
                go_simp
                with_reducible rfl
               rotate_left
               ·simp only [Act.put, sT_, sZ_, sS_, i64_w, i32_w]
                rfl
               refine pure_ (i := 1) (N := some 164) (v := ?_) (a' := ?_) #[true, true, false, false, false, false, false, false, false, false, false, false, false, false] rfl rfl (any_of HT_.out (by kernel_rfl)) (fun _ _ _ h => h) (Or.inl ⟨by rfl, ?_⟩) ?_ ?_
               rotate_left
               ·intro w'
                go_simp
                with_reducible rfl
               rotate_left
               ·simp only [Act.put, sT_, sZ_, sS_, i64_w, i32_w]
                rfl
               refine pure_ (i := 2) (N := some 165) (v := ?_) (a' := ?_) #[true, true, true, false, false, false, false, false, false, false, false, false, false, false] rfl rfl (any_of HT_.out (by kernel_rfl)) (fun _ _ _ h => h) (Or.inl ⟨by rfl, ?_⟩) ?_ ?_
               rotate_left
               ·intro w'
                go_simp
                with_reducible rfl
               rotate_left
               ·simp only [Act.put, sT_, sZ_, sS_, i64_w, i32_w]
                rfl
               refine pure_ (i := 3) (N := some 166) (v := ?_) (a' := ?_) #[true, true, true, true, false, false, false, false, false, false, false, false, false, false] rfl rfl (any_of HT_.out (by kernel_rfl)) (fun _ _ _ h => h) (Or.inl ⟨by rfl, ?_⟩) ?_ ?_
               rotate_left
               ·intro w'
                go_simp
                with_reducible rfl
               rotate_left
               ·simp only [Act.put, sT_, sZ_, sS_, i64_w, i32_w]
                rfl
               refine pure_ (i := 4) (N := some 167) (v := ?_) (a' := ?_) #[true, true, true, true, true, false, false, false, false, false, false, false, false, false] rfl rfl (any_of HT_.out (by kernel_rfl)) (fun _ _ _ h => h) (Or.inl ⟨by rfl, ?_⟩) ?_ ?_
               rotate_left
               ·intro w'
                go_simp
                with_reducible rfl
               rotate_left
               ·simp only [Act.put, sT_, sZ_, sS_, i64_w, i32_w]
                rfl
               refine pure_ (i := 6) (N := some 169) (v := ?_) (a' := ?_) #[true, true, true, true, true, false, true, false, false, false, false, false, false, false] rfl rfl (any_of HT_.out (by kernel_rfl)) (fun _ _ _ h => h) (Or.inl ⟨by rfl, ?_⟩) ?_ ?_
               rotate_left
               ·intro w'
                go_simp
                with_reducible rfl
               rotate_left
               ·simp only [Act.put, sT_, sZ_, sS_, i64_w, i32_w]
                rfl
               refine pure_ (i := 7) (N := some 170) (v := ?_) (a' := ?_) #[true, true, true, true, true, false, true, true, false, false, false, false, false, false] rfl rfl (any_of HT_.out (by kernel_rfl)) (fun _ _ _ h => h) (Or.inl ⟨by rfl, ?_⟩) ?_ ?_
               rotate_left
               ·intro w'
                go_simp
                with_reducible rfl
               rotate_left
               ·simp only [Act.put, sT_, sZ_, sS_, i64_w, i32_w]
                rfl
               refine pure_ (i := 8) (N := some 171) (v := ?_) (a' := ?_) #[true, true, true, true, true, false, true, true, true, false, false, false, false, false] rfl rfl (any_of HT_.out (by kernel_rfl)) (fun _ _ _ h => h) (Or.inl ⟨by rfl, ?_⟩) ?_ ?_
               rotate_left
               ·intro w'
                go_simp
                with_reducible rfl
               rotate_left
               ·simp only [Act.put, sT_, sZ_, sS_, i64_w, i32_w]
                rfl
               refine pure_ (i := 9) (N := some 172) (v := ?_) (a' := ?_) #[true, true, true, true, true, false, true, true, true, true, false, false, false, false] rfl rfl (any_of HT_.out (by kernel_rfl)) (fun _ _ _ h => h) (Or.inl ⟨by rfl, ?_⟩) ?_ ?_
               rotate_left
               ·intro w'
                go_simp
                with_reducible rfl
               rotate_left
               ·simp only [Act.put, sT_, sZ_, sS_, i64_w, i32_w]
                rfl
               refine pure_ (i := 10) (N := some 173) (v := ?_) (a' := ?_) #[true, true, true, true, true, false, true, true, true, true, true, false, false, false] rfl rfl (any_of HT_.out (by kernel_rfl)) (fun _ _ _ h => h) (Or.inl ⟨by rfl, ?_⟩) ?_ ?_
               rotate_left
               ·intro w'
                go_simp
                with_reducible rfl
               rotate_left
               ·simp only [Act.put, sT_, sZ_, sS_, i64_w, i32_w]
                rfl
               refine take_ (i := 5) (N := some 168) (v := ?_) (a' := ?_) #[true, true, true, true, true, true, true, true, true, true, true, false, false, false] rfl rfl (take_ofW HT_.out HW_.out (by kernel_rfl)) (fun _ _ _ h => h) (Or.inl ⟨by rfl, ?_⟩) hHeld ?_ ?_
               rotate_left
               ·rintro w' ⟨s0, s1, s2, s3⟩
                go_simp
                with_reducible rfl
               rotate_left
               ·simp only [Act.put, sT_, sZ_, sS_, i64_w, i32_w]
                rfl
               refine take_ (i := 11) (N := some 174) (v := ?_) (a' := ?_) #[true, true, true, true, true, true, true, true, true, true, true, true, false, false] rfl rfl (take_ofW HT_.out HW_.out (by kernel_rfl)) (fun _ _ _ h => h) (Or.inl ⟨by rfl, ?_⟩) hHeld ?_ ?_
               rotate_left
               ·rintro w' ⟨s0, s1, s2, s3⟩
                go_simp
                with_reducible rfl
               rotate_left
               ·simp only [Act.put, sT_, sZ_, sS_, i64_w, i32_w]
                rfl
               refine one_ (i := 12) (N := some 175) #[true, true, true, true, true, true, true, true, true, true, true, true, true, false] rfl rfl (one_of HT_.out (by kernel_rfl)) (by decide) (fun K hK => ?_)
               refine goes_ Try.func22 (by kernel_rfl) rfl #[.agg #[.int .i64 (s.far q k), .int .u32 k], .agg #[.int .i64 (worstH KW.best).f0, .int .u32 (worstH KW.best).f1]] (by rfl) rfl rfl (by simp only [List.map_toArray, List.map_cons, List.map_nil]; rfl) ?_
               with_reducible refine (rless_calls _ _ _ _ gd HLT.out _).mono ?_
               rintro e w7 ⟨rfl, hb⟩
               refine ⟨_, rfl, ?_⟩
               have HB7 := Aside0.mk (bel_trans HBD.out hb)
               clear hb
               refine hK.out _ _ ⟨(pw_cell_below HB7.out HY.out.1), (pw_cell_below HB7.out HY.out.2), ((blk_cell (blk_below HX9.out HB7.out) 0).trans rfl), ((blk_cell (blk_below HX9.out HB7.out) 1).trans rfl)⟩ (fun hHeld => ?_)
               clear hK K
               refine norm_ (a' := ?_) ?_ ?_
               rotate_left
               ·show Act.put _ (some 175) _ = _
                simp only [Act.put, sT_, sZ_, sS_, i64_w, i32_w]
                rfl
               refine pure_ (i := 13) (N := some 176) (v := ?_) (a' := ?_) #[true, true, true, true, true, true, true, true, true, true, true, true, true, true] rfl rfl (any_of HT_.out (by kernel_rfl)) (fun _ _ _ h => h) (Or.inl ⟨by rfl, ?_⟩) ?_ ?_
               rotate_left
               ·intro w'
                go_simp
                with_reducible rfl
               rotate_left
               ·simp only [Act.put, sT_, sZ_, sS_, i64_w, i32_w]
                rfl
               refine done_ (done_of HT_.out (by kernel_rfl)) ?_
               clear hHeld
               go_wp2
               go_meet
               exact ⟨rfl, HB7⟩
             case rest =>
              obtain ⟨rfl, HBc⟩ := hcut
              have HWc := Aside0.mk (HW9.out.below HBc.out)
              have HNc := Aside0.mk (HN9.out.below HBc.out)
              have b0 := (blk_cell (blk_below HX9.out HBc.out) 0).trans rfl
              have b1 := (blk_cell (blk_below HX9.out HBc.out) 1).trans rfl
              cases gd with
              | false =>
               go_wp2
               go_roundg gm
               case measure => omega
               case rel => exact ⟨i + 1, ⟨KW.met ++ [(k : Int)], KW.waits, KW.best⟩, by go_num, ⟨gk_next HI.out HII.out⟩, ⟨by rw [HFS.out, step_bad HC.out HT.out HGD.out]⟩, HWc, HNc⟩
              | true =>
               go_wp2_with (first | (have := HW11; go_at_call 75; go_must (with_reducible refine (rfirst_own HW11.out W (by have := HLEN.out; rw [intoL_len]; omega)).mono ?_); rintro e w12 ⟨⟨v12, rfl, hv⟩, hb⟩; have HW12 := Aside0.mk ((HW10.out.below HB11.out).keep hb hv); have HN12 := Aside0.mk ((HN10.out.below HB11.out).below hb); clear hv hb) | (have := HW10; go_at_call 73; go_must (with_reducible refine (rinto_calls ab cb KW.best (s.far q k) k _ (OwnH.reads_ HW10.out.best) (by have := HLEN.out; omega)).mono ?_); rintro e w11 ⟨⟨v11, rfl, hv⟩, hb⟩; have HB11 := Aside0.mk hb; have HW11 := Aside0.mk hv; clear hv hb) | (go_at_call 73; go_must (with_reducible refine (rinto_calls ah ch KW.waits (s.far q k) k _ (RH.reads_ HWc.out.waits) (by have := HLEN.out; omega)).mono ?_); rintro e w10 ⟨⟨v10, rfl, hv⟩, hb⟩; have HW10 := Aside0.mk (HWc.out.wait hb hv); have HN10 := Aside0.mk (HNc.out.below hb); have b0 := pw_cell_below hb b0; have b1 := pw_cell_below hb b1; clear hv hb))
               go_roundg gm
               case measure => omega
               case rel => exact ⟨i + 1, ⟨KW.met ++ [(k : Int)], intoL KW.waits (s.hit q k), putK W KW.best (s.hit q k)⟩, by go_num, ⟨gk_next HI.out HII.out⟩, ⟨by rw [HFS.out, step_good HC.out HT.out HGD.out]⟩, HW12, HN12⟩
          ·have r3 : decide ((i : Int) < (N.length : Int)) = false := decide_eq_false (by omega)
           have r4 : decide (i < N.length) = false := decide_eq_false hi
           have hie : i = N.length := by have := HI.out; omega
           rw [hie, List.take_length] at HKE
           obtain ⟨an, cn, rfl, -, -⟩ := HN.out.own.C
           clear hi hie
           go_wp2
           go_roundg go
           case measure => omega
           case rel => exact ⟨f2, KW, ⟨by have := HGAU.out; omega⟩, ⟨by rw [HKE.out]; exact HANS2.out, HG.out, HGAU.out.2.2⟩, HK, HWB, HW⟩
end
end Go.Proofs.Ytofmlajanopniaa.Li
namespace Go.Proofs.Ytofmlajanopniaa.Li
open Go.RowKit Go.Maps Go.Proofs.YtofmlajanopniaaW.PrintWords Go.Proofs.YtofmlajanopniaaW.PrintLast Go.Proofs.YtofmlajanopniaaW.PrintMore Go.Proofs.Ytofmlajanopniaa.Q Go.Proofs.Ytofmlajanopniaa.Tk
/-! ### Plain -/
structure Inv (s : Gr) (n : Nat) : Prop where
 good : Good s
 m : 0 ≤ s.m
 len : s.l.length ≤ n
 sm : ∀ (i : Nat) (nd : Nd), s.l[i]? = some nd → nd.vec.length ≤ 100000 ∧ nd.tags.length ≤ 100000
section
variable {s : Gr} {n n' : Nat}
theorem Inv.nil {m : Int} (h : 0 ≤ m) : Inv ⟨m, []⟩ 0 := ⟨Good.nil m, h, Nat.le_refl _, fun i nd h => by simp at h⟩
theorem Inv.mono (h : Inv s n) (hn : n ≤ n') : Inv s n' := ⟨h.good, h.m, Nat.le_trans h.len hn, h.sm⟩
theorem Inv.lk (h : Inv s n) (i : Nat) (nd : Nd) (hi : s.l[i]? = some nd) : nd.links.length ≤ 5 ∧ ∀ l ∈ nd.links, l.length ≤ n := by
 refine ⟨(h.good.lv1 i nd hi).2, fun l hl => ?_⟩
 obtain ⟨j, hj, rfl⟩ := List.getElem_of_mem hl
 exact Nat.le_trans (good_len h.good hi (List.getElem?_eq_getElem hj)) h.len
theorem Inv.small (h : Inv s n) (hn : n ≤ 90000) : s.Small := by
 refine ⟨Nat.le_trans h.len hn, fun i nd hi => ?_⟩
 obtain ⟨h1, h2⟩ := h.lk i nd hi
 obtain ⟨h3, h4⟩ := h.sm i nd hi
 have h5 := (h.good.lv1 i nd hi).1
 exact ⟨h3, h4, by omega, by omega, fun l hl => Nat.le_trans (h2 l hl) hn⟩
theorem Inv.nsm (h : Inv s n) (hn : n ≤ 90000) {i : Nat} {nd : Nd} (hi : s.l[i]? = some nd) : nd.Sm := by
 obtain ⟨h1, h2⟩ := h.lk i nd hi
 obtain ⟨h3, h4⟩ := h.sm i nd hi
 exact ⟨h3, h4, by omega, fun l hl => by have := h2 l hl; omega⟩
theorem Inv.add (h : Inv s n) (id : Int) {vec : List Int} {tags : List ByteArray} (lv v : Int) (h1 : vec.length ≤ 100000) (h2 : tags.length ≤ 100000) : Inv (s.add id vec tags lv v) (n + 1) := by
 refine ⟨h.good.add _ _ _ _ _, h.m, by unfold Gr.add; simp; exact h.len, fun i nd hi => ?_⟩
 unfold Gr.add at hi
 dsimp only at hi
 by_cases hc : i < s.l.length
 ·rw [List.getElem?_append_left hc] at hi
  exact h.sm i nd hi
 ·rw [List.getElem?_append_right (by omega)] at hi
  have h0 : i - s.l.length = 0 := by have := (List.getElem?_eq_some_iff.1 hi).1; simp at this; omega
  rw [h0] at hi
  cases hi
  exact ⟨h1, h2⟩
theorem set_keeps {f : Nd → Nd} (hf : ∀ x, (f x).vec = x.vec ∧ (f x).tags = x.tags) {l : List Nd} {i k : Nat} {x nd : Nd} (hx : l[i]? = some x) (hk : (l.set i (f x))[k]? = some nd) : ∃ y, l[k]? = some y ∧ nd.vec = y.vec ∧ nd.tags = y.tags := by
 rw [List.getElem?_set] at hk
 by_cases e : i = k
 ·subst e
  rw [if_pos rfl] at hk
  split at hk
  ·injection hk with hk
   subst hk
   exact ⟨x, hx, hf x⟩
  ·cases hk
 ·rw [if_neg e] at hk
  exact ⟨nd, hk, rfl, rfl⟩
theorem Inv.until_ (h : Inv s n) (i : Nat) (v : Int) : Inv (s.until_ i v) n := by
 refine ⟨h.good.until_ i v, h.m, ?_, fun k nd hk => ?_⟩
 ·rw [setUn_l]; exact h.len
 ·unfold Gr.until_ at hk
  cases hx : s.l[i]? with
  | none => rw [hx] at hk; exact h.sm k nd hk
  | some x =>
   rw [hx] at hk
   obtain ⟨y, h1, h2, h3⟩ := set_keeps (f := fun x => setUn x v) (fun _ => ⟨rfl, rfl⟩) hx hk
   have := h.sm k y h1
   rw [h2, h3]; exact this
theorem setL_l {a lv : Nat} {ls : List Int} : (s.setL a lv ls).l.length = s.l.length := by
 unfold Gr.setL
 cases s.l[a]? with
 | none => rfl
 | some n => exact List.length_set
theorem Inv.link (h : Inv s n) (a b lv most : Int) : Inv (s.link a b lv most).2 n := by
 have hg := h.good.link a b lv most
 unfold Gr.link at hg ⊢
 split
 ·exact h
 ·next hc =>
  rw [if_neg hc] at hg
  refine ⟨hg, h.m, ?_, fun k nd hk => ?_⟩
  ·show (s.setL _ _ _).l.length ≤ n
   rw [setL_l]; exact h.len
  ·dsimp only at hk
   unfold Gr.setL at hk
   cases hx : s.l[a.toNat]? with
   | none => rw [hx] at hk; exact h.sm k nd hk
   | some x =>
    rw [hx] at hk
    obtain ⟨y, h1, h2, h3⟩ := set_keeps (f := fun x => setLk x lv.toNat (linked s a b lv most)) (fun _ => ⟨rfl, rfl⟩) hx hk
    have := h.sm k y h1
    rw [h2, h3]; exact this
end
/-! ### Both in memory -/
structure M2 (X : Nat → Prop) (w0 w : World) (g gr : Nat) (s1 s2 : Gr) : Prop where
 out : ∃ F FD, GX w0 w g F s1 ∧ DX w0 w gr FD s2 ∧ (∀ k, F k → ¬ FD k) ∧ (∀ k, F k → ¬ X k) ∧ (∀ k, FD k → ¬ X k)
 xl : ∀ k, X k → k < w.heap.size
def KeepX (X : Nat → Prop) (w w' : World) : Prop := ∀ k, X k → w'.heap[k]? = w.heap[k]?
section
variable {X X' : Nat → Prop} {w0 w w' : World} {g gr : Nat} {s s1 s2 : Gr}
theorem M2.at0 (h : M2 X w0 w g gr s1 s2) : Below w0.heap.size w0 w := by obtain ⟨F, FD, h1, _⟩ := h.out; exact h1.at0
theorem M2.below (h : M2 X w0 w g gr s1 s2) (hb : Below w.heap.size w w') : M2 X w0 w' g gr s1 s2 := by
 obtain ⟨F, FD, h1, h2, h3, h4, h5⟩ := h.out
 exact ⟨⟨F, FD, h1.below hb, h2.below hb, h3, h4, h5⟩, fun k hk => Nat.lt_of_lt_of_le (h.xl k hk) hb.size⟩
theorem M2.keepB (h : M2 X w0 w g gr s1 s2) (hb : Below w.heap.size w w') : KeepX X w w' := fun k hk => hb.block k (h.xl k hk)
theorem M2.less (h : M2 X w0 w g gr s1 s2) (hX : ∀ k, X' k → X k) : M2 X' w0 w g gr s1 s2 := by
 obtain ⟨F, FD, h1, h2, h3, h4, h5⟩ := h.out
 exact ⟨⟨F, FD, h1, h2, h3, fun k hk hx => h4 k hk (hX k hx), fun k hk hx => h5 k hk (hX k hx)⟩, fun k hk => h.xl k (hX k hk)⟩
theorem M2.box (h : M2 X w0 w g gr s1 s2) (hb : Below w.heap.size w w') {b : Nat} (h1 : w.heap.size ≤ b) (h2 : b < w'.heap.size) : M2 (fun k => X k ∨ k = b) w0 w' g gr s1 s2 := by
 obtain ⟨F, FD, e1, e2, e3, e4, e5⟩ := h.out
 have l1 := e1.low
 have l2 := e2.low
 refine ⟨⟨F, FD, e1.below hb, e2.below hb, e3, fun k hk hx => ?_, fun k hk hx => ?_⟩, fun k hk => ?_⟩
 ·rcases hx with hx | hx
  ·exact e4 k hk hx
  ·have := (l1 k hk).2; omega
 ·rcases hx with hx | hx
  ·exact e5 k hk hx
  ·have := (l2 k hk).2; omega
 ·rcases hk with hk | hk
  ·exact Nat.lt_of_lt_of_le (h.xl k hk) hb.size
  ·omega
theorem M2.prog {s1' : Gr} {F FD F' : Nat → Prop} (h1 : GX w0 w g F s1) (h2 : DX w0 w gr FD s2) (h3 : ∀ k, F k → ¬ FD k) (h4 : ∀ k, F k → ¬ X k) (h5 : ∀ k, FD k → ¬ X k) (hx : ∀ k, X k → k < w.heap.size) (hG : GX w0 w' g F' s1') (hF : ∀ k, F' k → more F w w' k) (hO : Only F w w') : M2 X w0 w' g gr s1' s2 ∧ KeepX X w w' := by
 have l2 := h2.low
 refine ⟨⟨⟨F', FD, hG, h2.beside hO (fun k hk hf => h3 k hf hk) (fun k hk => (h1.low k hk).1), fun k hk hd => ?_, fun k hk hxk => ?_, h5⟩, fun k hk => Nat.lt_of_lt_of_le (hx k hk) hO.size⟩, fun k hk => hO.block k (hx k hk) (fun hf => h4 k hf hk)⟩
 ·rcases hF k hk with hk | hk
  ·exact h3 k hk hd
  ·have := (l2 k hd).2; have := hk.1; omega
 ·rcases hF k hk with hk | hk
  ·exact h4 k hk hxk
  ·have := hx k hxk; have := hk.1; omega
theorem M2.doc {s2' : Gr} {F FD F' : Nat → Prop} (h1 : GX w0 w g F s1) (h2 : DX w0 w gr FD s2) (h3 : ∀ k, F k → ¬ FD k) (h4 : ∀ k, F k → ¬ X k) (h5 : ∀ k, FD k → ¬ X k) (hx : ∀ k, X k → k < w.heap.size) (hG : DX w0 w' gr F' s2') (hF : ∀ k, F' k → more FD w w' k) (hO : Only FD w w') : M2 X w0 w' g gr s1 s2' ∧ KeepX X w w' := by
 have l1 := h1.low
 refine ⟨⟨⟨F, F', h1.beside hO (fun k hk hf => h3 k hk hf) (fun k hk => (h2.low k hk).1), hG, fun k hk hd => ?_, h4, fun k hk hxk => ?_⟩, fun k hk => Nat.lt_of_lt_of_le (hx k hk) hO.size⟩, fun k hk => hO.block k (hx k hk) (fun hf => h5 k hf hk)⟩
 ·rcases hF k hd with hd | hd
  ·exact h3 k hk hd
  ·have := (l1 k hk).2; have := hd.1; omega
 ·rcases hF k hk with hk | hk
  ·exact h5 k hk hxk
  ·have := hx k hxk; have := hk.1; omega
/-! ### Ops -/
theorem M2.addP (h : M2 X w0 w g gr s1 s2) {n : Nat} (hi : Inv s1 n) (hn : n ≤ 90000) (id : Int) (vec : List Int) (tags : List ByteArray) (A1 : Option Addr) (c1 : Nat) (A2 : Option Addr) (c2 : Nat) (hf1 : vec.length ≤ c1) (hC1 : Kd.C (Kd.int .i32) w A1 vec.length vec) (hf2 : tags.length ≤ c2) (hC2 : Kd.C Kd.string w A2 tags.length tags) (hl1 : vec.length ≤ 100000) (hl2 : tags.length ≤ 100000) (lv v : Int) :
  Calls Try.prog 13 #[.pointer (some ⟨g, 0, none⟩), .agg #[.int .u32 id, .slice A1 vec.length c1, .slice A2 tags.length c2], .int .i64 lv, .int .u64 v] w fun e w' => e = .returned (.int .i64 s1.l.length) ∧ M2 X w0 w' g gr (s1.add id vec tags lv v) s2 ∧ KeepX X w w' := by
 obtain ⟨F, FD, h1, h2, h3, h4, h5⟩ := h.out
 exact (h1.add_ (Nat.le_trans hi.len hn) id vec tags A1 c1 A2 c2 hf1 hC1 hf2 hC2 hl1 hl2 lv v).mono fun e w' ⟨he, hG, hO⟩ => ⟨he, M2.prog h1 h2 h3 h4 h5 h.xl hG (fun k hk => hk) hO⟩
theorem M2.addD (h : M2 X w0 w g gr s1 s2) (hl : s2.l.length ≤ 90000) (id : Int) (vec : List Int) (tags : List ByteArray) (A1 : Option Addr) (c1 : Nat) (A2 : Option Addr) (c2 : Nat) (hf1 : vec.length ≤ c1) (hC1 : Kd.C (Kd.int .i32) w0 A1 vec.length vec) (hf2 : tags.length ≤ c2) (hC2 : Kd.C Kd.string w0 A2 tags.length tags) (lv v : Int) :
  Calls Try.prog 38 #[.pointer (some ⟨gr, 0, none⟩), .agg #[.int .u32 id, .slice A1 vec.length c1, .slice A2 tags.length c2], .int .i64 lv, .int .u64 v] w fun e w' => e = .returned (.int .i64 s2.l.length) ∧ M2 X w0 w' g gr s1 (s2.add id vec tags lv v) ∧ KeepX X w w' := by
 obtain ⟨F, FD, h1, h2, h3, h4, h5⟩ := h.out
 exact (h2.add_ hl id vec tags A1 c1 A2 c2 (fun fr ls W hW => ⟨hf1, Kd.C_below hC1 hW, hf2, Kd.C_below hC2 hW⟩) lv v).mono fun e w' ⟨he, hG, hO⟩ => ⟨he, M2.doc h1 h2 h3 h4 h5 h.xl hG (fun k hk => hk) hO⟩
theorem link_parts {a b lv : Int} (hc : ¬ (!s.there a lv || !s.there b lv || a == b) = true) : ∃ (ka kb j : Nat) (nd : Nd) (ls : List Int), a = ka ∧ b = kb ∧ lv = j ∧ s.l[ka]? = some nd ∧ nd.links[j]? = some ls ∧ s.there ka j = true ∧ s.there kb j = true ∧ ka ≠ kb := by
 have h1 : s.there a lv = true := by cases h : s.there a lv with | true => rfl | false => rw [h] at hc; simp at hc
 have h2 : s.there b lv = true := by cases h : s.there b lv with | true => rfl | false => rw [h] at hc; simp at hc
 have h3 : a ≠ b := fun e => by rw [e] at hc; simp at hc
 obtain ⟨ka, j, nd, rfl, rfl, hn, hj⟩ := there_iff.1 h1
 obtain ⟨kb, j2, nd2, rfl, e, hn2, hj2⟩ := there_iff.1 h2
 exact ⟨ka, kb, j, nd, _, rfl, rfl, rfl, hn, List.getElem?_eq_getElem hj, h1, h2, fun e => h3 (by rw [e])⟩
theorem M2.linkP (h : M2 X w0 w g gr s1 s2) {n : Nat} (hi : Inv s1 n) (hn : n ≤ 90000) (a b lv most : Int) :
  Calls Try.prog 14 #[.pointer (some ⟨g, 0, none⟩), .int .i64 a, .int .i64 b, .int .i64 lv, .int .i64 most] w fun e w' => e = .returned (.bool (s1.link a b lv most).1) ∧ M2 X w0 w' g gr (s1.link a b lv most).2 s2 ∧ KeepX X w w' := by
 obtain ⟨F, FD, h1, h2, h3, h4, h5⟩ := h.out
 by_cases hc : (!s1.there a lv || !s1.there b lv || a == b) = true
 ·rw [show s1.link a b lv most = (false, s1) by unfold Gr.link; rw [if_pos hc]]
  exact (h1.link_no a b lv most hc).mono fun e w' ⟨he, hb⟩ => ⟨he, h.below hb, h.keepB hb⟩
 ·rw [show s1.link a b lv most = (true, s1.setL a.toNat lv.toNat (linked s1 a b lv most)) by unfold Gr.link; rw [if_neg hc]]
  obtain ⟨ka, kb, j, nd, ls, rfl, rfl, rfl, hnd, hj, ha, hb, hab⟩ := link_parts hc
  have hls := (hi.lk ka nd hnd).2 ls (List.mem_of_getElem? hj)
  exact (h1.link_yes hi.m (by have := hi.len; omega) hnd hj (by omega) most ha hb hab).mono fun e w' ⟨he, ⟨F', hG, hF⟩, hO⟩ => ⟨he, M2.prog h1 h2 h3 h4 h5 h.xl hG hF hO⟩
theorem M2.linkD (h : M2 X w0 w g gr s1 s2) {n : Nat} (hi : Inv s2 n) (hn : n ≤ 90000) (a b lv most : Int) :
  Calls Try.prog 39 #[.pointer (some ⟨gr, 0, none⟩), .int .i64 a, .int .i64 b, .int .i64 lv, .int .i64 most] w fun e w' => e = .returned (.bool (s2.link a b lv most).1) ∧ M2 X w0 w' g gr s1 (s2.link a b lv most).2 ∧ KeepX X w w' := by
 obtain ⟨F, FD, h1, h2, h3, h4, h5⟩ := h.out
 by_cases hc : (!s2.there a lv || !s2.there b lv || a == b) = true
 ·rw [show s2.link a b lv most = (false, s2) by unfold Gr.link; rw [if_pos hc]]
  exact (h2.link_no a b lv most hc).mono fun e w' ⟨he, hb⟩ => ⟨he, h.below hb, h.keepB hb⟩
 ·rw [show s2.link a b lv most = (true, s2.setL a.toNat lv.toNat (linked s2 a b lv most)) by unfold Gr.link; rw [if_neg hc]]
  obtain ⟨ka, kb, j, nd, ls, rfl, rfl, rfl, hnd, hj, ha, hb, hab⟩ := link_parts hc
  have hls := (hi.lk ka nd hnd).2 ls (List.mem_of_getElem? hj)
  have hnl := (hi.lk ka nd hnd).1
  exact (h2.link_yes hi.m (by have := hi.len; omega) hnd hj (by omega) (by omega) most ha hb hab).mono fun e w' ⟨he, ⟨F', hG, hF⟩, hO⟩ => ⟨he, M2.doc h1 h2 h3 h4 h5 h.xl hG hF hO⟩
theorem M2.untilP (h : M2 X w0 w g gr s1 s2) (a v : Int) :
  Calls Try.prog 40 #[.pointer (some ⟨g, 0, none⟩), .int .i64 a, .int .u64 v] w fun e w' => e = .returned (.bool (s1.there a 0)) ∧ M2 X w0 w' g gr (if s1.there a 0 = true then s1.until_ a.toNat v else s1) s2 ∧ KeepX X w w' := by
 obtain ⟨F, FD, h1, h2, h3, h4, h5⟩ := h.out
 cases hc : s1.there a 0 with
 | false =>
  rw [if_neg (by simp)]
  exact (h1.until_no a v hc).mono fun e w' ⟨he, hb⟩ => ⟨he, h.below hb, h.keepB hb⟩
 | true =>
  rw [if_pos rfl]
  obtain ⟨k, j, nd, rfl, -, hnd, -⟩ := there_iff.1 hc
  exact (h1.until_yes k v hc).mono fun e w' ⟨he, hG, hO⟩ => ⟨he, M2.prog h1 h2 h3 h4 h5 h.xl hG (fun k hk => .inl hk) hO⟩
theorem M2.thereD (h : M2 X w0 w g gr s1 s2) (i lv : Int) : Calls Try.prog 41 #[.pointer (some ⟨gr, 0, none⟩), .int .i64 i, .int .i64 lv] w fun e w' => e = .returned (.bool (s2.there i lv)) ∧ Below w.heap.size w w' := by
 obtain ⟨F, FD, h1, h2, _⟩ := h.out
 exact h2.there_ i lv _ rfl
theorem M2.lenP (h : M2 X w0 w g gr s1 s2) : Calls Try.prog 18 #[.pointer (some ⟨g, 0, none⟩)] w fun e w' => e = .returned (.int .i64 s1.l.length) ∧ Below w.heap.size w w' := by
 obtain ⟨F, FD, h1, h2, _⟩ := h.out
 exact h1.len_
theorem M2.nearP (h : M2 X w0 w g gr s1 s2) {n : Nat} (hi : Inv s1 n) (hn : n ≤ 90000) (A : Option Addr) (c : Nat) (q : List Int) (hq : Kd.C (Kd.int .i32) w A q.length q) (hqc : q.length ≤ c) (A2 : Option Addr) (c2 : Nat) (L : List Int) (hL : Kd.C (Kd.int .i64) w A2 L.length L) (hLl : L.length ≤ 100000) :
  Calls Try.prog 21 #[.pointer (some ⟨g, 0, none⟩), .slice A q.length c, .slice A2 L.length c2] w fun e w' => (∃ v, e = .returned v ∧ OwnH w' w.heap.size v (nearG s1 q L)) ∧ Below w.heap.size w w' := by
 obtain ⟨F, FD, h1, h2, _⟩ := h.out
 exact h1.near_ hi.m A c q hq hqc A2 c2 L hL (by have := hi.len; omega) hLl
theorem M2.nearD (h : M2 X w0 w g gr s1 s2) {n : Nat} (hi : Inv s2 n) (hn : n ≤ 90000) (A : Option Addr) (c : Nat) (q : List Int) (hq : Kd.C (Kd.int .i32) w A q.length q) (hqc : q.length ≤ c) (A2 : Option Addr) (c2 : Nat) (L : List Int) (hL : Kd.C (Kd.int .i64) w A2 L.length L) (hLl : L.length ≤ 100000) :
  Calls Try.prog 42 #[.pointer (some ⟨gr, 0, none⟩), .slice A q.length c, .slice A2 L.length c2] w fun e w' => (∃ v, e = .returned v ∧ OwnH w' w.heap.size v (nearG s2 q L)) ∧ Below w.heap.size w w' := by
 obtain ⟨F, FD, h1, h2, _⟩ := h.out
 exact h2.near_ hi.m A c q hq hqc A2 c2 L _ rfl hL (by have := hi.len; omega) hLl
theorem M2.chooseP (h : M2 X w0 w g gr s1 s2) {n : Nat} (hi : Inv s1 n) (hn : n ≤ 90000) (A : Option Addr) (c : Nat) (q : List Int) (hq : Kd.C (Kd.int .i32) w A q.length q) (hqc : q.length ≤ c) (A2 : Option Addr) (c2 : Nat) (L : List Int) (hL : Kd.C (Kd.int .i64) w A2 L.length L) (hLl : L.length ≤ 100000) (most : Int) :
  Calls Try.prog 32 #[.pointer (some ⟨g, 0, none⟩), .slice A q.length c, .slice A2 L.length c2, .int .i64 most] w fun e w' => (∃ v, e = .returned v ∧ OwnZ w' w.heap.size v (chooseG s1 q L most)) ∧ Below w.heap.size w w' := by
 obtain ⟨F, FD, h1, h2, _⟩ := h.out
 exact h1.choose_ hi.m A c q hq hqc A2 c2 L hL (by have := hi.len; omega) hLl most
theorem M2.chooseD (h : M2 X w0 w g gr s1 s2) {n : Nat} (hi : Inv s2 n) (hn : n ≤ 90000) (A : Option Addr) (c : Nat) (q : List Int) (hq : Kd.C (Kd.int .i32) w A q.length q) (hqc : q.length ≤ c) (A2 : Option Addr) (c2 : Nat) (L : List Int) (hL : Kd.C (Kd.int .i64) w A2 L.length L) (hLl : L.length ≤ 100000) (most : Int) :
  Calls Try.prog 43 #[.pointer (some ⟨gr, 0, none⟩), .slice A q.length c, .slice A2 L.length c2, .int .i64 most] w fun e w' => (∃ v, e = .returned v ∧ OwnZ w' w.heap.size v (chooseG s2 q L most)) ∧ Below w.heap.size w w' := by
 obtain ⟨F, FD, h1, h2, _⟩ := h.out
 exact h2.choose_ hi.m A c q hq hqc A2 c2 L _ rfl hL (by have := hi.len; omega) hLl most
theorem M2.walkP (h : M2 X w0 w g gr s1 s2) {n : Nat} (hi : Inv s1 n) (hn : n ≤ 90000) (A : Option Addr) (c : Nat) (q : List Int) (hq : Kd.C (Kd.int .i32) w A q.length q) (hqc : q.length ≤ c) (A2 : Option Addr) (c2 : Nat) (L : List Int) (hL : Kd.C (Kd.int .i64) w A2 L.length L) (hLl : L.length ≤ 100000) (width lv : Int) :
  Calls Try.prog 19 #[.pointer (some ⟨g, 0, none⟩), .slice A q.length c, .slice A2 L.length c2, .int .i64 width, .int .i64 lv] w fun e w' => (∃ v, e = .returned v ∧ OwnH w' w.heap.size v (walkG s1 q L width lv)) ∧ Below w.heap.size w w' := by
 obtain ⟨F, FD, h1, h2, _⟩ := h.out
 exact h1.walk_ hi.good hi.m (by have := hi.len; omega) A c q hq hqc A2 c2 L hL hLl width lv
theorem M2.walkD (h : M2 X w0 w g gr s1 s2) {n : Nat} (hi : Inv s2 n) (hn : n ≤ 90000) (A : Option Addr) (c : Nat) (q : List Int) (hq : Kd.C (Kd.int .i32) w A q.length q) (hqc : q.length ≤ c) (A2 : Option Addr) (c2 : Nat) (L : List Int) (hL : Kd.C (Kd.int .i64) w A2 L.length L) (hLl : L.length ≤ 100000) (width lv : Int) :
  Calls Try.prog 44 #[.pointer (some ⟨gr, 0, none⟩), .slice A q.length c, .slice A2 L.length c2, .int .i64 width, .int .i64 lv] w fun e w' => (∃ v, e = .returned v ∧ OwnH w' w.heap.size v (walkG s2 q L width lv)) ∧ Below w.heap.size w w' := by
 obtain ⟨F, FD, h1, h2, _⟩ := h.out
 exact h2.walk_ hi.m (by have := hi.len; omega) (fun i nd hnd l hl => Nat.le_trans ((hi.lk i nd hnd).2 l hl) hn) A c q hq hqc A2 c2 L hL hLl width lv
end
end Go.Proofs.Ytofmlajanopniaa.Li
namespace Go.Proofs.Ytofmlajanopniaa.Li
open Go.RowKit Go.Maps Go.Proofs.YtofmlajanopniaaW.PrintWords Go.Proofs.YtofmlajanopniaaW.PrintLast Go.Proofs.YtofmlajanopniaaW.PrintMore Go.Proofs.Ytofmlajanopniaa.Q Go.Proofs.Ytofmlajanopniaa.Tk
def bld.T11 : Bool × List (List Nat × List Nat) := (true, [([], []), ([], []), ([1], [1]), ([], []), ([3], [3]), ([], []), ([5], [5]), ([6], [6]), ([7], [7]), ([0, 2, 4, 8], [0, 2, 4, 8]), ([], []), ([], []), ([11], [11]), ([], []), ([13], [13]), ([], []), ([15], [15]), ([16], [16]), ([17], [17]), ([10, 12, 14, 18, 9], [10, 12, 14, 18]), ([9, 19], [9, 19])])
def bld.B11 : List Nat := [0, 0, 2, 0, 8, 0, 32, 96, 224, 511, 0, 0, 2048, 0, 8192, 0, 32768, 98304, 229376, 524287, 1048575]
theorem bld.tab11 : rtab .any (opsOf Try.f17 11) = bld.T11 := by kernel_rfl
theorem bld.bits11 : waitsOk bld.T11.2 bld.B11 = true := by kernel_rfl
def bld.T14 : Bool × List (List Nat × List Nat) := (true, [([], []), ([], []), ([1], [1]), ([], []), ([3], [3]), ([], []), ([5], [5]), ([], []), ([7], [7]), ([0, 2, 4, 6, 8], [0, 2, 4, 6, 8]), ([], []), ([], []), ([11], [11]), ([], []), ([13], [13]), ([], []), ([15], [15]), ([], []), ([17], [17]), ([10, 12, 14, 16, 18, 9], [10, 12, 14, 16, 18]), ([9, 19], [9, 19])])
def bld.B14 : List Nat := [0, 0, 2, 0, 8, 0, 32, 0, 128, 511, 0, 0, 2048, 0, 8192, 0, 32768, 0, 131072, 524287, 1048575]
theorem bld.tab14 : rtab .any (opsOf Try.f17 14) = bld.T14 := by kernel_rfl
theorem bld.bits14 : waitsOk bld.T14.2 bld.B14 = true := by kernel_rfl
def bld.T21 : Bool × List (List Nat × List Nat) := (true, [([], []), ([0], [0]), ([1], [1]), ([2], [2]), ([], []), ([4], [4]), ([3, 5, 0, 1, 2, 3, 4, 5], [3, 5]), ([6, 0, 1, 2, 3, 4, 5], [6]), ([7, 0, 1, 2, 3, 4, 5], [7])])
def bld.B21 : List Nat := [0, 1, 3, 7, 0, 16, 63, 127, 255]
theorem bld.tab21 : rtab .any (opsOf Try.f17 21) = bld.T21 := by kernel_rfl
theorem bld.bits21 : waitsOk bld.T21.2 bld.B21 = true := by kernel_rfl
def bld.T23 : Bool × List (List Nat × List Nat) := (true, [([], []), ([], []), ([1], [1]), ([2], [2]), ([], []), ([4], [4]), ([0, 3, 5], [0, 3, 5]), ([], []), ([], []), ([8], [8]), ([9], [9]), ([], []), ([11], [11]), ([7, 10, 12, 6], [7, 10, 12]), ([6, 13, 13], [6, 13]), ([14], [14])])
def bld.B23 : List Nat := [0, 0, 2, 6, 0, 16, 63, 0, 0, 256, 768, 0, 2048, 8191, 16383, 32767]
theorem bld.tab23 : rtab .any (opsOf Try.f17 23) = bld.T23 := by kernel_rfl
theorem bld.bits23 : waitsOk bld.T23.2 bld.B23 = true := by kernel_rfl
def bld.T26 : Bool × List (List Nat × List Nat) := (true, [([], []), ([], []), ([1], [1]), ([2], [2]), ([], []), ([4], [4]), ([], []), ([6], [6]), ([0, 3, 5, 7], [0, 3, 5, 7]), ([], []), ([], []), ([10], [10]), ([11], [11]), ([], []), ([13], [13]), ([], []), ([15], [15]), ([9, 12, 14, 16, 8], [9, 12, 14, 16]), ([8, 17, 17], [8, 17]), ([18], [18])])
def bld.B26 : List Nat := [0, 0, 2, 6, 0, 16, 0, 64, 255, 0, 0, 1024, 3072, 0, 8192, 0, 32768, 131071, 262143, 524287]
theorem bld.tab26 : rtab .any (opsOf Try.f17 26) = bld.T26 := by kernel_rfl
theorem bld.bits26 : waitsOk bld.T26.2 bld.B26 = true := by kernel_rfl
def bld.T8 : Bool × List (List Nat × List Nat) := (true, [([], []), ([], []), ([1], [1]), ([2], [2]), ([], []), ([4], [4]), ([], []), ([6], [6]), ([], []), ([8], [8]), ([0, 3, 5, 7, 9], [0, 3, 5, 7, 9]), ([], []), ([], []), ([12], [12]), ([13], [13]), ([], []), ([15], [15]), ([], []), ([17], [17]), ([], []), ([19], [19]), ([11, 14, 16, 18, 20, 10], [11, 14, 16, 18, 20]), ([10, 21, 21], [10, 21]), ([22], [22])])
def bld.B8 : List Nat := [0, 0, 2, 6, 0, 16, 0, 64, 0, 256, 1023, 0, 0, 4096, 12288, 0, 32768, 0, 131072, 0, 524288, 2097151, 4194303, 8388607]
theorem bld.tab8 : rtab .any (opsOf Try.f17 8) = bld.T8 := by kernel_rfl
theorem bld.bits8 : waitsOk bld.T8.2 bld.B8 = true := by kernel_rfl
def bld.T28 : Bool × List (List Nat × List Nat) := (true, [([], []), ([0], [0]), ([], []), ([2], [2]), ([3], [3]), ([4], [4]), ([5], [5]), ([1, 6], [1, 6])])
def bld.B28 : List Nat := [0, 1, 0, 4, 12, 28, 60, 127]
theorem bld.tab28 : rtab .any (opsOf Try.f17 28) = bld.T28 := by kernel_rfl
theorem bld.bits28 : waitsOk bld.T28.2 bld.B28 = true := by kernel_rfl
theorem walkL_len {s : Gr} {q : List Int} {lv : Int} {W : Nat} : ∀ (f : Nat) (k : Wk), k.best.length ≤ W → (walkL s q lv W f k).length ≤ W := by
 intro f
 induction f with
 | zero => exact fun k h => h
 | succ f ih =>
  intro k h
  unfold walkL
  split
  ·exact h
  ·split
   ·exact h
   ·refine ih _ ?_
    suffices hs : ∀ (L : List Int) (k : Wk), k.best.length ≤ W → (L.foldl (stepN s q lv W) k).best.length ≤ W from hs _ _ h
    intro L
    induction L with
    | nil => exact fun k h => h
    | cons a L ihL =>
     intro k h
     refine ihL _ ?_
     unfold stepN
     split
     ·exact h
     ·split
      ·show (putK W k.best (s.hit q a)).length ≤ W
       unfold putK; rw [List.length_take]; omega
      ·exact h
theorem walk_len (s : Gr) (q L : List Int) (width lv : Int) : (walkG s q L width lv).length ≤ 256 := by
 have hW : widthW width ≤ 256 := by unfold widthW; omega
 refine Nat.le_trans (walkL_len _ _ ?_) hW
 unfold walk0
 suffices hs : ∀ (L : List Int) (k : Wk), k.best.length ≤ widthW width → (L.foldl (startN s q lv (widthW width)) k).best.length ≤ widthW width from hs _ _ (Nat.zero_le _)
 intro L
 induction L with
 | nil => exact fun k h => h
 | cons a L ih =>
  intro k h
  refine ih _ ?_
  unfold startN
  split
  ·show (putK _ k.best (s.hit q a)).length ≤ _
   unfold putK; rw [List.length_take]; omega
  ·exact h
theorem choose_short (s : Gr) (q L : List Int) (most : Int) : (chooseG s q L most).length ≤ L.length := by
 unfold chooseG
 rw [List.length_take, List.length_append, (choose2_len s most _).1]
 have := near_len s q L
 omega
section
variable {X X' : Nat → Prop} {w0 w w' : World} {g gr : Nat} {s s1 s2 : Gr}
theorem M2.untilN (h : M2 X w0 w g gr s1 s2) (a v : Int) (hc : s1.there a 0 = false) :
  Calls Try.prog 40 #[.pointer (some ⟨g, 0, none⟩), .int .i64 a, .int .u64 v] w fun e w' => e = .returned (.bool false) ∧ M2 X w0 w' g gr s1 s2 ∧ KeepX X w w' := by
 have h0 := h.untilP a v
 rw [hc, if_neg (by simp)] at h0
 exact h0
theorem M2.untilY (h : M2 X w0 w g gr s1 s2) (a v : Int) (hc : s1.there a 0 = true) :
  Calls Try.prog 40 #[.pointer (some ⟨g, 0, none⟩), .int .i64 a, .int .u64 v] w fun e w' => e = .returned (.bool true) ∧ M2 X w0 w' g gr (s1.until_ a.toNat v) s2 ∧ KeepX X w w' := by
 have h0 := h.untilP a v
 rw [hc, if_pos rfl] at h0
 exact h0
theorem M2.thereB (h : M2 X w0 w g gr s1 s2) (i lv : Int) (b : Bool) (hb : s2.there i lv = b) : Calls Try.prog 41 #[.pointer (some ⟨gr, 0, none⟩), .int .i64 i, .int .i64 lv] w fun e w' => e = .returned (.bool b) ∧ Below w.heap.size w w' := by
 subst hb
 exact h.thereD i lv
theorem M2.cellD (h : M2 X w0 w g gr s1 s2) : ∃ ao cap, w.heap[gr]? = some (.cells #[.int .i64 s2.m, .slice ao s2.l.length cap] 48 (0, 0)) := by
 obtain ⟨F, FD, h1, h2, _⟩ := h.out
 obtain ⟨ao, cap, hb, _⟩ := h2.reads
 exact ⟨ao, cap, hb⟩
theorem M2.unD (h : M2 X w0 w g gr s1 s2) {k : Nat} {nd : Nd} (hn : s2.l[k]? = some nd) : ∃ rb cap, w.heap[gr]? = some (.cells #[.int .i64 s2.m, .slice (some ⟨rb, 0, none⟩) s2.l.length cap] 48 (0, 0)) ∧ w.cell? ⟨rb, k * 6 + 4, none⟩ = some (.int .u64 nd.un) ∧ (∀ j, w.frozen? ⟨rb, j, none⟩ = false) ∧ ∀ v, M2 X w0 (w.setCell ⟨rb, k * 6 + 4, none⟩ (.int .u64 v)) g gr s1 (s2.until_ k v) := by
 obtain ⟨F, FD, h1, ⟨vL, h2⟩, h3, h4, h5⟩ := h.out
 obtain ⟨ao, cap, rfl, hl, -, hN⟩ := h2.node
 obtain ⟨ad, A1, c1, A2, c2, A3, c3, rfl, hd, -, -⟩ := hN k nd hn
 obtain ⟨inner, hr, -⟩ := h2.row
 rcases hr.2 with ⟨e, -⟩ | ⟨rb, cap2, cur, e, -⟩
 ·cases e
 ·injection e with e1 e2 e3
  injection e1 with e1
  subst e1
  obtain ⟨cc, hcc⟩ := h2.rowB (rb := rb) rfl
  refine ⟨rb, cap, h2.box, ?_, fun j => blk_frozen hcc j, fun v => ?_⟩
  ·have := hd.y4
   rw [add_plain] at this
   exact this
  ·exact (M2.doc h1 ⟨_, h2⟩ h3 h4 h5 h.xl ⟨_, h2.until_ hn rfl v⟩ (fun k hk => .inl hk) ((Only.of_below (Below.refl _ _)).set _ _ (h2.vF rb rfl))).1
end
set_option maxHeartbeats 64000000 in
set_option maxRecDepth 100000 in
theorem build_ {w0 w : World} {g gr : Nat} {s0 : Gr} {n0 : Nat} (h : M2 (fun _ => False) w0 w g gr s0 s0) (hi : Inv s0 n0) (A : Option Addr) (c : Nat) (l : List OpL) (hC : Kd.C kopL w0 A l.length l) (hok : okOpsL l) (most : Nat) (mI : Int) (hmI : (most : Int) = mI) (hm : n0 + most ≤ 80000) :
  Calls Try.prog 17 #[.pointer (some ⟨g, 0, none⟩), .pointer (some ⟨gr, 0, none⟩), .slice A l.length c, .int .i64 mI] w fun e w' => e = .returned (.bool true) ∧ ∃ s, M2 (fun _ => False) w0 w' g gr s s ∧ Inv s (n0 + most) := by
 subst hmI
 have hu := Try.underlying89
 have hu4 := Try.underlying26
 have hu5 := Try.underlying48
 have hu6 := Try.underlying37
 have HC := Aside0.mk hC
 have HOPS := Aside0.mk hok
 have HM := Aside0.mk hm
 have H0 := Aside0.mk h
 have HI0 := Aside0.mk hi
 clear hC hok hm h hi
 go_enter Try.func17, Try.ntmps17
 go_wp2_with (fail)
 go_loopg [9] most (fun gk v9 wr => ∃ (i : Nat) (s : Gr), v9 = .int .i64 i ∧ Aside0 (i ≤ most ∧ most - i ≤ gk) ∧ Aside0 (M2 (fun _ => False) w0 wr g gr s s) ∧ Aside0 (Inv s (n0 + i)))
 case atStart => exact ⟨0, s0, rfl, ⟨by omega, by omega⟩, H0, HI0⟩
 case round =>
  clear H0 HI0
  obtain ⟨i, s, rfl, HI, HP0, HV⟩ := hrel
  have HB0 := Aside0.mk HP0.out.at0
  by_cases hi : i < l.length
  ·have q1 : decide ((i : Int) < (l.length : Int)) = true := decide_eq_true (by omega)
   have q1' : (i : Int) < (l.length : Int) := by omega
   by_cases h60 : i < most
   ·have q2 : decide ((i : Int) < (most : Int)) = true := decide_eq_true (by omega)
    have q2' : decide (i < most) = true := decide_eq_true h60
    obtain ⟨ad, x, A1, c1, A2, c2, A3, c3, rfl, hx, hO⟩ := opL_at HC.out hi
    have HO := Aside0.mk hO
    have y0 := (hO.below HB0.out).y0
    have y1 := (hO.below HB0.out).y1
    have y2 := (hO.below HB0.out).y2
    have y3 := (hO.below HB0.out).y3
    have y4 := (hO.below HB0.out).y4
    have y5 := (hO.below HB0.out).y5
    have y6 := (hO.below HB0.out).y6
    have y7 := (hO.below HB0.out).y7
    have y8 := (hO.below HB0.out).y8
    have HI60 := Aside0.mk h60
    have HIN := Aside0.mk (show wrap64 ((i : Int) + 1) = ((i + 1 : Nat) : Int) by have := HM.out; unfold wrap64; omega)
    have HNI := Aside0.mk (show n0 + i ≤ 90000 ∧ n0 + (i + 1) ≤ 90000 ∧ n0 + i ≤ n0 + (i + 1) by have := HM.out; omega)
    obtain ⟨gk, rfl⟩ : ∃ m, gk = m + 1 := ⟨gk - 1, by have := HI.out; omega⟩
    have HBX0 := Aside0.mk (heap_alloc_new wr (.cells #[.int .u8 x.1, .int .u32 x.2.1.1, .slice A1 x.2.1.2.1.length c1, .slice A2 x.2.1.2.2.length c2, .int .i64 x.2.2.1, .int .i64 x.2.2.2.1, .int .i64 x.2.2.2.2.1, .int .i64 x.2.2.2.2.2.1, .slice A3 x.2.2.2.2.2.2.length c3] 89))
    have HBA0 := Aside0.mk (below_alloc (Below.refl wr.heap.size wr) (.cells #[.int .u8 x.1, .int .u32 x.2.1.1, .slice A1 x.2.1.2.1.length c1, .slice A2 x.2.1.2.2.length c2, .int .i64 x.2.2.1, .int .i64 x.2.2.2.1, .int .i64 x.2.2.2.2.1, .int .i64 x.2.2.2.2.2.1, .slice A3 x.2.2.2.2.2.2.length c3] 89))
    clear hx hO hi h60
    by_cases hk : x.2.2.2.2.2.2.length ≤ 100
    ·have q4 : decide ((100 : Int) < (x.2.2.2.2.2.2.length : Int)) = false := decide_eq_false (by omega)
     have q4' : decide (100 < x.2.2.2.2.2.2.length) = false := decide_eq_false (by omega)
     have HKL := Aside0.mk hk
     clear hk
     go_upto_block 2 with (go_at_call 11; (with_reducible refine (small_calls x.2.1.1 x.2.1.2.1 x.2.1.2.2 A1 c1 A2 c2 _ HO.out.fit1 (HO.out.below (bel_trans HB0.out HBA0.out)).vec HO.out.fit2 (HO.out.below (bel_trans HB0.out HBA0.out)).tags).mono ?_); rintro e w3 ⟨⟨r, rfl, hr⟩, hb⟩; have hbb := bel_trans HBA0.out hb; have HP3 := Aside0.mk (HP0.out.below hbb); have HBW3 := Aside0.mk hbb; have HX3 := Aside0.mk (blk_below HBX0.out hb); have b0 := (blk_cell HX3.out 0).trans rfl; have b8 := (blk_cell HX3.out 8).trans rfl; have b1 := (blk_cell HX3.out 1).trans rfl; have b2 := (blk_cell HX3.out 2).trans rfl; have b3 := (blk_cell HX3.out 3).trans rfl; clear hb hbb; rcases r with _ | _; clear hr; rotate_left; (have HSM := Aside0.mk (hr rfl)); clear hr; rotate_right)
     ·trace_state
      go_ret
      exact ⟨rfl, s, HP3.out, HV.out.mono (by have := HI.out; omega)⟩
     ·have HPX := Aside0.mk (HP0.out.box HBW3.out (Nat.le_refl _) (blk_lt HX3.out))
      obtain ⟨bx, hbx⟩ : ∃ z, wr.heap.size = z := ⟨_, rfl⟩
      rw [hbx] at HX3 HPX ⊢
      clear hbx HBX0 HBA0 HBW3 b0 b1 b2 b3 b8 y0 y1 y2 y3 y4 y5 y6 y7 y8 HP3 HP0 HB0
      go_cut [11] (fun v11 wc => ∃ s2 : Gr, Aside0 (M2 (fun k => False ∨ k = bx) w0 wc g gr s2 s2) ∧ Aside0 (Inv s2 (n0 + (i + 1))))
      case first =>
       trace_state
       cases k0 : (x.1.tmod 6 == 0) with
       | true =>
        go_wp2
        have HPD := Aside0.mk (HPX.out.below (below_drew (Below.refl _ _)))
        have HXD := Aside0.mk (blk_below HX3.out (below_drew (Below.refl _ _)))
        have qe : ((s.l.length : Int) != (s.l.length : Int)) = false := by simp
        refine start_ (n := 21) (S := fun w' => w'.cell? ⟨bx, 1, none⟩ = some (.int .u32 x.2.1.1) ∧ w'.cell? ⟨bx, 2, none⟩ = some (.slice A1 x.2.1.2.1.length c1) ∧ w'.cell? ⟨bx, 3, none⟩ = some (.slice A2 x.2.1.2.2.length c2) ∧ w'.cell? ⟨bx, 6, none⟩ = some (.int .i64 x.2.2.2.2.1) ∧ w'.cell? ⟨bx, 7, none⟩ = some (.int .i64 x.2.2.2.2.2.1)) (ds := []) #[false, false, false, false, false, false, false, false, false, false, false, false, false, false, false, false, false, false, false, false, false] (by kernel_rfl) rfl rfl ⟨((blk_cell HXD.out 1).trans rfl), ((blk_cell HXD.out 2).trans rfl), ((blk_cell HXD.out 3).trans rfl), ((blk_cell HXD.out 6).trans rfl), ((blk_cell HXD.out 7).trans rfl)⟩ (fun hHeld => ?_)
        refine with_tabW bld.tab11 bld.bits11 (fun HT_ HW_ => ?_)
        generalize w3.drew = wd at HPD HXD hHeld ⊢
        refine pure_ (i := 0) (N := some 66) (v := ?_) (a' := ?_) #[true, false, false, false, false, false, false, false, false, false, false, false, false, false, false, false, false, false, false, false, false] rfl rfl (any_of HT_.out (by kernel_rfl)) (fun _ _ _ h => h) (Or.inl ⟨by rfl, ?_⟩) ?_ ?_
        rotate_left
        ·intro w'
         go_simp
         with_reducible rfl
        rotate_left
        ·simp only [Act.put, sT_, sZ_, sS_, i64_w, i32_w]
         rfl
        refine pure_ (i := 1) (N := some 67) (v := ?_) (a' := ?_) #[true, true, false, false, false, false, false, false, false, false, false, false, false, false, false, false, false, false, false, false, false] rfl rfl (any_of HT_.out (by kernel_rfl)) (fun _ _ _ h => h) (Or.inl ⟨by rfl, ?_⟩) ?_ ?_
        rotate_left
        ·intro w'
         go_simp
         with_reducible rfl
        rotate_left
        ·simp only [Act.put, sT_, sZ_, sS_, i64_w, i32_w]
         rfl
        refine pure_ (i := 3) (N := some 69) (v := ?_) (a' := ?_) #[true, true, false, true, false, false, false, false, false, false, false, false, false, false, false, false, false, false, false, false, false] rfl rfl (any_of HT_.out (by kernel_rfl)) (fun _ _ _ h => h) (Or.inl ⟨by rfl, ?_⟩) ?_ ?_
        rotate_left
        ·intro w'
         go_simp
         with_reducible rfl
        rotate_left
        ·simp only [Act.put, sT_, sZ_, sS_, i64_w, i32_w]
         rfl
        refine pure_ (i := 5) (N := some 71) (v := ?_) (a' := ?_) #[true, true, false, true, false, true, false, false, false, false, false, false, false, false, false, false, false, false, false, false, false] rfl rfl (any_of HT_.out (by kernel_rfl)) (fun _ _ _ h => h) (Or.inl ⟨by rfl, ?_⟩) ?_ ?_
        rotate_left
        ·intro w'
         go_simp
         with_reducible rfl
        rotate_left
        ·simp only [Act.put, sT_, sZ_, sS_, i64_w, i32_w]
         rfl
        refine pure_ (i := 10) (N := some 76) (v := ?_) (a' := ?_) #[true, true, false, true, false, true, false, false, false, false, true, false, false, false, false, false, false, false, false, false, false] rfl rfl (any_of HT_.out (by kernel_rfl)) (fun _ _ _ h => h) (Or.inl ⟨by rfl, ?_⟩) ?_ ?_
        rotate_left
        ·intro w'
         go_simp
         with_reducible rfl
        rotate_left
        ·simp only [Act.put, sT_, sZ_, sS_, i64_w, i32_w]
         rfl
        refine pure_ (i := 11) (N := some 77) (v := ?_) (a' := ?_) #[true, true, false, true, false, true, false, false, false, false, true, true, false, false, false, false, false, false, false, false, false] rfl rfl (any_of HT_.out (by kernel_rfl)) (fun _ _ _ h => h) (Or.inl ⟨by rfl, ?_⟩) ?_ ?_
        rotate_left
        ·intro w'
         go_simp
         with_reducible rfl
        rotate_left
        ·simp only [Act.put, sT_, sZ_, sS_, i64_w, i32_w]
         rfl
        refine pure_ (i := 13) (N := some 79) (v := ?_) (a' := ?_) #[true, true, false, true, false, true, false, false, false, false, true, true, false, true, false, false, false, false, false, false, false] rfl rfl (any_of HT_.out (by kernel_rfl)) (fun _ _ _ h => h) (Or.inl ⟨by rfl, ?_⟩) ?_ ?_
        rotate_left
        ·intro w'
         go_simp
         with_reducible rfl
        rotate_left
        ·simp only [Act.put, sT_, sZ_, sS_, i64_w, i32_w]
         rfl
        refine pure_ (i := 15) (N := some 81) (v := ?_) (a' := ?_) #[true, true, false, true, false, true, false, false, false, false, true, true, false, true, false, true, false, false, false, false, false] rfl rfl (any_of HT_.out (by kernel_rfl)) (fun _ _ _ h => h) (Or.inl ⟨by rfl, ?_⟩) ?_ ?_
        rotate_left
        ·intro w'
         go_simp
         with_reducible rfl
        rotate_left
        ·simp only [Act.put, sT_, sZ_, sS_, i64_w, i32_w]
         rfl
        refine take_ (i := 2) (N := some 68) (v := ?_) (a' := ?_) #[true, true, true, true, false, true, false, false, false, false, true, true, false, true, false, true, false, false, false, false, false] rfl rfl (take_ofW HT_.out HW_.out (by kernel_rfl)) (fun _ _ _ h => h) (Or.inl ⟨by rfl, ?_⟩) hHeld ?_ ?_
        rotate_left
        ·rintro w' ⟨s0, s1, s2, s3, s4⟩
         go_simp
         with_reducible rfl
        rotate_left
        ·simp only [Act.put, sT_, sZ_, sS_, i64_w, i32_w]
         rfl
        refine take_ (i := 4) (N := some 70) (v := ?_) (a' := ?_) #[true, true, true, true, true, true, false, false, false, false, true, true, false, true, false, true, false, false, false, false, false] rfl rfl (take_ofW HT_.out HW_.out (by kernel_rfl)) (fun _ _ _ h => h) (Or.inl ⟨by rfl, ?_⟩) hHeld ?_ ?_
        rotate_left
        ·rintro w' ⟨s0, s1, s2, s3, s4⟩
         go_simp
         with_reducible rfl
        rotate_left
        ·simp only [Act.put, sT_, sZ_, sS_, i64_w, i32_w]
         rfl
        refine take_ (i := 6) (N := some 72) (v := ?_) (a' := ?_) #[true, true, true, true, true, true, true, false, false, false, true, true, false, true, false, true, false, false, false, false, false] rfl rfl (take_ofW HT_.out HW_.out (by kernel_rfl)) (fun _ _ _ h => h) (Or.inl ⟨by rfl, ?_⟩) hHeld ?_ ?_
        rotate_left
        ·rintro w' ⟨s0, s1, s2, s3, s4⟩
         go_simp
         with_reducible rfl
        rotate_left
        ·simp only [Act.put, sT_, sZ_, sS_, i64_w, i32_w]
         rfl
        refine pure_ (i := 7) (N := some 73) (v := ?_) (a' := ?_) #[true, true, true, true, true, true, true, true, false, false, true, true, false, true, false, true, false, false, false, false, false] rfl rfl (any_of HT_.out (by kernel_rfl)) (fun _ _ _ h => h) (Or.inl ⟨by rfl, ?_⟩) ?_ ?_
        rotate_left
        ·intro w'
         go_simp
         with_reducible rfl
        rotate_left
        ·simp only [Act.put, sT_, sZ_, sS_, i64_w, i32_w]
         rfl
        refine pure_ (i := 8) (N := some 74) (v := ?_) (a' := ?_) #[true, true, true, true, true, true, true, true, true, false, true, true, false, true, false, true, false, false, false, false, false] rfl rfl (any_of HT_.out (by kernel_rfl)) (fun _ _ _ h => h) (Or.inl ⟨by rfl, ?_⟩) ?_ ?_
        rotate_left
        ·intro w'
         go_simp
         with_reducible rfl
        rotate_left
        ·simp only [Act.put, sT_, sZ_, sS_, i64_w, i32_w]
         rfl
        refine take_ (i := 12) (N := some 78) (v := ?_) (a' := ?_) #[true, true, true, true, true, true, true, true, true, false, true, true, true, true, false, true, false, false, false, false, false] rfl rfl (take_ofW HT_.out HW_.out (by kernel_rfl)) (fun _ _ _ h => h) (Or.inl ⟨by rfl, ?_⟩) hHeld ?_ ?_
        rotate_left
        ·rintro w' ⟨s0, s1, s2, s3, s4⟩
         go_simp
         with_reducible rfl
        rotate_left
        ·simp only [Act.put, sT_, sZ_, sS_, i64_w, i32_w]
         rfl
        refine take_ (i := 14) (N := some 80) (v := ?_) (a' := ?_) #[true, true, true, true, true, true, true, true, true, false, true, true, true, true, true, true, false, false, false, false, false] rfl rfl (take_ofW HT_.out HW_.out (by kernel_rfl)) (fun _ _ _ h => h) (Or.inl ⟨by rfl, ?_⟩) hHeld ?_ ?_
        rotate_left
        ·rintro w' ⟨s0, s1, s2, s3, s4⟩
         go_simp
         with_reducible rfl
        rotate_left
        ·simp only [Act.put, sT_, sZ_, sS_, i64_w, i32_w]
         rfl
        refine take_ (i := 16) (N := some 82) (v := ?_) (a' := ?_) #[true, true, true, true, true, true, true, true, true, false, true, true, true, true, true, true, true, false, false, false, false] rfl rfl (take_ofW HT_.out HW_.out (by kernel_rfl)) (fun _ _ _ h => h) (Or.inl ⟨by rfl, ?_⟩) hHeld ?_ ?_
        rotate_left
        ·rintro w' ⟨s0, s1, s2, s3, s4⟩
         go_simp
         with_reducible rfl
        rotate_left
        ·simp only [Act.put, sT_, sZ_, sS_, i64_w, i32_w]
         rfl
        refine pure_ (i := 17) (N := some 83) (v := ?_) (a' := ?_) #[true, true, true, true, true, true, true, true, true, false, true, true, true, true, true, true, true, true, false, false, false] rfl rfl (any_of HT_.out (by kernel_rfl)) (fun _ _ _ h => h) (Or.inl ⟨by rfl, ?_⟩) ?_ ?_
        rotate_left
        ·intro w'
         go_simp
         with_reducible rfl
        rotate_left
        ·simp only [Act.put, sT_, sZ_, sS_, i64_w, i32_w]
         rfl
        refine pure_ (i := 18) (N := some 84) (v := ?_) (a' := ?_) #[true, true, true, true, true, true, true, true, true, false, true, true, true, true, true, true, true, true, true, false, false] rfl rfl (any_of HT_.out (by kernel_rfl)) (fun _ _ _ h => h) (Or.inl ⟨by rfl, ?_⟩) ?_ ?_
        rotate_left
        ·intro w'
         go_simp
         with_reducible rfl
        rotate_left
        ·simp only [Act.put, sT_, sZ_, sS_, i64_w, i32_w]
         rfl
        refine one_ (i := 9) (N := some 75) #[true, true, true, true, true, true, true, true, true, true, true, true, true, true, true, true, true, true, true, false, false] rfl rfl (one_of HT_.out (by kernel_rfl)) (by decide) (fun K hK => ?_)
        refine goes_ Try.func13 (by kernel_rfl) rfl #[.pointer (some ⟨g, 0, none⟩), .agg #[.int .u32 x.2.1.1, .slice A1 x.2.1.2.1.length c1, .slice A2 x.2.1.2.2.length c2], .int .i64 x.2.2.2.2.1, .int .u64 ((IntKind.u64.wrap x.2.2.2.2.2.1).tmod 100)] (by rfl) rfl rfl (by simp only [List.map_toArray, List.map_cons, List.map_nil]; rfl) ?_
        with_reducible refine (HPD.out.addP HV.out HNI.out.1 x.2.1.1 x.2.1.2.1 x.2.1.2.2 A1 c1 A2 c2 (HO.out.below HPD.out.at0).fit1 (HO.out.below HPD.out.at0).vec (HO.out.below HPD.out.at0).fit2 (HO.out.below HPD.out.at0).tags HSM.out.1 HSM.out.2 x.2.2.2.2.1 ((IntKind.u64.wrap x.2.2.2.2.2.1).tmod 100)).mono ?_
        rintro e w7 ⟨rfl, hP, hK⟩
        refine ⟨_, rfl, ?_⟩
        have HP7 := Aside0.mk hP
        have HX7 := Aside0.mk ((hK bx (.inr rfl)).trans HXD.out)
        clear hP hK
        refine hK.out _ _ ⟨((blk_cell HX7.out 1).trans rfl), ((blk_cell HX7.out 2).trans rfl), ((blk_cell HX7.out 3).trans rfl), ((blk_cell HX7.out 6).trans rfl), ((blk_cell HX7.out 7).trans rfl)⟩ (fun hHeld => ?_)
        clear hK K
        refine norm_ (a' := ?_) ?_ ?_
        rotate_left
        ·show Act.put _ (some 75) _ = _
         simp only [Act.put, sT_, sZ_, sS_, i64_w, i32_w]
         rfl
        refine one_ (i := 19) (N := some 85) #[true, true, true, true, true, true, true, true, true, true, true, true, true, true, true, true, true, true, true, true, false] rfl rfl (one_of HT_.out (by kernel_rfl)) (by decide) (fun K hK => ?_)
        refine goes_ Try.func38 (by kernel_rfl) rfl #[.pointer (some ⟨gr, 0, none⟩), .agg #[.int .u32 x.2.1.1, .slice A1 x.2.1.2.1.length c1, .slice A2 x.2.1.2.2.length c2], .int .i64 x.2.2.2.2.1, .int .u64 ((IntKind.u64.wrap x.2.2.2.2.2.1).tmod 100)] (by rfl) rfl rfl (by simp only [List.map_toArray, List.map_cons, List.map_nil]; rfl) ?_
        with_reducible refine (HP7.out.addD (Nat.le_trans HV.out.len HNI.out.1) x.2.1.1 x.2.1.2.1 x.2.1.2.2 A1 c1 A2 c2 HO.out.fit1 HO.out.vec HO.out.fit2 HO.out.tags x.2.2.2.2.1 ((IntKind.u64.wrap x.2.2.2.2.2.1).tmod 100)).mono ?_
        rintro e w8 ⟨rfl, hP, hK⟩
        refine ⟨_, rfl, ?_⟩
        have HP8 := Aside0.mk hP
        have HX8 := Aside0.mk ((hK bx (.inr rfl)).trans HX7.out)
        clear hP hK
        refine hK.out _ _ ⟨((blk_cell HX8.out 1).trans rfl), ((blk_cell HX8.out 2).trans rfl), ((blk_cell HX8.out 3).trans rfl), ((blk_cell HX8.out 6).trans rfl), ((blk_cell HX8.out 7).trans rfl)⟩ (fun hHeld => ?_)
        clear hK K
        refine norm_ (a' := ?_) ?_ ?_
        rotate_left
        ·show Act.put _ (some 85) _ = _
         simp only [Act.put, sT_, sZ_, sS_, i64_w, i32_w]
         rfl
        refine pure_ (i := 20) (N := some 86) (v := ?_) (a' := ?_) #[true, true, true, true, true, true, true, true, true, true, true, true, true, true, true, true, true, true, true, true, true] rfl rfl (any_of HT_.out (by kernel_rfl)) (fun _ _ _ h => h) (Or.inl ⟨by rfl, ?_⟩) ?_ ?_
        rotate_left
        ·intro w'
         go_simp
         with_reducible rfl
        rotate_left
        ·simp only [Act.put, sT_, sZ_, sS_, i64_w, i32_w]
         rfl
        refine done_ (done_of HT_.out (by kernel_rfl)) ?_
        clear hHeld
        go_wp2
        go_meet
        exact ⟨(s.add x.2.1.1 x.2.1.2.1 x.2.1.2.2 x.2.2.2.2.1 ((IntKind.u64.wrap x.2.2.2.2.2.1).tmod 100)), HP8, ⟨by have := HV.out.add x.2.1.1 x.2.2.2.2.1 ((IntKind.u64.wrap x.2.2.2.2.2.1).tmod 100) HSM.out.1 HSM.out.2; exact this⟩⟩
       | false =>
        cases k1 : (x.1.tmod 6 == 1) with
        | true =>
         obtain ⟨e1, he1⟩ : ∃ z, (s.link x.2.2.1 x.2.2.2.1 x.2.2.2.2.1 x.2.2.2.2.2.1).1 = z := ⟨_, rfl⟩
         obtain ⟨s2, he2⟩ : ∃ z, (s.link x.2.2.1 x.2.2.2.1 x.2.2.2.2.1 x.2.2.2.2.2.1).2 = z := ⟨_, rfl⟩
         have HE1 := Aside0.mk he1
         have HE2 := Aside0.mk he2
         clear he1 he2
         have qe : (e1 != e1) = false := by simp
         go_wp2
         have HPD := Aside0.mk (HPX.out.below (below_drew (Below.refl _ _)))
         have HXD := Aside0.mk (blk_below HX3.out (below_drew (Below.refl _ _)))
         refine start_ (n := 21) (S := fun w' => w'.cell? ⟨bx, 4, none⟩ = some (.int .i64 x.2.2.1) ∧ w'.cell? ⟨bx, 5, none⟩ = some (.int .i64 x.2.2.2.1) ∧ w'.cell? ⟨bx, 6, none⟩ = some (.int .i64 x.2.2.2.2.1) ∧ w'.cell? ⟨bx, 7, none⟩ = some (.int .i64 x.2.2.2.2.2.1)) (ds := []) #[false, false, false, false, false, false, false, false, false, false, false, false, false, false, false, false, false, false, false, false, false] (by kernel_rfl) rfl rfl ⟨((blk_cell HXD.out 4).trans rfl), ((blk_cell HXD.out 5).trans rfl), ((blk_cell HXD.out 6).trans rfl), ((blk_cell HXD.out 7).trans rfl)⟩ (fun hHeld => ?_)
         refine with_tabW bld.tab14 bld.bits14 (fun HT_ HW_ => ?_)
         generalize w3.drew = wd at HPD HXD hHeld ⊢
         refine pure_ (i := 0) (N := some 89) (v := ?_) (a' := ?_) #[true, false, false, false, false, false, false, false, false, false, false, false, false, false, false, false, false, false, false, false, false] rfl rfl (any_of HT_.out (by kernel_rfl)) (fun _ _ _ h => h) (Or.inl ⟨by rfl, ?_⟩) ?_ ?_
         rotate_left
         ·intro w'
          go_simp
          with_reducible rfl
         rotate_left
         ·simp only [Act.put, sT_, sZ_, sS_, i64_w, i32_w]
          rfl
         refine pure_ (i := 1) (N := some 90) (v := ?_) (a' := ?_) #[true, true, false, false, false, false, false, false, false, false, false, false, false, false, false, false, false, false, false, false, false] rfl rfl (any_of HT_.out (by kernel_rfl)) (fun _ _ _ h => h) (Or.inl ⟨by rfl, ?_⟩) ?_ ?_
         rotate_left
         ·intro w'
          go_simp
          with_reducible rfl
         rotate_left
         ·simp only [Act.put, sT_, sZ_, sS_, i64_w, i32_w]
          rfl
         refine pure_ (i := 3) (N := some 92) (v := ?_) (a' := ?_) #[true, true, false, true, false, false, false, false, false, false, false, false, false, false, false, false, false, false, false, false, false] rfl rfl (any_of HT_.out (by kernel_rfl)) (fun _ _ _ h => h) (Or.inl ⟨by rfl, ?_⟩) ?_ ?_
         rotate_left
         ·intro w'
          go_simp
          with_reducible rfl
         rotate_left
         ·simp only [Act.put, sT_, sZ_, sS_, i64_w, i32_w]
          rfl
         refine pure_ (i := 5) (N := some 94) (v := ?_) (a' := ?_) #[true, true, false, true, false, true, false, false, false, false, false, false, false, false, false, false, false, false, false, false, false] rfl rfl (any_of HT_.out (by kernel_rfl)) (fun _ _ _ h => h) (Or.inl ⟨by rfl, ?_⟩) ?_ ?_
         rotate_left
         ·intro w'
          go_simp
          with_reducible rfl
         rotate_left
         ·simp only [Act.put, sT_, sZ_, sS_, i64_w, i32_w]
          rfl
         refine pure_ (i := 7) (N := some 96) (v := ?_) (a' := ?_) #[true, true, false, true, false, true, false, true, false, false, false, false, false, false, false, false, false, false, false, false, false] rfl rfl (any_of HT_.out (by kernel_rfl)) (fun _ _ _ h => h) (Or.inl ⟨by rfl, ?_⟩) ?_ ?_
         rotate_left
         ·intro w'
          go_simp
          with_reducible rfl
         rotate_left
         ·simp only [Act.put, sT_, sZ_, sS_, i64_w, i32_w]
          rfl
         refine pure_ (i := 10) (N := some 99) (v := ?_) (a' := ?_) #[true, true, false, true, false, true, false, true, false, false, true, false, false, false, false, false, false, false, false, false, false] rfl rfl (any_of HT_.out (by kernel_rfl)) (fun _ _ _ h => h) (Or.inl ⟨by rfl, ?_⟩) ?_ ?_
         rotate_left
         ·intro w'
          go_simp
          with_reducible rfl
         rotate_left
         ·simp only [Act.put, sT_, sZ_, sS_, i64_w, i32_w]
          rfl
         refine pure_ (i := 11) (N := some 100) (v := ?_) (a' := ?_) #[true, true, false, true, false, true, false, true, false, false, true, true, false, false, false, false, false, false, false, false, false] rfl rfl (any_of HT_.out (by kernel_rfl)) (fun _ _ _ h => h) (Or.inl ⟨by rfl, ?_⟩) ?_ ?_
         rotate_left
         ·intro w'
          go_simp
          with_reducible rfl
         rotate_left
         ·simp only [Act.put, sT_, sZ_, sS_, i64_w, i32_w]
          rfl
         refine pure_ (i := 13) (N := some 102) (v := ?_) (a' := ?_) #[true, true, false, true, false, true, false, true, false, false, true, true, false, true, false, false, false, false, false, false, false] rfl rfl (any_of HT_.out (by kernel_rfl)) (fun _ _ _ h => h) (Or.inl ⟨by rfl, ?_⟩) ?_ ?_
         rotate_left
         ·intro w'
          go_simp
          with_reducible rfl
         rotate_left
         ·simp only [Act.put, sT_, sZ_, sS_, i64_w, i32_w]
          rfl
         refine pure_ (i := 15) (N := some 104) (v := ?_) (a' := ?_) #[true, true, false, true, false, true, false, true, false, false, true, true, false, true, false, true, false, false, false, false, false] rfl rfl (any_of HT_.out (by kernel_rfl)) (fun _ _ _ h => h) (Or.inl ⟨by rfl, ?_⟩) ?_ ?_
         rotate_left
         ·intro w'
          go_simp
          with_reducible rfl
         rotate_left
         ·simp only [Act.put, sT_, sZ_, sS_, i64_w, i32_w]
          rfl
         refine pure_ (i := 17) (N := some 106) (v := ?_) (a' := ?_) #[true, true, false, true, false, true, false, true, false, false, true, true, false, true, false, true, false, true, false, false, false] rfl rfl (any_of HT_.out (by kernel_rfl)) (fun _ _ _ h => h) (Or.inl ⟨by rfl, ?_⟩) ?_ ?_
         rotate_left
         ·intro w'
          go_simp
          with_reducible rfl
         rotate_left
         ·simp only [Act.put, sT_, sZ_, sS_, i64_w, i32_w]
          rfl
         refine take_ (i := 2) (N := some 91) (v := ?_) (a' := ?_) #[true, true, true, true, false, true, false, true, false, false, true, true, false, true, false, true, false, true, false, false, false] rfl rfl (take_ofW HT_.out HW_.out (by kernel_rfl)) (fun _ _ _ h => h) (Or.inl ⟨by rfl, ?_⟩) hHeld ?_ ?_
         rotate_left
         ·rintro w' ⟨s0, s1, s2, s3⟩
          go_simp
          with_reducible rfl
         rotate_left
         ·simp only [Act.put, sT_, sZ_, sS_, i64_w, i32_w]
          rfl
         refine take_ (i := 4) (N := some 93) (v := ?_) (a' := ?_) #[true, true, true, true, true, true, false, true, false, false, true, true, false, true, false, true, false, true, false, false, false] rfl rfl (take_ofW HT_.out HW_.out (by kernel_rfl)) (fun _ _ _ h => h) (Or.inl ⟨by rfl, ?_⟩) hHeld ?_ ?_
         rotate_left
         ·rintro w' ⟨s0, s1, s2, s3⟩
          go_simp
          with_reducible rfl
         rotate_left
         ·simp only [Act.put, sT_, sZ_, sS_, i64_w, i32_w]
          rfl
         refine take_ (i := 6) (N := some 95) (v := ?_) (a' := ?_) #[true, true, true, true, true, true, true, true, false, false, true, true, false, true, false, true, false, true, false, false, false] rfl rfl (take_ofW HT_.out HW_.out (by kernel_rfl)) (fun _ _ _ h => h) (Or.inl ⟨by rfl, ?_⟩) hHeld ?_ ?_
         rotate_left
         ·rintro w' ⟨s0, s1, s2, s3⟩
          go_simp
          with_reducible rfl
         rotate_left
         ·simp only [Act.put, sT_, sZ_, sS_, i64_w, i32_w]
          rfl
         refine take_ (i := 8) (N := some 97) (v := ?_) (a' := ?_) #[true, true, true, true, true, true, true, true, true, false, true, true, false, true, false, true, false, true, false, false, false] rfl rfl (take_ofW HT_.out HW_.out (by kernel_rfl)) (fun _ _ _ h => h) (Or.inl ⟨by rfl, ?_⟩) hHeld ?_ ?_
         rotate_left
         ·rintro w' ⟨s0, s1, s2, s3⟩
          go_simp
          with_reducible rfl
         rotate_left
         ·simp only [Act.put, sT_, sZ_, sS_, i64_w, i32_w]
          rfl
         refine take_ (i := 12) (N := some 101) (v := ?_) (a' := ?_) #[true, true, true, true, true, true, true, true, true, false, true, true, true, true, false, true, false, true, false, false, false] rfl rfl (take_ofW HT_.out HW_.out (by kernel_rfl)) (fun _ _ _ h => h) (Or.inl ⟨by rfl, ?_⟩) hHeld ?_ ?_
         rotate_left
         ·rintro w' ⟨s0, s1, s2, s3⟩
          go_simp
          with_reducible rfl
         rotate_left
         ·simp only [Act.put, sT_, sZ_, sS_, i64_w, i32_w]
          rfl
         refine take_ (i := 14) (N := some 103) (v := ?_) (a' := ?_) #[true, true, true, true, true, true, true, true, true, false, true, true, true, true, true, true, false, true, false, false, false] rfl rfl (take_ofW HT_.out HW_.out (by kernel_rfl)) (fun _ _ _ h => h) (Or.inl ⟨by rfl, ?_⟩) hHeld ?_ ?_
         rotate_left
         ·rintro w' ⟨s0, s1, s2, s3⟩
          go_simp
          with_reducible rfl
         rotate_left
         ·simp only [Act.put, sT_, sZ_, sS_, i64_w, i32_w]
          rfl
         refine take_ (i := 16) (N := some 105) (v := ?_) (a' := ?_) #[true, true, true, true, true, true, true, true, true, false, true, true, true, true, true, true, true, true, false, false, false] rfl rfl (take_ofW HT_.out HW_.out (by kernel_rfl)) (fun _ _ _ h => h) (Or.inl ⟨by rfl, ?_⟩) hHeld ?_ ?_
         rotate_left
         ·rintro w' ⟨s0, s1, s2, s3⟩
          go_simp
          with_reducible rfl
         rotate_left
         ·simp only [Act.put, sT_, sZ_, sS_, i64_w, i32_w]
          rfl
         refine take_ (i := 18) (N := some 107) (v := ?_) (a' := ?_) #[true, true, true, true, true, true, true, true, true, false, true, true, true, true, true, true, true, true, true, false, false] rfl rfl (take_ofW HT_.out HW_.out (by kernel_rfl)) (fun _ _ _ h => h) (Or.inl ⟨by rfl, ?_⟩) hHeld ?_ ?_
         rotate_left
         ·rintro w' ⟨s0, s1, s2, s3⟩
          go_simp
          with_reducible rfl
         rotate_left
         ·simp only [Act.put, sT_, sZ_, sS_, i64_w, i32_w]
          rfl
         refine one_ (i := 9) (N := some 98) #[true, true, true, true, true, true, true, true, true, true, true, true, true, true, true, true, true, true, true, false, false] rfl rfl (one_of HT_.out (by kernel_rfl)) (by decide) (fun K hK => ?_)
         refine goes_ Try.func14 (by kernel_rfl) rfl #[.pointer (some ⟨g, 0, none⟩), .int .i64 x.2.2.1, .int .i64 x.2.2.2.1, .int .i64 x.2.2.2.2.1, .int .i64 x.2.2.2.2.2.1] (by rfl) rfl rfl (by simp only [List.map_toArray, List.map_cons, List.map_nil]; rfl) ?_
         with_reducible refine (HPD.out.linkP HV.out HNI.out.1 x.2.2.1 x.2.2.2.1 x.2.2.2.2.1 x.2.2.2.2.2.1).mono ?_
         rintro e w7 ⟨rfl, hP, hK⟩
         refine ⟨_, rfl, ?_⟩
         rw [HE1.out]
         rw [HE2.out] at hP
         have HP7 := Aside0.mk hP
         have HX7 := Aside0.mk ((hK bx (.inr rfl)).trans HXD.out)
         clear hP hK
         refine hK.out _ _ ⟨((blk_cell HX7.out 4).trans rfl), ((blk_cell HX7.out 5).trans rfl), ((blk_cell HX7.out 6).trans rfl), ((blk_cell HX7.out 7).trans rfl)⟩ (fun hHeld => ?_)
         clear hK K
         refine norm_ (a' := ?_) ?_ ?_
         rotate_left
         ·show Act.put _ (some 98) _ = _
          simp only [Act.put, sT_, sZ_, sS_, i64_w, i32_w]
          rfl
         refine one_ (i := 19) (N := some 108) #[true, true, true, true, true, true, true, true, true, true, true, true, true, true, true, true, true, true, true, true, false] rfl rfl (one_of HT_.out (by kernel_rfl)) (by decide) (fun K hK => ?_)
         refine goes_ Try.func39 (by kernel_rfl) rfl #[.pointer (some ⟨gr, 0, none⟩), .int .i64 x.2.2.1, .int .i64 x.2.2.2.1, .int .i64 x.2.2.2.2.1, .int .i64 x.2.2.2.2.2.1] (by rfl) rfl rfl (by simp only [List.map_toArray, List.map_cons, List.map_nil]; rfl) ?_
         with_reducible refine (HP7.out.linkD HV.out HNI.out.1 x.2.2.1 x.2.2.2.1 x.2.2.2.2.1 x.2.2.2.2.2.1).mono ?_
         rintro e w8 ⟨rfl, hP, hK⟩
         refine ⟨_, rfl, ?_⟩
         rw [HE1.out]
         rw [HE2.out] at hP
         have HP8 := Aside0.mk hP
         have HX8 := Aside0.mk ((hK bx (.inr rfl)).trans HX7.out)
         clear hP hK
         refine hK.out _ _ ⟨((blk_cell HX8.out 4).trans rfl), ((blk_cell HX8.out 5).trans rfl), ((blk_cell HX8.out 6).trans rfl), ((blk_cell HX8.out 7).trans rfl)⟩ (fun hHeld => ?_)
         clear hK K
         refine norm_ (a' := ?_) ?_ ?_
         rotate_left
         ·show Act.put _ (some 108) _ = _
          simp only [Act.put, sT_, sZ_, sS_, i64_w, i32_w]
          rfl
         refine pure_ (i := 20) (N := some 109) (v := ?_) (a' := ?_) #[true, true, true, true, true, true, true, true, true, true, true, true, true, true, true, true, true, true, true, true, true] rfl rfl (any_of HT_.out (by kernel_rfl)) (fun _ _ _ h => h) (Or.inl ⟨by rfl, ?_⟩) ?_ ?_
         rotate_left
         ·intro w'
          go_simp
          with_reducible rfl
         rotate_left
         ·simp only [Act.put, sT_, sZ_, sS_, i64_w, i32_w]
          rfl
         refine done_ (done_of HT_.out (by kernel_rfl)) ?_
         clear hHeld
         go_wp2
         go_meet
         exact ⟨s2, HP8, ⟨by rw [← HE2.out]; exact (HV.out.link x.2.2.1 x.2.2.2.1 x.2.2.2.2.1 x.2.2.2.2.2.1).mono HNI.out.2.2⟩⟩
        | false =>
         cases k2 : (x.1.tmod 6 == 2) with
         | true =>
          have b4 := (blk_cell HX3.out 4).trans rfl
          cases ht : s.there x.2.2.1 0 with
          | false =>
           have HT := Aside0.mk ht
           clear ht
           go_wp2_with (first | (have := HP5; go_at_call 41; (with_reducible refine (HP5.out.thereB x.2.2.1 0 false HT.out).mono ?_); rintro e w6 ⟨rfl, hb⟩; have HP6 := Aside0.mk (HP5.out.below hb); have HX6 := Aside0.mk (blk_below HX5.out hb); clear hb b4) | (go_at_call 40; (with_reducible refine (HPX.out.untilN x.2.2.1 7 HT.out).mono ?_); rintro e w5 ⟨rfl, hP, hK⟩; have HP5 := Aside0.mk hP; have HX5 := Aside0.mk ((hK bx (.inr rfl)).trans HX3.out); clear b4 hP hK; have b4 := (blk_cell HX5.out 4).trans rfl))
           go_meet
           exact ⟨s, HP6, ⟨HV.out.mono HNI.out.2.2⟩⟩
          | true =>
           have HT := Aside0.mk ht
           obtain ⟨k, j, nd, hk, -, hnd, -⟩ := there_iff.1 ht
           have HAK := Aside0.mk hk
           have HND := Aside0.mk hnd
           have HKL := Aside0.mk (List.getElem?_eq_some_iff.1 hnd).1
           have HUN := Aside0.mk (show s.until_ (x.2.2.1).toNat 7 = s.until_ k 7 by rw [hk]; rfl)
           clear ht hk hnd
           go_wp2_with (first | (have := HP5; go_at_call 41; (with_reducible refine (HP5.out.thereB x.2.2.1 0 true HT.out).mono ?_); rintro e w6 ⟨rfl, hb⟩; have HP6 := Aside0.mk (HP5.out.below hb); have HX6 := Aside0.mk (blk_below HX5.out hb); clear hb b4) | (go_at_call 40; (with_reducible refine (HPX.out.untilY x.2.2.1 7 HT.out).mono ?_); rintro e w5 ⟨rfl, hP, hK⟩; have HP5 := Aside0.mk hP; have HX5 := Aside0.mk ((hK bx (.inr rfl)).trans HX3.out); clear b4 hP hK; have b4 := (blk_cell HX5.out 4).trans rfl))
           have HPE := Aside0.mk (HP6.out.below (below_drew (Below.refl _ _)))
           have HXE := Aside0.mk (blk_below HX6.out (below_drew (Below.refl _ _)))
           clear HP5 HP6 HX5 HX6
           rw [HUN.out] at HPE
           obtain ⟨s1, hs1⟩ : ∃ z, s.until_ k 7 = z := ⟨_, rfl⟩
           have HS1 := Aside0.mk hs1
           rw [hs1] at HPE
           clear hs1
           obtain ⟨rb, cap, hgb, hz4, hfz, hset⟩ := HPE.out.unD HND.out
           have HGB := Aside0.mk hgb
           have HZ4 := Aside0.mk hz4
           have HFZ := Aside0.mk hfz
           have HSET := Aside0.mk (hset 7)
           have p4 : (k : Int) < (s.l.length : Int) := by have := HKL.out; omega
           clear hgb hz4 hfz hset
           refine start_ (n := 9) (S := fun w' => w'.cell? ⟨bx, 4, none⟩ = some (.int .i64 (k : Int)) ∧ w'.cell? ⟨gr, 1, none⟩ = some (.slice (some ⟨rb, 0, none⟩) s.l.length cap)) (ds := [8]) #[false, false, false, false, false, false, false, false, false] (by kernel_rfl) rfl rfl ⟨((blk_cell HXE.out 4).trans (congrArg (fun z => some (Value.int .i64 z)) HAK.out)), ((blk_cell HGB.out 1).trans rfl)⟩ (fun hHeld => ?_)
           refine with_tabW bld.tab21 bld.bits21 (fun HT_ HW_ => ?_)
           generalize w6.drew = wd at HPE HXE HGB HZ4 HFZ HSET hHeld ⊢
           refine pure_ (i := 0) (N := some 123) (v := ?_) (a' := ?_) #[true, false, false, false, false, false, false, false, false] rfl rfl (any_of HT_.out (by kernel_rfl)) (fun _ _ _ h => h) (Or.inl ⟨by rfl, ?_⟩) ?_ ?_
           rotate_left
           ·intro w'
            go_simp
            with_reducible rfl
           rotate_left
           ·simp only [Act.put, sT_, sZ_, sS_, i64_w, i32_w]
            rfl
           refine pure_ (i := 1) (N := some 124) (v := ?_) (a' := ?_) #[true, true, false, false, false, false, false, false, false] rfl rfl (any_of HT_.out (by kernel_rfl)) (fun _ _ _ h => h) (Or.inl ⟨by rfl, ?_⟩) ?_ ?_
           rotate_left
           ·intro w'
            go_simp
            with_reducible rfl
           rotate_left
           ·simp only [Act.put, sT_, sZ_, sS_, i64_w, i32_w]
            rfl
           refine pure_ (i := 2) (N := some 125) (v := ?_) (a' := ?_) #[true, true, true, false, false, false, false, false, false] rfl rfl (any_of HT_.out (by kernel_rfl)) (fun _ _ _ h => h) (Or.inl ⟨by rfl, ?_⟩) ?_ ?_
           rotate_left
           ·intro w'
            go_simp
            with_reducible rfl
           rotate_left
           ·simp only [Act.put, sT_, sZ_, sS_, i64_w, i32_w]
            rfl
           refine pure_ (i := 4) (N := some 127) (v := ?_) (a' := ?_) #[true, true, true, false, true, false, false, false, false] rfl rfl (any_of HT_.out (by kernel_rfl)) (fun _ _ _ h => h) (Or.inl ⟨by rfl, ?_⟩) ?_ ?_
           rotate_left
           ·intro w'
            go_simp
            with_reducible rfl
           rotate_left
           ·simp only [Act.put, sT_, sZ_, sS_, i64_w, i32_w]
            rfl
           refine take_ (i := 3) (N := some 126) (v := ?_) (a' := ?_) #[true, true, true, true, true, false, false, false, false] rfl rfl (take_ofW HT_.out HW_.out (by kernel_rfl)) (fun _ _ _ h => h) (Or.inl ⟨by rfl, ?_⟩) hHeld ?_ ?_
           rotate_left
           ·rintro w' ⟨s0, s1⟩
            go_simp
            with_reducible rfl
           rotate_left
           ·simp only [Act.put, sT_, sZ_, sS_, i64_w, i32_w]
            rfl
           refine take_ (i := 5) (N := some 128) (v := ?_) (a' := ?_) #[true, true, true, true, true, true, false, false, false] rfl rfl (take_ofW HT_.out HW_.out (by kernel_rfl)) (fun _ _ _ h => h) (Or.inl ⟨by rfl, ?_⟩) hHeld ?_ ?_
           rotate_left
           ·rintro w' ⟨s0, s1⟩
            go_simp
            with_reducible rfl
           rotate_left
           ·simp only [Act.put, sT_, sZ_, sS_, i64_w, i32_w]
            rfl
           refine pure_ (i := 6) (N := some 129) (v := ?_) (a' := ?_) #[true, true, true, true, true, true, true, false, false] rfl rfl (any_of HT_.out (by kernel_rfl)) (fun _ _ _ h => h) (Or.inl ⟨by rfl, ?_⟩) ?_ ?_
           rotate_left
           ·intro w'
            go_simp
            with_reducible rfl
           rotate_left
           ·simp only [Act.put, sT_, sZ_, sS_, i64_w, i32_w]
            rfl
           refine pure_ (i := 7) (N := some 130) (v := ?_) (a' := ?_) #[true, true, true, true, true, true, true, true, false] rfl rfl (any_of HT_.out (by kernel_rfl)) (fun _ _ _ h => h) (Or.inl ⟨by rfl, ?_⟩) ?_ ?_
           rotate_left
           ·intro w'
            go_simp
            with_reducible rfl
           rotate_left
           ·simp only [Act.put, sT_, sZ_, sS_, i64_w, i32_w]
            rfl
           refine last_ (i := 8) (N := none) #[true, true, true, true, true, true, true, true, true] rfl rfl (one_of HT_.out (by kernel_rfl)) (by decide) (fun K hK => ?_)
           have z4 := HZ4.out
           have fz := HFZ.out
           refine skip_ (w1 := ?_) (by rfl) rfl ?_ ?_
           rotate_left
           ·go_simp
            rfl
           clear z4 fz
           refine hK.out _ _ ?_
           clear hK K
           refine done_ (done_of HT_.out (by kernel_rfl)) ?_
           clear hHeld
           skip
           go_wp2
           go_meet
           exact ⟨s1, ⟨by have := HSET.out; rw [HS1.out] at this; exact this⟩, ⟨by rw [← HS1.out]; exact (HV.out.until_ k 7).mono HNI.out.2.2⟩⟩
         | false =>
          cases k3 : (x.1.tmod 6 == 3) with
          | true =>
           go_wp2
           have HPD := Aside0.mk (HPX.out.below (below_drew (Below.refl _ _)))
           have HXD := Aside0.mk (blk_below HX3.out (below_drew (Below.refl _ _)))
           refine start_ (n := 16) (S := fun w' => w'.cell? ⟨bx, 2, none⟩ = some (.slice A1 x.2.1.2.1.length c1) ∧ w'.cell? ⟨bx, 8, none⟩ = some (.slice A3 x.2.2.2.2.2.2.length c3)) (ds := []) #[false, false, false, false, false, false, false, false, false, false, false, false, false, false, false, false] (by kernel_rfl) rfl rfl ⟨((blk_cell HXD.out 2).trans rfl), ((blk_cell HXD.out 8).trans rfl)⟩ (fun hHeld => ?_)
           refine with_tabW bld.tab23 bld.bits23 (fun HT_ HW_ => ?_)
           generalize w3.drew = wd at HPD HXD hHeld ⊢
           refine pure_ (i := 0) (N := some 133) (v := ?_) (a' := ?_) #[true, false, false, false, false, false, false, false, false, false, false, false, false, false, false, false] rfl rfl (any_of HT_.out (by kernel_rfl)) (fun _ _ _ h => h) (Or.inl ⟨by rfl, ?_⟩) ?_ ?_
           rotate_left
           ·intro w'
            go_simp
            with_reducible rfl
           rotate_left
           ·simp only [Act.put, sT_, sZ_, sS_, i64_w, i32_w]
            rfl
           refine pure_ (i := 1) (N := some 134) (v := ?_) (a' := ?_) #[true, true, false, false, false, false, false, false, false, false, false, false, false, false, false, false] rfl rfl (any_of HT_.out (by kernel_rfl)) (fun _ _ _ h => h) (Or.inl ⟨by rfl, ?_⟩) ?_ ?_
           rotate_left
           ·intro w'
            go_simp
            with_reducible rfl
           rotate_left
           ·simp only [Act.put, sT_, sZ_, sS_, i64_w, i32_w]
            rfl
           refine pure_ (i := 2) (N := some 135) (v := ?_) (a' := ?_) #[true, true, true, false, false, false, false, false, false, false, false, false, false, false, false, false] rfl rfl (any_of HT_.out (by kernel_rfl)) (fun _ _ _ h => h) (Or.inl ⟨by rfl, ?_⟩) ?_ ?_
           rotate_left
           ·intro w'
            go_simp
            with_reducible rfl
           rotate_left
           ·simp only [Act.put, sT_, sZ_, sS_, i64_w, i32_w]
            rfl
           refine pure_ (i := 4) (N := some 137) (v := ?_) (a' := ?_) #[true, true, true, false, true, false, false, false, false, false, false, false, false, false, false, false] rfl rfl (any_of HT_.out (by kernel_rfl)) (fun _ _ _ h => h) (Or.inl ⟨by rfl, ?_⟩) ?_ ?_
           rotate_left
           ·intro w'
            go_simp
            with_reducible rfl
           rotate_left
           ·simp only [Act.put, sT_, sZ_, sS_, i64_w, i32_w]
            rfl
           refine pure_ (i := 7) (N := some 140) (v := ?_) (a' := ?_) #[true, true, true, false, true, false, false, true, false, false, false, false, false, false, false, false] rfl rfl (any_of HT_.out (by kernel_rfl)) (fun _ _ _ h => h) (Or.inl ⟨by rfl, ?_⟩) ?_ ?_
           rotate_left
           ·intro w'
            go_simp
            with_reducible rfl
           rotate_left
           ·simp only [Act.put, sT_, sZ_, sS_, i64_w, i32_w]
            rfl
           refine pure_ (i := 8) (N := some 141) (v := ?_) (a' := ?_) #[true, true, true, false, true, false, false, true, true, false, false, false, false, false, false, false] rfl rfl (any_of HT_.out (by kernel_rfl)) (fun _ _ _ h => h) (Or.inl ⟨by rfl, ?_⟩) ?_ ?_
           rotate_left
           ·intro w'
            go_simp
            with_reducible rfl
           rotate_left
           ·simp only [Act.put, sT_, sZ_, sS_, i64_w, i32_w]
            rfl
           refine pure_ (i := 9) (N := some 142) (v := ?_) (a' := ?_) #[true, true, true, false, true, false, false, true, true, true, false, false, false, false, false, false] rfl rfl (any_of HT_.out (by kernel_rfl)) (fun _ _ _ h => h) (Or.inl ⟨by rfl, ?_⟩) ?_ ?_
           rotate_left
           ·intro w'
            go_simp
            with_reducible rfl
           rotate_left
           ·simp only [Act.put, sT_, sZ_, sS_, i64_w, i32_w]
            rfl
           refine pure_ (i := 11) (N := some 144) (v := ?_) (a' := ?_) #[true, true, true, false, true, false, false, true, true, true, false, true, false, false, false, false] rfl rfl (any_of HT_.out (by kernel_rfl)) (fun _ _ _ h => h) (Or.inl ⟨by rfl, ?_⟩) ?_ ?_
           rotate_left
           ·intro w'
            go_simp
            with_reducible rfl
           rotate_left
           ·simp only [Act.put, sT_, sZ_, sS_, i64_w, i32_w]
            rfl
           refine take_ (i := 3) (N := some 136) (v := ?_) (a' := ?_) #[true, true, true, true, true, false, false, true, true, true, false, true, false, false, false, false] rfl rfl (take_ofW HT_.out HW_.out (by kernel_rfl)) (fun _ _ _ h => h) (Or.inl ⟨by rfl, ?_⟩) hHeld ?_ ?_
           rotate_left
           ·rintro w' ⟨s0, s1⟩
            go_simp
            with_reducible rfl
           rotate_left
           ·simp only [Act.put, sT_, sZ_, sS_, i64_w, i32_w]
            rfl
           refine take_ (i := 5) (N := some 138) (v := ?_) (a' := ?_) #[true, true, true, true, true, true, false, true, true, true, false, true, false, false, false, false] rfl rfl (take_ofW HT_.out HW_.out (by kernel_rfl)) (fun _ _ _ h => h) (Or.inl ⟨by rfl, ?_⟩) hHeld ?_ ?_
           rotate_left
           ·rintro w' ⟨s0, s1⟩
            go_simp
            with_reducible rfl
           rotate_left
           ·simp only [Act.put, sT_, sZ_, sS_, i64_w, i32_w]
            rfl
           refine take_ (i := 10) (N := some 143) (v := ?_) (a' := ?_) #[true, true, true, true, true, true, false, true, true, true, true, true, false, false, false, false] rfl rfl (take_ofW HT_.out HW_.out (by kernel_rfl)) (fun _ _ _ h => h) (Or.inl ⟨by rfl, ?_⟩) hHeld ?_ ?_
           rotate_left
           ·rintro w' ⟨s0, s1⟩
            go_simp
            with_reducible rfl
           rotate_left
           ·simp only [Act.put, sT_, sZ_, sS_, i64_w, i32_w]
            rfl
           refine take_ (i := 12) (N := some 145) (v := ?_) (a' := ?_) #[true, true, true, true, true, true, false, true, true, true, true, true, true, false, false, false] rfl rfl (take_ofW HT_.out HW_.out (by kernel_rfl)) (fun _ _ _ h => h) (Or.inl ⟨by rfl, ?_⟩) hHeld ?_ ?_
           rotate_left
           ·rintro w' ⟨s0, s1⟩
            go_simp
            with_reducible rfl
           rotate_left
           ·simp only [Act.put, sT_, sZ_, sS_, i64_w, i32_w]
            rfl
           refine one_ (i := 6) (N := some 139) #[true, true, true, true, true, true, true, true, true, true, true, true, true, false, false, false] rfl rfl (one_of HT_.out (by kernel_rfl)) (by decide) (fun K hK => ?_)
           refine goes_ Try.func21 (by kernel_rfl) rfl #[.pointer (some ⟨g, 0, none⟩), .slice A1 x.2.1.2.1.length c1, .slice A3 x.2.2.2.2.2.2.length c3] (by rfl) rfl rfl (by simp only [List.map_toArray, List.map_cons, List.map_nil]; rfl) ?_
           with_reducible refine (HPD.out.nearP HV.out HNI.out.1 A1 c1 x.2.1.2.1 (HO.out.below HPD.out.at0).vec (HO.out.below HPD.out.at0).fit1 A3 c3 x.2.2.2.2.2.2 (HO.out.below HPD.out.at0).l (by have := HKL.out; omega)).mono ?_
           rintro e w7 ⟨⟨v7, rfl, hv⟩, hb⟩
           refine ⟨_, rfl, ?_⟩
           have HN7 := Aside0.mk hv
           have HP7 := Aside0.mk (HPD.out.below hb)
           have HX7 := Aside0.mk (blk_below HXD.out hb)
           clear hv hb
           refine hK.out _ _ ⟨((blk_cell HX7.out 2).trans rfl), ((blk_cell HX7.out 8).trans rfl)⟩ (fun hHeld => ?_)
           clear hK K
           refine norm_ (a' := ?_) ?_ ?_
           rotate_left
           ·show Act.put _ (some 139) _ = _
            simp only [Act.put, sT_, sZ_, sS_, i64_w, i32_w]
            rfl
           refine one_ (i := 13) (N := some 146) #[true, true, true, true, true, true, true, true, true, true, true, true, true, true, false, false] rfl rfl (one_of HT_.out (by kernel_rfl)) (by decide) (fun K hK => ?_)
           refine goes_ Try.func42 (by kernel_rfl) rfl #[.pointer (some ⟨gr, 0, none⟩), .slice A1 x.2.1.2.1.length c1, .slice A3 x.2.2.2.2.2.2.length c3] (by rfl) rfl rfl (by simp only [List.map_toArray, List.map_cons, List.map_nil]; rfl) ?_
           with_reducible refine (HP7.out.nearD HV.out HNI.out.1 A1 c1 x.2.1.2.1 (HO.out.below HP7.out.at0).vec (HO.out.below HP7.out.at0).fit1 A3 c3 x.2.2.2.2.2.2 (HO.out.below HP7.out.at0).l (by have := HKL.out; omega)).mono ?_
           rintro e w9 ⟨⟨v9, rfl, hv⟩, hb⟩
           refine ⟨_, rfl, ?_⟩
           have HN9 := Aside0.mk hv
           have HQ9 := Aside0.mk (HN7.out.below hb)
           have HP9 := Aside0.mk (HP7.out.below hb)
           have HX9 := Aside0.mk (blk_below HX7.out hb)
           clear hv hb
           refine hK.out _ _ ⟨((blk_cell HX9.out 2).trans rfl), ((blk_cell HX9.out 8).trans rfl)⟩ (fun hHeld => ?_)
           clear hK K
           refine norm_ (a' := ?_) ?_ ?_
           rotate_left
           ·show Act.put _ (some 146) _ = _
            simp only [Act.put, sT_, sZ_, sS_, i64_w, i32_w]
            rfl
           refine one_ (i := 14) (N := some 147) #[true, true, true, true, true, true, true, true, true, true, true, true, true, true, true, false] rfl rfl (one_of HT_.out (by kernel_rfl)) (by decide) (fun K hK => ?_)
           refine goes_ Try.func20 (by kernel_rfl) rfl #[v7, v9] (by rfl) rfl rfl (by simp only [List.map_toArray, List.map_cons, List.map_nil]; rfl) ?_
           with_reducible refine (rsame_own _ _ v7 v9 _ _ _ rfl HQ9.out HN9.out (by have h1 := near_len s x.2.1.2.1 x.2.2.2.2.2.2; have h2 := HKL.out; omega)).mono ?_
           rintro e w8 ⟨rfl, hb⟩
           refine ⟨_, rfl, ?_⟩
           have HP8 := Aside0.mk (HP9.out.below hb)
           have HX8 := Aside0.mk (blk_below HX9.out hb)
           clear hb
           refine hK.out _ _ ⟨((blk_cell HX8.out 2).trans rfl), ((blk_cell HX8.out 8).trans rfl)⟩ (fun hHeld => ?_)
           clear hK K
           refine norm_ (a' := ?_) ?_ ?_
           rotate_left
           ·show Act.put _ (some 147) _ = _
            simp only [Act.put, sT_, sZ_, sS_, i64_w, i32_w]
            rfl
           refine pure_ (i := 15) (N := some 148) (v := ?_) (a' := ?_) #[true, true, true, true, true, true, true, true, true, true, true, true, true, true, true, true] rfl rfl (any_of HT_.out (by kernel_rfl)) (fun _ _ _ h => h) (Or.inl ⟨by rfl, ?_⟩) ?_ ?_
           rotate_left
           ·intro w'
            go_simp
            with_reducible rfl
           rotate_left
           ·simp only [Act.put, sT_, sZ_, sS_, i64_w, i32_w]
            rfl
           refine done_ (done_of HT_.out (by kernel_rfl)) ?_
           clear hHeld
           go_wp2
           go_meet
           exact ⟨s, HP8, ⟨HV.out.mono HNI.out.2.2⟩⟩
          | false =>
           cases k4 : (x.1.tmod 6 == 4) with
           | true =>
            go_wp2
            have HPD := Aside0.mk (HPX.out.below (below_drew (Below.refl _ _)))
            have HXD := Aside0.mk (blk_below HX3.out (below_drew (Below.refl _ _)))
            refine start_ (n := 20) (S := fun w' => w'.cell? ⟨bx, 2, none⟩ = some (.slice A1 x.2.1.2.1.length c1) ∧ w'.cell? ⟨bx, 7, none⟩ = some (.int .i64 x.2.2.2.2.2.1) ∧ w'.cell? ⟨bx, 8, none⟩ = some (.slice A3 x.2.2.2.2.2.2.length c3)) (ds := []) #[false, false, false, false, false, false, false, false, false, false, false, false, false, false, false, false, false, false, false, false] (by kernel_rfl) rfl rfl ⟨((blk_cell HXD.out 2).trans rfl), ((blk_cell HXD.out 7).trans rfl), ((blk_cell HXD.out 8).trans rfl)⟩ (fun hHeld => ?_)
            refine with_tabW bld.tab26 bld.bits26 (fun HT_ HW_ => ?_)
            generalize w3.drew = wd at HPD HXD hHeld ⊢
            refine pure_ (i := 0) (N := some 151) (v := ?_) (a' := ?_) #[true, false, false, false, false, false, false, false, false, false, false, false, false, false, false, false, false, false, false, false] rfl rfl (any_of HT_.out (by kernel_rfl)) (fun _ _ _ h => h) (Or.inl ⟨by rfl, ?_⟩) ?_ ?_
            rotate_left
            ·intro w'
             go_simp
             with_reducible rfl
            rotate_left
            ·simp only [Act.put, sT_, sZ_, sS_, i64_w, i32_w]
             rfl
            refine pure_ (i := 1) (N := some 152) (v := ?_) (a' := ?_) #[true, true, false, false, false, false, false, false, false, false, false, false, false, false, false, false, false, false, false, false] rfl rfl (any_of HT_.out (by kernel_rfl)) (fun _ _ _ h => h) (Or.inl ⟨by rfl, ?_⟩) ?_ ?_
            rotate_left
            ·intro w'
             go_simp
             with_reducible rfl
            rotate_left
            ·simp only [Act.put, sT_, sZ_, sS_, i64_w, i32_w]
             rfl
            refine pure_ (i := 2) (N := some 153) (v := ?_) (a' := ?_) #[true, true, true, false, false, false, false, false, false, false, false, false, false, false, false, false, false, false, false, false] rfl rfl (any_of HT_.out (by kernel_rfl)) (fun _ _ _ h => h) (Or.inl ⟨by rfl, ?_⟩) ?_ ?_
            rotate_left
            ·intro w'
             go_simp
             with_reducible rfl
            rotate_left
            ·simp only [Act.put, sT_, sZ_, sS_, i64_w, i32_w]
             rfl
            refine pure_ (i := 4) (N := some 155) (v := ?_) (a' := ?_) #[true, true, true, false, true, false, false, false, false, false, false, false, false, false, false, false, false, false, false, false] rfl rfl (any_of HT_.out (by kernel_rfl)) (fun _ _ _ h => h) (Or.inl ⟨by rfl, ?_⟩) ?_ ?_
            rotate_left
            ·intro w'
             go_simp
             with_reducible rfl
            rotate_left
            ·simp only [Act.put, sT_, sZ_, sS_, i64_w, i32_w]
             rfl
            refine pure_ (i := 6) (N := some 157) (v := ?_) (a' := ?_) #[true, true, true, false, true, false, true, false, false, false, false, false, false, false, false, false, false, false, false, false] rfl rfl (any_of HT_.out (by kernel_rfl)) (fun _ _ _ h => h) (Or.inl ⟨by rfl, ?_⟩) ?_ ?_
            rotate_left
            ·intro w'
             go_simp
             with_reducible rfl
            rotate_left
            ·simp only [Act.put, sT_, sZ_, sS_, i64_w, i32_w]
             rfl
            refine pure_ (i := 9) (N := some 160) (v := ?_) (a' := ?_) #[true, true, true, false, true, false, true, false, false, true, false, false, false, false, false, false, false, false, false, false] rfl rfl (any_of HT_.out (by kernel_rfl)) (fun _ _ _ h => h) (Or.inl ⟨by rfl, ?_⟩) ?_ ?_
            rotate_left
            ·intro w'
             go_simp
             with_reducible rfl
            rotate_left
            ·simp only [Act.put, sT_, sZ_, sS_, i64_w, i32_w]
             rfl
            refine pure_ (i := 10) (N := some 161) (v := ?_) (a' := ?_) #[true, true, true, false, true, false, true, false, false, true, true, false, false, false, false, false, false, false, false, false] rfl rfl (any_of HT_.out (by kernel_rfl)) (fun _ _ _ h => h) (Or.inl ⟨by rfl, ?_⟩) ?_ ?_
            rotate_left
            ·intro w'
             go_simp
             with_reducible rfl
            rotate_left
            ·simp only [Act.put, sT_, sZ_, sS_, i64_w, i32_w]
             rfl
            refine pure_ (i := 11) (N := some 162) (v := ?_) (a' := ?_) #[true, true, true, false, true, false, true, false, false, true, true, true, false, false, false, false, false, false, false, false] rfl rfl (any_of HT_.out (by kernel_rfl)) (fun _ _ _ h => h) (Or.inl ⟨by rfl, ?_⟩) ?_ ?_
            rotate_left
            ·intro w'
             go_simp
             with_reducible rfl
            rotate_left
            ·simp only [Act.put, sT_, sZ_, sS_, i64_w, i32_w]
             rfl
            refine pure_ (i := 13) (N := some 164) (v := ?_) (a' := ?_) #[true, true, true, false, true, false, true, false, false, true, true, true, false, true, false, false, false, false, false, false] rfl rfl (any_of HT_.out (by kernel_rfl)) (fun _ _ _ h => h) (Or.inl ⟨by rfl, ?_⟩) ?_ ?_
            rotate_left
            ·intro w'
             go_simp
             with_reducible rfl
            rotate_left
            ·simp only [Act.put, sT_, sZ_, sS_, i64_w, i32_w]
             rfl
            refine pure_ (i := 15) (N := some 166) (v := ?_) (a' := ?_) #[true, true, true, false, true, false, true, false, false, true, true, true, false, true, false, true, false, false, false, false] rfl rfl (any_of HT_.out (by kernel_rfl)) (fun _ _ _ h => h) (Or.inl ⟨by rfl, ?_⟩) ?_ ?_
            rotate_left
            ·intro w'
             go_simp
             with_reducible rfl
            rotate_left
            ·simp only [Act.put, sT_, sZ_, sS_, i64_w, i32_w]
             rfl
            refine take_ (i := 3) (N := some 154) (v := ?_) (a' := ?_) #[true, true, true, true, true, false, true, false, false, true, true, true, false, true, false, true, false, false, false, false] rfl rfl (take_ofW HT_.out HW_.out (by kernel_rfl)) (fun _ _ _ h => h) (Or.inl ⟨by rfl, ?_⟩) hHeld ?_ ?_
            rotate_left
            ·rintro w' ⟨s0, s1, s2⟩
             go_simp
             with_reducible rfl
            rotate_left
            ·simp only [Act.put, sT_, sZ_, sS_, i64_w, i32_w]
             rfl
            refine take_ (i := 5) (N := some 156) (v := ?_) (a' := ?_) #[true, true, true, true, true, true, true, false, false, true, true, true, false, true, false, true, false, false, false, false] rfl rfl (take_ofW HT_.out HW_.out (by kernel_rfl)) (fun _ _ _ h => h) (Or.inl ⟨by rfl, ?_⟩) hHeld ?_ ?_
            rotate_left
            ·rintro w' ⟨s0, s1, s2⟩
             go_simp
             with_reducible rfl
            rotate_left
            ·simp only [Act.put, sT_, sZ_, sS_, i64_w, i32_w]
             rfl
            refine take_ (i := 7) (N := some 158) (v := ?_) (a' := ?_) #[true, true, true, true, true, true, true, true, false, true, true, true, false, true, false, true, false, false, false, false] rfl rfl (take_ofW HT_.out HW_.out (by kernel_rfl)) (fun _ _ _ h => h) (Or.inl ⟨by rfl, ?_⟩) hHeld ?_ ?_
            rotate_left
            ·rintro w' ⟨s0, s1, s2⟩
             go_simp
             with_reducible rfl
            rotate_left
            ·simp only [Act.put, sT_, sZ_, sS_, i64_w, i32_w]
             rfl
            refine take_ (i := 12) (N := some 163) (v := ?_) (a' := ?_) #[true, true, true, true, true, true, true, true, false, true, true, true, true, true, false, true, false, false, false, false] rfl rfl (take_ofW HT_.out HW_.out (by kernel_rfl)) (fun _ _ _ h => h) (Or.inl ⟨by rfl, ?_⟩) hHeld ?_ ?_
            rotate_left
            ·rintro w' ⟨s0, s1, s2⟩
             go_simp
             with_reducible rfl
            rotate_left
            ·simp only [Act.put, sT_, sZ_, sS_, i64_w, i32_w]
             rfl
            refine take_ (i := 14) (N := some 165) (v := ?_) (a' := ?_) #[true, true, true, true, true, true, true, true, false, true, true, true, true, true, true, true, false, false, false, false] rfl rfl (take_ofW HT_.out HW_.out (by kernel_rfl)) (fun _ _ _ h => h) (Or.inl ⟨by rfl, ?_⟩) hHeld ?_ ?_
            rotate_left
            ·rintro w' ⟨s0, s1, s2⟩
             go_simp
             with_reducible rfl
            rotate_left
            ·simp only [Act.put, sT_, sZ_, sS_, i64_w, i32_w]
             rfl
            refine take_ (i := 16) (N := some 167) (v := ?_) (a' := ?_) #[true, true, true, true, true, true, true, true, false, true, true, true, true, true, true, true, true, false, false, false] rfl rfl (take_ofW HT_.out HW_.out (by kernel_rfl)) (fun _ _ _ h => h) (Or.inl ⟨by rfl, ?_⟩) hHeld ?_ ?_
            rotate_left
            ·rintro w' ⟨s0, s1, s2⟩
             go_simp
             with_reducible rfl
            rotate_left
            ·simp only [Act.put, sT_, sZ_, sS_, i64_w, i32_w]
             rfl
            refine one_ (i := 8) (N := some 159) #[true, true, true, true, true, true, true, true, true, true, true, true, true, true, true, true, true, false, false, false] rfl rfl (one_of HT_.out (by kernel_rfl)) (by decide) (fun K hK => ?_)
            refine goes_ Try.func32 (by kernel_rfl) rfl #[.pointer (some ⟨g, 0, none⟩), .slice A1 x.2.1.2.1.length c1, .slice A3 x.2.2.2.2.2.2.length c3, .int .i64 x.2.2.2.2.2.1] (by rfl) rfl rfl (by simp only [List.map_toArray, List.map_cons, List.map_nil]; rfl) ?_
            with_reducible refine (HPD.out.chooseP HV.out HNI.out.1 A1 c1 x.2.1.2.1 (HO.out.below HPD.out.at0).vec (HO.out.below HPD.out.at0).fit1 A3 c3 x.2.2.2.2.2.2 (HO.out.below HPD.out.at0).l (by have := HKL.out; omega) x.2.2.2.2.2.1).mono ?_
            rintro e w7 ⟨⟨v7, rfl, hv⟩, hb⟩
            refine ⟨_, rfl, ?_⟩
            have HN7 := Aside0.mk hv
            have HP7 := Aside0.mk (HPD.out.below hb)
            have HX7 := Aside0.mk (blk_below HXD.out hb)
            clear hv hb
            refine hK.out _ _ ⟨((blk_cell HX7.out 2).trans rfl), ((blk_cell HX7.out 7).trans rfl), ((blk_cell HX7.out 8).trans rfl)⟩ (fun hHeld => ?_)
            clear hK K
            refine norm_ (a' := ?_) ?_ ?_
            rotate_left
            ·show Act.put _ (some 159) _ = _
             simp only [Act.put, sT_, sZ_, sS_, i64_w, i32_w]
             rfl
            refine one_ (i := 17) (N := some 168) #[true, true, true, true, true, true, true, true, true, true, true, true, true, true, true, true, true, true, false, false] rfl rfl (one_of HT_.out (by kernel_rfl)) (by decide) (fun K hK => ?_)
            refine goes_ Try.func43 (by kernel_rfl) rfl #[.pointer (some ⟨gr, 0, none⟩), .slice A1 x.2.1.2.1.length c1, .slice A3 x.2.2.2.2.2.2.length c3, .int .i64 x.2.2.2.2.2.1] (by rfl) rfl rfl (by simp only [List.map_toArray, List.map_cons, List.map_nil]; rfl) ?_
            with_reducible refine (HP7.out.chooseD HV.out HNI.out.1 A1 c1 x.2.1.2.1 (HO.out.below HP7.out.at0).vec (HO.out.below HP7.out.at0).fit1 A3 c3 x.2.2.2.2.2.2 (HO.out.below HP7.out.at0).l (by have := HKL.out; omega) x.2.2.2.2.2.1).mono ?_
            rintro e w9 ⟨⟨v9, rfl, hv⟩, hb⟩
            refine ⟨_, rfl, ?_⟩
            obtain ⟨ao9, k9, rfl, hf9, hC9⟩ := hv.C
            have HC9 := Aside0.mk (And.intro hf9 hC9)
            clear hf9 hC9
            have HN9 := Aside0.mk hv
            have HQ9 := Aside0.mk (HN7.out.below hb)
            have HP9 := Aside0.mk (HP7.out.below hb)
            have HX9 := Aside0.mk (blk_below HX7.out hb)
            clear hv hb
            refine hK.out _ _ ⟨((blk_cell HX9.out 2).trans rfl), ((blk_cell HX9.out 7).trans rfl), ((blk_cell HX9.out 8).trans rfl)⟩ (fun hHeld => ?_)
            clear hK K
            refine norm_ (a' := ?_) ?_ ?_
            rotate_left
            ·show Act.put _ (some 168) _ = _
             simp only [Act.put, sT_, sZ_, sS_, i64_w, i32_w]
             rfl
            refine one_ (i := 18) (N := some 169) #[true, true, true, true, true, true, true, true, true, true, true, true, true, true, true, true, true, true, true, false] rfl rfl (one_of HT_.out (by kernel_rfl)) (by decide) (fun K hK => ?_)
            refine goes_ Try.func31 (by kernel_rfl) rfl #[v7, .slice ao9 (chooseG s x.2.1.2.1 x.2.2.2.2.2.2 x.2.2.2.2.2.1).length k9] (by rfl) rfl rfl (by simp only [List.map_toArray, List.map_cons, List.map_nil]; rfl) ?_
            with_reducible refine (ints_own HQ9.out ao9 k9 _ rfl HC9.out.2 HC9.out.1 (by have h1 := choose_short s x.2.1.2.1 x.2.2.2.2.2.2 x.2.2.2.2.2.1; have h2 := HKL.out; omega)).mono ?_
            rintro e w8 ⟨rfl, hb⟩
            refine ⟨_, rfl, ?_⟩
            have HP8 := Aside0.mk (HP9.out.below hb)
            have HX8 := Aside0.mk (blk_below HX9.out hb)
            clear hb
            refine hK.out _ _ ⟨((blk_cell HX8.out 2).trans rfl), ((blk_cell HX8.out 7).trans rfl), ((blk_cell HX8.out 8).trans rfl)⟩ (fun hHeld => ?_)
            clear hK K
            refine norm_ (a' := ?_) ?_ ?_
            rotate_left
            ·show Act.put _ (some 169) _ = _
             simp only [Act.put, sT_, sZ_, sS_, i64_w, i32_w]
             rfl
            refine pure_ (i := 19) (N := some 170) (v := ?_) (a' := ?_) #[true, true, true, true, true, true, true, true, true, true, true, true, true, true, true, true, true, true, true, true] rfl rfl (any_of HT_.out (by kernel_rfl)) (fun _ _ _ h => h) (Or.inl ⟨by rfl, ?_⟩) ?_ ?_
            rotate_left
            ·intro w'
             go_simp
             with_reducible rfl
            rotate_left
            ·simp only [Act.put, sT_, sZ_, sS_, i64_w, i32_w]
             rfl
            refine done_ (done_of HT_.out (by kernel_rfl)) ?_
            clear hHeld
            go_wp2
            go_meet
            exact ⟨s, HP8, ⟨HV.out.mono HNI.out.2.2⟩⟩
           | false =>
            go_wp2
            have HPD := Aside0.mk (HPX.out.below (below_drew (Below.refl _ _)))
            have HXD := Aside0.mk (blk_below HX3.out (below_drew (Below.refl _ _)))
            refine start_ (n := 24) (S := fun w' => w'.cell? ⟨bx, 2, none⟩ = some (.slice A1 x.2.1.2.1.length c1) ∧ w'.cell? ⟨bx, 6, none⟩ = some (.int .i64 x.2.2.2.2.1) ∧ w'.cell? ⟨bx, 7, none⟩ = some (.int .i64 x.2.2.2.2.2.1) ∧ w'.cell? ⟨bx, 8, none⟩ = some (.slice A3 x.2.2.2.2.2.2.length c3)) (ds := []) #[false, false, false, false, false, false, false, false, false, false, false, false, false, false, false, false, false, false, false, false, false, false, false, false] (by kernel_rfl) rfl rfl ⟨((blk_cell HXD.out 2).trans rfl), ((blk_cell HXD.out 6).trans rfl), ((blk_cell HXD.out 7).trans rfl), ((blk_cell HXD.out 8).trans rfl)⟩ (fun hHeld => ?_)
            refine with_tabW bld.tab8 bld.bits8 (fun HT_ HW_ => ?_)
            generalize w3.drew = wd at HPD HXD hHeld ⊢
            refine pure_ (i := 0) (N := some 40) (v := ?_) (a' := ?_) #[true, false, false, false, false, false, false, false, false, false, false, false, false, false, false, false, false, false, false, false, false, false, false, false] rfl rfl (any_of HT_.out (by kernel_rfl)) (fun _ _ _ h => h) (Or.inl ⟨by rfl, ?_⟩) ?_ ?_
            rotate_left
            ·intro w'
             go_simp
             with_reducible rfl
            rotate_left
            ·simp only [Act.put, sT_, sZ_, sS_, i64_w, i32_w]
             rfl
            refine pure_ (i := 1) (N := some 41) (v := ?_) (a' := ?_) #[true, true, false, false, false, false, false, false, false, false, false, false, false, false, false, false, false, false, false, false, false, false, false, false] rfl rfl (any_of HT_.out (by kernel_rfl)) (fun _ _ _ h => h) (Or.inl ⟨by rfl, ?_⟩) ?_ ?_
            rotate_left
            ·intro w'
             go_simp
             with_reducible rfl
            rotate_left
            ·simp only [Act.put, sT_, sZ_, sS_, i64_w, i32_w]
             rfl
            refine pure_ (i := 2) (N := some 42) (v := ?_) (a' := ?_) #[true, true, true, false, false, false, false, false, false, false, false, false, false, false, false, false, false, false, false, false, false, false, false, false] rfl rfl (any_of HT_.out (by kernel_rfl)) (fun _ _ _ h => h) (Or.inl ⟨by rfl, ?_⟩) ?_ ?_
            rotate_left
            ·intro w'
             go_simp
             with_reducible rfl
            rotate_left
            ·simp only [Act.put, sT_, sZ_, sS_, i64_w, i32_w]
             rfl
            refine pure_ (i := 4) (N := some 44) (v := ?_) (a' := ?_) #[true, true, true, false, true, false, false, false, false, false, false, false, false, false, false, false, false, false, false, false, false, false, false, false] rfl rfl (any_of HT_.out (by kernel_rfl)) (fun _ _ _ h => h) (Or.inl ⟨by rfl, ?_⟩) ?_ ?_
            rotate_left
            ·intro w'
             go_simp
             with_reducible rfl
            rotate_left
            ·simp only [Act.put, sT_, sZ_, sS_, i64_w, i32_w]
             rfl
            refine pure_ (i := 6) (N := some 46) (v := ?_) (a' := ?_) #[true, true, true, false, true, false, true, false, false, false, false, false, false, false, false, false, false, false, false, false, false, false, false, false] rfl rfl (any_of HT_.out (by kernel_rfl)) (fun _ _ _ h => h) (Or.inl ⟨by rfl, ?_⟩) ?_ ?_
            rotate_left
            ·intro w'
             go_simp
             with_reducible rfl
            rotate_left
            ·simp only [Act.put, sT_, sZ_, sS_, i64_w, i32_w]
             rfl
            refine pure_ (i := 8) (N := some 48) (v := ?_) (a' := ?_) #[true, true, true, false, true, false, true, false, true, false, false, false, false, false, false, false, false, false, false, false, false, false, false, false] rfl rfl (any_of HT_.out (by kernel_rfl)) (fun _ _ _ h => h) (Or.inl ⟨by rfl, ?_⟩) ?_ ?_
            rotate_left
            ·intro w'
             go_simp
             with_reducible rfl
            rotate_left
            ·simp only [Act.put, sT_, sZ_, sS_, i64_w, i32_w]
             rfl
            refine pure_ (i := 11) (N := some 51) (v := ?_) (a' := ?_) #[true, true, true, false, true, false, true, false, true, false, false, true, false, false, false, false, false, false, false, false, false, false, false, false] rfl rfl (any_of HT_.out (by kernel_rfl)) (fun _ _ _ h => h) (Or.inl ⟨by rfl, ?_⟩) ?_ ?_
            rotate_left
            ·intro w'
             go_simp
             with_reducible rfl
            rotate_left
            ·simp only [Act.put, sT_, sZ_, sS_, i64_w, i32_w]
             rfl
            refine pure_ (i := 12) (N := some 52) (v := ?_) (a' := ?_) #[true, true, true, false, true, false, true, false, true, false, false, true, true, false, false, false, false, false, false, false, false, false, false, false] rfl rfl (any_of HT_.out (by kernel_rfl)) (fun _ _ _ h => h) (Or.inl ⟨by rfl, ?_⟩) ?_ ?_
            rotate_left
            ·intro w'
             go_simp
             with_reducible rfl
            rotate_left
            ·simp only [Act.put, sT_, sZ_, sS_, i64_w, i32_w]
             rfl
            refine pure_ (i := 13) (N := some 53) (v := ?_) (a' := ?_) #[true, true, true, false, true, false, true, false, true, false, false, true, true, true, false, false, false, false, false, false, false, false, false, false] rfl rfl (any_of HT_.out (by kernel_rfl)) (fun _ _ _ h => h) (Or.inl ⟨by rfl, ?_⟩) ?_ ?_
            rotate_left
            ·intro w'
             go_simp
             with_reducible rfl
            rotate_left
            ·simp only [Act.put, sT_, sZ_, sS_, i64_w, i32_w]
             rfl
            refine pure_ (i := 15) (N := some 55) (v := ?_) (a' := ?_) #[true, true, true, false, true, false, true, false, true, false, false, true, true, true, false, true, false, false, false, false, false, false, false, false] rfl rfl (any_of HT_.out (by kernel_rfl)) (fun _ _ _ h => h) (Or.inl ⟨by rfl, ?_⟩) ?_ ?_
            rotate_left
            ·intro w'
             go_simp
             with_reducible rfl
            rotate_left
            ·simp only [Act.put, sT_, sZ_, sS_, i64_w, i32_w]
             rfl
            refine pure_ (i := 17) (N := some 57) (v := ?_) (a' := ?_) #[true, true, true, false, true, false, true, false, true, false, false, true, true, true, false, true, false, true, false, false, false, false, false, false] rfl rfl (any_of HT_.out (by kernel_rfl)) (fun _ _ _ h => h) (Or.inl ⟨by rfl, ?_⟩) ?_ ?_
            rotate_left
            ·intro w'
             go_simp
             with_reducible rfl
            rotate_left
            ·simp only [Act.put, sT_, sZ_, sS_, i64_w, i32_w]
             rfl
            refine pure_ (i := 19) (N := some 59) (v := ?_) (a' := ?_) #[true, true, true, false, true, false, true, false, true, false, false, true, true, true, false, true, false, true, false, true, false, false, false, false] rfl rfl (any_of HT_.out (by kernel_rfl)) (fun _ _ _ h => h) (Or.inl ⟨by rfl, ?_⟩) ?_ ?_
            rotate_left
            ·intro w'
             go_simp
             with_reducible rfl
            rotate_left
            ·simp only [Act.put, sT_, sZ_, sS_, i64_w, i32_w]
             rfl
            refine take_ (i := 3) (N := some 43) (v := ?_) (a' := ?_) #[true, true, true, true, true, false, true, false, true, false, false, true, true, true, false, true, false, true, false, true, false, false, false, false] rfl rfl (take_ofW HT_.out HW_.out (by kernel_rfl)) (fun _ _ _ h => h) (Or.inl ⟨by rfl, ?_⟩) hHeld ?_ ?_
            rotate_left
            ·rintro w' ⟨s0, s1, s2, s3⟩
             go_simp
             with_reducible rfl
            rotate_left
            ·simp only [Act.put, sT_, sZ_, sS_, i64_w, i32_w]
             rfl
            refine take_ (i := 5) (N := some 45) (v := ?_) (a' := ?_) #[true, true, true, true, true, true, true, false, true, false, false, true, true, true, false, true, false, true, false, true, false, false, false, false] rfl rfl (take_ofW HT_.out HW_.out (by kernel_rfl)) (fun _ _ _ h => h) (Or.inl ⟨by rfl, ?_⟩) hHeld ?_ ?_
            rotate_left
            ·rintro w' ⟨s0, s1, s2, s3⟩
             go_simp
             with_reducible rfl
            rotate_left
            ·simp only [Act.put, sT_, sZ_, sS_, i64_w, i32_w]
             rfl
            refine take_ (i := 7) (N := some 47) (v := ?_) (a' := ?_) #[true, true, true, true, true, true, true, true, true, false, false, true, true, true, false, true, false, true, false, true, false, false, false, false] rfl rfl (take_ofW HT_.out HW_.out (by kernel_rfl)) (fun _ _ _ h => h) (Or.inl ⟨by rfl, ?_⟩) hHeld ?_ ?_
            rotate_left
            ·rintro w' ⟨s0, s1, s2, s3⟩
             go_simp
             with_reducible rfl
            rotate_left
            ·simp only [Act.put, sT_, sZ_, sS_, i64_w, i32_w]
             rfl
            refine take_ (i := 9) (N := some 49) (v := ?_) (a' := ?_) #[true, true, true, true, true, true, true, true, true, true, false, true, true, true, false, true, false, true, false, true, false, false, false, false] rfl rfl (take_ofW HT_.out HW_.out (by kernel_rfl)) (fun _ _ _ h => h) (Or.inl ⟨by rfl, ?_⟩) hHeld ?_ ?_
            rotate_left
            ·rintro w' ⟨s0, s1, s2, s3⟩
             go_simp
             with_reducible rfl
            rotate_left
            ·simp only [Act.put, sT_, sZ_, sS_, i64_w, i32_w]
             rfl
            refine take_ (i := 14) (N := some 54) (v := ?_) (a' := ?_) #[true, true, true, true, true, true, true, true, true, true, false, true, true, true, true, true, false, true, false, true, false, false, false, false] rfl rfl (take_ofW HT_.out HW_.out (by kernel_rfl)) (fun _ _ _ h => h) (Or.inl ⟨by rfl, ?_⟩) hHeld ?_ ?_
            rotate_left
            ·rintro w' ⟨s0, s1, s2, s3⟩
             go_simp
             with_reducible rfl
            rotate_left
            ·simp only [Act.put, sT_, sZ_, sS_, i64_w, i32_w]
             rfl
            refine take_ (i := 16) (N := some 56) (v := ?_) (a' := ?_) #[true, true, true, true, true, true, true, true, true, true, false, true, true, true, true, true, true, true, false, true, false, false, false, false] rfl rfl (take_ofW HT_.out HW_.out (by kernel_rfl)) (fun _ _ _ h => h) (Or.inl ⟨by rfl, ?_⟩) hHeld ?_ ?_
            rotate_left
            ·rintro w' ⟨s0, s1, s2, s3⟩
             go_simp
             with_reducible rfl
            rotate_left
            ·simp only [Act.put, sT_, sZ_, sS_, i64_w, i32_w]
             rfl
            refine take_ (i := 18) (N := some 58) (v := ?_) (a' := ?_) #[true, true, true, true, true, true, true, true, true, true, false, true, true, true, true, true, true, true, true, true, false, false, false, false] rfl rfl (take_ofW HT_.out HW_.out (by kernel_rfl)) (fun _ _ _ h => h) (Or.inl ⟨by rfl, ?_⟩) hHeld ?_ ?_
            rotate_left
            ·rintro w' ⟨s0, s1, s2, s3⟩
             go_simp
             with_reducible rfl
            rotate_left
            ·simp only [Act.put, sT_, sZ_, sS_, i64_w, i32_w]
             rfl
            refine take_ (i := 20) (N := some 60) (v := ?_) (a' := ?_) #[true, true, true, true, true, true, true, true, true, true, false, true, true, true, true, true, true, true, true, true, true, false, false, false] rfl rfl (take_ofW HT_.out HW_.out (by kernel_rfl)) (fun _ _ _ h => h) (Or.inl ⟨by rfl, ?_⟩) hHeld ?_ ?_
            rotate_left
            ·rintro w' ⟨s0, s1, s2, s3⟩
             go_simp
             with_reducible rfl
            rotate_left
            ·simp only [Act.put, sT_, sZ_, sS_, i64_w, i32_w]
             rfl
            refine one_ (i := 10) (N := some 50) #[true, true, true, true, true, true, true, true, true, true, true, true, true, true, true, true, true, true, true, true, true, false, false, false] rfl rfl (one_of HT_.out (by kernel_rfl)) (by decide) (fun K hK => ?_)
            refine goes_ Try.func19 (by kernel_rfl) rfl #[.pointer (some ⟨g, 0, none⟩), .slice A1 x.2.1.2.1.length c1, .slice A3 x.2.2.2.2.2.2.length c3, .int .i64 x.2.2.2.2.2.1, .int .i64 x.2.2.2.2.1] (by rfl) rfl rfl (by simp only [List.map_toArray, List.map_cons, List.map_nil]; rfl) ?_
            with_reducible refine (HPD.out.walkP HV.out HNI.out.1 A1 c1 x.2.1.2.1 (HO.out.below HPD.out.at0).vec (HO.out.below HPD.out.at0).fit1 A3 c3 x.2.2.2.2.2.2 (HO.out.below HPD.out.at0).l (by have := HKL.out; omega) x.2.2.2.2.2.1 x.2.2.2.2.1).mono ?_
            rintro e w7 ⟨⟨v7, rfl, hv⟩, hb⟩
            refine ⟨_, rfl, ?_⟩
            have HN7 := Aside0.mk hv
            have HP7 := Aside0.mk (HPD.out.below hb)
            have HX7 := Aside0.mk (blk_below HXD.out hb)
            clear hv hb
            refine hK.out _ _ ⟨((blk_cell HX7.out 2).trans rfl), ((blk_cell HX7.out 6).trans rfl), ((blk_cell HX7.out 7).trans rfl), ((blk_cell HX7.out 8).trans rfl)⟩ (fun hHeld => ?_)
            clear hK K
            refine norm_ (a' := ?_) ?_ ?_
            rotate_left
            ·show Act.put _ (some 50) _ = _
             simp only [Act.put, sT_, sZ_, sS_, i64_w, i32_w]
             rfl
            refine one_ (i := 21) (N := some 61) #[true, true, true, true, true, true, true, true, true, true, true, true, true, true, true, true, true, true, true, true, true, true, false, false] rfl rfl (one_of HT_.out (by kernel_rfl)) (by decide) (fun K hK => ?_)
            refine goes_ Try.func44 (by kernel_rfl) rfl #[.pointer (some ⟨gr, 0, none⟩), .slice A1 x.2.1.2.1.length c1, .slice A3 x.2.2.2.2.2.2.length c3, .int .i64 x.2.2.2.2.2.1, .int .i64 x.2.2.2.2.1] (by rfl) rfl rfl (by simp only [List.map_toArray, List.map_cons, List.map_nil]; rfl) ?_
            with_reducible refine (HP7.out.walkD HV.out HNI.out.1 A1 c1 x.2.1.2.1 (HO.out.below HP7.out.at0).vec (HO.out.below HP7.out.at0).fit1 A3 c3 x.2.2.2.2.2.2 (HO.out.below HP7.out.at0).l (by have := HKL.out; omega) x.2.2.2.2.2.1 x.2.2.2.2.1).mono ?_
            rintro e w9 ⟨⟨v9, rfl, hv⟩, hb⟩
            refine ⟨_, rfl, ?_⟩
            have HN9 := Aside0.mk hv
            have HQ9 := Aside0.mk (HN7.out.below hb)
            have HP9 := Aside0.mk (HP7.out.below hb)
            have HX9 := Aside0.mk (blk_below HX7.out hb)
            clear hv hb
            refine hK.out _ _ ⟨((blk_cell HX9.out 2).trans rfl), ((blk_cell HX9.out 6).trans rfl), ((blk_cell HX9.out 7).trans rfl), ((blk_cell HX9.out 8).trans rfl)⟩ (fun hHeld => ?_)
            clear hK K
            refine norm_ (a' := ?_) ?_ ?_
            rotate_left
            ·show Act.put _ (some 61) _ = _
             simp only [Act.put, sT_, sZ_, sS_, i64_w, i32_w]
             rfl
            refine one_ (i := 22) (N := some 62) #[true, true, true, true, true, true, true, true, true, true, true, true, true, true, true, true, true, true, true, true, true, true, true, false] rfl rfl (one_of HT_.out (by kernel_rfl)) (by decide) (fun K hK => ?_)
            refine goes_ Try.func20 (by kernel_rfl) rfl #[v7, v9] (by rfl) rfl rfl (by simp only [List.map_toArray, List.map_cons, List.map_nil]; rfl) ?_
            with_reducible refine (rsame_own _ _ v7 v9 _ _ _ rfl HQ9.out HN9.out (by have h1 := walk_len s x.2.1.2.1 x.2.2.2.2.2.2 x.2.2.2.2.2.1 x.2.2.2.2.1; omega)).mono ?_
            rintro e w8 ⟨rfl, hb⟩
            refine ⟨_, rfl, ?_⟩
            have HP8 := Aside0.mk (HP9.out.below hb)
            have HX8 := Aside0.mk (blk_below HX9.out hb)
            clear hb
            refine hK.out _ _ ⟨((blk_cell HX8.out 2).trans rfl), ((blk_cell HX8.out 6).trans rfl), ((blk_cell HX8.out 7).trans rfl), ((blk_cell HX8.out 8).trans rfl)⟩ (fun hHeld => ?_)
            clear hK K
            refine norm_ (a' := ?_) ?_ ?_
            rotate_left
            ·show Act.put _ (some 62) _ = _
             simp only [Act.put, sT_, sZ_, sS_, i64_w, i32_w]
             rfl
            refine pure_ (i := 23) (N := some 63) (v := ?_) (a' := ?_) #[true, true, true, true, true, true, true, true, true, true, true, true, true, true, true, true, true, true, true, true, true, true, true, true] rfl rfl (any_of HT_.out (by kernel_rfl)) (fun _ _ _ h => h) (Or.inl ⟨by rfl, ?_⟩) ?_ ?_
            rotate_left
            ·intro w'
             go_simp
             with_reducible rfl
            rotate_left
            ·simp only [Act.put, sT_, sZ_, sS_, i64_w, i32_w]
             rfl
            refine done_ (done_of HT_.out (by kernel_rfl)) ?_
            clear hHeld
            go_wp2
            go_meet
            exact ⟨s, HP8, ⟨HV.out.mono HNI.out.2.2⟩⟩
      case rest =>
       obtain ⟨s2, HPc, HVc⟩ := hcut
       have qe : ((s2.l.length : Int) != (s2.l.length : Int)) = false := by simp
       go_wp2
       have HPD := Aside0.mk (HPc.out.below (below_drew (Below.refl _ _)))
       obtain ⟨ag, cg, hgb⟩ := HPD.out.cellD
       have HGB := Aside0.mk hgb
       clear hgb
       refine start_ (n := 8) (S := fun w' => w'.cell? ⟨gr, 1, none⟩ = some (.slice ag s2.l.length cg)) (ds := []) #[false, false, false, false, false, false, false, false] (by kernel_rfl) rfl rfl (((blk_cell HGB.out 1).trans rfl)) (fun hHeld => ?_)
       refine with_tabW bld.tab28 bld.bits28 (fun HT_ HW_ => ?_)
       generalize wc.drew = wd at HPD HGB hHeld ⊢
       refine pure_ (i := 0) (N := some 171) (v := ?_) (a' := ?_) #[true, false, false, false, false, false, false, false] rfl rfl (any_of HT_.out (by kernel_rfl)) (fun _ _ _ h => h) (Or.inl ⟨by rfl, ?_⟩) ?_ ?_
       rotate_left
       ·intro w'
        go_simp
        with_reducible rfl
       rotate_left
       ·simp only [Act.put, sT_, sZ_, sS_, i64_w, i32_w]
        rfl
       refine pure_ (i := 2) (N := some 173) (v := ?_) (a' := ?_) #[true, false, true, false, false, false, false, false] rfl rfl (any_of HT_.out (by kernel_rfl)) (fun _ _ _ h => h) (Or.inl ⟨by rfl, ?_⟩) ?_ ?_
       rotate_left
       ·intro w'
        go_simp
        with_reducible rfl
       rotate_left
       ·simp only [Act.put, sT_, sZ_, sS_, i64_w, i32_w]
        rfl
       refine pure_ (i := 3) (N := some 174) (v := ?_) (a' := ?_) #[true, false, true, true, false, false, false, false] rfl rfl (any_of HT_.out (by kernel_rfl)) (fun _ _ _ h => h) (Or.inl ⟨by rfl, ?_⟩) ?_ ?_
       rotate_left
       ·intro w'
        go_simp
        with_reducible rfl
       rotate_left
       ·simp only [Act.put, sT_, sZ_, sS_, i64_w, i32_w]
        rfl
       refine pure_ (i := 4) (N := some 175) (v := ?_) (a' := ?_) #[true, false, true, true, true, false, false, false] rfl rfl (any_of HT_.out (by kernel_rfl)) (fun _ _ _ h => h) (Or.inl ⟨by rfl, ?_⟩) ?_ ?_
       rotate_left
       ·intro w'
        go_simp
        with_reducible rfl
       rotate_left
       ·simp only [Act.put, sT_, sZ_, sS_, i64_w, i32_w]
        rfl
       refine take_ (i := 5) (N := some 176) (v := ?_) (a' := ?_) #[true, false, true, true, true, true, false, false] rfl rfl (take_ofW HT_.out HW_.out (by kernel_rfl)) (fun _ _ _ h => h) (Or.inl ⟨by rfl, ?_⟩) hHeld ?_ ?_
       rotate_left
       ·intro w' s0
        go_simp
        with_reducible rfl
       rotate_left
       ·simp only [Act.put, sT_, sZ_, sS_, i64_w, i32_w]
        rfl
       refine pure_ (i := 6) (N := some 177) (v := ?_) (a' := ?_) #[true, false, true, true, true, true, true, false] rfl rfl (any_of HT_.out (by kernel_rfl)) (fun _ _ _ h => h) (Or.inl ⟨by rfl, ?_⟩) ?_ ?_
       rotate_left
       ·intro w'
        go_simp
        with_reducible rfl
       rotate_left
       ·simp only [Act.put, sT_, sZ_, sS_, i64_w, i32_w]
        rfl
       refine one_ (i := 1) (N := some 172) #[true, true, true, true, true, true, true, false] rfl rfl (one_of HT_.out (by kernel_rfl)) (by decide) (fun K hK => ?_)
       refine goes_ Try.func18 (by kernel_rfl) rfl #[.pointer (some ⟨g, 0, none⟩)] (by rfl) rfl rfl (by simp only [List.map_toArray, List.map_cons, List.map_nil]; rfl) ?_
       with_reducible refine (HPD.out.lenP).mono ?_
       rintro e w8 ⟨rfl, hb⟩
       refine ⟨_, rfl, ?_⟩
       have HP8 := Aside0.mk (HPD.out.below hb)
       have HGB8 := Aside0.mk (blk_below HGB.out hb)
       clear hb
       refine hK.out _ _ (((blk_cell HGB8.out 1).trans rfl)) (fun hHeld => ?_)
       clear hK K
       refine norm_ (a' := ?_) ?_ ?_
       rotate_left
       ·show Act.put _ (some 172) _ = _
        simp only [Act.put, sT_, sZ_, sS_, i64_w, i32_w]
        rfl
       refine pure_ (i := 7) (N := some 178) (v := ?_) (a' := ?_) #[true, true, true, true, true, true, true, true] rfl rfl (any_of HT_.out (by kernel_rfl)) (fun _ _ _ h => h) (Or.inl ⟨by rfl, ?_⟩) ?_ ?_
       rotate_left
       ·intro w'
        go_simp
        with_reducible rfl
       rotate_left
       ·simp only [Act.put, sT_, sZ_, sS_, i64_w, i32_w]
        rfl
       refine done_ (done_of HT_.out (by kernel_rfl)) ?_
       clear hHeld
       go_wp2
       go_roundg gk
       case measure => omega
       case rel => exact ⟨i + 1, s2, congrArg (Value.int .i64) HIN.out, ⟨by have := HI.out; have := HI60.out; omega⟩, ⟨HP8.out.less (fun k hk => hk.elim)⟩, HVc⟩
    ·have q4 : decide ((100 : Int) < (x.2.2.2.2.2.2.length : Int)) = true := decide_eq_true (by omega)
     have q4' : decide (100 < x.2.2.2.2.2.2.length) = true := decide_eq_true (by omega)
     clear hk
     go_wp2_with (go_at_call 11; (with_reducible refine (small_calls x.2.1.1 x.2.1.2.1 x.2.1.2.2 A1 c1 A2 c2 _ HO.out.fit1 (HO.out.below (bel_trans HB0.out HBA0.out)).vec HO.out.fit2 (HO.out.below (bel_trans HB0.out HBA0.out)).tags).mono ?_); rintro e w3 ⟨⟨r, rfl, hr⟩, hb⟩; have hbb := bel_trans HBA0.out hb; have HP3 := Aside0.mk (HP0.out.below hbb); have HBW3 := Aside0.mk hbb; have HX3 := Aside0.mk (blk_below HBX0.out hb); have b0 := (blk_cell HX3.out 0).trans rfl; have b8 := (blk_cell HX3.out 8).trans rfl; have b1 := (blk_cell HX3.out 1).trans rfl; have b2 := (blk_cell HX3.out 2).trans rfl; have b3 := (blk_cell HX3.out 3).trans rfl; clear hb hbb; rcases r with _ | _; clear hr; rotate_left; (have HSM := Aside0.mk (hr rfl)); clear hr; rotate_right)
     all_goals
      go_ret
      exact ⟨rfl, s, HP3.out, HV.out.mono (by have := HI.out; omega)⟩
   ·have q2 : decide ((i : Int) < (most : Int)) = false := decide_eq_false (by omega)
    have q2' : decide (i < most) = false := decide_eq_false h60
    clear hi h60
    go_wp2
    go_ret
    exact ⟨rfl, s, HP0.out, HV.out.mono (by have := HI.out; omega)⟩
  ·have q1 : decide ((i : Int) < (l.length : Int)) = false := decide_eq_false (by omega)
   have q1' : (i < l.length) = False := eq_false hi
   have q1'' : decide (i < l.length) = false := decide_eq_false hi
   clear hi
   go_wp2
   go_ret
   exact ⟨rfl, s, HP0.out, HV.out.mono (by have := HI.out; omega)⟩
end Go.Proofs.Ytofmlajanopniaa.Li
namespace Go.Proofs.Ytofmlajanopniaa.Li
open Go.RowKit Go.Maps Go.Proofs.YtofmlajanopniaaW.PrintWords Go.Proofs.YtofmlajanopniaaW.PrintLast Go.Proofs.YtofmlajanopniaaW.PrintMore Go.Proofs.Ytofmlajanopniaa.Q Go.Proofs.Ytofmlajanopniaa.Tk
theorem M2.new {w w2 w3 : World} (h : Below w.heap.size w w2) (m : Int) (h3 : w3 = w2.alloc (.cells #[.int .u8 m, .slice none 0 0] 84)) :
  M2 (fun _ => False) w (w3.alloc (.cells #[.int .i64 m, .slice none 0 0] 48)) w2.heap.size w3.heap.size ⟨m, []⟩ ⟨m, []⟩ := by
 have e3 : w3.heap.size = w2.heap.size + 1 := by rw [h3]; exact World.size_alloc _ _
 have hB : Below w.heap.size w w3 := by rw [h3]; exact bel_alloc h _
 have hG : GX w w3 w2.heap.size (fun k => k = w2.heap.size) ⟨m, []⟩ := by rw [h3]; exact GT.new h m
 refine ⟨⟨fun k => k = w2.heap.size, fun k => k = w3.heap.size, hG.below (below_alloc (Below.refl _ _) _), ⟨.slice none 0 0, heap_alloc_new w3 _, rfl, fun k hk => ?_, (fun k hk => by cases hk), ⟨[], own_nil _ _ _ _, (fun i n hn => by simp at hn)⟩, bel_alloc hB _⟩, (fun k h1 h2 => by omega), fun _ _ h => h, fun _ _ h => h⟩, fun k hk => hk.elim⟩
 subst hk
 exact ⟨hB.size, by rw [World.size_alloc]; omega⟩
theorem mod2 {m : Int} (h : (Lit.int .u8 m).wf = true) : 0 ≤ m.tmod 2 ∧ m.tmod 2 ≤ 1 := by
 have := wf_u8' h
 rw [Int.tmod_eq_emod_of_nonneg this.1]
 omega
theorem mod2_wrap {m : Int} (h : (Lit.int .u8 m).wf = true) : wrap64 (m.tmod 2) = m.tmod 2 := by
 have := mod2 h
 unfold wrap64
 omega
section
variable {X X' : Nat → Prop} {w0 w w' : World} {g gr : Nat} {s s1 s2 : Gr}
theorem M2.walkN (h : M2 X w0 w g gr s1 s2) {n : Nat} (hi : Inv s1 n) (hn : n ≤ 90000) (A : Option Addr) (c : Nat) (q : List Int) (hq : Kd.C (Kd.int .i32) w A q.length q) (hqc : q.length ≤ c) (A2 : Option Addr) (c2 : Nat) (x : Int) (hL : Kd.C (Kd.int .i64) w A2 1 [x]) (width lv : Int) (R : List H) (hR : walkG s1 q [x] width lv = R) :
  Calls Try.prog 19 #[.pointer (some ⟨g, 0, none⟩), .slice A q.length c, .slice A2 1 c2, .int .i64 width, .int .i64 lv] w fun e w' => (∃ v, e = .returned v ∧ OwnH w' w.heap.size v R) ∧ Below w.heap.size w w' := by
 rw [← hR]
 exact h.walkP hi hn A c q hq hqc A2 c2 [x] hL (by simp) width lv
theorem M2.walkE (h : M2 X w0 w g gr s1 s2) {n : Nat} (hi : Inv s1 n) (hn : n ≤ 90000) (A : Option Addr) (c : Nat) (q : List Int) (hq : Kd.C (Kd.int .i32) w A q.length q) (hqc : q.length ≤ c) (A2 : Option Addr) (c2 : Nat) (x : Int) (hL : Kd.C (Kd.int .i64) w A2 1 [x]) (width lv : Int) (hR : walkG s1 q [x] width lv = []) :
  Calls Try.prog 19 #[.pointer (some ⟨g, 0, none⟩), .slice A q.length c, .slice A2 1 c2, .int .i64 width, .int .i64 lv] w fun e w' => (∃ ao cp, e = .returned (.slice ao 0 cp)) ∧ Below w.heap.size w w' :=
 (h.walkN hi hn A c q hq hqc A2 c2 x hL width lv [] hR).mono fun e w' ⟨⟨v, he, hv⟩, hb⟩ => by
  obtain ⟨ao, cp, rfl, -⟩ := hv.reads
  exact ⟨⟨ao, cp, he⟩, hb⟩
theorem M2.nearN (h : M2 X w0 w g gr s1 s2) {n : Nat} (hi : Inv s1 n) (hn : n ≤ 90000) (A : Option Addr) (c : Nat) (q : List Int) (hq : Kd.C (Kd.int .i32) w A q.length q) (hqc : q.length ≤ c) (A2 : Option Addr) (c2 : Nat) (L : List Int) (N : Nat) (hN : L.length = N) (hL : Kd.C (Kd.int .i64) w A2 N L) (hLl : N ≤ 100000) (R : List H) (hR : nearG s1 q L = R) :
  Calls Try.prog 21 #[.pointer (some ⟨g, 0, none⟩), .slice A q.length c, .slice A2 N c2] w fun e w' => (∃ v, e = .returned v ∧ OwnH w' w.heap.size v R) ∧ Below w.heap.size w w' := by
 subst hN hR
 exact h.nearP hi hn A c q hq hqc A2 c2 L hL hLl
theorem allHits_len (s : Gr) (q : List Int) : (allHits s q).length = s.l.length := by simp [allHits, sortH_len]
theorem there_nil {i lv : Int} (h : s.l = []) : s.there i lv = false := by
 cases hc : s.there i lv with
 | false => rfl
 | true =>
  obtain ⟨k, j, nd, -, -, hn, -⟩ := there_iff.1 hc
  rw [h] at hn
  simp at hn
theorem walk_nil {q : List Int} {x width lv : Int} (h : s.l = []) : walkG s q [x] width lv = [] := by
 unfold walkG walk0 startN
 simp only [List.foldl_cons, List.foldl_nil, there_nil h, Bool.false_and, Bool.false_eq_true, if_false]
 rw [h]
 rfl
def upto (i : Nat) : List Int := (List.range i).map (fun k : Nat => (k : Int))
theorem upto_len (i : Nat) : (upto i).length = i := by simp [upto]
theorem upto_snoc (i : Nat) : upto i ++ [(i : Int)] = upto (i + 1) := by simp [upto, List.range_succ]
theorem wrap_u64 (x : Int) : IntKind.u64.wrap x = x % 18446744073709551616 := by
 unfold IntKind.wrap
 simp only [IntKind.bits, IntKind.signed, Bool.false_and, Bool.false_eq_true, if_false]
 omega
theorem wrap_u64n {n : Nat} (hn : n ≤ 1000) : IntKind.u64.wrap (n : Int) = n := by
 rw [wrap_u64]
 omega
theorem wrap_u64z {n : Nat} (h0 : 0 < n) (hn : n ≤ 1000) : (IntKind.u64.wrap (n : Int) = 0) = False := by
 rw [wrap_u64n hn]
 exact eq_false (by omega)
theorem start_in (from_ : Int) {n : Nat} (h0 : 0 < n) (hn : n ≤ 1000) : ∃ k : Nat, k < n ∧ wrap64 ((IntKind.u64.wrap from_).tmod (IntKind.u64.wrap (n : Int))) = k := by
 rw [wrap_u64n hn, wrap_u64]
 have h1 : 0 ≤ from_ % 18446744073709551616 := Int.emod_nonneg _ (by omega)
 rw [Int.tmod_eq_emod_of_nonneg h1]
 have h2 := Int.emod_nonneg (from_ % 18446744073709551616) (b := (n : Int)) (by omega)
 have h3 := Int.emod_lt_of_pos (from_ % 18446744073709551616) (b := (n : Int)) (by omega)
 refine ⟨((from_ % 18446744073709551616) % (n : Int)).toNat, by omega, ?_⟩
 unfold wrap64
 omega
theorem there_lt (hg : Good s) {k : Nat} (h : k < s.l.length) : s.there (k : Int) 0 = true :=
 there_iff.2 ⟨k, 0, s.l[k], rfl, rfl, List.getElem?_eq_getElem h, by have := (hg.lv1 k _ (List.getElem?_eq_getElem h)).1; omega⟩
end
end Go.Proofs.Ytofmlajanopniaa.Li
