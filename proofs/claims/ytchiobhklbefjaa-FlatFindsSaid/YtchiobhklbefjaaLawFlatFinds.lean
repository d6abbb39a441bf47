/- FlatFinds: all hits, the first ones, and those behind any hit, are the document's. No condition. -/
import Derived.Test.YtchiobhklbefjaaFlAll
namespace Go.Proofs.Ytchiobhklbefjaa.Fl
open Go.RowKit Go.Proofs.YtchiobhklbefjaaW.PrintWords Go.Proofs.YtchiobhklbefjaaW.PrintLast Go.Proofs.YtchiobhklbefjaaW.PrintMore Go.Proofs.Ytchiobhklbefjaa.Tk Go.Proofs.Ytchiobhklbefjaa.Q
set_option linter.unusedVariables false
set_option linter.unusedSimpArgs false
set_option maxHeartbeats 8000000 in
set_option maxRecDepth 100000 in
theorem finds_calls (p : Where) (a : Ask) (l : List It) (last : H) (k : Int) (w : World) (hL : Lies w p a l) (hm : 0 ≤ a.m ∧ a.m ≤ 255) :
    Calls Try.prog 10 #[.int .u8 a.m, p.vl l, p.vq a, p.vf a, .agg #[.int .i64 last.f0, .int .u32 last.f1], .int .i64 k] w fun e w' => e = .returned (.bool true) ∧ Below w.heap.size w w' := by
  have hu := Try.underlying29
  have hu2 := Try.underlying49
  obtain ⟨r, hfine, hg⟩ := rgreat_calls p a l w hL hm
  have HG := Aside0.mk hg
  have HL := Aside0.mk hL
  have HFI := Aside0.mk hfine
  have m0 := hm.1
  have m1 := hm.2
  have hbw := bel_alloc (below_alloc (Below.refl w.heap.size w) (.cells #[.slice p.F0 a.f0.length p.d0, .slice p.F1 a.f1.length p.d1, .slice p.F2 a.f2.length p.d2] 49)) (.cells #[.int .i64 last.f0, .int .u32 last.f1] 29)
  have HB0 := Aside0.mk hbw
  have HF0 := Aside0.mk ((fbox_new w p a).below (below_alloc (Below.refl _ _) (.cells #[.int .i64 last.f0, .int .u32 last.f1] 29)))
  have hn0 := hbox_new (w.alloc (.cells #[.slice p.F0 a.f0.length p.d0, .slice p.F1 a.f1.length p.d1, .slice p.F2 a.f2.length p.d2] 49)) last
  rw [World.size_alloc] at hn0
  have HN0 := Aside0.mk hn0
  clear hg hL hfine hm hbw hn0
  cases r with
  | true => as_aux_lemma =>
    go_enter Try.func10, Try.ntmps10
    go_wp2_with (first | (go_at_call 35; (with_reducible refine (alive_calls _).mono ?_); rintro e w1 ⟨rfl, hb⟩; have HB1 := Aside0.mk (bel_trans HB0.out hb); have HF1 := Aside0.mk (HF0.out.below hb); have HN1 := Aside0.mk (HN0.out.below hb); have f0 := HF1.out.f0; have f1 := HF1.out.f1; have f2 := HF1.out.f2; clear hb) | (go_at_call 36; (with_reducible refine (HG.out _ HB1.out).mono ?_); rintro e w2 ⟨rfl, hb⟩; have HB2 := Aside0.mk (bel_trans HB1.out hb); clear hb f0 f1 f2))
    go_ret
    exact ⟨rfl, HB2.out⟩
  | false => as_aux_lemma =>
    have hF := HFI.out rfl
    have HF := Aside0.mk hF
    have HS := Aside0.mk (hits_small a hF)
    clear hF
    go_enter Try.func10, Try.ntmps10
    go_wp2_with (first | (go_at_call 35; (with_reducible refine (alive_calls _).mono ?_); rintro e w1 ⟨rfl, hb⟩; have HB1 := Aside0.mk (bel_trans HB0.out hb); have HF1 := Aside0.mk (HF0.out.below hb); have HN1 := Aside0.mk (HN0.out.below hb); have f0 := HF1.out.f0; have f1 := HF1.out.f1; have f2 := HF1.out.f2; clear hb) | (go_at_call 36; (with_reducible refine (HG.out _ HB1.out).mono ?_); rintro e w2 ⟨rfl, hb⟩; have HB2 := Aside0.mk (bel_trans HB1.out hb); have HF2 := Aside0.mk (HF1.out.below hb); have HN2 := Aside0.mk (HN1.out.below hb); clear hb f0 f1 f2; have f0 := HF2.out.f0; have f1 := HF2.out.f1; have f2 := HF2.out.f2) | (go_at_call 37; (with_reducible refine (rrank_calls p a l _ (HL.out.below HB2.out) HF.out).mono ?_); rintro e w3 ⟨⟨v13, rfl, hv⟩, hb⟩; have HV13 := Aside0.mk hv; have HB3 := Aside0.mk (bel_trans HB2.out hb); have HF3 := Aside0.mk (HF2.out.below hb); have HN3 := Aside0.mk (HN2.out.below hb); clear hb hv f0 f1 f2; have f0 := HF3.out.f0; have f1 := HF3.out.f1; have f2 := HF3.out.f2) | (go_at_call 38; (with_reducible refine (rank_calls p a l _ (HL.out.below HB3.out) HF.out).mono ?_); rintro e w4 ⟨⟨v14, rfl, hv⟩, hb⟩; have HV14 := Aside0.mk hv; have HP4 := Aside0.mk (own_below HV13.out hb); have HB4 := Aside0.mk (bel_trans HB3.out hb); have HF4 := Aside0.mk (HF3.out.below hb); have HN4 := Aside0.mk (HN3.out.below hb); clear hb hv f0 f1 f2; have f0 := HF4.out.f0; have f1 := HF4.out.f1; have f2 := HF4.out.f2) | (go_at_call 39; (with_reducible refine (search_calls p a l k _ (HL.out.below HB4.out) HF.out).mono ?_); rintro e w5 ⟨⟨v15, rfl, hv⟩, hb⟩; have HV15 := Aside0.mk hv; have HP5 := Aside0.mk (own_below HP4.out hb); have HQ5 := Aside0.mk (own_below HV14.out hb); have HB5 := Aside0.mk (bel_trans HB4.out hb); have HF5 := Aside0.mk (HF4.out.below hb); have HN5 := Aside0.mk (HN4.out.below hb); clear hb hv f0 f1 f2; have f0 := HF5.out.f0; have f1 := HF5.out.f1; have f2 := HF5.out.f2; have n0 := HN5.out.n0; have n1 := HN5.out.n1) | (go_at_call 40; (with_reducible refine (after_calls p a l last k _ (HL.out.below HB5.out) HF.out).mono ?_); rintro e w6 ⟨⟨v16, rfl, hv⟩, hb⟩; have HV16 := Aside0.mk hv; have HP6 := Aside0.mk (own_below HP5.out hb); have HQ6 := Aside0.mk (own_below HQ5.out hb); have HR6 := Aside0.mk (own_below HV15.out hb); have HB6 := Aside0.mk (bel_trans HB5.out hb); have HN6 := Aside0.mk (HN5.out.below hb); clear hb hv f0 f1 f2 n0 n1) | (go_at_call 29; (with_reducible refine (rsame_own _ _ _ _ _ _ _ rfl HQ6.out HP6.out (Nat.le_trans HS.out (by omega))).mono ?_); rintro e w7 ⟨rfl, hb⟩; have HP7 := Aside0.mk (own_below HP6.out hb); have HR7 := Aside0.mk (own_below HR6.out hb); have HT7 := Aside0.mk (own_below HV16.out hb); have HB7 := Aside0.mk (bel_trans HB6.out hb); have HN7 := Aside0.mk (HN6.out.below hb); clear hb HQ6 HP6 HR6) | (go_at_call 41; (with_reducible refine (rfirst10_own _ _ _ k _ HP7.out (Nat.le_trans HS.out (by omega))).mono ?_); rintro e w8 ⟨⟨v53, rfl, hv⟩, hb⟩; have HV8 := Aside0.mk hv; have HP8 := Aside0.mk (own_below HP7.out hb); have HR8 := Aside0.mk (own_below HR7.out hb); have HT8 := Aside0.mk (own_below HT7.out hb); have HB8 := Aside0.mk (bel_trans HB7.out hb); have HN8 := Aside0.mk (HN7.out.below hb); clear hb hv HP7) | (go_at_call 29; (with_reducible refine (rsame_own _ _ _ _ _ _ _ (found_first _ k) HR8.out HV8.out (by rw [found_first, List.length_take]; have := HS.out; omega)).mono ?_); rintro e w9 ⟨rfl, hb⟩; have HP9 := Aside0.mk (own_below HP8.out hb); have HT9 := Aside0.mk (own_below HT8.out hb); have HB9 := Aside0.mk (bel_trans HB8.out hb); have HN9 := Aside0.mk (HN8.out.below hb); clear hb HR8; have n0 := HN9.out.n0; have n1 := HN9.out.n1) | (go_at_call 42; (with_reducible refine (rbehind_own _ _ _ last _ HP9.out (Nat.le_trans HS.out (by omega))).mono ?_); rintro e w10 ⟨⟨v60, rfl, hv⟩, hb⟩; have HV10 := Aside0.mk hv; have HT10 := Aside0.mk (own_below HT9.out hb); have HB10 := Aside0.mk (bel_trans HB9.out hb); clear hb hv n0 n1 HP9) | (go_at_call 41; (with_reducible refine (rfirst10_own _ _ _ k _ HV10.out (Nat.le_trans (List.length_filter_le _ _) (Nat.le_trans HS.out (by omega)))).mono ?_); rintro e w11 ⟨⟨v62, rfl, hv⟩, hb⟩; have HV11 := Aside0.mk hv; have HT11 := Aside0.mk (own_below HT10.out hb); have HB11 := Aside0.mk (bel_trans HB10.out hb); clear hb hv HV10) | (go_at_call 29; (with_reducible refine (rsame_own _ _ _ _ _ _ _ (behind_first _ last k) HT11.out HV11.out (by rw [behind_first, List.length_take]; have := HS.out; have := List.length_filter_le (ltH last) (sortH (a.hits l)); omega)).mono ?_); rintro e w12 ⟨rfl, hb⟩; have HB12 := Aside0.mk (bel_trans HB11.out hb); clear hb))
    go_ret
    exact ⟨rfl, HB12.out⟩
abbrev okHit (x : Int × Int) : Prop := (Lit.int .i64 x.1).wf = true ∧ (Lit.int .u32 x.2).wf = true
theorem finds_row (m : Int) (hm : (Lit.int .u8 m).wf = true) (v1 : Value) (s1 : v1 = .slice none 0 0 ∨ ∃ a n c, v1 = .slice (some a) n c) (x1 : List (Int × List Int × List ByteArray)) {W : World} (K1 : (Kd.slice 59 kitem).K W x1 v1.cells.toList) (o1 : okItems x1)
    (v2 : Value) (s2 : v2 = .slice none 0 0 ∨ ∃ a n c, v2 = .slice (some a) n c) (x2 : List Int) (K2 : kvec.K W x2 v2.cells.toList) (o2 : okVec x2) (v3 : Value) (s3 : ∃ cs, v3 = .agg cs) (x3 : List ByteArray × List ByteArray × List ByteArray) (K3 : kfilter.K W x3 v3.cells.toList) (o3 : okFilter x3)
    (v4 : Value) (s4 : ∃ cs, v4 = .agg cs) (x4 : Int × Int) (K4 : kp.K W x4 v4.cells.toList) (o4 : okHit x4) (k : Int) (hk : (Lit.int .i64 k).wf = true) (_ : World) :
    Calls Try.prog 10 #[.int .u8 m, v1, v2, v3, v4, .int .i64 k] W fun e w' => e = .returned (.bool true) ∧ Below W.heap.size W w' := by
  obtain ⟨p, rfl, rfl, rfl, hL⟩ := lies_of m s1 K1 s2 K2 s3 K3
  rw [hit_of s4 K4]
  exact finds_calls p ⟨m, x2, x3.1, x3.2.1, x3.2.2⟩ (x1.map ofI) ⟨x4.1, x4.2⟩ k W hL (wf_u8 hm)
end Go.Proofs.Ytchiobhklbefjaa.Fl
