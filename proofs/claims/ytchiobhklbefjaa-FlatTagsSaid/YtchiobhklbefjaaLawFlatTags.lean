/- FlatTags: what is found with a filter is what is found without it of the items that it matches. No condition. -/
import Derived.Test.YtchiobhklbefjaaFlH
namespace Go.Proofs.Ytchiobhklbefjaa.Fl
open Go.RowKit Go.Proofs.YtchiobhklbefjaaW.PrintWords Go.Proofs.YtchiobhklbefjaaW.PrintLast Go.Proofs.YtchiobhklbefjaaW.PrintMore Go.Proofs.Ytchiobhklbefjaa.Tk Go.Proofs.Ytchiobhklbefjaa.Q
set_option linter.unusedVariables false
set_option linter.unusedSimpArgs false
def Ask.mt (a : Ask) (x : It) : Bool := matchB a.f0 a.f1 a.f2 x.f2
def Ask.bare (a : Ask) : Ask := ⟨a.m, a.q, [], [], []⟩
def Where.bare (p : Where) (A : Option Addr) (c : Nat) : Where := ⟨A, c, p.A2, p.c2, none, 0, none, 0, none, 0⟩
theorem tags_hits (a : Ask) (l : List It) : a.hits l = a.bare.hits (l.filter a.mt) := by
  unfold Ask.hits
  rw [List.filter_filter]
  have e : (fun x => a.bare.wants x && a.mt x) = a.wants := by
    funext x
    show ((dist a.m a.q x.f1).2 && matchB [] [] [] x.f2 && matchB a.f0 a.f1 a.f2 x.f2) = ((dist a.m a.q x.f1).2 && matchB a.f0 a.f1 a.f2 x.f2)
    have : matchB [] [] [] x.f2 = true := rfl
    rw [this, Bool.and_true]
  rw [e]
  rfl
theorem Fine.sub {a b : Ask} {l m : List It} (h : Fine a l) (hm : b.m = a.m) (h0 : b.f0.length ≤ 100000) (h1 : b.f1.length ≤ 100000) (h2 : b.f2.length ≤ 100000) (hn : m.length ≤ 300) (hx : ∀ x ∈ m, x ∈ l) : Fine b m :=
  ⟨by rw [hm]; exact h.m0, by rw [hm]; exact h.m1, h0, h1, h2, hn, fun x hxm => h.x x (hx x hxm)⟩
theorem tags_fine {a : Ask} {l : List It} (h : Fine a l) : Fine a.bare (l.filter a.mt) :=
  h.sub rfl (by simp [Ask.bare]) (by simp [Ask.bare]) (by simp [Ask.bare]) (Nat.le_trans (List.length_filter_le _ _) h.n) (fun x hx => (List.mem_filter.1 hx).1)
theorem Lies.bare {w : World} {p : Where} {a : Ask} {l : List It} (h : Lies w p a l) {A : Option Addr} {c : Nat} {m : List It} (hc : m.length ≤ c) (hk : Kd.C k59 w A m.length m) : Lies w (p.bare A c) a.bare m :=
  ⟨hk, hc, h.k2, h.h2, C_nil _ _, by simp [Ask.bare], C_nil _ _, by simp [Ask.bare], C_nil _ _, by simp [Ask.bare]⟩
theorem rank_bare {p : Where} {a : Ask} {l m : List It} {A : Option Addr} {c : Nat} {w : World} (h : Lies w p a l) (hc : m.length ≤ c) (hk : Kd.C k59 w A m.length m) (hF : Fine a.bare m) :
    Calls Try.prog 38 #[.int .u8 a.m, .slice A m.length c, .slice p.A2 a.q.length p.c2, .agg #[.slice none 0 0, .slice none 0 0, .slice none 0 0]] w fun e W' => (∃ v, e = .returned v ∧ OwnH W' w.heap.size v (sortH (a.bare.hits m))) ∧ Below w.heap.size w W' :=
  rank_calls (p.bare A c) a.bare m w (h.bare hc hk) hF
theorem rmatch_calls (A0 : Option Addr) (c0 : Nat) (f0 : List ByteArray) (A1 : Option Addr) (c1 : Nat) (f1 : List ByteArray) (A2 : Option Addr) (c2 : Nat) (f2 : List ByteArray) (A3 : Option Addr) (c3 : Nat) (l : List ByteArray) (r : Bool) (w : World)
    (h0 : Kd.string.C w A0 f0.length f0) (hc0 : f0.length ≤ c0) (h1 : Kd.string.C w A1 f1.length f1) (hc1 : f1.length ≤ c1) (h2 : Kd.string.C w A2 f2.length f2) (hc2 : f2.length ≤ c2) (h3 : Kd.string.C w A3 l.length l) (hc3 : l.length ≤ c3)
    (l0 : f0.length ≤ 100000) (l1 : f1.length ≤ 100000) (l2 : f2.length ≤ 100000) (l3 : l.length ≤ 100000) (hr : matchB f0 f1 f2 l = r) :
    Calls Try.prog 43 #[.agg #[.slice A0 f0.length c0, .slice A1 f1.length c1, .slice A2 f2.length c2], .slice A3 l.length c3] w fun e w' => e = .returned (.bool r) ∧ Below w.heap.size w w' :=
  lodestarref03_Match.calls 500000 A0 c0 f0 A1 c1 f1 A2 c2 f2 A3 c3 l r w h0 hc0 h1 hc1 h2 hc2 h3 hc3 (by rw [match_f f0 f1 f2 l l3 l0 l1 l2 _ (Nat.le_refl _), hr])
set_option maxHeartbeats 8000000 in
set_option maxRecDepth 100000 in
theorem tags_calls (p : Where) (a : Ask) (l : List It) (w : World) (hL : Lies w p a l) (hm : 0 ≤ a.m ∧ a.m ≤ 255) :
    Calls Try.prog 13 #[.int .u8 a.m, p.vl l, p.vq a, p.vf a] w fun e w' => e = .returned (.bool true) ∧ Below w.heap.size w w' := by
  have hu := Try.underlying29
  have hu2 := Try.underlying49
  have hu3 := Try.underlying59
  obtain ⟨r, hfine, hg⟩ := rgreat_calls p a l w hL hm
  obtain ⟨A0, c0, B0, e0, F0, d0, F1, d1, F2, d2⟩ := p
  change Calls Try.prog _ #[.int .u8 a.m, .slice A0 l.length c0, .slice B0 a.q.length e0, .agg #[.slice F0 a.f0.length d0, .slice F1 a.f1.length d1, .slice F2 a.f2.length d2]] w _
  have HG := Aside0.mk hg
  have HL := Aside0.mk hL
  have HFI := Aside0.mk hfine
  have HB0 := Aside0.mk (below_alloc (Below.refl w.heap.size w) (.cells #[.slice F0 a.f0.length d0, .slice F1 a.f1.length d1, .slice F2 a.f2.length d2] 49))
  have HF0 := Aside0.mk (fbox_new w ⟨A0, c0, B0, e0, F0, d0, F1, d1, F2, d2⟩ a)
  clear hg hL hfine hm
  cases r with
  | true => as_aux_lemma =>
    go_enter Try.func13, Try.ntmps13
    go_wp2_with (first | (go_at_call 35; (with_reducible refine (alive_calls _).mono ?_); rintro e w1 ⟨rfl, hb⟩; have HB1 := Aside0.mk (bel_trans HB0.out hb); have HF1 := Aside0.mk (HF0.out.below hb); have f0 := HF1.out.f0; have f1 := HF1.out.f1; have f2 := HF1.out.f2; clear hb) | (go_at_call 36; (with_reducible refine (HG.out _ HB1.out).mono ?_); rintro e w2 ⟨rfl, hb⟩; have HB2 := Aside0.mk (bel_trans HB1.out hb); clear hb f0 f1 f2))
    go_ret
    exact ⟨rfl, HB2.out⟩
  | false => as_aux_lemma =>
    have hF := HFI.out rfl
    have HF := Aside0.mk hF
    have HS := Aside0.mk (hits_small a hF)
    have HLN := Aside0.mk hF.n
    clear hF
    go_enter Try.func13, Try.ntmps13
    go_wp2_with (first | (go_at_call 35; (with_reducible refine (alive_calls _).mono ?_); rintro e w1 ⟨rfl, hb⟩; have HB1 := Aside0.mk (bel_trans HB0.out hb); have HF1 := Aside0.mk (HF0.out.below hb); have f0 := HF1.out.f0; have f1 := HF1.out.f1; have f2 := HF1.out.f2; clear hb) | (go_at_call 36; (with_reducible refine (HG.out _ HB1.out).mono ?_); rintro e w2 ⟨rfl, hb⟩; have HB2 := Aside0.mk (bel_trans HB1.out hb); have HF2 := Aside0.mk (HF1.out.below hb); clear hb f0 f1 f2))
    go_loopg [9, 10] l.length (fun gk v9 v10 wr => ∃ (i : Nat), v10 = .int .i64 i ∧ Aside0 (i ≤ l.length ∧ l.length - i ≤ gk) ∧ Aside0 (OwnI wr (w.heap.size + 1) v9 ((l.take i).filter a.mt)) ∧ Aside0 (Below w.heap.size w wr) ∧ Aside0 (FBox wr w.heap.size ⟨A0, c0, B0, e0, F0, d0, F1, d1, F2, d2⟩ a))
    case atStart => exact ⟨0, rfl, ⟨by omega, by omega⟩, ⟨OwnI.nil _ _⟩, HB2, HF2⟩
    case round =>
      obtain ⟨i, rfl, HI, HV, HB, HFB⟩ := hrel
      by_cases hc : i < l.length
      · have q1 : decide ((i : Int) < (l.length : Int)) = true := decide_eq_true (by omega)
        have q2 : (i : Int) < (l.length : Int) := by omega
        obtain ⟨ad, A1, c1, A2, c2, x, hA, hx, x0, x1, x2, l1, g1, l2, g2⟩ := HL.out.at hc
        have hA' : A0 = some ad := hA
        subst hA'
        clear hA
        have hin : wrap64 ((i : Int) + 1) = ((i + 1 : Nat) : Int) := succ_wrap hc (by have := HLN.out; omega)
        have f0 := HFB.out.f0
        have f1 := HFB.out.f1
        have f2 := HFB.out.f2
        obtain ⟨r, hr⟩ : ∃ r, matchB a.f0 a.f1 a.f2 x.f2 = r := ⟨_, rfl⟩
        have HR := Aside0.mk hr
        have HX := Aside0.mk hx
        have HI2 := Aside0.mk hc
        have HG := Aside0.mk (show x.f1.length ≤ c1 ∧ x.f2.length ≤ c2 from ⟨l1, l2⟩)
        have HK := Aside0.mk (k59_mk w x l1 g1 l2 g2)
        have HG2 := Aside0.mk g2
        have HX0 := Aside0.mk x0
        have HX1 := Aside0.mk x1
        have HX2 := Aside0.mk x2
        have HFX := Aside0.mk (HF.out.x x (List.mem_of_getElem? hx))
        replace x0 := pw_cell_below HB.out x0
        replace x1 := pw_cell_below HB.out x1
        replace x2 := pw_cell_below HB.out x2
        clear hr hx hc l1 l2 g1 g2
        go_wp2_with fail
        go_still_tail 6, (by kernel_rfl)
        change wpList _ _ _ _ _ wr.drew
        have hd := below_drew (Below.refl wr.heap.size wr)
        have HD := Aside0.mk hd
        generalize wr.drew = w4 at HD hd
        clear f0 f1 f2 x0 x1 x2
        cases r with
        | false =>
          go_wp2_with ((go_at_call 43; (with_reducible refine (rmatch_calls F0 d0 a.f0 F1 d1 a.f1 F2 d2 a.f2 A2 c2 x.f2 _ w4 (HL.out.below (bel_trans HB.out HD.out)).g0 HL.out.b0 (HL.out.below (bel_trans HB.out HD.out)).g1 HL.out.b1 (HL.out.below (bel_trans HB.out HD.out)).g2 HL.out.b2 (Kd.C_below HG2.out (bel_trans HB.out HD.out)) HG.out.2 HF.out.f0 HF.out.f1 HF.out.f2 HFX.out.2 HR.out).mono ?_); rintro e w5 ⟨rfl, hb⟩; have HB5 := Aside0.mk (bel_trans HD.out hb); clear hb hd))
          obtain ⟨gk, rfl⟩ : ∃ m, gk = m + 1 := ⟨gk - 1, by have := HI.out; have := HI2.out; omega⟩
          go_roundg gk
          case measure => omega
          case rel =>
            refine ⟨i + 1, congrArg (Value.int .i64) hin, ⟨by have := HI.out; have := HI2.out; omega⟩, ⟨?_⟩, ⟨bel_trans HB.out HB5.out⟩, ⟨HFB.out.below HB5.out⟩⟩
            obtain ⟨hi, rfl⟩ := List.getElem?_eq_some_iff.1 HX.out
            rw [List.take_succ_eq_append_getElem hi, List.filter_append, List.filter_cons, show a.mt l[i] = false from HR.out]
            simp only [Bool.false_eq_true, if_false, List.filter_nil, List.append_nil]
            exact HV.out.below HB5.out
        | true =>
          go_wp2_with (first | (go_at_call 43; (with_reducible refine (rmatch_calls F0 d0 a.f0 F1 d1 a.f1 F2 d2 a.f2 A2 c2 x.f2 _ w4 (HL.out.below (bel_trans HB.out HD.out)).g0 HL.out.b0 (HL.out.below (bel_trans HB.out HD.out)).g1 HL.out.b1 (HL.out.below (bel_trans HB.out HD.out)).g2 HL.out.b2 (Kd.C_below HG2.out (bel_trans HB.out HD.out)) HG.out.2 HF.out.f0 HF.out.f1 HF.out.f2 HFX.out.2 HR.out).mono ?_); rintro e w5 ⟨rfl, hb⟩; have HB5 := Aside0.mk (bel_trans HD.out hb); clear hb hd; have x0 := pw_cell_below (bel_trans HB.out HB5.out) HX0.out; have x1 := pw_cell_below (bel_trans HB.out HB5.out) HX1.out; have x2 := pw_cell_below (bel_trans HB.out HB5.out) HX2.out) | (at_builtin; go_must (refine append_one rfl _ _ rfl (w.heap.size + 1) u9 ((l.take i).filter a.mt) x _ _ _ rfl rfl (HV.out.below HB5.out) (fr_old HK.out (bel_trans HB.out HB5.out) (fun k hk => Nat.le_of_succ_le (HV.out.base k hk))) (by have := List.length_filter_le a.mt (l.take i); rw [List.length_take] at this; have := HLN.out; omega) (Nat.le_trans HFB.out.lt HB5.out.size) ?_); intro v6 w6 hv hO; have HV6 := Aside0.mk hv; have HO6 := Aside0.mk hO; clear hv hO x0 x1 x2))
          obtain ⟨gk, rfl⟩ : ∃ m, gk = m + 1 := ⟨gk - 1, by have := HI.out; have := HI2.out; omega⟩
          have hb6 := HO6.out.below_of (bel_alloc (bel_trans HB.out HB5.out) (.cells #[.int .u32 x.f0, .slice A1 x.f1.length c1, .slice A2 x.f2.length c2] 59)) (fun k hk => Nat.le_of_succ_le (HV.out.base k hk))
          go_roundg gk
          case measure => omega
          case rel =>
            refine ⟨i + 1, congrArg (Value.int .i64) hin, ⟨by have := HI.out; have := HI2.out; omega⟩, ⟨?_⟩, ⟨hb6⟩, ⟨((HFB.out.below HB5.out).below (below_alloc (Below.refl _ _) _)).only HO6.out (fun h => by have := HV.out.base _ h; omega)⟩⟩
            obtain ⟨hi, rfl⟩ := List.getElem?_eq_some_iff.1 HX.out
            rw [List.take_succ_eq_append_getElem hi, List.filter_append, List.filter_cons, show a.mt l[i] = true from HR.out]
            exact HV6.out
      · have q1 : decide ((i : Int) < (l.length : Int)) = false := decide_eq_false (by omega)
        have q2 : decide (i < l.length) = false := decide_eq_false hc
        have q3 : (i < l.length) = False := eq_false hc
        have ht : l.take i = l := List.take_of_length_le (by omega)
        rw [ht] at HV
        obtain ⟨mo, mc, rfl, hmc, hmC⟩ := HV.out.C
        have HMC := Aside0.mk hmc
        have HMK := Aside0.mk hmC
        have f0 := HFB.out.f0
        have f1 := HFB.out.f1
        have f2 := HFB.out.f2
        clear hc ht hmc hmC
        go_wp2_with (first | (go_at_call 38; (with_reducible refine (rank_bare (HL.out.below (bel_trans HB.out HB4.out)) HMC.out (Kd.C_below HMK.out HB4.out) (tags_fine HF.out)).mono ?_); rintro e w5 ⟨⟨v5, rfl, hv⟩, hb⟩; have HV5 := Aside0.mk hv; have HV4' := Aside0.mk (own_below HV4.out hb); have HB5 := Aside0.mk (bel_trans (bel_trans HB.out HB4.out) hb); clear hb hv) | (go_at_call 38; (with_reducible refine (rank_calls _ a l _ (HL.out.below HB.out) HF.out).mono ?_); rintro e w4 ⟨⟨v4, rfl, hv⟩, hb⟩; have HV4 := Aside0.mk hv; have HB4 := Aside0.mk hb; clear hb hv f0 f1 f2) | (go_at_call 29; (with_reducible refine (rsame_own _ _ _ _ _ _ _ (congrArg sortH (tags_hits a l)) HV4'.out HV5.out (Nat.le_trans HS.out (by omega))).mono ?_); rintro e w6 ⟨rfl, hb⟩; have HB6 := Aside0.mk (bel_trans HB5.out hb); clear hb))
        go_ret
        exact ⟨rfl, HB6.out⟩
theorem tags_row (m : Int) (hm : (Lit.int .u8 m).wf = true) (v1 : Value) (s1 : v1 = .slice none 0 0 ∨ ∃ a n c, v1 = .slice (some a) n c) (x1 : List (Int × List Int × List ByteArray)) {W : World} (K1 : (Kd.slice 59 kitem).K W x1 v1.cells.toList) (o1 : okItems x1)
    (v2 : Value) (s2 : v2 = .slice none 0 0 ∨ ∃ a n c, v2 = .slice (some a) n c) (x2 : List Int) (K2 : kvec.K W x2 v2.cells.toList) (o2 : okVec x2) (v3 : Value) (s3 : ∃ cs, v3 = .agg cs) (x3 : List ByteArray × List ByteArray × List ByteArray) (K3 : kfilter.K W x3 v3.cells.toList) (o3 : okFilter x3) (_ : World) :
    Calls Try.prog 13 #[.int .u8 m, v1, v2, v3] W fun e w' => e = .returned (.bool true) ∧ Below W.heap.size W w' := by
  obtain ⟨p, rfl, rfl, rfl, hL⟩ := lies_of m s1 K1 s2 K2 s3 K3
  exact tags_calls p ⟨m, x2, x3.1, x3.2.1, x3.2.2⟩ (x1.map ofI) W hL (wf_u8 hm)
end Go.Proofs.Ytchiobhklbefjaa.Fl
