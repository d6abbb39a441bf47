/- FlatOrder: in what order items stand makes no difference; a filter that wants more finds no fewer. No condition. -/
import Derived.Test.YtchiobhklbefjaaFlH
namespace Go.Proofs.Ytchiobhklbefjaa.Fl
open Go.RowKit Go.Proofs.YtchiobhklbefjaaW.PrintWords Go.Proofs.YtchiobhklbefjaaW.PrintLast Go.Proofs.YtchiobhklbefjaaW.PrintMore Go.Proofs.Ytchiobhklbefjaa.Tk Go.Proofs.Ytchiobhklbefjaa.Q
set_option linter.unusedVariables false
set_option linter.unusedSimpArgs false
theorem hits_perm (a : Ask) {l m : List It} (h : l.Perm m) : (a.hits l).Perm (a.hits m) := (h.filter _).map _
def turned (l : List It) (n : Nat) : List It := l.drop n ++ (l.take n).reverse
theorem turned_perm (l : List It) (n : Nat) : (turned l n).Perm l := by
  unfold turned
  refine ((List.reverse_perm (l.take n)).append_left (l.drop n)).trans (List.perm_append_comm.trans ?_)
  rw [List.take_append_drop]
def Ask.alls (a : Ask) : Ask := ⟨a.m, a.q, a.f0, [], []⟩
theorem alls_more (a : Ask) (l : List It) : (a.hits l).length ≤ (a.alls.hits l).length := by
  unfold Ask.hits
  rw [List.length_map, List.length_map]
  have h : ∀ x, a.wants x = true → a.alls.wants x = true := by
    intro x hx
    unfold Ask.wants at *
    rw [Bool.and_eq_true] at *
    refine ⟨hx.1, ?_⟩
    have := hx.2
    unfold matchB at *
    simp only [Bool.and_eq_true, Bool.not_eq_true', Bool.or_eq_false_iff] at this ⊢
    exact ⟨⟨this.1.1, rfl⟩, by simp [Ask.alls]⟩
  rw [← List.countP_eq_length_filter, ← List.countP_eq_length_filter]
  exact List.countP_mono_left (fun x _ hx => h x hx)
theorem Fine.like {a : Ask} {l m : List It} (h : Fine a l) (hn : m.length ≤ 300) (hx : ∀ x ∈ m, x ∈ l) : Fine a m := ⟨h.m0, h.m1, h.f0, h.f1, h.f2, hn, fun x hxm => h.x x (hx x hxm)⟩
theorem turned_fine {a : Ask} {l : List It} (h : Fine a l) (n : Nat) : Fine a (turned l n) := h.like (by rw [(turned_perm l n).length_eq]; exact h.n) (fun x hx => (turned_perm l n).mem_iff.1 hx)
def Where.of (p : Where) (A : Option Addr) (c : Nat) : Where := { p with A1 := A, c1 := c }
theorem rank_of {p : Where} {a : Ask} {l m : List It} {A : Option Addr} {c : Nat} {w : World} (h : Lies w p a l) (hc : m.length ≤ c) (hk : Kd.C k59 w A m.length m) (hF : Fine a m) :
    Calls Try.prog 38 #[.int .u8 a.m, .slice A m.length c, .slice p.A2 a.q.length p.c2, .agg #[.slice p.F0 a.f0.length p.d0, .slice p.F1 a.f1.length p.d1, .slice p.F2 a.f2.length p.d2]] w fun e W' => (∃ v, e = .returned v ∧ OwnH W' w.heap.size v (sortH (a.hits m))) ∧ Below w.heap.size w W' :=
  rank_calls (p.of A c) a m w ⟨hk, hc, h.k2, h.h2, h.g0, h.b0, h.g1, h.b1, h.g2, h.b2⟩ hF
theorem rank_alls {p : Where} {a : Ask} {l : List It} {w : World} (h : Lies w p a l) (hF : Fine a l) :
    Calls Try.prog 38 #[.int .u8 a.m, .slice p.A1 l.length p.c1, .slice p.A2 a.q.length p.c2, .agg #[.slice p.F0 a.f0.length p.d0, .slice none 0 0, .slice none 0 0]] w fun e W' => (∃ A n c, e = .returned (.slice A n c) ∧ (a.hits l).length ≤ n) ∧ Below w.heap.size w W' := by
  refine (rank_calls ⟨p.A1, p.c1, p.A2, p.c2, p.F0, p.d0, none, 0, none, 0⟩ a.alls l w ⟨h.k1, h.h1, h.k2, h.h2, h.g0, h.b0, C_nil _ _, Nat.le_refl _, C_nil _ _, Nat.le_refl _⟩ ⟨hF.m0, hF.m1, hF.f0, by simp [Ask.alls], by simp [Ask.alls], hF.n, hF.x⟩).mono fun e w' ⟨⟨v, he, hv⟩, hb⟩ => ⟨?_, hb⟩
  obtain ⟨ao, cap, rfl, _⟩ := hv.slice
  exact ⟨ao, _, cap, he, by rw [sortH_len]; exact alls_more a l⟩
theorem turn_at (k : Int) {m : Nat} (h : 0 < m) (hm : m ≤ 300) : ∃ n : Nat, wrap64 ((IntKind.u64.wrap k).tmod (m : Int)) = (n : Int) ∧ n ≤ m := by
  have h0 : 0 ≤ IntKind.u64.wrap k := by
    unfold IntKind.wrap
    simp only [IntKind.signed, IntKind.bits]
    exact Int.emod_nonneg _ (by decide)
  rw [Int.tmod_eq_emod_of_nonneg h0]
  have h1 := Int.emod_nonneg (IntKind.u64.wrap k) (b := (m : Int)) (by omega)
  have h2 := Int.emod_lt_of_pos (IntKind.u64.wrap k) (b := (m : Int)) (by omega)
  refine ⟨((IntKind.u64.wrap k) % (m : Int)).toNat, ?_, by omega⟩
  rw [Tk.wrap_small h1 (by omega)]
  omega
def pred (m : Nat) : Int := (m : Int) - 1
theorem pred_wrap {j : Nat} (h : j ≤ 300) : wrap64 ((j : Int) - 1) = pred j := by unfold pred wrap64; omega
theorem back_start (l : List It) (n : Nat) : l.drop n ++ ((l.take n).drop n).reverse = l.drop n := by
  have e : (l.take n).drop n = [] := List.drop_eq_nil_of_le (List.length_take_le n l)
  rw [e]
  simp
theorem own_item {w0 wr : World} {p : Where} {a : Ask} {l : List It} (hL : Lies w0 p a l) (hb : Below w0.heap.size w0 wr) {i : Nat} (hi : i < l.length) : ∃ ad A1 c1 A2 c2 x, p.A1 = some ad ∧ l[i]? = some x ∧ wr.cell? (ad.add (i * 3)) = some (.int .u32 x.f0) ∧ wr.cell? ⟨(ad.add (i * 3)).block, (ad.add (i * 3)).off + 1, none⟩ = some (.slice A1 x.f1.length c1) ∧
    wr.cell? ⟨(ad.add (i * 3)).block, (ad.add (i * 3)).off + 2, none⟩ = some (.slice A2 x.f2.length c2) ∧ k59.K w0 x [.int .u32 x.f0, .slice A1 x.f1.length c1, .slice A2 x.f2.length c2] := by
  obtain ⟨ad, A1, c1, A2, c2, x, hA, hx, x0, x1, x2, l1, g1, l2, g2⟩ := hL.at hi
  exact ⟨ad, A1, c1, A2, c2, x, hA, hx, pw_cell_below hb x0, pw_cell_below hb x1, pw_cell_below hb x2, k59_mk w0 x l1 g1 l2 g2⟩
set_option maxHeartbeats 8000000 in
set_option maxRecDepth 100000 in
theorem order_calls (p : Where) (a : Ask) (l : List It) (k : Int) (w : World) (hL : Lies w p a l) (hm : 0 ≤ a.m ∧ a.m ≤ 255) :
    Calls Try.prog 12 #[.int .u8 a.m, p.vl l, p.vq a, p.vf a, .int .i64 k] w fun e w' => e = .returned (.bool true) ∧ Below w.heap.size w w' := by
  have hu := Try.underlying29
  have hu2 := Try.underlying49
  have hu3 := Try.underlying59
  obtain ⟨r, hfine, hg⟩ := rgreat_calls p a l w hL hm
  obtain ⟨A0, c0, B0, e0, F0, d0, F1, d1, F2, d2⟩ := p
  change Calls Try.prog _ #[.int .u8 a.m, .slice A0 l.length c0, .slice B0 a.q.length e0, .agg #[.slice F0 a.f0.length d0, .slice F1 a.f1.length d1, .slice F2 a.f2.length d2], .int .i64 k] w _
  have HG := Aside0.mk hg
  have HL := Aside0.mk hL
  have HFI := Aside0.mk hfine
  have HB0 := Aside0.mk (below_alloc (Below.refl w.heap.size w) (.cells #[.slice F0 a.f0.length d0, .slice F1 a.f1.length d1, .slice F2 a.f2.length d2] 49))
  have HF0 := Aside0.mk (fbox_new w ⟨A0, c0, B0, e0, F0, d0, F1, d1, F2, d2⟩ a)
  clear hg hL hfine hm
  cases r with
  | true => as_aux_lemma =>
    go_enter Try.func12, Try.ntmps12
    go_wp2_with (first | (go_at_call 35; (with_reducible refine (alive_calls _).mono ?_); rintro e w1 ⟨rfl, hb⟩; have HB1 := Aside0.mk (bel_trans HB0.out hb); have HF1 := Aside0.mk (HF0.out.below hb); have f0 := HF1.out.f0; have f1 := HF1.out.f1; have f2 := HF1.out.f2; clear hb) | (go_at_call 36; (with_reducible refine (HG.out _ HB1.out).mono ?_); rintro e w2 ⟨rfl, hb⟩; have HB2 := Aside0.mk (bel_trans HB1.out hb); clear hb f0 f1 f2))
    go_ret
    exact ⟨rfl, HB2.out⟩
  | false => as_aux_lemma =>
    have hF := HFI.out rfl
    have HF := Aside0.mk hF
    have HS := Aside0.mk (hits_small a hF)
    have HLN := Aside0.mk hF.n
    have hln := hF.n
    clear hF
    go_enter Try.func12, Try.ntmps12
    go_upto_if 25 with (first | (go_at_call 35; (with_reducible refine (alive_calls _).mono ?_); rintro e w1 ⟨rfl, hb⟩; have HB1 := Aside0.mk (bel_trans HB0.out hb); have HF1 := Aside0.mk (HF0.out.below hb); have f0 := HF1.out.f0; have f1 := HF1.out.f1; have f2 := HF1.out.f2; clear hb) | (go_at_call 36; (with_reducible refine (HG.out _ HB1.out).mono ?_); rintro e w2 ⟨rfl, hb⟩; have HB2 := Aside0.mk (bel_trans HB1.out hb); have HF2 := Aside0.mk (HF1.out.below hb); clear hb f0 f1 f2))
    go_cut [12] (fun v12 wc => ∃ n : Nat, v12 = .int .i64 n ∧ n ≤ l.length ∧ wc = w2)
    case first =>
      by_cases h0 : 0 < l.length
      · have q0 : decide ((0 : Int) < (l.length : Int)) = true := decide_eq_true (by omega)
        have q1 : (0 : Int) < (l.length : Int) := by omega
        go_wp2
        go_meet
        case rel =>
          obtain ⟨n, h1, h2⟩ := turn_at k h0 hln
          exact ⟨n, congrArg (Value.int .i64) h1, h2, rfl⟩
      · have q0 : decide ((0 : Int) < (l.length : Int)) = false := decide_eq_false (by omega)
        have q1 : decide (0 < l.length) = false := decide_eq_false (by omega)
        go_wp2
        go_meet
        case rel => exact ⟨0, rfl, by omega, rfl⟩
    case rest =>
      obtain ⟨n, rfl, hn, rfl⟩ := hcut
      have HN := Aside0.mk hn
      have hn3 : n ≤ 300 := by omega
      clear hn hln
      go_wp2
      go_loopg [11, 13] l.length (fun gk v11 v13 wr => ∃ (i : Nat), v13 = .int .i64 i ∧ Aside0 (n ≤ i ∧ i ≤ l.length ∧ l.length - i ≤ gk) ∧ Aside0 (OwnI wr (w.heap.size + 1) v11 ((l.drop n).take (i - n))) ∧ Aside0 (Below w.heap.size w wr) ∧ Aside0 (FBox wr w.heap.size ⟨A0, c0, B0, e0, F0, d0, F1, d1, F2, d2⟩ a))
      case atStart => exact ⟨n, rfl, ⟨Nat.le_refl _, HN.out, by omega⟩, ⟨by rw [Nat.sub_self, List.take_zero]; exact OwnI.nil _ _⟩, HB2, HF2⟩
      case round =>
        obtain ⟨i, rfl, HI, HV, HB, HFB⟩ := hrel
        by_cases hc : i < l.length
        · have q1 : decide ((i : Int) < (l.length : Int)) = true := decide_eq_true (by omega)
          have q2 : (i : Int) < (l.length : Int) := by omega
          obtain ⟨ad, A1, c1, A2, c2, x, hA, hx, x0, x1, x2, hk⟩ := own_item HL.out HB.out hc
          have hA' : A0 = some ad := hA
          subst hA'
          have hin : wrap64 ((i : Int) + 1) = ((i + 1 : Nat) : Int) := succ_wrap hc (by have := HLN.out; omega)
          have HX := Aside0.mk hx
          have HI2 := Aside0.mk hc
          have HK := Aside0.mk hk
          clear hx hc hk hA
          go_wp2_with (at_builtin; go_must (refine append_one rfl _ _ rfl (w.heap.size + 1) u11 ((l.drop n).take (i - n)) x _ _ _ rfl rfl HV.out (fr_old HK.out HB.out (fun k hk => Nat.le_of_succ_le (HV.out.base k hk))) (by rw [List.length_take, List.length_drop]; have := HLN.out; omega) HFB.out.lt ?_); intro v6 w6 hv hO; have HV6 := Aside0.mk hv; have HO6 := Aside0.mk hO; clear hv hO x0 x1 x2)
          obtain ⟨gk, rfl⟩ : ∃ m, gk = m + 1 := ⟨gk - 1, by have := HI.out; have := HI2.out; omega⟩
          have hb6 := HO6.out.below_of (bel_alloc HB.out (.cells #[.int .u32 x.f0, .slice A1 x.f1.length c1, .slice A2 x.f2.length c2] 59)) (fun k hk => Nat.le_of_succ_le (HV.out.base k hk))
          go_roundg gk
          case measure => omega
          case rel =>
            refine ⟨i + 1, congrArg (Value.int .i64) hin, ⟨by have := HI.out; have := HI2.out; omega⟩, ⟨?_⟩, ⟨hb6⟩, ⟨(HFB.out.below (below_alloc (Below.refl _ _) _)).only HO6.out (fun h => by have := HV.out.base _ h; omega)⟩⟩
            have hi := HI.out
            have e1 : i + 1 - n = (i - n) + 1 := by omega
            have e2 : (l.drop n)[i - n]? = some x := by rw [List.getElem?_drop, show n + (i - n) = i by omega]; exact HX.out
            obtain ⟨hi3, hx3⟩ := List.getElem?_eq_some_iff.1 e2
            rw [e1, List.take_succ_eq_append_getElem hi3, hx3]
            exact HV6.out
        · have q1 : decide ((i : Int) < (l.length : Int)) = false := decide_eq_false (by omega)
          have q2 : decide (i < l.length) = false := decide_eq_false hc
          have q3 : (i < l.length) = False := eq_false hc
          have ht : (l.drop n).take (i - n) = l.drop n := List.take_of_length_le (by rw [List.length_drop]; have := HI.out; omega)
          rw [ht] at HV
          clear hc ht
          go_wp2
          have HV0 := HV
          have HB0' := HB
          have HF0' := HFB
          obtain ⟨wo, hwo⟩ : ∃ wo : World, wo = wr := ⟨_, rfl⟩
          go_loopg [11, 14] n (fun gk v11 v14 wr => ∃ (m : Nat), v14 = .int .i64 (pred m) ∧ Aside0 (m ≤ n ∧ m ≤ gk) ∧ Aside0 (OwnI wr (w.heap.size + 1) v11 (l.drop n ++ ((l.take n).drop m).reverse)) ∧ Aside0 (Below w.heap.size w wr) ∧ Aside0 (FBox wr w.heap.size ⟨A0, c0, B0, e0, F0, d0, F1, d1, F2, d2⟩ a))
          case atStart => exact ⟨n, rfl, ⟨by omega, by omega⟩, ⟨by rw [back_start]; exact HV0.out⟩, HB0', HF0'⟩
          case round =>
            clear HV HB HFB HV0 HB0' HF0' hwo
            obtain ⟨m, rfl, HI', HV, HB, HFB⟩ := hrel
            cases m with
            | succ j =>
              have hj : j < l.length := by have := HI'.out; have := HN.out; omega
              have hp : pred (j + 1) = (j : Int) := by unfold pred; omega
              rw [hp]
              have q4 : (j : Int) < (l.length : Int) := by omega
              obtain ⟨ad, A1, c1, A2, c2, x, hA, hx, x0, x1, x2, hk⟩ := own_item HL.out HB.out hj
              have hA' : A0 = some ad := hA
              subst hA'
              have hin : (j : Int) - 1 = pred j := rfl
              have hj3 : j ≤ 300 := by have := HI'.out; omega
              have HX := Aside0.mk hx
              have HI2 := Aside0.mk hj
              have HK := Aside0.mk hk
              clear hx hj hk hA hp
              go_wp2_with (at_builtin; go_must (refine append_one rfl _ _ rfl (w.heap.size + 1) u11 (l.drop n ++ ((l.take n).drop (j + 1)).reverse) x _ _ _ rfl rfl HV.out (fr_old HK.out HB.out (fun k hk => Nat.le_of_succ_le (HV.out.base k hk))) (by rw [List.length_append, List.length_reverse, List.length_drop, List.length_drop, List.length_take]; have := HLN.out; omega) HFB.out.lt ?_); intro v6 w6 hv hO; have HV6 := Aside0.mk hv; have HO6 := Aside0.mk hO; clear hv hO x0 x1 x2)
              obtain ⟨gk, rfl⟩ : ∃ m, gk = m + 1 := ⟨gk - 1, by have := HI'.out; omega⟩
              have hb6 := HO6.out.below_of (bel_alloc HB.out (.cells #[.int .u32 x.f0, .slice A1 x.f1.length c1, .slice A2 x.f2.length c2] 59)) (fun k hk => Nat.le_of_succ_le (HV.out.base k hk))
              go_roundg gk
              case measure => omega
              case rel =>
                refine ⟨j, congrArg (Value.int .i64) hin, ⟨by have := HI'.out; omega⟩, ⟨?_⟩, ⟨hb6⟩, ⟨(HFB.out.below (below_alloc (Below.refl _ _) _)).only HO6.out (fun h => by have := HV.out.base _ h; omega)⟩⟩
                have hi := HI'.out
                have e2 : (l.take n)[j]? = some x := by rw [List.getElem?_take, if_pos (by omega)]; exact HX.out
                obtain ⟨hi3, hx3⟩ := List.getElem?_eq_some_iff.1 e2
                rw [List.drop_eq_getElem_cons hi3, List.reverse_cons, hx3, ← List.append_assoc]
                exact HV6.out
            | zero =>
              have hp : pred 0 = -1 := rfl
              rw [hp]
              have hV' : OwnI wr (w.heap.size + 1) u11 (turned l n) := by have := HV.out; rw [List.drop_zero] at this; exact this
              obtain ⟨mo, mc, rfl, hmc, hmC⟩ := hV'.C
              have HMC := Aside0.mk hmc
              have HMK := Aside0.mk hmC
              have f0 := HFB.out.f0
              have f1 := HFB.out.f1
              have f2 := HFB.out.f2
              clear hp hV' hmc hmC
              go_wp2_with (first | (go_at_call 38; (with_reducible refine (rank_alls (HL.out.below HB5.out) HF.out).mono ?_); rintro e w6 ⟨⟨A6, n6, c6, rfl, hle⟩, hb⟩; have hle2 : decide ((sortH (a.hits l)).length ≤ n6) = true := decide_eq_true (by rw [sortH_len]; exact hle); have HV56 := Aside0.mk (own_below HV5.out hb); have HV46 := Aside0.mk (own_below HV4'.out hb); have HB6 := Aside0.mk (bel_trans HB5.out hb); clear hb hle f0 f1 f2) | (go_at_call 38; (with_reducible refine (rank_of (HL.out.below (bel_trans HB.out HB4.out)) HMC.out (Kd.C_below HMK.out HB4.out) (turned_fine HF.out n)).mono ?_); rintro e w5 ⟨⟨v5, rfl, hv⟩, hb⟩; have HV5 := Aside0.mk hv; have HV4' := Aside0.mk (own_below HV4.out hb); have HB5 := Aside0.mk (bel_trans (bel_trans HB.out HB4.out) hb); have hf := (HFB.out.below HB4.out).below hb; clear f0 f1 f2; have f0 := hf.f0; have f1 := hf.f1; have f2 := hf.f2; clear hb hv hf) | (go_at_call 38; (with_reducible refine (rank_calls _ a l _ (HL.out.below HB.out) HF.out).mono ?_); rintro e w4 ⟨⟨v4, rfl, hv⟩, hb⟩; obtain ⟨a4, k4, rfl, _⟩ := hv.slice; have HV4 := Aside0.mk hv; have HB4 := Aside0.mk hb; have hf := HFB.out.below hb; clear f0 f1 f2; have f0 := hf.f0; have f1 := hf.f1; have f2 := hf.f2; clear hb hv hf) | (go_at_call 29; (with_reducible refine (rsame_own _ _ _ _ _ _ _ (sortH_congr (hits_perm a (turned_perm l n).symm)) HV46.out HV56.out (Nat.le_trans HS.out (by omega))).mono ?_); rintro e w7 ⟨rfl, hb⟩; have HB7 := Aside0.mk (bel_trans HB6.out hb); clear hb))
              go_ret
              exact ⟨rfl, HB7.out⟩
theorem order_row (m : Int) (hm : (Lit.int .u8 m).wf = true) (v1 : Value) (s1 : v1 = .slice none 0 0 ∨ ∃ a n c, v1 = .slice (some a) n c) (x1 : List (Int × List Int × List ByteArray)) {W : World} (K1 : (Kd.slice 59 kitem).K W x1 v1.cells.toList) (o1 : okItems x1)
    (v2 : Value) (s2 : v2 = .slice none 0 0 ∨ ∃ a n c, v2 = .slice (some a) n c) (x2 : List Int) (K2 : kvec.K W x2 v2.cells.toList) (o2 : okVec x2) (v3 : Value) (s3 : ∃ cs, v3 = .agg cs) (x3 : List ByteArray × List ByteArray × List ByteArray) (K3 : kfilter.K W x3 v3.cells.toList) (o3 : okFilter x3) (k : Int) (hk : (Lit.int .i64 k).wf = true) (_ : World) :
    Calls Try.prog 12 #[.int .u8 m, v1, v2, v3, .int .i64 k] W fun e w' => e = .returned (.bool true) ∧ Below W.heap.size W w' := by
  obtain ⟨p, rfl, rfl, rfl, hL⟩ := lies_of m s1 K1 s2 K2 s3 K3
  exact order_calls p ⟨m, x2, x3.1, x3.2.1, x3.2.2⟩ (x1.map ofI) k W hL (wf_u8 hm)
end Go.Proofs.Ytchiobhklbefjaa.Fl
