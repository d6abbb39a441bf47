/- FlatPages: pages that are asked one behind the other, of whatever sizes, are together all hits, each once, in order, where no two items have one Id. No condition. -/
import Derived.Test.YtchiobhklbefjaaFlH
import Derived.Laws.AppendOwnNone
namespace Go.Proofs.Ytchiobhklbefjaa.Fl
open Go.RowKit Go.Proofs.YtchiobhklbefjaaW.PrintWords Go.Proofs.YtchiobhklbefjaaW.PrintLast Go.Proofs.YtchiobhklbefjaaW.PrintMore Go.Proofs.Ytchiobhklbefjaa.Tk Go.Proofs.Ytchiobhklbefjaa.Q
set_option linter.unusedVariables false
set_option linter.unusedSimpArgs false
/-! ### plain -/
/-- No two of the first i items have one Id. -/
def Apart (l : List It) (i : Nat) : Prop := ∀ a b x y, a < b → b < i → l[a]? = some x → l[b]? = some y → x.f0 ≠ y.f0
theorem apart_pair {l : List It} (h : Apart l l.length) : l.Pairwise (fun x y => x.f0 ≠ y.f0) := by
  rw [List.pairwise_iff_getElem]
  intro i j hi hj hij
  exact h i j _ _ hij hj (List.getElem?_eq_getElem hi) (List.getElem?_eq_getElem hj)
theorem hits_apart (a : Ask) {l : List It} (h : Apart l l.length) : (a.hits l).Pairwise (fun x y => x.f1 ≠ y.f1) := by
  unfold Ask.hits
  rw [List.pairwise_map]
  exact List.Pairwise.sublist List.filter_sublist (apart_pair h)
theorem sort_strict {A : List H} (h : A.Pairwise (fun x y => x.f1 ≠ y.f1)) : (sortH A).Pairwise (fun x y => ltH x y = true) := by
  have h2 : (sortH A).Pairwise (fun x y => x.f1 ≠ y.f1) := (List.Perm.pairwise_iff (fun {x y} hxy => hxy.symm) (sortH_perm A)).2 h
  refine List.Pairwise.imp₂ (fun x y hle hne => ?_) (sortH_sorted A) h2
  rw [leH_iff] at hle
  rw [ltH_iff]
  omega
theorem filter_behind {S : List H} (h : S.Pairwise (fun x y => ltH x y = true)) (s : Nat) (hs : 0 < s) (hl : s ≤ S.length) : S.filter (ltH (worstH (S.take s))) = S.drop s := by
  have hw : worstH (S.take s) = S[s - 1]'(by omega) := by
    unfold worstH
    rw [List.getLastD_eq_getLast?, List.getLast?_eq_getElem?, List.length_take, List.getElem?_take, if_pos (by omega), show min s S.length - 1 = s - 1 by omega, List.getElem?_eq_getElem (by omega)]
    rfl
  rw [hw]
  generalize hp : S[s - 1]'(by omega) = p
  have hsplit : S = S.take s ++ S.drop s := (List.take_append_drop s S).symm
  have e1 : (S.take s).filter (ltH p) = [] := by
    rw [List.filter_eq_nil_iff]
    intro x hx
    obtain ⟨i, hi, rfl⟩ := List.getElem_of_mem hx
    rw [List.length_take] at hi
    rw [List.getElem_take]
    rcases Nat.lt_or_ge i (s - 1) with hlt | hge
    · have := List.pairwise_iff_getElem.1 h i (s - 1) (by omega) (by omega) hlt
      rw [hp, ltH_iff] at this
      intro hh
      rw [ltH_iff] at hh
      omega
    · have : i = s - 1 := by omega
      subst this
      rw [hp, ltH_irrefl]
      simp
  have e2 : (S.drop s).filter (ltH p) = S.drop s := by
    rw [List.filter_eq_self]
    intro x hx
    obtain ⟨i, hi, rfl⟩ := List.getElem_of_mem hx
    rw [List.length_drop] at hi
    rw [List.getElem_drop]
    have := List.pairwise_iff_getElem.1 h (s - 1) (s + i) (by omega) (by omega) (by omega)
    rw [hp] at this
    exact this
  calc S.filter (ltH p) = (S.take s ++ S.drop s).filter (ltH p) := by rw [← hsplit]
    _ = S.drop s := by rw [List.filter_append, e1, e2, List.nil_append]
theorem clamp_nat {k : Nat} (h : k ≤ 9) : clamp (k : Int) = k := by unfold clamp; omega
/-- A first page. -/
theorem page_first (A : List H) {k : Nat} (h : k ≤ 9) : putAll (clamp (k : Int)) A = (sortH A).take k := by rw [putAll_least, leastH, clamp_nat h]
/-- A page behind s hits. -/
theorem page_behind {A : List H} (hA : A.Pairwise (fun x y => x.f1 ≠ y.f1)) {k s : Nat} (h : k ≤ 9) (hs : 0 < s) (hl : s ≤ (sortH A).length) : putAll (clamp (k : Int)) (A.filter (ltH (worstH ((sortH A).take s)))) = ((sortH A).drop s).take k := by
  rw [page_first _ h, sort_filter, filter_behind (sort_strict hA) s hs hl]
theorem pages_on (S : List H) (s k : Nat) (hs : s ≤ S.length) : S.take s ++ (S.drop s).take k = S.take (min (s + k) S.length) := by
  rw [← List.take_add]
  rcases Nat.le_total (s + k) S.length with h | h
  · rw [Nat.min_eq_left h]
  · rw [Nat.min_eq_right h, List.take_of_length_le h, List.take_length]
/-! ### the walk -/
theorem append_H {ops : Array Oper} {rest : List Oper} {o : Oper} {a : Act} {w : World} {Q : Exit → Act → World → Prop} (hgd : o.guard = none) (s x : Operand)
    (ho : o.op = .call { callee := .builtin .append, args := #[s, x], argTypes := #[22, 22] }) (base : Nat) (v : Value) (A B : List H) (ao : Option Addr) (n cap : Nat)
    (hs : a.eval s = v) (hx : a.eval x = .slice ao n cap) (hn : n = B.length) (hv : OwnH w base v A) (hr : ReadsH w ao cap B) (hl : A.length + B.length ≤ 1000000) (hb : base ≤ w.heap.size)
    (h : ∀ v' w', OwnH w' base v' (A ++ B) → Only (fun i => v.ownBlock = some i) w w' → wpList Try.prog ops Q rest (a.put o.dst v') w') : wpList Try.prog ops Q (o :: rest) a w := by
  subst hn
  obtain ⟨i0, hi, hz, hsz, hby⟩ := info_hit2
  have hu2 := Try.underlying22
  rcases hr.2 with ⟨rfl, rfl, rfl⟩ | ⟨ad, rfl, h2⟩
  · refine wpList_append_own_none hgd s x _ ho base _ i0 2 hu2 hi v A.length (cellsOf A) hs hv hx ?_
    exact h v w (by rw [List.append_nil]; exact hv) (Only.refl _ _)
  · refine wpList_append_own _ hgd s x _ ho base _ i0 _ 2 16 hu2 hi hz hsz hby rfl (by omega) v A.length (cellsOf A) hs hv ad B.length cap (cellsOf B) hx (cellsOf_len B) h2 cells_one (by unfold maxLen; omega) (by omega) hb ?_
    intro v' w' hown hg hne
    exact h v' w' (by unfold OwnH; rw [cellsOf_append, List.length_append]; exact hown) (Only.of_grown hg (fun k hk => hk))
theorem int_at {k : IntKind} {w : World} {A : Option Addr} {xs : List Int} (h : Kd.C (Kd.int k) w A xs.length xs) {i : Nat} (hi : i < xs.length) : ∃ ad x, A = some ad ∧ xs[i]? = some x ∧ w.cell? (ad.add i) = some (.int k x) := by
  obtain ⟨ad, e, hc⟩ := h.2.2 (by omega)
  obtain ⟨cs, h1, h2, h3⟩ := hc i _ (List.getElem?_eq_getElem hi)
  have h2' : cs = [.int k xs[i]] := h2
  subst h2'
  have := h3 0 _ rfl
  have e2 : i * (Kd.int k).sz + 0 = i := by show i * 1 + 0 = i; omega
  rw [e2] at this
  exact ⟨ad, xs[i], e, List.getElem?_eq_getElem hi, this⟩
/-- The Id of an item at a place. -/
theorem Lies.id {w : World} {p : Where} {a : Ask} {l : List It} (h : Lies w p a l) {i : Nat} (hi : i < l.length) : ∃ ad x, p.A1 = some ad ∧ l[i]? = some x ∧ w.cell? (ad.add (i * 3)) = some (.int .u32 x.f0) := by
  obtain ⟨ad, A1, c1, A2, c2, x, hA, hx, x0, _⟩ := h.at hi
  exact ⟨ad, x, hA, hx, x0⟩
theorem read_of {w : World} {b n c : Nat} {a : Option Addr} {A : List H} (h : OwnH w b (.slice a n c) A) : ReadsH w a c A := by
  obtain ⟨ao, cap, e, hr⟩ := h.reads
  cases e
  exact hr
theorem apart_more {l : List It} {i : Nat} (h : Apart l i) (hn : ∀ b x y, b < i → l[b]? = some x → l[i]? = some y → y.f0 ≠ x.f0) : Apart l (i + 1) := by
  intro a b x y hab hb hx hy
  rcases Nat.lt_or_ge b i with hlt | hge
  · exact h a b x y hab hlt hx hy
  · have : b = i := by omega
    subst this
    exact fun e => hn a x y hab hx hy e.symm
set_option maxHeartbeats 16000000 in
set_option maxRecDepth 100000 in
theorem pages_calls (p : Where) (a : Ask) (l : List It) (A4 : Option Addr) (c4 : Nat) (sz : List Int) (w : World) (hL : Lies w p a l) (hm : 0 ≤ a.m ∧ a.m ≤ 255) (h4 : Kd.C (Kd.int .u8) w A4 sz.length sz) (hz : ∀ x ∈ sz, 0 ≤ x ∧ x ≤ 255) :
    Calls Try.prog 11 #[.int .u8 a.m, p.vl l, p.vq a, p.vf a, .slice A4 sz.length c4] w fun e w' => e = .returned (.bool true) ∧ Below w.heap.size w w' := by
  have hu := Try.underlying29
  have hu2 := Try.underlying49
  have hu3 := Try.underlying59
  obtain ⟨r, hfine, hg⟩ := rgreat_calls p a l w hL hm
  obtain ⟨A0, c0, B0, e0, F0, d0, F1, d1, F2, d2⟩ := p
  change Calls Try.prog _ #[.int .u8 a.m, .slice A0 l.length c0, .slice B0 a.q.length e0, .agg #[.slice F0 a.f0.length d0, .slice F1 a.f1.length d1, .slice F2 a.f2.length d2], .slice A4 sz.length c4] w _
  have HG := Aside0.mk hg
  have HL := Aside0.mk hL
  have HFI := Aside0.mk hfine
  have H4 := Aside0.mk h4
  have HZ := Aside0.mk hz
  have HB0 := Aside0.mk (below_alloc (Below.refl w.heap.size w) (.cells #[.slice F0 a.f0.length d0, .slice F1 a.f1.length d1, .slice F2 a.f2.length d2] 49))
  have HF0 := Aside0.mk (fbox_new w ⟨A0, c0, B0, e0, F0, d0, F1, d1, F2, d2⟩ a)
  clear hg hL hfine hm h4 hz
  cases r with
  | true => as_aux_lemma =>
    go_enter Try.func11, Try.ntmps11
    go_wp2_with (first | (go_at_call 35; (with_reducible refine (alive_calls _).mono ?_); rintro e w1 ⟨rfl, hb⟩; have HB1 := Aside0.mk (bel_trans HB0.out hb); have HF1 := Aside0.mk (HF0.out.below hb); have f0 := HF1.out.f0; have f1 := HF1.out.f1; have f2 := HF1.out.f2; clear hb) | (go_at_call 36; (with_reducible refine (HG.out _ HB1.out).mono ?_); rintro e w2 ⟨rfl, hb⟩; have HB2 := Aside0.mk (bel_trans HB1.out hb); clear hb f0 f1 f2))
    go_ret
    exact ⟨rfl, HB2.out⟩
  | false => as_aux_lemma =>
    have hF := HFI.out rfl
    have HF := Aside0.mk hF
    have HS := Aside0.mk (hits_small a hF)
    have HLN := Aside0.mk hF.n
    clear hF
    go_enter Try.func11, Try.ntmps11
    go_wp2_with (first | (go_at_call 35; (with_reducible refine (alive_calls _).mono ?_); rintro e w1 ⟨rfl, hb⟩; have HB1 := Aside0.mk (bel_trans HB0.out hb); have HF1 := Aside0.mk (HF0.out.below hb); have f0 := HF1.out.f0; have f1 := HF1.out.f1; have f2 := HF1.out.f2; clear hb) | (go_at_call 36; (with_reducible refine (HG.out _ HB1.out).mono ?_); rintro e w2 ⟨rfl, hb⟩; have HB2 := Aside0.mk (bel_trans HB1.out hb); have HF2 := Aside0.mk (HF1.out.below hb); clear hb f0 f1 f2))
    go_loopg [11, 12] l.length (fun gk v11 v12 wr => ∃ (i : Nat), v11 = .int .i64 i ∧ Aside0 (i ≤ l.length ∧ l.length - i ≤ gk) ∧ Aside0 (Apart l i) ∧ Aside0 (Below w.heap.size w wr) ∧ Aside0 (FBox wr w.heap.size ⟨A0, c0, B0, e0, F0, d0, F1, d1, F2, d2⟩ a))
    case atStart => exact ⟨0, rfl, ⟨by omega, by omega⟩, ⟨fun a b x y _ h => by omega⟩, HB2, HF2⟩
    case round =>
      obtain ⟨i, rfl, HI, HAP, HB, HFB⟩ := hrel
      by_cases hc : i < l.length
      · have q1 : decide ((i : Int) < (l.length : Int)) = true := decide_eq_true (by omega)
        have q2 : (i : Int) < (l.length : Int) := by omega
        have hin : wrap64 ((i : Int) + 1) = ((i + 1 : Nat) : Int) := succ_wrap hc (by have := HLN.out; omega)
        obtain ⟨ad, x, hA, hx, x0⟩ := HL.out.id hc
        have hA' : A0 = some ad := hA
        subst hA'
        have HX := Aside0.mk hx
        have HX0 := Aside0.mk x0
        have HC := Aside0.mk hc
        clear hx hc hA x0
        obtain ⟨gko, rfl⟩ : ∃ m, gk = m + 1 := ⟨gk - 1, by have := HI.out; have := HC.out; omega⟩
        go_wp2
        have HBo := HB
        have HFo := HFB
        go_loopg [12] i (fun gk v12 wr => ∃ (j : Nat), v12 = .int .i64 j ∧ Aside0 (j ≤ i ∧ i - j ≤ gk) ∧ Aside0 (∀ b x y, b < j → l[b]? = some x → l[i]? = some y → y.f0 ≠ x.f0) ∧ Aside0 (Below w.heap.size w wr) ∧ Aside0 (FBox wr w.heap.size ⟨some ad, c0, B0, e0, F0, d0, F1, d1, F2, d2⟩ a))
        case atStart => exact ⟨0, rfl, ⟨by omega, by omega⟩, ⟨fun b x y h => by omega⟩, HBo, HFo⟩
        case round =>
          clear HB HFB HBo HFo
          obtain ⟨j, rfl, HJ, HNE, HB, HFB⟩ := hrel
          by_cases hj : j < i
          · have q3 : decide ((j : Int) < (i : Int)) = true := decide_eq_true (by omega)
            have q3' : decide (j < i) = true := decide_eq_true hj
            have q4 : (j : Int) < (l.length : Int) := by omega
            have hjn : wrap64 ((j : Int) + 1) = ((j + 1 : Nat) : Int) := succ_wrap hj (by have := HLN.out; have := HC.out; omega)
            obtain ⟨ad', y, hA, hy, y0⟩ := HL.out.id (show j < l.length by have := HC.out; omega)
            obtain rfl : ad = ad' := Option.some.inj hA
            have HY := Aside0.mk hy
            have HJ2 := Aside0.mk hj
            have x0 := pw_cell_below HB.out HX0.out
            replace y0 := pw_cell_below HB.out y0
            clear hy hj hA
            by_cases he : x.f0 = y.f0
            · have e1 : (x.f0 == y.f0) = true := beq_iff_eq.2 he
              clear he
              go_wp2_with fail
              go_quiet (fail)
              go_wp2
              go_ret
              exact ⟨rfl, pw_below_drewN HB.out _⟩
            · have e1 : (x.f0 == y.f0) = false := beq_eq_false_iff_ne.2 he
              have HE := Aside0.mk he
              clear he
              go_wp2_with fail
              go_quiet (fail)
              go_wp2
              obtain ⟨gk, rfl⟩ : ∃ m, gk = m + 1 := ⟨gk - 1, by have := HJ.out; have := HJ2.out; omega⟩
              go_roundg gk
              case measure => omega
              case rel =>
                refine ⟨j + 1, congrArg (Value.int .i64) hjn, ⟨by have := HJ.out; have := HJ2.out; omega⟩, ⟨fun b u v hb hu hv => ?_⟩, ⟨pw_below_drewN HB.out _⟩, ⟨HFB.out.below (pw_below_drewN (Below.refl _ _) _)⟩⟩
                rcases Nat.lt_or_ge b j with hlt | hge
                · exact HNE.out b u v hlt hu hv
                · have hbj : b = j := by omega
                  subst hbj
                  have h1 := HX.out
                  have h2 := HY.out
                  rw [hu] at h2
                  rw [hv] at h1
                  cases h1
                  cases h2
                  exact HE.out
          · have q3 : decide ((j : Int) < (i : Int)) = false := decide_eq_false (by omega)
            have q3' : decide (j < i) = false := decide_eq_false hj
            have q3'' : (j < i) = False := eq_false hj
            have HJ2 := Aside0.mk (show j = i by have := HJ.out; omega)
            clear hj
            go_wp2
            go_roundg gko
            case measure => omega
            case rel => exact ⟨i + 1, congrArg (Value.int .i64) hin, ⟨by have := HI.out; have := HC.out; omega⟩, ⟨apart_more HAP.out (fun b x y hb => HNE.out b x y (by rw [HJ2.out]; exact hb))⟩, HB, HFB⟩
      · have q1 : decide ((i : Int) < (l.length : Int)) = false := decide_eq_false (by omega)
        have q2 : decide (i < l.length) = false := decide_eq_false hc
        have q3 : (i < l.length) = False := eq_false hc
        have hil : i = l.length := by have := HI.out; omega
        rw [hil] at HAP
        have HPW := Aside0.mk (hits_apart a HAP.out)
        have f0 := HFB.out.f0
        have f1 := HFB.out.f1
        have f2 := HFB.out.f2
        clear hc hil HAP
        obtain ⟨S, hS⟩ : ∃ S, sortH (a.hits l) = S := ⟨_, rfl⟩
        obtain ⟨N, hN⟩ : ∃ N, S.length = N := ⟨_, rfl⟩
        have HSN := Aside0.mk hN
        have HSE := Aside0.mk hS
        have hN3 : N ≤ 300 := by have := HS.out; rw [hS, hN] at this; exact this
        clear hS hN
        go_wp2_with ((go_at_call 38; (with_reducible refine (rank_calls _ a l _ (HL.out.below HB.out) HF.out).mono ?_); rintro e w4 ⟨⟨v4, rfl, hv⟩, hb⟩; rw [HSE.out] at hv; obtain ⟨a4, k4, rfl, _⟩ := hv.slice; rw [HSN.out] at hv ⊢; have HV4 := Aside0.mk (hv.weaken (Nat.zero_le _)); have HVL := Aside0.mk (own_lt hv); have HB4 := Aside0.mk (bel_trans HB.out hb); have HF4 := Aside0.mk (HFB.out.below hb); clear hb hv f0 f1 f2))
        go_loopg [14, 15, 16, 17] (N + 1) (fun gk v14 v15 v16 v17 wr => ∃ (i s cap : Nat) (ao : Option Addr), v15 = .int .i64 i ∧ v14 = .slice ao s cap ∧ Aside0 (i ≤ N + 1 ∧ N + 1 - i ≤ gk ∧ s ≤ N ∧ min i N ≤ s) ∧ Aside0 (w4.heap.size ≤ wr.heap.size) ∧ Aside0 (OwnH wr w4.heap.size (.slice ao s cap) (S.take s)) ∧ Aside0 (OwnH wr 0 (.slice a4 N k4) S) ∧ Aside0 (Below w.heap.size w wr) ∧ Aside0 (FBox wr w.heap.size ⟨A0, c0, B0, e0, F0, d0, F1, d1, F2, d2⟩ a))
        case atStart => exact ⟨0, 0, 0, none, rfl, rfl, ⟨by omega, by omega, by omega, by omega⟩, ⟨Nat.le_refl _⟩, ⟨own_nil _ _ _ _⟩, HV4, HB4, HF4⟩
        case round =>
          clear HB HFB
          obtain ⟨i, s, cap, ao, rfl, rfl, HI, HWS, HV, HV4', HB, HFB⟩ := hrel
          by_cases hc : i ≤ N
          · have q1 : decide (i ≤ N) = true := decide_eq_true hc
            have q2 : decide ((i : Int) < 400) = true := decide_eq_true (by omega)
            have q3 : (i : Int) < 400 := by omega
            have hin : (i : Int) + 1 = ((i + 1 : Nat) : Int) := by omega
            have HIN := Aside0.mk hin
            clear hin
            have HI2 := Aside0.mk hc
            have hi3 : i ≤ 300 := by omega
            clear hc
            go_upto_if 63 with (fail)
            go_cut [16] (fun v16 wc => ∃ k : Nat, v16 = .int .i64 k ∧ 1 ≤ k ∧ k ≤ 9 ∧ wc = wr)
            case first =>
              by_cases hz : i < sz.length
              · have p1 : decide ((i : Int) < (sz.length : Int)) = true := decide_eq_true (by omega)
                have p1' : decide (i < sz.length) = true := decide_eq_true hz
                have p2 : (i : Int) < (sz.length : Int) := by omega
                obtain ⟨ad, x, hA, hx, x0⟩ := int_at H4.out hz
                subst hA
                have hxx := HZ.out x (List.mem_of_getElem? hx)
                have hx0 : 0 ≤ x := hxx.1
                have hx1 : x ≤ 255 := hxx.2
                replace x0 := pw_cell_below HB.out x0
                clear hx hz hxx
                go_wp2
                go_meet
                case rel => exact ⟨(1 + x % 9).toNat, congrArg (Value.int .i64) (by omega), by omega, by omega, rfl⟩
              · have p1 : decide ((i : Int) < (sz.length : Int)) = false := decide_eq_false (by omega)
                have p1' : decide (i < sz.length) = false := decide_eq_false hz
                have p1'' : (i < sz.length) = False := eq_false hz
                have HZ2 := Aside0.mk hz
                clear hz
                go_wp2
                · exact absurd (by assumption) HZ2.out
                go_meet
                case rel => exact ⟨1, rfl, by omega, by omega, rfl⟩
            case rest =>
              obtain ⟨k, rfl, hk1, hk9, rfl⟩ := hcut
              have HK := Aside0.mk (show 1 ≤ k ∧ k ≤ 9 from ⟨hk1, hk9⟩)
              have f0 := HFB.out.f0
              have f1 := HFB.out.f1
              have f2 := HFB.out.f2
              have HSL := Aside0.mk (show s ≤ S.length by have := HI.out; rw [HSN.out]; omega)
              have HSK := Aside0.mk (show ∀ z, (S.take (min z N)).length = min z N by intro z; rw [List.length_take, HSN.out]; omega)
              obtain ⟨m5, hm5⟩ : ∃ m, ((S.drop s).take k).length = m := ⟨_, rfl⟩
              have hm5k : m5 ≤ k := by rw [← hm5, List.length_take]; omega
              have HM5 := Aside0.mk (show ((S.drop s).take k).length = m5 ∧ m5 ≤ 9 from ⟨hm5, by omega⟩)
              have u1 : decide (k < m5) = false := decide_eq_false (by omega)
              have u2 : (k < m5) = False := eq_false (by omega)
              have hs3 : s ≤ 300 := by have := HI.out; omega
              clear hm5 hk1 hk9 hm5k
              obtain ⟨gk, rfl⟩ : ∃ m, gk = m + 1 := ⟨gk - 1, by have := HI.out; have := HI2.out; omega⟩
              by_cases hs : s = 0
              · subst hs
                go_wp2_with (first | (go_at_call 39; (with_reducible refine (search_calls _ a l k _ (HL.out.below HB.out) HF.out).mono ?_); rintro e w5 ⟨⟨v5, rfl, hv⟩, hb⟩; rw [page_first _ HK.out.2, HSE.out, ← List.drop_zero (l := S)] at hv; obtain ⟨a5, c5, rfl, _⟩ := hv.slice; have HR5 := Aside0.mk (read_of hv); rw [HM5.out.1] at hv ⊢; have HV5' := Aside0.mk (own_below HV.out hb); have HV45 := Aside0.mk (own_below HV4'.out hb); have HB5 := Aside0.mk (bel_trans HB.out hb); have HF5 := Aside0.mk (HFB.out.below hb); have HWS5 := Aside0.mk (Nat.le_trans HWS.out hb.size); clear hb hv f0 f1 f2) | (at_builtin; go_must (refine append_H rfl _ _ rfl w4.heap.size _ (S.take 0) ((S.drop 0).take k) a5 m5 c5 rfl rfl HM5.out.1.symm HV5'.out HR5.out (by rw [List.length_take, HM5.out.1]; have := HM5.out.2; omega) HWS5.out ?_); intro v6 w6 hv hO; rw [pages_on S 0 k HSL.out, HSN.out, Nat.zero_add] at hv; obtain ⟨a6, k6, rfl, _⟩ := hv.slice; rw [HSK.out] at hv ⊢; have HV6 := Aside0.mk hv; have HO6 := Aside0.mk hO; clear hv hO))
                go_roundg gk
                case measure => omega
                case rel =>
                  have hown : ∀ j, (Value.slice ao 0 cap).ownBlock = some j → w.heap.size ≤ j := fun j hj => Nat.le_trans HB4.out.size (own_base HV.out j hj)
                  have HF4s := HF4.out.lt
                  exact ⟨i + 1, min k N, k6, a6, congrArg (Value.int .i64) HIN.out, rfl, ⟨by have := HI.out; have := HK.out; have := HI2.out; omega⟩, ⟨Nat.le_trans HWS5.out HO6.out.size⟩, HV6, ⟨HV45.out.only HO6.out (fun j hj e => by have h1 := own_base HV.out j hj; have h2 := HVL.out j e; omega)⟩, ⟨HO6.out.below_of HB5.out hown⟩, ⟨HF5.out.only HO6.out (fun h => by have h1 := own_base HV.out _ h; omega)⟩⟩
              · have hs0 : 0 < s := by omega
                obtain ⟨mm, hmm⟩ : ∃ m, s - 1 = m := ⟨_, rfl⟩
                have hwr : IntKind.i64.wrap ((s : Int) - 1) = (mm : Int) := by rw [IntWalk.i64_in _ (by omega)]; omega
                have hm1 : (mm : Int) < (s : Int) := by omega
                have hm0 : (0 : Int) ≤ (mm : Int) := by omega
                have ez : ((s : Int) == 0) = false := by simp; omega
                have ez' : (s == 0) = false := by simp; omega
                obtain ⟨r, hr, hrl, z0, z1⟩ := HV.out.last (by rw [List.length_take, HSN.out]; have := HI.out; omega) hs0
                subst hr
                rw [hmm] at z0 z1
                have HL0 := Aside0.mk hs0
                have HMM := Aside0.mk hmm
                obtain ⟨last, hlast⟩ : ∃ last, worstH (S.take s) = last := ⟨_, rfl⟩
                rw [hlast] at z0 z1
                have HPG := Aside0.mk (show putAll (clamp (k : Int)) ((a.hits l).filter (ltH last)) = (S.drop s).take k by rw [← hlast]; have h := page_behind (A := a.hits l) HPW.out HK.out.2 hs0 (by rw [HSE.out]; exact HSL.out); rw [HSE.out] at h; exact h)
                clear hs0 hs hmm hlast
                have HBR := Aside0.mk HB.out
                go_wp2_with fail
                go_still_tail 11, (by kernel_rfl)
                change wpList _ _ _ _ _ wc.drew
                have HD := Aside0.mk (below_drew (Below.refl wc.heap.size wc))
                generalize wc.drew = w3 at HD
                clear f0 f1 f2 z0 z1
                go_wp2_with (first | (go_at_call 40; (with_reducible refine (after_calls _ a l last k _ (HL.out.below (bel_trans HB.out HD.out)) HF.out).mono ?_); rintro e w5 ⟨⟨v5, rfl, hv⟩, hb⟩; rw [HPG.out] at hv; obtain ⟨a5, c5, rfl, _⟩ := hv.slice; have HR5 := Aside0.mk (read_of hv); rw [HM5.out.1] at hv ⊢; have hb5 := bel_trans HD.out hb; have HV5' := Aside0.mk (own_below HV.out hb5); have HV45 := Aside0.mk (own_below HV4'.out hb5); have HB5 := Aside0.mk (bel_trans HB.out hb5); have HF5 := Aside0.mk (HFB.out.below hb5); have HWS5 := Aside0.mk (Nat.le_trans HWS.out hb5.size); clear hb hv hb5) | (at_builtin; go_must (refine append_H rfl _ _ rfl w4.heap.size _ (S.take s) ((S.drop s).take k) a5 m5 c5 rfl rfl HM5.out.1.symm HV5'.out HR5.out (by rw [List.length_take, HM5.out.1]; have := HM5.out.2; omega) HWS5.out ?_); intro v6 w6 hv hO; rw [pages_on S s k HSL.out, HSN.out] at hv; obtain ⟨a6, k6, rfl, _⟩ := hv.slice; rw [HSK.out] at hv ⊢; have HV6 := Aside0.mk hv; have HO6 := Aside0.mk hO; clear hv hO))
                go_roundg gk
                case measure => omega
                case rel =>
                  have hown : ∀ j, (Value.slice (some ⟨r, 0, none⟩) s cap).ownBlock = some j → w.heap.size ≤ j := fun j hj => Nat.le_trans HB4.out.size (own_base HV.out j hj)
                  have HF4s := HF4.out.lt
                  exact ⟨i + 1, min (s + k) N, k6, a6, congrArg (Value.int .i64) HIN.out, rfl, ⟨by have := HI.out; have := HK.out; have := HI2.out; omega⟩, ⟨Nat.le_trans HWS5.out HO6.out.size⟩, HV6, ⟨HV45.out.only HO6.out (fun j hj e => by have h1 := own_base HV.out j hj; have h2 := HVL.out j e; omega)⟩, ⟨HO6.out.below_of HB5.out hown⟩, ⟨HF5.out.only HO6.out (fun h => by have h1 := own_base HV.out _ h; omega)⟩⟩
          · have q1 : decide (i ≤ N) = false := decide_eq_false hc
            have q1' : (i ≤ N) = False := eq_false hc
            have hsN : s = N := by have := HI.out; omega
            have HSF := Aside0.mk (show S.take s = S by rw [List.take_of_length_le]; rw [HSN.out]; omega)
            have HNN := Aside0.mk hN3
            clear hc hsN
            go_wp2_with ((go_at_call 29; (with_reducible refine (rsame_own _ _ _ _ _ _ _ HSF.out HV.out HV4'.out (by rw [List.length_take]; have := HSN.out; have := HNN.out; omega)).mono ?_); rintro e w6 ⟨rfl, hb⟩; have HB6 := Aside0.mk (bel_trans HB.out hb); clear hb))
            go_ret
            exact ⟨rfl, HB6.out⟩
theorem opens_sizes : Frame.Opens Try.prog 57 (Kd.slice 5 (Kd.int .u8)) (fun l => l.length ≤ maxLen ∧ ∀ x ∈ l, (Lit.int .u8 x).wf = true) := Frame.Opens.slice Try.underlying57 cells_u8 (Frame.Opens.int Try.underlying5)
theorem pages_row (m : Int) (hm : (Lit.int .u8 m).wf = true) (v1 : Value) (s1 : v1 = .slice none 0 0 ∨ ∃ a n c, v1 = .slice (some a) n c) (x1 : List (Int × List Int × List ByteArray)) {W : World} (K1 : (Kd.slice 59 kitem).K W x1 v1.cells.toList) (o1 : okItems x1)
    (v2 : Value) (s2 : v2 = .slice none 0 0 ∨ ∃ a n c, v2 = .slice (some a) n c) (x2 : List Int) (K2 : kvec.K W x2 v2.cells.toList) (o2 : okVec x2) (v3 : Value) (s3 : ∃ cs, v3 = .agg cs) (x3 : List ByteArray × List ByteArray × List ByteArray) (K3 : kfilter.K W x3 v3.cells.toList) (o3 : okFilter x3)
    (v4 : Value) (s4 : v4 = .slice none 0 0 ∨ ∃ a n c, v4 = .slice (some a) n c) (x4 : List Int) (K4 : (Kd.slice 5 (Kd.int .u8)).K W x4 v4.cells.toList) (o4 : x4.length ≤ maxLen ∧ ∀ x ∈ x4, (Lit.int .u8 x).wf = true) (_ : World) :
    Calls Try.prog 11 #[.int .u8 m, v1, v2, v3, v4] W fun e w' => e = .returned (.bool true) ∧ Below W.heap.size W w' := by
  obtain ⟨p, rfl, rfl, rfl, hL⟩ := lies_of m s1 K1 s2 K2 s3 K3
  obtain ⟨A4, c4, rfl, _, h4⟩ := slice_of s4 K4
  exact pages_calls p ⟨m, x2, x3.1, x3.2.1, x3.2.2⟩ (x1.map ofI) A4 c4 x4 W hL (wf_u8 hm) h4 (fun x hx => wf_u8 (o4.2 x hx))
end Go.Proofs.Ytchiobhklbefjaa.Fl
