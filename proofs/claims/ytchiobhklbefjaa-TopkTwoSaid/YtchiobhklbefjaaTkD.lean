/- TopkMerges: the least of two lists are the document's. No condition. -/
import Derived.Test.YtchiobhklbefjaaTkC
import Derived.Test.YtchiobhklbefjaaFrame
import Derived.Laws.AppendOwnNone
namespace Go.Proofs.Ytchiobhklbefjaa.Tk
open Go.RowKit Go.Proofs.YtchiobhklbefjaaW.PrintWords Go.Proofs.YtchiobhklbefjaaW.PrintLast Go.Proofs.YtchiobhklbefjaaW.PrintMore Go.Proofs.Ytchiobhklbefjaa.Q
attribute [local go_sem] max2_int min2_int max_two min_two
set_option linter.unusedVariables false
set_option linter.unusedSimpArgs false
theorem append_H {ops : Array Oper} {rest : List Oper} {o : Oper} {a : Act} {w : World} {Q : Exit → Act → World → Prop} (hgd : o.guard = none) (s x : Operand)
    (ho : o.op = .call { callee := .builtin .append, args := #[s, x], argTypes := #[22, 22] }) (base : Nat) (v : Value) (A B : List H) (ao : Option Addr) (n cap : Nat)
    (hs : a.eval s = v) (hx : a.eval x = .slice ao n cap) (hn : n = B.length) (hv : OwnH w base v A) (hr : ReadsH w ao cap B) (hl : A.length + B.length ≤ 1000000) (hb : base ≤ w.heap.size)
    (h : ∀ v' w', OwnH w' base v' (A ++ B) → Only (fun i => v.ownBlock = some i) w w' → wpList Try.prog ops Q rest (a.put o.dst v') w') : wpList Try.prog ops Q (o :: rest) a w := by
  subst hn
  obtain ⟨i0, hi, hz, hsz, hby⟩ := info_hit2
  have hu2 := Try.underlying22
  rcases hr.2 with ⟨rfl, rfl, rfl⟩ | ⟨ad, rfl, h2⟩
  · refine wpList_append_own_none hgd s x _ ho base _ i0 2 hu2 hi v A.length (cellsOf A) hs hv hx ?_
    exact h v w (by rw [List.append_nil]; exact hv) (Only.refl _ _)
  · refine wpList_append_own _ hgd s x _ ho base _ i0 _ 2 16 hu2 hi hz hsz hby rfl (by omega) v A.length (cellsOf A) hs hv ad B.length cap (cellsOf B) hx (cellsOf_len B) h2 cells_one (by unfold maxLen; omega) (by omega) hb ?_
    intro v' w' hown hg hne
    exact h v' w' (by unfold OwnH; rw [cellsOf_append, List.length_append]; exact hown) (Only.of_grown hg (fun k hk => hk))
theorem own_lit0 (w : World) : OwnH (w.alloc (.cells #[] 29)) w.heap.size (.slice (some ⟨w.heap.size, 0, none⟩) 0 0) [] := own_lit w [] 0 rfl (by omega)
theorem merge_same (A B : List H) (k : Int) : mergeH A B k = (sortH ([] ++ A ++ B)).take k.toNat := merge_least A B k
theorem merge_le (A B : List H) (k : Int) : (mergeH A B k).length ≤ (A ++ B).length := by unfold mergeH; rw [List.length_take, sortH_len]; omega
set_option maxHeartbeats 8000000 in
set_option maxRecDepth 100000 in
theorem merges_calls (ao : Option Addr) (ca : Nat) (A : List H) (bo : Option Addr) (cb : Nat) (B : List H) (k : Int) (w : World) (hr : ReadsH w ao ca A) (hr2 : ReadsH w bo cb B) (hl : A.length ≤ maxLen) (hl2 : B.length ≤ maxLen) :
    Calls Try.prog 8 #[.slice ao A.length ca, .slice bo B.length cb, .int .i64 k] w fun e w' => e = .returned (.bool true) ∧ Below w.heap.size w w' := by
  have HA := Aside0.mk hr
  have HB := Aside0.mk hr2
  clear hr hr2
  by_cases hg : A.length ≤ 200 ∧ B.length ≤ 200
  · have g1 : decide (200 < (A.length : Int)) = false := decide_eq_false (by omega)
    have g2 : decide (200 < (B.length : Int)) = false := decide_eq_false (by omega)
    have HG := Aside0.mk hg
    clear hl hl2 hg
    go_enter Try.func8, Try.ntmps8
    go_wp2_with (first | (go_at_call 23; (with_reducible refine (alive_calls _).mono ?_); rintro e w1 ⟨rfl, hb⟩; have HB1 := Aside0.mk hb; clear hb) | (at_builtin; refine append_H rfl _ _ rfl w1.heap.size _ A B bo _ cb rfl rfl rfl HV2.out (HB.out.below HBw2.out) (by have := HG.out; omega) HBv2.out ?_; intro v3 w3 hv hO; have HV3 := Aside0.mk hv; have HB3 := Aside0.mk (hO.below_of HBw2.out (fun i hi => by have := own_base HV2.out i hi; have := HB1.out.size; omega)); clear hv hO) | (at_builtin; refine append_H rfl _ _ rfl w1.heap.size _ [] A ao _ ca rfl rfl rfl (own_lit0 w1) (HA.out.below (bel_alloc HB1.out _)) (by have := HG.out; show 0 + A.length ≤ 1000000; omega) (below_alloc (Below.refl w1.heap.size w1) _).size ?_; intro v2 w2 hv hO; have HV2 := Aside0.mk hv; have HBw2 := Aside0.mk (hO.below_of (bel_alloc HB1.out _) (fun i hi => by cases hi; exact HB1.out.size)); have HBv2 := Aside0.mk (Nat.le_trans (below_alloc (Below.refl w1.heap.size w1) _).size hO.size); clear hv hO) | (go_at_call 32; (with_reducible refine (rsort_own _ _ _ _ HV3.out (by have := HG.out; simp; omega)).mono ?_); rintro e w4 ⟨⟨v4, rfl, hv⟩, hb⟩; have HV4 := Aside0.mk hv; have HB4 := Aside0.mk (bel_trans HB3.out hb); clear hv hb) | (go_at_call 34; (with_reducible refine (merge_calls ao ca A bo cb B k _ (by have := HG.out; omega) (by have := HG.out; omega) (HA.out.below HB4.out) (HB.out.below HB4.out)).mono ?_); rintro e w5 ⟨⟨v5, rfl, hv⟩, hb⟩; have HV5 := Aside0.mk hv; have HV4' := Aside0.mk (HV4.out.below hb); have HB5 := Aside0.mk (bel_trans HB4.out hb); clear hv hb) | (go_at_call 26; (with_reducible refine (rfirst_own _ _ _ _ _ HV4'.out (by have := HG.out; rw [sortH_len]; simp; omega)).mono ?_); rintro e w6 ⟨⟨v6, rfl, hv⟩, hb⟩; have HV6 := Aside0.mk hv; have HV5' := Aside0.mk (HV5.out.below hb); have HB6 := Aside0.mk (bel_trans HB5.out hb); clear hv hb) | (go_at_call 29; (with_reducible refine (rsame_own _ _ _ _ _ _ _ (merge_same A B k) HV5'.out HV6.out (by have := HG.out; refine Nat.le_trans (merge_le A B k) ?_; simp; omega)).mono ?_); rintro e w7 ⟨rfl, hb⟩; have HB7 := Aside0.mk (bel_trans HB6.out hb); clear hb))
    go_ret
    exact ⟨rfl, HB7.out⟩
  by_cases hA : 200 < A.length
  · have g1 : decide (200 < (A.length : Int)) = true := decide_eq_true (by omega)
    clear hg hA
    clear hl hl2
    go_enter Try.func8, Try.ntmps8
    go_wp2_with ((go_at_call 23; (with_reducible refine (alive_calls _).mono ?_); rintro e w1 ⟨rfl, hb⟩; have HB1 := Aside0.mk hb; clear hb))
    go_ret
    exact ⟨rfl, HB1.out⟩
  · have g1 : decide (200 < (A.length : Int)) = false := decide_eq_false (by omega)
    have g2 : decide (200 < (B.length : Int)) = true := decide_eq_true (by omega)
    clear hg hA
    clear hl hl2
    go_enter Try.func8, Try.ntmps8
    go_wp2_with ((go_at_call 23; (with_reducible refine (alive_calls _).mono ?_); rintro e w1 ⟨rfl, hb⟩; have HB1 := Aside0.mk hb; clear hb))
    go_ret
    exact ⟨rfl, HB1.out⟩
end Go.Proofs.Ytchiobhklbefjaa.Tk
