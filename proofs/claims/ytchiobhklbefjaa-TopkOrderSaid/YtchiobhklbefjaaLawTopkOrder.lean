/- TopkOrder, as the row asks. No condition. -/
import Derived.Test.YtchiobhklbefjaaTkI
namespace Go.Proofs.Ytchiobhklbefjaa.Tk
open Go.RowKit Go.Proofs.YtchiobhklbefjaaW.PrintWords Go.Proofs.YtchiobhklbefjaaW.PrintLast Go.Proofs.YtchiobhklbefjaaW.PrintMore Go.Proofs.Ytchiobhklbefjaa.Q
attribute [local go_sem] max2_M min2_M max_two min_two
set_option linter.unusedVariables false
set_option linter.unusedSimpArgs false
set_option maxHeartbeats 8000000 in
set_option maxRecDepth 100000 in
theorem order_any (k l : Int) (ao : Option Addr) (ca : Nat) (A : List H) (w : World) (hr : ReadsH w ao ca A) (hA : A.length ≤ maxLen) :
    Calls Try.prog 4 #[.int .i64 k, .int .i64 l, .slice ao A.length ca] w fun e w' => e = .returned (.bool true) ∧ Below w.heap.size w w' := by
  by_cases h1 : k < 0
  · have d1 : decide (k < 0) = true := decide_eq_true h1
    clear h1 hr hA
    go_enter Try.func4, Try.ntmps4
    go_wp2_with ((go_at_call 23; (with_reducible refine (alive_calls _).mono ?_); rintro e w1 ⟨rfl, hb⟩; have HB1 := Aside0.mk hb; clear hb))
    all_goals
      go_ret
      exact ⟨rfl, HB1.out⟩
  have d1 : decide (k < 0) = false := decide_eq_false h1
  by_cases h2 : 256 < k
  · have d2 : decide (256 < k) = true := decide_eq_true h2
    clear h1 h2 hr hA
    go_enter Try.func4, Try.ntmps4
    go_wp2_with ((go_at_call 23; (with_reducible refine (alive_calls _).mono ?_); rintro e w1 ⟨rfl, hb⟩; have HB1 := Aside0.mk hb; clear hb))
    all_goals
      go_ret
      exact ⟨rfl, HB1.out⟩
  have d2 : decide (256 < k) = false := decide_eq_false h2
  by_cases h3 : l < 0
  · have d3 : decide (l < 0) = true := decide_eq_true h3
    clear h1 h2 h3 hr hA
    go_enter Try.func4, Try.ntmps4
    go_wp2_with ((go_at_call 23; (with_reducible refine (alive_calls _).mono ?_); rintro e w1 ⟨rfl, hb⟩; have HB1 := Aside0.mk hb; clear hb))
    all_goals
      go_ret
      exact ⟨rfl, HB1.out⟩
  have d3 : decide (l < 0) = false := decide_eq_false h3
  by_cases h4 : k < l
  · have d4 : decide (k < l) = true := decide_eq_true h4
    clear h1 h2 h3 h4 hr hA
    go_enter Try.func4, Try.ntmps4
    go_wp2_with ((go_at_call 23; (with_reducible refine (alive_calls _).mono ?_); rintro e w1 ⟨rfl, hb⟩; have HB1 := Aside0.mk hb; clear hb))
    all_goals
      go_ret
      exact ⟨rfl, HB1.out⟩
  obtain ⟨kn, rfl⟩ : ∃ m : Nat, k = m := ⟨k.toNat, by omega⟩
  obtain ⟨ln, rfl⟩ : ∃ m : Nat, l = m := ⟨l.toNat, by omega⟩
  exact order_walk kn ln (by omega) (by omega) ao ca A w hr hA
theorem order_row (k : Int) (hk : (Lit.int .i64 k).wf = true) (l : Int) (hl : (Lit.int .i64 l).wf = true) (v0 : Value) (s0 : v0 = .slice none 0 0 ∨ ∃ a n c, v0 = .slice (some a) n c) (x0 : List (Int × Int)) {W : World} (K0 : (Kd.slice 29 kp).K W x0 v0.cells.toList) (o0 : okHits x0) (_ : World) :
    Calls Try.prog 4 #[.int .i64 k, .int .i64 l, v0] W fun e w' => e = .returned (.bool true) ∧ Below W.heap.size W w' := by
  obtain ⟨ao, ca, rfl, hr⟩ := hits_of s0 K0
  exact order_any k l ao ca _ W hr (hits_len o0)
end Go.Proofs.Ytchiobhklbefjaa.Tk
