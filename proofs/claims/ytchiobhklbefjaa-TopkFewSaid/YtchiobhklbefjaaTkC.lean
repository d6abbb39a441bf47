/- Topk: the laws' own example. No condition. -/
import Derived.Test.YtchiobhklbefjaaTkB
import Derived.BigRegion
namespace Go.Proofs.Ytchiobhklbefjaa.Tk
open Go.RowKit Go.Proofs.YtchiobhklbefjaaW.PrintWords Go.Proofs.YtchiobhklbefjaaW.PrintLast Go.Proofs.YtchiobhklbefjaaW.PrintMore Go.Proofs.Ytchiobhklbefjaa.Q
attribute [local go_sem] max2_int min2_int max_two min_two
set_option linter.unusedVariables false
set_option linter.unusedSimpArgs false
theorem alive_list : putK 2 (putK 2 (putK 2 [] ⟨5, 1⟩) ⟨3, 2⟩) ⟨3, 1⟩ = [(⟨3, 1⟩ : H), ⟨3, 2⟩] := by rfl
theorem clamp2 : clamp 2 = 2 := by decide
theorem alive_new (w : World) :
    Calls Try.prog 24 #[.int .i64 2] w fun e w' => e = .returned (.pointer (some ⟨w.heap.size, 0, none⟩)) ∧ Below w.heap.size w w' ∧ Kept w' (fresh w w') w.heap.size 2 [] := by
  have := knew_calls 2 w
  rwa [clamp2] at this
theorem alive_worst (S : Nat → Prop) (g : Nat) (w : World) (hB : Kept w S g 2 (putK 2 (putK 2 (putK 2 [] ⟨5, 1⟩) ⟨3, 2⟩) ⟨3, 1⟩)) :
    Calls Try.prog 31 #[.pointer (some ⟨g, 0, none⟩)] w fun e w' => e = .returned (.tuple #[.agg #[.int .i64 3, .int .u32 2], .bool true]) ∧ Below w.heap.size w w' := by
  rw [alive_list] at hB
  exact kworst_calls S g 2 _ w hB
theorem alive_len (S : Nat → Prop) (g : Nat) (w : World) (hB : Kept w S g 2 (putK 2 (putK 2 (putK 2 [] ⟨5, 1⟩) ⟨3, 2⟩) ⟨3, 1⟩)) :
    Calls Try.prog 28 #[.pointer (some ⟨g, 0, none⟩)] w fun e w' => e = .returned (.int .i64 2) ∧ w' = w := by
  rw [alive_list] at hB
  exact klen_calls S g 2 _ w hB
theorem alive_told (S : Nat → Prop) (g : Nat) (w : World) (hB : Kept w S g 2 (putK 2 (putK 2 (putK 2 [] ⟨5, 1⟩) ⟨3, 2⟩) ⟨3, 1⟩)) :
    Calls Try.prog 30 #[.pointer (some ⟨g, 0, none⟩)] w fun e w' => (∃ v, e = .returned v ∧ OwnH w' w.heap.size v [⟨3, 1⟩, ⟨3, 2⟩]) ∧ Below w.heap.size w w' := by
  rw [alive_list] at hB
  exact klist_calls S g 2 _ w hB
theorem alive_lit (w : World) : OwnH (w.alloc (.cells #[.int .i64 3, .int .u32 1, .int .i64 3, .int .u32 2] 29)) w.heap.size (.slice (some ⟨w.heap.size, 0, none⟩) 2 2) [⟨3, 1⟩, ⟨3, 2⟩] := own_lit w [⟨3, 1⟩, ⟨3, 2⟩] 2 rfl (by omega)
set_option maxHeartbeats 8000000 in
set_option maxRecDepth 100000 in
theorem alive_calls (w : World) : Calls Try.prog 23 #[] w fun e w' => e = .returned (.bool true) ∧ Below w.heap.size w w' := by
  have hu := Try.underlying29
  go_enter Try.func23, Try.ntmps23
  go_wp2_with (first | (go_at_call 24; (with_reducible refine (alive_new _).mono ?_); rintro e w1 ⟨rfl, hb, hK⟩; have HB1 := Aside0.mk hb; have HK1 := Aside0.mk hK; clear hb hK) | (go_at_call 25; (with_reducible refine (kput_calls _ _ _ _ _ _ _ HK3.out).mono ?_); rintro e w4 ⟨rfl, hO, hK⟩; have HO4 := Aside0.mk hO; have HK4 := Aside0.mk hK; clear hO hK) | (go_at_call 25; (with_reducible refine (kput_calls _ _ _ _ _ _ _ HK2.out).mono ?_); rintro e w3 ⟨rfl, hO, hK⟩; have HO3 := Aside0.mk hO; have HK3 := Aside0.mk hK; clear hO hK) | (go_at_call 25; (with_reducible refine (kput_calls _ _ _ _ _ _ _ HK1.out).mono ?_); rintro e w2 ⟨rfl, hO, hK⟩; have HO2 := Aside0.mk hO; have HK2 := Aside0.mk hK; clear hO hK) | (go_at_call 31; (with_reducible refine (alive_worst _ _ _ HK4.out).mono ?_); rintro e w5 ⟨rfl, hb⟩; have HK5 := Aside0.mk (HK4.out.below hb); have HB5 := Aside0.mk hb; clear hb) | (go_at_call 28; (with_reducible refine (alive_len _ _ _ (HK5.out.below (below_alloc (Below.refl _ _) _))).mono ?_); rintro e w6 ⟨rfl, rfl⟩) | (go_at_call 30; (with_reducible refine (alive_told _ _ _ (HK5.out.below (below_alloc (Below.refl _ _) _))).mono ?_); rintro e w6 ⟨⟨v, rfl, hv⟩, hb⟩; have HV6 := Aside0.mk hv; have HB6 := Aside0.mk hb; clear hv hb) | (go_at_call 29; (with_reducible refine (rsame_own _ _ _ _ [⟨3, 1⟩, ⟨3, 2⟩] [⟨3, 1⟩, ⟨3, 2⟩] _ rfl (HV6.out.below (below_alloc (Below.refl _ _) _)) (alive_lit w6) (by simp)).mono ?_); rintro e w7 ⟨rfl, hb⟩; have HB7 := Aside0.mk hb; clear hb))
  go_ret
  refine ⟨rfl, ?_⟩
  have b2 := HO2.out.below_of HB1.out fresh_new
  have b3 := HO3.out.below_of b2 (ext_new fresh_new HB1.out.size)
  have b4 := HO4.out.below_of b3 (ext_new (ext_new fresh_new HB1.out.size) b2.size)
  exact bel_trans (bel_alloc (bel_trans (bel_alloc (bel_trans b4 HB5.out) _) HB6.out) _) HB7.out
end Go.Proofs.Ytchiobhklbefjaa.Tk
