/- Pipe: Cut. No condition. -/
import Derived.Test.YtjbakaplcjkniaaPi6
namespace Go.Proofs.Ytjbakaplcjkniaa.Pi
open Go.RowKit Go.Proofs.YtjbakaplcjkniaaW.PrintWords Go.Proofs.YtjbakaplcjkniaaW.PrintLast Go.Proofs.YtjbakaplcjkniaaW.PrintMore
variable {X : Nat → Prop}
set_option linter.unusedVariables false
set_option linter.unusedSimpArgs false
attribute [local go_sem] max2_M min2_M max_two min_two
set_option maxHeartbeats 4000000 in
set_option maxRecDepth 100000 in
theorem cut_calls (base g : Nat) (room : Int) (v : Value) (L : Pcs) (cut : Bool) (w : World) (hP : Pipe X w base g room v L cut) (ht : total L ≤ 1000000000000) (hn : L.length ≤ 1000000) :
    Calls Try.prog 20 #[.pointer (some ⟨g, 0, none⟩)] w fun e w' => e = .returned (.int .i64 (total L : Int)) ∧ Pipe X w' base g room (.slice none 0 0) [] true ∧ Only (Sv v g) w w' := by
  have hu2 := Try.underlying90
  obtain ⟨ao, cap, rfl, hread⟩ := hP.row.reads
  have HP := Aside0.mk hP
  have HRD := Aside0.mk hread
  have HT := Aside0.mk ht
  have HN := Aside0.mk (show L.length ≤ 1000000000 by omega)
  clear hP hread ht hn
  go_enter Try.func20, Try.ntmps20
  go_wp2_with (go_at_call 17; (with_reducible refine (len_calls g room ao cap L _ _ HP.out.box HRD.out HT.out HN.out).mono ?_); rintro e w1 ⟨rfl, hb⟩; have HP1 := Aside0.mk (HP.out.below hb); have HB := Aside0.mk hb; have y1 := HP1.out.y1; have y2 := HP1.out.y2; have fz : ∀ j, w1.frozen? ⟨g, j, none⟩ = false := (fun j => blk_frozen HP1.out.box j); have fz2 : ∀ j u i, (w1.setCell ⟨g, j, none⟩ u).frozen? ⟨g, i, none⟩ = false := (fun j u i => blk_frozen (blk_set HP1.out.box j u) i); clear hb)
  go_ret
  refine ⟨rfl, ⟨?_, OwnP.nil _ _ _, HP1.out.gb, by simp [Value.ownBlock]⟩, ?_⟩
  · exact blk_put (blk_put HP1.out.box 1 _ rfl) 2 _ rfl
  · exact ((Only.of_below HB.out).set _ _ (.inr rfl)).set _ _ (.inr rfl)
end Go.Proofs.Ytjbakaplcjkniaa.Pi
