/- Pipe: a copy of bytes; a pipe of the function's own. No condition. -/
import Derived.Test.YtjbakaplcjkniaaPi2
import Derived.Laws.AppendOwnNone
import Derived.WalkSpells
import Derived.Laws.StructEq
namespace Go.Proofs.Ytjbakaplcjkniaa.Pi
open Go.RowKit Go.Proofs.YtjbakaplcjkniaaW.PrintWords Go.Proofs.YtjbakaplcjkniaaW.PrintLast Go.Proofs.YtjbakaplcjkniaaW.PrintMore
set_option linter.unusedVariables false
set_option linter.unusedSimpArgs false
attribute [local go_sem] max2_M min2_M max_two min_two
/-- An empty list that was just made. -/
theorem R_empty {α : Type} (d : Kd α) (e : Nat) (w : World) (base : Nat) (hb : base ≤ w.heap.size) : d.R e (w.alloc (.cells #[] e)) base (fun _ => True) (.slice (some ⟨w.heap.size, 0, none⟩) 0 0) [] :=
  ⟨fun _ _ => trivial, [], ⟨by simp, .inr ⟨w.heap.size, 0, #[], rfl, hb, heap_alloc_new w _, Nat.le_refl _, by unfold maxLen; omega, by simp, by simp⟩⟩, by simp, fun j x h => by simp at h⟩
set_option maxRecDepth 100000 in
theorem clone_calls (ad : Addr) (n cap : Nat) (B : List Int) (w : World) (hn : B.length = n) (hC : Kd.C (Kd.int .u8) w (some ad) n B) (hl : n ≤ 1000000) :
    Calls Try.prog 40 #[.slice (some ad) n cap] w fun e w' => (∃ v, e = .returned v ∧ (Kd.int .u8).R 5 w' w.heap.size (fun _ => True) v B) ∧ Below w.heap.size w w' := by
  have HC := Aside0.mk hC
  have HN := Aside0.mk hn
  clear hC hn
  have q22 : ∀ (w : World) (a : Option Addr) (n c n' c' : Nat), (binOp .eql 26 (.slice a n c) (.slice none n' c')).run Try.prog w = .ok (.bool a.isNone) w := fun w a n c n' c' => Lib.run_eql_slice_nil w _ _ a n c n' c' Try.underlying26
  go_enter Try.func40, Try.ntmps40
  go_wp2_with (at_builtin; go_must (refine Kd.R_append_rows (Kd.int .u8) w.heap.size rfl (.tmp 5) (.tmp 6) 26 5 (.int .u8 0) 1 rfl Try.underlying26 (by kernel_rfl) (by rfl) (by decide) (by decide) _ [] B (some ad) n cap (fun _ => True) (fun _ => False) rfl rfl (R_empty (Kd.int .u8) 5 w w.heap.size (Nat.le_refl _)) (Kd.C_below HC.out (below_alloc (Below.refl _ _) _)) (fun _ _ h => h) (fun k hk => hk.elim) (fun _ _ => trivial) (below_alloc (Below.refl _ _) _) (by rw [World.size_alloc]; omega) (by show (0 + n) * 1 ≤ _; omega) ?_); intro v1 w1 h1 hb hg hat; rw [List.nil_append] at h1; have H1 := Aside0.mk h1; have HB := Aside0.mk hb; clear h1 hb hg hat)
  go_ret
  exact ⟨⟨_, rfl, H1.out⟩, HB.out⟩
end Go.Proofs.Ytjbakaplcjkniaa.Pi
