/- Flat: items that are the same answer so; the words for the copy that FlatOwn makes. No condition. -/
import Derived.Test.YtchiobhklbefjaaFlI
import Derived.Test.YtchiobhklbefjaaQx7
namespace Go.Proofs.Ytchiobhklbefjaa.Fl
open Go.RowKit Go.Proofs.YtchiobhklbefjaaW.PrintWords Go.Proofs.YtchiobhklbefjaaW.PrintLast Go.Proofs.YtchiobhklbefjaaW.PrintMore Go.Proofs.Ytchiobhklbefjaa.Tk Go.Proofs.Ytchiobhklbefjaa.Q
set_option linter.unusedVariables false
set_option linter.unusedSimpArgs false
/-! ### plain -/
theorem same1_l0 (l : List Int) (hl : l.length ≤ 1000000) : ∀ (m i : Nat), l.length - i < m → i ≤ l.length → lodestarref01_Same.l0 m l l (i : Int) = some true := by
  intro m
  induction m with
  | zero => intro i h0; omega
  | succ m ih =>
    intro i h0 hi
    simp only [lodestarref01_Same.l0]
    by_cases hc : i < l.length
    · have e1 : wrap64 ((i : Int) + 1) = ((i + 1 : Nat) : Int) := succ_wrap hc (by omega)
      rw [if_pos (by omega), if_pos (by omega), if_pos (by omega), if_pos (by first | rfl | trivial), e1]
      exact ih (i + 1) (by omega) (by omega)
    · rw [if_neg (by omega)]
theorem same1_f (l : List Int) (hl : l.length ≤ 1000000) {m : Nat} (hm : l.length < m) : lodestarref01_Same.f m l l = some true := by
  unfold lodestarref01_Same.f
  rw [if_pos rfl]
  exact same1_l0 l hl m 0 (by omega) (by omega)
theorem same3_l0 (l : List ByteArray) (hl : l.length ≤ 1000000) : ∀ (m i : Nat), l.length - i < m → i ≤ l.length → lodestarref03_Same.l0 m l l (i : Int) = some true := by
  intro m
  induction m with
  | zero => intro i h0; omega
  | succ m ih =>
    intro i h0 hi
    simp only [lodestarref03_Same.l0]
    by_cases hc : i < l.length
    · have e1 : wrap64 ((i : Int) + 1) = ((i + 1 : Nat) : Int) := succ_wrap hc (by omega)
      rw [if_pos (by omega), if_pos (by omega), if_pos (by omega), if_pos (by first | rfl | trivial), e1]
      exact ih (i + 1) (by omega) (by omega)
    · rw [if_neg (by omega)]
theorem same3_f (l : List ByteArray) (hl : l.length ≤ 1000000) {m : Nat} (hm : l.length < m) : lodestarref03_Same.f m l l = some true := by
  unfold lodestarref03_Same.f
  rw [if_pos rfl]
  exact same3_l0 l hl m 0 (by omega) (by omega)
theorem item_f (x : It) (h1 : x.f1.length ≤ 100000) (h2 : x.f2.length ≤ 100000) {m : Nat} (hm : 100000 < m) : lodestarref06_SameItem.f m x.f0 x.f1 x.f2 x.f0 x.f1 x.f2 = some true := by
  unfold lodestarref06_SameItem.f
  rw [if_pos rfl, same1_f _ (by omega) (by omega), same3_f _ (by omega) (by omega)]
  rfl
theorem items_l0 (l : List It) (hl : l.length ≤ 1000000) (hx : ∀ x ∈ l, x.f1.length ≤ 100000 ∧ x.f2.length ≤ 100000) : ∀ (m i : Nat), l.length - i + 100001 < m → i ≤ l.length → lodestarref06_SameItems.l0 m l l (i : Int) = some true := by
  intro m
  induction m with
  | zero => intro i h0; omega
  | succ m ih =>
    intro i h0 hi
    simp only [lodestarref06_SameItems.l0]
    by_cases hc : i < l.length
    · have e1 : wrap64 ((i : Int) + 1) = ((i + 1 : Nat) : Int) := succ_wrap hc (by omega)
      have hr : rd_T59 l (i : Int) = l[i] := by simp [rd_T59, List.getD_eq_getElem?_getD, hc]
      rw [if_pos (by omega), if_pos (by omega), if_pos (by omega), hr, item_f l[i] (hx _ (List.getElem_mem hc)).1 (hx _ (List.getElem_mem hc)).2 (by omega)]
      simp only [Option.bind_some, if_true, e1]
      exact ih (i + 1) (by omega) (by omega)
    · rw [if_neg (by omega)]
theorem items_f (l : List It) (hl : l.length ≤ 1000000) (hx : ∀ x ∈ l, x.f1.length ≤ 100000 ∧ x.f2.length ≤ 100000) : lodestarref06_SameItems.f (l.length + 100002) l l = some true := by
  unfold lodestarref06_SameItems.f
  rw [if_pos rfl]
  exact items_l0 l hl hx _ 0 (by omega) (by omega)
/-- SameItems at a list and a row of the same items. -/
theorem items_calls {A B : Option Addr} {c d n : Nat} {l M : List It} {w : World} (hM : M = l) (hn : n = M.length) (h1 : Kd.C k59 w A l.length l) (hc : l.length ≤ c) (h2 : Kd.C k59 w B n M) (hd : n ≤ d) (hl : l.length ≤ 300) (hx : ∀ x ∈ l, x.f1.length ≤ 100000 ∧ x.f2.length ≤ 100000) :
    Calls Try.prog 44 #[.slice A l.length c, .slice B n d] w fun e w' => e = .returned (.bool true) ∧ Below w.heap.size w w' := by
  subst hM hn
  exact lodestarref06_SameItems.calls _ A c M B d M true w h1 hc h2 hd (items_f M (by omega) hx)
/-! ### in memory -/
/-- An empty list that was just made. -/
theorem R_empty {α : Type} (d : Kd α) (e : Nat) (w : World) (base : Nat) (hb : base ≤ w.heap.size) : d.R e (w.alloc (.cells #[] e)) base (fun _ => True) (.slice (some ⟨w.heap.size, 0, none⟩) 0 0) [] :=
  ⟨fun _ _ => trivial, [], ⟨by simp, .inr ⟨w.heap.size, 0, #[], rfl, hb, heap_alloc_new w _, Nat.le_refl _, by unfold maxLen; omega, by simp, by simp⟩⟩, by simp, fun j x h => by simp at h⟩
/-- What lies from base on, told of whatever else becomes. -/
theorem R_stays {α : Type} {d : Kd α} {e base : Nat} {ok : Nat → Prop} {v u : Value} {xs : List α} {w W : World} (h : d.R e w base ok v xs) (hO : Only (fun k => u.ownBlock = some k) w W) (hu : ∀ k, u.ownBlock = some k → k < base) : d.R e W base (fun k => ok k ∧ base ≤ k ∧ k < w.heap.size ∧ ∃ q, q ∈ e :: d.E ∧ ∃ cells, w.heap[k]? = some (.cells cells q (0, 0))) v xs :=
  Kd.R_step (Kd.R_bound h) (fun k hk hlt => hO.block k hlt (fun e => by have := hu k e; have := hk.2.1; omega))
/-- An item whose lists the function has made itself. -/
theorem fr_new {w : World} {v : Value} {x : It} {base c1 c2 : Nat} {A1 A2 : Option Addr} {ok1 ok2 : Nat → Prop} (h1 : (Kd.int .i32).R 21 w base ok1 (.slice A1 x.f1.length c1) x.f1) (h2 : Kd.string.R 9 w base ok2 (.slice A2 x.f2.length c2) x.f2) (hv : ∀ k, v.ownBlock = some k → k < base) :
    Fr w v x [.int .u32 x.f0, .slice A1 x.f1.length c1, .slice A2 x.f2.length c2] := by
  intro W hW
  have r1 := Kd.R_reads' (R_stays h1 hW hv)
  have r2 := Kd.R_reads' (R_stays h2 hW hv)
  exact k59_mk W x r1.2.1 r1.2.2 r2.2.1 r2.2.2
end Go.Proofs.Ytchiobhklbefjaa.Fl
