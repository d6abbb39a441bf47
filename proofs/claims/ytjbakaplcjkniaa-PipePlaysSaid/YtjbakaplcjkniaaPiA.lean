/- Pipe: a pipe of a law's own, as its laws call it. No condition. -/
import Derived.Test.YtjbakaplcjkniaaPi9
namespace Go.Proofs.Ytjbakaplcjkniaa.Pi
open Go.RowKit Go.Proofs.YtjbakaplcjkniaaW.PrintWords Go.Proofs.YtjbakaplcjkniaaW.PrintLast Go.Proofs.YtjbakaplcjkniaaW.PrintMore
variable {X : Nat → Prop}
set_option linter.unusedVariables false
set_option linter.unusedSimpArgs false
theorem full_len {L : Pcs} (h : Full L) : L.length ≤ total L := by
  induction L with
  | nil => simp
  | cons x L ih => have h1 := ih h.tail; have h2 := h.head; rw [total_cons, List.length_cons]; omega
/-- How many bytes go in. -/
def putN (cut : Bool) (room : Int) (L : Pcs) (n : Nat) : Nat := if cut = true then 0 else min n (room - total L).toNat
/-- What a put leaves. -/
def putL (cut : Bool) (room : Int) (L : Pcs) (B : List Int) (d : Int) : Pcs := if putN cut room L B.length = 0 then L else putP L (B.take (putN cut room L B.length)) d
theorem putN_le (cut : Bool) (room : Int) (L : Pcs) (n : Nat) : putN cut room L n ≤ n := by unfold putN; split <;> omega
theorem putL_bytes (cut : Bool) (room : Int) (L : Pcs) (B : List Int) (d : Int) : bytes (putL cut room L B d) = bytes L ++ B.take (putN cut room L B.length) := by
  unfold putL
  split
  · rename_i h; rw [h]; simp
  · rw [put_bytes]
theorem putL_total (cut : Bool) (room : Int) (L : Pcs) (B : List Int) (d : Int) : total (putL cut room L B d) = total L + putN cut room L B.length := by
  unfold total
  rw [putL_bytes, List.length_append, List.length_take]
  have := putN_le cut room L B.length
  omega
theorem putL_full {cut : Bool} {room : Int} {L : Pcs} {B : List Int} {d : Int} (h : Full L) : Full (putL cut room L B d) := by
  unfold putL
  split
  · exact h
  · exact put_full h (by have := putN_le cut room L B.length; rw [List.length_take]; omega)
/-- Blocks of a pipe's types. -/
def PT (w : World) (k : Nat) : Prop := ∃ cells, w.heap[k]? = some (.cells cells 92 (0, 0)) ∨ w.heap[k]? = some (.cells cells 90 (0, 0))
theorem Pipe.types {w : World} {base g : Nat} {room : Int} {v : Value} {L : Pcs} {cut : Bool} (h : Pipe X w base g room v L cut) : ∀ k, Sv v g k → PT w k := by
  intro k hk
  rcases hk with hk | rfl
  · obtain ⟨inner, h1, _⟩ := h.row
    obtain ⟨cells, hc⟩ := own_typed h1 k hk
    exact ⟨cells, .inl hc⟩
  · exact ⟨_, .inr h.box⟩
/-- Rows of other types stay. -/
theorem R_only {α : Type} {d : Kd α} {e : Nat} {w w1 : World} {base : Nat} {ok : Nat → Prop} {v : Value} {xs : List α} (h : d.R e w base ok v xs) (hO : Only (PT w) w w1) (ht : ∀ q, q ∈ e :: d.E → q ≠ 92 ∧ q ≠ 90) : d.R e w1 base ok v xs := by
  refine Kd.R_mono (Kd.R_step (Kd.R_bound h) (fun k hk hlt => hO.block k hlt (fun hp => ?_))) (fun k hk => hk.1)
  obtain ⟨_, _, _, q, hq, cells, hc⟩ := hk
  obtain ⟨cells', hp | hp⟩ := hp
  · rw [hc] at hp; injection hp with hp; injection hp with _ hp; exact (ht q hq).1 hp
  · rw [hc] at hp; injection hp with hp; injection hp with _ hp; exact (ht q hq).2 hp
theorem Q_only {α : Type} {d : Kd α} {e : Nat} {w w1 : World} {base : Nat} {ok : Nat → Prop} {v : Value} {xs : List α} (h : d.Q e w base ok v xs) (hO : Only (PT w) w w1) (ht : ∀ q, q ∈ e :: d.E → q ≠ 92 ∧ q ≠ 90) : d.Q e w1 base ok v xs := by
  refine Kd.Q_mono (Kd.Q_step (Kd.Q_bound h) (fun k hk hlt => hO.block k hlt (fun hp => ?_))) (fun k hk => hk.1)
  obtain ⟨_, _, _, q, hq, cells, hc⟩ := hk
  obtain ⟨cells', hp | hp⟩ := hp
  · rw [hc] at hp; injection hp with hp; injection hp with _ hp; exact (ht q hq).1 hp
  · rw [hc] at hp; injection hp with hp; injection hp with _ hp; exact (ht q hq).2 hp
theorem blk_only {w w1 : World} {b t : Nat} {cells : Array Value} (h : w.heap[b]? = some (.cells cells t (0, 0))) (hO : Only (PT w) w w1) (ht : t ≠ 92 ∧ t ≠ 90) : w1.heap[b]? = some (.cells cells t (0, 0)) := by
  refine (hO.block b (blk_lt h) (fun hp => ?_)).trans h
  obtain ⟨cells', hp | hp⟩ := hp
  · rw [h] at hp; injection hp with hp; injection hp with _ hp; exact ht.1 hp
  · rw [h] at hp; injection hp with hp; injection hp with _ hp; exact ht.2 hp
/-- A pipe of a law's own. -/
def PS (X : Nat → Prop) (w0 w : World) (g : Nat) (room : Int) (L : Pcs) (cut : Bool) : Prop :=
  ∃ v, Pipe X w w0.heap.size g room v L cut ∧ Below w0.heap.size w0 w ∧ Full L ∧ (total L : Int) ≤ room ∧ room ≤ 9223372036854775807
section
variable {w0 w w' : World} {g : Nat} {room : Int} {L : Pcs} {cut : Bool}
theorem PS.at0 (h : PS X w0 w g room L cut) : Below w0.heap.size w0 w := by obtain ⟨v, _, h, _⟩ := h; exact h
theorem PS.full (h : PS X w0 w g room L cut) : Full L := by obtain ⟨v, _, _, h, _⟩ := h; exact h
theorem PS.fits (h : PS X w0 w g room L cut) : (total L : Int) ≤ room := by obtain ⟨v, _, _, _, h, _⟩ := h; exact h
theorem PS.below (h : PS X w0 w g room L cut) (hb : Below w.heap.size w w') : PS X w0 w' g room L cut := by
  obtain ⟨v, h1, h2, h3⟩ := h
  exact ⟨v, h1.below hb, bel_trans h2 hb, h3⟩
theorem Pipe.new_ (w : World) (base : Nat) (hb : base ≤ w.heap.size) (room : Int) : Pipe X (w.alloc (.cells #[.int .i64 room, .slice none 0 0, .bool false] 90)) base w.heap.size room (.slice none 0 0) [] false :=
  ⟨heap_alloc_new w _, OwnP.nil _ _ _, hb, by simp [Value.ownBlock]⟩
theorem PS.new_ (hb : Below w0.heap.size w0 w) (room : Int) (h0 : 0 ≤ room) (h1 : room ≤ 9223372036854775807) : PS X w0 (w.alloc (.cells #[.int .i64 room, .slice none 0 0, .bool false] 90)) w.heap.size room [] false :=
  ⟨_, Pipe.new_ w _ hb.size room, bel_alloc hb _, (fun x hx => by simp at hx), by simpa using h0, h1⟩
theorem PS.len (h : PS X w0 w g room L cut) (ht : total L ≤ 1000000) : Calls Try.prog 17 #[.pointer (some ⟨g, 0, none⟩)] w fun e w' => e = .returned (.int .i64 (total L : Int)) ∧ PS X w0 w' g room L cut ∧ Below w.heap.size w w' := by
  obtain ⟨v, h1, h2, h3, h4⟩ := h
  obtain ⟨ao, cap, rfl, hr⟩ := h1.row.reads
  have := full_len h3
  exact (len_calls g room ao cap L cut w h1.box hr (by omega) (by omega)).mono fun e w' ⟨he, hb⟩ => ⟨he, ⟨_, h1.below hb, bel_trans h2 hb, h3, h4⟩, hb⟩
theorem PS.due (h : PS X w0 w g room L cut) (ht : total L ≤ 1000000) (now : Int) (hw : 0 ≤ now ∧ now ≤ 4294967295) : Calls Try.prog 21 #[.pointer (some ⟨g, 0, none⟩), .int .u32 now] w fun e w' => e = .returned (.int .i64 (dueT now L : Int)) ∧ PS X w0 w' g room L cut ∧ Below w.heap.size w w' := by
  obtain ⟨v, h1, h2, h3, h4⟩ := h
  obtain ⟨ao, cap, rfl, hr⟩ := h1.row.reads
  have := full_len h3
  exact (due_calls g room ao cap L cut now w h1.box hr (by omega) (by omega) hw).mono fun e w' ⟨he, hb⟩ => ⟨he, ⟨_, h1.below hb, bel_trans h2 hb, h3, h4⟩, hb⟩
theorem PS.put (h : PS X w0 w g room L cut) (A0 : Option Addr) (c0 : Nat) (B : List Int) (now delay : Int) (ht : total L ≤ 1000000) (hl : B.length ≤ 1000000) (hC : Kd.C (Kd.int .u8) w A0 B.length B) (hc : B.length ≤ c0) (hw : 0 ≤ now ∧ now ≤ 4294967295) (hdl : 0 ≤ delay ∧ delay ≤ 4294967295) (hX : ∀ k, X k → k < w.heap.size) :
    Calls Try.prog 15 #[.pointer (some ⟨g, 0, none⟩), .slice A0 B.length c0, .int .u32 now, .int .u32 delay] w fun e w' => e = .returned (.int .i64 (putN cut room L B.length : Nat)) ∧ PS X w0 w' g room (putL cut room L B (now + delay)) cut ∧ Only (PT w) w w' := by
  obtain ⟨v, h1, h2, h3, h4, h5⟩ := h
  have hfl := full_len h3
  by_cases hz : cut = true ∨ min B.length (room - total L).toNat = 0
  · have hn : putN cut room L B.length = 0 := by unfold putN; rcases hz with hz | hz; rw [if_pos hz]; split; rfl; exact hz
    have hL : putL cut room L B (now + delay) = L := by unfold putL; rw [if_pos hn]
    rw [hn, hL]
    exact (put_none _ g room v L cut A0 c0 B now delay w h1 (by omega) (by omega) h4 h5 hz hl).mono fun e w' ⟨he, hb⟩ => ⟨he, ⟨_, h1.below hb, bel_trans h2 hb, h3, h4, h5⟩, Only.of_below hb⟩
  · have hcut : cut = false := by cases cut; rfl; exact absurd (Or.inl rfl) hz
    subst hcut
    have hn : putN false room L B.length = min B.length (room - total L).toNat := by unfold putN; rw [if_neg (by simp)]
    have hL : putL false room L B (now + delay) = putP L (B.take (putN false room L B.length)) (now + delay) := by unfold putL; rw [if_neg (by rw [hn]; exact fun e => hz (.inr e))]
    have hT := putL_total false room L B (now + delay)
    have hF := putL_full (cut := false) (room := room) (B := B) (d := now + delay) h3
    rw [hL] at hT hF ⊢
    refine (put_some _ g room v L A0 c0 B now delay (putN false room L B.length) w h1 (by omega) (by omega) h4 h5 hn.symm (by rw [hn]; omega) hl hC hc hw hdl h2.size hX).mono fun e w' ⟨he, v', hP, hO⟩ => ⟨he, ⟨v', hP, ?_, hF, by rw [hT, hn]; omega, h5⟩, hO.mono h1.types⟩
    exact hO.below_of h2 (fun i hi => by
      rcases hi with hi | rfl
      · exact h1.row.base i hi
      · exact h1.gb)
theorem PS.take (h : PS X w0 w g room L cut) (n now : Int) (ht : total L ≤ 1000000) (hw : 0 ≤ now ∧ now ≤ 4294967295) (hi : -9223372036854775808 ≤ n ∧ n ≤ 9223372036854775807) :
    Calls Try.prog 16 #[.pointer (some ⟨g, 0, none⟩), .int .i64 n, .int .u32 now] w fun e w' => (∃ o, e = .returned o ∧ (Kd.int .u8).R 5 w' w.heap.size (fun _ => True) o (takeP now n.toNat L).1) ∧ PS X w0 w' g room (takeP now n.toNat L).2 cut ∧ Only (PT w) w w' := by
  obtain ⟨v, h1, h2, h3, h4, h5⟩ := h
  have hfl := full_len h3
  refine (take_calls _ g room v L cut n now w h1 h3 ht (by omega) hw hi h2.size).mono fun e w' ⟨o, he, v1, M, O, hB, hE, hz⟩ => ?_
  have e1 := hE.eqn
  rw [hz] at e1
  simp only [List.append_nil] at e1
  rw [e1]
  have hs := hE.sum
  refine ⟨⟨o, he, hB.out⟩, ⟨v1, ⟨hB.box, hB.row.back hB.only hB.own, h1.gb, by rw [hB.own]; exact hB.apart⟩, ?_, hE.full, by dsimp only; omega, h5⟩, hB.only.mono h1.types⟩
  exact hB.only.below_of h2 (fun i hi => by
    rcases hi with hi | rfl
    · exact h1.row.base i hi
    · exact h1.gb)
theorem PS.cut_ (h : PS X w0 w g room L cut) (ht : total L ≤ 1000000) :
    Calls Try.prog 20 #[.pointer (some ⟨g, 0, none⟩)] w fun e w' => e = .returned (.int .i64 (total L : Int)) ∧ PS X w0 w' g room [] true ∧ Only (PT w) w w' := by
  obtain ⟨v, h1, h2, h3, h4, h5⟩ := h
  have hfl := full_len h3
  refine (cut_calls _ g room v L cut w h1 (by omega) (by omega)).mono fun e w' ⟨he, hP, hO⟩ => ⟨he, ⟨_, hP, ?_, (fun x hx => by simp at hx), by have := h4; simp; omega, h5⟩, hO.mono h1.types⟩
  exact hO.below_of h2 (fun i hi => by
    rcases hi with hi | rfl
    · exact h1.row.base i hi
    · exact h1.gb)
/-- Behind an append to a foreign row of bytes. -/
theorem PS.grown {X' : Nat → Prop} {w1 : World} (h : PS X w0 w g room L cut) {row : Option Nat} (hg : w.grownBy w1 row) (hrow : ∀ k, row = some k → X k ∧ w0.heap.size ≤ k ∧ ∃ cells, w.heap[k]? = some (.cells cells 5 (0, 0))) (hX' : ∀ k, X' k → X k ∨ w.heap.size ≤ k) : PS X' w0 w1 g room L cut := by
  obtain ⟨v, h1, h2, h3⟩ := h
  have hty := h1.types
  have hne : ∀ k, Sv v g k → some k ≠ row := by
    intro k hk e
    obtain ⟨_, _, c1, hc1⟩ := hrow k e.symm
    obtain ⟨c2, hp | hp⟩ := hty k hk
    · rw [hc1] at hp; injection hp with hp; injection hp with _ hp; exact absurd hp (by decide)
    · rw [hc1] at hp; injection hp with hp; injection hp with _ hp; exact absurd hp (by decide)
  refine ⟨v, ⟨blk_grown h1.box hg (hne g (.inr rfl)), ?_, h1.gb, h1.apart⟩, ?_, h3⟩
  · obtain ⟨inner, r1, r2⟩ := h1.row
    refine ⟨inner, own_move r1 (fun k hk => hg.block k (own_lt r1 k hk) (hne k (.inl hk))), fun j x hx W hW => r2 j x hx W ?_⟩
    exact (Only.of_grown (S := fun k => Sv v g k ∨ X k) hg (fun k hk => .inr (hrow k hk).1)).then_ hW (fun i hi hlt => by
      rcases hi with hi | hi
      · exact .inl hi
      · rcases hX' i hi with hi | hi
        · exact .inr hi
        · omega)
  · exact (Only.of_grown (S := fun k => row = some k) hg (fun k hk => hk)).below_of h2 (fun i hi => (hrow i hi).2.1)
end
end Go.Proofs.Ytjbakaplcjkniaa.Pi
