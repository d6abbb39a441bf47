/- Pipe: the program's pipe and the document's, side by side. No condition. -/
import Derived.Test.YtjbakaplcjkniaaPiF
namespace Go.Proofs.Ytjbakaplcjkniaa.Pi
open Go.RowKit Go.Proofs.YtjbakaplcjkniaaW.PrintWords Go.Proofs.YtjbakaplcjkniaaW.PrintLast Go.Proofs.YtjbakaplcjkniaaW.PrintMore
set_option linter.unusedVariables false
set_option linter.unusedSimpArgs false
/-- What is written lies in foreign blocks. -/
theorem PS.moved {X X' T : Nat → Prop} {w0 w w1 : World} {g : Nat} {room : Int} {L : Pcs} {cut : Bool} (h : PS X w0 w g room L cut) (hO : Only T w w1) (hT : ∀ k, T k → X k ∧ w0.heap.size ≤ k ∧ ¬ PT w k) (hX' : ∀ k, X' k → X k ∨ w.heap.size ≤ k) : PS X' w0 w1 g room L cut := by
  obtain ⟨v, h1, h2, h3⟩ := h
  have hty := h1.types
  have hne : ∀ k, Sv v g k → ¬ T k := fun k hk ht => (hT k ht).2.2 (hty k hk)
  refine ⟨v, ⟨(hO.block g (blk_lt h1.box) (hne g (.inr rfl))).trans h1.box, ?_, h1.gb, h1.apart⟩, ?_, h3⟩
  · obtain ⟨inner, r1, r2⟩ := h1.row
    refine ⟨inner, own_move r1 (fun k hk => hO.block k (own_lt r1 k hk) (hne k (.inl hk))), fun j x hx W hW => r2 j x hx W ?_⟩
    exact (hO.mono (S' := fun k => Sv v g k ∨ X k) (fun k hk => .inr (hT k hk).1)).then_ hW (fun i hi hlt => by
      rcases hi with hi | hi
      · exact .inl hi
      · rcases hX' i hi with hi | hi
        · exact .inr hi
        · omega)
  · exact hO.below_of h2 (fun i hi => (hT i hi).2.1)
theorem not_PT {w : World} {k t : Nat} {cells : Array Value} (h : w.heap[k]? = some (.cells cells t (0, 0))) (ht : t ≠ 92 ∧ t ≠ 90) : ¬ PT w k := by
  rintro ⟨cells', hp | hp⟩
  · rw [h] at hp; injection hp with hp; injection hp with _ hp; exact ht.1 hp
  · rw [h] at hp; injection hp with hp; injection hp with _ hp; exact ht.2 hp
theorem Ref.xr {w : World} {base g : Nat} {room : Int} {vB vA : Value} {B A : List Int} {gone : Bool} (h : Ref w base g room vB vA B A gone) : ∀ k, XR g vB vA k → base ≤ k ∧ k < w.heap.size ∧ ¬ PT w k := by
  intro k hk
  rcases hk with rfl | hk | hk
  · exact ⟨h.gb, h.lt, not_PT h.box (by decide)⟩
  · obtain ⟨cells, hc⟩ := Kd.Q_typed h.rB k hk
    exact ⟨Kd.Q_base h.rB k hk, Kd.Q_lt h.rB k hk, not_PT hc (by decide)⟩
  · obtain ⟨cells, hc⟩ := Kd.Q_typed h.rA k hk
    exact ⟨Kd.Q_base h.rA k hk, Kd.Q_lt h.rA k hk, not_PT hc (by decide)⟩
/-- Both pipes. -/
def PX (w0 w : World) (g g2 : Nat) (room : Int) (L : Pcs) (B A : List Int) (cut gone : Bool) : Prop :=
  ∃ vB vA, PS (XR g2 vB vA) w0 w g room L cut ∧ Ref w w0.heap.size g2 room vB vA B A gone
section
variable {w0 w w' : World} {g g2 : Nat} {room : Int} {L : Pcs} {B A : List Int} {cut gone : Bool}
theorem PX.at0 (h : PX w0 w g g2 room L B A cut gone) : Below w0.heap.size w0 w := by obtain ⟨vB, vA, h, _⟩ := h; exact h.at0
theorem PX.full (h : PX w0 w g g2 room L B A cut gone) : Full L := by obtain ⟨vB, vA, h, _⟩ := h; exact h.full
theorem PX.below (h : PX w0 w g g2 room L B A cut gone) (hb : Below w.heap.size w w') : PX w0 w' g g2 room L B A cut gone := by
  obtain ⟨vB, vA, h1, h2⟩ := h
  exact ⟨vB, vA, h1.below hb, h2.below hb⟩
theorem PX.b (h : PX w0 w g g2 room L B A cut gone) : ∃ ab cb, w.cell? ⟨g2, 1, none⟩ = some (.slice ab B.length cb) := by
  obtain ⟨vB, vA, h1, h2⟩ := h
  obtain ⟨ab, cb, rfl, _⟩ := Kd.Q_slice h2.rB
  exact ⟨ab, cb, h2.y1⟩
theorem PX.len (h : PX w0 w g g2 room L B A cut gone) (ht : total L ≤ 1000000) : Calls Try.prog 17 #[.pointer (some ⟨g, 0, none⟩)] w fun e w' => e = .returned (.int .i64 (total L : Int)) ∧ PX w0 w' g g2 room L B A cut gone ∧ Below w.heap.size w w' := by
  obtain ⟨vB, vA, h1, h2⟩ := h
  exact (h1.len ht).mono fun e w' ⟨he, hP, hb⟩ => ⟨he, ⟨vB, vA, hP, h2.below hb⟩, hb⟩
theorem PX.due (h : PX w0 w g g2 room L B A cut gone) (ht : total L ≤ 1000000) (now : Int) (hw : 0 ≤ now ∧ now ≤ 4294967295) : Calls Try.prog 21 #[.pointer (some ⟨g, 0, none⟩), .int .u32 now] w fun e w' => e = .returned (.int .i64 (dueT now L : Int)) ∧ PX w0 w' g g2 room L B A cut gone ∧ Below w.heap.size w w' := by
  obtain ⟨vB, vA, h1, h2⟩ := h
  exact (h1.due ht now hw).mono fun e w' ⟨he, hP, hb⟩ => ⟨he, ⟨vB, vA, hP, h2.below hb⟩, hb⟩
theorem PX.rdue (h : PX w0 w g g2 room L B A cut gone) (ht : A.length ≤ 1000000) (now : Int) : Calls Try.prog 22 #[.pointer (some ⟨g2, 0, none⟩), .int .i64 now] w fun e w' => e = .returned (.int .i64 (dueN now A : Int)) ∧ PX w0 w' g g2 room L B A cut gone ∧ Below w.heap.size w w' := by
  obtain ⟨vB, vA, h1, h2⟩ := h
  exact (rdue_calls _ g2 room vB vA B A gone now w h2 ht).mono fun e w' ⟨he, hb⟩ => ⟨he, ⟨vB, vA, h1.below hb, h2.below hb⟩, hb⟩
theorem PX.put (h : PX w0 w g g2 room L B A cut gone) (A0 : Option Addr) (c0 : Nat) (P : List Int) (now delay : Int) (ht : total L ≤ 1000000) (hl : P.length ≤ 1000000) (hC : Kd.C (Kd.int .u8) w A0 P.length P) (hc : P.length ≤ c0) (hw : 0 ≤ now ∧ now ≤ 4294967295) (hdl : 0 ≤ delay ∧ delay ≤ 4294967295) :
    Calls Try.prog 15 #[.pointer (some ⟨g, 0, none⟩), .slice A0 P.length c0, .int .u32 now, .int .u32 delay] w fun e w' => e = .returned (.int .i64 (putN cut room L P.length : Nat)) ∧ PX w0 w' g g2 room (putL cut room L P (now + delay)) B A cut gone ∧ Only (PT w) w w' := by
  obtain ⟨vB, vA, h1, h2⟩ := h
  exact (h1.put A0 c0 P now delay ht hl hC hc hw hdl (fun k hk => (h2.xr k hk).2.1)).mono fun e w' ⟨he, hP, hO⟩ => ⟨he, ⟨vB, vA, hP, h2.only hO⟩, hO⟩
theorem PX.take (h : PX w0 w g g2 room L B A cut gone) (n now : Int) (ht : total L ≤ 1000000) (hw : 0 ≤ now ∧ now ≤ 4294967295) (hi : -9223372036854775808 ≤ n ∧ n ≤ 9223372036854775807) :
    Calls Try.prog 16 #[.pointer (some ⟨g, 0, none⟩), .int .i64 n, .int .u32 now] w fun e w' => (∃ o, e = .returned o ∧ (Kd.int .u8).R 5 w' w.heap.size (fun _ => True) o (takeP now n.toNat L).1) ∧ PX w0 w' g g2 room (takeP now n.toNat L).2 B A cut gone ∧ Only (PT w) w w' := by
  obtain ⟨vB, vA, h1, h2⟩ := h
  exact (h1.take n now ht hw hi).mono fun e w' ⟨ho, hP, hO⟩ => ⟨ho, ⟨vB, vA, hP, h2.only hO⟩, hO⟩
theorem PX.cut_ (h : PX w0 w g g2 room L B A cut gone) (ht : total L ≤ 1000000) :
    Calls Try.prog 20 #[.pointer (some ⟨g, 0, none⟩)] w fun e w' => e = .returned (.int .i64 (total L : Int)) ∧ PX w0 w' g g2 room [] B A true gone ∧ Only (PT w) w w' := by
  obtain ⟨vB, vA, h1, h2⟩ := h
  exact (h1.cut_ ht).mono fun e w' ⟨he, hP, hO⟩ => ⟨he, ⟨vB, vA, hP, h2.only hO⟩, hO⟩
theorem PX.rput (h : PX w0 w g g2 room L B A cut gone) (P0 : Option Addr) (cP : Nat) (P : List Int) (now delay : Int) (hAB : A.length = B.length) (hn : A.length + P.length ≤ 1000000) (hC : Kd.C (Kd.int .u8) w0 P0 P.length P) (hc : P.length ≤ cP) (hd : 0 ≤ now + delay ∧ now + delay ≤ 10000000000) (h0 : 0 ≤ room) :
    Calls Try.prog 18 #[.pointer (some ⟨g2, 0, none⟩), .slice P0 P.length cP, .int .i64 now, .int .i64 delay] w fun e w' => ∃ i : Nat, e = .returned (.int .i64 (i : Int)) ∧ i = rputN gone room B.length P.length ∧ PX w0 w' g g2 room L (B ++ P.take i) (A ++ List.replicate i (lastmax A (now + delay))) cut gone := by
  obtain ⟨vB, vA, h1, h2⟩ := h
  have hx := h2.xr
  have hr := h1
  obtain ⟨_, _, _, _, _, hroom⟩ := hr
  refine (rput_calls _ g2 room vB vA B A gone P0 cP P now delay w h2 hAB hn (Kd.C_below hC h1.at0) hc ⟨by omega, hroom⟩ hd h1.at0.size (fun W hW => Kd.C_below hC (hW.below_of h1.at0 (fun i hi => (hx i hi).1)))).mono fun e w' ⟨i, he, hi, vB1, vA1, B1, A1, hP⟩ => ⟨i, he, hi, vB1, vA1, ?_, ?_⟩
  · refine h1.moved hP.only (fun k hk => ⟨hk, (hx k hk).1, (hx k hk).2.2⟩) (fun k hk => ?_)
    rcases hk with hk | hk | hk
    · exact .inl (.inl hk)
    · rcases hP.oB with e | ⟨b, e, hb⟩
      · exact .inl (.inr (.inl (e ▸ hk)))
      · rw [e] at hk; injection hk with hk; exact .inr (by omega)
    · rcases hP.oA with e | ⟨b, e, hb⟩
      · exact .inl (.inr (.inr (e ▸ hk)))
      · rw [e] at hk; injection hk with hk; exact .inr (by omega)
  · have := hP.ref
    rw [← hP.eB, ← hP.eA] at this
    exact this
theorem PX.rtake (h : PX w0 w g g2 room L B A cut gone) (n now : Int) (hn : A.length ≤ 1000000) (hAB : A.length = B.length) (k : Nat) (hk : min n.toNat (dueN now A) = k) :
    Calls Try.prog 19 #[.pointer (some ⟨g2, 0, none⟩), .int .i64 n, .int .i64 now] w fun e w' => (∃ a c, e = .returned (.slice a k c) ∧ Kd.C (Kd.int .u8) w' a k (B.take k)) ∧ PX w0 w' g g2 room L (B.drop k) (A.drop k) cut gone ∧ Only (fun i => i = g2) w w' := by
  obtain ⟨vB, vA, h1, h2⟩ := h
  have hx := h2.xr
  have hkl : k ≤ B.length := by have := dueN_le now A; omega
  refine (rtake_calls _ g2 room vB vA B A gone n now w h2 hn hAB k hk).mono fun e w' ⟨o, he, vB', vA', hr, hR, hB, hA, hO⟩ => ⟨?_, ⟨vB', vA', ?_, hR⟩, hO⟩
  · obtain ⟨a, c, rfl, _, hC⟩ := Kd.Q_reads hr
    have hl : (B.take k).length = k := by rw [List.length_take]; omega
    rw [hl] at hC he
    exact ⟨a, c, he, hC⟩
  · refine h1.moved hO (fun k hk => ⟨.inl hk, (hx k (.inl hk)).1, (hx k (.inl hk)).2.2⟩) (fun k hk => .inl ?_)
    rcases hk with hk | hk | hk
    · exact .inl hk
    · exact .inr (.inl (hB ▸ hk))
    · exact .inr (.inr (hA ▸ hk))
end
end Go.Proofs.Ytjbakaplcjkniaa.Pi
