/- Pipe: the document's pipe in memory; Due. No condition. -/
import Derived.Test.YtjbakaplcjkniaaPiC
namespace Go.Proofs.Ytjbakaplcjkniaa.Pi
open Go.RowKit Go.Proofs.YtjbakaplcjkniaaW.PrintWords Go.Proofs.YtjbakaplcjkniaaW.PrintLast Go.Proofs.YtjbakaplcjkniaaW.PrintMore
set_option linter.unusedVariables false
set_option linter.unusedSimpArgs false
attribute [local go_sem] max2_M min2_M max_two min_two
abbrev rowB (w : World) (base : Nat) (v : Value) (B : List Int) : Prop := (Kd.int .u8).Q 5 w base (fun _ => True) v B
abbrev rowA (w : World) (base : Nat) (v : Value) (A : List Int) : Prop := (Kd.int .i64).Q 3 w base (fun _ => True) v A
/-- The document's pipe: its box at g, bytes in vB, ticks in vA. -/
structure Ref (w : World) (base g : Nat) (room : Int) (vB vA : Value) (B A : List Int) (gone : Bool) : Prop where
  box : w.heap[g]? = some (.cells #[.int .i64 room, vB, vA, .bool gone] 38)
  rB : rowB w base vB B
  rA : rowA w base vA A
  gb : base ≤ g
section
variable {w w1 : World} {base g : Nat} {room : Int} {vB vA : Value} {B A : List Int} {gone : Bool}
theorem Ref.lt (h : Ref w base g room vB vA B A gone) : g < w.heap.size := blk_lt h.box
theorem Ref.y0 (h : Ref w base g room vB vA B A gone) : w.cell? ⟨g, 0, none⟩ = some (.int .i64 room) := (blk_cell h.box 0).trans rfl
theorem Ref.y1 (h : Ref w base g room vB vA B A gone) : w.cell? ⟨g, 1, none⟩ = some vB := (blk_cell h.box 1).trans rfl
theorem Ref.y2 (h : Ref w base g room vB vA B A gone) : w.cell? ⟨g, 2, none⟩ = some vA := (blk_cell h.box 2).trans rfl
theorem Ref.y3 (h : Ref w base g room vB vA B A gone) : w.cell? ⟨g, 3, none⟩ = some (.bool gone) := (blk_cell h.box 3).trans rfl
theorem Ref.below (h : Ref w base g room vB vA B A gone) (hb : Below w.heap.size w w1) : Ref w1 base g room vB vA B A gone := ⟨blk_below h.box hb, Kd.Q_below h.rB hb, Kd.Q_below h.rA hb, h.gb⟩
theorem Ref.only (h : Ref w base g room vB vA B A gone) (hO : Only (PT w) w w1) : Ref w1 base g room vB vA B A gone := ⟨blk_only h.box hO (by decide), Q_only h.rB hO (by decide), Q_only h.rA hO (by decide), h.gb⟩
/-- A row of ints at a place. -/
theorem C_int_at {k : IntKind} {w : World} {A : Option Addr} {xs : List Int} {n : Nat} (h : Kd.C (Kd.int k) w A n xs) {i : Nat} (hi : i < xs.length) : ∃ ad x, A = some ad ∧ xs[i]? = some x ∧ w.cell? (ad.add i) = some (.int k x) := by
  obtain ⟨ad, e, hc⟩ := h.2.2 (by rw [← h.1]; omega)
  obtain ⟨cs, h1, h2, h3⟩ := hc i _ (List.getElem?_eq_getElem hi)
  have h2' : cs = [.int k xs[i]] := h2
  subst h2'
  have := h3 0 _ rfl
  have e2 : i * (Kd.int k).sz + 0 = i := by show i * 1 + 0 = i; omega
  rw [e2] at this
  exact ⟨ad, xs[i], e, List.getElem?_eq_getElem hi, this⟩
theorem due_step {now x : Int} {A : List Int} {i : Nat} (hx : A[i]? = some x) (h : i ≤ dueN now A) : (x ≤ now → i + 1 ≤ dueN now A) ∧ (¬ x ≤ now → dueN now A = i) := by
  unfold dueN at *
  induction A generalizing i with
  | nil => simp at hx
  | cons a A ih =>
    rw [List.takeWhile_cons] at h ⊢
    cases i with
    | zero =>
      simp only [List.getElem?_cons_zero, Option.some.injEq] at hx
      subst hx
      by_cases ha : a ≤ now
      · simp [ha]
      · simp [ha]
    | succ i =>
      simp only [List.getElem?_cons_succ] at hx
      by_cases ha : a ≤ now
      · simp only [ha, decide_true, if_true, List.length_cons] at h ⊢
        obtain ⟨h1, h2⟩ := ih hx (by omega)
        exact ⟨fun hx => by have := h1 hx; omega, fun hx => by have := h2 hx; omega⟩
      · simp [ha] at h
end
set_option maxHeartbeats 4000000 in
set_option maxRecDepth 100000 in
theorem rdue_calls (base g : Nat) (room : Int) (vB vA : Value) (B A : List Int) (gone : Bool) (now : Int) (w : World) (hR : Ref w base g room vB vA B A gone) (hn : A.length ≤ 1000000) :
    Calls Try.prog 22 #[.pointer (some ⟨g, 0, none⟩), .int .i64 now] w fun e w' => e = .returned (.int .i64 (dueN now A : Nat)) ∧ Below w.heap.size w w' := by
  have hu2 := Try.underlying38
  obtain ⟨aa, ca, rfl, hca, hCA⟩ := Kd.Q_reads hR.rA
  have HR := Aside0.mk hR
  have HC := Aside0.mk hCA
  have HN := Aside0.mk hn
  clear hR hCA hn hca
  go_enter Try.func22, Try.ntmps22
  go_wp2
  go_loopg [5] A.length (fun gk v5 wr => ∃ (i : Nat), v5 = .int .i64 i ∧ Aside0 (i ≤ dueN now A ∧ A.length - i ≤ gk) ∧ Aside0 (Below w.heap.size w wr))
  case atStart => exact ⟨0, rfl, ⟨by omega, by omega⟩, ⟨by first | exact Below.refl _ _ | exact below_drew (Below.refl _ _)⟩⟩
  case round =>
    obtain ⟨i, rfl, HI, HB⟩ := hrel
    have y2 := (HR.out.below HB.out).y2
    by_cases hi : i < A.length
    · have q1 : decide ((i : Int) < (A.length : Int)) = true := decide_eq_true (by omega)
      have q1' : (i : Int) < (A.length : Int) := by omega
      obtain ⟨ad, x, rfl, hx, x0⟩ := C_int_at (Kd.C_below HC.out HB.out) hi
      obtain ⟨d1, d2⟩ := due_step hx HI.out.1
      have hin : wrap64 ((i : Int) + 1) = ((i + 1 : Nat) : Int) := by have := HN.out; unfold wrap64; omega
      have HII := Aside0.mk hi
      clear hx hi
      by_cases hd : x ≤ now
      · have q2 : decide (x ≤ now) = true := decide_eq_true hd
        have HD := Aside0.mk (d1 hd)
        clear d1 d2 hd
        go_wp2
        obtain ⟨gk, rfl⟩ : ∃ m, gk = m + 1 := ⟨gk - 1, by have := HI.out; have := HII.out; omega⟩
        go_roundg gk
        case measure => omega
        case rel => exact ⟨i + 1, congrArg (Value.int .i64) hin, ⟨by have := HI.out; have := HII.out; have := HD.out; omega⟩, HB⟩
      · have q2 : decide (x ≤ now) = false := decide_eq_false hd
        have HD := Aside0.mk (d2 hd)
        clear d1 d2 hd
        go_wp2
        go_ret
        exact ⟨by rw [HD.out]; rfl, HB.out⟩
    · have q1 : decide ((i : Int) < (A.length : Int)) = false := decide_eq_false (by omega)
      have q1' : (i < A.length) = False := eq_false hi
      have q1'' : decide (i < A.length) = false := decide_eq_false hi
      have he : dueN now A = i := by have := dueN_le now A; have := HI.out; omega
      have HD := Aside0.mk he
      clear hi he
      go_wp2
      go_ret
      exact ⟨by rw [HD.out]; rfl, HB.out⟩
end Go.Proofs.Ytjbakaplcjkniaa.Pi
