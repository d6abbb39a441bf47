/- Pipe: the document's Take. No condition. -/
import Derived.Test.YtjbakaplcjkniaaPiD
namespace Go.Proofs.Ytjbakaplcjkniaa.Pi
open Go.RowKit Go.Proofs.YtjbakaplcjkniaaW.PrintWords Go.Proofs.YtjbakaplcjkniaaW.PrintLast Go.Proofs.YtjbakaplcjkniaaW.PrintMore
set_option linter.unusedVariables false
set_option linter.unusedSimpArgs false
attribute [local go_sem] max2_M min2_M max_two min_two
theorem Q_cut {kk : IntKind} {e : Nat} {w : World} {base : Nat} {ok : Nat → Prop} {A : Option Addr} {n c k : Nat} {B : List Int} (h : (Kd.int kk).Q e w base ok (.slice A n c) B) (hk : k ≤ B.length) :
    (c = k → (Kd.int kk).Q e w base ok (.slice A (n - k) 0) (B.drop k)) ∧ (¬ c = k → (Kd.int kk).Q e w base ok (.slice (Option.map (fun x => x.add k) A) (n - k) (c - k)) (B.drop k)) := by
  have h1 := Kd.Q_drop h hk
  have hs : k * (Kd.int kk).sz = k := Nat.mul_one k
  rw [hs] at h1
  refine ⟨fun e => ?_, fun e => ?_⟩
  · rw [if_pos e, e, Nat.sub_self] at h1
    exact h1
  · rw [if_neg e] at h1
    exact h1
theorem own_map (A : Option Addr) (k n c n' c' : Nat) : (Value.slice (Option.map (fun x => x.add k) A) n c).ownBlock = (Value.slice A n' c').ownBlock := by
  cases A with
  | none => rfl
  | some a => simp [Value.ownBlock]; unfold Addr.add; split <;> rfl
theorem own_same (A : Option Addr) (n c n' c' : Nat) : (Value.slice A n c).ownBlock = (Value.slice A n' c').ownBlock := by cases A <;> rfl
/-- What a take of k bytes leaves. -/
def RTake (w w' : World) (base g : Nat) (room : Int) (vB vA : Value) (B A : List Int) (gone : Bool) (k : Nat) (o : Value) : Prop := ∃ vB' vA', rowB w' base o (B.take k) ∧ Ref w' base g room vB' vA' (B.drop k) (A.drop k) gone ∧ vB'.ownBlock = vB.ownBlock ∧ vA'.ownBlock = vA.ownBlock ∧ Only (fun i => i = g) w w'
set_option maxHeartbeats 4000000 in
set_option maxRecDepth 100000 in
theorem rtake_calls (base g : Nat) (room : Int) (vB vA : Value) (B A : List Int) (gone : Bool) (n now : Int) (w : World) (hR : Ref w base g room vB vA B A gone) (hn : A.length ≤ 1000000) (hAB : A.length = B.length) (k : Nat) (hk : min n.toNat (dueN now A) = k) :
    Calls Try.prog 19 #[.pointer (some ⟨g, 0, none⟩), .int .i64 n, .int .i64 now] w fun e w' => ∃ o, e = .returned o ∧ RTake w w' base g room vB vA B A gone k o := by
  have hu2 := Try.underlying38
  obtain ⟨aa, ca, rfl, hca⟩ := Kd.Q_slice hR.rA
  obtain ⟨ab, cb, rfl, hcb⟩ := Kd.Q_slice hR.rB
  have hd := dueN_le now A
  have hmin : max 0 (min n ((dueN now A : Nat) : Int)) = (k : Int) := by omega
  have k1 : k ≤ A.length := by omega
  have k2 : k ≤ B.length := by omega
  have k3 : (k : Int) ≤ (A.length : Int) := by omega
  have k4 : (k : Int) ≤ (B.length : Int) := by omega
  have k5 : (k : Int) ≤ (ca : Int) := by omega
  have k6 : (k : Int) ≤ (cb : Int) := by omega
  have HR := Aside0.mk hR
  have HN := Aside0.mk hn
  clear hR hn hd hk hAB
  by_cases e1 : cb = k <;> by_cases e2 : ca = k
  all_goals
    go_enter Try.func19, Try.ntmps19
    go_wp2_with (go_at_call 22; (with_reducible refine (rdue_calls _ g room _ _ B A gone now _ HR.out HN.out).mono ?_); rintro e w1 ⟨rfl, hb⟩; have HR1 := Aside0.mk (HR.out.below hb); have HB := Aside0.mk hb; have y1 := HR1.out.y1; have y2 := HR1.out.y2; have fz : ∀ j, w1.frozen? ⟨g, j, none⟩ = false := (fun j => blk_frozen HR1.out.box j); have fz2 : ∀ j u i, (w1.setCell ⟨g, j, none⟩ u).frozen? ⟨g, i, none⟩ = false := (fun j u i => blk_frozen (blk_set HR1.out.box j u) i); clear hb)
    have hO : ∀ u u2, Only (fun i => i = g) w ((w1.setCell ⟨g, 1, none⟩ u).setCell ⟨g, 2, none⟩ u2) := fun u u2 => ((Only.of_below (S := fun i => i = g) HB.out).set ⟨g, 1, none⟩ u rfl).set ⟨g, 2, none⟩ u2 rfl
    have hb2 : ∀ u u2, ((w1.setCell ⟨g, 1, none⟩ u).setCell ⟨g, 2, none⟩ u2).heap[g]? = some (.cells #[.int .i64 room, u, u2, .bool gone] 38) := fun u u2 => blk_put (blk_put HR1.out.box 1 u rfl) 2 u2 rfl
    have q1 : ∀ u u2, rowB ((w1.setCell ⟨g, 1, none⟩ u).setCell ⟨g, 2, none⟩ u2) base (.slice ab B.length cb) B := fun u u2 => Kd.Q_set (Kd.Q_set HR1.out.rB HR1.out.box (by decide) 1 u) (blk_set HR1.out.box 1 u) (by decide) 2 u2
    have q2 : ∀ u u2, rowA ((w1.setCell ⟨g, 1, none⟩ u).setCell ⟨g, 2, none⟩ u2) base (.slice aa A.length ca) A := fun u u2 => Kd.Q_set (Kd.Q_set HR1.out.rA HR1.out.box (by decide) 1 u) (blk_set HR1.out.box 1 u) (by decide) 2 u2
    have q3 : ∀ u u2, rowB ((w1.setCell ⟨g, 1, none⟩ u).setCell ⟨g, 2, none⟩ u2) base (.slice ab k cb) (B.take k) := fun u u2 => Kd.Q_take (q1 u u2) k2
    go_ret
    first
      | exact ⟨_, rfl, _, _, (by first | exact q3 _ _ | (rw [e1] at q3; exact q3 _ _)), ⟨hb2 _ _, (Q_cut (q1 _ _) k2).1 e1, (Q_cut (q2 _ _) k1).1 e2, HR1.out.gb⟩, own_same _ _ _ _ _, own_same _ _ _ _ _, hO _ _⟩
      | exact ⟨_, rfl, _, _, (by first | exact q3 _ _ | (rw [e1] at q3; exact q3 _ _)), ⟨hb2 _ _, (Q_cut (q1 _ _) k2).1 e1, (Q_cut (q2 _ _) k1).2 e2, HR1.out.gb⟩, own_same _ _ _ _ _, own_map _ _ _ _ _ _, hO _ _⟩
      | exact ⟨_, rfl, _, _, (by exact q3 _ _), ⟨hb2 _ _, (Q_cut (q1 _ _) k2).2 e1, (Q_cut (q2 _ _) k1).1 e2, HR1.out.gb⟩, own_map _ _ _ _ _ _, own_same _ _ _ _ _, hO _ _⟩
      | exact ⟨_, rfl, _, _, (by exact q3 _ _), ⟨hb2 _ _, (Q_cut (q1 _ _) k2).2 e1, (Q_cut (q2 _ _) k1).2 e2, HR1.out.gb⟩, own_map _ _ _ _ _ _, own_map _ _ _ _ _ _, hO _ _⟩
end Go.Proofs.Ytjbakaplcjkniaa.Pi
