/- Topk: the walks of 'fixvec.Less' and of the heap's way up. No condition. -/
import Derived.Test.YtchiobhklbefjaaProg
import Derived.Test.YtchiobhklbefjaaTk0
import Derived.WalkKit
import Derived.Deep.LoopGhost
import Derived.Deep.QuietTactic
import Derived.BigQuiet
import Derived.BigRegion
import Derived.StillTailTactics
import Derived.Deep.RegionHeld3
namespace Go.Proofs.Ytchiobhklbefjaa.Tk
open Go.RowKit Go.Proofs.YtchiobhklbefjaaW.PrintWords Go.Proofs.Ytchiobhklbefjaa.Q
set_option linter.unusedVariables false
abbrev hitV (h : H) : Value := .agg #[.int .i64 h.f0, .int .u32 h.f1]
def boxH (h : H) : Obj := .cells #[.int .i64 h.f0, .int .u32 h.f1] 29
set_option maxHeartbeats 1000000 in
theorem less_calls (d1 i1 d2 i2 : Int) (w : World) :
    Calls Try.prog 65 #[.agg #[.int .i64 d1, .int .u32 i1], .agg #[.int .i64 d2, .int .u32 i2]] w fun e w' => e = .returned (.bool (ltH ⟨d1, i1⟩ ⟨d2, i2⟩)) ∧ w' = (w.alloc (boxH ⟨d1, i1⟩)).alloc (boxH ⟨d2, i2⟩) := by
  have hu := Try.underlying29
  unfold ltH boxH
  by_cases h1 : d1 < d2
  · have e1 : decide (d1 < d2) = true := decide_eq_true h1
    clear h1
    go_enter Try.func65, Try.ntmps65
    go_wp2
    go_ret
    exact ⟨by simp [e1], rfl⟩
  · have e1 : decide (d1 < d2) = false := decide_eq_false h1
    clear h1
    by_cases h2 : d1 = d2
    · have e2 : (d1 == d2) = true := beq_iff_eq.mpr h2
      clear h2
      go_enter Try.func65, Try.ntmps65
      go_wp2
      go_ret
      exact ⟨by simp [e1, e2], rfl⟩
    · have e2 : (d1 == d2) = false := beq_eq_false_iff_ne.mpr h2
      clear h2
      go_enter Try.func65, Try.ntmps65
      go_wp2
      go_ret
      exact ⟨by simp [e1, e2], rfl⟩
theorem less_below (a b : H) (r : Bool) (hr : ltH a b = r) (w : World) :
    Calls Try.prog 65 #[.agg #[.int .i64 a.f0, .int .u32 a.f1], .agg #[.int .i64 b.f0, .int .u32 b.f1]] w fun e w' => e = .returned (.bool r) ∧ Below w.heap.size w w' :=
  (less_calls a.f0 a.f1 b.f0 b.f1 w).mono fun e w' ⟨he, hw⟩ => ⟨by rw [he]; exact congrArg (fun b => Ending.returned (.bool b)) hr, by rw [hw]; exact below_alloc (below_alloc (Below.refl _ _) _) _⟩

def rdH (A : List H) (i : Nat) : H := A.getD i ⟨0, 0⟩
def swapL (A : List H) (p i : Nat) : List H := (A.set p (rdH A i)).set i (rdH A p)
def upL : Nat → List H → Nat → List H
  | 0, A, _ => A
  | f + 1, A, i => if i = 0 then A else if ltH (rdH A ((i - 1) / 2)) (rdH A i) then upL f (swapL A ((i - 1) / 2) i) ((i - 1) / 2) else A
theorem swapL_len (A : List H) (p i : Nat) : (swapL A p i).length = A.length := by simp [swapL]
theorem RowAt.rd {w : World} {r cap : Nat} {A : List H} (h : RowAt w r cap A) (i : Nat) (hi : i < A.length) :
    w.cell? ⟨r, i * 2, none⟩ = some (.int .i64 (rdH A i).f0) ∧ w.cell? ⟨r, i * 2 + 1, none⟩ = some (.int .u32 (rdH A i).f1) ∧ w.frozen? ⟨r, i * 2, none⟩ = false ∧ w.frozen? ⟨r, i * 2 + 1, none⟩ = false := by
  have := h.cells i hi
  have e : rdH A i = A[i] := by simp [rdH, hi]
  rw [e]; exact this
theorem swap_row {w : World} {r cap : Nat} {A : List H} (h : RowAt w r cap A) {p i : Nat} (hp : p < A.length) (hi : i < A.length) :
    RowAt ((((w.setCell ⟨r, p * 2, none⟩ (.int .i64 (rdH A i).f0)).setCell ⟨r, p * 2 + 1, none⟩ (.int .u32 (rdH A i).f1)).setCell ⟨r, i * 2, none⟩ (.int .i64 (rdH A p).f0)).setCell ⟨r, i * 2 + 1, none⟩ (.int .u32 (rdH A p).f1)) r cap (swapL A p i) :=
  (h.set p (rdH A i) hp).set i (rdH A p) (by simpa using hi)
theorem upL_zero (f : Nat) (A : List H) : upL (f + 1) A 0 = A := by simp [upL]
theorem upL_no (f : Nat) (A : List H) {i p : Nat} (h0 : ¬ i = 0) (hp : (i - 1) / 2 = p) (hb : ltH (rdH A p) (rdH A i) = false) : upL (f + 1) A i = A := by
  subst hp; simp only [upL]; rw [if_neg h0, hb]; rfl
theorem upL_yes (f : Nat) (A : List H) {i p : Nat} (h0 : ¬ i = 0) (hp : (i - 1) / 2 = p) (hb : ltH (rdH A p) (rdH A i) = true) : upL (f + 1) A i = upL f (swapL A p i) p := by
  subst hp; simp only [upL]; rw [if_neg h0, hb]; rfl
set_option maxHeartbeats 4000000 in
set_option maxRecDepth 100000 in
theorem up_calls (g r cap : Nat) (k : Int) (A : List H) (w : World) (hg : w.heap[g]? = some (.cells #[.int .i64 k, .slice (some ⟨r, 0, none⟩) A.length cap] 107 (0, 0))) (hr : RowAt w r cap A) (hne : g ≠ r) (hA : 0 < A.length) (hl : A.length ≤ 1000) :
    Calls Try.prog 64 #[.pointer (some ⟨g, 0, none⟩)] w fun e w' => e = .returned (.tuple #[]) ∧ Only (· = r) w w' ∧ RowAt w' r cap (upL A.length A (A.length - 1)) := by
  have hu := Try.underlying29
  have c1 : w.cell? ⟨g, 1, none⟩ = some (.slice (some ⟨r, 0, none⟩) A.length cap) := by rw [blk_cell hg]; rfl
  obtain ⟨n, hn⟩ : ∃ n, A.length = n + 1 := ⟨A.length - 1, by omega⟩
  rw [hn] at c1
  have hnb : n ≤ 1000 := by omega
  have Hg := Aside0.mk hg
  have Hr := Aside0.mk hr
  have HN := Aside0.mk hn
  clear hg hr hn
  go_enter Try.func64, Try.ntmps64
  go_wp2
  clear c1
  go_loopg [2] n (fun gk si wr => ∃ (i : Nat) (B : List H), si = .int .i64 i ∧ Aside0 (B.length = n + 1) ∧ i ≤ n ∧ Aside0 (i ≤ gk) ∧ Aside0 (Only (· = r) w wr) ∧ Aside0 (RowAt wr r cap B) ∧ Aside0 (upL (gk + 1) B i = upL (n + 1) A n))
  case atStart => exact ⟨n, A, by go_num, HN, Nat.le_refl _, ⟨Nat.le_refl _⟩, ⟨Only.refl _ _⟩, Hr, ⟨rfl⟩⟩
  case round =>
    obtain ⟨i, B, rfl, HB, hi, HG, HO, HR, HE⟩ := hrel
    have hgb := (HO.out.block g (blk_lt Hg.out) hne).trans Hg.out
    have c1 : wr.cell? ⟨g, 1, none⟩ = some (.slice (some ⟨r, 0, none⟩) (n + 1) cap) := by rw [blk_cell hgb, HN.out]; rfl
    clear hgb
    by_cases h0 : i = 0
    · subst h0
      go_wp2
      go_end0
      exact ⟨rfl, HO.out, by rw [HN.out, Nat.add_sub_cancel, ← HE.out, upL_zero]; exact HR.out⟩
    · obtain ⟨p, hp⟩ : ∃ p : Nat, (i - 1) / 2 = p := ⟨_, rfl⟩
      have hip : (0 : Int) < i := by omega
      have ep : ((i : Int) - 1) / 2 = (p : Int) := by omega
      have hpn : p < n + 1 := by omega
      have hin : i < n + 1 := by omega
      have hpn' : (p : Int) < (n : Int) + 1 := by omega
      have hin' : (i : Int) < (n : Int) + 1 := by omega
      obtain ⟨p0, p1, q0, q1⟩ := HR.out.rd p (by rw [HB.out]; omega)
      obtain ⟨s0, s1, t0, t1⟩ := HR.out.rd i (by rw [HB.out]; omega)
      have HP := Aside0.mk hp
      clear hp
      go_wp2_with fail
      go_still_tail 14, (by kernel_rfl)
      change wpList _ _ _ _ _ wr.drew
      have HO2 := Aside0.mk (HO.out.below (below_drew (Below.refl wr.heap.size wr)))
      have HR2 := Aside0.mk (HR.out.below (w1 := wr.drew) rfl)
      generalize wr.drew = w2 at HO2 HR2
      clear HO HR c1 p0 p1 q0 q1 s0 s1 t0 t1
      obtain ⟨b, hb⟩ : ∃ b, ltH (rdH B p) (rdH B i) = b := ⟨_, rfl⟩
      have Hb := Aside0.mk hb
      clear hb
      cases b with
      | false =>
        go_wp2_with ((go_at_call 65; (with_reducible refine (less_below (rdH B p) (rdH B i) _ Hb.out _).mono ?_); rintro e w3 ⟨rfl, hb3⟩; have HO3 := Aside0.mk (HO2.out.below hb3); have HR3 := Aside0.mk (HR2.out.below (hb3.block r HR2.out.lt)); clear hb3 HO2 HR2))
        refine bodyPost_ret (results_none rfl _ _ _) rfl ?_
        exact ⟨rfl, HO3.out, by rw [HN.out, Nat.add_sub_cancel, ← HE.out, upL_no _ _ h0 HP.out Hb.out]; exact HR3.out⟩
      | true =>
        go_wp2_with ((go_at_call 65; (with_reducible refine (less_below (rdH B p) (rdH B i) _ Hb.out _).mono ?_); rintro e w3 ⟨rfl, hb3⟩; have HO3 := Aside0.mk (HO2.out.below hb3); have HR3 := Aside0.mk (HR2.out.below (hb3.block r HR2.out.lt)); clear hb3 HO2 HR2))
        have hgb := (HO3.out.block g (blk_lt Hg.out) hne).trans Hg.out
        have c1 : w3.cell? ⟨g, 1, none⟩ = some (.slice (some ⟨r, 0, none⟩) (n + 1) cap) := by rw [blk_cell hgb, HN.out]; rfl
        obtain ⟨p0, p1, q0, q1⟩ := HR3.out.rd p (by rw [HB.out]; omega)
        obtain ⟨s0, s1, t0, t1⟩ := HR3.out.rd i (by rw [HB.out]; omega)
        clear hgb
        go_region
        go_wp2
        obtain ⟨gk, rfl⟩ : ∃ m, gk = m + 1 := ⟨gk - 1, by have := HG.out; omega⟩
        go_roundg gk
        case measure => omega
        case rel =>
          refine ⟨p, swapL B p i, rfl, ⟨by rw [swapL_len]; exact HB.out⟩, by omega, ⟨by have := HG.out; omega⟩, ?_, ?_, ⟨?_⟩⟩
          · exact ⟨((((HO3.out.set ⟨r, p * 2, none⟩ _ rfl).set ⟨r, p * 2 + 1, none⟩ _ rfl).set ⟨r, i * 2, none⟩ _ rfl).set ⟨r, i * 2 + 1, none⟩ _ rfl).below (below_drew (Below.refl _ _))⟩
          · exact ⟨(swap_row HR3.out (by rw [HB.out]; exact hpn) (by rw [HB.out]; exact hin)).below rfl⟩
          · rw [← HE.out, upL_yes _ _ h0 HP.out Hb.out]
end Go.Proofs.Ytchiobhklbefjaa.Tk
