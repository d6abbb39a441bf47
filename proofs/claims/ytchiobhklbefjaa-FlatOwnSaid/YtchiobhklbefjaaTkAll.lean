/- Topk: the selector, its walks and its plain law; merged. No condition. -/
import Derived.Test.YtchiobhklbefjaaWWords
import Derived.Test.YtchiobhklbefjaaQx0
import Derived.Test.YtchiobhklbefjaaProg
import Derived.WalkKit
import Derived.Deep.LoopGhost
import Derived.Deep.QuietTactic
import Derived.BigQuiet
import Derived.BigRegion
import Derived.StillTailTactics
import Derived.Deep.RegionHeld3
import Derived.Deep.DeepCutAuto
import Derived.IntWalk
import Derived.Deep.RegionLaw
import Derived.Test.YtchiobhklbefjaaWMore
import Derived.Laws.ResultCell
import Derived.Test.YtchiobhklbefjaaSort
import Derived.Shelf.SlSortCmp.NoneTotal
import Derived.Laws.StructEq
import Derived.WalkSpells
import Derived.Laws.AppendOwnNone
import Derived.Test.YtchiobhklbefjaaQx3
import Derived.Test.YtchiobhklbefjaaFrame
namespace Go.Proofs.Ytchiobhklbefjaa.Tk
open Go.RowKit Go.Proofs.YtchiobhklbefjaaW.PrintWords Go.Proofs.Ytchiobhklbefjaa.Q
set_option linter.unusedVariables false
set_option linter.unusedSimpArgs false
abbrev H := S29
def enc (h : H) : List Value := [.int .i64 h.f0, .int .u32 h.f1]
def cellsOf (A : List H) : List Value := A.flatMap enc
theorem cellsOf_len (A : List H) : (cellsOf A).length = A.length * 2 := by
  induction A with
  | nil => rfl
  | cons a A ih => simp only [cellsOf, List.flatMap_cons, List.length_append, List.length_cons] at *; rw [ih]; simp [enc]; omega
theorem cellsOf_append (A B : List H) : cellsOf (A ++ B) = cellsOf A ++ cellsOf B := by simp [cellsOf]
theorem cellsOf_get (A : List H) (i : Nat) (h : i < A.length) : (cellsOf A)[i * 2]? = some (.int .i64 A[i].f0) ∧ (cellsOf A)[i * 2 + 1]? = some (.int .u32 A[i].f1) := by
  induction A generalizing i with
  | nil => simp at h
  | cons a A ih =>
    cases i with
    | zero => simp [cellsOf, enc]
    | succ i =>
      have := ih i (by simpa using h)
      simp only [cellsOf, List.flatMap_cons, enc, List.getElem_cons_succ] at *
      have e1 : (i + 1) * 2 = i * 2 + 1 + 1 := by omega
      have e2 : (i + 1) * 2 + 1 = i * 2 + 1 + 1 + 1 := by omega
      rw [e2, e1]
      simpa using this
/-- Which of two hits is less. -/
def ltH (a b : H) : Bool := decide (a.f0 < b.f0) || (a.f0 == b.f0 && decide (a.f1 < b.f1))
/-- Block r is a row of hits: those of A, and what lies behind. -/
structure RowAt (w : World) (r cap : Nat) (A : List H) : Prop where
  mk ::
  out : ∃ rest : List Value, w.heap[r]? = some (.cells (cellsOf A ++ rest).toArray 29 (0, 0)) ∧ (cellsOf A ++ rest).length = cap * 2
theorem RowAt.cells {w : World} {r cap : Nat} {A : List H} (h : RowAt w r cap A) (i : Nat) (hi : i < A.length) :
    w.cell? ⟨r, i * 2, none⟩ = some (.int .i64 A[i].f0) ∧ w.cell? ⟨r, i * 2 + 1, none⟩ = some (.int .u32 A[i].f1) ∧ w.frozen? ⟨r, i * 2, none⟩ = false ∧ w.frozen? ⟨r, i * 2 + 1, none⟩ = false := by
  obtain ⟨rest, hb, hl⟩ := h.out
  obtain ⟨g0, g1⟩ := cellsOf_get A i hi
  have hc := cellsOf_len A
  refine ⟨?_, ?_, blk_frozen hb _, blk_frozen hb _⟩
  · rw [blk_cell hb, List.getElem?_toArray, List.getElem?_append_left (by omega)]; exact g0
  · rw [blk_cell hb, List.getElem?_toArray, List.getElem?_append_left (by omega)]; exact g1
theorem cellsOf_set (A : List H) (i : Nat) (x : H) (h : i < A.length) (rest : List Value) :
    ((cellsOf A ++ rest).set (i * 2) (.int .i64 x.f0)).set (i * 2 + 1) (.int .u32 x.f1) = cellsOf (A.set i x) ++ rest := by
  induction A generalizing i with
  | nil => simp at h
  | cons a A ih =>
    cases i with
    | zero => simp [cellsOf, enc]
    | succ i =>
      have := ih i (by simpa using h)
      have e1 : (i + 1) * 2 = i * 2 + 1 + 1 := by omega
      have e2 : (i + 1) * 2 + 1 = i * 2 + 1 + 1 + 1 := by omega
      rw [e2, e1]
      simp only [cellsOf, List.flatMap_cons, enc, List.cons_append, List.nil_append, List.set_cons_succ] at *
      rw [this]
/-- An element stored: two cells. -/
theorem RowAt.set {w : World} {r cap : Nat} {A : List H} (h : RowAt w r cap A) (i : Nat) (x : H) (hi : i < A.length) :
    RowAt ((w.setCell ⟨r, i * 2, none⟩ (.int .i64 x.f0)).setCell ⟨r, i * 2 + 1, none⟩ (.int .u32 x.f1)) r cap (A.set i x) := by
  obtain ⟨rest, hb, hl⟩ := h.out
  have h1 := blk_set (blk_set hb (i * 2) (.int .i64 x.f0)) (i * 2 + 1) (.int .u32 x.f1)
  refine ⟨rest, ?_, ?_⟩
  · rw [h1]
    simp only [List.setIfInBounds_toArray]
    rw [cellsOf_set A i x hi]
  · rw [← cellsOf_set A i x hi]
    simpa using hl
theorem RowAt.below {w w1 : World} {r cap : Nat} {A : List H} (h : RowAt w r cap A) (hb : w1.heap[r]? = w.heap[r]?) : RowAt w1 r cap A := by
  obtain ⟨rest, h1, h2⟩ := h.out
  exact ⟨rest, hb.trans h1, h2⟩
theorem RowAt.lt {w : World} {r cap : Nat} {A : List H} (h : RowAt w r cap A) : r < w.heap.size := by
  obtain ⟨rest, h1, h2⟩ := h.out
  exact blk_lt h1
theorem RowAt.le {w : World} {r cap : Nat} {A : List H} (h : RowAt w r cap A) : A.length ≤ cap := by
  obtain ⟨rest, h1, h2⟩ := h.out
  rw [List.length_append, cellsOf_len] at h2
  omega

/-- Only the blocks in S, and new ones, may have changed. -/
structure Only (S : Nat → Prop) (w w' : World) : Prop where
  os : w'.os = w.os
  tape : w'.tape = w.tape
  output : w'.output = w.output
  size : w.heap.size ≤ w'.heap.size
  block : ∀ k, k < w.heap.size → ¬ S k → w'.heap[k]? = w.heap[k]?
theorem Only.refl (S : Nat → Prop) (w : World) : Only S w w := ⟨rfl, rfl, rfl, Nat.le_refl _, fun _ _ _ => rfl⟩
theorem Only.trans {S : Nat → Prop} {a b c : World} (h : Only S a b) (k : Only S b c) : Only S a c :=
  ⟨k.os.trans h.os, k.tape.trans h.tape, k.output.trans h.output, Nat.le_trans h.size k.size, fun i hi hs => (k.block i (Nat.lt_of_lt_of_le hi h.size) hs).trans (h.block i hi hs)⟩
theorem Only.below {S : Nat → Prop} {a b c : World} (h : Only S a b) (k : Below b.heap.size b c) : Only S a c :=
  ⟨k.os.trans h.os, k.tape.trans h.tape, k.output.trans h.output, Nat.le_trans h.size k.size, fun i hi hs => (k.block i (Nat.lt_of_lt_of_le hi h.size)).trans (h.block i hi hs)⟩
theorem Only.of_below {S : Nat → Prop} {a b : World} (k : Below a.heap.size a b) : Only S a b := (Only.refl S a).below k
theorem Only.mono {S S' : Nat → Prop} {a b : World} (h : Only S a b) (hs : ∀ k, S k → S' k) : Only S' a b := ⟨h.os, h.tape, h.output, h.size, fun k hk hn => h.block k hk (fun x => hn (hs k x))⟩
theorem size_set (w : World) (p : Addr) (u : Value) : (w.setCell p u).heap.size = w.heap.size := by simp [World.setCell]
theorem Only.set {S : Nat → Prop} {a b : World} (h : Only S a b) (p : Addr) (u : Value) (hp : S p.block) : Only S a (b.setCell p u) :=
  ⟨h.os, h.tape, h.output, by rw [size_set]; exact h.size, fun k hk hs => by rw [Below.heap_setCell b p u k (fun e => hs (e ▸ hp))]; exact h.block k hk hs⟩
end Go.Proofs.Ytchiobhklbefjaa.Tk
namespace Go.Proofs.Ytchiobhklbefjaa.Tk
open Go.RowKit Go.Proofs.YtchiobhklbefjaaW.PrintWords Go.Proofs.Ytchiobhklbefjaa.Q
set_option linter.unusedVariables false
set_option linter.unusedSimpArgs false
abbrev hitV (h : H) : Value := .agg #[.int .i64 h.f0, .int .u32 h.f1]
def boxH (h : H) : Obj := .cells #[.int .i64 h.f0, .int .u32 h.f1] 29
set_option maxHeartbeats 1000000 in
theorem less_calls (d1 i1 d2 i2 : Int) (w : World) :
    Calls Try.prog 65 #[.agg #[.int .i64 d1, .int .u32 i1], .agg #[.int .i64 d2, .int .u32 i2]] w fun e w' => e = .returned (.bool (ltH ⟨d1, i1⟩ ⟨d2, i2⟩)) ∧ w' = (w.alloc (boxH ⟨d1, i1⟩)).alloc (boxH ⟨d2, i2⟩) := by
  have hu := Try.underlying29
  unfold ltH boxH
  by_cases h1 : d1 < d2
  · have e1 : decide (d1 < d2) = true := decide_eq_true h1
    clear h1
    go_enter Try.func65, Try.ntmps65
    go_wp2
    go_ret
    exact ⟨by simp [e1], rfl⟩
  · have e1 : decide (d1 < d2) = false := decide_eq_false h1
    clear h1
    by_cases h2 : d1 = d2
    · have e2 : (d1 == d2) = true := beq_iff_eq.mpr h2
      clear h2
      go_enter Try.func65, Try.ntmps65
      go_wp2
      go_ret
      exact ⟨by simp [e1, e2], rfl⟩
    · have e2 : (d1 == d2) = false := beq_eq_false_iff_ne.mpr h2
      clear h2
      go_enter Try.func65, Try.ntmps65
      go_wp2
      go_ret
      exact ⟨by simp [e1, e2], rfl⟩
theorem less_below (a b : H) (r : Bool) (hr : ltH a b = r) (w : World) :
    Calls Try.prog 65 #[.agg #[.int .i64 a.f0, .int .u32 a.f1], .agg #[.int .i64 b.f0, .int .u32 b.f1]] w fun e w' => e = .returned (.bool r) ∧ Below w.heap.size w w' :=
  (less_calls a.f0 a.f1 b.f0 b.f1 w).mono fun e w' ⟨he, hw⟩ => ⟨by rw [he]; exact congrArg (fun b => Ending.returned (.bool b)) hr, by rw [hw]; exact below_alloc (below_alloc (Below.refl _ _) _) _⟩

def rdH (A : List H) (i : Nat) : H := A.getD i ⟨0, 0⟩
def swapL (A : List H) (p i : Nat) : List H := (A.set p (rdH A i)).set i (rdH A p)
def upL : Nat → List H → Nat → List H
  | 0, A, _ => A
  | f + 1, A, i => if i = 0 then A else if ltH (rdH A ((i - 1) / 2)) (rdH A i) then upL f (swapL A ((i - 1) / 2) i) ((i - 1) / 2) else A
theorem swapL_len (A : List H) (p i : Nat) : (swapL A p i).length = A.length := by simp [swapL]
theorem RowAt.rd {w : World} {r cap : Nat} {A : List H} (h : RowAt w r cap A) (i : Nat) (hi : i < A.length) :
    w.cell? ⟨r, i * 2, none⟩ = some (.int .i64 (rdH A i).f0) ∧ w.cell? ⟨r, i * 2 + 1, none⟩ = some (.int .u32 (rdH A i).f1) ∧ w.frozen? ⟨r, i * 2, none⟩ = false ∧ w.frozen? ⟨r, i * 2 + 1, none⟩ = false := by
  have := h.cells i hi
  have e : rdH A i = A[i] := by simp [rdH, hi]
  rw [e]; exact this
theorem swap_row {w : World} {r cap : Nat} {A : List H} (h : RowAt w r cap A) {p i : Nat} (hp : p < A.length) (hi : i < A.length) :
    RowAt ((((w.setCell ⟨r, p * 2, none⟩ (.int .i64 (rdH A i).f0)).setCell ⟨r, p * 2 + 1, none⟩ (.int .u32 (rdH A i).f1)).setCell ⟨r, i * 2, none⟩ (.int .i64 (rdH A p).f0)).setCell ⟨r, i * 2 + 1, none⟩ (.int .u32 (rdH A p).f1)) r cap (swapL A p i) :=
  (h.set p (rdH A i) hp).set i (rdH A p) (by simpa using hi)
theorem upL_zero (f : Nat) (A : List H) : upL (f + 1) A 0 = A := by simp [upL]
theorem upL_no (f : Nat) (A : List H) {i p : Nat} (h0 : ¬ i = 0) (hp : (i - 1) / 2 = p) (hb : ltH (rdH A p) (rdH A i) = false) : upL (f + 1) A i = A := by
  subst hp; simp only [upL]; rw [if_neg h0, hb]; rfl
theorem upL_yes (f : Nat) (A : List H) {i p : Nat} (h0 : ¬ i = 0) (hp : (i - 1) / 2 = p) (hb : ltH (rdH A p) (rdH A i) = true) : upL (f + 1) A i = upL f (swapL A p i) p := by
  subst hp; simp only [upL]; rw [if_neg h0, hb]; rfl
set_option maxHeartbeats 4000000 in
set_option maxRecDepth 100000 in
theorem up_calls (g r cap : Nat) (k : Int) (A : List H) (w : World) (hg : w.heap[g]? = some (.cells #[.int .i64 k, .slice (some ⟨r, 0, none⟩) A.length cap] 107 (0, 0))) (hr : RowAt w r cap A) (hne : g ≠ r) (hA : 0 < A.length) (hl : A.length ≤ 1000) :
    Calls Try.prog 64 #[.pointer (some ⟨g, 0, none⟩)] w fun e w' => e = .returned (.tuple #[]) ∧ Only (· = r) w w' ∧ RowAt w' r cap (upL A.length A (A.length - 1)) := by
  have hu := Try.underlying29
  have c1 : w.cell? ⟨g, 1, none⟩ = some (.slice (some ⟨r, 0, none⟩) A.length cap) := by rw [blk_cell hg]; rfl
  obtain ⟨n, hn⟩ : ∃ n, A.length = n + 1 := ⟨A.length - 1, by omega⟩
  rw [hn] at c1
  have hnb : n ≤ 1000 := by omega
  have Hg := Aside0.mk hg
  have Hr := Aside0.mk hr
  have HN := Aside0.mk hn
  clear hg hr hn
  go_enter Try.func64, Try.ntmps64
  go_wp2
  clear c1
  go_loopg [2] n (fun gk si wr => ∃ (i : Nat) (B : List H), si = .int .i64 i ∧ Aside0 (B.length = n + 1) ∧ i ≤ n ∧ Aside0 (i ≤ gk) ∧ Aside0 (Only (· = r) w wr) ∧ Aside0 (RowAt wr r cap B) ∧ Aside0 (upL (gk + 1) B i = upL (n + 1) A n))
  case atStart => exact ⟨n, A, by go_num, HN, Nat.le_refl _, ⟨Nat.le_refl _⟩, ⟨Only.refl _ _⟩, Hr, ⟨rfl⟩⟩
  case round =>
    obtain ⟨i, B, rfl, HB, hi, HG, HO, HR, HE⟩ := hrel
    have hgb := (HO.out.block g (blk_lt Hg.out) hne).trans Hg.out
    have c1 : wr.cell? ⟨g, 1, none⟩ = some (.slice (some ⟨r, 0, none⟩) (n + 1) cap) := by rw [blk_cell hgb, HN.out]; rfl
    clear hgb
    by_cases h0 : i = 0
    · subst h0
      go_wp2
      go_end0
      exact ⟨rfl, HO.out, by rw [HN.out, Nat.add_sub_cancel, ← HE.out, upL_zero]; exact HR.out⟩
    · obtain ⟨p, hp⟩ : ∃ p : Nat, (i - 1) / 2 = p := ⟨_, rfl⟩
      have hip : (0 : Int) < i := by omega
      have ep : ((i : Int) - 1) / 2 = (p : Int) := by omega
      have hpn : p < n + 1 := by omega
      have hin : i < n + 1 := by omega
      have hpn' : (p : Int) < (n : Int) + 1 := by omega
      have hin' : (i : Int) < (n : Int) + 1 := by omega
      obtain ⟨p0, p1, q0, q1⟩ := HR.out.rd p (by rw [HB.out]; omega)
      obtain ⟨s0, s1, t0, t1⟩ := HR.out.rd i (by rw [HB.out]; omega)
      have HP := Aside0.mk hp
      clear hp
      go_wp2_with fail
      go_still_tail 14, (by kernel_rfl)
      change wpList _ _ _ _ _ wr.drew
      have HO2 := Aside0.mk (HO.out.below (below_drew (Below.refl wr.heap.size wr)))
      have HR2 := Aside0.mk (HR.out.below (w1 := wr.drew) rfl)
      generalize wr.drew = w2 at HO2 HR2
      clear HO HR c1 p0 p1 q0 q1 s0 s1 t0 t1
      obtain ⟨b, hb⟩ : ∃ b, ltH (rdH B p) (rdH B i) = b := ⟨_, rfl⟩
      have Hb := Aside0.mk hb
      clear hb
      cases b with
      | false =>
        go_wp2_with ((go_at_call 65; (with_reducible refine (less_below (rdH B p) (rdH B i) _ Hb.out _).mono ?_); rintro e w3 ⟨rfl, hb3⟩; have HO3 := Aside0.mk (HO2.out.below hb3); have HR3 := Aside0.mk (HR2.out.below (hb3.block r HR2.out.lt)); clear hb3 HO2 HR2))
        refine bodyPost_ret (results_none rfl _ _ _) rfl ?_
        exact ⟨rfl, HO3.out, by rw [HN.out, Nat.add_sub_cancel, ← HE.out, upL_no _ _ h0 HP.out Hb.out]; exact HR3.out⟩
      | true =>
        go_wp2_with ((go_at_call 65; (with_reducible refine (less_below (rdH B p) (rdH B i) _ Hb.out _).mono ?_); rintro e w3 ⟨rfl, hb3⟩; have HO3 := Aside0.mk (HO2.out.below hb3); have HR3 := Aside0.mk (HR2.out.below (hb3.block r HR2.out.lt)); clear hb3 HO2 HR2))
        have hgb := (HO3.out.block g (blk_lt Hg.out) hne).trans Hg.out
        have c1 : w3.cell? ⟨g, 1, none⟩ = some (.slice (some ⟨r, 0, none⟩) (n + 1) cap) := by rw [blk_cell hgb, HN.out]; rfl
        obtain ⟨p0, p1, q0, q1⟩ := HR3.out.rd p (by rw [HB.out]; omega)
        obtain ⟨s0, s1, t0, t1⟩ := HR3.out.rd i (by rw [HB.out]; omega)
        clear hgb
        go_region
        go_wp2
        obtain ⟨gk, rfl⟩ : ∃ m, gk = m + 1 := ⟨gk - 1, by have := HG.out; omega⟩
        go_roundg gk
        case measure => omega
        case rel =>
          refine ⟨p, swapL B p i, rfl, ⟨by rw [swapL_len]; exact HB.out⟩, by omega, ⟨by have := HG.out; omega⟩, ?_, ?_, ⟨?_⟩⟩
          · exact ⟨((((HO3.out.set ⟨r, p * 2, none⟩ _ rfl).set ⟨r, p * 2 + 1, none⟩ _ rfl).set ⟨r, i * 2, none⟩ _ rfl).set ⟨r, i * 2 + 1, none⟩ _ rfl).below (below_drew (Below.refl _ _))⟩
          · exact ⟨(swap_row HR3.out (by rw [HB.out]; exact hpn) (by rw [HB.out]; exact hin)).below rfl⟩
          · rw [← HE.out, upL_yes _ _ h0 HP.out Hb.out]
end Go.Proofs.Ytchiobhklbefjaa.Tk
namespace Go.Proofs.Ytchiobhklbefjaa.Tk
open Go.RowKit Go.Proofs.YtchiobhklbefjaaW.PrintWords Go.Proofs.Ytchiobhklbefjaa.Q
set_option linter.unusedVariables false
set_option linter.unusedSimpArgs false
def kid (A : List H) (i : Nat) : Nat := if 2 * i + 2 < A.length ∧ ltH (rdH A (2 * i + 1)) (rdH A (2 * i + 2)) = true then 2 * i + 2 else 2 * i + 1
def downL : Nat → List H → Nat → List H
  | 0, A, _ => A
  | f + 1, A, i => if A.length ≤ 2 * i + 1 then A else if ltH (rdH A i) (rdH A (kid A i)) then downL f (swapL A i (kid A i)) (kid A i) else A
theorem downL_end (f : Nat) (A : List H) {i n : Nat} (hA : A.length = n) (h : n ≤ 2 * i + 1) : downL (f + 1) A i = A := by subst hA; simp only [downL]; rw [if_pos h]
theorem downL_no (f : Nat) (A : List H) {i c n : Nat} (hA : A.length = n) (h : ¬ n ≤ 2 * i + 1) (hc : kid A i = c) (hb : ltH (rdH A i) (rdH A c) = false) : downL (f + 1) A i = A := by
  subst hA; subst hc; simp only [downL]; rw [if_neg h, hb]; rfl
theorem downL_yes (f : Nat) (A : List H) {i c n : Nat} (hA : A.length = n) (h : ¬ n ≤ 2 * i + 1) (hc : kid A i = c) (hb : ltH (rdH A i) (rdH A c) = true) : downL (f + 1) A i = downL f (swapL A i c) c := by
  subst hA; subst hc; simp only [downL]; rw [if_neg h, hb]; rfl
theorem kid_two {A : List H} {i n : Nat} (hA : A.length = n) (h : 2 * i + 2 < n) (hb : ltH (rdH A (2 * i + 1)) (rdH A (2 * i + 2)) = true) : kid A i = 2 * i + 2 := by
  subst hA; unfold kid; rw [if_pos ⟨h, hb⟩]
theorem kid_one {A : List H} {i : Nat} (hb : ltH (rdH A (2 * i + 1)) (rdH A (2 * i + 2)) = false) : kid A i = 2 * i + 1 := by
  unfold kid; rw [hb]; simp
theorem kid_last {A : List H} {i n : Nat} (hA : A.length = n) (h : ¬ 2 * i + 2 < n) : kid A i = 2 * i + 1 := by
  subst hA; unfold kid; rw [if_neg (fun x => h x.1)]
set_option maxHeartbeats 8000000 in
set_option maxRecDepth 100000 in
theorem down_calls (g r cap : Nat) (k : Int) (A : List H) (w : World) (hg : w.heap[g]? = some (.cells #[.int .i64 k, .slice (some ⟨r, 0, none⟩) A.length cap] 107 (0, 0))) (hr : RowAt w r cap A) (hne : g ≠ r) (hl : A.length ≤ 1000) :
    Calls Try.prog 66 #[.pointer (some ⟨g, 0, none⟩)] w fun e w' => e = .returned (.tuple #[]) ∧ Only (· = r) w w' ∧ RowAt w' r cap (downL (A.length + 1) A 0) := by
  have hu := Try.underlying29
  obtain ⟨n, hn⟩ : ∃ n, A.length = n := ⟨_, rfl⟩
  have hnb : n ≤ 1000 := by omega
  have Hg := Aside0.mk hg
  have Hr := Aside0.mk hr
  have HN := Aside0.mk hn
  clear hg hr hn
  go_enter Try.func66, Try.ntmps66
  go_wp2
  go_loopg [2] (n + 1) (fun gk si wr => ∃ (i : Nat) (B : List H), si = .int .i64 i ∧ Aside0 (B.length = n) ∧ i ≤ n ∧ Aside0 (n < gk + i) ∧ Aside0 (Only (· = r) w wr) ∧ Aside0 (RowAt wr r cap B) ∧ Aside0 (downL gk B i = downL (n + 1) A 0))
  case atStart => exact ⟨0, A, by go_num, HN, by omega, ⟨by omega⟩, ⟨Only.refl _ _⟩, Hr, ⟨rfl⟩⟩
  case round =>
    obtain ⟨i, B, rfl, HB, hi, HG, HO, HR, HE⟩ := hrel
    obtain ⟨gk, rfl⟩ : ∃ m, gk = m + 1 := ⟨gk - 1, by have := HG.out; omega⟩
    have hgb := (HO.out.block g (blk_lt Hg.out) hne).trans Hg.out
    have c1 : wr.cell? ⟨g, 1, none⟩ = some (.slice (some ⟨r, 0, none⟩) n cap) := by rw [blk_cell hgb, HN.out]; rfl
    clear hgb
    by_cases h0 : n ≤ 2 * i + 1
    · have h0' : (n : Int) ≤ 2 * (i : Int) + 1 := by omega
      go_wp2
      refine bodyPost_ret (results_none rfl _ _ _) rfl ?_
      exact ⟨rfl, HO.out, by rw [HN.out, ← HE.out, downL_end _ _ HB.out h0]; exact HR.out⟩
    · have h0' : ¬ (n : Int) ≤ 2 * (i : Int) + 1 := by omega
      have hcn : 2 * (i : Int) + 1 < (n : Int) := by omega
      have hin : (i : Int) < (n : Int) := by omega
      obtain ⟨c, hk⟩ : ∃ c, kid B i = c := ⟨_, rfl⟩
      have HK := Aside0.mk hk
      have HC := Aside0.mk (show i < c ∧ c < n by rw [← hk]; unfold kid; split <;> (have := HB.out; omega))
      clear hk
      go_upto_region 3 with (fail)
      go_cut [39] (fun v39 wc => v39 = .bool (decide (c = 2 * i + 2)) ∧ Aside0 (Only (· = r) w wc) ∧ Aside0 (RowAt wc r cap B))
      case first =>
        obtain ⟨p0, p1, q0, q1⟩ := HR.out.rd (2 * i + 1) (by rw [HB.out]; omega)
        have e0 : (2 * (i : Int) + 1).toNat = 2 * i + 1 := by omega
        have e1 : (2 * (i : Int) + 2).toNat = 2 * i + 2 := by omega
        by_cases h2 : 2 * i + 2 < n
        · have h2' : 2 * (i : Int) + 2 < (n : Int) := by omega
          obtain ⟨d, hd⟩ : ∃ d, d = 2 * i + 2 := ⟨_, rfl⟩
          have hwr : IntKind.i64.wrap (2 * (i : Int) + 1 + 1) = (d : Int) := by rw [IntWalk.i64_in _ (by omega)]; omega
          have hdn : (d : Int) < (n : Int) := by omega
          obtain ⟨s0, s1, t0, t1⟩ := HR.out.rd d (by rw [HB.out]; omega)
          have HD := Aside0.mk hd
          have hnn : (0 : Int) ≤ 2 * (i : Int) + 1 := by omega
          clear hd h2' e1
          obtain ⟨b, hb⟩ : ∃ b, ltH (rdH B (2 * i + 1)) (rdH B d) = b := ⟨_, rfl⟩
          have Hb := Aside0.mk hb
          clear hb
          cases b with
          | false =>
            go_wp2_with fail
            go_still_tail 24, (by kernel_rfl)
            change wpList _ _ _ _ _ wr.drew
            have HO2 := Aside0.mk (HO.out.below (below_drew (Below.refl wr.heap.size wr)))
            have HR2 := Aside0.mk (HR.out.below (w1 := wr.drew) rfl)
            generalize wr.drew = w2 at HO2 HR2
            clear c1 p0 p1 q0 q1 s0 s1 t0 t1
            go_wp2_with ((go_at_call 65; (with_reducible refine (less_below (rdH B (2 * i + 1)) (rdH B d) _ Hb.out _).mono ?_); rintro e w3 ⟨rfl, hb3⟩; have HO3 := Aside0.mk (HO2.out.below hb3); have HR3 := Aside0.mk (HR2.out.below (hb3.block r HR2.out.lt)); clear hb3 HO2 HR2))
            go_meet
            case rel => exact ⟨by rw [decide_eq_false]; rw [← HK.out, kid_one (by rw [← HD.out]; exact Hb.out)]; omega, HO3, HR3⟩
          | true =>
            go_wp2_with fail
            go_still_tail 24, (by kernel_rfl)
            change wpList _ _ _ _ _ wr.drew
            have HO2 := Aside0.mk (HO.out.below (below_drew (Below.refl wr.heap.size wr)))
            have HR2 := Aside0.mk (HR.out.below (w1 := wr.drew) rfl)
            generalize wr.drew = w2 at HO2 HR2
            clear c1 p0 p1 q0 q1 s0 s1 t0 t1
            go_wp2_with ((go_at_call 65; (with_reducible refine (less_below (rdH B (2 * i + 1)) (rdH B d) _ Hb.out _).mono ?_); rintro e w3 ⟨rfl, hb3⟩; have HO3 := Aside0.mk (HO2.out.below hb3); have HR3 := Aside0.mk (HR2.out.below (hb3.block r HR2.out.lt)); clear hb3 HO2 HR2))
            go_meet
            case rel => exact ⟨by rw [decide_eq_true]; rw [← HK.out, kid_two HB.out h2 (by rw [← HD.out]; exact Hb.out)], HO3, HR3⟩
        · have h2' : decide (2 * (i : Int) + 1 + 1 < (n : Int)) = false := decide_eq_false (by omega)
          go_wp2_with fail
          go_quiet (fail)
          go_wp2
          go_meet
          case rel => exact ⟨by rw [decide_eq_false]; rw [← HK.out, kid_last HB.out h2]; omega, ⟨HO.out.below (pw_below_drewN (Below.refl _ _) _)⟩, ⟨HR.out.below rfl⟩⟩
      case rest =>
        clear HO HR c1
        obtain ⟨rfl, HO, HR⟩ := hcut
        go_upto_if 39 with (fail)
        go_cut [3] (fun v3 wd => v3 = .int .i64 c ∧ wd = wc)
        case first =>
          have hk2 : c = 2 * i + 1 ∨ c = 2 * i + 2 := by rw [← HK.out]; unfold kid; split <;> simp
          rcases hk2 with hk | hk
          · have hd : decide (c = 2 * i + 2) = false := decide_eq_false (by omega)
            have ec : (2 * (i : Int) + 1) = (c : Int) := by omega
            have HKK := Aside0.mk hk
            clear hk
            go_wp2
            go_meet
            case rel => exact ⟨congrArg (Value.int .i64) (by have := HKK.out; omega), rfl⟩
          · have hd : decide (c = 2 * i + 2) = true := decide_eq_true hk
            have ec : (2 * (i : Int) + 2) = (c : Int) := by omega
            have HKK := Aside0.mk hk
            clear hk
            go_wp2
            go_meet
            case rel => exact ⟨congrArg (Value.int .i64) (by have := HKK.out; omega), rfl⟩
        case rest =>
        obtain ⟨rfl, rfl⟩ := hcut
        have hgb := (HO.out.block g (blk_lt Hg.out) hne).trans Hg.out
        have c1 : wc.cell? ⟨g, 1, none⟩ = some (.slice (some ⟨r, 0, none⟩) n cap) := by rw [blk_cell hgb, HN.out]; rfl
        clear hgb
        have hic := HC.out.1
        have hcn2 := HC.out.2
        have hcn3 : (c : Int) < (n : Int) := by omega
        clear hcn h0'
        obtain ⟨p0, p1, q0, q1⟩ := HR.out.rd i (by rw [HB.out]; omega)
        obtain ⟨s0, s1, t0, t1⟩ := HR.out.rd c (by rw [HB.out]; omega)
        obtain ⟨b, hb⟩ : ∃ b, ltH (rdH B i) (rdH B c) = b := ⟨_, rfl⟩
        have Hb := Aside0.mk hb
        clear hb
        cases b with
        | false =>
          go_wp2_with fail
          go_still_tail 14, (by kernel_rfl)
          change wpList _ _ _ _ _ wc.drew
          have HO2 := Aside0.mk (HO.out.below (below_drew (Below.refl wc.heap.size wc)))
          have HR2 := Aside0.mk (HR.out.below (w1 := wc.drew) rfl)
          generalize wc.drew = w2 at HO2 HR2
          clear HO HR c1 p0 p1 q0 q1 s0 s1 t0 t1
          go_wp2_with ((go_at_call 65; (with_reducible refine (less_below (rdH B i) (rdH B c) _ Hb.out _).mono ?_); rintro e w3 ⟨rfl, hb3⟩; have HO3 := Aside0.mk (HO2.out.below hb3); have HR3 := Aside0.mk (HR2.out.below (hb3.block r HR2.out.lt)); clear hb3 HO2 HR2))
          refine bodyPost_ret (results_none rfl _ _ _) rfl ?_
          exact ⟨rfl, HO3.out, by rw [HN.out, ← HE.out, downL_no _ _ HB.out h0 HK.out Hb.out]; exact HR3.out⟩
        | true =>
          go_wp2_with fail
          go_still_tail 14, (by kernel_rfl)
          change wpList _ _ _ _ _ wc.drew
          have HO2 := Aside0.mk (HO.out.below (below_drew (Below.refl wc.heap.size wc)))
          have HR2 := Aside0.mk (HR.out.below (w1 := wc.drew) rfl)
          generalize wc.drew = w2 at HO2 HR2
          clear HO HR c1 p0 p1 q0 q1 s0 s1 t0 t1
          go_wp2_with ((go_at_call 65; (with_reducible refine (less_below (rdH B i) (rdH B c) _ Hb.out _).mono ?_); rintro e w3 ⟨rfl, hb3⟩; have HO3 := Aside0.mk (HO2.out.below hb3); have HR3 := Aside0.mk (HR2.out.below (hb3.block r HR2.out.lt)); clear hb3 HO2 HR2))
          have hgb := (HO3.out.block g (blk_lt Hg.out) hne).trans Hg.out
          have c1 : w3.cell? ⟨g, 1, none⟩ = some (.slice (some ⟨r, 0, none⟩) n cap) := by rw [blk_cell hgb, HN.out]; rfl
          obtain ⟨p0, p1, q0, q1⟩ := HR3.out.rd i (by rw [HB.out]; omega)
          obtain ⟨s0, s1, t0, t1⟩ := HR3.out.rd c (by rw [HB.out]; omega)
          clear hgb
          go_region
          go_wp2
          go_roundg gk
          case measure => omega
          case rel =>
            refine ⟨c, swapL B i c, rfl, ⟨by rw [swapL_len]; exact HB.out⟩, by omega, ⟨by have := HG.out; omega⟩, ?_, ?_, ⟨?_⟩⟩
            · exact ⟨((((HO3.out.set ⟨r, i * 2, none⟩ _ rfl).set ⟨r, i * 2 + 1, none⟩ _ rfl).set ⟨r, c * 2, none⟩ _ rfl).set ⟨r, c * 2 + 1, none⟩ _ rfl).below (below_drew (Below.refl _ _))⟩
            · exact ⟨(swap_row HR3.out (by rw [HB.out]; omega) (by rw [HB.out]; omega)).below rfl⟩
            · rw [← HE.out, downL_yes _ _ HB.out h0 HK.out Hb.out]
end Go.Proofs.Ytchiobhklbefjaa.Tk
namespace Go.Proofs.Ytchiobhklbefjaa.Tk
open Go.RowKit Go.Proofs.YtchiobhklbefjaaW.PrintWords Go.Proofs.Ytchiobhklbefjaa.Q
set_option linter.unusedVariables false
set_option linter.unusedSimpArgs false
/-- The blocks of S, and those that were made between w and w'. -/
def ext (S : Nat → Prop) (w w' : World) (i : Nat) : Prop := S i ∨ (w.heap.size ≤ i ∧ i < w'.heap.size)
theorem row_of_own {w : World} {v : Value} {A : List H} (h : w.ownsRow 0 29 2 v A.length (cellsOf A)) (hA : 0 < A.length) : ∃ r cap, v = .slice (some ⟨r, 0, none⟩) A.length cap ∧ cap ≤ maxLen ∧ RowAt w r cap A := by
  rcases h.2 with ⟨_, h0⟩ | ⟨g, cap, cur, rfl, _, hh, h1, h2, h3, h4⟩
  · omega
  · refine ⟨g, cap, rfl, h2, cur.toList.drop (A.length * 2), ?_, ?_⟩
    · have e : cellsOf A ++ cur.toList.drop (A.length * 2) = cur.toList := by rw [← h4, List.take_append_drop]
      rw [e, hh]
    · have e : cellsOf A ++ cur.toList.drop (A.length * 2) = cur.toList := by rw [← h4, List.take_append_drop]
      rw [e, Array.length_toList, h3]
theorem own_of_row {w : World} {r cap : Nat} {A : List H} (h : RowAt w r cap A) (hc : cap ≤ maxLen) : w.ownsRow 0 29 2 (.slice (some ⟨r, 0, none⟩) A.length cap) A.length (cellsOf A) := by
  have hle := h.le
  obtain ⟨rest, hb, hl⟩ := h.out
  exact ⟨cellsOf_len A, .inr ⟨r, cap, _, rfl, Nat.zero_le _, hb, hle, hc, by simpa using hl, by rw [← cellsOf_len A]; simp⟩⟩
structure Best (w : World) (S : Nat → Prop) (g k : Nat) (A : List H) : Prop where
  at_ : ∃ v, w.heap[g]? = some (.cells #[.int .i64 k, v] 107 (0, 0)) ∧ w.ownsRow 0 29 2 v A.length (cellsOf A) ∧ ∀ j, v.ownBlock = some j → S j ∧ j ≠ g
  sg : S g
  lt : ∀ i, S i → i < w.heap.size
  hk : k ≤ 256
  hA : A.length ≤ k
theorem own_block {w : World} {v : Value} {n : Nat} {xs : List Value} (h : w.ownsRow 0 29 2 v n xs) : ∀ k, v.ownBlock = some k → k < w.heap.size := fun k hk => own_lt h k hk
theorem Best.keep {w w1 : World} {S T : Nat → Prop} {g k : Nat} {A : List H} (h : Best w S g k A) (hO : Only T w w1) (hd : ∀ i, S i → ¬ T i) : Best w1 S g k A := by
  obtain ⟨v, hg, ho, hv⟩ := h.at_
  refine ⟨⟨v, (hO.block g (h.lt g h.sg) (hd g h.sg)).trans hg, own_move ho (fun j hj => hO.block j (h.lt j (hv j hj).1) (hd j (hv j hj).1)), hv⟩, h.sg, fun i hi => Nat.lt_of_lt_of_le (h.lt i hi) hO.size, h.hk, h.hA⟩
theorem Best.below {w w1 : World} {S : Nat → Prop} {g k : Nat} {A : List H} (h : Best w S g k A) (hb : Below w.heap.size w w1) : Best w1 S g k A := h.keep (T := fun _ => False) (Only.of_below hb) (fun _ _ x => x)
theorem Best.grow {w : World} {S T : Nat → Prop} {g k : Nat} {A : List H} (h : Best w S g k A) (hs : ∀ i, S i → T i) (ht : ∀ i, T i → i < w.heap.size) : Best w T g k A := by
  obtain ⟨v, hg, ho, hv⟩ := h.at_
  exact ⟨⟨v, hg, ho, fun j hj => ⟨hs j (hv j hj).1, (hv j hj).2⟩⟩, hs g h.sg, ht, h.hk, h.hA⟩
def putL (k : Nat) (A : List H) (h : H) : List H :=
  if A.length < k then upL (A.length + 1) (A ++ [h]) A.length else if 0 < k ∧ ltH h (rdH A 0) = true then downL (A.length + 1) (A.set 0 h) 0 else A
theorem upL_len : ∀ (f : Nat) (A : List H) (i : Nat), (upL f A i).length = A.length
  | 0, A, i => rfl
  | f + 1, A, i => by
    simp only [upL]
    split
    · rfl
    split
    · rw [upL_len f, swapL_len]
    · rfl
theorem downL_len : ∀ (f : Nat) (A : List H) (i : Nat), (downL f A i).length = A.length
  | 0, A, i => rfl
  | f + 1, A, i => by
    simp only [downL]
    split
    · rfl
    split
    · rw [downL_len f, swapL_len]
    · rfl
theorem info_hit : (Try.prog.info? 29).map (fun i => (i.zero, i.size, i.bytes)) = some (some (.agg #[.int .i64 0, .int .u32 0]), 2, 16) := by kernel_rfl
theorem Only.of_grown {S : Nat → Prop} {w w1 : World} {row : Option Nat} (h : w.grownBy w1 row) (hr : ∀ k, row = some k → S k) : Only S w w1 :=
  ⟨h.os, h.tape, h.output, h.size, fun k hk hs => h.block k hk (fun e => hs (hr k e.symm))⟩
theorem Only.grown {S : Nat → Prop} {w0 w w1 : World} {row : Option Nat} (h0 : Only S w0 w) (h : w.grownBy w1 row) (hr : ∀ k, row = some k → k < w0.heap.size → S k) : Only S w0 w1 :=
  ⟨h.os.trans h0.os, h.tape.trans h0.tape, h.output.trans h0.output, Nat.le_trans h0.size h.size, fun k hk hs => (h.block k (Nat.lt_of_lt_of_le hk h0.size) (fun e => hs (hr k e.symm hk))).trans (h0.block k hk hs)⟩
/-- What is written afterwards lies in blocks that are new since w, or in S. -/
theorem Only.then_ {S T : Nat → Prop} {a b c : World} (h : Only S a b) (k : Only T b c) (ht : ∀ i, T i → i < a.heap.size → S i) : Only S a c :=
  ⟨k.os.trans h.os, k.tape.trans h.tape, k.output.trans h.output, Nat.le_trans h.size k.size, fun i hi hs => (k.block i (Nat.lt_of_lt_of_le hi h.size) (fun x => hs (ht i x hi))).trans (h.block i hi hs)⟩
theorem wp_world {P : Program} {c : Code} {Q : Exit → Act → World → Prop} {a : Act} {W : World} (R : World → Prop) (hR : R W) (h : ∀ w', R w' → c.wp P Q a w') : c.wp P Q a W := h W hR
/-- A new block, and draws: what it holds. -/
theorem new_block (w : World) (cs : Array Value) (t : TypeId) (n : Nat) : ((w.alloc (.cells cs t)).drewN n).heap[w.heap.size]? = some (.cells cs t (0, 0)) := heap_alloc_new w (.cells cs t)
theorem hit_one (h : H) : ∀ u ∈ enc h, u.oneCell' = true := by
  intro u hu
  simp only [enc, List.mem_cons, List.not_mem_nil, or_false] at hu
  rcases hu with rfl | rfl <;> rfl
theorem ext_mono {S : Nat → Prop} {w w1 w2 : World} (h : w1.heap.size ≤ w2.heap.size) : ∀ i, ext S w w1 i → ext S w w2 i := fun i hi => hi.imp id (fun x => ⟨x.1, by omega⟩)
theorem ext_ext {S : Nat → Prop} {w w1 w2 : World} (h : w.heap.size ≤ w1.heap.size) (h2 : w1.heap.size ≤ w2.heap.size) : ∀ i, ext (ext S w w1) w1 w2 i → ext S w w2 i := fun i hi => by
  rcases hi with (hi | hi) | hi
  · exact .inl hi
  · exact .inr ⟨hi.1, by omega⟩
  · exact .inr ⟨by omega, hi.2⟩
theorem ext_lt {S : Nat → Prop} {w w1 : World} (hS : ∀ i, S i → i < w.heap.size) (h : w.heap.size ≤ w1.heap.size) : ∀ i, ext S w w1 i → i < w1.heap.size := fun i hi => by
  rcases hi with hi | hi
  · exact Nat.lt_of_lt_of_le (hS i hi) h
  · exact hi.2
theorem Best.slice {w : World} {S : Nat → Prop} {g k : Nat} {A : List H} (h : Best w S g k A) (hA : 0 < A.length) : ∃ r cap, w.heap[g]? = some (.cells #[.int .i64 k, .slice (some ⟨r, 0, none⟩) A.length cap] 107 (0, 0)) ∧ RowAt w r cap A ∧ cap ≤ maxLen ∧ g ≠ r ∧ S r := by
  obtain ⟨v, hg, ho, hv⟩ := h.at_
  obtain ⟨r, cap, rfl, hc, hr⟩ := row_of_own ho hA
  have := hv r rfl
  exact ⟨r, cap, hg, hr, hc, fun e => this.2 e.symm, this.1⟩
theorem Best.mk' {w : World} {S : Nat → Prop} {g r cap k : Nat} {A : List H} (hg : w.heap[g]? = some (.cells #[.int .i64 k, .slice (some ⟨r, 0, none⟩) A.length cap] 107 (0, 0))) (hr : RowAt w r cap A) (hc : cap ≤ maxLen) (hne : g ≠ r) (sr : S r) (sg : S g) (lt : ∀ i, S i → i < w.heap.size) (hk : k ≤ 256) (hA : A.length ≤ k) : Best w S g k A :=
  ⟨⟨_, hg, own_of_row hr hc, fun j hj => by simp only [Value.ownBlock, Option.some.injEq] at hj; subst hj; exact ⟨sr, fun e => hne e.symm⟩⟩, sg, lt, hk, hA⟩
/-- The way up, of a selector. -/
theorem up_best (S : Nat → Prop) (g k : Nat) (A : List H) (w : World) (h : Best w S g k A) (hA : 0 < A.length) :
    Calls Try.prog 64 #[.pointer (some ⟨g, 0, none⟩)] w fun e w' => e = .returned (.tuple #[]) ∧ Only S w w' ∧ Best w' (ext S w w') g k (upL A.length A (A.length - 1)) := by
  obtain ⟨r, cap, hg, hr, hc, hne, sr⟩ := h.slice hA
  have hk := h.hk
  have hA2 := h.hA
  refine (up_calls g r cap k A w hg hr hne hA (by omega)).mono fun e w' ⟨he, hO, hR⟩ => ⟨he, hO.mono (fun i hi => hi ▸ sr), ?_⟩
  have hg' := (hO.block g (blk_lt hg) hne).trans hg
  exact Best.mk' (by rw [upL_len]; exact hg') hR hc hne (.inl sr) (.inl h.sg) (ext_lt h.lt hO.size) h.hk (by rw [upL_len]; exact h.hA)
theorem down_best (S : Nat → Prop) (g k : Nat) (A : List H) (w : World) (h : Best w S g k A) (hA : 0 < A.length) :
    Calls Try.prog 66 #[.pointer (some ⟨g, 0, none⟩)] w fun e w' => e = .returned (.tuple #[]) ∧ Only S w w' ∧ Best w' (ext S w w') g k (downL (A.length + 1) A 0) := by
  obtain ⟨r, cap, hg, hr, hc, hne, sr⟩ := h.slice hA
  have hk := h.hk
  have hA2 := h.hA
  refine (down_calls g r cap k A w hg hr hne (by omega)).mono fun e w' ⟨he, hO, hR⟩ => ⟨he, hO.mono (fun i hi => hi ▸ sr), ?_⟩
  have hg' := (hO.block g (blk_lt hg) hne).trans hg
  exact Best.mk' (by rw [downL_len]; exact hg') hR hc hne (.inl sr) (.inl h.sg) (ext_lt h.lt hO.size) h.hk (by rw [downL_len]; exact h.hA)
theorem appended {S : Nat → Prop} {g k cap k1 : Nat} {A : List H} {h : H} {w w1 w2 : World} {ao a1 : Option Addr} (hB : Best w S g k A) (hlt : A.length < k) (hb1 : Below w.heap.size w w1)
    (hv : ∀ j, (Value.slice ao A.length cap).ownBlock = some j → S j ∧ j ≠ g) (hg2 : w2.heap[g]? = some (.cells #[.int .i64 k, .slice ao A.length cap] 107 (0, 0)))
    (hown : w2.ownsRow 0 29 2 (.slice a1 (A.length + 1) k1) (A.length + 1) (cellsOf A ++ enc h)) (hG : w1.grownBy w2 (Value.slice ao A.length cap).ownBlock)
    (hat : (Value.slice a1 (A.length + 1) k1).ownBlock = (Value.slice ao A.length cap).ownBlock ∨ ∃ b, (Value.slice a1 (A.length + 1) k1).ownBlock = some b ∧ w1.heap.size ≤ b) :
    Only S w (w2.setCell ⟨g, 1, none⟩ (.slice a1 (A.length + 1) k1)) ∧ Best (w2.setCell ⟨g, 1, none⟩ (.slice a1 (A.length + 1) k1)) (ext S w (w2.setCell ⟨g, 1, none⟩ (.slice a1 (A.length + 1) k1))) g k (A ++ [h]) := by
  have hO : Only S w w2 := (Only.of_below hb1).grown hG (fun j hj _ => (hv j hj).1)
  have hO3 := hO.set ⟨g, 1, none⟩ (.slice a1 (A.length + 1) k1) hB.sg
  have hl := own_block hown
  refine ⟨hO3, ⟨_, by have := blk_set hg2 1 (.slice a1 (A.length + 1) k1); exact this, ?_, ?_⟩, .inl hB.sg, ext_lt hB.lt hO3.size, hB.hk, by simp; omega⟩
  · have hne : some g ≠ (Value.slice a1 (A.length + 1) k1).ownBlock := own_ne hown hg2 (by decide)
    have h1 := own_setCell hown (p := ⟨g, 1, none⟩) hne (.slice a1 (A.length + 1) k1)
    have e1 : (A ++ [h]).length = A.length + 1 := by simp
    have e2 : cellsOf (A ++ [h]) = cellsOf A ++ enc h := by simp [cellsOf]
    rw [e1, e2]; exact h1
  · intro j hj
    have hne : some g ≠ (Value.slice a1 (A.length + 1) k1).ownBlock := own_ne hown hg2 (by decide)
    refine ⟨?_, fun e => hne (by rw [hj, e])⟩
    rcases hat with hat | ⟨b, hb, hle⟩
    · exact .inl (hv j (hat ▸ hj)).1
    · obtain rfl : b = j := by rw [hb] at hj; exact Option.some.inj hj
      refine .inr ⟨Nat.le_trans hb1.size hle, ?_⟩
      rw [size_set]; exact hl b hb
set_option maxHeartbeats 4000000 in
set_option maxRecDepth 100000 in
theorem put_room (S : Nat → Prop) (g k : Nat) (A : List H) (h : H) (w : World) (hB : Best w S g k A) (hlt : A.length < k) :
    Calls Try.prog 25 #[.pointer (some ⟨g, 0, none⟩), .agg #[.int .i64 h.f0, .int .u32 h.f1]] w fun e w' => e = .returned (.tuple #[]) ∧ Only S w w' ∧ Best w' (ext S w w') g k (upL (A.length + 1) (A ++ [h]) A.length) := by
  have hu := Try.underlying29
  have hu2 := Try.underlying22
  obtain ⟨v, hg, ho, hv⟩ := hB.at_
  obtain ⟨ao, cap, rfl⟩ := own_slice ho
  have c0 : w.cell? ⟨g, 0, none⟩ = some (.int .i64 k) := by rw [blk_cell hg]; rfl
  have c1 : w.cell? ⟨g, 1, none⟩ = some (.slice ao A.length cap) := by rw [blk_cell hg]; rfl
  have hgl : g < w.heap.size := blk_lt hg
  have hlt' : decide ((A.length : Int) < (k : Int)) = true := decide_eq_true (by omega)
  have HBB := Aside0.mk hB
  have Hg := Aside0.mk hg
  have Ho := Aside0.mk ho
  have Hv := Aside0.mk hv
  clear hB hg ho hv
  go_enter Try.func25, Try.ntmps25
  go_wp2_with fail
  go_quiet (fail)
  go_wp2_with fail
  refine wp_world (fun w' => Below w.heap.size w w' ∧ w'.heap[w.heap.size]? = some (boxH h)) ⟨pw_below_drewN (below_alloc (Below.refl _ _) _) _, new_block _ _ _ _⟩ ?_
  rintro w1 ⟨hb1, hn1⟩
  clear c0 c1 hlt'
  have hg1 := (hb1.block g hgl).trans Hg.out
  have c1 : w1.cell? ⟨g, 1, none⟩ = some (.slice ao A.length cap) := by rw [blk_cell hg1]; rfl
  have b0 : w1.cell? ⟨w.heap.size, 0, none⟩ = some (.int .i64 h.f0) := by rw [blk_cell hn1]; rfl
  have b1 : w1.cell? ⟨w.heap.size, 1, none⟩ = some (.int .u32 h.f1) := by rw [blk_cell hn1]; rfl
  have HB1 := Aside0.mk hb1
  have Hg1 := Aside0.mk hg1
  have Ho1 := Aside0.mk (pw_own_below Ho.out hb1)
  have HL := Aside0.mk (show (A.length + 1) * 16 ≤ 140737488355328 by have := HBB.out.hk; omega)
  have hgl1 : g < w1.heap.size := Nat.lt_of_lt_of_le hgl hb1.size
  have hwl1 : w.heap.size < w1.heap.size := blk_lt hn1
  clear hb1 hg1 hn1
  go_region_law (refine step_append_cells 0 rfl (.tmp 18) (.tmp 20) 22 29 (.agg #[.int .i64 0, .int .u32 0]) 2 16 rfl hu2 info_hit rfl (by decide) (by decide) (.slice ao A.length cap) A.length (cellsOf A) (enc h) (by simp [Act.eval]) (by simp [Act.eval]) rfl (hit_one h) (pw_own_below Ho1.out (below_drew (Below.refl _ _))) (Below.refl _ _) (Nat.zero_le _) HL.out ?_; intro v1 w2 hown hb hg hat; obtain ⟨a1, k1, rfl⟩ := own_slice hown; have hg2 := Aside0.mk ((hg.block g (Nat.lt_of_lt_of_le hgl HB1.out.size) (fun e => (Hv.out g e.symm).2 rfl)).trans Hg1.out); have c2 : w2.cell? ⟨g, 1, none⟩ = some (.slice ao A.length cap) := (blk_cell hg2.out 1).trans rfl; have f2 : w2.frozen? ⟨g, 1, none⟩ = false := blk_frozen hg2.out 1; have Hown := Aside0.mk hown; have HG2 := Aside0.mk hg; have HAT := Aside0.mk hat; clear hown hb hg hat)
  all_goals
    obtain ⟨hO3, hB3⟩ := appended HBB.out hlt (below_drew HB1.out) Hv.out hg2.out Hown.out HG2.out HAT.out
    have HO3 := Aside0.mk hO3
    have HB3 := Aside0.mk hB3
    clear hO3 hB3
    go_wp2_with ((go_at_call 64; (with_reducible refine (up_best _ g k _ _ HB3.out (by simp)).mono ?_); rintro e w4 ⟨rfl, hO4, hB4⟩; have HO4 := Aside0.mk hO4; have HB4 := Aside0.mk hB4; clear hO4 hB4))
    refine bodyPost_ret (results_none rfl _ _ _) rfl ?_
    refine ⟨rfl, HO3.out.then_ HO4.out (fun i hi hl => hi.elim id (fun x => absurd hl (by omega))), ?_⟩
    have h4 := HB4.out.grow (ext_ext HO3.out.size HO4.out.size) (ext_lt HBB.out.lt (Nat.le_trans HO3.out.size HO4.out.size))
    have e : (A ++ [h]).length = A.length + 1 := by simp
    rw [e] at h4
    exact h4
end Go.Proofs.Ytchiobhklbefjaa.Tk
namespace Go.Proofs.Ytchiobhklbefjaa.Tk
open Go.RowKit Go.Proofs.YtchiobhklbefjaaW.PrintWords Go.Proofs.Ytchiobhklbefjaa.Q
set_option linter.unusedVariables false
set_option linter.unusedSimpArgs false
set_option maxHeartbeats 4000000 in
set_option maxRecDepth 100000 in
theorem put_none (S : Nat → Prop) (g : Nat) (A : List H) (h : H) (w : World) (hB : Best w S g 0 A) :
    Calls Try.prog 25 #[.pointer (some ⟨g, 0, none⟩), .agg #[.int .i64 h.f0, .int .u32 h.f1]] w fun e w' => e = .returned (.tuple #[]) ∧ Below w.heap.size w w' := by
  have hu := Try.underlying29
  have hA := hB.hA
  have hA0 : A.length = 0 := by omega
  obtain ⟨v, hg, ho, hv⟩ := hB.at_
  rw [hA0] at ho
  obtain ⟨ao, cap, rfl⟩ := own_slice ho
  have c0 : w.cell? ⟨g, 0, none⟩ = some (.int .i64 0) := by rw [blk_cell hg]; rfl
  have c1 : w.cell? ⟨g, 1, none⟩ = some (.slice ao 0 cap) := by rw [blk_cell hg]; rfl
  have hgl : g < w.heap.size := blk_lt hg
  clear hB hg ho hv hA hA0
  go_enter Try.func25, Try.ntmps25
  go_wp2_with fail
  go_quiet (fail)
  go_wp2_with fail
  go_quiet (fail)
  go_wp2
  refine bodyPost_end (results_none rfl _ _ _) rfl ?_
  exact ⟨rfl, pw_below_drewN (pw_below_drewN (below_alloc (Below.refl _ _) _) _) _⟩
set_option maxHeartbeats 4000000 in
set_option maxRecDepth 100000 in
theorem put_full (S : Nat → Prop) (g k : Nat) (A : List H) (h : H) (b : Bool) (w : World) (hB : Best w S g k A) (hlt : ¬ A.length < k) (hk : 0 < k) (hb : ltH h (rdH A 0) = b) :
    Calls Try.prog 25 #[.pointer (some ⟨g, 0, none⟩), .agg #[.int .i64 h.f0, .int .u32 h.f1]] w fun e w' => e = .returned (.tuple #[]) ∧ Only S w w' ∧ Best w' (ext S w w') g k (if b then downL (A.length + 1) (A.set 0 h) 0 else A) := by
  have hu := Try.underlying29
  have hA := hB.hA
  have hA0 : 0 < A.length := by omega
  obtain ⟨r, cap, hg, hr, hc, hne, sr⟩ := hB.slice hA0
  obtain ⟨n, hn⟩ : ∃ n, A.length = n := ⟨_, rfl⟩
  have c0 : w.cell? ⟨g, 0, none⟩ = some (.int .i64 k) := by rw [blk_cell hg]; rfl
  have c1 : w.cell? ⟨g, 1, none⟩ = some (.slice (some ⟨r, 0, none⟩) n cap) := by rw [blk_cell hg, hn]; rfl
  have hgl : g < w.heap.size := blk_lt hg
  have hrl : r < w.heap.size := hr.lt
  have hlt' : decide (n < k) = false := decide_eq_false (by omega)
  have hk' : decide ((0 : Int) < (k : Int)) = true := decide_eq_true (by omega)
  have hk2 : decide (0 < k) = true := decide_eq_true hk
  have hn0 : 0 < n := by omega
  have HBB := Aside0.mk hB
  have Hg := Aside0.mk hg
  have Hr := Aside0.mk hr
  have HC := Aside0.mk hc
  have HN := Aside0.mk hn
  have Hb := Aside0.mk hb
  clear hB hg hr hc hb hA hA0 hn
  go_enter Try.func25, Try.ntmps25
  go_wp2_with fail
  go_quiet (fail)
  go_wp2_with fail
  refine wp_world (fun w' => Below w.heap.size w w' ∧ w'.heap[w.heap.size]? = some (boxH h)) ⟨pw_below_drewN (below_alloc (Below.refl _ _) _) _, new_block _ _ _ _⟩ ?_
  rintro w1 ⟨hb1, hn1⟩
  clear c0 c1 hlt'
  have hg1 := (hb1.block g hgl).trans Hg.out
  have hr1 := Hr.out.below (hb1.block r hrl)
  have c0 : w1.cell? ⟨g, 0, none⟩ = some (.int .i64 k) := by rw [blk_cell hg1]; rfl
  have c1 : w1.cell? ⟨g, 1, none⟩ = some (.slice (some ⟨r, 0, none⟩) n cap) := by rw [blk_cell hg1, HN.out]; rfl
  have b0 : w1.cell? ⟨w.heap.size, 0, none⟩ = some (.int .i64 h.f0) := by rw [blk_cell hn1]; rfl
  have b1 : w1.cell? ⟨w.heap.size, 1, none⟩ = some (.int .u32 h.f1) := by rw [blk_cell hn1]; rfl
  obtain ⟨p0, p1, _, _⟩ := hr1.rd 0 (by have := HN.out; omega)
  rw [Nat.zero_mul] at p0 p1
  have HB1 := Aside0.mk hb1
  have HN1 := Aside0.mk hn1
  clear hb1 hn1 hg1 hr1
  go_still_tail 13, (by kernel_rfl)
  change wpList _ _ _ _ _ w1.drew
  have HB2 := Aside0.mk (below_drew HB1.out)
  have HN2 := Aside0.mk (show w1.drew.heap[w.heap.size]? = some (boxH h) from HN1.out)
  generalize w1.drew = w2 at HB2 HN2
  clear c0 c1 b0 b1 p0 p1 HB1 HN1
  cases b with
  | false =>
    go_wp2_with ((go_at_call 65; (with_reducible refine (less_below h (rdH A 0) _ Hb.out _).mono ?_); rintro e w3 ⟨rfl, hb3⟩; have HB3 := Aside0.mk (below_then HB2.out HB2.out.size hb3); clear hb3))
    refine bodyPost_end (results_none rfl _ _ _) rfl ?_
    exact ⟨rfl, Only.of_below HB3.out, (HBB.out.below HB3.out).grow (fun i hi => .inl hi) (ext_lt HBB.out.lt HB3.out.size)⟩
  | true =>
    go_wp2_with ((go_at_call 65; (with_reducible refine (less_below h (rdH A 0) _ Hb.out _).mono ?_); rintro e w3 ⟨rfl, hb3⟩; have HB3 := Aside0.mk (below_then HB2.out HB2.out.size hb3); have HN3 := Aside0.mk ((hb3.block w.heap.size (blk_lt HN2.out)).trans HN2.out); clear hb3))
    have hg3 := (HB3.out.block g hgl).trans Hg.out
    have hr3 := Hr.out.below (HB3.out.block r hrl)
    have c1 : w3.cell? ⟨g, 1, none⟩ = some (.slice (some ⟨r, 0, none⟩) n cap) := by rw [blk_cell hg3, HN.out]; rfl
    have b0 : w3.cell? ⟨w.heap.size, 0, none⟩ = some (.int .i64 h.f0) := by rw [blk_cell HN3.out]; rfl
    have b1 : w3.cell? ⟨w.heap.size, 1, none⟩ = some (.int .u32 h.f1) := by rw [blk_cell HN3.out]; rfl
    obtain ⟨p0, p1, q0, q1⟩ := hr3.rd 0 (by have := HN.out; omega)
    rw [Nat.zero_mul] at p0 p1 q0 q1
    have hr4 := Aside0.mk (hr3.set 0 h (by have := HN.out; omega))
    rw [Nat.zero_mul] at hr4
    have HG3 := Aside0.mk hg3
    clear hg3 hr3
    go_region
    all_goals
      have hO4 : Only S w (((w3.setCell ⟨r, 0, none⟩ (.int .i64 h.f0)).setCell ⟨r, 0 + 1, none⟩ (.int .u32 h.f1)).drew) := (((Only.of_below HB3.out).set ⟨r, 0, none⟩ _ sr).set ⟨r, 0 + 1, none⟩ _ sr).below (below_drew (Below.refl _ _))
      have hg4 : (((w3.setCell ⟨r, 0, none⟩ (.int .i64 h.f0)).setCell ⟨r, 0 + 1, none⟩ (.int .u32 h.f1)).drew).heap[g]? = some (.cells #[.int .i64 k, .slice (some ⟨r, 0, none⟩) (A.set 0 h).length cap] 107 (0, 0)) := by
        have := blk_far (p := ⟨r, 0 + 1, none⟩) (blk_far (p := ⟨r, 0, none⟩) HG3.out hne (.int .i64 h.f0)) hne (.int .u32 h.f1)
        rw [List.length_set]; exact this
      have hB4 : Best (((w3.setCell ⟨r, 0, none⟩ (.int .i64 h.f0)).setCell ⟨r, 0 + 1, none⟩ (.int .u32 h.f1)).drew) (ext S w (((w3.setCell ⟨r, 0, none⟩ (.int .i64 h.f0)).setCell ⟨r, 0 + 1, none⟩ (.int .u32 h.f1)).drew)) g k (A.set 0 h) :=
        Best.mk' hg4 (hr4.out.below rfl) HC.out hne (.inl sr) (.inl HBB.out.sg) (ext_lt HBB.out.lt hO4.size) HBB.out.hk (by rw [List.length_set]; exact HBB.out.hA)
      have HO4 := Aside0.mk hO4
      have HB4 := Aside0.mk hB4
      clear hO4 hg4 hB4
      go_wp2_with ((go_at_call 66; (with_reducible refine (down_best _ g k _ _ HB4.out (by rw [List.length_set]; have := HN.out; omega)).mono ?_); rintro e w5 ⟨rfl, hO5, hB5⟩; have HO5 := Aside0.mk hO5; have HB5 := Aside0.mk hB5; clear hO5 hB5))
      refine bodyPost_end (results_none rfl _ _ _) rfl ?_
      refine ⟨rfl, HO4.out.then_ HO5.out (fun i hi hl => hi.elim id (fun x => absurd hl (by omega))), ?_⟩
      have h4 := HB5.out.grow (ext_ext HO4.out.size HO5.out.size) (ext_lt HBB.out.lt (Nat.le_trans HO4.out.size HO5.out.size))
      rw [List.length_set] at h4
      exact h4
theorem put_calls (S : Nat → Prop) (g k : Nat) (A : List H) (h : H) (w : World) (hB : Best w S g k A) :
    Calls Try.prog 25 #[.pointer (some ⟨g, 0, none⟩), .agg #[.int .i64 h.f0, .int .u32 h.f1]] w fun e w' => e = .returned (.tuple #[]) ∧ Only S w w' ∧ Best w' (ext S w w') g k (putL k A h) := by
  unfold putL
  by_cases hlt : A.length < k
  · rw [if_pos hlt]; exact put_room S g k A h w hB hlt
  · rw [if_neg hlt]
    rcases Nat.eq_zero_or_pos k with hk | hk
    · subst hk
      rw [if_neg (by omega)]
      exact (put_none S g A h w hB).mono fun e w' ⟨he, hb⟩ => ⟨he, Only.of_below hb, (hB.below hb).grow (fun i hi => .inl hi) (ext_lt hB.lt hb.size)⟩
    · refine (put_full S g k A h _ w hB hlt hk rfl).mono fun e w' ⟨he, hO, hb⟩ => ⟨he, hO, ?_⟩
      cases hl : ltH h (rdH A 0) with
      | false => rw [hl] at hb; rw [if_neg (by simp)]; exact hb
      | true => rw [hl] at hb; rw [if_pos ⟨hk, rfl⟩]; exact hb
end Go.Proofs.Ytchiobhklbefjaa.Tk
namespace Go.Proofs.Ytchiobhklbefjaa.Tk
open Go.RowKit Go.Proofs.YtchiobhklbefjaaW.PrintWords Go.Proofs.YtchiobhklbefjaaW.PrintLast Go.Proofs.YtchiobhklbefjaaW.PrintMore Go.Proofs.Ytchiobhklbefjaa.Q
attribute [local go_sem] max2_int min2_int max_two min_two
set_option linter.unusedVariables false
set_option linter.unusedSimpArgs false
def clamp (a : Int) : Nat := (max 0 (min a 256)).toNat
/-- The blocks that were made between w and w'. -/
def fresh (w w' : World) (i : Nat) : Prop := w.heap.size ≤ i ∧ i < w'.heap.size
theorem new_best (a c : Int) (w : World) (hc : c = (clamp a : Nat)) : Best (w.alloc (.cells #[.int .i64 c, .slice none 0 0] 107)) (fresh w (w.alloc (.cells #[.int .i64 c, .slice none 0 0] 107))) w.heap.size (clamp a) [] := by
  subst hc
  have hs : (w.alloc (.cells #[.int .i64 (clamp a : Nat), .slice none 0 0] 107)).heap.size = w.heap.size + 1 := by simp
  refine ⟨⟨_, heap_alloc_new w _, own_nil _ _ _ _, fun j hj => by simp [Value.ownBlock] at hj⟩, ⟨Nat.le_refl _, by omega⟩, fun i hi => hi.2, by unfold clamp; omega, by simp⟩
set_option maxHeartbeats 2000000 in
set_option maxRecDepth 100000 in
theorem new_calls (a : Int) (w : World) :
    Calls Try.prog 24 #[.int .i64 a] w fun e w' => e = .returned (.pointer (some ⟨w.heap.size, 0, none⟩)) ∧ Below w.heap.size w w' ∧ Best w' (fresh w w') w.heap.size (clamp a) [] := by
  have hu := Try.underlying107
  go_enter Try.func24, Try.ntmps24
  go_wp2
  all_goals
    go_ret
    exact ⟨rfl, below_alloc (Below.refl _ _) _, new_best a _ w (by unfold clamp; omega)⟩
set_option maxHeartbeats 2000000 in
set_option maxRecDepth 100000 in
theorem len_calls (S : Nat → Prop) (g k : Nat) (A : List H) (w : World) (hB : Best w S g k A) :
    Calls Try.prog 28 #[.pointer (some ⟨g, 0, none⟩)] w fun e w' => e = .returned (.int .i64 A.length) ∧ w' = w := by
  obtain ⟨v, hg, ho, hv⟩ := hB.at_
  obtain ⟨ao, cap, rfl⟩ := own_slice ho
  have c1 : w.cell? ⟨g, 1, none⟩ = some (.slice ao A.length cap) := by rw [blk_cell hg]; rfl
  clear hB hg ho hv
  go_enter Try.func28, Try.ntmps28
  go_wp2
  go_ret
  exact ⟨rfl, rfl⟩
set_option maxHeartbeats 2000000 in
set_option maxRecDepth 100000 in
theorem worst_none (S : Nat → Prop) (g k : Nat) (b : Bool) (w : World) (hB : Best w S g k []) (hb : decide (0 = k) = b) :
    Calls Try.prog 31 #[.pointer (some ⟨g, 0, none⟩)] w fun e w' => e = .returned (.tuple #[.agg #[.int .i64 0, .int .u32 0], .bool b]) ∧ Below w.heap.size w w' := by
  have hu := Try.underlying29
  obtain ⟨v, hg, ho, hv⟩ := hB.at_
  obtain ⟨ao, cap, rfl⟩ := own_slice ho
  have c0 : w.cell? ⟨g, 0, none⟩ = some (.int .i64 k) := by rw [blk_cell hg]; rfl
  have c1 : w.cell? ⟨g, 1, none⟩ = some (.slice ao 0 cap) := by rw [blk_cell hg]; rfl
  have hgl : g < w.heap.size := blk_lt hg
  have e1 : ((k : Int) == 0) = b := by rw [← hb]; cases k <;> simp; omega
  clear hB hg ho hv hb
  go_enter Try.func31, Try.ntmps31
  go_wp2_with fail
  go_region
  all_goals
    go_wp2
    exact bodyPost_ret (v := .tuple #[.agg #[.int .i64 0, .int .u32 0], .bool b]) (by simp [results, Try.results31, go_sem]) rfl ⟨rfl, below_drew (below_alloc (Below.refl _ _) _)⟩
set_option maxHeartbeats 2000000 in
set_option maxRecDepth 100000 in
theorem worst_some (S : Nat → Prop) (g k : Nat) (A : List H) (b : Bool) (w : World) (hB : Best w S g k A) (hA : 0 < A.length) (hb : decide (A.length = k) = b) :
    Calls Try.prog 31 #[.pointer (some ⟨g, 0, none⟩)] w fun e w' => e = .returned (.tuple #[.agg #[.int .i64 (rdH A 0).f0, .int .u32 (rdH A 0).f1], .bool b]) ∧ Below w.heap.size w w' := by
  have hu := Try.underlying29
  obtain ⟨r, cap, hg, hr, hc, hne, sr⟩ := hB.slice hA
  obtain ⟨n, hn⟩ : ∃ n, A.length = n := ⟨_, rfl⟩
  have c0 : w.cell? ⟨g, 0, none⟩ = some (.int .i64 k) := by rw [blk_cell hg]; rfl
  have c1 : w.cell? ⟨g, 1, none⟩ = some (.slice (some ⟨r, 0, none⟩) n cap) := by rw [blk_cell hg, hn]; rfl
  obtain ⟨p0, p1, _, _⟩ := hr.rd 0 hA
  rw [Nat.zero_mul] at p0 p1
  have hgl : g < w.heap.size := blk_lt hg
  have hrl : r < w.heap.size := hr.lt
  have hn0 : 0 < n := by omega
  have e1 : ((n : Int) == (k : Int)) = b := by rw [← hb, hn]; by_cases h : n = k <;> simp [h]; omega
  have e2 : ((n : Int) == 0) = false := beq_eq_false_iff_ne.2 (by omega)
  have e3 : (n == k) = b := by rw [← hb, hn]; by_cases h : n = k <;> simp [h]
  clear hB hg hr hc hb hn hA
  go_enter Try.func31, Try.ntmps31
  go_wp2_with fail
  go_region
  all_goals
    go_wp2
    exact bodyPost_ret (v := .tuple #[.agg #[.int .i64 (rdH A 0).f0, .int .u32 (rdH A 0).f1], .bool b]) (by simp [results, Try.results31, go_sem]) rfl ⟨rfl, below_drew (below_alloc (Below.refl _ _) _)⟩
end Go.Proofs.Ytchiobhklbefjaa.Tk
namespace Go.Proofs.Ytchiobhklbefjaa.Tk
open Go.RowKit Go.Proofs.YtchiobhklbefjaaW.PrintWords Go.Proofs.Ytchiobhklbefjaa.Q
set_option linter.unusedVariables false
set_option linter.unusedSimpArgs false
instance : Inhabited H := ⟨⟨0, 0⟩⟩
def cmpH (a b : H) : Int := if ltH a b = true then -1 else if a.f0 = b.f0 ∧ a.f1 = b.f1 then 0 else 1
theorem cmp_eq {a b : H} (h : ltH a b = false) (h2 : a.f0 = b.f0 ∧ a.f1 = b.f1) : cmpH a b = 0 := by unfold cmpH; rw [h, if_neg (by simp), if_pos h2]
theorem cmp_gt {a b : H} (h : ltH a b = false) (h2 : ¬ (a.f0 = b.f0 ∧ a.f1 = b.f1)) : cmpH a b = 1 := by unfold cmpH; rw [h, if_neg (by simp), if_neg h2]
set_option maxHeartbeats 2000000 in
set_option maxRecDepth 100000 in
theorem cmp_calls (a b : H) (w : World) :
    Calls Try.prog 101 #[.agg #[.int .i64 a.f0, .int .u32 a.f1], .agg #[.int .i64 b.f0, .int .u32 b.f1]] w fun e w' => e = .returned (.int .i64 (cmpH a b)) ∧ w' = (((w.alloc (boxH a)).alloc (boxH b)).alloc (boxH a)).alloc (boxH b) := by
  have hu := Try.underlying29
  have hlc := fun W => less_calls a.f0 a.f1 b.f0 b.f1 W
  obtain ⟨l, hl⟩ : ∃ l, ltH a b = l := ⟨_, rfl⟩
  have hle : ltH ⟨a.f0, a.f1⟩ ⟨b.f0, b.f1⟩ = l := hl
  rw [hle] at hlc
  have HL := Aside0.mk hl
  clear hl hle
  cases l with
  | true =>
    go_enter Try.func101, Try.ntmps101
    go_wp2_with ((go_at_call 65; (with_reducible refine (hlc _).mono ?_); rintro e w3 ⟨rfl, rfl⟩))
    go_ret
    exact ⟨by unfold cmpH; rw [HL.out]; rfl, rfl⟩
  | false =>
    by_cases h0 : a.f0 = b.f0
    · have e0 : (a.f0 == b.f0) = true := beq_iff_eq.2 h0
      by_cases h1 : a.f1 = b.f1
      · have e1 : (a.f1 == b.f1) = true := beq_iff_eq.2 h1
        have HE := Aside0.mk (show a.f0 = b.f0 ∧ a.f1 = b.f1 from ⟨h0, h1⟩)
        clear h0 h1
        go_enter Try.func101, Try.ntmps101
        go_wp2_with ((go_at_call 65; (with_reducible refine (hlc _).mono ?_); rintro e w3 ⟨rfl, rfl⟩))
        go_ret
        exact ⟨congrArg (fun z => Ending.returned (Value.int .i64 z)) (cmp_eq HL.out HE.out).symm, rfl⟩
      · have e1 : (a.f1 == b.f1) = false := beq_eq_false_iff_ne.2 h1
        have HE := Aside0.mk (show ¬ (a.f0 = b.f0 ∧ a.f1 = b.f1) from fun x => h1 x.2)
        clear h0 h1
        go_enter Try.func101, Try.ntmps101
        go_wp2_with ((go_at_call 65; (with_reducible refine (hlc _).mono ?_); rintro e w3 ⟨rfl, rfl⟩))
        go_ret
        exact ⟨congrArg (fun z => Ending.returned (Value.int .i64 z)) (cmp_gt HL.out HE.out).symm, rfl⟩
    · have e0 : (a.f0 == b.f0) = false := beq_eq_false_iff_ne.2 h0
      have HE := Aside0.mk (show ¬ (a.f0 = b.f0 ∧ a.f1 = b.f1) from fun x => h0 x.1)
      clear h0
      go_enter Try.func101, Try.ntmps101
      go_wp2_with ((go_at_call 65; (with_reducible refine (hlc _).mono ?_); rintro e w3 ⟨rfl, rfl⟩))
      go_ret
      exact ⟨congrArg (fun z => Ending.returned (Value.int .i64 z)) (cmp_gt HL.out HE.out).symm, rfl⟩
theorem ltH_irrefl (a : H) : ltH a a = false := by simp [ltH]
theorem ltH_iff (a b : H) : ltH a b = true ↔ a.f0 < b.f0 ∨ (a.f0 = b.f0 ∧ a.f1 < b.f1) := by simp [ltH]
theorem ltH_no (a b : H) : ltH a b = false ↔ ¬ (a.f0 < b.f0 ∨ (a.f0 = b.f0 ∧ a.f1 < b.f1)) := by rw [← ltH_iff]; simp
theorem ltOf_cmp : Go.Proofs.ltOf cmpH = ltH := by
  funext a b
  unfold Go.Proofs.ltOf cmpH
  cases h : ltH a b with
  | true => simp
  | false => by_cases h2 : a.f0 = b.f0 ∧ a.f1 = b.f1 <;> simp [h2]
theorem swo : Go.Sort.SWO ltH where
  irrefl := ltH_irrefl
  trans x y z h1 h2 := by rw [ltH_iff] at *; omega
  ntrans x y z h1 h2 := by rw [ltH_no] at *; omega
theorem ltH_total (x y : H) (h1 : ltH x y = false) (h2 : ltH y x = false) : x = y := by
  rw [ltH_no] at h1 h2
  cases x; cases y
  simp only [S29.mk.injEq] at *
  omega
/-- A list of hits, in order. -/
def sortH (A : List H) : List H := A.mergeSort fun x y => !ltH y x
theorem sortH_perm (A : List H) : (sortH A).Perm A := List.mergeSort_perm A _
theorem sortH_len (A : List H) : (sortH A).length = A.length := List.length_mergeSort A
theorem isAgg_hit : ∀ w, (isAgg 29).run Try.prog w = .ok true w := fun w => by kernel_rfl
theorem sizeOf_hit : ∀ w, (Go.sizeOf 29).run Try.prog w = .ok 2 w := fun w => by kernel_rfl
theorem flat_get (A : List H) (t : Nat) (h : t < A.length * 2) : (cellsOf A)[t]? = some (Go.Sort.flatK enc 2 A.toArray)[t]! := by
  rw [Go.Sort.get_flatK enc 2 _ t (by simpa using h)]
  have hi : t / 2 < A.length := by omega
  obtain ⟨g0, g1⟩ := cellsOf_get A (t / 2) hi
  have e : A.toArray[t / 2]! = A[t / 2] := by simp [hi]
  rw [e]
  rcases Nat.mod_two_eq_zero_or_one t with hm | hm
  · have ht : t / 2 * 2 = t := by omega
    rw [ht] at g0
    rw [hm, g0]
    rfl
  · have ht : t / 2 * 2 + 1 = t := by omega
    rw [ht] at g1
    rw [hm, g1]
    rfl
theorem holds_of_row {w : World} {r cap : Nat} {A : List H} (h : RowAt w r cap A) : Go.Sort.HoldsK enc 2 w r 0 A.toArray := by
  intro t ht
  have ht' : t < A.length * 2 := by simpa using ht
  have hf := flat_get A t ht'
  obtain ⟨rest, hb, hl⟩ := h.out
  have hc := cellsOf_len A
  refine ⟨?_, blk_frozen hb _⟩
  rw [Nat.zero_add, blk_cell hb, List.getElem?_toArray, List.getElem?_append_left (by omega)]
  exact hf
theorem put_row {w : World} {r cap n : Nat} {A B : List H} {os : Array Obj} (h : RowAt w r cap A) (hAB : B.length = A.length) : RowAt (Go.Proofs.sortWorldK enc 2 w r 0 n B.toArray os) r cap B := by
  obtain ⟨rest, hb, hl⟩ := h.out
  have hr := blk_lt hb
  have hc := cellsOf_len A
  have hc2 := cellsOf_len B
  refine ⟨rest, ?_, by rw [List.length_append] at *; omega⟩
  have h1 : (Go.Sort.putRowK enc 2 (Go.Sort.ahead w n) r 0 B.toArray).heap[r]? = some (.cells (Go.Sort.putCells id 0 (Go.Sort.flatK enc 2 B.toArray) (cellsOf A ++ rest).toArray) 29 (0, 0)) := by
    simp only [Go.Sort.putRowK, Go.Sort.putRow, Go.Sort.mapBlock, Go.Sort.ahead, Array.getElem?_modify, hb]
    simp [Go.Sort.onCells]
  have h2 : Go.Sort.putCells id 0 (Go.Sort.flatK enc 2 B.toArray) (cellsOf A ++ rest).toArray = (cellsOf B ++ rest).toArray := by
    apply Array.ext_getElem?
    intro t
    simp only [Go.Sort.putCells, Array.getElem?_mapIdx, List.getElem?_toArray, Nat.zero_le, true_and, Nat.zero_add, Nat.sub_zero, Go.Sort.size_flatK, List.size_toArray]
    by_cases ht : t < B.length * 2
    · rw [List.getElem?_append_left (by omega), List.getElem?_append_left (by omega), flat_get B t ht, flat_get A t (by omega)]
      simp [ht]
    · rw [List.getElem?_append_right (by omega), List.getElem?_append_right (by omega), hc, hc2, hAB]
      have ht' : ¬ t < A.length * 2 := by omega
      cases hre : rest[t - A.length * 2]? <;> simp [ht', hAB]
  rw [h2] at h1
  show (Go.Sort.grow _ os).heap[r]? = _
  have hsz : r < (Go.Sort.putRowK enc 2 (Go.Sort.ahead w n) r 0 B.toArray).heap.size := blk_lt h1
  simp only [Go.Sort.grow]
  rw [Array.getElem?_append_left hsz]
  exact h1
theorem only_sort (w : World) (r n : Nat) (B : List H) (os : Array Obj) : Only (· = r) w (Go.Proofs.sortWorldK enc 2 w r 0 n B.toArray os) := by
  refine ⟨rfl, rfl, rfl, ?_, fun k hk hs => ?_⟩
  · simp [Go.Proofs.sortWorldK, Go.Sort.grow, Go.Sort.putRowK, Go.Sort.putRow, Go.Sort.mapBlock, Go.Sort.ahead]
  · simp only [Go.Proofs.sortWorldK, Go.Sort.grow, Go.Sort.putRowK, Go.Sort.putRow, Go.Sort.mapBlock, Go.Sort.ahead]
    rw [Array.getElem?_append_left (by simpa using hk), Array.getElem?_modify, if_neg (fun e => hs e.symm)]
theorem enters_cmp : ∀ args w, (callFunc 101 args).run Try.prog w = .ok (.enter 101 args) w := Go.Proofs.enters_of Try.func101 (by kernel_rfl) rfl
theorem cmp_lays (blk off size : Nat) (w : World) : Go.Proofs.CmpLays Try.prog 101 #[] enc 2 cmpH blk off size w := by
  intro m os dk hs x y
  refine (cmp_calls x y _).mono fun e w' ⟨he, hw⟩ => ⟨he, 0, #[boxH x, boxH y, boxH x, boxH y], ?_⟩
  rw [hw, Go.Sort.alloc_eq_grow, Go.Sort.alloc_eq_grow, Go.Sort.alloc_eq_grow, Go.Sort.alloc_eq_grow, Go.Sort.grow_grow, Go.Sort.grow_grow, Go.Sort.grow_grow]
  rfl
/-- slices.SortFunc at a row of hits. -/
theorem sort_calls (r cap : Nat) (A : List H) (w : World) (h : RowAt w r cap A) (hl : A.length ≤ 1000000) :
    Calls Try.prog 68 #[.slice (some ⟨r, 0, none⟩) A.length cap, .func (.func 101) #[] #[]] w fun e w' => e = .returned (.tuple #[]) ∧ Only (· = r) w w' ∧ RowAt w' r cap (sortH A) := by
  have hs : A.toArray.size = A.length := by simp
  have hc := Go.Proofs.AnyQ.slices_SortFunc_total Try.sortHit 2 isAgg_hit sizeOf_hit enc (fun _ => rfl) (fun x => hit_one x) cmpH (by rw [ltOf_cmp]; exact swo) 101 #[] r 0 cap A.toArray w enters_cmp (cmp_lays r 0 _ w) (holds_of_row h) h.lt (by rw [hs]; omega) (by rw [ltOf_cmp]; exact ltH_total)
  rw [hs] at hc
  refine hc.mono fun e w' ⟨he, n, os, hw⟩ => ?_
  rw [ltOf_cmp] at hw
  subst hw
  exact ⟨he, only_sort w r n (sortH A) os, put_row h (sortH_len A)⟩
end Go.Proofs.Ytchiobhklbefjaa.Tk
namespace Go.Proofs.Ytchiobhklbefjaa.Tk
open Go.RowKit Go.Proofs.YtchiobhklbefjaaW.PrintWords Go.Proofs.YtchiobhklbefjaaW.PrintLast Go.Proofs.YtchiobhklbefjaaW.PrintMore Go.Proofs.Ytchiobhklbefjaa.Q
attribute [local go_sem] max2_int min2_int max_two min_two
set_option linter.unusedVariables false
set_option linter.unusedSimpArgs false
/-- A slice value reads as the list A: nil and empty, or an address from which the cells of A lie. -/
def ReadsH (w : World) (ao : Option Addr) (cap : Nat) (A : List H) : Prop :=
  A.length ≤ cap ∧ ((ao = none ∧ A = [] ∧ cap = 0) ∨ ∃ ad, ao = some ad ∧ ∀ j u, (cellsOf A)[j]? = some u → w.cell? (ad.add j) = some u)
theorem cells_one {A : List H} : ∀ u ∈ cellsOf A, u.oneCell' = true := by
  intro u hu
  obtain ⟨h, _, hh⟩ := List.mem_flatMap.1 hu
  exact hit_one h u hh
theorem info_hit2 : ∃ i, Try.prog.info? 29 = some i ∧ i.zero = some (.agg #[.int .i64 0, .int .u32 0]) ∧ i.size = 2 ∧ i.bytes = 16 := by
  obtain ⟨i0, hi, hzz⟩ := Option.map_eq_some_iff.1 info_hit
  simp only [Prod.mk.injEq] at hzz
  exact ⟨i0, hi, hzz⟩
set_option maxHeartbeats 2000000 in
set_option maxRecDepth 100000 in
theorem clone_nil (w : World) :
    Calls Try.prog 67 #[.slice none 0 0] w fun e w' => e = .returned (.slice none 0 0) ∧ w' = w := by
  have q22 : ∀ (w : World) (a : Option Addr) (n c n' c' : Nat), (binOp .eql 22 (.slice a n c) (.slice none n' c')).run Try.prog w = .ok (.bool a.isNone) w := fun w a n c n' c' => Lib.run_eql_slice_nil w _ _ a n c n' c' Try.underlying22
  go_enter Try.func67, Try.ntmps67
  go_wp2
  go_ret
  exact ⟨rfl, rfl⟩
theorem own_empty (w : World) : (w.alloc (.cells #[] 29)).ownsRow w.heap.size 29 2 (.slice (some ⟨w.heap.size, 0, none⟩) 0 0) 0 [] :=
  ⟨rfl, .inr ⟨w.heap.size, 0, #[], rfl, Nat.le_refl _, heap_alloc_new w _, Nat.le_refl _, by unfold maxLen; omega, rfl, rfl⟩⟩
set_option maxHeartbeats 2000000 in
set_option maxRecDepth 100000 in
theorem clone_some (ad : Addr) (cap : Nat) (A : List H) (w : World) (hl : A.length ≤ 1000000) (hr : ∀ j u, (cellsOf A)[j]? = some u → w.cell? (ad.add j) = some u) :
    Calls Try.prog 67 #[.slice (some ad) A.length cap] w fun e w' => (∃ v, e = .returned v ∧ w'.ownsRow w.heap.size 29 2 v A.length (cellsOf A)) ∧ Below w.heap.size w w' := by
  obtain ⟨i0, hi, hz, hs, hb⟩ := info_hit2
  have hu2 := Try.underlying22
  have HR := Aside0.mk hr
  have HI := Aside0.mk hi
  clear hr hi
  have q22 : ∀ (w : World) (a : Option Addr) (n c n' c' : Nat), (binOp .eql 22 (.slice a n c) (.slice none n' c')).run Try.prog w = .ok (.bool a.isNone) w := fun w a n c n' c' => Lib.run_eql_slice_nil w _ _ a n c n' c' Try.underlying22
  go_enter Try.func67, Try.ntmps67
  go_wp2_with (at_builtin; go_must (refine wpList_append_own _ rfl _ _ _ rfl w.heap.size 29 i0 (.agg #[.int .i64 0, .int .u32 0]) 2 16 hu2 HI.out hz hs hb rfl (by decide) (.slice (some ⟨w.heap.size, 0, none⟩) 0 0) 0 [] rfl ?c1 ad A.length cap (cellsOf A) rfl (cellsOf_len A) ?c2 cells_one ?c3 ?c4 ?c5 ?_))
  case c1 => exact own_empty w
  case c2 => exact fun j u hu => pw_cell_below (below_alloc (Below.refl _ _) _) (HR.out j u hu)
  case c3 => unfold maxLen; omega
  case c4 => omega
  case c5 => simp
  intro v' w2 hown hg hne
  have hb2 := pw_below_grown (below_alloc (Below.refl w.heap.size w) (.cells #[] 29)) _ (by simp) hg (fun k hk => by simp only [Value.ownBlock, Option.some.injEq] at hk; omega)
  have HOW := Aside0.mk hown
  have HB2 := Aside0.mk hb2
  clear hown hg hne hb2
  go_wp2
  go_ret
  exact ⟨⟨v', rfl, HOW.out⟩, HB2.out⟩
/-- What a list that is told reads as: a row of its own, from block base on. -/
def OwnH (w : World) (base : Nat) (v : Value) (A : List H) : Prop := w.ownsRow base 29 2 v A.length (cellsOf A)
theorem OwnH.weaken {w : World} {b b' : Nat} {v : Value} {A : List H} (h : OwnH w b v A) (hb : b' ≤ b) : OwnH w b' v A := own_weaken h hb
theorem OwnH.row {w : World} {b : Nat} {v : Value} {A : List H} (h : OwnH w b v A) : (v = .slice none 0 0 ∧ A = []) ∨ ∃ r cap, v = .slice (some ⟨r, 0, none⟩) A.length cap ∧ b ≤ r ∧ cap ≤ maxLen ∧ RowAt w r cap A := by
  rcases h.2 with ⟨rfl, h0⟩ | ⟨g, cap, cur, rfl, hb, hh, h1, h2, h3, h4⟩
  · exact .inl ⟨rfl, List.length_eq_zero_iff.1 h0⟩
  · refine .inr ⟨g, cap, rfl, hb, h2, cur.toList.drop (A.length * 2), ?_, ?_⟩
    · have e : cellsOf A ++ cur.toList.drop (A.length * 2) = cur.toList := by rw [← h4, List.take_append_drop]
      rw [e, hh]
    · have e : cellsOf A ++ cur.toList.drop (A.length * 2) = cur.toList := by rw [← h4, List.take_append_drop]
      rw [e, Array.length_toList, h3]
theorem RowAt.own {w : World} {r cap b : Nat} {A : List H} (h : RowAt w r cap A) (hc : cap ≤ maxLen) (hb : b ≤ r) : OwnH w b (.slice (some ⟨r, 0, none⟩) A.length cap) A := by
  have hle := h.le
  obtain ⟨rest, hb', hl⟩ := h.out
  exact ⟨cellsOf_len A, .inr ⟨r, cap, _, rfl, hb, hb', hle, hc, by simpa using hl, by rw [← cellsOf_len A]; simp⟩⟩
theorem RowAt.reads {w : World} {r cap : Nat} {A : List H} (h : RowAt w r cap A) : ∀ j u, (cellsOf A)[j]? = some u → w.cell? ((⟨r, 0, none⟩ : Addr).add j) = some u := by
  intro j u hu
  obtain ⟨rest, hb, hl⟩ := h.out
  rw [add_plain, blk_cell hb, List.getElem?_toArray, List.getElem?_append_left (List.getElem?_eq_some_iff.1 hu).1]
  exact hu
/-- slices.Clone at what reads as A: nil, or a row of its own. -/
theorem clone_calls (ao : Option Addr) (cap : Nat) (A : List H) (w : World) (hl : A.length ≤ 1000000) (hr : ReadsH w ao cap A) :
    Calls Try.prog 67 #[.slice ao A.length cap] w fun e w' => (∃ v, e = .returned v ∧ OwnH w' w.heap.size v A) ∧ Below w.heap.size w w' := by
  rcases hr.2 with ⟨rfl, rfl, rfl⟩ | ⟨ad, rfl, hr2⟩
  · exact (clone_nil w).mono fun e w' ⟨he, hw⟩ => ⟨⟨_, he, by subst hw; exact own_nil _ _ _ _⟩, by subst hw; exact Below.refl _ _⟩
  · exact (clone_some ad cap A w hl hr2)
theorem Best.reads {w : World} {S : Nat → Prop} {g k : Nat} {A : List H} (h : Best w S g k A) : ∃ ao cap, w.heap[g]? = some (.cells #[.int .i64 k, .slice ao A.length cap] 107 (0, 0)) ∧ ReadsH w ao cap A := by
  obtain ⟨v, hg, ho, hv⟩ := h.at_
  rcases OwnH.row ho with ⟨rfl, rfl⟩ | ⟨r, cap, rfl, _, hc, hr⟩
  · exact ⟨none, 0, hg, by simp, .inl ⟨rfl, rfl, rfl⟩⟩
  · exact ⟨some ⟨r, 0, none⟩, cap, hg, hr.le, .inr ⟨_, rfl, hr.reads⟩⟩
/-- slices.SortFunc at a row of its own, nil too. -/
theorem sort_own (b : Nat) (v : Value) (A : List H) (w : World) (h : OwnH w b v A) (hl : A.length ≤ 1000000) :
    Calls Try.prog 68 #[v, .func (.func 101) #[] #[]] w fun e w' => e = .returned (.tuple #[]) ∧ Only (fun k => v.ownBlock = some k) w w' ∧ OwnH w' b v (sortH A) := by
  rcases h.row with ⟨rfl, rfl⟩ | ⟨r, cap, rfl, hb, hc, hr⟩
  · refine (Go.Proofs.AnyF.slices_SortFunc_none Try.sortHit none 0 _ w).mono fun e w' ⟨he, hw⟩ => ?_
    subst hw
    exact ⟨he, Only.refl _ _, by have : sortH [] = [] := List.length_eq_zero_iff.1 (sortH_len []); rw [this]; exact own_nil _ _ _ _⟩
  · refine (sort_calls r cap A w hr hl).mono fun e w' ⟨he, hO, hR⟩ => ⟨he, hO.mono (fun k hk => by subst hk; rfl), ?_⟩
    have := hR.own hc hb
    rw [sortH_len] at this
    exact this
set_option maxHeartbeats 2000000 in
set_option maxRecDepth 100000 in
theorem order_calls (w : World) : Calls Try.prog 69 #[] w fun e w' => e = .returned (.func (.func 101) #[] #[]) ∧ w' = w := by
  go_enter Try.func69, Try.ntmps69
  go_wp2
  go_ret
  exact ⟨rfl, rfl⟩
set_option maxHeartbeats 2000000 in
set_option maxRecDepth 100000 in
theorem list_calls (S : Nat → Prop) (g k : Nat) (A : List H) (w : World) (hB : Best w S g k A) :
    Calls Try.prog 30 #[.pointer (some ⟨g, 0, none⟩)] w fun e w' => (∃ v, e = .returned v ∧ OwnH w' w.heap.size v (sortH A)) ∧ Below w.heap.size w w' := by
  obtain ⟨ao, cap, hg, hr⟩ := hB.reads
  have hl : A.length ≤ 1000000 := by have := hB.hk; have := hB.hA; omega
  have c1 : w.cell? ⟨g, 1, none⟩ = some (.slice ao A.length cap) := by rw [blk_cell hg]; rfl
  have HR := Aside0.mk hr
  have HL := Aside0.mk hl
  clear hg hB hr hl
  go_enter Try.func30, Try.ntmps30
  go_wp2_with (first | (go_at_call 67; (with_reducible refine (clone_calls _ _ A _ HL.out HR.out).mono ?_); rintro e w1 ⟨⟨v, rfl, hv⟩, hb⟩; have HV := Aside0.mk hv; have HB := Aside0.mk hb; clear hv hb) | (go_at_call 69; (with_reducible refine (order_calls _).mono ?_); rintro e w2 ⟨rfl, rfl⟩) | (go_at_call 68; (with_reducible refine (sort_own _ v A _ HV.out HL.out).mono ?_); rintro e w3 ⟨rfl, hO, hv⟩; have HV3 := Aside0.mk hv; have HO := Aside0.mk hO; clear hv hO))
  go_ret
  refine ⟨⟨v, rfl, HV3.out⟩, ?_⟩
  have hO := HO.out
  have hB := HB.out
  exact ⟨hO.os.trans hB.os, hO.tape.trans hB.tape, hO.output.trans hB.output, Nat.le_trans hB.size hO.size, fun i hi => (hO.block i (Nat.lt_of_lt_of_le hi hB.size) (fun e => by have := own_base HV.out i e; omega)).trans (hB.block i hi)⟩
end Go.Proofs.Ytchiobhklbefjaa.Tk
namespace Go.Proofs.Ytchiobhklbefjaa.Tk
open Go.RowKit Go.Proofs.YtchiobhklbefjaaW.PrintWords Go.Proofs.YtchiobhklbefjaaW.PrintLast Go.Proofs.YtchiobhklbefjaaW.PrintMore Go.Proofs.Ytchiobhklbefjaa.Q
attribute [local go_sem] max2_int min2_int max_two min_two
set_option linter.unusedVariables false
set_option linter.unusedSimpArgs false
theorem ReadsH.below {w w1 : World} {ao : Option Addr} {cap : Nat} {A : List H} (h : ReadsH w ao cap A) (hb : Below w.heap.size w w1) : ReadsH w1 ao cap A := by
  refine ⟨h.1, h.2.imp id (fun ⟨ad, e, hr⟩ => ⟨ad, e, fun j u hu => pw_cell_below hb (hr j u hu)⟩)⟩
theorem OwnH.slice {w : World} {b : Nat} {v : Value} {A : List H} (h : OwnH w b v A) : ∃ ao cap, v = .slice ao A.length cap ∧ A.length ≤ cap := by
  rcases h.row with ⟨rfl, rfl⟩ | ⟨r, cap, rfl, _, _, hr⟩
  · exact ⟨none, 0, rfl, by simp⟩
  · exact ⟨_, cap, rfl, hr.le⟩
theorem cellsOf_take (A : List H) (m : Nat) : cellsOf (A.take m) = (cellsOf A).take (m * 2) := by
  induction A generalizing m with
  | nil => simp [cellsOf]
  | cons a A ih =>
    cases m with
    | zero => simp [cellsOf]
    | succ m =>
      have := ih m
      simp only [cellsOf] at *
      rw [List.take_succ_cons, List.flatMap_cons, this, List.flatMap_cons]
      have e : (m + 1) * 2 = m * 2 + 1 + 1 := by omega
      rw [e]
      simp [enc]
theorem OwnH.take {w : World} {b cap m : Nat} {ao : Option Addr} {A : List H} (h : OwnH w b (.slice ao A.length cap) A) (hm : m ≤ A.length) : OwnH w b (.slice ao m cap) (A.take m) := by
  have hl : (A.take m).length = m := by simp; omega
  rcases h.2 with ⟨he, h0⟩ | ⟨g, cap', cur, he, hb, hh, h1, h2, h3, h4⟩
  · have : m = 0 := by omega
    subst this
    simp only [Value.slice.injEq] at he
    obtain ⟨rfl, _, rfl⟩ := he
    exact own_nil _ _ _ _
  · simp only [Value.slice.injEq] at he
    obtain ⟨rfl, _, rfl⟩ := he
    refine ⟨by rw [cellsOf_len], .inr ⟨g, cap, cur, by rw [hl], hb, hh, by omega, h2, h3, ?_⟩⟩
    rw [cellsOf_take, ← h4, hl, List.take_take]
    congr 1
    omega
def mergeH (a b : List H) (k : Int) : List H := (sortH (a ++ b)).take (max 0 (min k (a ++ b).length)).toNat
theorem only_below {S : Nat → Prop} {b : Nat} {w w1 w2 : World} (hB : Below b w w1) (hb : b ≤ w.heap.size) (hO : Only S w1 w2) (hs : ∀ i, S i → b ≤ i) : Below b w w2 :=
  ⟨hO.os.trans hB.os, hO.tape.trans hB.tape, hO.output.trans hB.output, Nat.le_trans hB.size hO.size, fun i hi => (hO.block i (Nat.lt_of_lt_of_le (Nat.lt_of_lt_of_le hi hb) hB.size) (fun e => by have := hs i e; omega)).trans (hB.block i hi)⟩
theorem merged {w : World} {b m L cap : Nat} {ao : Option Addr} {A B : List H} {k : Int} (h : OwnH w b (.slice ao L cap) (sortH (A ++ B))) (hL : (A ++ B).length = L) (hm : m = (max 0 (min k L)).toNat) : OwnH w b (.slice ao m cap) (mergeH A B k) := by
  subst hL
  have h' : OwnH w b (.slice ao (sortH (A ++ B)).length cap) (sortH (A ++ B)) := by rw [sortH_len]; exact h
  have := h'.take (m := m) (by rw [sortH_len]; omega)
  unfold mergeH
  rw [← hm]
  exact this
set_option maxHeartbeats 4000000 in
set_option maxRecDepth 100000 in
theorem merge_some (ao : Option Addr) (ca : Nat) (A : List H) (bd : Addr) (cb : Nat) (B : List H) (k : Int) (w : World) (hl : A.length ≤ 400000) (hl2 : B.length ≤ 400000) (hr : ReadsH w ao ca A)
    (hb : ∀ j u, (cellsOf B)[j]? = some u → w.cell? (bd.add j) = some u) :
    Calls Try.prog 34 #[.slice ao A.length ca, .slice (some bd) B.length cb, .int .i64 k] w fun e w' => (∃ v, e = .returned v ∧ OwnH w' w.heap.size v (mergeH A B k)) ∧ Below w.heap.size w w' := by
  obtain ⟨i0, hi, hz, hs, hby⟩ := info_hit2
  have hu2 := Try.underlying22
  have HR := Aside0.mk hr
  have HBR := Aside0.mk hb
  have HI := Aside0.mk hi
  clear hr hb hi
  obtain ⟨L, hL⟩ : ∃ L, (A ++ B).length = L := ⟨_, rfl⟩
  have hL2 : A.length + B.length = L := by rw [← hL, List.length_append]
  have HLL := Aside0.mk hL
  clear hL
  go_enter Try.func34, Try.ntmps34
  go_wp2_with (first | (go_at_call 67; (with_reducible refine (clone_calls _ _ A _ (by omega) HR.out).mono ?_); rintro e w1 ⟨⟨v, rfl, hv⟩, hb⟩; have HV := Aside0.mk hv; have HB := Aside0.mk hb; clear hv hb) | (at_builtin; refine wpList_append_own _ rfl _ _ _ rfl w.heap.size 29 i0 (.agg #[.int .i64 0, .int .u32 0]) 2 16 hu2 HI.out hz hs hby rfl (by decide) v A.length (cellsOf A) rfl HV.out bd B.length cb (cellsOf B) rfl (cellsOf_len B) (fun j u hu => pw_cell_below HB.out (HBR.out j u hu)) cells_one (by unfold maxLen; omega) (by omega) HB.out.size ?_; intro v2 w2 hown hg hne; have HO2 := Aside0.mk (show OwnH w2 w.heap.size v2 (A ++ B) by unfold OwnH; rw [cellsOf_append, List.length_append]; exact hown); have HB2 := Aside0.mk (pw_below_grown HB.out _ HB.out.size hg (fun k hk => own_base HV.out k hk)); clear hown hg hne; obtain ⟨a2, c2, rfl, hc2⟩ := HO2.out.slice; rw [HLL.out] at HO2 hc2 ⊢) | (go_at_call 69; (with_reducible refine (order_calls _).mono ?_); rintro e w3 ⟨rfl, rfl⟩) | (go_at_call 68; (with_reducible refine (sort_own _ _ (A ++ B) _ HO2.out (by rw [HLL.out]; omega)).mono ?_); rintro e w4 ⟨rfl, hO, hv⟩; have HV4 := Aside0.mk hv; have HB4 := Aside0.mk (only_below HB2.out (Nat.le_refl _) hO (fun i hi => own_base HO2.out i hi)); clear hv hO))
  all_goals
    have hm := HLL.out
    go_ret
    exact ⟨⟨_, rfl, merged HV4.out HLL.out (by omega)⟩, HB4.out⟩
set_option maxHeartbeats 4000000 in
set_option maxRecDepth 100000 in
theorem merge_nil (ao : Option Addr) (ca : Nat) (A : List H) (k : Int) (w : World) (hl : A.length ≤ 400000) (hr : ReadsH w ao ca A) :
    Calls Try.prog 34 #[.slice ao A.length ca,   .slice none 0 0, .int .i64 k] w fun e w' => (∃ v, e = .returned v ∧ OwnH w' w.heap.size v (mergeH A [] k)) ∧ Below w.heap.size w w' := by
  obtain ⟨i0, hi, hz, hs, hby⟩ := info_hit2
  have hu2 := Try.underlying22
  have HR := Aside0.mk hr
  have HI := Aside0.mk hi
  clear hr hi
  obtain ⟨L, hL⟩ : ∃ L, (A ++ []).length = L := ⟨_, rfl⟩
  have hL2 : A.length ≤ L ∧ L ≤ A.length := by rw [← hL, List.append_nil]; omega
  have HLL := Aside0.mk hL
  clear hL
  go_enter Try.func34, Try.ntmps34
  go_wp2_with (first | (go_at_call 67; (with_reducible refine (clone_calls _ _ A _ (by omega) HR.out).mono ?_); rintro e w1 ⟨⟨v, rfl, hv⟩, hb⟩; have HV := Aside0.mk hv; have HB := Aside0.mk hb; clear hv hb) | (at_builtin; refine wpList_append_own_none rfl _ _ _ rfl w.heap.size 29 i0 2 hu2 HI.out v A.length (cellsOf A) rfl HV.out rfl ?_; have HO2 := Aside0.mk (show OwnH w1 w.heap.size v (A ++ []) by rw [List.append_nil]; exact HV.out); have HB2 := Aside0.mk HB.out; obtain ⟨a2, c2, rfl, hc2⟩ := HO2.out.slice; rw [HLL.out] at HO2 hc2 ⊢) | (go_at_call 69; (with_reducible refine (order_calls _).mono ?_); rintro e w3 ⟨rfl, rfl⟩) | (go_at_call 68; (with_reducible refine (sort_own _ _ (A ++ []) _ HO2.out (by rw [HLL.out]; omega)).mono ?_); rintro e w4 ⟨rfl, hO, hv⟩; have HV4 := Aside0.mk hv; have HB4 := Aside0.mk (only_below HB2.out (Nat.le_refl _) hO (fun i hi => own_base HO2.out i hi)); clear hv hO))
  all_goals
    have hm := HLL.out
    go_ret
    exact ⟨⟨_, rfl, merged HV4.out HLL.out (by omega)⟩, HB4.out⟩
theorem merge_calls (ao : Option Addr) (ca : Nat) (A : List H) (bo : Option Addr) (cb : Nat) (B : List H) (k : Int) (w : World) (hl : A.length ≤ 400000) (hl2 : B.length ≤ 400000) (hr : ReadsH w ao ca A) (hb : ReadsH w bo cb B) :
    Calls Try.prog 34 #[.slice ao A.length ca, .slice bo B.length cb, .int .i64 k] w fun e w' => (∃ v, e = .returned v ∧ OwnH w' w.heap.size v (mergeH A B k)) ∧ Below w.heap.size w w' := by
  rcases hb.2 with ⟨rfl, rfl, rfl⟩ | ⟨bd, rfl, h2⟩
  · exact merge_nil ao ca A k w hl hr
  · exact merge_some ao ca A bd cb B k w hl hl2 hr h2
end Go.Proofs.Ytchiobhklbefjaa.Tk
namespace Go.Proofs.Ytchiobhklbefjaa.Tk
open Go.RowKit Go.Proofs.YtchiobhklbefjaaW.PrintWords Go.Proofs.Ytchiobhklbefjaa.Q
set_option linter.unusedVariables false
set_option linter.unusedSimpArgs false
def leH (a b : H) : Bool := !ltH b a
theorem leH_no {a b : H} : leH a b = false ↔ ltH b a = true := by simp [leH]
theorem leH_yes {a b : H} : leH a b = true ↔ ltH b a = false := by simp [leH]
theorem leH_iff {a b : H} : leH a b = true ↔ a.f0 < b.f0 ∨ (a.f0 = b.f0 ∧ a.f1 ≤ b.f1) := by
  rw [leH_yes, ltH_no]; omega
theorem leH_trans (a b c : H) (h1 : leH a b = true) (h2 : leH b c = true) : leH a c = true := by
  rw [leH_iff] at *; omega
theorem leH_total (a b : H) : (leH a b || leH b a) = true := by
  rw [Bool.or_eq_true, leH_iff, leH_iff]; omega
theorem leH_refl (a : H) : leH a a = true := by rw [leH_iff]; omega
theorem leH_anti (a b : H) (h1 : leH a b = true) (h2 : leH b a = true) : a = b := ltH_total a b (leH_yes.1 h2) (leH_yes.1 h1)
theorem ltH_le {a b : H} (h : ltH a b = true) : leH a b = true := by rw [leH_iff]; rw [ltH_iff] at h; omega
def SortedH (A : List H) : Prop := A.Pairwise (fun a b => leH a b = true)
theorem sortH_sorted (A : List H) : SortedH (sortH A) := List.pairwise_mergeSort leH_trans leH_total A
theorem sorted_eq {A B : List H} (hA : SortedH A) (hB : SortedH B) (h : A.Perm B) : A = B := List.Perm.eq_of_pairwise (fun a b _ _ => leH_anti a b) hA hB h
theorem sortH_eq {A B : List H} (hB : SortedH B) (h : B.Perm A) : sortH A = B := sorted_eq (sortH_sorted A) hB ((sortH_perm A).trans h.symm)
theorem sortH_congr {A B : List H} (h : A.Perm B) : sortH A = sortH B := sorted_eq (sortH_sorted A) (sortH_sorted B) ((sortH_perm A).trans (h.trans (sortH_perm B).symm))
theorem sortH_id {A : List H} (h : SortedH A) : sortH A = A := sortH_eq h (List.Perm.refl _)
theorem SortedH.take {A : List H} (h : SortedH A) (k : Nat) : SortedH (A.take k) := List.Pairwise.sublist (List.take_sublist k A) h
theorem sortH_nil : sortH [] = [] := List.length_eq_zero_iff.1 (sortH_len [])
/-- A hit put into a list: ahead of the first one that it is less than. -/
def intoL : List H → H → List H
  | [], h => [h]
  | a :: l, h => if ltH h a = true then h :: a :: l else a :: intoL l h
theorem intoL_perm (l : List H) (h : H) : (intoL l h).Perm (h :: l) := by
  induction l with
  | nil => exact List.Perm.refl _
  | cons a l ih =>
    simp only [intoL]
    split
    · exact List.Perm.refl _
    · exact (ih.cons a).trans (List.Perm.swap h a l)
theorem intoL_len (l : List H) (h : H) : (intoL l h).length = l.length + 1 := by rw [(intoL_perm l h).length_eq]; rfl
theorem intoL_sorted {l : List H} (hl : SortedH l) (h : H) : SortedH (intoL l h) := by
  induction l with
  | nil => exact List.pairwise_singleton _ _
  | cons a l ih =>
    simp only [intoL]
    have ⟨h1, h2⟩ := List.pairwise_cons.1 hl
    split
    · rename_i hlt
      refine List.pairwise_cons.2 ⟨fun b hb => ?_, hl⟩
      rcases List.mem_cons.1 hb with rfl | hb
      · exact ltH_le hlt
      · exact leH_trans _ _ _ (ltH_le hlt) (h1 b hb)
    · rename_i hlt
      refine List.pairwise_cons.2 ⟨fun b hb => ?_, ih h2⟩
      rcases List.mem_cons.1 ((intoL_perm l h).mem_iff.1 hb) with rfl | hb
      · exact leH_yes.2 (by simpa using hlt)
      · exact h1 b hb
theorem into_sort (A : List H) (h : H) : intoL (sortH A) h = sortH (A ++ [h]) :=
  (sortH_eq (intoL_sorted (sortH_sorted A) h) ((intoL_perm _ h).trans (((sortH_perm A).cons h).trans (List.perm_append_singleton h A).symm))).symm
theorem foldl_into {A : List H} (l : List H) : l.foldl intoL (sortH A) = sortH (A ++ l) := by
  induction l generalizing A with
  | nil => simp
  | cons h l ih => rw [List.foldl_cons, into_sort, ih, List.append_assoc, List.singleton_append]
theorem foldl_sort (l : List H) : l.foldl intoL [] = sortH l := by
  have := foldl_into (A := []) l
  rwa [sortH_nil, List.nil_append] at this
theorem intoL_take (l : List H) (h : H) (k : Nat) : (intoL (l.take k) h).take k = (intoL l h).take k := by
  induction l generalizing k with
  | nil => simp
  | cons a l ih =>
    cases k with
    | zero => simp
    | succ k =>
      simp only [List.take_succ_cons, intoL]
      split
      · cases k with
        | zero => simp
        | succ k => simp [List.take_take]
      · rw [List.take_succ_cons, List.take_succ_cons, ih]
theorem intoL_all {l : List H} {h : H} (hl : ∀ a ∈ l, ltH h a = false) : intoL l h = l ++ [h] := by
  induction l with
  | nil => rfl
  | cons a l ih =>
    simp only [intoL]
    rw [hl a List.mem_cons_self, if_neg (by simp), ih (fun b hb => hl b (List.mem_cons_of_mem _ hb))]
    rfl
theorem intoL_last {l : List H} {h m : H} (hm : ltH h m = true) : intoL (l ++ [m]) h = intoL l h ++ [m] := by
  induction l with
  | nil => simp [intoL, hm]
  | cons a l ih =>
    simp only [List.cons_append, intoL]
    split
    · rfl
    · rw [ih]; rfl
/-! ### the heap -/
def Heap (A : List H) : Prop := ∀ i, 0 < i → i < A.length → ltH (rdH A ((i - 1) / 2)) (rdH A i) = false
theorem rdH_get {A : List H} {i : Nat} (h : i < A.length) : rdH A i = A[i] := by simp [rdH, List.getD_eq_getElem?_getD, List.getElem?_eq_getElem h]
theorem swap_perm {A : List H} {p i : Nat} (hp : p < A.length) (hi : i < A.length) : (swapL A p i).Perm A := by
  unfold swapL
  rw [rdH_get hp, rdH_get hi]
  exact List.set_set_perm hp hi
theorem rdH_swap {A : List H} {p i : Nat} (hp : p < A.length) (hi : i < A.length) (j : Nat) : rdH (swapL A p i) j = if j = i then rdH A p else if j = p then rdH A i else rdH A j := by
  unfold swapL
  simp only [rdH, List.getD_eq_getElem?_getD, List.getElem?_set, List.length_set]
  by_cases h1 : j = i
  · subst h1; simp [hi]
  · rw [if_neg (fun e => h1 e.symm), if_neg h1]
    by_cases h2 : j = p
    · subst h2; simp [hp]
    · rw [if_neg (fun e => h2 e.symm), if_neg h2]
/-- All but one place is in order upward of it: on the way up at i. -/
def UpAt (A : List H) (i : Nat) : Prop :=
  (∀ j, 0 < j → j < A.length → j ≠ i → ltH (rdH A ((j - 1) / 2)) (rdH A j) = false) ∧
  (∀ j, 0 < j → j < A.length → (j - 1) / 2 = i → 0 < i → ltH (rdH A ((i - 1) / 2)) (rdH A j) = false)
theorem up_heap (f : Nat) : ∀ (A : List H) (i : Nat), i < f → i < A.length → UpAt A i → Heap (upL f A i) ∧ (upL f A i).Perm A := by
  induction f with
  | zero => intro A i h; omega
  | succ f ih =>
    intro A i hf hi hU
    simp only [upL]
    split
    · rename_i h0
      exact ⟨fun j h1 h2 => hU.1 j h1 h2 (by omega), List.Perm.refl _⟩
    rename_i h0
    have hp : (i - 1) / 2 < A.length := by omega
    split
    · rename_i hlt
      have hUp : UpAt (swapL A ((i - 1) / 2) i) ((i - 1) / 2) := by
        refine ⟨fun j h1 h2 h3 => ?_, fun j h1 h2 h3 h4 => ?_⟩
        · rw [swapL_len] at h2
          rw [rdH_swap hp hi, rdH_swap hp hi]
          by_cases hj : j = i
          · subst hj
            rw [if_neg (by omega), if_pos rfl, if_pos rfl]
            exact leH_yes.1 (ltH_le hlt)
          · rw [if_neg hj, if_neg h3]
            by_cases hk : (j - 1) / 2 = i
            · rw [if_pos hk]
              exact hU.2 j h1 h2 hk (by omega)
            · rw [if_neg hk]
              have h5 := hU.1 j h1 h2 hj
              split
              · rename_i hk2
                rw [hk2] at h5
                rw [ltH_iff] at hlt; rw [ltH_no] at *; omega
              · exact h5
        · rw [swapL_len] at h2
          rw [rdH_swap hp hi, rdH_swap hp hi, if_neg (by omega), if_neg (by omega)]
          have h6 := hU.1 ((i - 1) / 2) h4 hp (by omega)
          split
          · exact h6
          · rw [if_neg (by omega)]
            rename_i hj
            have h5 := hU.1 j h1 h2 hj
            rw [h3] at h5
            rw [ltH_no] at *; omega
      have := ih (swapL A ((i - 1) / 2) i) ((i - 1) / 2) (by omega) (by rw [swapL_len]; exact hp) hUp
      exact ⟨this.1, this.2.trans (swap_perm hp hi)⟩
    · rename_i hlt
      refine ⟨fun j h1 h2 => ?_, List.Perm.refl _⟩
      by_cases hj : j = i
      · subst hj; simpa using hlt
      · exact hU.1 j h1 h2 hj
theorem kid_lt {A : List H} {i : Nat} (h : ¬ A.length ≤ 2 * i + 1) : kid A i < A.length ∧ 0 < kid A i ∧ (kid A i - 1) / 2 = i := by
  unfold kid
  split
  · omega
  · omega
theorem kid_max {A : List H} {i j : Nat} (hj : j < A.length) (h0 : 0 < j) (hp : (j - 1) / 2 = i) : ltH (rdH A (kid A i)) (rdH A j) = false := by
  have hj2 : j = 2 * i + 1 ∨ j = 2 * i + 2 := by omega
  unfold kid
  split
  · rename_i h
    rcases hj2 with rfl | rfl
    · exact leH_yes.1 (ltH_le h.2)
    · exact ltH_irrefl _
  · rename_i h
    rcases hj2 with rfl | rfl
    · exact ltH_irrefl _
    · cases hc : ltH (rdH A (2 * i + 1)) (rdH A (2 * i + 2)) with
      | false => rfl
      | true => exact absurd ⟨hj, hc⟩ h
/-- All but the pairs below i are in order: on the way down at i. -/
def DownAt (A : List H) (i : Nat) : Prop :=
  (∀ j, 0 < j → j < A.length → (j - 1) / 2 ≠ i → ltH (rdH A ((j - 1) / 2)) (rdH A j) = false) ∧
  (∀ j, 0 < j → j < A.length → (j - 1) / 2 = i → 0 < i → ltH (rdH A ((i - 1) / 2)) (rdH A j) = false)
theorem down_heap (f : Nat) : ∀ (A : List H) (i : Nat), A.length < f + i → i < A.length → DownAt A i → Heap (downL f A i) ∧ (downL f A i).Perm A := by
  induction f with
  | zero => intro A i h h2; omega
  | succ f ih =>
    intro A i hf hi hD
    simp only [downL]
    split
    · rename_i h0
      exact ⟨fun j h1 h2 => hD.1 j h1 h2 (by omega), List.Perm.refl _⟩
    rename_i h0
    obtain ⟨hc, hc0, hcp⟩ := kid_lt h0
    split
    · rename_i hlt
      have hDn : DownAt (swapL A i (kid A i)) (kid A i) := by
        refine ⟨fun j h1 h2 h3 => ?_, fun j h1 h2 h3 h4 => ?_⟩
        · rw [swapL_len] at h2
          rw [rdH_swap hi hc, rdH_swap hi hc, if_neg h3]
          by_cases hk : (j - 1) / 2 = i
          · rw [if_pos hk]
            split
            · exact leH_yes.1 (ltH_le hlt)
            · rw [if_neg (by omega)]
              exact kid_max h2 h1 hk
          · rw [if_neg hk, if_neg (by rintro rfl; exact hk hcp)]
            split
            · rename_i hj
              have hji : j = i := hj
              have := hD.2 (kid A i) hc0 hc hcp (by omega)
              rw [hji]
              exact this
            · rename_i hj
              exact hD.1 j h1 h2 hk
        · rw [swapL_len] at h2
          rw [rdH_swap hi hc, rdH_swap hi hc, hcp, if_neg (by omega), if_pos rfl, if_neg (by omega), if_neg (by omega)]
          have := hD.1 j h1 h2 (by omega)
          rw [h3] at this
          exact this
      have := ih (swapL A i (kid A i)) (kid A i) (by rw [swapL_len]; omega) (by rw [swapL_len]; exact hc) hDn
      exact ⟨this.1, this.2.trans (swap_perm hi hc)⟩
    · rename_i hlt
      refine ⟨fun j h1 h2 => ?_, List.Perm.refl _⟩
      by_cases hj : (j - 1) / 2 = i
      · have := kid_max h2 h1 hj
        have hlt' : ltH (rdH A i) (rdH A (kid A i)) = false := by simpa using hlt
        rw [hj, ltH_no] at *
        omega
      · exact hD.1 j h1 h2 hj
theorem heap_max {A : List H} (h : Heap A) (i : Nat) (hi : i < A.length) : ltH (rdH A 0) (rdH A i) = false := by
  induction i using Nat.strongRecOn with
  | _ i ih =>
    rcases Nat.eq_zero_or_pos i with rfl | h0
    · exact ltH_irrefl _
    · have h1 := ih ((i - 1) / 2) (by omega) (by omega)
      have h2 := h i h0 hi
      rw [ltH_no] at *; omega
theorem heap_top {a : H} {A : List H} (h : Heap (a :: A)) : ∀ b ∈ A, leH b a = true := by
  intro b hb
  obtain ⟨i, hi, rfl⟩ := List.getElem_of_mem hb
  have := heap_max h (i + 1) (by simpa using hi)
  rw [rdH_get (by simp), rdH_get (by simpa using hi)] at this
  exact leH_yes.2 (by simpa using this)
theorem heap_sort {a : H} {A : List H} (h : Heap (a :: A)) : sortH (a :: A) = sortH A ++ [a] := by
  refine sortH_eq (List.pairwise_append.2 ⟨sortH_sorted A, List.pairwise_singleton _ _, fun x hx y hy => ?_⟩) ((List.perm_append_singleton a _).trans ((sortH_perm A).cons a))
  rw [List.mem_singleton.1 hy]
  exact heap_top h x ((sortH_perm A).mem_iff.1 hx)
theorem heap_nil : Heap [] := fun i _ h => by simp at h
/-- What a selector keeps when a hit is put. -/
theorem put_heap {k : Nat} {A : List H} {h : H} (hA : Heap A) (hk : A.length ≤ k) : Heap (putL k A h) ∧ (putL k A h).length ≤ k ∧ sortH (putL k A h) = (intoL (sortH A) h).take k := by
  unfold putL
  split
  · rename_i hlt
    have hU : UpAt (A ++ [h]) A.length := by
      refine ⟨fun j h1 h2 h3 => ?_, fun j h1 h2 h3 h4 => ?_⟩
      · have h2' : j < A.length := by simp at h2; omega
        have := hA j h1 h2'
        rw [rdH_get (by omega), rdH_get h2'] at this
        rw [rdH_get (by simp; omega), rdH_get (by simp; omega), List.getElem_append_left (by omega), List.getElem_append_left h2']
        exact this
      · have h2' : j ≤ A.length := by simp at h2; omega
        omega
    have := up_heap (A.length + 1) (A ++ [h]) A.length (by omega) (by simp) hU
    refine ⟨this.1, by rw [upL_len]; simp; omega, ?_⟩
    rw [sortH_congr this.2, ← into_sort, List.take_of_length_le (by rw [intoL_len, sortH_len]; omega)]
  rename_i hge
  have hAk : A.length = k := by omega
  cases A with
  | nil =>
    have : k = 0 := by simpa using hAk.symm
    subst this
    simp [sortH_nil, heap_nil]
  | cons a A =>
    have h0 : rdH (a :: A) 0 = a := rfl
    rw [h0]
    split
    · rename_i hlt
      have hD : DownAt ((a :: A).set 0 h) 0 := by
        refine ⟨fun j h1 h2 h3 => ?_, fun j h1 h2 h3 h4 => by omega⟩
        have h2' : j < (a :: A).length := by simpa using h2
        have := hA j h1 h2'
        rw [rdH_get (by omega), rdH_get h2'] at this
        rw [rdH_get (by simp at *; omega), rdH_get (by simpa using h2'), List.getElem_set_ne (by omega), List.getElem_set_ne (by omega)]
        exact this
      have := down_heap ((a :: A).length + 1) ((a :: A).set 0 h) 0 (by simp) (by simp) hD
      refine ⟨this.1, by rw [downL_len]; simpa using hk, ?_⟩
      rw [sortH_congr this.2, heap_sort hA, intoL_last hlt.2, List.take_append_of_le_length (by rw [intoL_len, sortH_len]; simp at hAk; omega), List.take_of_length_le (by rw [intoL_len, sortH_len]; simp at hAk; omega), into_sort]
      exact sortH_congr (List.perm_append_singleton h A).symm
    · rename_i hlt
      have hlt' : ltH h a = false := by
        cases hc : ltH h a with
        | false => rfl
        | true => exact absurd ⟨by simp at hAk; omega, hc⟩ hlt
      refine ⟨hA, hk, ?_⟩
      rw [intoL_all (fun b hb => ?_), List.take_append_of_le_length (by rw [sortH_len]; omega), List.take_of_length_le (by rw [sortH_len]; omega)]
      have hb' := (sortH_perm _).mem_iff.1 hb
      rcases List.mem_cons.1 hb' with rfl | hb'
      · exact hlt'
      · have := heap_top hA b hb'
        rw [leH_iff] at this
        rw [ltH_no] at *
        omega
/-- The worst one is the last of the list. -/
theorem heap_worst {A : List H} (hA : Heap A) (h : 0 < A.length) : (sortH A).getLast? = some (rdH A 0) := by
  cases A with
  | nil => simp at h
  | cons a A => rw [heap_sort hA]; simp; rfl
/-! ### the least k of a list -/
def leastH (k : Nat) (l : List H) : List H := (sortH l).take k
theorem least_snoc (k : Nat) (l : List H) (h : H) : (intoL (leastH k l) h).take k = leastH k (l ++ [h]) := by
  unfold leastH
  rw [intoL_take, into_sort]
theorem least_len (k : Nat) (l : List H) : (leastH k l).length = min k l.length := by unfold leastH; rw [List.length_take, sortH_len]
theorem least_perm {k : Nat} {l m : List H} (h : l.Perm m) : leastH k l = leastH k m := by unfold leastH; rw [sortH_congr h]
theorem least_take {k j : Nat} (h : j ≤ k) (l : List H) : (leastH k l).take j = leastH j l := by unfold leastH; rw [List.take_take, Nat.min_eq_left h]
theorem least_all {k : Nat} {l : List H} (h : l.length ≤ k) : leastH k l = sortH l := by unfold leastH; rw [List.take_of_length_le (by rw [sortH_len]; exact h)]
theorem fold_take (k : Nat) (l s t : List H) (h : s.take k = t.take k) : (l.foldl intoL s).take k = (l.foldl intoL t).take k := by
  induction l generalizing s t with
  | nil => exact h
  | cons a l ih =>
    rw [List.foldl_cons, List.foldl_cons]
    refine ih _ _ ?_
    rw [← intoL_take, h, intoL_take]
theorem least_left (k : Nat) (l m : List H) : leastH k (leastH k l ++ m) = leastH k (l ++ m) := by
  show (sortH _).take k = (sortH _).take k
  rw [← foldl_into, ← foldl_into]
  refine fold_take k m _ _ ?_
  have : sortH (leastH k l) = leastH k l := sortH_id ((sortH_sorted l).take k)
  rw [this]
  simp [leastH, List.take_take]
theorem least_both (k : Nat) (l m : List H) : leastH k (leastH k l ++ leastH k m) = leastH k (l ++ m) := by
  rw [least_left, least_perm List.perm_append_comm, least_left, least_perm List.perm_append_comm]
def mergeOf (a b : List H) (k : Int) : List H := (sortH (a ++ b)).take (max 0 (min k (a ++ b).length)).toNat
theorem merge_least (a b : List H) (k : Int) : mergeOf a b k = leastH k.toNat (a ++ b) := by
  unfold mergeOf leastH
  by_cases h : k ≤ (a ++ b).length
  · congr 1; omega
  · rw [List.take_of_length_le (by rw [sortH_len]; omega), List.take_of_length_le (by rw [sortH_len]; omega)]
/-- How many of a sorted list are less than its element i: at most i. -/
theorem count_less {l : List H} (hl : SortedH l) (i : Nat) (hi : i < l.length) (x : H) (hx : x = l[i]) : l.countP (fun a => ltH a x) ≤ i := by
  have e : l.take i ++ l.drop i = l := List.take_append_drop i l
  have h2 : (l.drop i).countP (fun a => ltH a x) = 0 := by
    rw [List.countP_eq_zero]
    intro a ha
    have hd : l.drop i = l[i] :: l.drop (i + 1) := List.drop_eq_getElem_cons hi
    have hs : SortedH (l.drop i) := List.Pairwise.sublist (List.drop_sublist i l) hl
    rw [hd, ← hx] at ha hs
    rcases List.mem_cons.1 ha with rfl | ha
    · rw [ltH_irrefl]; simp
    · rw [leH_yes.1 ((List.pairwise_cons.1 hs).1 a ha)]; simp
  rw [← e, List.countP_append, h2, Nat.add_zero]
  exact Nat.le_trans List.countP_le_length (by rw [List.length_take]; omega)
end Go.Proofs.Ytchiobhklbefjaa.Tk
namespace Go.Proofs.Ytchiobhklbefjaa.Tk
open Go.RowKit Go.Proofs.YtchiobhklbefjaaW.PrintWords Go.Proofs.YtchiobhklbefjaaW.PrintLast Go.Proofs.YtchiobhklbefjaaW.PrintMore Go.Proofs.Ytchiobhklbefjaa.Q
set_option linter.unusedVariables false
set_option linter.unusedSimpArgs false
theorem wrap_small {n : Int} (h0 : 0 ≤ n) (h1 : n < 9223372036854775807) : wrap64 n = n := by unfold wrap64; omega
theorem rd_get {l : List H} {i : Nat} (h : i < l.length) : rd_T29 l (i : Int) = l[i] := by simp [rd_T29, List.getD_eq_getElem?_getD, List.getElem?_eq_getElem h]
theorem into_l0 (l : List H) (h : H) (hl : l.length ≤ 1000000) : ∀ (m i : Nat) (out : List H) (done : Bool), l.length - i < m → i ≤ l.length → out.length ≤ 2 * i + 1 →
    lodestarref02_Into.l0 m l out done (i : Int) h.f0 h.f1 = some (out ++ if done = true then l.drop i else intoL (l.drop i) h) := by
  intro m
  induction m with
  | zero => intro i out done h0; omega
  | succ m ih =>
    intro i out done h0 hi ho
    simp only [lodestarref02_Into.l0]
    by_cases hc : i < l.length
    · have e1 : wrap64 ((i : Int) + 1) = ((i + 1 : Nat) : Int) := by rw [wrap_small (by omega) (by omega)]; omega
      have hd : l.drop i = l[i] :: l.drop (i + 1) := List.drop_eq_getElem_cons hc
      rw [if_pos (by omega), rd_get hc, e1, hd]
      have ho' : out.length < 8796093022208 := by omega
      have h0' : (0 : Int) ≤ i := by omega
      cases done with
      | true =>
        rw [if_pos rfl, if_pos h0', if_pos ho', ih (i + 1) _ true (by omega) (by omega) (by simp; omega)]
        simp
        exact hd.symm
      | false =>
        rw [if_neg (by simp), if_pos h0']
        have hL : lodestarref02_Less.f h.f0 h.f1 l[i].f0 l[i].f1 = some (ltH h l[i]) := by
          unfold lodestarref02_Less.f ltH
          by_cases hq : h.f0 = l[i].f0
          · rw [if_pos hq, hq]; simp
          · rw [if_neg hq]; simp [hq]
        rw [hL]
        simp only [Option.bind_some]
        cases hlt : ltH h l[i] with
        | true =>
          have ho2 : (out ++ [(⟨h.f0, h.f1⟩ : H)]).length < 8796093022208 := by simp; omega
          rw [if_pos rfl, if_pos ho', if_pos ho2, ih (i + 1) _ true (by omega) (by omega) (by simp; omega)]
          simp [intoL, hlt]
          exact hd.symm
        | false =>
          rw [if_neg (by simp), if_pos ho', ih (i + 1) _ false (by omega) (by omega) (by simp; omega)]
          simp [intoL, hlt]
    · have : i = l.length := by omega
      subst this
      rw [if_neg (by omega)]
      cases done with
      | true => simp
      | false => rw [if_neg (by simp), if_pos (by omega)]; simp [intoL]
theorem into_f (l : List H) (h : H) (hl : l.length ≤ 1000000) : lodestarref02_Into.f (l.length + 1) l h.f0 h.f1 = some (intoL l h) := by
  have := into_l0 l h hl (l.length + 1) 0 [] false (by omega) (by omega) (by simp)
  simpa [lodestarref02_Into.f] using this
theorem first_l0 (l : List H) (k : Int) (hl : l.length ≤ 1000000) : ∀ (m i : Nat), l.length - i < m → i ≤ l.length → (i : Int) ≤ max 0 k →
    lodestarref02_First.l0 m l k (l.take i) (i : Int) = some (l.take k.toNat) := by
  intro m
  induction m with
  | zero => intro i h0; omega
  | succ m ih =>
    intro i h0 hi hk
    simp only [lodestarref02_First.l0]
    by_cases hc : i < l.length
    · have e1 : wrap64 ((i : Int) + 1) = ((i + 1 : Nat) : Int) := by rw [wrap_small (by omega) (by omega)]; omega
      rw [if_pos (by omega), rd_get hc, e1]
      by_cases hk2 : (i : Int) < k
      · have := ih (i + 1) (by omega) (by omega) (by omega)
        rw [List.take_succ_eq_append_getElem hc] at this
        rw [if_pos hk2, if_pos (by omega), if_pos (by rw [List.length_take]; omega)]
        exact this
      · rw [if_neg hk2]
        have : i = k.toNat := by omega
        rw [this]
    · rw [if_neg (by omega), List.take_of_length_le (by omega), List.take_of_length_le (by omega)]
theorem first_f (l : List H) (k : Int) (hl : l.length ≤ 1000000) : lodestarref02_First.f (l.length + 1) l k = some (l.take k.toNat) := by
  have := first_l0 l k hl (l.length + 1) 0 (by omega) (by omega) (by omega)
  simpa [lodestarref02_First.f] using this
theorem into_mono (l : List H) (h : H) (hl : l.length ≤ 1000000) (m : Nat) (hm : l.length < m) : lodestarref02_Into.f m l h.f0 h.f1 = some (intoL l h) := by
  have := into_l0 l h hl m 0 [] false (by omega) (by omega) (by simp)
  simpa [lodestarref02_Into.f] using this
theorem sort_l0 (l : List H) (hl : l.length ≤ 100000) : ∀ (m i : Nat) (out : List H), l.length < m → i + m = 2 * l.length + 1 → i ≤ l.length → out.length = i →
    lodestarref02_Sort.l0 m l out (i : Int) = some ((l.drop i).foldl intoL out) := by
  intro m
  induction m with
  | zero => intro i out h0; omega
  | succ m ih =>
    intro i out h0 h1 hi ho
    simp only [lodestarref02_Sort.l0]
    by_cases hc : i < l.length
    · have e1 : wrap64 ((i : Int) + 1) = ((i + 1 : Nat) : Int) := by rw [wrap_small (by omega) (by omega)]; omega
      have hd : l.drop i = l[i] :: l.drop (i + 1) := List.drop_eq_getElem_cons hc
      rw [if_pos (by omega), if_pos (by omega), rd_get hc, e1, into_mono out l[i] (by omega) m (by omega)]
      simp only [Option.bind_some]
      rw [ih (i + 1) _ (by omega) (by omega) (by omega) (by rw [intoL_len]; omega), hd, List.foldl_cons]
    · rw [if_neg (by omega)]
      have : l.drop i = [] := List.drop_eq_nil_of_le (by omega)
      rw [this]
      rfl
theorem sort_f (l : List H) (hl : l.length ≤ 100000) : lodestarref02_Sort.f (2 * l.length + 1) l = some (sortH l) := by
  have := sort_l0 l hl (2 * l.length + 1) 0 [] (by omega) (by omega) (by omega) rfl
  unfold lodestarref02_Sort.f
  rw [← foldl_sort]
  simpa using this
theorem hit_ext {a b : H} (h0 : a.f0 = b.f0) (h1 : a.f1 = b.f1) : a = b := by cases a; cases b; simp at *; exact ⟨h0, h1⟩
theorem same_l0 (l : List H) (hl : l.length ≤ 1000000) : ∀ (m i : Nat), l.length - i < m → i ≤ l.length → lodestarref02_Same.l0 m l l (i : Int) = some true := by
  intro m
  induction m with
  | zero => intro i h0; omega
  | succ m ih =>
    intro i h0 hi
    simp only [lodestarref02_Same.l0]
    by_cases hc : i < l.length
    · have e1 : wrap64 ((i : Int) + 1) = ((i + 1 : Nat) : Int) := by rw [wrap_small (by omega) (by omega)]; omega
      rw [if_pos (by omega), if_pos (by omega), if_pos (by omega), if_neg (by simp), e1]
      exact ih (i + 1) (by omega) (by omega)
    · rw [if_neg (by omega)]
theorem same_f (l : List H) (hl : l.length ≤ 1000000) : lodestarref02_Same.f (l.length + 1) l l = some true := by
  unfold lodestarref02_Same.f
  rw [if_pos rfl]
  exact same_l0 l hl (l.length + 1) 0 (by omega) (by omega)
/-! ### in memory -/
theorem cells_at {A : List H} {i : Nat} {h : H} (hi : A[i]? = some h) : (cellsOf A)[i * 2]? = some (.int .i64 h.f0) ∧ (cellsOf A)[i * 2 + 1]? = some (.int .u32 h.f1) := by
  obtain ⟨h1, rfl⟩ := List.getElem?_eq_some_iff.1 hi
  exact cellsOf_get A i h1
theorem ReadsH.C {w : World} {ao : Option Addr} {cap : Nat} {A : List H} (h : ReadsH w ao cap A) (hl : A.length ≤ 1000000) : Kd.C k29 w ao A.length A := by
  refine ⟨rfl, by omega, fun h0 => ?_⟩
  rcases h.2 with ⟨_, rfl, _⟩ | ⟨ad, rfl, hr⟩
  · simp at h0
  · refine ⟨ad, rfl, fun j p hj => ⟨enc p, rfl, k29_mk w p, fun i u hu => ?_⟩⟩
    obtain ⟨g0, g1⟩ := cells_at hj
    match i, hu with
    | 0, hu => rw [← hu]; exact hr (j * 2) _ g0
    | 1, hu => rw [← hu]; exact hr (j * 2 + 1) _ g1
theorem OwnH.reads {w : World} {b : Nat} {v : Value} {A : List H} (h : OwnH w b v A) : ∃ ao cap, v = .slice ao A.length cap ∧ ReadsH w ao cap A := by
  rcases h.row with ⟨rfl, rfl⟩ | ⟨r, cap, rfl, _, _, hr⟩
  · exact ⟨none, 0, rfl, by simp, .inl ⟨rfl, rfl, rfl⟩⟩
  · exact ⟨_, cap, rfl, hr.le, .inr ⟨_, rfl, hr.reads⟩⟩
theorem own_of_R {w : World} {b : Nat} {ok : Nat → Prop} {v : Value} {A : List H} (h : Kd.R k29 29 w b ok v A) : OwnH w b v A := by
  obtain ⟨_, inner, ho, hr⟩ := h
  have : inner = cellsOf A := by
    apply List.ext_getElem?
    intro t
    by_cases ht : t < A.length * 2
    · have hj : A[t / 2]? = some A[t / 2] := List.getElem?_eq_getElem (by omega)
      have hM := k29_openM (hr.2 (t / 2) _ hj)
      obtain ⟨g0, g1⟩ := cells_at hj
      rcases Nat.mod_two_eq_zero_or_one t with hm | hm
      · have e : t = t / 2 * 2 := by omega
        rw [← e] at g0
        rw [g0]
        have := congrArg (fun l : List Value => l[0]?) hM
        simp only [List.getElem?_take, List.getElem?_drop] at this
        have e2 : t / 2 * k29.sz + 0 = t := by show t / 2 * 2 + 0 = t; omega
        rw [e2] at this
        simp at this
        exact this.2
      · have e : t = t / 2 * 2 + 1 := by omega
        rw [← e] at g1
        rw [g1]
        have := congrArg (fun l : List Value => l[1]?) hM
        simp only [List.getElem?_take, List.getElem?_drop] at this
        have e2 : t / 2 * k29.sz + 1 = t := by show t / 2 * 2 + 1 = t; omega
        rw [e2] at this
        simp at this
        exact this.2
    · rw [List.getElem?_eq_none (by have := hr.1; have e2 : k29.sz = 2 := rfl; rw [e2] at this; omega), List.getElem?_eq_none (by rw [cellsOf_len]; omega)]
  subst this
  exact ho
end Go.Proofs.Ytchiobhklbefjaa.Tk
namespace Go.Proofs.Ytchiobhklbefjaa.Tk
open Go.RowKit Go.Proofs.YtchiobhklbefjaaW.PrintWords Go.Proofs.YtchiobhklbefjaaW.PrintLast Go.Proofs.YtchiobhklbefjaaW.PrintMore Go.Proofs.Ytchiobhklbefjaa.Q
set_option linter.unusedVariables false
set_option linter.unusedSimpArgs false
/-- A selector that keeps the hits L (in order). -/
def Kept (w : World) (S : Nat → Prop) (g k : Nat) (L : List H) : Prop := ∃ A, Best w S g k A ∧ Heap A ∧ sortH A = L
section
variable {w w1 : World} {S T : Nat → Prop} {g k : Nat} {L : List H}
theorem Kept.keep (h : Kept w S g k L) (hO : Only T w w1) (hd : ∀ i, S i → ¬ T i) : Kept w1 S g k L := by
  obtain ⟨A, hB, hH, hL⟩ := h
  exact ⟨A, hB.keep hO hd, hH, hL⟩
theorem Kept.below (h : Kept w S g k L) (hb : Below w.heap.size w w1) : Kept w1 S g k L := by
  obtain ⟨A, hB, hH, hL⟩ := h
  exact ⟨A, hB.below hb, hH, hL⟩
theorem Kept.grow (h : Kept w S g k L) (hs : ∀ i, S i → T i) (ht : ∀ i, T i → i < w.heap.size) : Kept w T g k L := by
  obtain ⟨A, hB, hH, hL⟩ := h
  exact ⟨A, hB.grow hs ht, hH, hL⟩
theorem Kept.lt (h : Kept w S g k L) : ∀ i, S i → i < w.heap.size := by
  obtain ⟨A, hB, hH, hL⟩ := h
  exact hB.lt
theorem Kept.len (h : Kept w S g k L) : L.length ≤ k ∧ k ≤ 256 := by
  obtain ⟨A, hB, hH, rfl⟩ := h
  rw [sortH_len]
  exact ⟨hB.hA, hB.hk⟩
end
def putK (k : Nat) (L : List H) (h : H) : List H := (intoL L h).take k
theorem kput_calls (S : Nat → Prop) (g k : Nat) (L : List H) (d i : Int) (w : World) (hB : Kept w S g k L) :
    Calls Try.prog 25 #[.pointer (some ⟨g, 0, none⟩), .agg #[.int .i64 d, .int .u32 i]] w fun e w' => e = .returned (.tuple #[]) ∧ Only S w w' ∧ Kept w' (ext S w w') g k (putK k L ⟨d, i⟩) := by
  obtain ⟨A, hB, hH, rfl⟩ := hB
  refine (put_calls S g k A ⟨d, i⟩ w hB).mono fun e w' ⟨he, hO, hb⟩ => ⟨he, hO, _, hb, ?_⟩
  have := put_heap (h := ⟨d, i⟩) hH hB.hA
  exact ⟨this.1, this.2.2⟩
theorem knew_calls (a : Int) (w : World) :
    Calls Try.prog 24 #[.int .i64 a] w fun e w' => e = .returned (.pointer (some ⟨w.heap.size, 0, none⟩)) ∧ Below w.heap.size w w' ∧ Kept w' (fresh w w') w.heap.size (clamp a) [] :=
  (new_calls a w).mono fun e w' ⟨he, hb, hB⟩ => ⟨he, hb, [], hB, heap_nil, sortH_nil⟩
theorem klen_calls (S : Nat → Prop) (g k : Nat) (L : List H) (w : World) (hB : Kept w S g k L) :
    Calls Try.prog 28 #[.pointer (some ⟨g, 0, none⟩)] w fun e w' => e = .returned (.int .i64 L.length) ∧ w' = w := by
  obtain ⟨A, hB, hH, rfl⟩ := hB
  rw [sortH_len]
  exact len_calls S g k A w hB
theorem klist_calls (S : Nat → Prop) (g k : Nat) (L : List H) (w : World) (hB : Kept w S g k L) :
    Calls Try.prog 30 #[.pointer (some ⟨g, 0, none⟩)] w fun e w' => (∃ v, e = .returned v ∧ OwnH w' w.heap.size v L) ∧ Below w.heap.size w w' := by
  obtain ⟨A, hB, hH, rfl⟩ := hB
  exact list_calls S g k A w hB
/-- The worst one of a list in order: its last; none: zero. -/
def worstH (L : List H) : H := L.getLastD ⟨0, 0⟩
theorem kworst_calls (S : Nat → Prop) (g k : Nat) (L : List H) (w : World) (hB : Kept w S g k L) :
    Calls Try.prog 31 #[.pointer (some ⟨g, 0, none⟩)] w fun e w' => e = .returned (.tuple #[.agg #[.int .i64 (worstH L).f0, .int .u32 (worstH L).f1], .bool (decide (L.length = k))]) ∧ Below w.heap.size w w' := by
  obtain ⟨A, hB, hH, rfl⟩ := hB
  rcases Nat.eq_zero_or_pos A.length with h0 | h0
  · have : A = [] := List.length_eq_zero_iff.1 h0
    subst this
    rw [sortH_nil]
    exact worst_none S g k _ w hB rfl
  · have h1 := heap_worst hH h0
    have h2 : worstH (sortH A) = rdH A 0 := by
      unfold worstH
      rw [List.getLastD_eq_getLast?, h1]
      rfl
    rw [h2, sortH_len]
    exact worst_some S g k A _ w hB h0 rfl
/-! ### the reference -/
theorem OwnH.C {w : World} {b : Nat} {v : Value} {A : List H} (h : OwnH w b v A) (hl : A.length ≤ 1000000) : ∃ ao cap, v = .slice ao A.length cap ∧ A.length ≤ cap ∧ Kd.C k29 w ao A.length A := by
  obtain ⟨ao, cap, e, hr⟩ := h.reads
  exact ⟨ao, cap, e, hr.1, hr.C hl⟩
theorem rinto_calls (ao : Option Addr) (cap : Nat) (L : List H) (d i : Int) (w : World) (h : ReadsH w ao cap L) (hl : L.length ≤ 1000000) :
    Calls Try.prog 27 #[.slice ao L.length cap, .agg #[.int .i64 d, .int .u32 i]] w fun e w' => (∃ v, e = .returned v ∧ OwnH w' w.heap.size v (intoL L ⟨d, i⟩)) ∧ Below w.heap.size w w' :=
  (lodestarref02_Into.calls _ ao cap L d i _ w (h.C hl) h.1 (into_f L ⟨d, i⟩ hl)).mono fun e w' ⟨v, he, hv, hb⟩ => ⟨⟨v, he, own_of_R hv⟩, hb⟩
theorem rfirst_calls (ao : Option Addr) (cap : Nat) (L : List H) (k : Int) (w : World) (h : ReadsH w ao cap L) (hl : L.length ≤ 1000000) :
    Calls Try.prog 26 #[.slice ao L.length cap, .int .i64 k] w fun e w' => (∃ v, e = .returned v ∧ OwnH w' w.heap.size v (L.take k.toNat)) ∧ Below w.heap.size w w' :=
  (lodestarref02_First.calls _ ao cap L k _ w (h.C hl) h.1 (first_f L k hl)).mono fun e w' ⟨v, he, hv, hb⟩ => ⟨⟨v, he, own_of_R hv⟩, hb⟩
theorem rsort_calls (ao : Option Addr) (cap : Nat) (L : List H) (w : World) (h : ReadsH w ao cap L) (hl : L.length ≤ 100000) :
    Calls Try.prog 32 #[.slice ao L.length cap] w fun e w' => (∃ v, e = .returned v ∧ OwnH w' w.heap.size v (sortH L)) ∧ Below w.heap.size w w' :=
  (lodestarref02_Sort.calls _ ao cap L _ w (h.C (by omega)) h.1 (sort_f L hl)).mono fun e w' ⟨v, he, hv, hb⟩ => ⟨⟨v, he, own_of_R hv⟩, hb⟩
theorem rsame_calls (ao bo : Option Addr) (ca cb n m : Nat) (L M : List H) (w : World) (hLM : L = M) (hn : n = L.length) (hm : m = M.length) (h : ReadsH w ao ca L) (h2 : ReadsH w bo cb M) (hl : L.length ≤ 1000000) :
    Calls Try.prog 29 #[.slice ao n ca, .slice bo m cb] w fun e w' => e = .returned (.bool true) ∧ Below w.heap.size w w' := by
  subst hLM hn hm
  exact (lodestarref02_Same.calls _ ao ca L bo cb L true w (h.C hl) h.1 (h2.C hl) h2.1 (same_f L hl)).mono fun e w' ⟨he, hb⟩ => ⟨he, hb.below⟩
/-- Same, at two lists that were told. -/
theorem rsame_own (b1 b2 : Nat) (v1 v2 : Value) (L M : List H) (w : World) (hLM : L = M) (h : OwnH w b1 v1 L) (h2 : OwnH w b2 v2 M) (hl : L.length ≤ 1000000) :
    Calls Try.prog 29 #[v1, v2] w fun e w' => e = .returned (.bool true) ∧ Below w.heap.size w w' := by
  obtain ⟨ao, ca, rfl, hr⟩ := h.reads
  obtain ⟨bo, cb, rfl, hr2⟩ := h2.reads
  exact rsame_calls ao bo ca cb _ _ L M w hLM rfl rfl hr hr2 hl
theorem rinto_own (b : Nat) (v : Value) (L : List H) (d i : Int) (w : World) (h : OwnH w b v L) (hl : L.length ≤ 1000000) :
    Calls Try.prog 27 #[v, .agg #[.int .i64 d, .int .u32 i]] w fun e w' => (∃ v, e = .returned v ∧ OwnH w' w.heap.size v (intoL L ⟨d, i⟩)) ∧ Below w.heap.size w w' := by
  obtain ⟨ao, ca, rfl, hr⟩ := h.reads
  exact rinto_calls ao ca L d i w hr hl
theorem rfirst_own (b : Nat) (v : Value) (L : List H) (k : Int) (w : World) (h : OwnH w b v L) (hl : L.length ≤ 1000000) :
    Calls Try.prog 26 #[v, .int .i64 k] w fun e w' => (∃ v, e = .returned v ∧ OwnH w' w.heap.size v (L.take k.toNat)) ∧ Below w.heap.size w w' := by
  obtain ⟨ao, ca, rfl, hr⟩ := h.reads
  exact rfirst_calls ao ca L k w hr hl
theorem rsort_own (b : Nat) (v : Value) (L : List H) (w : World) (h : OwnH w b v L) (hl : L.length ≤ 100000) :
    Calls Try.prog 32 #[v] w fun e w' => (∃ v, e = .returned v ∧ OwnH w' w.heap.size v (sortH L)) ∧ Below w.heap.size w w' := by
  obtain ⟨ao, ca, rfl, hr⟩ := h.reads
  exact rsort_calls ao ca L w hr hl
theorem OwnH.below {w w1 : World} {b : Nat} {v : Value} {A : List H} (h : OwnH w b v A) (hb : Below w.heap.size w w1) : OwnH w1 b v A := pw_own_below h hb
theorem OwnH.only {w w1 : World} {b : Nat} {v : Value} {A : List H} {S : Nat → Prop} (h : OwnH w b v A) (hO : Only S w w1) (hs : ∀ i, S i → v.ownBlock ≠ some i) : OwnH w1 b v A :=
  own_move h (fun i hi => hO.block i (own_lt h i hi) (fun x => hs i x hi))
theorem Only.below_of {S : Nat → Prop} {w0 w w1 : World} (h : Only S w w1) (hb : Below w0.heap.size w0 w) (hs : ∀ i, S i → w0.heap.size ≤ i) : Below w0.heap.size w0 w1 :=
  ⟨h.os.trans hb.os, h.tape.trans hb.tape, h.output.trans hb.output, Nat.le_trans hb.size h.size, fun i hi => (h.block i (Nat.lt_of_lt_of_le hi hb.size) (fun x => by have := hs i x; omega)).trans (hb.block i hi)⟩
theorem fresh_new {w w' : World} : ∀ i, fresh w w' i → w.heap.size ≤ i := fun i h => h.1
theorem ext_new {w w' : World} {S : Nat → Prop} {b : Nat} (hS : ∀ i, S i → b ≤ i) (hb : b ≤ w.heap.size) : ∀ i, ext S w w' i → b ≤ i := fun i h => h.elim (hS i) (fun x => by omega)
theorem bel_trans {a b c : World} (h1 : Below a.heap.size a b) (h2 : Below b.heap.size b c) : Below a.heap.size a c :=
  ⟨h2.os.trans h1.os, h2.tape.trans h1.tape, h2.output.trans h1.output, Nat.le_trans h1.size h2.size, fun i hi => (h2.block i (Nat.lt_of_lt_of_le hi h1.size)).trans (h1.block i hi)⟩
theorem bel_alloc {a b : World} (h1 : Below a.heap.size a b) (o : Obj) : Below a.heap.size a (b.alloc o) := bel_trans h1 (below_alloc (Below.refl _ _) o)
/-- A literal list, new. -/
theorem own_lit (w : World) (A : List H) (n : Nat) (h : A.length = n) (hn : n ≤ 1000) : OwnH (w.alloc (.cells (cellsOf A).toArray 29)) w.heap.size (.slice (some ⟨w.heap.size, 0, none⟩) n n) A := by
  subst h
  exact ⟨cellsOf_len A, .inr ⟨w.heap.size, A.length, _, rfl, Nat.le_refl _, heap_alloc_new w _, Nat.le_refl _, by unfold maxLen; omega, by simp [cellsOf_len], by rw [← cellsOf_len A]; simp⟩⟩
end Go.Proofs.Ytchiobhklbefjaa.Tk
namespace Go.Proofs.Ytchiobhklbefjaa.Tk
open Go.RowKit Go.Proofs.YtchiobhklbefjaaW.PrintWords Go.Proofs.YtchiobhklbefjaaW.PrintLast Go.Proofs.YtchiobhklbefjaaW.PrintMore Go.Proofs.Ytchiobhklbefjaa.Q
attribute [local go_sem] max2_int min2_int max_two min_two
set_option linter.unusedVariables false
set_option linter.unusedSimpArgs false
theorem alive_list : putK 2 (putK 2 (putK 2 [] ⟨5, 1⟩) ⟨3, 2⟩) ⟨3, 1⟩ = [(⟨3, 1⟩ : H), ⟨3, 2⟩] := by rfl
theorem clamp2 : clamp 2 = 2 := by decide
theorem alive_new (w : World) :
    Calls Try.prog 24 #[.int .i64 2] w fun e w' => e = .returned (.pointer (some ⟨w.heap.size, 0, none⟩)) ∧ Below w.heap.size w w' ∧ Kept w' (fresh w w') w.heap.size 2 [] := by
  have := knew_calls 2 w
  rwa [clamp2] at this
theorem alive_worst (S : Nat → Prop) (g : Nat) (w : World) (hB : Kept w S g 2 (putK 2 (putK 2 (putK 2 [] ⟨5, 1⟩) ⟨3, 2⟩) ⟨3, 1⟩)) :
    Calls Try.prog 31 #[.pointer (some ⟨g, 0, none⟩)] w fun e w' => e = .returned (.tuple #[.agg #[.int .i64 3, .int .u32 2], .bool true]) ∧ Below w.heap.size w w' := by
  rw [alive_list] at hB
  exact kworst_calls S g 2 _ w hB
theorem alive_len (S : Nat → Prop) (g : Nat) (w : World) (hB : Kept w S g 2 (putK 2 (putK 2 (putK 2 [] ⟨5, 1⟩) ⟨3, 2⟩) ⟨3, 1⟩)) :
    Calls Try.prog 28 #[.pointer (some ⟨g, 0, none⟩)] w fun e w' => e = .returned (.int .i64 2) ∧ w' = w := by
  rw [alive_list] at hB
  exact klen_calls S g 2 _ w hB
theorem alive_told (S : Nat → Prop) (g : Nat) (w : World) (hB : Kept w S g 2 (putK 2 (putK 2 (putK 2 [] ⟨5, 1⟩) ⟨3, 2⟩) ⟨3, 1⟩)) :
    Calls Try.prog 30 #[.pointer (some ⟨g, 0, none⟩)] w fun e w' => (∃ v, e = .returned v ∧ OwnH w' w.heap.size v [⟨3, 1⟩, ⟨3, 2⟩]) ∧ Below w.heap.size w w' := by
  rw [alive_list] at hB
  exact klist_calls S g 2 _ w hB
theorem alive_lit (w : World) : OwnH (w.alloc (.cells #[.int .i64 3, .int .u32 1, .int .i64 3, .int .u32 2] 29)) w.heap.size (.slice (some ⟨w.heap.size, 0, none⟩) 2 2) [⟨3, 1⟩, ⟨3, 2⟩] := own_lit w [⟨3, 1⟩, ⟨3, 2⟩] 2 rfl (by omega)
set_option maxHeartbeats 8000000 in
set_option maxRecDepth 100000 in
theorem alive_calls (w : World) : Calls Try.prog 23 #[] w fun e w' => e = .returned (.bool true) ∧ Below w.heap.size w w' := by
  have hu := Try.underlying29
  go_enter Try.func23, Try.ntmps23
  go_wp2_with (first | (go_at_call 24; (with_reducible refine (alive_new _).mono ?_); rintro e w1 ⟨rfl, hb, hK⟩; have HB1 := Aside0.mk hb; have HK1 := Aside0.mk hK; clear hb hK) | (go_at_call 25; (with_reducible refine (kput_calls _ _ _ _ _ _ _ HK3.out).mono ?_); rintro e w4 ⟨rfl, hO, hK⟩; have HO4 := Aside0.mk hO; have HK4 := Aside0.mk hK; clear hO hK) | (go_at_call 25; (with_reducible refine (kput_calls _ _ _ _ _ _ _ HK2.out).mono ?_); rintro e w3 ⟨rfl, hO, hK⟩; have HO3 := Aside0.mk hO; have HK3 := Aside0.mk hK; clear hO hK) | (go_at_call 25; (with_reducible refine (kput_calls _ _ _ _ _ _ _ HK1.out).mono ?_); rintro e w2 ⟨rfl, hO, hK⟩; have HO2 := Aside0.mk hO; have HK2 := Aside0.mk hK; clear hO hK) | (go_at_call 31; (with_reducible refine (alive_worst _ _ _ HK4.out).mono ?_); rintro e w5 ⟨rfl, hb⟩; have HK5 := Aside0.mk (HK4.out.below hb); have HB5 := Aside0.mk hb; clear hb) | (go_at_call 28; (with_reducible refine (alive_len _ _ _ (HK5.out.below (below_alloc (Below.refl _ _) _))).mono ?_); rintro e w6 ⟨rfl, rfl⟩) | (go_at_call 30; (with_reducible refine (alive_told _ _ _ (HK5.out.below (below_alloc (Below.refl _ _) _))).mono ?_); rintro e w6 ⟨⟨v, rfl, hv⟩, hb⟩; have HV6 := Aside0.mk hv; have HB6 := Aside0.mk hb; clear hv hb) | (go_at_call 29; (with_reducible refine (rsame_own _ _ _ _ [⟨3, 1⟩, ⟨3, 2⟩] [⟨3, 1⟩, ⟨3, 2⟩] _ rfl (HV6.out.below (below_alloc (Below.refl _ _) _)) (alive_lit w6) (by simp)).mono ?_); rintro e w7 ⟨rfl, hb⟩; have HB7 := Aside0.mk hb; clear hb))
  go_ret
  refine ⟨rfl, ?_⟩
  have b2 := HO2.out.below_of HB1.out fresh_new
  have b3 := HO3.out.below_of b2 (ext_new fresh_new HB1.out.size)
  have b4 := HO4.out.below_of b3 (ext_new (ext_new fresh_new HB1.out.size) b2.size)
  exact bel_trans (bel_alloc (bel_trans (bel_alloc (bel_trans b4 HB5.out) _) HB6.out) _) HB7.out
end Go.Proofs.Ytchiobhklbefjaa.Tk
namespace Go.Proofs.Ytchiobhklbefjaa.Tk
open Go.RowKit Go.Proofs.YtchiobhklbefjaaW.PrintWords Go.Proofs.YtchiobhklbefjaaW.PrintLast Go.Proofs.YtchiobhklbefjaaW.PrintMore Go.Proofs.Ytchiobhklbefjaa.Q
set_option linter.unusedVariables false
set_option linter.unusedSimpArgs false
theorem cells_hit : Try.prog.cellsOf 29 = 2 := by kernel_rfl
theorem cells_dist : Try.prog.cellsOf 2 = 1 := by kernel_rfl
theorem cells_id : Try.prog.cellsOf 27 = 1 := by kernel_rfl
abbrev kp : Kd (Int × Int) := Kd.pair (Kd.int .i64) (Kd.int .u32)
set_option maxRecDepth 100000 in
theorem opens_hit : Frame.Opens Try.prog 29 kp (fun x => (Lit.int .i64 x.1).wf = true ∧ (Lit.int .u32 x.2).wf = true) :=
  Frame.Opens.struct Try.underlying29 cells_hit (Frame.OpensFrom.cons (by rfl) (by rfl) cells_dist (Frame.Opens.int Try.underlying2) (Frame.OpensFrom.last (by rfl) (by rfl) cells_id (Frame.Opens.int Try.underlying27)))
abbrev okHits (l : List (Int × Int)) : Prop := l.length ≤ maxLen ∧ ∀ x ∈ l, (Lit.int .i64 x.1).wf = true ∧ (Lit.int .u32 x.2).wf = true
theorem opens_hits : Frame.Opens Try.prog 22 (Kd.slice 29 kp) okHits := Frame.Opens.slice Try.underlying22 cells_hit opens_hit
def ofP (x : Int × Int) : H := ⟨x.1, x.2⟩
theorem hits_of {v : Value} {x : List (Int × Int)} {w : World} (s : v = .slice none 0 0 ∨ ∃ a n c, v = .slice (some a) n c) (K : (Kd.slice 29 kp).K w x v.cells.toList) :
    ∃ ao cap, v = .slice ao (x.map ofP).length cap ∧ ReadsH w ao cap (x.map ofP) := by
  obtain ⟨A, c, he, hle, hC⟩ := K
  have hv : v = .slice A x.length c := by
    rcases s with rfl | ⟨a, n, cc, rfl⟩
    · simpa [Value.cells] using he
    · simpa [Value.cells] using he
  subst hv
  refine ⟨A, c, by rw [List.length_map], by rw [List.length_map]; exact hle, ?_⟩
  rcases s with s | ⟨a, n, cc, s⟩
  · simp only [Value.slice.injEq] at s
    obtain ⟨rfl, h0, rfl⟩ := s
    exact .inl ⟨rfl, by rw [List.length_eq_zero_iff.1 h0]; rfl, rfl⟩
  · simp only [Value.slice.injEq] at s
    obtain ⟨rfl, rfl, rfl⟩ := s
    refine .inr ⟨a, rfl, fun j u hu => ?_⟩
    have hj : j < x.length * 2 := by have := (List.getElem?_eq_some_iff.1 hu).1; rw [cellsOf_len, List.length_map] at this; exact this
    obtain ⟨ad, e, hc⟩ := hC.2.2 (by omega)
    cases e
    obtain ⟨cs, h1, h2, h3⟩ := hc (j / 2) _ (List.getElem?_eq_getElem (by omega))
    obtain ⟨c0, c1, rfl, rfl, rfl⟩ := h2
    have hg : (x.map ofP)[j / 2]? = some (ofP (x[j / 2]'(by omega))) := by rw [List.getElem?_map, List.getElem?_eq_getElem (by omega)]; rfl
    obtain ⟨g0, g1⟩ := cells_at hg
    rcases Nat.mod_two_eq_zero_or_one j with hm | hm
    · have e : j = j / 2 * 2 := by omega
      have := h3 0 _ rfl
      rw [← e] at g0
      rw [hu] at g0
      cases g0
      have e2 : j / 2 * kp.sz + 0 = j := by show j / 2 * 2 + 0 = j; omega
      rw [e2] at this
      exact this
    · have e : j = j / 2 * 2 + 1 := by omega
      have := h3 1 _ rfl
      rw [← e] at g1
      rw [hu] at g1
      cases g1
      have e2 : j / 2 * kp.sz + 1 = j := by show j / 2 * 2 + 1 = j; omega
      rw [e2] at this
      exact this
theorem hits_len {x : List (Int × Int)} (o : okHits x) : (x.map ofP).length ≤ maxLen := by rw [List.length_map]; exact o.1
end Go.Proofs.Ytchiobhklbefjaa.Tk
namespace Go.Proofs.Ytchiobhklbefjaa.Tk
open Go.RowKit Go.Proofs.YtchiobhklbefjaaW.PrintWords Go.Proofs.YtchiobhklbefjaaW.PrintLast Go.Proofs.YtchiobhklbefjaaW.PrintMore Go.Proofs.Ytchiobhklbefjaa.Q
theorem max2_M (k k' : IntKind) (x y : Int) : Builtin.max2 (.int k x) (.int k' y) = pure (.int k (max x y)) := by
  rw [max2_int]
  congr 2
  by_cases h : x < y
  · rw [if_pos h]; omega
  · rw [if_neg h]; omega
theorem min2_M (k k' : IntKind) (x y : Int) : Builtin.min2 (.int k x) (.int k' y) = pure (.int k (min x y)) := by
  rw [min2_int]
  congr 2
  by_cases h : y < x
  · rw [if_pos h]; omega
  · rw [if_neg h]; omega
attribute [local go_sem] max2_M min2_M max_two min_two
set_option linter.unusedVariables false
set_option linter.unusedSimpArgs false
/-- The first n of a list, put one behind the other. -/
def putAll (k : Nat) (l : List H) : List H := l.foldl (putK k) []
theorem putAll_snoc (k : Nat) (l : List H) (h : H) : putAll k (l ++ [h]) = putK k (putAll k l) h := by simp [putAll]
theorem putAll_least (k : Nat) (l : List H) : putAll k l = leastH k l := by
  have key : ∀ (l m : List H), l.foldl (putK k) (leastH k m) = leastH k (m ++ l) := by
    intro l
    induction l with
    | nil => intro m; simp
    | cons a l ih =>
      intro m
      rw [List.foldl_cons]
      have : putK k (leastH k m) a = leastH k (m ++ [a]) := least_snoc k m a
      rw [this, ih, List.append_assoc]
      rfl
  have h0 : leastH k [] = [] := by simp [leastH, sortH_nil]
  have := key l []
  rw [h0] at this
  exact this
theorem take_put (k : Nat) (l : List H) (i : Nat) (h : i < l.length) : putK k (putAll k (l.take i)) l[i] = putAll k (l.take (i + 1)) := by
  rw [List.take_succ_eq_append_getElem h, putAll_snoc]
theorem ReadsH.at {w : World} {ao : Option Addr} {cap : Nat} {A : List H} (h : ReadsH w ao cap A) {i : Nat} (hi : i < A.length) :
    ∃ ad x, ao = some ad ∧ A[i]? = some x ∧ w.cell? (ad.add (i * 2)) = some (.int .i64 x.f0) ∧ w.cell? ⟨(ad.add (i * 2)).block, (ad.add (i * 2)).off + 1, none⟩ = some (.int .u32 x.f1) := by
  rcases h.2 with ⟨_, rfl, _⟩ | ⟨ad, rfl, hr⟩
  · simp at hi
  · obtain ⟨g0, g1⟩ := cellsOf_get A i hi
    refine ⟨ad, A[i], rfl, List.getElem?_eq_getElem hi, hr _ _ g0, ?_⟩
    have := hr _ _ g1
    have e := add_field ad (i * 2) 1 (by omega)
    rw [e] at this
    exact this
theorem put_len (k : Nat) (L : List H) (x : H) : (putK k L x).length ≤ k := by unfold putK; rw [List.length_take]; omega
/-- The last hit of a list that is read. -/
theorem OwnH.last {w : World} {b n : Nat} {c : Nat} {ao : Option Addr} {L : List H} (h : OwnH w b (.slice ao n c) L) (hn : L.length = n) (h0 : 0 < n) :
    ∃ r, ao = some ⟨r, 0, none⟩ ∧ r < w.heap.size ∧ w.cell? ⟨r, (n - 1) * 2, none⟩ = some (.int .i64 (worstH L).f0) ∧ w.cell? ⟨r, (n - 1) * 2 + 1, none⟩ = some (.int .u32 (worstH L).f1) := by
  subst hn
  have hw : worstH L = L[L.length - 1]'(by omega) := by
    unfold worstH
    rw [List.getLastD_eq_getLast?, List.getLast?_eq_getElem?, List.getElem?_eq_getElem (by omega)]
    rfl
  rcases h.row with ⟨_, rfl⟩ | ⟨r, cap, e, _, _, hr⟩
  · simp at h0
  · simp only [Value.slice.injEq] at e
    obtain ⟨g0, g1, _, _⟩ := hr.cells (L.length - 1) (by omega)
    exact ⟨r, e.1, hr.lt, by rw [hw]; exact g0, by rw [hw]; exact g1⟩
theorem kworst_at (S : Nat → Prop) (g k n : Nat) (f : Bool) (L : List H) (w : World) (hB : Kept w S g k L) (hn : L.length = n) (hf : decide (n = k) = f) :
    Calls Try.prog 31 #[.pointer (some ⟨g, 0, none⟩)] w fun e w' => e = .returned (.tuple #[.agg #[.int .i64 (worstH L).f0, .int .u32 (worstH L).f1], .bool f]) ∧ Below w.heap.size w w' := by
  subst hn hf
  exact kworst_calls S g k L w hB
theorem rfirst_put (b k n : Nat) (v : Value) (L M : List H) (x : H) (w : World) (h : OwnH w b v (intoL L ⟨x.f0, x.f1⟩)) (hM : putK k L x = M) (hn : M.length = n) (hl : L.length ≤ 1000) :
    Calls Try.prog 26 #[v, .int .i64 k] w fun e w' => (∃ a c, e = .returned (.slice a n c) ∧ OwnH w' w.heap.size (.slice a n c) M) ∧ Below w.heap.size w w' := by
  refine (rfirst_own b v _ k w h (by rw [intoL_len]; omega)).mono fun e w' ⟨⟨v', he, hv⟩, hb⟩ => ⟨?_, hb⟩
  have e2 : List.take (k : Int).toNat (intoL L ⟨x.f0, x.f1⟩) = M := by rw [Int.toNat_natCast]; exact hM
  rw [e2] at hv
  obtain ⟨a, c, rfl, _⟩ := hv.slice
  rw [hn] at hv he
  exact ⟨a, c, he, hv⟩
set_option maxHeartbeats 8000000 in
set_option maxRecDepth 100000 in
theorem keeps_calls (a : Int) (ao : Option Addr) (ca : Nat) (A : List H) (w : World) (hr : ReadsH w ao ca A) (hl : A.length ≤ maxLen) :
    Calls Try.prog 3 #[.int .i64 a, .slice ao A.length ca] w fun e w' => e = .returned (.bool true) ∧ Below w.heap.size w w' := by
  have HA := Aside0.mk hr
  have HL := Aside0.mk hl
  clear hr hl
  obtain ⟨k, hk⟩ : ∃ k, clamp a = k := ⟨_, rfl⟩
  have mk : max 0 (min a 256) = (k : Int) := by rw [← hk]; unfold clamp; omega
  go_enter Try.func3, Try.ntmps3
  go_wp2_with (first | (go_at_call 23; (with_reducible refine (alive_calls _).mono ?_); rintro e w1 ⟨rfl, hb⟩; have HB1 := Aside0.mk hb; clear hb) | (go_at_call 24; (with_reducible refine (knew_calls _ _).mono ?_); rintro e w2 ⟨rfl, hb, hK⟩; have HB2 := Aside0.mk (bel_trans HB1.out hb); have HK2 := Aside0.mk hK; clear hb hK; rw [hk] at HK2))
  clear mk
  have HL2 := Aside0.mk (own_nil w2 0 29 2)
  go_loopg [6, 7] A.length (fun gk v6 v7 wr => ∃ (i b : Nat) (S : Nat → Prop), v7 = .int .i64 i ∧ Aside0 (i ≤ A.length ∧ i ≤ 400 ∧ A.length - i ≤ gk) ∧ Aside0 (OwnH wr b v6 (putAll k (A.take i))) ∧ Aside0 (Kept wr S w1.heap.size k (putAll k (A.take i)) ∧ (∀ j, S j → w.heap.size ≤ j ∧ v6.ownBlock ≠ some j)) ∧ Aside0 (Below w.heap.size w wr))
  case atStart => exact ⟨0, 0, _, rfl, ⟨by omega, by omega, by omega⟩, HL2, ⟨HK2.out, fun j hj => ⟨Nat.le_trans HB1.out.size hj.1, by simp [Value.ownBlock]⟩⟩, HB2⟩
  case round =>
    obtain ⟨i, b, S, rfl, HI, HV, HK, HB⟩ := hrel
    by_cases hc : i < A.length ∧ i < 400
    · have q1 : decide ((i : Int) < (A.length : Int)) = true := decide_eq_true (by omega)
      have q2 : decide ((i : Int) < 400) = true := decide_eq_true (by omega)
      have q3 : (i : Int) < (A.length : Int) := by omega
      obtain ⟨ad, x, rfl, hx, c0, c1⟩ := HA.out.at hc.1
      have hin : wrap64 ((i : Int) + 1) = ((i + 1 : Nat) : Int) := by rw [wrap_small (by omega) (by omega)]; omega
      have C0 := Aside0.mk c0
      have C1 := Aside0.mk c1
      have HC := Aside0.mk hc
      obtain ⟨L, hL⟩ : ∃ L, putAll k (A.take (i + 1)) = L := ⟨_, rfl⟩
      have hL1 : putK k (putAll k (A.take i)) x = L := by
        obtain ⟨hi, rfl⟩ := List.getElem?_eq_some_iff.1 hx
        rw [take_put k A i hi, hL]
      obtain ⟨n, hn⟩ : ∃ n, L.length = n := ⟨_, rfl⟩
      have HL1 := Aside0.mk hL1
      have HLn := Aside0.mk hn
      have HLL := Aside0.mk hL
      have hl0 := HK.out.1.len
      have HL0 := Aside0.mk (show (putAll k (A.take i)).length ≤ 256 by omega)
      replace c0 := pw_cell_below HB.out c0
      replace c1 := pw_cell_below HB.out c1
      clear hc hx hL hL1 hn hl0
      obtain ⟨f, hf⟩ : ∃ f, decide (n = k) = f := ⟨_, rfl⟩
      have e1 : ((n : Int) == (k : Int)) = f := by
        rw [← hf]
        by_cases h : n = k
        · subst h; simp
        · have h2 : ¬ (n : Int) = (k : Int) := by omega
          simp [h, h2]
      have HF := Aside0.mk hf
      clear hf
      obtain ⟨d, hd⟩ : ∃ d, (worstH L).f0 = d := ⟨_, rfl⟩
      obtain ⟨y, hy⟩ : ∃ y, (worstH L).f1 = y := ⟨_, rfl⟩
      have HD := Aside0.mk hd
      have HY := Aside0.mk hy
      clear hd hy
      by_cases hn0 : n = 0
      · have hLe : L = [] := List.length_eq_zero_iff.1 (by rw [HLn.out]; exact hn0)
        obtain rfl : d = 0 := by have h := HD.out; rw [hLe] at h; exact h.symm
        obtain rfl : y = 0 := by have h := HY.out; rw [hLe] at h; exact h.symm
        clear hLe
        subst hn0
        replace e1 : ((0 : Int) == (k : Int)) = f := e1
        go_wp2_with (first | (go_at_call 25; (with_reducible refine (kput_calls _ _ _ _ _ _ _ HK.out.1).mono ?_); rintro e w3 ⟨rfl, hO, hK⟩; have HO3 := Aside0.mk hO; have HK3 := Aside0.mk (HL1.out ▸ hK : Kept _ _ _ _ L); have HB3 := Aside0.mk (hO.below_of HB.out (fun j hj => (HK.out.2 j hj).1)); have HV3 := Aside0.mk (HV.out.only hO (fun j hj => (HK.out.2 j hj).2)); clear hO hK c0 c1; have c0 := pw_cell_below HB3.out C0.out; have c1 := pw_cell_below HB3.out C1.out) | (go_at_call 27; (with_reducible refine (rinto_own _ _ _ _ _ _ HV3.out (by have := HL0.out; omega)).mono ?_); rintro e w4 ⟨⟨v4, rfl, hv⟩, hb⟩; have HV4 := Aside0.mk hv; have HB4 := Aside0.mk hb; have HK4 := Aside0.mk (HK3.out.below hb); clear hv hb c0 c1) | (go_at_call 26; (with_reducible refine (rfirst_put _ k 0 _ _ L x _ HV4.out HL1.out HLn.out (by have := HL0.out; omega)).mono ?_); rintro e w5 ⟨⟨a5, ca5, rfl, hv⟩, hb⟩; have HV5 := Aside0.mk hv; have HB5 := Aside0.mk (bel_trans HB3.out (bel_trans HB4.out hb)); have HK5 := Aside0.mk (HK4.out.below hb); clear hv hb) | (go_at_call 28; (with_reducible refine (klen_calls _ _ _ _ _ HK5.out).mono ?_); rintro e w6 ⟨rfl, rfl⟩; rw [HLn.out]) | (go_at_call 31; (with_reducible refine (kworst_at _ _ _ 0 f _ _ HK5.out HLn.out HF.out).mono ?_); rintro e w7 ⟨rfl, hb⟩; rw [HD.out, HY.out]; have HV7 := Aside0.mk (HV5.out.below hb); have HB7 := Aside0.mk (bel_trans HB5.out hb); have HK7 := Aside0.mk (HK5.out.below hb); clear hb) | (go_at_call 30; (with_reducible refine (klist_calls _ _ _ _ _ HK5.out).mono ?_); rintro e w6 ⟨⟨vl, rfl, hv⟩, hb⟩; have HVl := Aside0.mk hv; have HK5 := Aside0.mk (HK5.out.below hb); have HV5 := Aside0.mk (HV5.out.below hb); have HB5 := Aside0.mk (bel_trans HB5.out hb); clear hv hb) | (go_at_call 29; (with_reducible refine (rsame_own _ _ _ _ _ _ _ rfl HVl.out HV5.out (by have := HK5.out.len; omega)).mono ?_); rintro e w6 ⟨rfl, hb⟩; have HK5 := Aside0.mk (HK5.out.below hb); have HV5 := Aside0.mk (HV5.out.below hb); have HB5 := Aside0.mk (bel_trans HB5.out hb); clear hb))
        all_goals go_quiet (fail)
        all_goals
          go_wp2
          obtain ⟨gk, rfl⟩ : ∃ m, gk = m + 1 := ⟨gk - 1, by have := HI.out; have := HC.out; omega⟩
          go_roundg gk
          case measure => omega
          case rel =>
            have hb8 := pw_below_drewN (below_alloc (Below.refl w7.heap.size w7) (.cells #[.int .i64 0, .int .u32 0] 29)) nq
            exact ⟨i + 1, w4.heap.size, ext S wr w3, congrArg (Value.int .i64) hin, ⟨by have := HI.out; have := HC.out; omega⟩, ⟨by rw [HLL.out]; exact HV7.out.below hb8⟩, ⟨by rw [HLL.out]; exact HK7.out.below hb8, fun j hj => ⟨ext_new (fun j hj => (HK.out.2 j hj).1) HB.out.size j hj, fun e => by have h1 := own_base HV7.out j e; have h2 := HK3.out.lt j hj; have h3 := HB4.out.size; omega⟩⟩, ⟨bel_trans HB7.out hb8⟩⟩
      have hn1 : 0 < n := by omega
      obtain ⟨m, hm⟩ : ∃ m, n - 1 = m := ⟨_, rfl⟩
      have hnk : n ≤ 256 := by
        have h := put_len k (putAll k (A.take i)) x
        rw [HL1.out, HLn.out] at h
        have := HK.out.1.len
        omega
      have hwr : IntKind.i64.wrap ((n : Int) - 1) = (m : Int) := by rw [IntWalk.i64_in _ (by omega)]; omega
      have hm1 : (m : Int) < (n : Int) := by omega
      have hm0 : (0 : Int) ≤ (m : Int) := by omega
      have HM := Aside0.mk hm
      clear hm
      have r1 : decide (0 < (n : Int)) = true := decide_eq_true (by omega)
      have r2 : ((n : Int) == 0) = false := by simp; omega
      go_wp2_with (first | (go_at_call 25; (with_reducible refine (kput_calls _ _ _ _ _ _ _ HK.out.1).mono ?_); rintro e w3 ⟨rfl, hO, hK⟩; have HO3 := Aside0.mk hO; have HK3 := Aside0.mk (HL1.out ▸ hK : Kept _ _ _ _ L); have HB3 := Aside0.mk (hO.below_of HB.out (fun j hj => (HK.out.2 j hj).1)); have HV3 := Aside0.mk (HV.out.only hO (fun j hj => (HK.out.2 j hj).2)); clear hO hK c0 c1; have c0 := pw_cell_below HB3.out C0.out; have c1 := pw_cell_below HB3.out C1.out) | (go_at_call 27; (with_reducible refine (rinto_own _ _ _ _ _ _ HV3.out (by have := HL0.out; omega)).mono ?_); rintro e w4 ⟨⟨v4, rfl, hv⟩, hb⟩; have HV4 := Aside0.mk hv; have HB4 := Aside0.mk hb; have HK4 := Aside0.mk (HK3.out.below hb); clear hv hb c0 c1) | (go_at_call 26; (with_reducible refine (rfirst_put _ k n _ _ L x _ HV4.out HL1.out HLn.out (by have := HL0.out; omega)).mono ?_); rintro e w5 ⟨⟨a5, ca5, rfl, hv⟩, hb⟩; have HV5 := Aside0.mk hv; have HB5 := Aside0.mk (bel_trans HB3.out (bel_trans HB4.out hb)); have HK5 := Aside0.mk (HK4.out.below hb); clear hv hb) | (go_at_call 28; (with_reducible refine (klen_calls _ _ _ _ _ HK5.out).mono ?_); rintro e w6 ⟨rfl, rfl⟩; rw [HLn.out]) | (go_at_call 31; (with_reducible refine (kworst_at _ _ _ n f _ _ HK5.out HLn.out HF.out).mono ?_); rintro e w7 ⟨rfl, hb⟩; rw [HD.out, HY.out]; have HV7 := Aside0.mk (HV5.out.below hb); have HB7 := Aside0.mk (bel_trans HB5.out hb); have HK7 := Aside0.mk (HK5.out.below hb); clear hb; obtain ⟨r, rfl, hr, z0, z1⟩ := HV7.out.last HLn.out hn1; rw [HD.out] at z0; rw [HY.out] at z1; rw [HM.out] at z0 z1) | (go_at_call 30; (with_reducible refine (klist_calls _ _ _ _ _ HK5.out).mono ?_); rintro e w6 ⟨⟨vl, rfl, hv⟩, hb⟩; have HVl := Aside0.mk hv; have HK5 := Aside0.mk (HK5.out.below hb); have HV5 := Aside0.mk (HV5.out.below hb); have HB5 := Aside0.mk (bel_trans HB5.out hb); clear hv hb) | (go_at_call 29; (with_reducible refine (rsame_own _ _ _ _ _ _ _ rfl HVl.out HV5.out (by have := HK5.out.len; omega)).mono ?_); rintro e w6 ⟨rfl, hb⟩; have HK5 := Aside0.mk (HK5.out.below hb); have HV5 := Aside0.mk (HV5.out.below hb); have HB5 := Aside0.mk (bel_trans HB5.out hb); clear hb))
      all_goals go_quiet (fail)
      all_goals
        go_wp2
        obtain ⟨gk, rfl⟩ : ∃ m, gk = m + 1 := ⟨gk - 1, by have := HI.out; have := HC.out; omega⟩
        go_roundg gk
        case measure => omega
        case rel =>
          have hb8 := pw_below_drewN (below_alloc (Below.refl w7.heap.size w7) (.cells #[.int .i64 d, .int .u32 y] 29)) nq
          exact ⟨i + 1, w4.heap.size, ext S wr w3, congrArg (Value.int .i64) hin, ⟨by have := HI.out; have := HC.out; omega⟩, ⟨by rw [HLL.out]; exact HV7.out.below hb8⟩, ⟨by rw [HLL.out]; exact HK7.out.below hb8, fun j hj => ⟨ext_new (fun j hj => (HK.out.2 j hj).1) HB.out.size j hj, fun e => by have h1 := own_base HV7.out j e; have h2 := HK3.out.lt j hj; have h3 := HB4.out.size; omega⟩⟩, ⟨bel_trans HB7.out hb8⟩⟩
    · by_cases hc1 : i < A.length
      · have q1 : decide ((i : Int) < (A.length : Int)) = true := decide_eq_true (by omega)
        have q2 : decide ((i : Int) < 400) = false := decide_eq_false (by omega)
        clear hc hc1
        go_wp2_with (first | (go_at_call 30; (with_reducible refine (klist_calls _ _ _ _ _ HK.out.1).mono ?_); rintro e w3 ⟨⟨vl, rfl, hv⟩, hb⟩; have HVl := Aside0.mk hv; have HV3 := Aside0.mk (HV.out.below hb); have HB3 := Aside0.mk (bel_trans HB.out hb); clear hv hb) | (go_at_call 29; (with_reducible refine (rsame_own _ _ _ _ _ _ _ rfl HVl.out HV3.out (by have := HK.out.1.len; omega)).mono ?_); rintro e w4 ⟨rfl, hb⟩; have HB4 := Aside0.mk (bel_trans HB3.out hb); clear hb))
        all_goals
          go_ret
          exact ⟨rfl, HB4.out⟩
      · have q1 : decide ((i : Int) < (A.length : Int)) = false := decide_eq_false (by omega)
        have q2 : decide (i < A.length) = false := decide_eq_false hc1
        have q3 : (i < A.length) = False := eq_false hc1
        clear hc
        go_wp2_with (first | (go_at_call 30; (with_reducible refine (klist_calls _ _ _ _ _ HK.out.1).mono ?_); rintro e w3 ⟨⟨vl, rfl, hv⟩, hb⟩; have HVl := Aside0.mk hv; have HV3 := Aside0.mk (HV.out.below hb); have HB3 := Aside0.mk (bel_trans HB.out hb); clear hv hb) | (go_at_call 29; (with_reducible refine (rsame_own _ _ _ _ _ _ _ rfl HVl.out HV3.out (by have := HK.out.1.len; omega)).mono ?_); rintro e w4 ⟨rfl, hb⟩; have HB4 := Aside0.mk (bel_trans HB3.out hb); clear hb))
        all_goals
          go_ret
          exact ⟨rfl, HB4.out⟩
end Go.Proofs.Ytchiobhklbefjaa.Tk
