/- Flat: its walks and its plain law; merged. No condition. -/
import Derived.Test.YtchiobhklbefjaaEx1
import Derived.Test.YtchiobhklbefjaaTkAll
import Derived.BigRegion
import Derived.Test.YtchiobhklbefjaaQx5
import Derived.RangeFuncNested
import Derived.RangeFuncBound
import Derived.RangeFuncCalls
import Derived.RangeFuncLeaves
import Derived.Shelf.Abstract
import Derived.Shelf.RegionOpen
import Derived.OwnWalkIn
import Derived.TacticsInMore
import Derived.LoopNIn
import Derived.LoopIn
import Derived.Maps.AppendAt
import Derived.Test.YtchiobhklbefjaaQx6
import Derived.Test.YtchiobhklbefjaaFrame
namespace Go.Proofs.Ytchiobhklbefjaa.Fl
open Go.RowKit Go.Proofs.YtchiobhklbefjaaW.PrintWords Go.Proofs.YtchiobhklbefjaaW.PrintLast Go.Proofs.YtchiobhklbefjaaW.PrintMore Go.Proofs.Ytchiobhklbefjaa.Tk
set_option linter.unusedVariables false
set_option linter.unusedSimpArgs false
theorem str_at {w : World} {A : Option Addr} {l : List ByteArray} (h : Kd.string.C w A l.length l) {i : Nat} (hi : i < l.length) : ∃ ad x, A = some ad ∧ l[i]? = some x ∧ w.cell? (ad.add i) = some (.string x) := by
  obtain ⟨ad, e, hc⟩ := h.2.2 (by omega)
  obtain ⟨cs, h1, h2, h3⟩ := hc i _ (List.getElem?_eq_getElem hi)
  have h2' : cs = [.string l[i]] := h2
  subst h2'
  have := h3 0 _ rfl
  have e2 : i * Kd.string.sz + 0 = i := by show i * 1 + 0 = i; omega
  rw [e2] at this
  exact ⟨ad, l[i], e, List.getElem?_eq_getElem hi, this⟩
set_option maxHeartbeats 4000000 in
set_option maxRecDepth 100000 in
theorem indexFunc_calls (m : FuncId) (he : ∀ args w, (callFunc m args).run Try.prog w = .ok (.enter m args) w) (cap : Value) (pr : ByteArray → Bool) (Inv : World → Prop) (hInv : ∀ W W', Inv W → Below W.heap.size W W' → Inv W')
    (A : Option Addr) (c : Nat) (l : List ByteArray) (hf : ∀ x ∈ l, ∀ W, Inv W → Calls Try.prog m #[.string x, cap] W fun e W' => e = .returned (.bool (pr x)) ∧ Below W.heap.size W W')
    (w : World) (hc : Kd.string.C w A l.length l) (hl : l.length ≤ 100000) (h0 : Inv w) :
    Calls Try.prog 145 #[.slice A l.length c, .func (.func m) #[] #[cap]] w fun e w' => (∃ r : Int, e = .returned (.int .i64 r) ∧ l.any pr = decide (0 ≤ r)) ∧ Below w.heap.size w w' := by
  have HC := Aside0.mk hc
  have HF := Aside0.mk hf
  have HI := Aside0.mk hInv
  have HI0 := Aside0.mk h0
  have HL := Aside0.mk hl
  clear hc hf hInv h0 hl
  go_enter Try.func145, Try.ntmps145
  go_wp2
  go_loopg [8] l.length (fun gk v8 wr => ∃ (i : Nat), v8 = .int .i64 i ∧ Aside0 (i ≤ l.length ∧ l.length - i ≤ gk) ∧ Aside0 ((l.take i).any pr = false) ∧ Aside0 (Below w.heap.size w wr))
  case atStart => exact ⟨0, rfl, ⟨by omega, by omega⟩, ⟨by simp⟩, ⟨Below.refl _ _⟩⟩
  case round =>
    obtain ⟨i, rfl, HJ, HN, HB⟩ := hrel
    by_cases hi : i < l.length
    · have hl := HL.out
      have q1 : decide ((i : Int) < (l.length : Int)) = true := decide_eq_true (by omega)
      have q2 : (i : Int) < (l.length : Int) := by omega
      obtain ⟨ad, x, rfl, hx, c0⟩ := str_at HC.out hi
      have hin : wrap64 ((i : Int) + 1) = ((i + 1 : Nat) : Int) := by rw [Tk.wrap_small (by omega) (by omega)]; omega
      replace c0 := pw_cell_below HB.out c0
      have HX := Aside0.mk hx
      have HI2 := Aside0.mk hi
      have HM := Aside0.mk (List.mem_of_getElem? hx)
      obtain ⟨r, hr⟩ : ∃ r, pr x = r := ⟨_, rfl⟩
      have HR := Aside0.mk hr
      clear hi hl hx hr
      cases r with
      | true =>
        go_wp2_with (first | ((with_reducible refine (HF.out x HM.out _ (HI.out _ _ HI0.out HB.out)).mono ?_); rintro e w3 ⟨rfl, hb⟩; rw [HR.out]; have HB3 := Aside0.mk (bel_trans HB.out hb); clear hb) | fail)
        go_ret
        exact ⟨⟨i, rfl, by rw [List.any_eq_true.2 ⟨x, HM.out, HR.out⟩]; exact (decide_eq_true (by omega)).symm⟩, HB3.out⟩
      | false =>
        go_wp2_with (first | ((with_reducible refine (HF.out x HM.out _ (HI.out _ _ HI0.out HB.out)).mono ?_); rintro e w3 ⟨rfl, hb⟩; rw [HR.out]; have HB3 := Aside0.mk (bel_trans HB.out hb); clear hb) | fail)
        obtain ⟨gk, rfl⟩ : ∃ m, gk = m + 1 := ⟨gk - 1, by have := HJ.out; have := HI2.out; omega⟩
        go_roundg gk
        case measure => omega
        case rel =>
          refine ⟨i + 1, congrArg (Value.int .i64) hin, ⟨by have := HJ.out; have := HI2.out; omega⟩, ⟨?_⟩, HB3⟩
          obtain ⟨hi, hx⟩ := List.getElem?_eq_some_iff.1 HX.out
          rw [List.take_succ_eq_append_getElem hi, List.any_append, HN.out, hx]
          simp [HR.out]
    · have q1 : decide ((i : Int) < (l.length : Int)) = false := decide_eq_false (by omega)
      have q2 : decide (i < l.length) = false := decide_eq_false hi
      have q3 : (i < l.length) = False := eq_false hi
      have hT : l.take i = l := List.take_of_length_le (by omega)
      have hn := HN.out
      rw [hT] at hn
      have HN2 := Aside0.mk hn
      clear hT hn hi
      go_wp2
      go_ret
      exact ⟨⟨-1, rfl, by rw [HN2.out]; rfl⟩, HB.out⟩
end Go.Proofs.Ytchiobhklbefjaa.Fl
namespace Go.Proofs.Ytchiobhklbefjaa.Fl
open Go.RowKit Go.Proofs.YtchiobhklbefjaaW.PrintWords Go.Proofs.YtchiobhklbefjaaW.PrintLast Go.Proofs.YtchiobhklbefjaaW.PrintMore Go.Proofs.Ytchiobhklbefjaa.Tk Go.Proofs.Ytchiobhklbefjaa.E
set_option linter.unusedVariables false
set_option linter.unusedSimpArgs false
def hasB (l : List ByteArray) (t : ByteArray) : Bool := l.any fun x => decide (t.toList = x.toList)
theorem rdOf_get {l : List ByteArray} {i : Nat} (h : i < l.length) : rdOf ByteArray.empty l (i : Int) = l[i] := by simp [rdOf, List.getD_eq_getElem?_getD, List.getElem?_eq_getElem h]
theorem index_l0 (l : List ByteArray) (t : ByteArray) (hl : l.length ≤ 1000000) : ∀ (m i : Nat), l.length - i < m → i ≤ l.length →
    ∃ r, slices_Index_string_string.l0 m l t (l.length : Int) (i : Int) = some r ∧ decide (r ≥ 0) = hasB (l.drop i) t := by
  intro m
  induction m with
  | zero => intro i h0; omega
  | succ m ih =>
    intro i h0 hi
    simp only [slices_Index_string_string.l0]
    by_cases hc : i < l.length
    · have e1 : wrap64 ((i : Int) + 1) = ((i + 1 : Nat) : Int) := by rw [Tk.wrap_small (by omega) (by omega)]; omega
      have hd : l.drop i = l[i] :: l.drop (i + 1) := List.drop_eq_getElem_cons hc
      have k1 : (i : Int) < (l.length : Int) := by omega
      have k0 : (0 : Int) ≤ (i : Int) := by omega
      rw [if_pos k1, if_pos k0, if_pos k1, rdOf_get hc, e1, hd]
      by_cases hx : t.toList = l[i].toList
      · rw [if_pos hx]
        exact ⟨_, rfl, by simp only [hasB, List.any_cons, hx, decide_true, Bool.true_or]; exact decide_eq_true (by omega)⟩
      · rw [if_neg hx]
        obtain ⟨r, h1, h2⟩ := ih (i + 1) (by omega) (by omega)
        exact ⟨r, h1, by rw [h2]; simp only [hasB, List.any_cons, hx, decide_false, Bool.false_or]⟩
    · rw [if_neg (by omega)]
      have : l.drop i = [] := List.drop_eq_nil_of_le (by omega)
      rw [this]
      exact ⟨_, rfl, by simp [hasB]⟩
theorem contains_f (l : List ByteArray) (t : ByteArray) (hl : l.length ≤ 1000000) : slices_Contains_string_string.f (l.length + 1) l t = some (hasB l t) := by
  obtain ⟨r, h1, h2⟩ := index_l0 l t hl (l.length + 1) 0 (by omega) (by omega)
  unfold slices_Contains_string_string.f slices_Index_string_string.f
  have e : ((0 : Nat) : Int) = 0 := rfl
  rw [e] at h1
  rw [h1]
  simp only [Option.bind_some, h2, List.drop_zero]
theorem contains_calls (A : Option Addr) (c : Nat) (l : List ByteArray) (t : ByteArray) (w : World) (h : Kd.string.C w A l.length l) (hc : l.length ≤ c) (hl : l.length ≤ 1000000) :
    Calls Try.prog 134 #[.slice A l.length c, .string t] w fun e w' => e = .returned (.bool (hasB l t)) ∧ Below w.heap.size w w' :=
  (slices_Contains_string_string.calls _ A c l t _ w h hc (contains_f l t hl)).mono fun e w' ⟨he, hb⟩ => ⟨he, hb.below⟩
end Go.Proofs.Ytchiobhklbefjaa.Fl
namespace Go.Proofs.Ytchiobhklbefjaa.Fl
open Go.RowKit Go.Proofs.YtchiobhklbefjaaW.PrintWords Go.Proofs.YtchiobhklbefjaaW.PrintLast Go.Proofs.YtchiobhklbefjaaW.PrintMore Go.Proofs.Ytchiobhklbefjaa.Tk Go.Proofs.Ytchiobhklbefjaa.E
set_option linter.unusedVariables false
set_option linter.unusedSimpArgs false
/-- A box that holds a list of texts. -/
def BoxS (W : World) (b : Nat) (l : List ByteArray) : Prop := ∃ A c, W.cell? ⟨b, 0, none⟩ = some (.slice A l.length c) ∧ l.length ≤ c ∧ Kd.string.C W A l.length l
theorem BoxS.below {W W' : World} {b : Nat} {l : List ByteArray} (h : BoxS W b l) (hb : Below W.heap.size W W') : BoxS W' b l := by
  obtain ⟨A, c, h1, h2, h3⟩ := h
  exact ⟨A, c, pw_cell_below hb h1, h2, Kd.C_below h3 hb⟩
set_option maxHeartbeats 4000000 in
set_option maxRecDepth 100000 in
theorem has_calls (b : Nat) (l : List ByteArray) (t : ByteArray) (w : World) (h : BoxS w b l) (hl : l.length ≤ 100000) :
    Calls Try.prog 133 #[.string t, .pointer (some ⟨b, 0, none⟩)] w fun e w' => e = .returned (.bool (hasB l t)) ∧ Below w.heap.size w w' := by
  obtain ⟨A, c, h1, h2, h3⟩ := h
  have HC := Aside0.mk (show l.length ≤ c ∧ l.length ≤ 1000000 by omega)
  have HS := Aside0.mk h3
  clear h2 h3 hl
  go_enter Try.func133, Try.ntmps133
  go_wp2_with ((go_at_call 134; (with_reducible refine (contains_calls A c l t _ HS.out HC.out.1 HC.out.2).mono ?_); rintro e w1 ⟨rfl, hb⟩; have HB := Aside0.mk hb; clear hb))
  go_ret
  exact ⟨rfl, HB.out⟩
theorem enters_has : ∀ args w, (callFunc 133 args).run Try.prog w = .ok (.enter 133 args) w := Go.Proofs.enters_of Try.func133 (by kernel_rfl) rfl
theorem enters_lacks : ∀ args w, (callFunc 135 args).run Try.prog w = .ok (.enter 135 args) w := Go.Proofs.enters_of Try.func135 (by kernel_rfl) rfl
/-- A box that holds 'has'. -/
def BoxF (W : World) (g b : Nat) (l : List ByteArray) : Prop := W.cell? ⟨g, 0, none⟩ = some (.func (.func 133) #[] #[.pointer (some ⟨b, 0, none⟩)]) ∧ BoxS W b l
theorem BoxF.below {W W' : World} {g b : Nat} {l : List ByteArray} (h : BoxF W g b l) (hb : Below W.heap.size W W') : BoxF W' g b l := ⟨pw_cell_below hb h.1, h.2.below hb⟩
set_option maxHeartbeats 4000000 in
set_option maxRecDepth 100000 in
theorem lacks_calls (g b : Nat) (l : List ByteArray) (t : ByteArray) (w : World) (h : BoxF w g b l) (hl : l.length ≤ 100000) :
    Calls Try.prog 135 #[.string t, .pointer (some ⟨g, 0, none⟩)] w fun e w' => e = .returned (.bool (!hasB l t)) ∧ Below w.heap.size w w' := by
  obtain ⟨h1, h2⟩ := h
  have HS := Aside0.mk h2
  have HL := Aside0.mk hl
  clear h2 hl
  go_enter Try.func135, Try.ntmps135
  go_wp2_with ((go_at_call 133; (with_reducible refine (has_calls b l t _ HS.out HL.out).mono ?_); rintro e w1 ⟨rfl, hb⟩; have HB := Aside0.mk hb; clear hb))
  go_ret
  exact ⟨rfl, HB.out⟩
set_option maxHeartbeats 4000000 in
set_option maxRecDepth 100000 in
theorem containsFunc_calls (m : FuncId) (he : ∀ args w, (callFunc m args).run Try.prog w = .ok (.enter m args) w) (cap : Value) (pr : ByteArray → Bool) (Inv : World → Prop) (hInv : ∀ W W', Inv W → Below W.heap.size W W' → Inv W')
    (A : Option Addr) (c : Nat) (l : List ByteArray) (hf : ∀ x ∈ l, ∀ W, Inv W → Calls Try.prog m #[.string x, cap] W fun e W' => e = .returned (.bool (pr x)) ∧ Below W.heap.size W W')
    (w : World) (hc : Kd.string.C w A l.length l) (hl : l.length ≤ 100000) (h0 : Inv w) :
    Calls Try.prog 136 #[.slice A l.length c, .func (.func m) #[] #[cap]] w fun e w' => e = .returned (.bool (l.any pr)) ∧ Below w.heap.size w w' := by
  have H := Aside0.mk (indexFunc_calls m he cap pr Inv hInv A c l hf w hc hl h0)
  clear hf hInv hc hl h0
  go_enter Try.func136, Try.ntmps136
  go_wp2_with ((go_at_call 145; (with_reducible refine H.out.mono ?_); rintro e w1 ⟨⟨r, rfl, hr⟩, hb⟩; have HB := Aside0.mk hb; have HR := Aside0.mk hr; clear hb hr))
  go_ret
  exact ⟨congrArg (fun z => Ending.returned (Value.bool z)) HR.out.symm, HB.out⟩
end Go.Proofs.Ytchiobhklbefjaa.Fl
namespace Go.Proofs.Ytchiobhklbefjaa.Fl
open Go.RowKit Go.Proofs.YtchiobhklbefjaaW.PrintWords Go.Proofs.YtchiobhklbefjaaW.PrintLast Go.Proofs.YtchiobhklbefjaaW.PrintMore Go.Proofs.Ytchiobhklbefjaa.Tk Go.Proofs.Ytchiobhklbefjaa.E
set_option linter.unusedVariables false
set_option linter.unusedSimpArgs false
def matchB (fa fn fo l : List ByteArray) : Bool := !(fa.any (fun t => !hasB l t) || fo.any (hasB l)) && (decide (fn.length = 0) || fn.any (hasB l))
/-- What lies in the three boxes of Match: the filter, the tags' list, the closure. -/
structure Boxes (W : World) (n : Nat) (A0 : Option Addr) (c0 : Nat) (f0 : List ByteArray) (A1 : Option Addr) (c1 : Nat) (f1 : List ByteArray) (A2 : Option Addr) (c2 : Nat) (f2 : List ByteArray) (l : List ByteArray) : Prop where
  a0 : W.cell? ⟨n, 0, none⟩ = some (.slice A0 f0.length c0)
  a1 : W.cell? ⟨n, 1, none⟩ = some (.slice A1 f1.length c1)
  a2 : W.cell? ⟨n, 2, none⟩ = some (.slice A2 f2.length c2)
  k0 : Kd.string.C W A0 f0.length f0
  k1 : Kd.string.C W A1 f1.length f1
  k2 : Kd.string.C W A2 f2.length f2
  bf : BoxF W (n + 1 + 1) (n + 1) l
theorem Boxes.below {W W' : World} {n : Nat} {A0 : Option Addr} {c0 : Nat} {f0 : List ByteArray} {A1 : Option Addr} {c1 : Nat} {f1 : List ByteArray} {A2 : Option Addr} {c2 : Nat} {f2 : List ByteArray} {l : List ByteArray}
    (h : Boxes W n A0 c0 f0 A1 c1 f1 A2 c2 f2 l) (hb : Below W.heap.size W W') : Boxes W' n A0 c0 f0 A1 c1 f1 A2 c2 f2 l :=
  ⟨pw_cell_below hb h.a0, pw_cell_below hb h.a1, pw_cell_below hb h.a2, Kd.C_below h.k0 hb, Kd.C_below h.k1 hb, Kd.C_below h.k2 hb, h.bf.below hb⟩
theorem boxes_new (w : World) (A0 : Option Addr) (c0 : Nat) (f0 : List ByteArray) (A1 : Option Addr) (c1 : Nat) (f1 : List ByteArray) (A2 : Option Addr) (c2 : Nat) (f2 : List ByteArray) (A3 : Option Addr) (c3 : Nat) (l : List ByteArray)
    (h0 : Kd.string.C w A0 f0.length f0) (h1 : Kd.string.C w A1 f1.length f1) (h2 : Kd.string.C w A2 f2.length f2) (h3 : Kd.string.C w A3 l.length l) (hc3 : l.length ≤ c3) :
    Boxes (((w.alloc (.cells #[.slice A0 f0.length c0, .slice A1 f1.length c1, .slice A2 f2.length c2] 49)).alloc (.cells #[.slice A3 l.length c3] 47)).alloc (.cells #[.func (.func 133) #[] #[.pointer (some ⟨w.heap.size + 1, 0, none⟩)]] 175)) w.heap.size A0 c0 f0 A1 c1 f1 A2 c2 f2 l := by
  have b1 := below_alloc (Below.refl w.heap.size w) (.cells #[.slice A0 f0.length c0, .slice A1 f1.length c1, .slice A2 f2.length c2] 49)
  have g1 := heap_alloc_new w (.cells #[.slice A0 f0.length c0, .slice A1 f1.length c1, .slice A2 f2.length c2] 49)
  have s1 : (w.alloc (.cells #[.slice A0 f0.length c0, .slice A1 f1.length c1, .slice A2 f2.length c2] 49)).heap.size = w.heap.size + 1 := World.size_alloc _ _
  generalize w.alloc (.cells #[.slice A0 f0.length c0, .slice A1 f1.length c1, .slice A2 f2.length c2] 49) = w1 at *
  have b2 := below_alloc (Below.refl w1.heap.size w1) (.cells #[.slice A3 l.length c3] 47)
  have g2 := heap_alloc_new w1 (.cells #[.slice A3 l.length c3] 47)
  have s2 : (w1.alloc (.cells #[.slice A3 l.length c3] 47)).heap.size = w1.heap.size + 1 := World.size_alloc _ _
  generalize w1.alloc (.cells #[.slice A3 l.length c3] 47) = w2 at *
  have b3 := below_alloc (Below.refl w2.heap.size w2) (.cells #[.func (.func 133) #[] #[.pointer (some ⟨w.heap.size + 1, 0, none⟩)]] 175)
  have g3 := heap_alloc_new w2 (.cells #[.func (.func 133) #[] #[.pointer (some ⟨w.heap.size + 1, 0, none⟩)]] 175)
  generalize w2.alloc (.cells #[.func (.func 133) #[] #[.pointer (some ⟨w.heap.size + 1, 0, none⟩)]] 175) = w3 at *
  have b13 := bel_trans b2 b3
  have b03 := bel_trans b1 b13
  have e1 : w3.heap[w.heap.size]? = some (.cells #[.slice A0 f0.length c0, .slice A1 f1.length c1, .slice A2 f2.length c2] 49 (0, 0)) := (b13.block _ (by omega)).trans g1
  have e2 : w3.heap[w.heap.size + 1]? = some (.cells #[.slice A3 l.length c3] 47 (0, 0)) := by rw [s1] at g2; exact (b3.block _ (by omega)).trans g2
  have e3 : w3.heap[w.heap.size + 1 + 1]? = some (.cells #[.func (.func 133) #[] #[.pointer (some ⟨w.heap.size + 1, 0, none⟩)]] 175 (0, 0)) := by rw [s2, s1] at g3; exact g3
  exact ⟨by rw [blk_cell e1]; rfl, by rw [blk_cell e1]; rfl, by rw [blk_cell e1]; rfl, Kd.C_below h0 b03, Kd.C_below h1 b03, Kd.C_below h2 b03, by rw [blk_cell e3]; rfl, A3, c3, by rw [blk_cell e2]; rfl, hc3, Kd.C_below h3 b03⟩
end Go.Proofs.Ytchiobhklbefjaa.Fl
namespace Go.Proofs.Ytchiobhklbefjaa.Fl
open Go.RowKit Go.Proofs.YtchiobhklbefjaaW.PrintWords Go.Proofs.YtchiobhklbefjaaW.PrintLast Go.Proofs.YtchiobhklbefjaaW.PrintMore Go.Proofs.Ytchiobhklbefjaa.Tk Go.Proofs.Ytchiobhklbefjaa.E
set_option linter.unusedVariables false
set_option linter.unusedSimpArgs false
theorem BoxF.s {W : World} {g b : Nat} {l : List ByteArray} (h : BoxF W g b l) : BoxS W b l := h.2
set_option maxHeartbeats 8000000 in
set_option maxRecDepth 100000 in
theorem match_walk (A0 : Option Addr) (c0 : Nat) (f0 : List ByteArray) (A1 : Option Addr) (c1 : Nat) (f1 : List ByteArray) (A2 : Option Addr) (c2 : Nat) (f2 : List ByteArray) (A3 : Option Addr) (c3 : Nat) (l : List ByteArray) (w : World)
    (h0 : Kd.string.C w A0 f0.length f0) (h1 : Kd.string.C w A1 f1.length f1) (h2 : Kd.string.C w A2 f2.length f2) (h3 : Kd.string.C w A3 l.length l) (hc3 : l.length ≤ c3)
    (l0 : f0.length ≤ 100000) (l1 : f1.length ≤ 100000) (l2 : f2.length ≤ 100000) (l3 : l.length ≤ 100000) (r0 r1 r2 : Bool) (hr0 : f0.any (fun t => !hasB l t) = r0) (hr1 : f1.any (hasB l) = r1) (hr2 : f2.any (hasB l) = r2) (e1 : ((f1.length : Int) == 0) = decide (f1.length = 0)) :
    Calls Try.prog 105 #[.agg #[.slice A0 f0.length c0, .slice A1 f1.length c1, .slice A2 f2.length c2], .slice A3 l.length c3] w fun e w' => e = .returned (.bool (!(r0 || r2) && (decide (f1.length = 0) || r1))) ∧ Below w.heap.size w w' := by
  have HB0 := Aside0.mk (boxes_new w A0 c0 f0 A1 c1 f1 A2 c2 f2 A3 c3 l h0 h1 h2 h3 hc3)
  have HL0 := Aside0.mk l0
  have HL1 := Aside0.mk l1
  have HL2 := Aside0.mk l2
  have HL3 := Aside0.mk l3
  have HR0 := Aside0.mk hr0
  have HR1 := Aside0.mk hr1
  have HR2 := Aside0.mk hr2
  have HBW := Aside0.mk (bel_alloc (bel_alloc (below_alloc (Below.refl w.heap.size w) (.cells #[.slice A0 f0.length c0, .slice A1 f1.length c1, .slice A2 f2.length c2] 49)) (.cells #[.slice A3 l.length c3] 47)) (.cells #[.func (.func 133) #[] #[.pointer (some ⟨w.heap.size + 1, 0, none⟩)]] 175))
  obtain ⟨z, hz⟩ : ∃ z, decide (f1.length = 0) = z := ⟨_, rfl⟩
  rw [hz] at e1 ⊢
  clear h0 h1 h2 h3 hc3 l0 l1 l2 l3 hr0 hr1 hr2 hz
  cases r0 <;> cases r2 <;> cases z <;> (
    go_enter Try.func105, Try.ntmps105
    go_wp2_with (first | (go_at_call 136; (first | (have := HB5; (with_reducible refine (containsFunc_calls 133 enters_has _ (hasB l) (fun W => BoxF W (w.heap.size + 1 + 1) (w.heap.size + 1) l) (fun _ _ h hb => h.below hb) _ _ f1 (fun x _ W hI => has_calls _ l x W hI.s HL3.out) _ HB5.out.k1 HL1.out HB5.out.bf).mono ?_); rintro e w6 ⟨rfl, hb⟩; rw [HR1.out]; have HB6 := Aside0.mk (HB5.out.below hb); have HW6 := Aside0.mk (bel_trans HW5.out hb); clear hb) | (have := HB4; (with_reducible refine (containsFunc_calls 133 enters_has _ (hasB l) (fun W => BoxF W (w.heap.size + 1 + 1) (w.heap.size + 1) l) (fun _ _ h hb => h.below hb) _ _ f2 (fun x _ W hI => has_calls _ l x W hI.s HL3.out) _ HB4.out.k2 HL2.out HB4.out.bf).mono ?_); rintro e w5 ⟨rfl, hb⟩; rw [HR2.out]; have HB5 := Aside0.mk (HB4.out.below hb); have HW5 := Aside0.mk (bel_trans HW4.out hb); clear x0 x1 x2 x3; have y0 := HB5.out.a0; have y1 := HB5.out.a1; have y2 := HB5.out.a2; have y3 := HB5.out.bf.1; clear hb) | ((with_reducible refine (containsFunc_calls 135 enters_lacks _ (fun t => !hasB l t) (fun W => BoxF W (w.heap.size + 1 + 1) (w.heap.size + 1) l) (fun _ _ h hb => h.below hb) _ _ f0 (fun x _ W hI => lacks_calls _ _ l x W hI HL3.out) _ HB0.out.k0 HL0.out HB0.out.bf).mono ?_); rintro e w4 ⟨rfl, hb⟩; rw [HR0.out]; have HB4 := Aside0.mk (HB0.out.below hb); have HW4 := Aside0.mk (bel_trans HBW.out hb); have x0 := HB4.out.a0; have x1 := HB4.out.a1; have x2 := HB4.out.a2; have x3 := HB4.out.bf.1; clear hb))))
    all_goals
      go_ret
      exact ⟨rfl, by first | exact HW6.out | exact HW5.out | exact HW4.out⟩)
theorem match_calls (A0 : Option Addr) (c0 : Nat) (f0 : List ByteArray) (A1 : Option Addr) (c1 : Nat) (f1 : List ByteArray) (A2 : Option Addr) (c2 : Nat) (f2 : List ByteArray) (A3 : Option Addr) (c3 : Nat) (l : List ByteArray) (w : World)
    (h0 : Kd.string.C w A0 f0.length f0) (h1 : Kd.string.C w A1 f1.length f1) (h2 : Kd.string.C w A2 f2.length f2) (h3 : Kd.string.C w A3 l.length l) (hc3 : l.length ≤ c3)
    (l0 : f0.length ≤ 100000) (l1 : f1.length ≤ 100000) (l2 : f2.length ≤ 100000) (l3 : l.length ≤ 100000) :
    Calls Try.prog 105 #[.agg #[.slice A0 f0.length c0, .slice A1 f1.length c1, .slice A2 f2.length c2], .slice A3 l.length c3] w fun e w' => e = .returned (.bool (matchB f0 f1 f2 l)) ∧ Below w.heap.size w w' :=
  match_walk A0 c0 f0 A1 c1 f1 A2 c2 f2 A3 c3 l w h0 h1 h2 h3 hc3 l0 l1 l2 l3 _ _ _ rfl rfl rfl (by by_cases h : f1.length = 0 <;> simp [h])
end Go.Proofs.Ytchiobhklbefjaa.Fl
namespace Go.Proofs.Ytchiobhklbefjaa.Fl
open Go.RowKit Go.Proofs.YtchiobhklbefjaaW.PrintWords Go.Proofs.YtchiobhklbefjaaW.PrintLast Go.Proofs.YtchiobhklbefjaaW.PrintMore Go.Proofs.Ytchiobhklbefjaa.Q Go.Proofs.Ytchiobhklbefjaa.E
set_option linter.unusedVariables false
set_option linter.unusedSimpArgs false
/-- 'fixvec.Dist' as a plain function: the printed 'Check', 'square' and 'minus', joined. -/
def fixvec_Dist.f (k : Nat) (a0 : Int) (l1 : List Int) (l2 : List Int) : Option (Int × Bool) :=
  if a0 > 1 then some (0, false) else
  (fixvec_Check.f k l1 (l1.length : Int)).bind fun t =>
  if t = 0 then
    (fixvec_Check.f k l2 (l1.length : Int)).bind fun u =>
    if u = 0 then
      if a0 = 0 then (fixvec_square.f k l1 l2).bind fun s => some (s, true)
      else if a0 = 1 then (fixvec_minus.f k l1 l2).bind fun s => some (s, true) else none
    else some (0, false)
  else some (0, false)
theorem fixvec_Dist.mono : ∀ a0 a1 a2 k, LeO (fixvec_Dist.f k a0 a1 a2) (fixvec_Dist.f (k + 1) a0 a1 a2) := by
  intro a0 a1 a2 k
  unfold fixvec_Dist.f
  repeat' first
      | exact fixvec_Check.mono _ _ _
      | exact fixvec_square.mono _ _ _
      | exact fixvec_minus.mono _ _ _
      | exact LeO.refl _
      | refine LeO.ite ?_ ?_
      | refine LeO.bind ?_ (fun _ => ?_)
set_option maxHeartbeats 2000000 in
theorem fixvec_Dist.calls_big (a0 : Int) (A1 : Option Addr) (c1 : Nat) (l1 : List Int) (A2 : Option Addr) (c2 : Nat) (l2 : List Int) (w : World) (h : a0 > 1) :
    Calls Try.prog 104 #[.int .u8 a0, .slice A1 l1.length c1, .slice A2 l2.length c2] w fun e w' => e = .returned (.tuple #[.int .i64 0, .bool false]) ∧ Below w.heap.size w w' := by
  have h1 : decide (1 < a0) = true := decide_eq_true h
  clear h
  go_enter Try.func104, Try.ntmps104
  go_wp2
  go_ret2
  exact ⟨rfl, Below.refl _ _⟩
set_option maxHeartbeats 2000000 in
theorem fixvec_Dist.calls_no1 (k : Nat) (a0 : Int) (A1 : Option Addr) (c1 : Nat) (l1 : List Int) (A2 : Option Addr) (c2 : Nat) (l2 : List Int) (w : World) (t : Int)
    (hr1 : Kd.C (Kd.int .i32) w A1 l1.length l1) (hc1 : l1.length ≤ c1) (h : ¬ a0 > 1) (h1 : fixvec_Check.f k l1 (l1.length : Int) = some t) (ht : ¬ t = 0) :
    Calls Try.prog 104 #[.int .u8 a0, .slice A1 l1.length c1, .slice A2 l2.length c2] w fun e w' => e = .returned (.tuple #[.int .i64 0, .bool false]) ∧ Below w.heap.size w w' := by
  have H1 := Aside0.mk h1
  have HR1 := Aside0.mk hr1
  have HC1 := Aside0.mk hc1
  clear h1 hr1 hc1
  have h1 : decide (1 < a0) = false := decide_eq_false h
  have h2 : (t != 0) = true := bne_iff_ne.mpr ht
  clear h ht
  go_enter Try.func104, Try.ntmps104
  go_wp2_with ((go_at_call 130; (with_reducible refine (fixvec_Check.calls k _ _ l1 _ _ _ HR1.out HC1.out H1.out).mono ?_); rintro e w1 ⟨rfl, hd⟩; have HB := Aside0.mk hd.below; clear hd))
  go_ret2
  exact ⟨rfl, HB.out⟩
set_option maxHeartbeats 2000000 in
theorem fixvec_Dist.calls_no2 (k : Nat) (a0 : Int) (A1 : Option Addr) (c1 : Nat) (l1 : List Int) (A2 : Option Addr) (c2 : Nat) (l2 : List Int) (w : World) (t : Int)
    (hr1 : Kd.C (Kd.int .i32) w A1 l1.length l1) (hc1 : l1.length ≤ c1) (hr2 : Kd.C (Kd.int .i32) w A2 l2.length l2) (hc2 : l2.length ≤ c2)
    (h : ¬ a0 > 1) (h1 : fixvec_Check.f k l1 (l1.length : Int) = some 0) (h2 : fixvec_Check.f k l2 (l1.length : Int) = some t) (ht : ¬ t = 0) :
    Calls Try.prog 104 #[.int .u8 a0, .slice A1 l1.length c1, .slice A2 l2.length c2] w fun e w' => e = .returned (.tuple #[.int .i64 0, .bool false]) ∧ Below w.heap.size w w' := by
  have H1 := Aside0.mk h1
  have H2 := Aside0.mk h2
  have HR1 := Aside0.mk hr1
  have HC1 := Aside0.mk hc1
  have HR2 := Aside0.mk hr2
  have HC2 := Aside0.mk hc2
  clear h1 h2 hr1 hc1 hr2 hc2
  have h1 : decide (1 < a0) = false := decide_eq_false h
  have h2 : (t != 0) = true := bne_iff_ne.mpr ht
  clear h ht
  go_enter Try.func104, Try.ntmps104
  go_wp2_with (first | (go_at_call 130; (with_reducible refine (fixvec_Check.calls k _ _ l1 _ _ _ HR1.out HC1.out H1.out).mono ?_); rintro e w1 ⟨rfl, hd⟩; have HB := Aside0.mk hd.below; clear hd) | (go_at_call 130; (with_reducible refine (fixvec_Check.calls k _ _ l2 _ _ _ (Kd.C_below HR2.out HB.out) HC2.out H2.out).mono ?_); rintro e w2 ⟨rfl, hd⟩; have HB2 := Aside0.mk (below_then HB.out HB.out.size hd.below); clear hd))
  go_ret2
  exact ⟨rfl, HB2.out⟩
set_option maxHeartbeats 2000000 in
theorem fixvec_Dist.calls_sq (k : Nat) (A1 : Option Addr) (c1 : Nat) (l1 : List Int) (A2 : Option Addr) (c2 : Nat) (l2 : List Int) (w : World) (s : Int)
    (hr1 : Kd.C (Kd.int .i32) w A1 l1.length l1) (hc1 : l1.length ≤ c1) (hr2 : Kd.C (Kd.int .i32) w A2 l2.length l2) (hc2 : l2.length ≤ c2)
    (h1 : fixvec_Check.f k l1 (l1.length : Int) = some 0) (h2 : fixvec_Check.f k l2 (l1.length : Int) = some 0) (h3 : fixvec_square.f k l1 l2 = some s) :
    Calls Try.prog 104 #[.int .u8 0, .slice A1 l1.length c1, .slice A2 l2.length c2] w fun e w' => e = .returned (.tuple #[.int .i64 s, .bool true]) ∧ Below w.heap.size w w' := by
  have H1 := Aside0.mk h1
  have H2 := Aside0.mk h2
  have H3 := Aside0.mk h3
  have HR1 := Aside0.mk hr1
  have HR2 := Aside0.mk hr2
  have HC1 := Aside0.mk hc1
  have HC2 := Aside0.mk hc2
  clear h1 h2 h3 hr1 hr2 hc1 hc2
  go_enter Try.func104, Try.ntmps104
  go_wp2_with (first | (go_at_call 130; (with_reducible refine (fixvec_Check.calls k _ _ l1 _ _ _ HR1.out HC1.out H1.out).mono ?_); rintro e w1 ⟨rfl, hd⟩; have HB := Aside0.mk hd.below; clear hd) | (go_at_call 130; (with_reducible refine (fixvec_Check.calls k _ _ l2 _ _ _ (Kd.C_below HR2.out HB.out) HC2.out H2.out).mono ?_); rintro e w2 ⟨rfl, hd⟩; have HB2 := Aside0.mk (below_then HB.out HB.out.size hd.below); clear hd) | (go_at_call 131; have HB3 := Aside0.mk (HB2.out.alloc HB2.out.size (Obj.cells #[Value.func (Fn.func 131) #[] #[], Value.func (Fn.func 132) #[] #[]] 174)); (with_reducible refine (fixvec_square.calls k _ _ l1 _ _ l2 _ _ (Kd.C_below HR1.out HB3.out) HC1.out (Kd.C_below HR2.out HB3.out) HC2.out H3.out).mono ?_); rintro e w3 ⟨rfl, hd⟩; have HB4 := Aside0.mk (below_then HB3.out HB3.out.size hd.below); clear hd))
  go_ret2
  exact ⟨rfl, HB4.out⟩
set_option maxHeartbeats 2000000 in
theorem fixvec_Dist.calls_mi (k : Nat) (A1 : Option Addr) (c1 : Nat) (l1 : List Int) (A2 : Option Addr) (c2 : Nat) (l2 : List Int) (w : World) (s : Int)
    (hr1 : Kd.C (Kd.int .i32) w A1 l1.length l1) (hc1 : l1.length ≤ c1) (hr2 : Kd.C (Kd.int .i32) w A2 l2.length l2) (hc2 : l2.length ≤ c2)
    (h1 : fixvec_Check.f k l1 (l1.length : Int) = some 0) (h2 : fixvec_Check.f k l2 (l1.length : Int) = some 0) (h3 : fixvec_minus.f k l1 l2 = some s) :
    Calls Try.prog 104 #[.int .u8 1, .slice A1 l1.length c1, .slice A2 l2.length c2] w fun e w' => e = .returned (.tuple #[.int .i64 s, .bool true]) ∧ Below w.heap.size w w' := by
  have H1 := Aside0.mk h1
  have H2 := Aside0.mk h2
  have H3 := Aside0.mk h3
  have HR1 := Aside0.mk hr1
  have HR2 := Aside0.mk hr2
  have HC1 := Aside0.mk hc1
  have HC2 := Aside0.mk hc2
  clear h1 h2 h3 hr1 hr2 hc1 hc2
  go_enter Try.func104, Try.ntmps104
  go_wp2_with (first | (go_at_call 130; (with_reducible refine (fixvec_Check.calls k _ _ l1 _ _ _ HR1.out HC1.out H1.out).mono ?_); rintro e w1 ⟨rfl, hd⟩; have HB := Aside0.mk hd.below; clear hd) | (go_at_call 130; (with_reducible refine (fixvec_Check.calls k _ _ l2 _ _ _ (Kd.C_below HR2.out HB.out) HC2.out H2.out).mono ?_); rintro e w2 ⟨rfl, hd⟩; have HB2 := Aside0.mk (below_then HB.out HB.out.size hd.below); clear hd) | (go_at_call 132; have HB3 := Aside0.mk (HB2.out.alloc HB2.out.size (Obj.cells #[Value.func (Fn.func 131) #[] #[], Value.func (Fn.func 132) #[] #[]] 174)); (with_reducible refine (fixvec_minus.calls k _ _ l1 _ _ l2 _ _ (Kd.C_below HR1.out HB3.out) HC1.out (Kd.C_below HR2.out HB3.out) HC2.out H3.out).mono ?_); rintro e w3 ⟨rfl, hd⟩; have HB4 := Aside0.mk (below_then HB3.out HB3.out.size hd.below); clear hd))
  go_ret2
  exact ⟨rfl, HB4.out⟩
theorem fixvec_Dist.calls (k : Nat) (a0 : Int) (A1 : Option Addr) (c1 : Nat) (l1 : List Int) (A2 : Option Addr) (c2 : Nat) (l2 : List Int) (r1 : Int) (r2 : Bool) (w : World) (hr1 : Kd.C (Kd.int .i32) w A1 l1.length l1) (hc1 : l1.length ≤ c1) (hr2 : Kd.C (Kd.int .i32) w A2 l2.length l2) (hc2 : l2.length ≤ c2) (h : fixvec_Dist.f k a0 l1 l2 = some (r1, r2)) :
    Calls Try.prog 104 #[.int .u8 a0, .slice A1 l1.length c1, .slice A2 l2.length c2] w fun e w' => e = .returned (.tuple #[.int .i64 r1, .bool r2]) ∧ Below w.heap.size w w' := by
  unfold fixvec_Dist.f at h
  by_cases hb : a0 > 1
  · rw [if_pos hb] at h
    cases h
    exact fixvec_Dist.calls_big a0 A1 c1 l1 A2 c2 l2 w hb
  rw [if_neg hb] at h
  obtain ⟨t, h1, h⟩ := Option.bind_eq_some_iff.mp h
  by_cases ht : t = 0
  · subst ht
    rw [if_pos rfl] at h
    obtain ⟨u, h2, h⟩ := Option.bind_eq_some_iff.mp h
    by_cases hu : u = 0
    · subst hu
      rw [if_pos rfl] at h
      by_cases h00 : a0 = 0
      · subst h00
        rw [if_pos rfl] at h
        obtain ⟨s, h3, h⟩ := Option.bind_eq_some_iff.mp h
        cases h
        exact fixvec_Dist.calls_sq k A1 c1 l1 A2 c2 l2 w _ hr1 hc1 hr2 hc2 h1 h2 h3
      · rw [if_neg h00] at h
        by_cases h01 : a0 = 1
        · subst h01
          rw [if_pos rfl] at h
          obtain ⟨s, h3, h⟩ := Option.bind_eq_some_iff.mp h
          cases h
          exact fixvec_Dist.calls_mi k A1 c1 l1 A2 c2 l2 w _ hr1 hc1 hr2 hc2 h1 h2 h3
        · rw [if_neg h01] at h
          cases h
    · rw [if_neg hu] at h
      cases h
      exact fixvec_Dist.calls_no2 k a0 A1 c1 l1 A2 c2 l2 w u hr1 hc1 hr2 hc2 hb h1 h2 hu
  · rw [if_neg ht] at h
    cases h
    exact fixvec_Dist.calls_no1 k a0 A1 c1 l1 A2 c2 l2 w t hr1 hc1 hb h1 ht
theorem w64 {x : Int} (h0 : -9223372036854775808 ≤ x) (h1 : x ≤ 9223372036854775807) : wrap64 x = x := by unfold wrap64; omega
theorem rd_at (l : List Int) (i : Nat) (h : i < l.length) : rd l (i : Int) = l[i] := by simp [rd, h]
theorem drop_at (l : List Int) (i : Nat) (h : i < l.length) : l.drop i = rd l (i : Int) :: l.drop (i + 1) := by
  rw [rd_at l i h]; exact List.drop_eq_getElem_cons h
def okp (x : Int) : Prop := -1048576 ≤ x ∧ x ≤ 1048576
instance (x : Int) : Decidable (okp x) := by unfold okp; exact inferInstance
def chk (l : List Int) (dim : Int) : Int := if dim < 1 ∨ dim > 16 ∨ (l.length : Int) ≠ dim then 10 else if ∀ x ∈ l, okp x then 0 else 11

theorem check_l (l : List Int) (hl : l.length ≤ 140737488351232) (d : Nat) : ∀ (k i : Nat), i ≤ l.length → l.length - i = d → d < k →
    fixvec_Check.l0 k l (l.length : Int) (i : Int) = some (if ∀ x ∈ l.drop i, okp x then 0 else 11) := by
  induction d with
  | zero =>
    intro k i hi hd hk
    obtain ⟨k, rfl⟩ : ∃ m, k = m + 1 := ⟨k - 1, by omega⟩
    simp only [fixvec_Check.l0]
    rw [if_neg (by omega), List.drop_eq_nil_of_le (by omega)]
    simp
  | succ d ih =>
    intro k i hi hd hk
    obtain ⟨k, rfl⟩ : ∃ m, k = m + 1 := ⟨k - 1, by omega⟩
    have h1 := ih k (i + 1) (by omega) (by omega) (by omega)
    simp only [fixvec_Check.l0]
    rw [if_pos (by omega), if_pos (by omega), if_pos (by omega), drop_at l i (by omega), w64 (by omega) (by omega)]
    by_cases ha : rd l (i : Int) < -1048576
    · rw [if_pos ha, if_neg]
      intro h
      have := (h _ (List.mem_cons_self)).1
      omega
    · rw [if_neg ha]
      by_cases hb : rd l (i : Int) > 1048576
      · rw [if_pos hb, if_neg]
        intro h
        have := (h _ (List.mem_cons_self)).2
        omega
      · rw [if_neg hb]
        have h2 : ((i : Int) + 1) = ((i + 1 : Nat) : Int) := by omega
        rw [h2, h1]
        congr 1
        simp only [List.forall_mem_cons]
        have h3 : okp (rd l (i : Int)) := ⟨by omega, by omega⟩
        simp [h3]
theorem check_f (l : List Int) (dim : Int) (k : Nat) (hk : l.length + 2 ≤ k) : fixvec_Check.f k l dim = some (chk l dim) := by
  obtain ⟨k, rfl⟩ : ∃ m, k = m + 1 := ⟨k - 1, by omega⟩
  unfold fixvec_Check.f chk
  by_cases h1 : dim < 1
  · rw [if_pos h1]; simp [fixvec_Check.j0, h1]
  · rw [if_neg h1]
    by_cases h2 : dim > 16
    · rw [if_pos h2]; simp [fixvec_Check.j0, h2]
    · rw [if_neg h2]
      by_cases h3 : (l.length : Int) = dim
      · have := check_l l (by omega) l.length k 0 (by omega) (by omega) (by omega)
        simp only [fixvec_Check.j0, h3, bne_self_eq_false, Bool.false_eq_true, if_false]
        rw [h3] at this
        simp only [List.drop_zero, Int.natCast_zero] at this
        rw [this]
        simp [h1, h2]
      · have : ((l.length : Int) != dim) = true := bne_iff_ne.mpr h3
        simp [fixvec_Check.j0, this, h3]
theorem rcheck_l (l : List Int) (hl : l.length ≤ 140737488351232) (d : Nat) : ∀ (k i : Nat), i ≤ l.length → l.length - i = d → d < k →
    lodestarref01_Check.l0 k l (i : Int) = some (if ∀ x ∈ l.drop i, okp x then 0 else 11) := by
  induction d with
  | zero =>
    intro k i hi hd hk
    obtain ⟨k, rfl⟩ : ∃ m, k = m + 1 := ⟨k - 1, by omega⟩
    simp only [lodestarref01_Check.l0]
    rw [if_neg (by omega), List.drop_eq_nil_of_le (by omega)]
    simp
  | succ d ih =>
    intro k i hi hd hk
    obtain ⟨k, rfl⟩ : ∃ m, k = m + 1 := ⟨k - 1, by omega⟩
    have h1 := ih k (i + 1) (by omega) (by omega) (by omega)
    simp only [lodestarref01_Check.l0]
    rw [if_pos (by omega), if_pos (by omega), drop_at l i (by omega), w64 (by omega) (by omega)]
    by_cases hb : rd l (i : Int) > 1048576
    · rw [if_pos hb, if_neg]
      intro h
      have := (h _ (List.mem_cons_self)).2
      omega
    · rw [if_neg hb]
      by_cases ha : rd l (i : Int) < -1048576
      · rw [if_pos ha, if_neg]
        intro h
        have := (h _ (List.mem_cons_self)).1
        omega
      · rw [if_neg ha]
        have h2 : ((i : Int) + 1) = ((i + 1 : Nat) : Int) := by omega
        rw [h2, h1]
        congr 1
        simp only [List.forall_mem_cons]
        have h3 : okp (rd l (i : Int)) := ⟨by omega, by omega⟩
        simp [h3]
theorem rcheck_f (l : List Int) (dim : Int) (k : Nat) (hk : l.length + 2 ≤ k) : lodestarref01_Check.f k l dim = some (chk l dim) := by
  obtain ⟨k, rfl⟩ : ∃ m, k = m + 1 := ⟨k - 1, by omega⟩
  unfold lodestarref01_Check.f chk
  by_cases h1 : dim < 1
  · rw [if_pos h1]; simp [lodestarref01_Check.j0, h1]
  · rw [if_neg h1]
    by_cases h2 : dim > 16
    · rw [if_pos h2]; simp [lodestarref01_Check.j0, h2]
    · rw [if_neg h2]
      by_cases h3 : (l.length : Int) = dim
      · have := rcheck_l l (by omega) l.length k 0 (by omega) (by omega) (by omega)
        simp only [lodestarref01_Check.j0, h3, bne_self_eq_false, Bool.false_eq_true, if_false]
        simp only [List.drop_zero, Int.natCast_zero] at this
        rw [this]
        simp [h1, h2]
      · have : ((l.length : Int) != dim) = true := bne_iff_ne.mpr h3
        simp [lodestarref01_Check.j0, this, h3]

/-- The sum of the squares; of the products. -/
def sqs : List Int → List Int → Int
  | a :: l, b :: m => (a - b) * (a - b) + sqs l m
  | _, _ => 0
def prs : List Int → List Int → Int
  | a :: l, b :: m => a * b + prs l m
  | _, _ => 0
theorem sq_le {d B : Int} (h0 : -B ≤ d) (h1 : d ≤ B) : d * d ≤ B * B := by
  have h := Int.mul_nonneg (show 0 ≤ B - d by omega) (show 0 ≤ B + d by omega)
  have e : (B - d) * (B + d) = B * B - d * d := by grind
  omega
theorem sq_nonneg (d : Int) : 0 ≤ d * d := by
  rcases Int.le_total 0 d with h | h
  · exact Int.mul_nonneg h h
  · exact Int.mul_nonneg_of_nonpos_of_nonpos h h
theorem mul_bd {a b B : Int} (ha0 : -B ≤ a) (ha1 : a ≤ B) (hb0 : -B ≤ b) (hb1 : b ≤ B) : -(B * B) ≤ a * b ∧ a * b ≤ B * B := by
  have h1 := Int.mul_nonneg (show 0 ≤ B - a by omega) (show 0 ≤ B + b by omega)
  have h2 := Int.mul_nonneg (show 0 ≤ B + a by omega) (show 0 ≤ B - b by omega)
  have h3 := Int.mul_nonneg (show 0 ≤ B - a by omega) (show 0 ≤ B - b by omega)
  have h4 := Int.mul_nonneg (show 0 ≤ B + a by omega) (show 0 ≤ B + b by omega)
  have e1 : (B - a) * (B + b) + (B + a) * (B - b) = 2 * (B * B) - 2 * (a * b) := by grind
  have e2 : (B - a) * (B - b) + (B + a) * (B + b) = 2 * (B * B) + 2 * (a * b) := by grind
  constructor <;> omega
theorem sqs_bd : ∀ (l m : List Int), (∀ x ∈ l, okp x) → (∀ x ∈ m, okp x) → 0 ≤ sqs l m ∧ sqs l m ≤ l.length * 4398046511104
  | [], m, _, _ => by cases m <;> simp [sqs]
  | a :: l, [], _, _ => by simp only [sqs]; constructor <;> omega
  | a :: l, b :: m, hl, hm => by
    obtain ⟨h1, h2⟩ := sqs_bd l m (fun x hx => hl x (List.mem_cons_of_mem _ hx)) (fun x hx => hm x (List.mem_cons_of_mem _ hx))
    have ha := hl a List.mem_cons_self
    have hb := hm b List.mem_cons_self
    unfold okp at ha hb
    have h3 := sq_le (d := a - b) (B := 2097152) (by omega) (by omega)
    have h4 := sq_nonneg (a - b)
    simp only [sqs, List.length_cons]
    constructor <;> omega
theorem prs_bd : ∀ (l m : List Int), (∀ x ∈ l, okp x) → (∀ x ∈ m, okp x) → -(l.length * 1099511627776) ≤ prs l m ∧ prs l m ≤ l.length * 1099511627776
  | [], m, _, _ => by cases m <;> simp [prs]
  | a :: l, [], _, _ => by simp only [prs]; constructor <;> omega
  | a :: l, b :: m, hl, hm => by
    obtain ⟨h1, h2⟩ := prs_bd l m (fun x hx => hl x (List.mem_cons_of_mem _ hx)) (fun x hx => hm x (List.mem_cons_of_mem _ hx))
    have ha := hl a List.mem_cons_self
    have hb := hm b List.mem_cons_self
    unfold okp at ha hb
    have h3 := mul_bd (a := a) (b := b) (B := 1048576) (by omega) (by omega) (by omega) (by omega)
    simp only [prs, List.length_cons]
    constructor <;> omega
/-- Both vectors may be, and are as long. -/
def both (l m : List Int) : Prop := 1 ≤ l.length ∧ l.length ≤ 16 ∧ m.length = l.length ∧ (∀ x ∈ l, okp x) ∧ ∀ x ∈ m, okp x
theorem okp_rd {l : List Int} (h : ∀ x ∈ l, okp x) {i : Nat} (hi : i < l.length) : okp (rd l (i : Int)) := by
  rw [rd_at l i hi]; exact h _ (List.getElem_mem hi)
theorem square_l (l m : List Int) (h : both l m) (d : Nat) : ∀ (k i : Nat) (s : Int), i ≤ l.length → l.length - i = d → d < k → 0 ≤ s → s ≤ i * 4398046511104 →
    fixvec_square.l0 k m s l (l.length : Int) (i : Int) = some (s + sqs (l.drop i) (m.drop i)) := by
  obtain ⟨b1, b2, b3, b4, b5⟩ := h
  induction d with
  | zero =>
    intro k i s hi hd hk _ _
    obtain ⟨k, rfl⟩ : ∃ m, k = m + 1 := ⟨k - 1, by omega⟩
    simp only [fixvec_square.l0]
    rw [if_neg (by omega), List.drop_eq_nil_of_le (by omega)]
    simp [sqs]
  | succ d ih =>
    intro k i s hi hd hk hs0 hs1
    obtain ⟨k, rfl⟩ : ∃ m, k = m + 1 := ⟨k - 1, by omega⟩
    have ha := okp_rd b4 (i := i) (by omega)
    have hb := okp_rd b5 (i := i) (by omega)
    rw [drop_at l i (by omega), drop_at m i (by omega)]
    simp only [fixvec_square.l0]
    generalize rd l (i : Int) = x at *
    generalize rd m (i : Int) = y at *
    unfold okp at ha hb
    have h3 := sq_le (d := x - y) (B := 2097152) (by omega) (by omega)
    have h4 := sq_nonneg (x - y)
    rw [if_pos (by omega), if_pos (by omega), if_pos (by omega), if_pos (by omega), w64 (x := x) (by omega) (by omega), w64 (x := y) (by omega) (by omega), w64 (x := x - y) (by omega) (by omega), w64 (x := (x - y) * (x - y)) (by omega) (by omega), w64 (x := s + (x - y) * (x - y)) (by omega) (by omega), w64 (x := (i : Int) + 1) (by omega) (by omega)]
    have h2 : ((i : Int) + 1) = ((i + 1 : Nat) : Int) := by omega
    rw [h2, ih k (i + 1) _ (by omega) (by omega) (by omega) (by omega) (by omega)]
    simp only [sqs]
    congr 1
    omega
theorem square_f (l m : List Int) (h : both l m) (k : Nat) (hk : 17 ≤ k) : fixvec_square.f k l m = some (sqs l m) := by
  have := square_l l m h l.length k 0 0 (by omega) (by omega) (by have := h.2.1; omega) (by omega) (by omega)
  unfold fixvec_square.f
  simp only [List.drop_zero, Int.natCast_zero, Int.zero_add] at this
  exact this
theorem minus_l (l m : List Int) (h : both l m) (d : Nat) : ∀ (k i : Nat) (s : Int), i ≤ l.length → l.length - i = d → d < k → -(i * 1099511627776) ≤ s → s ≤ i * 1099511627776 →
    fixvec_minus.l0 k m s l (l.length : Int) (i : Int) = some (s - prs (l.drop i) (m.drop i)) := by
  obtain ⟨b1, b2, b3, b4, b5⟩ := h
  induction d with
  | zero =>
    intro k i s hi hd hk _ _
    obtain ⟨k, rfl⟩ : ∃ m, k = m + 1 := ⟨k - 1, by omega⟩
    simp only [fixvec_minus.l0]
    rw [if_neg (by omega), List.drop_eq_nil_of_le (by omega)]
    simp [prs]
  | succ d ih =>
    intro k i s hi hd hk hs0 hs1
    obtain ⟨k, rfl⟩ : ∃ m, k = m + 1 := ⟨k - 1, by omega⟩
    have ha := okp_rd b4 (i := i) (by omega)
    have hb := okp_rd b5 (i := i) (by omega)
    rw [drop_at l i (by omega), drop_at m i (by omega)]
    simp only [fixvec_minus.l0]
    generalize rd l (i : Int) = x at *
    generalize rd m (i : Int) = y at *
    unfold okp at ha hb
    have h3 := mul_bd (a := x) (b := y) (B := 1048576) (by omega) (by omega) (by omega) (by omega)
    rw [if_pos (by omega), if_pos (by omega), if_pos (by omega), if_pos (by omega), w64 (x := x) (by omega) (by omega), w64 (x := y) (by omega) (by omega), w64 (x := x * y) (by omega) (by omega), w64 (x := s - x * y) (by omega) (by omega), w64 (x := (i : Int) + 1) (by omega) (by omega)]
    have h2 : ((i : Int) + 1) = ((i + 1 : Nat) : Int) := by omega
    rw [h2, ih k (i + 1) _ (by omega) (by omega) (by omega) (by omega) (by omega)]
    simp only [prs]
    congr 1
    omega
theorem minus_f (l m : List Int) (h : both l m) (k : Nat) (hk : 17 ≤ k) : fixvec_minus.f k l m = some (-prs l m) := by
  have := minus_l l m h l.length k 0 0 (by omega) (by omega) (by have := h.2.1; omega) (by omega) (by omega)
  unfold fixvec_minus.f
  simp only [List.drop_zero, Int.natCast_zero, Int.zero_sub] at this
  exact this
instance (l m : List Int) : Decidable (both l m) := by unfold both; exact inferInstance
theorem chk_own (l : List Int) : chk l (l.length : Int) = 0 ↔ 1 ≤ l.length ∧ l.length ≤ 16 ∧ ∀ x ∈ l, okp x := by
  unfold chk
  by_cases h : (l.length : Int) < 1 ∨ (l.length : Int) > 16 ∨ (l.length : Int) ≠ l.length
  · rw [if_pos h]; constructor
    · intro h; omega
    · rintro ⟨_, _, _⟩; omega
  · rw [if_neg h]
    by_cases h2 : ∀ x ∈ l, okp x
    · rw [if_pos h2]; exact ⟨fun _ => ⟨by omega, by omega, h2⟩, fun _ => rfl⟩
    · rw [if_neg h2]; exact ⟨fun h => by omega, fun h => absurd h.2.2 h2⟩
theorem chk_other (l m : List Int) (h : 1 ≤ l.length ∧ l.length ≤ 16) : chk m (l.length : Int) = 0 ↔ m.length = l.length ∧ ∀ x ∈ m, okp x := by
  unfold chk
  by_cases h1 : (l.length : Int) < 1 ∨ (l.length : Int) > 16 ∨ (m.length : Int) ≠ l.length
  · rw [if_pos h1]; constructor
    · intro h; omega
    · rintro ⟨_, _⟩; omega
  · rw [if_neg h1]
    by_cases h2 : ∀ x ∈ m, okp x
    · rw [if_pos h2]; exact ⟨fun _ => ⟨by omega, h2⟩, fun _ => rfl⟩
    · rw [if_neg h2]; exact ⟨fun h => by omega, fun h => absurd h.2 h2⟩
/-- 'Dist', as the document has it. -/
def dist (a0 : Int) (l m : List Int) : Int × Bool := if a0 ≤ 1 ∧ both l m then (if a0 = 0 then sqs l m else -prs l m, true) else (0, false)
theorem dist_f (a0 : Int) (h0 : 0 ≤ a0) (l m : List Int) (k : Nat) (hk : l.length + m.length + 17 ≤ k) : fixvec_Dist.f k a0 l m = some (dist a0 l m) := by
  unfold fixvec_Dist.f dist
  by_cases h1 : a0 > 1
  · rw [if_pos h1, if_neg (by omega)]
  · rw [if_neg h1, check_f l _ k (by omega)]
    simp only [Option.bind_some]
    by_cases c1 : chk l (l.length : Int) = 0
    · rw [if_pos c1, check_f m _ k (by omega)]
      simp only [Option.bind_some]
      have c := (chk_own l).1 c1
      by_cases c2 : chk m (l.length : Int) = 0
      · have d := (chk_other l m ⟨c.1, c.2.1⟩).1 c2
        have b : both l m := ⟨c.1, c.2.1, d.1, c.2.2, d.2⟩
        have hc : a0 ≤ 1 ∧ both l m := ⟨by omega, b⟩
        rw [if_pos c2, if_pos hc]
        by_cases h2 : a0 = 0
        · rw [if_pos h2, if_pos h2, square_f l m b k (by omega)]; rfl
        · rw [if_neg h2, if_neg h2, if_pos (show a0 = 1 by omega), minus_f l m b k (by omega)]; rfl
      · rw [if_neg c2, if_neg]
        rintro ⟨_, b⟩
        exact c2 ((chk_other l m ⟨b.1, b.2.1⟩).2 ⟨b.2.2.1, b.2.2.2.2⟩)
    · rw [if_neg c1, if_neg]
      rintro ⟨_, b⟩
      exact c1 ((chk_own l).2 ⟨b.1, b.2.1, b.2.2.2.1⟩)
theorem rdist_l (a0 : Int) (l m : List Int) (h : both l m) (d : Nat) : ∀ (k i : Nat) (s : Int), i ≤ l.length → l.length - i = d → d < k →
    -(i * 4398046511104) ≤ s → s ≤ i * 4398046511104 →
    lodestarref01_Dist.l0 k a0 l m s (i : Int) = some (if a0 = 0 then s + sqs (l.drop i) (m.drop i) else s - prs (l.drop i) (m.drop i), true) := by
  obtain ⟨b1, b2, b3, b4, b5⟩ := h
  induction d with
  | zero =>
    intro k i s hi hd hk _ _
    obtain ⟨k, rfl⟩ : ∃ m, k = m + 1 := ⟨k - 1, by omega⟩
    simp only [lodestarref01_Dist.l0]
    rw [if_neg (by omega), List.drop_eq_nil_of_le (by omega)]
    simp [prs, sqs]
  | succ d ih =>
    intro k i s hi hd hk hs0 hs1
    obtain ⟨k, rfl⟩ : ∃ m, k = m + 1 := ⟨k - 1, by omega⟩
    have ha := okp_rd b4 (i := i) (by omega)
    have hb := okp_rd b5 (i := i) (by omega)
    rw [drop_at l i (by omega), drop_at m i (by omega)]
    simp only [lodestarref01_Dist.l0]
    generalize rd l (i : Int) = x at *
    generalize rd m (i : Int) = y at *
    unfold okp at ha hb
    have hxy := mul_bd (a := x) (b := y) (B := 1048576) (by omega) (by omega) (by omega) (by omega)
    have hxx := mul_bd (a := x) (b := x) (B := 1048576) (by omega) (by omega) (by omega) (by omega)
    have hyy := mul_bd (a := y) (b := y) (B := 1048576) (by omega) (by omega) (by omega) (by omega)
    have hd2 := sq_le (d := x - y) (B := 2097152) (by omega) (by omega)
    have hd3 := sq_nonneg (x - y)
    have e1 : (x - y) * (x - y) = x * x - 2 * (x * y) + y * y := by grind
    have e2 : 2 * x * y = 2 * (x * y) := by grind
    have h2 : ((i : Int) + 1) = ((i + 1 : Nat) : Int) := by omega
    rw [if_pos (by omega), if_pos (by omega), if_pos (by omega)]
    simp only [sqs, prs]
    by_cases h0 : a0 = 0
    · rw [if_pos h0, if_pos h0, w64 (x := x) (by omega) (by omega), w64 (x := y) (by omega) (by omega), w64 (x := x * x) (by omega) (by omega), w64 (x := y * y) (by omega) (by omega), w64 (x := 2 * x) (by omega) (by omega), e2, w64 (x := 2 * (x * y)) (by omega) (by omega), w64 (x := s + x * x) (by omega) (by omega), w64 (x := s + x * x - 2 * (x * y)) (by omega) (by omega), w64 (x := s + x * x - 2 * (x * y) + y * y) (by omega) (by omega), w64 (x := (i : Int) + 1) (by omega) (by omega), h2, ih k (i + 1) _ (by omega) (by omega) (by omega) (by omega) (by omega), if_pos h0, e1]
      congr 2
      omega
    · rw [if_neg h0, if_neg h0, w64 (x := x) (by omega) (by omega), w64 (x := y) (by omega) (by omega), w64 (x := x * y) (by omega) (by omega), w64 (x := s - x * y) (by omega) (by omega), w64 (x := (i : Int) + 1) (by omega) (by omega), h2, ih k (i + 1) _ (by omega) (by omega) (by omega) (by omega) (by omega), if_neg h0]
      congr 2
      omega
theorem rdist_f (a0 : Int) (h0 : 0 ≤ a0) (l m : List Int) (k : Nat) (hk : l.length + m.length + 19 ≤ k) : lodestarref01_Dist.f k a0 l m = some (dist a0 l m) := by
  unfold lodestarref01_Dist.f dist
  rw [if_neg (by omega)]
  obtain ⟨k', rfl⟩ : ∃ m, k = m + 1 := ⟨k - 1, by omega⟩
  by_cases h1 : a0 > 1
  · rw [if_pos h1, if_neg (by omega)]
    simp [lodestarref01_Dist.j0]
  · rw [if_neg h1, rcheck_f l _ _ (by omega)]
    simp only [Option.bind_some]
    by_cases c1 : chk l (l.length : Int) = 0
    · rw [if_pos c1, rcheck_f m _ _ (by omega)]
      simp only [Option.bind_some]
      have c := (chk_own l).1 c1
      by_cases c2 : chk m (l.length : Int) = 0
      · have d := (chk_other l m ⟨c.1, c.2.1⟩).1 c2
        have b : both l m := ⟨c.1, c.2.1, d.1, c.2.2, d.2⟩
        have hc : a0 ≤ 1 ∧ both l m := ⟨by omega, b⟩
        rw [if_pos hc]
        have := rdist_l a0 l m b l.length k' 0 0 (by omega) (by omega) (by omega) (by omega) (by omega)
        simp only [lodestarref01_Dist.j0, c2, bne_self_eq_false, Bool.false_eq_true, if_false]
        simp only [List.drop_zero, Int.natCast_zero] at this
        rw [this]
        congr 2
        by_cases h2 : a0 = 0
        · rw [if_pos h2, if_pos h2]; omega
        · rw [if_neg h2, if_neg h2]; omega
      · rw [if_neg]
        · simp [lodestarref01_Dist.j0, c2]
        · rintro ⟨_, b⟩
          exact c2 ((chk_other l m ⟨b.1, b.2.1⟩).2 ⟨b.2.2.1, b.2.2.2.2⟩)
    · rw [if_neg c1, if_neg]
      · simp [lodestarref01_Dist.j0]
      · rintro ⟨_, b⟩
        exact c1 ((chk_own l).2 ⟨b.1, b.2.1, b.2.2.2.1⟩)
theorem both_symm {l m : List Int} (h : both l m) : both m l := ⟨by have := h.1; have := h.2.2.1; omega, by have := h.2.1; have := h.2.2.1; omega, h.2.2.1.symm, h.2.2.2.2, h.2.2.2.1⟩
theorem sqs_symm : ∀ l m : List Int, sqs l m = sqs m l
  | [], m => by cases m <;> rfl
  | a :: l, [] => rfl
  | a :: l, b :: m => by simp only [sqs, sqs_symm l m]; grind
theorem prs_symm : ∀ l m : List Int, prs l m = prs m l
  | [], m => by cases m <;> rfl
  | a :: l, [] => rfl
  | a :: l, b :: m => by simp only [prs, prs_symm l m]; grind
theorem dist_symm (a0 : Int) (l m : List Int) : dist a0 l m = dist a0 m l := by
  unfold dist
  by_cases h : a0 ≤ 1 ∧ both l m
  · have h' : a0 ≤ 1 ∧ both m l := ⟨h.1, both_symm h.2⟩
    rw [if_pos h, if_pos h', sqs_symm, prs_symm]
  · rw [if_neg h, if_neg (fun g => h ⟨g.1, both_symm g.2⟩)]
end Go.Proofs.Ytchiobhklbefjaa.Fl
namespace Go.Proofs.Ytchiobhklbefjaa.Fl
open Go.RowKit Go.Shelf Go.Proofs.YtchiobhklbefjaaW.PrintWords Go.Proofs.YtchiobhklbefjaaW.PrintLast Go.Proofs.YtchiobhklbefjaaW.PrintMore Go.Proofs.Ytchiobhklbefjaa.Tk Go.Proofs.Ytchiobhklbefjaa.Q Go.Proofs.Ytchiobhklbefjaa.E
set_option linter.unusedVariables false
set_option linter.unusedSimpArgs false
attribute [local go_sem] Oper.semAt_some
abbrev It := S59
/-- What a search asks of items: a metric, a vector, a filter. -/
structure Ask where
  m : Int
  q : List Int
  f0 : List ByteArray
  f1 : List ByteArray
  f2 : List ByteArray
def Ask.dist (a : Ask) (x : It) : Int × Bool := Fl.dist a.m a.q x.f1
def Ask.hit (a : Ask) (x : It) : H := ⟨(a.dist x).1, x.f0⟩
def Ask.wants (a : Ask) (x : It) : Bool := (a.dist x).2 && matchB a.f0 a.f1 a.f2 x.f2
def Ask.hits (a : Ask) (l : List It) : List H := (l.filter a.wants).map a.hit
theorem Ask.hits_snoc (a : Ask) (l : List It) (x : It) : a.hits (l ++ [x]) = a.hits l ++ (if a.wants x = true then [a.hit x] else []) := by
  unfold Ask.hits
  rw [List.filter_append, List.map_append]
  congr 1
  by_cases h : a.wants x = true <;> simp [List.filter_cons, h]
theorem Ask.hits_take (a : Ask) (l : List It) (i : Nat) (x : It) (h : l[i]? = some x) : a.hits (l.take (i + 1)) = a.hits (l.take i) ++ (if a.wants x = true then [a.hit x] else []) := by
  obtain ⟨hi, rfl⟩ := List.getElem?_eq_some_iff.1 h
  rw [List.take_succ_eq_append_getElem hi, Ask.hits_snoc]
/-- Where it lies. -/
structure Where where
  A1 : Option Addr
  c1 : Nat
  A2 : Option Addr
  c2 : Nat
  F0 : Option Addr
  d0 : Nat
  F1 : Option Addr
  d1 : Nat
  F2 : Option Addr
  d2 : Nat
/-- The arguments of a search, read. -/
structure Lies (w : World) (p : Where) (a : Ask) (l : List It) : Prop where
  k1 : Kd.C k59 w p.A1 l.length l
  h1 : l.length ≤ p.c1
  k2 : Kd.C (Kd.int .i32) w p.A2 a.q.length a.q
  h2 : a.q.length ≤ p.c2
  g0 : Kd.C Kd.string w p.F0 a.f0.length a.f0
  b0 : a.f0.length ≤ p.d0
  g1 : Kd.C Kd.string w p.F1 a.f1.length a.f1
  b1 : a.f1.length ≤ p.d1
  g2 : Kd.C Kd.string w p.F2 a.f2.length a.f2
  b2 : a.f2.length ≤ p.d2
abbrev Where.vl (p : Where) (l : List It) : Value := .slice p.A1 l.length p.c1
abbrev Where.vq (p : Where) (a : Ask) : Value := .slice p.A2 a.q.length p.c2
abbrev Where.vf (p : Where) (a : Ask) : Value := .agg #[.slice p.F0 a.f0.length p.d0, .slice p.F1 a.f1.length p.d1, .slice p.F2 a.f2.length p.d2]
/-- Nothing is too long. -/
structure Fine (a : Ask) (l : List It) : Prop where
  m0 : 0 ≤ a.m
  m1 : a.m ≤ 255
  f0 : a.f0.length ≤ 100000
  f1 : a.f1.length ≤ 100000
  f2 : a.f2.length ≤ 100000
  n : l.length ≤ 300
  x : ∀ x ∈ l, x.f1.length ≤ 100000 ∧ x.f2.length ≤ 100000
section
variable {w w1 : World} {p : Where} {a : Ask} {l : List It}
theorem Lies.below (h : Lies w p a l) (hb : Below w.heap.size w w1) : Lies w1 p a l :=
  ⟨Kd.C_below h.k1 hb, h.h1, Kd.C_below h.k2 hb, h.h2, Kd.C_below h.g0 hb, h.b0, Kd.C_below h.g1 hb, h.b1, Kd.C_below h.g2 hb, h.b2⟩
/-- An item at a place. -/
theorem Lies.at (h : Lies w p a l) {i : Nat} (hi : i < l.length) : ∃ ad A1 c1 A2 c2 x, p.A1 = some ad ∧ l[i]? = some x ∧ w.cell? (ad.add (i * 3)) = some (.int .u32 x.f0) ∧ w.cell? ⟨(ad.add (i * 3)).block, (ad.add (i * 3)).off + 1, none⟩ = some (.slice A1 x.f1.length c1) ∧
    w.cell? ⟨(ad.add (i * 3)).block, (ad.add (i * 3)).off + 2, none⟩ = some (.slice A2 x.f2.length c2) ∧ x.f1.length ≤ c1 ∧ Kd.C (Kd.int .i32) w A1 x.f1.length x.f1 ∧ x.f2.length ≤ c2 ∧ Kd.C Kd.string w A2 x.f2.length x.f2 := by
  obtain ⟨ad, A1, c1, A2, c2, e, x0, x1, x2, l1, g1, l2, g2⟩ := at_T59 h.k1 (i : Int) (by omega) (by omega)
  have hr : rd_T59 l (i : Int) = l[i] := by simp [rd_T59, List.getD_eq_getElem?_getD, hi]
  rw [hr] at x0 x1 x2 l1 g1 l2 g2
  exact ⟨ad, A1, c1, A2, c2, l[i], e, List.getElem?_eq_getElem hi, x0, x1, x2, l1, g1, l2, g2⟩
end
theorem fdist_calls (m : Int) (A1 : Option Addr) (c1 : Nat) (l1 : List Int) (A2 : Option Addr) (c2 : Nat) (l2 : List Int) (r1 : Int) (r2 : Bool) (w : World) (h0 : 0 ≤ m) (hr1 : Kd.C (Kd.int .i32) w A1 l1.length l1) (hc1 : l1.length ≤ c1) (hr2 : Kd.C (Kd.int .i32) w A2 l2.length l2) (hc2 : l2.length ≤ c2) (h : dist m l1 l2 = (r1, r2)) :
    Calls Try.prog 104 #[.int .u8 m, .slice A1 l1.length c1, .slice A2 l2.length c2] w fun e w' => e = .returned (.tuple #[.int .i64 r1, .bool r2]) ∧ Below w.heap.size w w' :=
  fixvec_Dist.calls _ m A1 c1 l1 A2 c2 l2 r1 r2 w hr1 hc1 hr2 hc2 (by rw [dist_f m h0 l1 l2 _ (Nat.le_refl _), h])
/-- The four boxes that 'wanted' lays: metric, items, vector, filter. -/
structure Boxed4 (w : World) (b : Nat) (p : Where) (a : Ask) (l : List It) : Prop where
  m : w.cell? ⟨b, 0, none⟩ = some (.int .u8 a.m)
  l : w.cell? ⟨b + 1, 0, none⟩ = some (.slice p.A1 l.length p.c1)
  q : w.cell? ⟨b + 2, 0, none⟩ = some (.slice p.A2 a.q.length p.c2)
  f0 : w.cell? ⟨b + 3, 0, none⟩ = some (.slice p.F0 a.f0.length p.d0)
  f1 : w.cell? ⟨b + 3, 1, none⟩ = some (.slice p.F1 a.f1.length p.d1)
  f2 : w.cell? ⟨b + 3, 2, none⟩ = some (.slice p.F2 a.f2.length p.d2)
/-- What a round of a loop over 'wanted' may write: what is new since n, but for the four boxes. -/
def notBox (n b : Nat) (k : Nat) : Prop := n ≤ k ∧ ¬ (b ≤ k ∧ k < b + 4)
theorem cell_only {S : Nat → Prop} {w w1 : World} {A : Addr} {v : Value} (h : Only S w w1) (hc : w.cell? A = some v) (hs : ¬ S A.block) : w1.cell? A = some v := by
  obtain ⟨o, ho, _⟩ := cells_of_cell hc
  have hb := h.block A.block (Array.getElem?_eq_some_iff.1 ho).1 hs
  rw [← hc]
  simp only [World.cell?, hb]
theorem Boxed4.only {w w1 : World} {n b : Nat} {p : Where} {a : Ask} {l : List It} (h : Boxed4 w b p a l) (hO : Only (notBox n b) w w1) : Boxed4 w1 b p a l := by
  have hs : ∀ i, i < 4 → ¬ notBox n b (b + i) := fun i hi hn => hn.2 (by omega)
  exact ⟨cell_only hO h.m (hs 0 (by omega)), cell_only hO h.l (hs 1 (by omega)), cell_only hO h.q (hs 2 (by omega)), cell_only hO h.f0 (hs 3 (by omega)), cell_only hO h.f1 (hs 3 (by omega)), cell_only hO h.f2 (hs 3 (by omega))⟩
end Go.Proofs.Ytchiobhklbefjaa.Fl
namespace Go.Proofs.Ytchiobhklbefjaa.Fl
open Go.RowKit Go.Shelf Go.Proofs.YtchiobhklbefjaaW.PrintWords Go.Proofs.YtchiobhklbefjaaW.PrintLast Go.Proofs.YtchiobhklbefjaaW.PrintMore Go.Proofs.Ytchiobhklbefjaa.Tk Go.Proofs.Ytchiobhklbefjaa.Q Go.Proofs.Ytchiobhklbefjaa.E
set_option linter.unusedVariables false
set_option linter.unusedSimpArgs false
attribute [local go_sem] Oper.semAt_some
theorem grown_of_below {A B : World} (h : Below A.heap.size A B) : A.grownBy B none := ⟨h.os, h.tape, h.output, h.size, fun k hk _ => h.block k hk⟩
theorem only_of_below {S : Nat → Prop} {A B : World} (h : Below A.heap.size A B) : Only S A B := Only.of_below h
theorem Ask.hits_pre (a : Ask) (l : List It) (k : Nat) : a.hits (l.take k) <+: a.hits l := by
  unfold Ask.hits
  exact ((List.take_prefix k l).filter a.wants).map a.hit
theorem Ask.hits_lt (a : Ask) {l : List It} {k : Nat} {x : It} (hx : l[k]? = some x) (hw : a.wants x = true) : (a.hits (l.take k)).length < (a.hits l).length := by
  have h := (a.hits_pre l (k + 1)).length_le
  rw [a.hits_take l k x hx, if_pos hw] at h
  simp at h
  omega
theorem Ask.wants_mk {a : Ask} {x : It} {r1 : Int} {r2 mt : Bool} (hd : Fl.dist a.m a.q x.f1 = (r1, r2)) (hm : matchB a.f0 a.f1 a.f2 x.f2 = mt) : a.wants x = (r2 && mt) ∧ a.hit x = ⟨r1, x.f0⟩ := by
  unfold Ask.wants Ask.hit Ask.dist
  rw [hd, hm]
  exact ⟨rfl, rfl⟩
theorem less_left {k n : Nat} {z : Int} (h : z = ((k + 1 : Nat) : Int)) (hk : k < n) : n - (intOf (.int .i64 z)).toNat < n - (intOf (.int .i64 (k : Int))).toNat := by
  subst h
  show n - ((k + 1 : Nat) : Int).toNat < n - ((k : Nat) : Int).toNat
  rw [Int.toNat_natCast, Int.toNat_natCast]
  omega
set_option maxHeartbeats 8000000 in
set_option maxRecDepth 100000 in
theorem wanted1_some (n : Nat) (hn : 1 ≤ n) (lo b : Nat) (p : Where) (a : Ask) (l : List It) (hl0 : 0 < l.length) (w0 : World) (hL : Lies w0 p a l) (hF : Fine a l) (J Jx : List H → World → Prop)
    (hJ : ∀ pre A B, J pre A → Below A.heap.size A B → J pre B)
    (hY : ∀ pre x W, J pre W → pre.length < (a.hits l).length → YieldAt Fence.wide (n - 1) Try.prog lo #[.agg #[.int .i64 x.f0, .int .u32 x.f1]] W fun e W' =>
      (e = .returned (.bool true) ∧ J (pre ++ [x]) W' ∧ Only (notBox w0.heap.size b) W W') ∨ (e = .returned (.bool false) ∧ Jx (pre ++ [x]) W'))
    (W : World) (hW : Below w0.heap.size w0 W) (hb : Boxed4 W b p a l) (hbW : b + 4 ≤ W.heap.size) (h0 : J [] W) :
    CallsIn Fence.wide n Try.prog 103 #[.func (.yield lo) #[] #[], .pointer (some ⟨b + 1, 0, none⟩), .pointer (some ⟨b, 0, none⟩), .pointer (some ⟨b + 2, 0, none⟩), .pointer (some ⟨b + 3, 0, none⟩)] W fun e W' => (∃ v, e = .returned v) ∧
      ((∃ ys, ys = a.hits l ∧ J ys W') ∨ (∃ pre, pre <+: a.hits l ∧ Jx pre W')) := by
  have hu := Try.underlying59
  have hu2 := Try.underlying49
  have hu3 := Try.underlying29
  have HL := Aside0.mk hL
  have HF := Aside0.mk hF
  have HJ := Aside0.mk hJ
  have HY := Aside0.mk hY
  have HW := Aside0.mk hW
  have HB := Aside0.mk hb
  have H0 := Aside0.mk h0
  have HS := Aside0.mk hbW
  obtain ⟨ad, _, _, _, _, _, hA, _⟩ := hL.at hl0
  have c1 := hb.l
  rw [hA] at c1
  have HA := Aside0.mk hA
  clear hL hF hJ hY hW hb h0 hbW hA hl0
  refine callsIn_of_wp Try.func103 rfl trivial ?_ rfl
  simp only [Try.ntmps103, List.size_toArray, List.length_cons, List.length_nil, Nat.reduceAdd, Nat.reduceSub, Array.replicate_succ, Array.replicate_zero, List.push_toArray, List.append_toArray, List.nil_append, List.cons_append]
  gi_wp2
  clear c1
  gi_loopw [12] (fun i wr => ∃ k : Nat, i = .int .i64 k ∧ Aside0 (k ≤ l.length) ∧ Aside0 (J (a.hits (l.take k)) wr) ∧ Aside0 (Only (notBox w0.heap.size b) W wr))
    (fun i _ => l.length - (intOf i).toNat)
  case atStart => exact ⟨0, rfl, ⟨Nat.zero_le _⟩, ⟨by simpa [Ask.hits] using H0.out⟩, ⟨Only.refl _ _⟩⟩
  case round =>
    obtain ⟨k, rfl, HK, HJk, HO⟩ := hrel
    have HB0 := Aside0.mk (HO.out.below_of HW.out (fun i hi => hi.1))
    have HX := Aside0.mk (HB.out.only HO.out)
    by_cases hlt : k < l.length
    · have q1 : decide ((k : Int) < (l.length : Int)) = true := decide_eq_true (by omega)
      have q2 : (k : Int) < (l.length : Int) := by omega
      obtain ⟨ad', A1, c1, A2, c2, x, hA', hx, x0, x1, x2, l1, g1, l2, g2⟩ := (HL.out.below HB0.out).at hlt
      obtain rfl : ad' = ad := by rw [HA.out] at hA'; exact (Option.some.inj hA').symm
      have HI := Aside0.mk hlt
      have b0 := HX.out.m
      have b2 := HX.out.q
      have HXX := Aside0.mk hx
      have HG := Aside0.mk (show x.f1.length ≤ c1 ∧ x.f2.length ≤ c2 from ⟨l1, l2⟩)
      have HG1 := Aside0.mk g1
      have HG2 := Aside0.mk g2
      have z0 : b < wr.heap.size := by have := HS.out; have := HO.out.size; omega
      have z2 : b + 2 < wr.heap.size := by have := HS.out; have := HO.out.size; omega
      clear hx hlt l1 l2 g1 g2 hA'
      obtain ⟨r1, r2, hd⟩ : ∃ r1 r2, Fl.dist a.m a.q x.f1 = (r1, r2) := ⟨_, _, rfl⟩
      have HD := Aside0.mk hd
      clear hd
      obtain ⟨mt, hm⟩ : ∃ mt, matchB a.f0 a.f1 a.f2 x.f2 = mt := ⟨_, rfl⟩
      have HM := Aside0.mk hm
      clear hm
      have HFX := Aside0.mk (HF.out.x x (List.mem_of_getElem? HXX.out))
      have HE := Aside0.mk (Ask.wants_mk HD.out HM.out)
      have hin : wrap64 ((k : Int) + 1) = ((k + 1 : Nat) : Int) := by rw [Tk.wrap_small (by omega) (by have := HF.out.n; omega)]; omega
      cases r2 with
      | false => as_aux_lemma =>
        gi_wp2_with (refine ⟨trivial, ?_⟩; gi_at_call 104; have HA1 := Aside0.mk (below_alloc (Below.refl wr.heap.size wr) (.cells #[.int .u32 x.f0, .slice A1 x.f1.length c1, .slice A2 x.f2.length c2] 59)); refine (callsIn_wide.2 (fdist_calls a.m p.A2 p.c2 a.q A1 c1 x.f1 r1 _ _ HF.out.m0 (Kd.C_below (HL.out.below HB0.out).k2 HA1.out) HL.out.h2 (Kd.C_below HG1.out HA1.out) HG.out.1 HD.out)).mono ?_; rintro e w2 ⟨rfl, hb⟩; have HB2 := Aside0.mk (bel_trans HA1.out hb); have HN := Aside0.mk ((hb.block wr.heap.size (by simp)).trans (heap_alloc_new wr _)); clear hb)
        refine ⟨trivial, ?_⟩
        gi_wp2
        refine ⟨fun _ h => (by cases h), ?_⟩
        gi_wp2
        go_roundw
        case rel => exact ⟨k + 1, congrArg (Value.int .i64) hin, ⟨HI.out⟩, ⟨by rw [a.hits_take l k x HXX.out, HE.out.1]; simpa using HJ.out _ _ _ HJk.out HB2.out⟩, ⟨HO.out.below HB2.out⟩⟩
        case measure => exact less_left hin HI.out
      | true =>
        cases mt with
        | false => as_aux_lemma =>
          gi_wp2_with (first | (refine ⟨trivial, ?_⟩; gi_at_call 104; have HA1 := Aside0.mk (below_alloc (Below.refl wr.heap.size wr) (.cells #[.int .u32 x.f0, .slice A1 x.f1.length c1, .slice A2 x.f2.length c2] 59)); refine (callsIn_wide.2 (fdist_calls a.m p.A2 p.c2 a.q A1 c1 x.f1 r1 _ _ HF.out.m0 (Kd.C_below (HL.out.below HB0.out).k2 HA1.out) HL.out.h2 (Kd.C_below HG1.out HA1.out) HG.out.1 HD.out)).mono ?_; rintro e w2 ⟨rfl, hb⟩; have HB2 := Aside0.mk (bel_trans HA1.out hb); have HN := Aside0.mk ((hb.block wr.heap.size (by simp)).trans (heap_alloc_new wr _)); clear hb; clear b0 b2; have e0 := pw_cell_below HB2.out HX.out.f0; have e1 := pw_cell_below HB2.out HX.out.f1; have e2 := pw_cell_below HB2.out HX.out.f2; have y0 := (blk_cell HN.out 0).trans rfl; have y2 := (blk_cell HN.out 2).trans rfl) | (refine ⟨trivial, ?_⟩; gi_at_call 105; refine (callsIn_wide.2 (match_calls p.F0 p.d0 a.f0 p.F1 p.d1 a.f1 p.F2 p.d2 a.f2 A2 c2 x.f2 w2 (Kd.C_below (HL.out.below HB0.out).g0 HB2.out) (Kd.C_below (HL.out.below HB0.out).g1 HB2.out) (Kd.C_below (HL.out.below HB0.out).g2 HB2.out) (Kd.C_below HG2.out HB2.out) HG.out.2 HF.out.f0 HF.out.f1 HF.out.f2 HFX.out.2)).mono ?_; rintro e w3 ⟨rfl, hb⟩; rw [HM.out]; have HB3 := Aside0.mk (bel_trans HB2.out hb); have HN3 := Aside0.mk ((hb.block wr.heap.size (blk_lt HN.out)).trans HN.out); clear hb e0 e1 e2 y0 y2; have y0 := (blk_cell HN3.out 0).trans rfl))
          refine ⟨fun _ h => (by cases h), ?_⟩
          gi_wp2
          go_roundw
          case rel => exact ⟨k + 1, congrArg (Value.int .i64) hin, ⟨HI.out⟩, ⟨by rw [a.hits_take l k x HXX.out, HE.out.1]; simpa using HJ.out _ _ _ HJk.out HB3.out⟩, ⟨HO.out.below HB3.out⟩⟩
          case measure => exact less_left hin HI.out
        | true => as_aux_lemma =>
          gi_wp2_with (first | (refine ⟨trivial, ?_⟩; gi_at_call 104; have HA1 := Aside0.mk (below_alloc (Below.refl wr.heap.size wr) (.cells #[.int .u32 x.f0, .slice A1 x.f1.length c1, .slice A2 x.f2.length c2] 59)); refine (callsIn_wide.2 (fdist_calls a.m p.A2 p.c2 a.q A1 c1 x.f1 r1 _ _ HF.out.m0 (Kd.C_below (HL.out.below HB0.out).k2 HA1.out) HL.out.h2 (Kd.C_below HG1.out HA1.out) HG.out.1 HD.out)).mono ?_; rintro e w2 ⟨rfl, hb⟩; have HB2 := Aside0.mk (bel_trans HA1.out hb); have HN := Aside0.mk ((hb.block wr.heap.size (by simp)).trans (heap_alloc_new wr _)); clear hb; clear b0 b2; have e0 := pw_cell_below HB2.out HX.out.f0; have e1 := pw_cell_below HB2.out HX.out.f1; have e2 := pw_cell_below HB2.out HX.out.f2; have y0 := (blk_cell HN.out 0).trans rfl; have y2 := (blk_cell HN.out 2).trans rfl) | (refine ⟨trivial, ?_⟩; gi_at_call 105; refine (callsIn_wide.2 (match_calls p.F0 p.d0 a.f0 p.F1 p.d1 a.f1 p.F2 p.d2 a.f2 A2 c2 x.f2 w2 (Kd.C_below (HL.out.below HB0.out).g0 HB2.out) (Kd.C_below (HL.out.below HB0.out).g1 HB2.out) (Kd.C_below (HL.out.below HB0.out).g2 HB2.out) (Kd.C_below HG2.out HB2.out) HG.out.2 HF.out.f0 HF.out.f1 HF.out.f2 HFX.out.2)).mono ?_; rintro e w3 ⟨rfl, hb⟩; rw [HM.out]; have HB3 := Aside0.mk (bel_trans HB2.out hb); have HN3 := Aside0.mk ((hb.block wr.heap.size (blk_lt HN.out)).trans HN.out); clear hb e0 e1 e2 y0 y2; have y0 := (blk_cell HN3.out 0).trans rfl; obtain ⟨fn, tmps, assign, body, hy, hR⟩ := HY.out (a.hits (l.take k)) ⟨r1, x.f0⟩ w3 (HJ.out _ _ _ HJk.out HB3.out) (a.hits_lt HXX.out HE.out.1); dsimp only at hy))
          refine hR.mono ?_
          rintro e w4 (⟨rfl, hJ4, hk4⟩ | ⟨rfl, hJx4⟩)
          · gi_wp2
            go_roundw
            case rel => exact ⟨k + 1, congrArg (Value.int .i64) hin, ⟨HI.out⟩, ⟨by rw [a.hits_take l k x HXX.out, HE.out.1, HE.out.2]; exact hJ4⟩, ⟨(HO.out.below HB3.out).trans hk4⟩⟩
            case measure => exact less_left hin HI.out
          · gi_wp2
            refine bodyPost_ret (results_none rfl _ _ _) rfl ?_
            refine ⟨⟨_, rfl⟩, .inr ⟨_, ?_, hJx4⟩⟩
            have h := a.hits_pre l (k + 1)
            rw [a.hits_take l k x HXX.out, HE.out.1, HE.out.2] at h
            exact h
    · have hk := HK.out
      obtain rfl : k = l.length := by omega
      have q1 : decide ((l.length : Int) < (l.length : Int)) = false := decide_eq_false (by omega)
      have q2 : decide (l.length < l.length) = false := decide_eq_false (by omega)
      clear hk hlt
      gi_wp2
      go_end0
      exact ⟨⟨_, rfl⟩, .inl ⟨_, rfl, by simpa using HJk.out⟩⟩
end Go.Proofs.Ytchiobhklbefjaa.Fl
namespace Go.Proofs.Ytchiobhklbefjaa.Fl
open Go.RowKit Go.Shelf Go.Proofs.YtchiobhklbefjaaW.PrintWords Go.Proofs.YtchiobhklbefjaaW.PrintLast Go.Proofs.YtchiobhklbefjaaW.PrintMore Go.Proofs.Ytchiobhklbefjaa.Tk Go.Proofs.Ytchiobhklbefjaa.Q Go.Proofs.Ytchiobhklbefjaa.E
set_option linter.unusedVariables false
set_option linter.unusedSimpArgs false
attribute [local go_sem] Oper.semAt_some
set_option maxHeartbeats 2000000 in
set_option maxRecDepth 100000 in
theorem wanted1_none (n : Nat) (lo b : Nat) (p : Where) (J : World → Prop) (W : World) (hc : W.cell? ⟨b + 1, 0, none⟩ = some (.slice p.A1 0 p.c1)) (h0 : J W) :
    CallsIn Fence.wide n Try.prog 103 #[.func (.yield lo) #[] #[], .pointer (some ⟨b + 1, 0, none⟩), .pointer (some ⟨b, 0, none⟩), .pointer (some ⟨b + 2, 0, none⟩), .pointer (some ⟨b + 3, 0, none⟩)] W fun e W' => (∃ v, e = .returned v) ∧ J W' := by
  have H0 := Aside0.mk h0
  clear h0
  refine callsIn_of_wp Try.func103 rfl trivial ?_ rfl
  simp only [Try.ntmps103, List.size_toArray, List.length_cons, List.length_nil, Nat.reduceAdd, Nat.reduceSub, Array.replicate_succ, Array.replicate_zero, List.push_toArray, List.append_toArray, List.nil_append, List.cons_append]
  gi_wp2
  gi_loopw [12] (fun i wr => i = .int .i64 0 ∧ Aside0 (J wr)) (fun _ _ => 0)
  case atStart => exact ⟨rfl, H0⟩
  case round =>
    obtain ⟨rfl, hJs⟩ := hrel
    gi_wp2
    go_end0
    exact ⟨⟨_, rfl⟩, hJs.out⟩
theorem Boxed4.below {w w1 : World} {b : Nat} {p : Where} {a : Ask} {l : List It} (h : Boxed4 w b p a l) (hb : Below w.heap.size w w1) : Boxed4 w1 b p a l :=
  ⟨pw_cell_below hb h.m, pw_cell_below hb h.l, pw_cell_below hb h.q, pw_cell_below hb h.f0, pw_cell_below hb h.f1, pw_cell_below hb h.f2⟩
/-- The closure's contract, as the range over it wants it. -/
theorem wanted_stops (n : Nat) (hn : 1 ≤ n) (b : Nat) (p : Where) (a : Ask) (l : List It) (w0 w : World) (hL : Lies w0 p a l) (hF : Fine a l) (hw : Below w0.heap.size w0 w) (hb : Boxed4 w b p a l) (hbW : b + 4 ≤ w.heap.size) :
    SeqStopsK Fence.wide n Try.prog 103 #[.pointer (some ⟨b + 1, 0, none⟩), .pointer (some ⟨b, 0, none⟩), .pointer (some ⟨b + 2, 0, none⟩), .pointer (some ⟨b + 3, 0, none⟩)] (fun x : H => #[.agg #[.int .i64 x.f0, .int .u32 x.f1]]) (Only (notBox w0.heap.size b)) (fun ys => ys = a.hits l) (fun pre => pre <+: a.hits l) (a.hits l).length w := by
  intro lo J Jx W hW hJ hJx hY h0
  have hb' := hb.below hW
  rcases Nat.eq_zero_or_pos l.length with hl | hl
  · obtain rfl : l = [] := List.length_eq_zero_iff.1 hl
    exact (wanted1_none n lo b p (J []) W hb'.l h0).mono fun e W' ⟨he, hj⟩ => ⟨he, .inl ⟨_, rfl, hj⟩⟩
  · exact wanted1_some n hn lo b p a l hl w0 hL hF J Jx (fun pre A B h1 h2 => hJ pre A B none h1 (grown_of_below h2) (fun r e => by cases e)) hY W (hw.trans (hW.mono hw.size)) hb' (Nat.le_trans hbW hW.size) h0
set_option maxHeartbeats 2000000 in
set_option maxRecDepth 100000 in
theorem wanted_calls (p : Where) (a : Ask) (l : List It) (w : World) :
    Calls Try.prog 72 #[.int .u8 a.m, p.vl l, p.vq a, p.vf a] w fun e w' => e = .returned (.func (.func 103) #[] #[.pointer (some ⟨w.heap.size + 1, 0, none⟩), .pointer (some ⟨w.heap.size, 0, none⟩), .pointer (some ⟨w.heap.size + 2, 0, none⟩), .pointer (some ⟨w.heap.size + 3, 0, none⟩)]) ∧
      w' = (((w.alloc (.cells #[.int .u8 a.m] 53)).alloc (.cells #[p.vl l] 45)).alloc (.cells #[p.vq a] 46)).alloc (.cells #[.slice p.F0 a.f0.length p.d0, .slice p.F1 a.f1.length p.d1, .slice p.F2 a.f2.length p.d2] 49) := by
  go_enter Try.func72, Try.ntmps72
  go_wp2
  go_ret
  exact ⟨rfl, rfl⟩
theorem wanted_boxes (p : Where) (a : Ask) (l : List It) (w : World) : Boxed4 ((((w.alloc (.cells #[.int .u8 a.m] 53)).alloc (.cells #[p.vl l] 45)).alloc (.cells #[p.vq a] 46)).alloc (.cells #[.slice p.F0 a.f0.length p.d0, .slice p.F1 a.f1.length p.d1, .slice p.F2 a.f2.length p.d2] 49)) w.heap.size p a l := by
  obtain ⟨w1, h1⟩ : ∃ w1, w.alloc (.cells #[.int .u8 a.m] 53) = w1 := ⟨_, rfl⟩
  obtain ⟨w2, h2⟩ : ∃ w2, w1.alloc (.cells #[p.vl l] 45) = w2 := ⟨_, rfl⟩
  obtain ⟨w3, h3⟩ : ∃ w3, w2.alloc (.cells #[p.vq a] 46) = w3 := ⟨_, rfl⟩
  obtain ⟨w4, h4⟩ : ∃ w4, w3.alloc (.cells #[.slice p.F0 a.f0.length p.d0, .slice p.F1 a.f1.length p.d1, .slice p.F2 a.f2.length p.d2] 49) = w4 := ⟨_, rfl⟩
  have s1 : w1.heap.size = w.heap.size + 1 := by rw [← h1]; exact World.size_alloc _ _
  have s2 : w2.heap.size = w.heap.size + 2 := by rw [← h2, World.size_alloc, s1]
  have s3 : w3.heap.size = w.heap.size + 3 := by rw [← h3, World.size_alloc, s2]
  have g1 := heap_alloc_new w (.cells #[.int .u8 a.m] 53)
  have g2 := heap_alloc_new w1 (.cells #[p.vl l] 45)
  have g3 := heap_alloc_new w2 (.cells #[p.vq a] 46)
  have g4 := heap_alloc_new w3 (.cells #[.slice p.F0 a.f0.length p.d0, .slice p.F1 a.f1.length p.d1, .slice p.F2 a.f2.length p.d2] 49)
  rw [h1] at g1; rw [h2, s1] at g2; rw [h3, s2] at g3; rw [h4, s3] at g4
  have b2 : Below w1.heap.size w1 w2 := by rw [← h2]; exact below_alloc (Below.refl _ _) _
  have b3 : Below w2.heap.size w2 w3 := by rw [← h3]; exact below_alloc (Below.refl _ _) _
  have b4 : Below w3.heap.size w3 w4 := by rw [← h4]; exact below_alloc (Below.refl _ _) _
  rw [h1, h2, h3, h4]
  have e1 := (b4.block _ (by omega)).trans ((b3.block _ (by omega)).trans ((b2.block _ (by omega)).trans g1))
  have e2 := (b4.block _ (by omega)).trans ((b3.block _ (by omega)).trans g2)
  have e3 := (b4.block _ (by omega)).trans g3
  exact ⟨by rw [blk_cell e1]; rfl, by rw [blk_cell e2]; rfl, by rw [blk_cell e3]; rfl, by rw [blk_cell g4]; rfl, by rw [blk_cell g4]; rfl, by rw [blk_cell g4]; rfl⟩
theorem wanted_world (w1 : World) (T : TypeId) (v : Value) (p : Where) (a : Ask) (l : List It) (w2 : World)
    (h : w2 = ((((w1.alloc (.cells #[v] T)).alloc (.cells #[.int .u8 a.m] 53)).alloc (.cells #[p.vl l] 45)).alloc (.cells #[p.vq a] 46)).alloc (.cells #[.slice p.F0 a.f0.length p.d0, .slice p.F1 a.f1.length p.d1, .slice p.F2 a.f2.length p.d2] 49)) :
    w2.heap.size = w1.heap.size + 5 ∧ Boxed4 w2 (w1.heap.size + 1) p a l ∧ Boxed w2 w1.heap.size T v ∧ Below w1.heap.size w1 w2 := by
  subst h
  refine ⟨by simp, ?_, (((((Boxed.new w1 T v).alloc _).alloc _).alloc _).alloc _), bel_alloc (bel_alloc (bel_alloc (bel_alloc (below_alloc (Below.refl _ _) _) _) _) _) _⟩
  have := wanted_boxes p a l (w1.alloc (.cells #[v] T))
  rw [World.size_alloc] at this
  exact this
theorem own_size {β : Type} (N M : Nat) : OwnFrom N (fun (_ : β) W => M ≤ W.heap.size) := fun s W W' row h hg hr => Nat.le_trans h hg.size
/-! ### a selector within the loop -/
def cellsAt (W : World) (i : Nat) : Prop := ∃ o : Obj, W.heap[i]? = some o ∧ o.isCells = true
theorem Kept_tight {W : World} {S : Nat → Prop} {g k : Nat} {L : List H} (h : Kept W S g k L) : ∃ S', (∀ i, S' i → S i ∧ cellsAt W i) ∧ Kept W S' g k L := by
  obtain ⟨A, hB, hH, hL⟩ := h
  obtain ⟨v, hg, ho, hv⟩ := hB.at_
  refine ⟨fun i => i = g ∨ v.ownBlock = some i, fun i hi => ?_, A, ⟨⟨v, hg, ho, fun j hj => ⟨.inr hj, (hv j hj).2⟩⟩, .inl rfl, fun i hi => ?_, hB.hk, hB.hA⟩, hH, hL⟩
  · rcases hi with rfl | hi
    · exact ⟨hB.sg, _, hg, rfl⟩
    · obtain ⟨c, hc⟩ := own_typed ho i hi
      exact ⟨(hv i hi).1, _, hc, rfl⟩
  · rcases hi with rfl | hi
    · exact blk_lt hg
    · exact own_lt ho i hi
/-- A selector whose blocks are cells, new since n, none of the four boxes at b, nor block B. -/
def Sel (n b B g k : Nat) (L : List H) (W : World) : Prop := ∃ S, Kept W S g k L ∧ ∀ i, S i → cellsAt W i ∧ notBox n b i ∧ i ≠ B
theorem Sel.of {n b B g k : Nat} {L : List H} {W : World} {S : Nat → Prop} (h : Kept W S g k L) (hs : ∀ i, S i → notBox n b i ∧ i ≠ B) : Sel n b B g k L W := by
  obtain ⟨S', h1, h2⟩ := Kept_tight h
  exact ⟨S', h2, fun i hi => ⟨(h1 i hi).2, hs i (h1 i hi).1⟩⟩
theorem only_of_grown {W W' : World} {row : Option Nat} (h : W.grownBy W' row) : Only (fun i => row = some i) W W' := ⟨h.os, h.tape, h.output, h.size, fun k hk hn => h.block k hk (fun e => hn e.symm)⟩
theorem Sel.own {β : Type} (n b B g k : Nat) (f : β → List H) (N : Nat) : OwnFrom N (fun s W => Sel n b B g k (f s) W) := by
  intro s W W' row ⟨S, h1, h2⟩ hg hr
  have hne : ∀ i, S i → ¬ row = some i := fun i hi e => by
    obtain ⟨_, o, ho, hc⟩ := hr i e
    obtain ⟨o', ho', hc'⟩ := (h2 i hi).1
    rw [ho] at ho'
    cases ho'
    rw [hc] at hc'
    cases hc'
  refine ⟨S, h1.keep (only_of_grown hg) hne, fun i hi => ⟨?_, (h2 i hi).2⟩⟩
  obtain ⟨o', ho', hc'⟩ := (h2 i hi).1
  exact ⟨o', (hg.block i (Array.getElem?_eq_some_iff.1 ho').1 (fun e => hne i hi e.symm)).trans ho', hc'⟩
theorem Sel.below {n b B g k : Nat} {L : List H} {W W' : World} (h : Sel n b B g k L W) (hb : Below W.heap.size W W') : Sel n b B g k L W' := by
  obtain ⟨S, h1, h2⟩ := h
  refine ⟨S, h1.below hb, fun i hi => ⟨?_, (h2 i hi).2⟩⟩
  obtain ⟨o', ho', hc'⟩ := (h2 i hi).1
  exact ⟨o', (hb.block i (Array.getElem?_eq_some_iff.1 ho').1).trans ho', hc'⟩
/-- One more hit is put. -/
theorem sel_put {n b B g k : Nat} {L : List H} {W : World} (N : Nat) (h : Sel n b B g k L W) (d i : Int) (hn : n ≤ W.heap.size) (hb : b + 4 ≤ W.heap.size) (hB : B < W.heap.size) :
    Calls Try.prog 25 #[.pointer (some ⟨g, 0, none⟩), .agg #[.int .i64 d, .int .u32 i]] W fun e W' => e = .returned (.tuple #[]) ∧ Only (fun j => notBox n b j ∧ j ≠ B) W W' ∧ Sel n b B g k (putK k L ⟨d, i⟩) W' ∧ KeepsFrom N W W' := by
  obtain ⟨S, h1, h2⟩ := h
  refine (kput_calls S g k L d i W h1).mono fun e W' ⟨he, hO, hK⟩ => ⟨he, hO.mono (fun j hj => (h2 j hj).2), ?_, ?_⟩
  · refine Sel.of hK (fun j hj => ?_)
    rcases hj with hj | hj
    · exact (h2 j hj).2
    · exact ⟨⟨by omega, by omega⟩, by omega⟩
  · refine ⟨hO.size, fun j o _ ho hc => ?_⟩
    refine (hO.block j (Array.getElem?_eq_some_iff.1 ho).1 (fun hs => ?_)).trans ho
    obtain ⟨o', ho', hc'⟩ := (h2 j hs).1
    rw [ho] at ho'
    cases ho'
    rw [hc] at hc'
    cases hc'
theorem keeps_below {W W' : World} (N : Nat) (h : Below W.heap.size W W') : KeepsFrom N W W' := ⟨h.size, fun j o _ ho _ => (h.block j (Array.getElem?_eq_some_iff.1 ho).1).trans ho⟩
end Go.Proofs.Ytchiobhklbefjaa.Fl
namespace Go.Proofs.Ytchiobhklbefjaa.Fl
open Go.RowKit Go.Shelf Go.Proofs.YtchiobhklbefjaaW.PrintWords Go.Proofs.YtchiobhklbefjaaW.PrintLast Go.Proofs.YtchiobhklbefjaaW.PrintMore Go.Proofs.Ytchiobhklbefjaa.Tk Go.Proofs.Ytchiobhklbefjaa.Q Go.Proofs.Ytchiobhklbefjaa.E
set_option linter.unusedVariables false
set_option linter.unusedSimpArgs false
attribute [local go_sem] Oper.semAt_some
theorem blk_lt' {w : World} {k : Nat} {o : Obj} (h : w.heap[k]? = some o) : k < w.heap.size := (Array.getElem?_eq_some_iff.1 h).1
set_option maxHeartbeats 8000000 in
set_option maxRecDepth 100000 in
theorem search_in (n : Nat) (hn : 6 ≤ n) (p : Where) (a : Ask) (l : List It) (k : Int) (w : World) (hL : Lies w p a l) (hF : Fine a l) :
    CallsIn Fence.wide n Try.prog 39 #[.int .u8 a.m, p.vl l, p.vq a, p.vf a, .int .i64 k] w fun e W' => (∃ v, e = .returned v ∧ OwnH W' w.heap.size v (putAll (clamp k) (a.hits l))) ∧ Below w.heap.size w W' := by
  have hu2 := Try.underlying49
  have hu3 := Try.underlying29
  have hn1 : 1 ≤ n := by omega
  have HL := Aside0.mk hL
  have HF := Aside0.mk hF
  obtain ⟨K, hK⟩ : ∃ K, clamp k = K := ⟨_, rfl⟩
  have HKK := Aside0.mk hK
  clear hL hF hK
  refine callsIn_of_wp_marks Try.func39 rfl trivial ?_ rfl
  simp only [Try.ntmps39, List.size_toArray, List.length_cons, List.length_nil, Nat.reduceAdd, Nat.reduceSub, Array.replicate_succ, Array.replicate_zero, List.push_toArray, List.append_toArray, List.nil_append, List.cons_append]
  gi_wp2_with (refine ⟨trivial, ?_⟩; first | (gi_at_call 24; have HA := Aside0.mk (below_alloc (Below.refl w.heap.size w) (.cells #[.slice p.F0 a.f0.length p.d0, .slice p.F1 a.f1.length p.d1, .slice p.F2 a.f2.length p.d2] 49)); have HAS := Aside0.mk (show (w.alloc (.cells #[.slice p.F0 a.f0.length p.d0, .slice p.F1 a.f1.length p.d1, .slice p.F2 a.f2.length p.d2] 49)).heap.size = w.heap.size + 1 from World.size_alloc _ _); refine (callsIn_wide.2 (knew_calls k _)).mono ?_; rintro e w1 ⟨rfl, hb, hK⟩; rw [HKK.out, HAS.out] at hK; rw [HAS.out] at hb; have HB1 := Aside0.mk (HA.out.trans (hb.mono (by omega))); have HK1 := Aside0.mk hK; have hnb := (hb.block w.heap.size (by omega)).trans (heap_alloc_new w _); have e0 := (blk_cell hnb 0).trans rfl; have e1 := (blk_cell hnb 1).trans rfl; have e2 := (blk_cell hnb 2).trans rfl; have z1 := blk_lt hnb; have HZ := Aside0.mk hb.size; clear hb hK hnb) | (gi_at_call 72; refine (callsIn_wide.2 (wanted_calls p a l _)).mono ?_; rintro e w2 ⟨rfl, hw2⟩; have HW2 := Aside0.mk (wanted_world w1 24 _ p a l w2 hw2); clear hw2))
  clear e0 e1 e2
  obtain ⟨hs2, hBX, hBB, hb2⟩ := HW2.out
  have hS0 : Sel w.heap.size (w1.heap.size + 1) w1.heap.size (w.heap.size + 1) K [] w2 := (Sel.of HK1.out (fun i hi => by have := hi.1; have := HAS.out; have := hi.2; exact ⟨⟨by omega, by omega⟩, by omega⟩)).below hb2
  have hB2 : Below w.heap.size w w2 := bel_trans HB1.out hb2
  have hBI : ∀ W, Below w.heap.size w W → Lies W p a l := fun W hW => HL.out.below hW
  have HS2 := Aside0.mk hs2
  clear HW2
  refine wpIn_rangeFunc_ownH rfl (by omega) (gf := 103) (lb := #[.pointer (some ⟨w1.heap.size + 1 + 1, 0, none⟩), .pointer (some ⟨w1.heap.size + 1, 0, none⟩), .pointer (some ⟨w1.heap.size + 1 + 2, 0, none⟩), .pointer (some ⟨w1.heap.size + 1 + 3, 0, none⟩)]) rfl trivial (Go.Proofs.enters_of Try.func103 (by kernel_rfl) rfl)
    (wanted_stops (n - 1) (by omega) (w1.heap.size + 1) p a l w w2 HL.out HF.out hB2 hBX (by omega)) (fun h k => h.trans k) (fun W l o o' hl ho hc hw => (only_of_grown (grownBy_putObj' W l o')).mono (fun i e => by cases e; exact ⟨by omega, by omega⟩)) (Below.refl _ _) (fun _ => rfl)
    (fun pre W => (Sel w.heap.size (w1.heap.size + 1) w1.heap.size (w.heap.size + 1) K (putAll K pre) W ∧ Boxed W w1.heap.size 24 (.pointer (some ⟨w.heap.size + 1, 0, none⟩))) ∧ Below w.heap.size w W ∧ w1.heap.size + 5 ≤ W.heap.size)
    (fun _ _ _ => False)
    (OwnFrom.and (OwnFrom.and (Sel.own _ _ _ _ _ _ _) (Own.from (boxed_own _ _ (fun _ => Value.pointer (some ⟨w.heap.size + 1, 0, none⟩))) _)) (OwnFrom.and (ownFrom_below (Nat.le_refl _) (by omega)) (own_size _ _)))
    (fun _ _ _ _ _ hs _ _ => hs)
    ⟨⟨hS0, hBB⟩, hB2, by omega⟩
    (fun x a' W => ∃ Bx, W.heap[Bx]? = some (.cells #[.int .i64 x.f0, .int .u32 x.f1] 29 (0, 0)) ∧ a' = { tmps := #[.int .u8 a.m, p.vl l, p.vq a, p.vf a, .int .i64 k, undef, undef, undef, .pointer (some ⟨w.heap.size, 0, none⟩), undef, .slice none 0 0, .pointer (some ⟨w1.heap.size, 0, none⟩), .pointer (some ⟨Bx, 0, none⟩), .int .i64 k, .pointer (some ⟨w.heap.size + 1, 0, none⟩), .int .u8 a.m, p.vl l, p.vq a, .agg #[.slice p.F0 a.f0.length p.d0, .slice p.F1 a.f1.length p.d1, .slice p.F2 a.f2.length p.d2], .func (.func 103) #[] #[.pointer (some ⟨w1.heap.size + 1 + 1, 0, none⟩), .pointer (some ⟨w1.heap.size + 1, 0, none⟩), .pointer (some ⟨w1.heap.size + 1 + 2, 0, none⟩), .pointer (some ⟨w1.heap.size + 1 + 3, 0, none⟩)], .agg #[.int .i64 x.f0, .int .u32 x.f1], undef, undef, undef, undef, undef], defers := [] })
    (fun x a' _ X Y row hs hg hr => by obtain ⟨Bx, h2, h3⟩ := hs; exact ⟨Bx, (hg.block Bx (Array.getElem?_eq_some_iff.1 h2).1 (fun e => by obtain ⟨_, o, ho, hc⟩ := hr Bx e.symm; rw [h2] at ho; cases ho; cases hc)).trans h2, h3⟩)
    ?assign ?body ?done ?stop
  case assign =>
    rintro lo pre x W K' ⟨⟨hS, hB⟩, hW, hz⟩ hK
    gi_wp2
    have hbx : Below W.heap.size W (W.alloc (.cells #[.int .i64 x.f0, .int .u32 x.f1] 29)) := below_alloc (Below.refl _ _) _
    exact hK _ _ (keeps_below _ hbx) (Only.of_below hbx) ⟨⟨hS.below hbx, hB.alloc _⟩, bel_trans hW hbx, Nat.le_trans hz hbx.size⟩ ⟨W.heap.size, heap_alloc_new W _, rfl⟩
  case body =>
    rintro lo pre x a' W hl ⟨r, hr⟩ ⟨⟨hS, hB⟩, hW, hz⟩ ⟨Bx, bX, rfl⟩ hlt
    have cB := hB.cell
    have x0 := (blk_cell bX 0).trans rfl
    have x1 := (blk_cell bX 1).trans rfl
    have h11 : 1 ≤ n - 1 - 1 := by omega
    have HSS := Aside0.mk hS
    have HBB := Aside0.mk hB
    have HWW := Aside0.mk hW
    have HZZ := Aside0.mk (show w.heap.size ≤ W.heap.size ∧ w1.heap.size + 1 + 4 ≤ W.heap.size ∧ w1.heap.size < W.heap.size from ⟨hW.size, by omega, by omega⟩)
    clear hS hB hW hz hS0 hBX hBB hb2 hs2 hB2 hBI bX hl hr
    gi_wp2_with (refine ⟨trivial, ?_⟩; gi_at_call 25; refine (CallsIn.inRound lo (callsIn_wide.2 (sel_put w2.heap.size HSS.out x.f0 x.f1 HZZ.out.1 HZZ.out.2.1 HZZ.out.2.2))).mono ?_; rintro e W3 ⟨rfl, hO, hS3, hKF⟩; have HO := Aside0.mk hO; have HS3 := Aside0.mk hS3; have HKF := Aside0.mk hKF; clear hO hS3 hKF)
    exact ⟨HKF.out, HO.out.mono (fun j hj => hj.1), ⟨⟨by rw [putAll_snoc]; exact HS3.out, (HO.out.block w1.heap.size HBB.out.lt (fun h => h.2 rfl)).trans HBB.out⟩, HO.out.below_of HWW.out (fun i hi => hi.1.1), by have := HO.out.size; have := HZZ.out.2.1; omega⟩⟩
  case done =>
    rintro D ys W hD rfl ⟨⟨hS, hB⟩, hW, hz⟩ hK
    have cB := hB.cell
    obtain ⟨S, hSK, _⟩ := hS
    have HSK := Aside0.mk hSK
    have HWW := Aside0.mk hW
    have HD := Aside0.mk hK
    clear hSK hB hW hz hS0 hBX hBB hb2 hs2 hB2 hBI hK
    gi_wp2_with (refine ⟨trivial, ?_⟩; gi_at_call 30; refine (callsIn_wide.2 (klist_calls S _ _ _ _ HSK.out)).mono ?_; rintro e W3 ⟨⟨v, rfl, hv⟩, hb⟩; have HV := Aside0.mk hv; have HB3 := Aside0.mk hb; have HD3 := Aside0.mk ((hb.block D (blk_lt' HD.out)).trans HD.out); clear hv hb)
    refine ⟨by simp, .inl ⟨_, _, rfl, run_takeDeferred HD3.out, ?_⟩⟩
    have hvv := HV.out.weaken HWW.out.size
    have hbb := bel_trans HWW.out HB3.out
    exact ⟨_, results_tmp rfl _ _ _, ⟨v, rfl, by rw [HKK.out]; exact ownsRow_putObj hvv _ HD3.out rfl⟩, hbb.trans (belowK_b (w := w) (Nat.le_refl _) W3 D _ _ (by have := HS2.out; omega) HD3.out rfl rfl)⟩
  case stop =>
    rintro D c pre W _ _ h _
    exact h.elim
theorem search_calls (p : Where) (a : Ask) (l : List It) (k : Int) (w : World) (hL : Lies w p a l) (hF : Fine a l) :
    Calls Try.prog 39 #[.int .u8 a.m, p.vl l, p.vq a, p.vf a, .int .i64 k] w fun e W' => (∃ v, e = .returned v ∧ OwnH W' w.heap.size v (putAll (clamp k) (a.hits l))) ∧ Below w.heap.size w W' :=
  callsIn_wide.1 (search_in 6 (Nat.le_refl _) p a l k w hL hF)
end Go.Proofs.Ytchiobhklbefjaa.Fl
namespace Go.Proofs.Ytchiobhklbefjaa.Fl
open Go.RowKit Go.Shelf Go.Proofs.YtchiobhklbefjaaW.PrintWords Go.Proofs.YtchiobhklbefjaaW.PrintLast Go.Proofs.YtchiobhklbefjaaW.PrintMore Go.Proofs.Ytchiobhklbefjaa.Tk Go.Proofs.Ytchiobhklbefjaa.Q Go.Proofs.Ytchiobhklbefjaa.E
set_option linter.unusedVariables false
set_option linter.unusedSimpArgs false
attribute [local go_sem] Oper.semAt_some
theorem own_block {β : Type} (N i : Nat) (c : Array Value) (t : TypeId) : OwnFrom N (fun (_ : β) W => W.heap[i]? = some (.cells c t (0, 0))) := fun s X Y row h2 hg hr =>
  (hg.block i (Array.getElem?_eq_some_iff.1 h2).1 (fun e => by obtain ⟨_, o, ho, hc⟩ := hr i e.symm; rw [h2] at ho; cases ho; cases hc)).trans h2
theorem heap_last (w : World) (o o2 : Obj) : ((w.alloc o).alloc o2).heap[w.heap.size + 1]? = some o2 := by
  have := heap_alloc_new (w.alloc o) o2
  rwa [World.size_alloc] at this
set_option maxHeartbeats 8000000 in
set_option maxRecDepth 100000 in
theorem after_in (n : Nat) (hn : 6 ≤ n) (p : Where) (a : Ask) (l : List It) (last : H) (k : Int) (w : World) (hL : Lies w p a l) (hF : Fine a l) :
    CallsIn Fence.wide n Try.prog 40 #[.int .u8 a.m, p.vl l, p.vq a, p.vf a, .agg #[.int .i64 last.f0, .int .u32 last.f1], .int .i64 k] w fun e W' => (∃ v, e = .returned v ∧ OwnH W' w.heap.size v (putAll (clamp k) ((a.hits l).filter (ltH last)))) ∧ Below w.heap.size w W' := by
  have hu2 := Try.underlying49
  have hu3 := Try.underlying29
  have hn1 : 1 ≤ n := by omega
  have HL := Aside0.mk hL
  have HF := Aside0.mk hF
  obtain ⟨K, hK⟩ : ∃ K, clamp k = K := ⟨_, rfl⟩
  have HKK := Aside0.mk hK
  clear hL hF hK
  refine callsIn_of_wp_marks Try.func40 rfl trivial ?_ rfl
  simp only [Try.ntmps40, List.size_toArray, List.length_cons, List.length_nil, Nat.reduceAdd, Nat.reduceSub, Array.replicate_succ, Array.replicate_zero, List.push_toArray, List.append_toArray, List.nil_append, List.cons_append]
  gi_wp2_with (refine ⟨trivial, ?_⟩; first | (gi_at_call 24; have HA := Aside0.mk (bel_alloc (below_alloc (Below.refl w.heap.size w) (.cells #[.slice p.F0 a.f0.length p.d0, .slice p.F1 a.f1.length p.d1, .slice p.F2 a.f2.length p.d2] 49)) (.cells #[.int .i64 last.f0, .int .u32 last.f1] 29)); have HAS := Aside0.mk (show ((w.alloc (.cells #[.slice p.F0 a.f0.length p.d0, .slice p.F1 a.f1.length p.d1, .slice p.F2 a.f2.length p.d2] 49)).alloc (.cells #[.int .i64 last.f0, .int .u32 last.f1] 29)).heap.size = w.heap.size + 1 + 1 from by rw [World.size_alloc, World.size_alloc]); refine (callsIn_wide.2 (knew_calls k _)).mono ?_; rintro e w1 ⟨rfl, hb, hK⟩; rw [HKK.out, HAS.out] at hK; rw [HAS.out] at hb; have HB1 := Aside0.mk (HA.out.trans (hb.mono (by omega))); have HK1 := Aside0.mk hK; have hnb := (hb.block w.heap.size (by omega)).trans (((below_alloc (Below.refl _ _) _).block w.heap.size (by rw [World.size_alloc]; omega)).trans (heap_alloc_new w _)); have hnl := (hb.block (w.heap.size + 1) (by omega)).trans (heap_last w (.cells #[.slice p.F0 a.f0.length p.d0, .slice p.F1 a.f1.length p.d1, .slice p.F2 a.f2.length p.d2] 49) (.cells #[.int .i64 last.f0, .int .u32 last.f1] 29)); have HNL := Aside0.mk hnl; have e0 := (blk_cell hnb 0).trans rfl; have e1 := (blk_cell hnb 1).trans rfl; have e2 := (blk_cell hnb 2).trans rfl; have z1 := blk_lt hnb; have HZ := Aside0.mk hb.size; clear hb hK hnb hnl) | (gi_at_call 72; refine (callsIn_wide.2 (wanted_calls p a l _)).mono ?_; rintro e w2 ⟨rfl, hw2⟩; have HW2 := Aside0.mk (wanted_world w1 24 _ p a l w2 hw2); clear hw2))
  clear e0 e1 e2
  obtain ⟨hs2, hBX, hBB, hb2⟩ := HW2.out
  have hS0 : Sel (w.heap.size + 1 + 1) (w1.heap.size + 1) w1.heap.size (w.heap.size + 1 + 1) K [] w2 := (Sel.of HK1.out (fun i hi => by have := hi.1; have := HAS.out; have := hi.2; exact ⟨⟨by omega, by omega⟩, by omega⟩)).below hb2
  have hB2 : Below w.heap.size w w2 := bel_trans HB1.out hb2
  have hBI : ∀ W, Below w.heap.size w W → Lies W p a l := fun W hW => HL.out.below hW
  have HS2 := Aside0.mk hs2
  clear HW2
  refine wpIn_rangeFunc_ownH rfl (by omega) (gf := 103) (lb := #[.pointer (some ⟨w1.heap.size + 1 + 1, 0, none⟩), .pointer (some ⟨w1.heap.size + 1, 0, none⟩), .pointer (some ⟨w1.heap.size + 1 + 2, 0, none⟩), .pointer (some ⟨w1.heap.size + 1 + 3, 0, none⟩)]) rfl trivial (Go.Proofs.enters_of Try.func103 (by kernel_rfl) rfl)
    (wanted_stops (n - 1) (by omega) (w1.heap.size + 1) p a l w w2 HL.out HF.out hB2 hBX (by omega)) (fun h k => h.trans k) (fun W l o o' hl ho hc hw => (only_of_grown (grownBy_putObj' W l o')).mono (fun i e => by cases e; exact ⟨by omega, by omega⟩)) (Below.refl _ _) (fun _ => rfl)
    (fun pre W => ((Sel (w.heap.size + 1 + 1) (w1.heap.size + 1) w1.heap.size (w.heap.size + 1 + 1) K (putAll K (pre.filter (ltH last))) W ∧ W.heap[w.heap.size + 1]? = some (.cells #[.int .i64 last.f0, .int .u32 last.f1] 29 (0, 0))) ∧ Boxed W w1.heap.size 24 (.pointer (some ⟨w.heap.size + 1 + 1, 0, none⟩))) ∧ Below w.heap.size w W ∧ w1.heap.size + 5 ≤ W.heap.size)
    (fun _ _ _ => False)
    (OwnFrom.and (OwnFrom.and (OwnFrom.and (Sel.own _ _ _ _ _ (fun pre => putAll K (List.filter (ltH last) pre)) _) (own_block _ _ _ _)) (Own.from (boxed_own _ _ (fun _ => Value.pointer (some ⟨w.heap.size + 1 + 1, 0, none⟩))) _)) (OwnFrom.and (ownFrom_below (Nat.le_refl _) (by omega)) (own_size _ _)))
    (fun _ _ _ _ _ hs _ _ => hs)
    ⟨⟨⟨hS0, (hb2.block (w.heap.size + 1) (by have := HZ.out; have := HAS.out; omega)).trans HNL.out⟩, hBB⟩, hB2, by omega⟩
    (fun x a' W => ∃ Bx, W.heap[Bx]? = some (.cells #[.int .i64 x.f0, .int .u32 x.f1] 29 (0, 0)) ∧ a' = { tmps := #[.int .u8 a.m, p.vl l, p.vq a, p.vf a, .agg #[.int .i64 last.f0, .int .u32 last.f1], .int .i64 k, undef, undef, undef, .pointer (some ⟨w.heap.size, 0, none⟩), .pointer (some ⟨w.heap.size + 1, 0, none⟩), undef, .slice none 0 0, .pointer (some ⟨w1.heap.size, 0, none⟩), .pointer (some ⟨Bx, 0, none⟩), .int .i64 k, .pointer (some ⟨w.heap.size + 1 + 1, 0, none⟩), .int .u8 a.m, p.vl l, p.vq a, .agg #[.slice p.F0 a.f0.length p.d0, .slice p.F1 a.f1.length p.d1, .slice p.F2 a.f2.length p.d2], .func (.func 103) #[] #[.pointer (some ⟨w1.heap.size + 1 + 1, 0, none⟩), .pointer (some ⟨w1.heap.size + 1, 0, none⟩), .pointer (some ⟨w1.heap.size + 1 + 2, 0, none⟩), .pointer (some ⟨w1.heap.size + 1 + 3, 0, none⟩)], .agg #[.int .i64 x.f0, .int .u32 x.f1], undef, undef, undef, undef, undef, undef, undef, undef], defers := [] })
    (fun x a' _ X Y row hs hg hr => by obtain ⟨Bx, h2, h3⟩ := hs; exact ⟨Bx, (hg.block Bx (Array.getElem?_eq_some_iff.1 h2).1 (fun e => by obtain ⟨_, o, ho, hc⟩ := hr Bx e.symm; rw [h2] at ho; cases ho; cases hc)).trans h2, h3⟩)
    ?assign ?body ?done ?stop
  case assign =>
    rintro lo pre x W K' ⟨⟨⟨hS, hN⟩, hB⟩, hW, hz⟩ hK
    gi_wp2
    have hbx : Below W.heap.size W (W.alloc (.cells #[.int .i64 x.f0, .int .u32 x.f1] 29)) := below_alloc (Below.refl _ _) _
    exact hK _ _ (keeps_below _ hbx) (Only.of_below hbx) ⟨⟨⟨hS.below hbx, (hbx.block _ (blk_lt hN)).trans hN⟩, hB.alloc _⟩, bel_trans hW hbx, Nat.le_trans hz hbx.size⟩ ⟨W.heap.size, heap_alloc_new W _, rfl⟩
  case body =>
    rintro lo pre x a' W hl ⟨r, hr⟩ ⟨⟨⟨hS, hN⟩, hB⟩, hW, hz⟩ ⟨Bx, bX, rfl⟩ hlt
    obtain ⟨lt, hlt2⟩ : ∃ lt, ltH last x = lt := ⟨_, rfl⟩
    have HLT := Aside0.mk hlt2
    have cB := hB.cell
    have x0 := (blk_cell bX 0).trans rfl
    have x1 := (blk_cell bX 1).trans rfl
    have n0 := (blk_cell hN 0).trans rfl
    have n1 := (blk_cell hN 1).trans rfl
    have h11 : 1 ≤ n - 1 - 1 := by omega
    have HSS := Aside0.mk hS
    have HNN := Aside0.mk hN
    have HBB := Aside0.mk hB
    have HXB := Aside0.mk bX
    have HWW := Aside0.mk hW
    have HZZ := Aside0.mk (show w.heap.size + 1 + 1 ≤ W.heap.size ∧ w1.heap.size + 1 + 4 ≤ W.heap.size ∧ w1.heap.size < W.heap.size ∧ w.heap.size + 1 < w1.heap.size from ⟨by have := HZ.out; have := HAS.out; omega, by omega, by omega, by have := HZ.out; have := HAS.out; omega⟩)
    clear hS hB hW hz hS0 hBX hBB hb2 hs2 hB2 hBI bX hl hr hN hlt2
    cases lt with
    | true => as_aux_lemma =>
      gi_wp2_with (refine ⟨trivial, ?_⟩; first | (gi_at_call 65; refine (CallsIn.inRound lo (callsIn_wide.2 (less_below last x _ HLT.out W))).mono ?_; rintro e W2 ⟨rfl, hb⟩; have HB2 := Aside0.mk hb; clear hb cB x0 x1 n0 n1; have cB := (HBB.out.kept (grown_of_below HB2.out) (by simp)).cell; have x0 := (blk_cell ((HB2.out.block _ (blk_lt HXB.out)).trans HXB.out) 0).trans rfl; have x1 := (blk_cell ((HB2.out.block _ (blk_lt HXB.out)).trans HXB.out) 1).trans rfl) | (gi_at_call 25; refine (CallsIn.inRound lo (callsIn_wide.2 (sel_put w2.heap.size (HSS.out.below HB2.out) x.f0 x.f1 (Nat.le_trans HZZ.out.1 HB2.out.size) (Nat.le_trans HZZ.out.2.1 HB2.out.size) (Nat.lt_of_lt_of_le HZZ.out.2.2.1 HB2.out.size)))).mono ?_; rintro e W3 ⟨rfl, hO, hS3, hKF⟩; have HO := Aside0.mk hO; have HS3 := Aside0.mk hS3; have HKF := Aside0.mk hKF; clear hO hS3 hKF))
      have hO2 := (Only.of_below HB2.out).trans HO.out
      exact ⟨(keeps_below _ HB2.out).trans HKF.out, hO2.mono (fun j hj => ⟨by have := hj.1.1; omega, hj.1.2⟩), ⟨⟨⟨by rw [List.filter_append, List.filter_cons, HLT.out]; simp only [if_true, List.filter_nil]; rw [putAll_snoc]; exact HS3.out, (hO2.block _ (blk_lt HNN.out) (fun h => by have := h.1.1; omega)).trans HNN.out⟩, (hO2.block w1.heap.size HBB.out.lt (fun h => h.2 rfl)).trans HBB.out⟩, hO2.below_of HWW.out (fun i hi => by have := hi.1.1; omega), by have := hO2.size; have := HZZ.out.2.1; omega⟩⟩
    | false => as_aux_lemma =>
      gi_wp2_with (refine ⟨trivial, ?_⟩; (gi_at_call 65; refine (CallsIn.inRound lo (callsIn_wide.2 (less_below last x _ HLT.out W))).mono ?_; rintro e W2 ⟨rfl, hb⟩; have HB2 := Aside0.mk hb; clear hb cB x0 x1 n0 n1))
      exact ⟨keeps_below _ HB2.out, Only.of_below HB2.out, ⟨⟨⟨by rw [List.filter_append, List.filter_cons, HLT.out]; simp only [Bool.false_eq_true, if_false, List.filter_nil, List.append_nil]; exact HSS.out.below HB2.out, (HB2.out.block _ (blk_lt HNN.out)).trans HNN.out⟩, HBB.out.kept (grown_of_below HB2.out) (by simp)⟩, bel_trans HWW.out HB2.out, by have := HB2.out.size; have := HZZ.out.2.1; omega⟩⟩
  case done =>
    rintro D ys W hD rfl ⟨⟨⟨hS, hN⟩, hB⟩, hW, hz⟩ hK
    have cB := hB.cell
    obtain ⟨S, hSK, _⟩ := hS
    have HSK := Aside0.mk hSK
    have HWW := Aside0.mk hW
    have HD := Aside0.mk hK
    clear hSK hB hW hz hN hS0 hBX hBB hb2 hs2 hB2 hBI hK
    gi_wp2_with (refine ⟨trivial, ?_⟩; gi_at_call 30; refine (callsIn_wide.2 (klist_calls S _ _ _ _ HSK.out)).mono ?_; rintro e W3 ⟨⟨v, rfl, hv⟩, hb⟩; have HV := Aside0.mk hv; have HB3 := Aside0.mk hb; have HD3 := Aside0.mk ((hb.block D (blk_lt' HD.out)).trans HD.out); clear hv hb)
    refine ⟨by simp, .inl ⟨_, _, rfl, run_takeDeferred HD3.out, ?_⟩⟩
    have hvv := HV.out.weaken HWW.out.size
    have hbb := bel_trans HWW.out HB3.out
    exact ⟨_, results_tmp rfl _ _ _, ⟨v, rfl, by rw [HKK.out]; exact ownsRow_putObj hvv _ HD3.out rfl⟩, hbb.trans (belowK_b (w := w) (Nat.le_refl _) W3 D _ _ (by have := HS2.out; omega) HD3.out rfl rfl)⟩
  case stop =>
    rintro D c pre W _ _ h _
    exact h.elim
theorem after_calls (p : Where) (a : Ask) (l : List It) (last : H) (k : Int) (w : World) (hL : Lies w p a l) (hF : Fine a l) :
    Calls Try.prog 40 #[.int .u8 a.m, p.vl l, p.vq a, p.vf a, .agg #[.int .i64 last.f0, .int .u32 last.f1], .int .i64 k] w fun e W' => (∃ v, e = .returned v ∧ OwnH W' w.heap.size v (putAll (clamp k) ((a.hits l).filter (ltH last)))) ∧ Below w.heap.size w W' :=
  callsIn_wide.1 (after_in 6 (Nat.le_refl _) p a l last k w hL hF)
end Go.Proofs.Ytchiobhklbefjaa.Fl
namespace Go.Proofs.Ytchiobhklbefjaa.Fl
open Go.RowKit Go.Shelf Go.Proofs.YtchiobhklbefjaaW.PrintWords Go.Proofs.YtchiobhklbefjaaW.PrintLast Go.Proofs.YtchiobhklbefjaaW.PrintMore Go.Proofs.Ytchiobhklbefjaa.Tk Go.Proofs.Ytchiobhklbefjaa.Q Go.Proofs.Ytchiobhklbefjaa.E
set_option linter.unusedVariables false
set_option linter.unusedSimpArgs false
attribute [local go_sem] Oper.semAt_some
theorem own_all (N B base : Nat) : OwnFrom N (fun (pre : List H) W => ∃ v, Boxed W B 22 v ∧ OwnH W base v pre) := by
  intro pre X Y row ⟨v, h1, h2⟩ hg hr
  refine ⟨v, boxed_own B _ (fun (_ : Unit) => v) () X Y row h1 hg (fun r e => (hr r e).2), own_move h2 (fun j hj => hg.block j (own_lt h2 j hj) (fun e => ?_))⟩
  obtain ⟨_, o, ho, hc⟩ := hr j e.symm
  obtain ⟨c, hc'⟩ := own_typed h2 j hj
  rw [hc'] at ho
  cases ho
  cases hc
theorem new_reads (W : World) (x : H) : ∀ j u, (cellsOf [x])[j]? = some u → (W.alloc (.cells #[.int .i64 x.f0, .int .u32 x.f1] 29)).cell? ((⟨W.heap.size, 0, none⟩ : Addr).add j) = some u := by
  intro j u hu
  rw [add_plain, blk_cell (heap_alloc_new W _), List.getElem?_toArray]
  exact hu
theorem Ask.hits_len (a : Ask) {l : List It} (h : l.length ≤ 300) : (a.hits l).length ≤ 300 := by
  unfold Ask.hits
  rw [List.length_map]
  exact Nat.le_trans (List.length_filter_le _ _) h
theorem merge_all (A : List H) : mergeH A [] A.length = sortH A := by
  unfold mergeH
  rw [List.append_nil]
  exact List.take_of_length_le (by rw [sortH_len]; omega)
theorem rank_boxed {W w1 : World} {B base : Nat} {v : Value} {pre : List H} {o : Obj} (hB : Boxed W B 22 v) (hv : OwnH W base v pre) (hg : (W.alloc o).grownBy w1 v.ownBlock) : Boxed w1 B 22 v := (hB.alloc o).kept hg (hB.not_row (by decide) hv)
/-- What a round that appends leaves. -/
theorem rank_body {w W w1 : World} {B n base : Nat} {v v' : Value} {pre : List H} {x : H} {o : Obj} {N : Nat} (hB : Boxed W B 22 v) (hv : OwnH W base v pre) (hW : Below n w W) (hz : base ≤ W.heap.size)
    (hown : w1.ownsRow base 29 2 v' (pre.length + 1) (cellsOf pre ++ cellsOf [x])) (hg : (W.alloc o).grownBy w1 v.ownBlock) (hn : n ≤ B := by omega) (hb : B + 1 + 4 ≤ base := by omega) :
    KeepsFrom N W (w1.setCell ⟨B, 0, none⟩ v') ∧ Only (notBox n (B + 1)) W (w1.setCell ⟨B, 0, none⟩ v') ∧ (∃ v, Boxed (w1.setCell ⟨B, 0, none⟩ v') B 22 v ∧ OwnH (w1.setCell ⟨B, 0, none⟩ v') base v (pre ++ [x])) ∧ Below n w (w1.setCell ⟨B, 0, none⟩ v') ∧ base ≤ (w1.setCell ⟨B, 0, none⟩ v').heap.size := by
  obtain ⟨hv1, hv2, hr2, hk2, hb2⟩ := hB.appended (n₀ := n) (by decide) (own_weaken hv (by omega)) (by have := hB.lt; omega) hn (own_weaken hown (by omega)) hg
  have hO : Only (notBox n (B + 1)) W (w1.setCell ⟨B, 0, none⟩ v') := by
    refine Only.set ((Only.of_below (below_alloc (Below.refl W.heap.size W) o)).trans ((only_of_grown hg).mono (fun i hi => ?_))) _ _ ⟨hn, by show ¬ (B + 1 ≤ B ∧ B < B + 1 + 4); omega⟩
    have := own_base hv i hi
    exact ⟨by omega, by omega⟩
  refine ⟨hk2.from _, hO, ⟨v', hv2, ?_⟩, hW.trans hb2, Nat.le_trans hz hO.size⟩
  unfold OwnH
  rw [cellsOf_append, List.length_append]
  exact hown.kept (grownBy_setCell' w1 B v') (.inr (hv1.not_row (by decide) hown).symm)
set_option maxHeartbeats 8000000 in
set_option maxRecDepth 100000 in
theorem rank_in (n : Nat) (hn : 6 ≤ n) (p : Where) (a : Ask) (l : List It) (w : World) (hL : Lies w p a l) (hF : Fine a l) :
    CallsIn Fence.wide n Try.prog 38 #[.int .u8 a.m, p.vl l, p.vq a, p.vf a] w fun e W' => (∃ v, e = .returned v ∧ OwnH W' w.heap.size v (sortH (a.hits l))) ∧ Below w.heap.size w W' := by
  have hu2 := Try.underlying49
  have hu3 := Try.underlying29
  have hn1 : 1 ≤ n := by omega
  have HL := Aside0.mk hL
  have HF := Aside0.mk hF
  clear hL hF
  refine callsIn_of_wp_marks Try.func38 rfl trivial ?_ rfl
  simp only [Try.ntmps38, List.size_toArray, List.length_cons, List.length_nil, Nat.reduceAdd, Nat.reduceSub, Array.replicate_succ, Array.replicate_zero, List.push_toArray, List.append_toArray, List.nil_append, List.cons_append]
  have hA0 := below_alloc (Below.refl w.heap.size w) (.cells #[.slice p.F0 a.f0.length p.d0, .slice p.F1 a.f1.length p.d1, .slice p.F2 a.f2.length p.d2] 49)
  gi_wp2_with (refine ⟨trivial, ?_⟩; gi_at_call 72; refine (callsIn_wide.2 (wanted_calls p a l _)).mono ?_; rintro e w2 ⟨rfl, hw2⟩; have HW2 := Aside0.mk (wanted_world (w.alloc (.cells #[.slice p.F0 a.f0.length p.d0, .slice p.F1 a.f1.length p.d1, .slice p.F2 a.f2.length p.d2] 49)) 22 _ p a l w2 hw2); clear hw2)
  rw [show (w.alloc (.cells #[.slice p.F0 a.f0.length p.d0, .slice p.F1 a.f1.length p.d1, .slice p.F2 a.f2.length p.d2] 49)).heap.size = w.heap.size + 1 from World.size_alloc _ _] at HW2
  obtain ⟨hs2, hBX, hBB, hb2⟩ := HW2.out
  have hB2 : Below w.heap.size w w2 := hA0.trans (hb2.mono (by omega))
  have HS2 := Aside0.mk hs2
  clear HW2 hA0 hb2
  obtain ⟨i0, hi0, hz0, hsz0, hby0⟩ := info_hit2
  have hu22 := Try.underlying22
  refine wpIn_rangeFunc_ownH rfl (by omega) (gf := 103) (lb := #[.pointer (some ⟨w.heap.size + 1 + 1 + 1, 0, none⟩), .pointer (some ⟨w.heap.size + 1 + 1, 0, none⟩), .pointer (some ⟨w.heap.size + 1 + 1 + 2, 0, none⟩), .pointer (some ⟨w.heap.size + 1 + 1 + 3, 0, none⟩)]) rfl trivial (Go.Proofs.enters_of Try.func103 (by kernel_rfl) rfl)
    (wanted_stops (n - 1) (by omega) (w.heap.size + 1 + 1) p a l w w2 HL.out HF.out hB2 hBX (by omega)) (fun h k => h.trans k) (fun W l o o' hl ho hc hw => (only_of_grown (grownBy_putObj' W l o')).mono (fun i e => by cases e; exact ⟨by omega, by omega⟩)) (Below.refl _ _) (fun _ => rfl)
    (fun pre W => (∃ v, Boxed W (w.heap.size + 1) 22 v ∧ OwnH W (w.heap.size + 1 + 5) v pre) ∧ Below w.heap.size w W ∧ w.heap.size + 1 + 5 ≤ W.heap.size)
    (fun _ _ _ => False)
    (OwnFrom.and (own_all _ _ _) (OwnFrom.and (ownFrom_below (Nat.le_refl _) (by omega)) (own_size _ _)))
    (fun _ _ _ _ _ hs _ _ => hs)
    ⟨⟨_, hBB, own_nil _ _ _ _⟩, hB2, by omega⟩
    (fun x a' W => ∃ Bx, W.heap[Bx]? = some (.cells #[.int .i64 x.f0, .int .u32 x.f1] 29 (0, 0)) ∧ a' = { tmps := #[.int .u8 a.m, p.vl l, p.vq a, p.vf a, undef, undef, undef, .pointer (some ⟨w.heap.size, 0, none⟩), .slice none 0 0, .pointer (some ⟨w.heap.size + 1, 0, none⟩), .pointer (some ⟨Bx, 0, none⟩), .int .u8 a.m, p.vl l, p.vq a, .agg #[.slice p.F0 a.f0.length p.d0, .slice p.F1 a.f1.length p.d1, .slice p.F2 a.f2.length p.d2], .func (.func 103) #[] #[.pointer (some ⟨w.heap.size + 1 + 1 + 1, 0, none⟩), .pointer (some ⟨w.heap.size + 1 + 1, 0, none⟩), .pointer (some ⟨w.heap.size + 1 + 1 + 2, 0, none⟩), .pointer (some ⟨w.heap.size + 1 + 1 + 3, 0, none⟩)], .agg #[.int .i64 x.f0, .int .u32 x.f1], undef, undef, undef, undef, undef, undef, undef, undef], defers := [] })
    (fun x a' _ X Y row hs hg hr => by obtain ⟨Bx, h2, h3⟩ := hs; exact ⟨Bx, (hg.block Bx (Array.getElem?_eq_some_iff.1 h2).1 (fun e => by obtain ⟨_, o, ho, hc⟩ := hr Bx e.symm; rw [h2] at ho; cases ho; cases hc)).trans h2, h3⟩)
    ?assign ?body ?done ?stop
  case assign =>
    rintro lo pre x W K' ⟨⟨v, hB, hv⟩, hW, hz⟩ hK
    gi_wp2
    have hbx : Below W.heap.size W (W.alloc (.cells #[.int .i64 x.f0, .int .u32 x.f1] 29)) := below_alloc (Below.refl _ _) _
    exact hK _ _ (keeps_below _ hbx) (Only.of_below hbx) ⟨⟨v, hB.alloc _, hv.below hbx⟩, bel_trans hW hbx, Nat.le_trans hz hbx.size⟩ ⟨W.heap.size, heap_alloc_new W _, rfl⟩
  case body =>
    rintro lo pre x a' W hl ⟨r, hr⟩ ⟨⟨v, hB, hv⟩, hW, hz⟩ ⟨Bx, bX, rfl⟩ hlt
    have cB := hB.cell
    have x0 := (blk_cell bX 0).trans rfl
    have x1 := (blk_cell bX 1).trans rfl
    have HBB := Aside0.mk hB
    have HV := Aside0.mk hv
    have HWW := Aside0.mk hW
    have hln := Nat.le_of_lt (Nat.lt_of_lt_of_le hlt (a.hits_len HF.out.n))
    have HLT := Aside0.mk hln
    have HZZ := Aside0.mk (show w.heap.size + 1 + 5 ≤ W.heap.size ∧ w.heap.size + 1 < W.heap.size from ⟨hz, by omega⟩)
    have zB : w.heap.size + 1 < W.heap.size := by omega
    clear hB hW hz hBX hBB hs2 hB2 bX hl hr hlt hv hln
    gi_wp2_with (gi_at_builtin; go_must (refine wpListIn_append_own _ rfl _ _ 22 rfl (w.heap.size + 1 + 5) 29 i0 _ 2 16 hu22 hi0 hz0 hsz0 hby0 rfl (by decide) v pre.length (cellsOf pre) rfl (HV.out.below (below_alloc (Below.refl _ _) _)) ⟨W.heap.size, 0, none⟩ 1 1 (cellsOf [x]) rfl rfl (new_reads W x) cells_one (by unfold maxLen; have := HLT.out; omega) (by have := HLT.out; omega) (by rw [World.size_alloc]; have := HZZ.out.1; omega) ?_); intro v' w1 hown' hgrow _; obtain ⟨g', cap', rfl⟩ := ownsRow_succ hown'; have HO' := Aside0.mk hown'; have HG := Aside0.mk hgrow; have hb1 := rank_boxed HBB.out HV.out HG.out; have HB1 := Aside0.mk hb1; have cB1 := hb1.cell; have fB1 := hb1.frozen; clear hown' hgrow hb1 cB)
    exact rank_body HBB.out HV.out HWW.out HZZ.out.1 HO'.out HG.out
  case done =>
    rintro D ys W hD rfl ⟨⟨v, hB, hv⟩, hW, hz⟩ hK
    obtain ⟨ao, cap, rfl, hrd⟩ := hv.reads
    have cB := hB.cell
    have hl3 := a.hits_len HF.out.n
    have HR := Aside0.mk hrd
    have HWW := Aside0.mk hW
    have HD := Aside0.mk hK
    have HN := Aside0.mk hl3
    clear hrd hB hW hz hBX hBB hs2 hB2 hK hv hl3
    gi_wp2_with (refine ⟨trivial, ?_⟩; gi_at_call 34; refine (callsIn_wide.2 (merge_calls ao cap (a.hits l) none 0 [] _ W (by have := HN.out; omega) (by simp) HR.out ⟨by simp, .inl ⟨rfl, rfl, rfl⟩⟩)).mono ?_; rintro e W3 ⟨⟨v, rfl, hv⟩, hb⟩; have HV := Aside0.mk hv; have HB3 := Aside0.mk hb; have HD3 := Aside0.mk ((hb.block D (blk_lt' HD.out)).trans HD.out); clear hv hb)
    refine ⟨by simp, .inl ⟨_, _, rfl, run_takeDeferred HD3.out, ?_⟩⟩
    have hvv := HV.out.weaken HWW.out.size
    have hbb := bel_trans HWW.out HB3.out
    rw [merge_all] at hvv
    exact ⟨_, results_tmp rfl _ _ _, ⟨v, rfl, ownsRow_putObj hvv _ HD3.out rfl⟩, hbb.trans (belowK_b (w := w) (Nat.le_refl _) W3 D _ _ (by have := HS2.out; omega) HD3.out rfl rfl)⟩
  case stop =>
    rintro D c pre W _ _ h _
    exact h.elim
theorem rank_calls (p : Where) (a : Ask) (l : List It) (w : World) (hL : Lies w p a l) (hF : Fine a l) :
    Calls Try.prog 38 #[.int .u8 a.m, p.vl l, p.vq a, p.vf a] w fun e W' => (∃ v, e = .returned v ∧ OwnH W' w.heap.size v (sortH (a.hits l))) ∧ Below w.heap.size w W' :=
  callsIn_wide.1 (rank_in 6 (Nat.le_refl _) p a l w hL hF)
end Go.Proofs.Ytchiobhklbefjaa.Fl
namespace Go.Proofs.Ytchiobhklbefjaa.Fl
open Go.RowKit Go.Proofs.YtchiobhklbefjaaW.PrintWords Go.Proofs.YtchiobhklbefjaaW.PrintLast Go.Proofs.YtchiobhklbefjaaW.PrintMore Go.Proofs.Ytchiobhklbefjaa.Tk Go.Proofs.Ytchiobhklbefjaa.Q
set_option linter.unusedVariables false
set_option linter.unusedSimpArgs false
theorem succ_wrap {i n : Nat} (h : i < n) (hn : n ≤ 1000000000000) : wrap64 ((i : Int) + 1) = ((i + 1 : Nat) : Int) := by rw [Tk.wrap_small (by omega) (by omega)]; omega
theorem has_l0 (l : List ByteArray) (t : ByteArray) (hl : l.length ≤ 100000) : ∀ (m i : Nat), l.length - i < m → i ≤ l.length → lodestarref03_Has.l0 m l t (i : Int) = some (hasB (l.drop i) t) := by
  intro m
  induction m with
  | zero => intro i h0; omega
  | succ m ih =>
    intro i h0 hi
    simp only [lodestarref03_Has.l0]
    by_cases hc : i < l.length
    · have hd : l.drop i = l[i] :: l.drop (i + 1) := List.drop_eq_getElem_cons hc
      rw [if_pos (by omega), if_pos (by omega), rdOf_get hc, succ_wrap hc (by omega), hd]
      by_cases hx : l[i].toList = t.toList
      · rw [if_pos hx]; simp only [hasB, List.any_cons, hx, decide_true, Bool.true_or]
      · rw [if_neg hx, ih (i + 1) (by omega) (by omega)]
        have hx' : ¬ t.toList = l[i].toList := fun e => hx e.symm
        simp only [hasB, List.any_cons, hx', decide_false, Bool.false_or]
    · rw [if_neg (by omega)]
      have : l.drop i = [] := List.drop_eq_nil_of_le (by omega)
      rw [this]
      rfl
theorem has_f (l : List ByteArray) (t : ByteArray) (hl : l.length ≤ 100000) (m : Nat) (hm : l.length < m) : lodestarref03_Has.f m l t = some (hasB l t) := by
  have := has_l0 l t hl m 0 (by omega) (by omega)
  simpa [lodestarref03_Has.f] using this
theorem match_l2 (f0 f1 f2 l : List ByteArray) (hl : l.length ≤ 100000) (h1 : f1.length ≤ 100000) : ∀ (m i : Nat), f1.length - i + l.length + 1 < m → i ≤ f1.length →
    lodestarref03_Match.l2 m l (i : Int) f0 f1 f2 = some ((f1.drop i).any (hasB l) || decide (f1.length = 0)) := by
  intro m
  induction m with
  | zero => intro i h0; omega
  | succ m ih =>
    intro i h0 hi
    simp only [lodestarref03_Match.l2]
    by_cases hc : i < f1.length
    · have hd : f1.drop i = f1[i] :: f1.drop (i + 1) := List.drop_eq_getElem_cons hc
      rw [if_pos (by omega), if_pos (by omega), rdOf_get hc, succ_wrap hc (by omega), hd, has_f l _ hl m (by omega)]
      simp only [Option.bind_some]
      cases hx : hasB l f1[i] with
      | true => rw [if_pos rfl]; simp only [List.any_cons, hx, Bool.true_or, Bool.false_or, Bool.not_true, Bool.not_false, Bool.false_and, Bool.true_and]
      | false => rw [if_neg (by simp), ih (i + 1) (by omega) (by omega)]; simp only [List.any_cons, hx, Bool.true_or, Bool.false_or, Bool.not_true, Bool.not_false, Bool.false_and, Bool.true_and]
    · rw [if_neg (by omega)]
      have : f1.drop i = [] := List.drop_eq_nil_of_le (by omega)
      rw [this]
      by_cases h0 : f1.length = 0 <;> simp [h0]
theorem match_l1 (f0 f1 f2 l : List ByteArray) (hl : l.length ≤ 100000) (h1 : f1.length ≤ 100000) (h2 : f2.length ≤ 100000) : ∀ (m i : Nat), f2.length - i + f1.length + l.length + 2 < m → i ≤ f2.length →
    lodestarref03_Match.l1 m l (i : Int) f0 f1 f2 = some (!(f2.drop i).any (hasB l) && (f1.any (hasB l) || decide (f1.length = 0))) := by
  intro m
  induction m with
  | zero => intro i h0; omega
  | succ m ih =>
    intro i h0 hi
    simp only [lodestarref03_Match.l1]
    by_cases hc : i < f2.length
    · have hd : f2.drop i = f2[i] :: f2.drop (i + 1) := List.drop_eq_getElem_cons hc
      rw [if_pos (by omega), if_pos (by omega), rdOf_get hc, succ_wrap hc (by omega), hd, has_f l _ hl m (by omega)]
      simp only [Option.bind_some]
      cases hx : hasB l f2[i] with
      | true => rw [if_pos rfl]; simp only [List.any_cons, hx, Bool.true_or, Bool.false_or, Bool.not_true, Bool.not_false, Bool.false_and, Bool.true_and]
      | false => rw [if_neg (by simp), ih (i + 1) (by omega) (by omega)]; simp only [List.any_cons, hx, Bool.true_or, Bool.false_or, Bool.not_true, Bool.not_false, Bool.false_and, Bool.true_and]
    · rw [if_neg (by omega)]
      have : f2.drop i = [] := List.drop_eq_nil_of_le (by omega)
      rw [this]
      have h := match_l2 f0 f1 f2 l hl h1 m 0 (by omega) (by omega)
      rw [show ((0 : Nat) : Int) = 0 from rfl] at h
      rw [h]
      simp
theorem match_l0 (f0 f1 f2 l : List ByteArray) (hl : l.length ≤ 100000) (h0' : f0.length ≤ 100000) (h1 : f1.length ≤ 100000) (h2 : f2.length ≤ 100000) : ∀ (m i : Nat), f0.length - i + f2.length + f1.length + l.length + 3 < m → i ≤ f0.length →
    lodestarref03_Match.l0 m l (i : Int) f0 f1 f2 = some (!(f0.drop i).any (fun t => !hasB l t) && (!f2.any (hasB l) && (f1.any (hasB l) || decide (f1.length = 0)))) := by
  intro m
  induction m with
  | zero => intro i h0; omega
  | succ m ih =>
    intro i h0 hi
    simp only [lodestarref03_Match.l0]
    by_cases hc : i < f0.length
    · have hd : f0.drop i = f0[i] :: f0.drop (i + 1) := List.drop_eq_getElem_cons hc
      rw [if_pos (by omega), if_pos (by omega), rdOf_get hc, succ_wrap hc (by omega), hd, has_f l _ hl m (by omega)]
      simp only [Option.bind_some]
      cases hx : hasB l f0[i] with
      | true => rw [if_pos rfl, ih (i + 1) (by omega) (by omega)]; simp only [List.any_cons, hx, Bool.true_or, Bool.false_or, Bool.not_true, Bool.not_false, Bool.false_and, Bool.true_and]
      | false => rw [if_neg (by simp)]; simp only [List.any_cons, hx, Bool.true_or, Bool.false_or, Bool.not_true, Bool.not_false, Bool.false_and, Bool.true_and]
    · rw [if_neg (by omega)]
      have : f0.drop i = [] := List.drop_eq_nil_of_le (by omega)
      rw [this]
      have h := match_l1 f0 f1 f2 l hl h1 h2 m 0 (by omega) (by omega)
      rw [show ((0 : Nat) : Int) = 0 from rfl] at h
      rw [h]
      simp
theorem match_f (f0 f1 f2 l : List ByteArray) (hl : l.length ≤ 100000) (h0 : f0.length ≤ 100000) (h1 : f1.length ≤ 100000) (h2 : f2.length ≤ 100000) (m : Nat) (hm : 500000 ≤ m) : lodestarref03_Match.f m f0 f1 f2 l = some (matchB f0 f1 f2 l) := by
  have h := match_l0 f0 f1 f2 l hl h0 h1 h2 m 0 (by omega) (by omega)
  unfold lodestarref03_Match.f
  rw [show ((0 : Nat) : Int) = 0 from rfl] at h
  rw [h, List.drop_zero]
  unfold matchB
  congr 1
  cases f0.any (fun t => !hasB l t) <;> cases f2.any (hasB l) <;> cases f1.any (hasB l) <;> cases decide (f1.length = 0) <;> rfl
/-! ### great -/
theorem mn_nat (x : Nat) : 0 ≤ mn (x : Int) 20000 ∧ mn (x : Int) 20000 ≤ 20000 ∧ (mn (x : Int) 20000 < 20000 → (x : Int) = mn (x : Int) 20000) := by unfold mn; omega
theorem tgreat_l0 (l : List ByteArray) : ∀ (m i : Nat) (n : Int), 20001 - i < m → (i : Int) ≤ n → n ≤ 60000 → ∃ r, (∀ m', m ≤ m' → lodestarref03_Great.l0 m' l n (i : Int) = some r) ∧ (r = false → l.length ≤ 300) := by
  intro m
  induction m with
  | zero => intro i n h0; omega
  | succ m ih =>
    intro i n h0 hi hn
    by_cases hc : i < l.length
    · by_cases h2 : n < 20000
      · obtain ⟨b0, b1, _⟩ := mn_nat (rdOf ByteArray.empty l (i : Int)).size
        have e1 : wrap64 (n + 1) = n + 1 := Tk.wrap_small (by omega) (by omega)
        have e2 : wrap64 (n + 1 + mn ((rdOf ByteArray.empty l (i : Int)).size : Int) 20000) = n + 1 + mn ((rdOf ByteArray.empty l (i : Int)).size : Int) 20000 := Tk.wrap_small (by omega) (by omega)
        have e3 : wrap64 ((i : Int) + 1) = ((i + 1 : Nat) : Int) := succ_wrap (n := 20000) (by omega) (by omega)
        obtain ⟨r, hr, hf⟩ := ih (i + 1) (n + 1 + mn ((rdOf ByteArray.empty l (i : Int)).size : Int) 20000) (by omega) (by omega) (by omega)
        refine ⟨r, fun m' hm' => ?_, hf⟩
        obtain ⟨k, rfl⟩ : ∃ k, m' = k + 1 := ⟨m' - 1, by omega⟩
        simp only [lodestarref03_Great.l0]
        rw [if_pos (by omega), if_pos h2, if_pos (by omega), e1, e2, e3]
        exact hr k (by omega)
      · refine ⟨true, fun m' hm' => ?_, fun h => by cases h⟩
        obtain ⟨k, rfl⟩ : ∃ k, m' = k + 1 := ⟨m' - 1, by omega⟩
        simp only [lodestarref03_Great.l0]
        rw [if_pos (by omega), if_neg h2, if_pos (by omega)]
    · by_cases h2 : n ≥ 20000
      · refine ⟨true, fun m' hm' => ?_, fun h => by cases h⟩
        obtain ⟨k, rfl⟩ : ∃ k, m' = k + 1 := ⟨m' - 1, by omega⟩
        simp only [lodestarref03_Great.l0]
        rw [if_neg (by omega), if_pos h2]
      · refine ⟨decide ((l.length : Int) > 300), fun m' hm' => ?_, fun h => by have := of_decide_eq_false h; omega⟩
        obtain ⟨k, rfl⟩ : ∃ k, m' = k + 1 := ⟨m' - 1, by omega⟩
        simp only [lodestarref03_Great.l0]
        rw [if_neg (by omega), if_neg h2]
theorem tgreat_f (l : List ByteArray) : ∃ r, (∀ m, 30000 ≤ m → lodestarref03_Great.f m l = some r) ∧ (r = false → l.length ≤ 300) := by
  obtain ⟨r, h1, h2⟩ := tgreat_l0 l 30000 0 0 (by omega) (by omega) (by omega)
  exact ⟨r, fun m hm => by unfold lodestarref03_Great.f; exact h1 m hm, h2⟩
theorem rdI_get {l : List It} {i : Nat} (h : i < l.length) : rd_T59 l (i : Int) = l[i] := by simp [rd_T59, List.getD_eq_getElem?_getD, List.getElem?_eq_getElem h]
theorem great_l0 (l : List It) (f0 f1 f2 : List ByteArray) : ∀ (m i : Nat) (n : Int), 2 * (20001 - i) + 30002 < m → (i : Int) ≤ n → n ≤ 60000 → i ≤ l.length → (∀ x ∈ l.take i, x.f2.length ≤ 300 ∧ mn (x.f1.length : Int) 20000 ≤ n) →
    ∃ r, (∀ m', m ≤ m' → lodestarref10_Great.l0 m' l n (i : Int) f0 f1 f2 = some r) ∧ (r = false → l.length ≤ 300 ∧ f0.length ≤ 300 ∧ f1.length ≤ 300 ∧ f2.length ≤ 300 ∧ ∀ x ∈ l, x.f1.length < 20000 ∧ x.f2.length ≤ 300) := by
  intro m
  induction m using Nat.strongRecOn with
  | _ m ih =>
    intro i n h0 hi hn hil hx
    obtain ⟨k, rfl⟩ : ∃ k, m = k + 2 := ⟨m - 2, by omega⟩
    by_cases hc : i < l.length ∧ n < 20000
    · obtain ⟨hc, h2⟩ := hc
      obtain ⟨rg, hg, hgf⟩ := tgreat_f (rd_T59 l (i : Int)).f2
      have step : ∀ m', k + 2 ≤ m' → ∃ j, m' = j + 2 ∧ lodestarref10_Great.l0 m' l n (i : Int) f0 f1 f2 = (if rg = true then some true else lodestarref10_Great.l0 j l (wrap64 ((wrap64 (n + 1)) + (mn (((rd_T59 l (i : Int)).f1).length : Int) 20000))) (wrap64 ((i : Int) + 1)) f0 f1 f2) := by
        intro m' hm'
        obtain ⟨j, rfl⟩ : ∃ j, m' = j + 2 := ⟨m' - 2, by omega⟩
        refine ⟨j, rfl, ?_⟩
        simp only [lodestarref10_Great.l0, lodestarref10_Great.j1]
        rw [if_pos (by omega), decide_eq_true h2, if_pos rfl, if_pos (by omega), if_pos (by omega), hg j (by omega)]
        rfl
      cases rg with
      | true =>
        refine ⟨true, fun m' hm' => ?_, fun h => by cases h⟩
        obtain ⟨j, _, e⟩ := step m' hm'
        rw [e, if_pos rfl]
      | false =>
        obtain ⟨b0, b1, b2⟩ := mn_nat ((rd_T59 l (i : Int)).f1).length
        have e1 : wrap64 (n + 1) = n + 1 := Tk.wrap_small (by omega) (by omega)
        have e2 : wrap64 (n + 1 + mn (((rd_T59 l (i : Int)).f1).length : Int) 20000) = n + 1 + mn (((rd_T59 l (i : Int)).f1).length : Int) 20000 := Tk.wrap_small (by omega) (by omega)
        have e3 : wrap64 ((i : Int) + 1) = ((i + 1 : Nat) : Int) := succ_wrap (n := 20000) (by omega) (by omega)
        obtain ⟨r, hr, hf⟩ := ih k (by omega) (i + 1) (n + 1 + mn (((rd_T59 l (i : Int)).f1).length : Int) 20000) (by omega) (by omega) (by omega) (by omega) (fun x hxm => by
          rw [List.take_succ_eq_append_getElem hc] at hxm
          rcases List.mem_append.1 hxm with hxm | hxm
          · have := hx x hxm; exact ⟨this.1, by omega⟩
          · rw [List.mem_singleton] at hxm
            subst hxm
            have := hgf rfl
            rw [rdI_get hc] at this b0 b1 ⊢
            exact ⟨this, by omega⟩)
        refine ⟨r, fun m' hm' => ?_, hf⟩
        obtain ⟨j, hj, e⟩ := step m' hm'
        rw [e, if_neg (by simp), e1, e2, e3]
        exact hr j (by omega)
    · obtain ⟨r0, g0, q0⟩ := tgreat_f f0
      obtain ⟨r1, g1, q1⟩ := tgreat_f f1
      obtain ⟨r2, g2, q2⟩ := tgreat_f f2
      refine ⟨if n ≥ 20000 then true else if (l.length : Int) > 300 then true else (r0 || r1 || r2), fun m' hm' => ?_, fun h => ?_⟩
      · obtain ⟨j, rfl⟩ : ∃ j, m' = j + 2 := ⟨m' - 2, by omega⟩
        have e : lodestarref10_Great.l0 (j + 2) l n (i : Int) f0 f1 f2 = lodestarref10_Great.j1 (j + 1) l n (i : Int) false f0 f1 f2 := by
          simp only [lodestarref10_Great.l0]
          by_cases hi2 : i < l.length
          · rw [if_pos (by omega), decide_eq_false (by omega)]
          · rw [if_neg (by omega)]
        rw [e]
        simp only [lodestarref10_Great.j1]
        rw [if_neg (by simp), g0 j (by omega), g1 j (by omega), g2 j (by omega)]
        by_cases h2 : n ≥ 20000
        · rw [if_pos h2, if_pos h2]
        · rw [if_neg h2, if_neg h2]
          by_cases h3 : (l.length : Int) > 300
          · rw [if_pos h3, if_pos h3]
          · rw [if_neg h3, if_neg h3]
            cases r0 <;> cases r1 <;> cases r2 <;> rfl
      · by_cases h2 : n ≥ 20000
        · rw [if_pos h2] at h; cases h
        · rw [if_neg h2] at h
          by_cases h3 : (l.length : Int) > 300
          · rw [if_pos h3] at h; cases h
          · rw [if_neg h3] at h
            have hii : i = l.length := by omega
            subst hii
            rw [List.take_length] at hx
            cases r0 <;> cases r1 <;> cases r2 <;> first | (cases h; done) | skip
            exact ⟨by omega, q0 rfl, q1 rfl, q2 rfl, fun x hxm => by
              obtain ⟨u1, u2⟩ := hx x hxm
              obtain ⟨b0, b1, b2⟩ := mn_nat x.f1.length
              have := b2 (by omega)
              exact ⟨by omega, u1⟩⟩
theorem great_f (l : List It) (f0 f1 f2 : List ByteArray) : ∃ r, lodestarref10_Great.f 100000 l f0 f1 f2 = some r ∧ (r = false → l.length ≤ 300 ∧ f0.length ≤ 300 ∧ f1.length ≤ 300 ∧ f2.length ≤ 300 ∧ ∀ x ∈ l, x.f1.length < 20000 ∧ x.f2.length ≤ 300) := by
  obtain ⟨r, h1, h2⟩ := great_l0 l f0 f1 f2 100000 0 0 (by omega) (by omega) (by omega) (by omega) (fun x hx => by simp at hx)
  exact ⟨r, by unfold lodestarref10_Great.f; exact h1 100000 (Nat.le_refl _), h2⟩
/-! ### rank, behind -/
theorem sort_snoc (A : List H) (h : H) : intoL (sortH A) h = sortH (A ++ [h]) := into_sort A h
theorem rank_l0 (a : Ask) (l : List It) (hF : Fine a l) : ∀ (m i : Nat), l.length - i + a.q.length + 600000 < m → i ≤ l.length →
    lodestarref10_Rank.l0 m a.m l a.q (sortH (a.hits (l.take i))) (i : Int) a.f0 a.f1 a.f2 = some (sortH (a.hits l)) := by
  intro m
  induction m with
  | zero => intro i h0; omega
  | succ m ih =>
    intro i h0 hi
    simp only [lodestarref10_Rank.l0]
    by_cases hc : i < l.length
    · have hn := hF.n
      have hx := hF.x l[i] (List.getElem_mem hc)
      have hlen := (a.hits_len (l := l.take i) (by rw [List.length_take]; omega))
      rw [if_pos (by omega), if_pos (by omega), rdI_get hc, succ_wrap hc (by omega), rdist_f a.m hF.m0 a.q l[i].f1 m (by omega), match_f a.f0 a.f1 a.f2 l[i].f2 hx.2 hF.f0 hF.f1 hF.f2 m (by omega)]
      simp only [Option.bind_some]
      have ht := a.hits_take l i l[i] (List.getElem?_eq_getElem hc)
      have hin := ih (i + 1) (by omega) (by omega)
      rw [ht] at hin
      cases hd : (dist a.m a.q l[i].f1).2 with
      | false =>
        rw [if_neg (by simp)]
        have hw : a.wants l[i] = false := by unfold Ask.wants Ask.dist; rw [hd]; rfl
        rw [hw] at hin
        simpa using hin
      | true =>
        rw [if_pos rfl]
        cases hm : matchB a.f0 a.f1 a.f2 l[i].f2 with
        | false =>
          rw [if_neg (by simp)]
          have hw : a.wants l[i] = false := by unfold Ask.wants Ask.dist; rw [hm, Bool.and_false]
          rw [hw] at hin
          simpa using hin
        | true =>
          rw [if_pos rfl]
          have hw : a.wants l[i] = true := by unfold Ask.wants Ask.dist; rw [hd, hm]; rfl
          rw [hw, if_pos rfl, ← sort_snoc] at hin
          have hi2 := into_mono (sortH (a.hits (l.take i))) (a.hit l[i]) (by rw [sortH_len]; omega) m (by rw [sortH_len]; omega)
          have e : lodestarref02_Into.f m (sortH (a.hits (l.take i))) (dist a.m a.q l[i].f1).1 l[i].f0 = some (intoL (sortH (a.hits (l.take i))) (a.hit l[i])) := hi2
          rw [e]
          simp only [Option.bind_some]
          exact hin
    · rw [if_neg (by omega), List.take_of_length_le (by omega)]
theorem rank_f (a : Ask) (l : List It) (hF : Fine a l) : lodestarref10_Rank.f (a.q.length + 700000) a.m l a.q a.f0 a.f1 a.f2 = some (sortH (a.hits l)) := by
  have h := rank_l0 a l hF (a.q.length + 700000) 0 (by have := hF.n; omega) (by omega)
  unfold lodestarref10_Rank.f
  rw [List.take_zero] at h
  have e : sortH (a.hits []) = [] := by simp [Ask.hits, sortH_nil]
  rw [e] at h
  exact h
theorem less_f (a b : H) : lodestarref02_Less.f a.f0 a.f1 b.f0 b.f1 = some (ltH a b) := by
  unfold lodestarref02_Less.f ltH
  by_cases hq : a.f0 = b.f0
  · rw [if_pos hq, hq]; simp
  · rw [if_neg hq]; simp [hq]
theorem behind_l0 (l : List H) (last : H) (hl : l.length ≤ 100000) : ∀ (m i : Nat), l.length - i < m → i ≤ l.length →
    lodestarref10_Behind.l0 m l ((l.take i).filter (ltH last)) (i : Int) last.f0 last.f1 = some (l.filter (ltH last)) := by
  intro m
  induction m with
  | zero => intro i h0; omega
  | succ m ih =>
    intro i h0 hi
    simp only [lodestarref10_Behind.l0]
    by_cases hc : i < l.length
    · have hin := ih (i + 1) (by omega) (by omega)
      rw [List.take_succ_eq_append_getElem hc, List.filter_append] at hin
      rw [if_pos (by omega), if_pos (by omega), rd_get hc, succ_wrap hc (by omega), less_f]
      simp only [Option.bind_some]
      have hlen : ((l.take i).filter (ltH last)).length < 8796093022208 := by have := List.length_filter_le (ltH last) (l.take i); rw [List.length_take] at this; omega
      cases hlt : ltH last l[i] with
      | true =>
        rw [if_pos rfl, if_pos hlen]
        simpa [List.filter_cons, hlt] using hin
      | false =>
        rw [if_neg (by simp)]
        simpa [List.filter_cons, hlt] using hin
    · rw [if_neg (by omega), List.take_of_length_le (by omega)]
theorem behind_f (l : List H) (last : H) (hl : l.length ≤ 100000) : lodestarref10_Behind.f (l.length + 1) l last.f0 last.f1 = some (l.filter (ltH last)) := by
  have h := behind_l0 l last hl (l.length + 1) 0 (by omega) (by omega)
  simpa [lodestarref10_Behind.f] using h
theorem first10_f (l : List H) (k : Int) (hl : l.length ≤ 1000000) : lodestarref10_First.f (l.length + 1) l k = some (l.take (min k 256).toNat) := by
  unfold lodestarref10_First.f
  have e : mn k 256 = min k 256 := by unfold mn; omega
  rw [e, first_f l _ hl]
  rfl
end Go.Proofs.Ytchiobhklbefjaa.Fl
namespace Go.Proofs.Ytchiobhklbefjaa.Fl
open Go.RowKit Go.Proofs.YtchiobhklbefjaaW.PrintWords Go.Proofs.YtchiobhklbefjaaW.PrintLast Go.Proofs.YtchiobhklbefjaaW.PrintMore Go.Proofs.Ytchiobhklbefjaa.Tk Go.Proofs.Ytchiobhklbefjaa.Q
set_option linter.unusedVariables false
set_option linter.unusedSimpArgs false
theorem rrank_calls (p : Where) (a : Ask) (l : List It) (w : World) (hL : Lies w p a l) (hF : Fine a l) :
    Calls Try.prog 37 #[.int .i64 a.m, p.vl l, p.vq a, p.vf a] w fun e w' => (∃ v, e = .returned v ∧ OwnH w' w.heap.size v (sortH (a.hits l))) ∧ Below w.heap.size w w' :=
  (lodestarref10_Rank.calls _ a.m p.A1 p.c1 l p.A2 p.c2 a.q p.F0 p.d0 a.f0 p.F1 p.d1 a.f1 p.F2 p.d2 a.f2 _ w hL.k1 hL.h1 hL.k2 hL.h2 hL.g0 hL.b0 hL.g1 hL.b1 hL.g2 hL.b2 (rank_f a l hF)).mono fun e w' ⟨v, he, hv, hb⟩ => ⟨⟨v, he, own_of_R hv⟩, hb⟩
theorem rgreat_calls (p : Where) (a : Ask) (l : List It) (w : World) (hL : Lies w p a l) (hm : 0 ≤ a.m ∧ a.m ≤ 255) :
    ∃ r, (r = false → Fine a l) ∧ ∀ w1, Below w.heap.size w w1 → Calls Try.prog 36 #[p.vl l, p.vf a] w1 fun e w' => e = .returned (.bool r) ∧ Below w1.heap.size w1 w' := by
  obtain ⟨r, h1, h2⟩ := great_f l a.f0 a.f1 a.f2
  refine ⟨r, fun h => ?_, fun w1 hb => ?_⟩
  · obtain ⟨b0, b1, b2, b3, b4⟩ := h2 h
    exact ⟨hm.1, hm.2, by omega, by omega, by omega, b0, fun x hx => by have := b4 x hx; omega⟩
  · have h := hL.below hb
    exact lodestarref10_Great.calls _ p.A1 p.c1 l p.F0 p.d0 a.f0 p.F1 p.d1 a.f1 p.F2 p.d2 a.f2 r w1 h.k1 h.h1 h.g0 h.b0 h.g1 h.b1 h.g2 h.b2 h1
theorem rbehind_own (b : Nat) (v : Value) (L : List H) (last : H) (w : World) (h : OwnH w b v L) (hl : L.length ≤ 100000) :
    Calls Try.prog 42 #[v, .agg #[.int .i64 last.f0, .int .u32 last.f1]] w fun e w' => (∃ v, e = .returned v ∧ OwnH w' w.heap.size v (L.filter (ltH last))) ∧ Below w.heap.size w w' := by
  obtain ⟨ao, ca, rfl, hr⟩ := h.reads
  exact (lodestarref10_Behind.calls _ ao ca L last.f0 last.f1 _ w (hr.C (by omega)) hr.1 (behind_f L last hl)).mono fun e w' ⟨v, he, hv, hb⟩ => ⟨⟨v, he, own_of_R hv⟩, hb⟩
theorem rfirst10_own (b : Nat) (v : Value) (L : List H) (k : Int) (w : World) (h : OwnH w b v L) (hl : L.length ≤ 1000000) :
    Calls Try.prog 41 #[v, .int .i64 k] w fun e w' => (∃ v, e = .returned v ∧ OwnH w' w.heap.size v (L.take (min k 256).toNat)) ∧ Below w.heap.size w w' := by
  obtain ⟨ao, ca, rfl, hr⟩ := h.reads
  exact (lodestarref10_First.calls _ ao ca L k _ w (hr.C hl) hr.1 (first10_f L k hl)).mono fun e w' ⟨v, he, hv, hb⟩ => ⟨⟨v, he, own_of_R hv⟩, hb⟩
/-! ### the laws' own example -/
theorem C_nil {α : Type} (d : Kd α) (w : World) : Kd.C d w none 0 [] := ⟨rfl, by simp, fun h => absurd h (by simp)⟩
theorem int_row {w : World} {c : Nat} {t : TypeId} (xs : List Int) (hl : xs.length ≤ 1000) (h : w.heap[c]? = some (.cells (xs.map (Value.int .i32)).toArray t (0, 0))) : Kd.C (Kd.int .i32) w (some ⟨c, 0, none⟩) xs.length xs := by
  refine ⟨rfl, by omega, fun _ => ⟨_, rfl, fun j p hj => ⟨[.int .i32 p], rfl, rfl, fun i u hu => ?_⟩⟩⟩
  match i, hu with
  | 0, hu =>
    rw [add_plain, blk_cell h, List.getElem?_toArray]
    have e : j * (Kd.int .i32).sz + 0 = j := by show j * 1 + 0 = j; omega
    rw [e, List.getElem?_map, hj]
    exact hu
/-- The example's items: blocks b to b + 3; its vector: block c. -/
structure Stage (w : World) (b c : Nat) : Prop where
  x0 : w.heap[b]? = some (.cells #[.int .i32 0] 21 (0, 0))
  x1 : w.heap[b + 1]? = some (.cells #[.int .i32 3] 21 (0, 0))
  x2 : w.heap[b + 2]? = some (.cells #[.int .i32 1] 21 (0, 0))
  l : w.heap[b + 3]? = some (.cells #[.int .u32 1, .slice (some ⟨b, 0, none⟩) 1 1, .slice none 0 0, .int .u32 2, .slice (some ⟨b + 1, 0, none⟩) 1 1, .slice none 0 0, .int .u32 3, .slice (some ⟨b + 2, 0, none⟩) 1 1, .slice none 0 0] 59 (0, 0))
  q : w.heap[c]? = some (.cells #[.int .i32 1] 21 (0, 0))
abbrev exL : List It := [⟨1, [0], []⟩, ⟨2, [3], []⟩, ⟨3, [1], []⟩]
abbrev exA : Ask := ⟨0, [1], [], [], []⟩
abbrev exP (b c : Nat) : Where := ⟨some ⟨b + 3, 0, none⟩, 3, some ⟨c, 0, none⟩, 1, none, 0, none, 0, none, 0⟩
theorem Stage.item {w : World} {b c : Nat} (h : Stage w b c) (j : Nat) (p : It) (hj : exL[j]? = some p) : ∃ cs, cs.length = 3 ∧ k59.K w p cs ∧ ∀ i u, cs[i]? = some u → w.cell? ((⟨b + 3, 0, none⟩ : Addr).add (j * 3 + i)) = some u := by
  have key : ∀ (x : Nat) (i j' : Nat) (z : Int) (hx : w.heap[x]? = some (.cells #[.int .i32 z] 21 (0, 0))) (hc : ∀ i' u, ([.int .u32 (i : Int), .slice (some ⟨x, 0, none⟩) 1 1, .slice none 0 0] : List Value)[i']? = some u → w.cell? ((⟨b + 3, 0, none⟩ : Addr).add (j' * 3 + i')) = some u), ∃ cs, cs.length = 3 ∧ k59.K w (⟨i, [z], []⟩ : It) cs ∧ ∀ i u, cs[i]? = some u → w.cell? ((⟨b + 3, 0, none⟩ : Addr).add (j' * 3 + i)) = some u := by
    intro x i j' z hx hc
    exact ⟨[.int .u32 (i : Int), .slice (some ⟨x, 0, none⟩) 1 1, .slice none 0 0], rfl, k59_mk w (⟨i, [z], []⟩ : It) (c1 := 1) (by simp) (int_row [z] (by simp) hx) (c2 := 0) (by simp) (C_nil _ _), hc⟩
  match j, hj with
  | 0, hj =>
    cases hj
    exact key b 1 0 0 h.x0 (fun i u hu => by
      rw [add_plain, blk_cell h.l]
      match i, hu with
      | 0, hu => exact hu
      | 1, hu => exact hu
      | 2, hu => exact hu)
  | 1, hj =>
    cases hj
    exact key (b + 1) 2 1 3 h.x1 (fun i u hu => by
      rw [add_plain, blk_cell h.l]
      match i, hu with
      | 0, hu => exact hu
      | 1, hu => exact hu
      | 2, hu => exact hu)
  | 2, hj =>
    cases hj
    exact key (b + 2) 3 2 1 h.x2 (fun i u hu => by
      rw [add_plain, blk_cell h.l]
      match i, hu with
      | 0, hu => exact hu
      | 1, hu => exact hu
      | 2, hu => exact hu)
theorem Stage.lies {w : World} {b c : Nat} (h : Stage w b c) : Lies w (exP b c) exA exL :=
  ⟨⟨rfl, by simp, fun _ => ⟨_, rfl, fun j p hj => h.item j p hj⟩⟩, by simp, int_row [1] (by simp) h.q, by simp, C_nil _ _, by simp, C_nil _ _, by simp, C_nil _ _, by simp⟩
theorem exFine : Fine exA exL := ⟨by decide, by decide, by simp, by simp, by simp, by simp, by simp⟩
theorem exHits : exA.hits exL = [⟨1, 1⟩, ⟨4, 2⟩, ⟨0, 3⟩] := by rfl
theorem exFound : putAll (clamp 2) (exA.hits exL) = [⟨0, 3⟩, ⟨1, 1⟩] := by rw [exHits]; rfl
theorem exBehind : putAll (clamp 2) ((exA.hits exL).filter (ltH ⟨1, 1⟩)) = [⟨4, 2⟩] := by rw [exHits]; rfl
theorem Stage.below {w w1 : World} {b c : Nat} (h : Stage w b c) (hb : Below w.heap.size w w1) : Stage w1 b c :=
  ⟨(hb.block _ (blk_lt h.x0)).trans h.x0, (hb.block _ (blk_lt h.x1)).trans h.x1, (hb.block _ (blk_lt h.x2)).trans h.x2, (hb.block _ (blk_lt h.l)).trans h.l, (hb.block _ (blk_lt h.q)).trans h.q⟩
theorem ex_search (b c : Nat) (w : World) (h : Stage w b c) :
    Calls Try.prog 39 #[.int .u8 0, .slice (some ⟨b + 3, 0, none⟩) 3 3, .slice (some ⟨c, 0, none⟩) 1 1, .agg #[.slice none 0 0, .slice none 0 0, .slice none 0 0], .int .i64 2] w fun e w' => (∃ v, e = .returned v ∧ OwnH w' w.heap.size v [⟨0, 3⟩, ⟨1, 1⟩]) ∧ Below w.heap.size w w' := by
  have := search_calls (exP b c) exA exL 2 w h.lies exFine
  rw [exFound] at this
  exact this
theorem ex_after (b c : Nat) (w : World) (h : Stage w b c) :
    Calls Try.prog 40 #[.int .u8 0, .slice (some ⟨b + 3, 0, none⟩) 3 3, .slice (some ⟨c, 0, none⟩) 1 1, .agg #[.slice none 0 0, .slice none 0 0, .slice none 0 0], .agg #[.int .i64 1, .int .u32 1], .int .i64 2] w fun e w' => (∃ v, e = .returned v ∧ OwnH w' w.heap.size v [⟨4, 2⟩]) ∧ Below w.heap.size w w' := by
  have := after_calls (exP b c) exA exL ⟨1, 1⟩ 2 w h.lies exFine
  rw [exBehind] at this
  exact this
theorem ex_rank (b c : Nat) (w : World) (h : Stage w b c) :
    Calls Try.prog 38 #[.int .u8 0, .slice (some ⟨b + 3, 0, none⟩) 3 3, .slice (some ⟨c, 0, none⟩) 1 1, .agg #[.slice none 0 0, .slice none 0 0, .slice none 0 0]] w fun e w' => (∃ A c, e = .returned (.slice A 3 c)) ∧ Below w.heap.size w w' := by
  refine (rank_calls (exP b c) exA exL w h.lies exFine).mono fun e w' ⟨⟨v, he, hv⟩, hb⟩ => ⟨?_, hb⟩
  obtain ⟨ao, cap, rfl, _⟩ := hv.slice
  rw [sortH_len, exHits] at he
  exact ⟨ao, cap, he⟩
end Go.Proofs.Ytchiobhklbefjaa.Fl
namespace Go.Proofs.Ytchiobhklbefjaa.Fl
open Go.RowKit Go.Proofs.YtchiobhklbefjaaW.PrintWords Go.Proofs.YtchiobhklbefjaaW.PrintLast Go.Proofs.YtchiobhklbefjaaW.PrintMore Go.Proofs.Ytchiobhklbefjaa.Tk Go.Proofs.Ytchiobhklbefjaa.Q
set_option linter.unusedVariables false
set_option linter.unusedSimpArgs false
theorem Stage.next {w w1 : World} {b c : Nat} (h : Stage w b c) (hb : Below w.heap.size w w1) : Stage (w1.alloc (.cells #[.int .i32 1] 21)) b w1.heap.size := by
  have h2 := (h.below hb).below (below_alloc (Below.refl w1.heap.size w1) (.cells #[.int .i32 1] 21))
  exact ⟨h2.x0, h2.x1, h2.x2, h2.l, heap_alloc_new w1 _⟩
theorem stage_new (w : World) : Stage (((((w.alloc (.cells #[.int .i32 0] 21)).alloc (.cells #[.int .i32 3] 21)).alloc (.cells #[.int .i32 1] 21)).alloc (.cells #[.int .u32 1, .slice (some ⟨w.heap.size, 0, none⟩) 1 1, .slice none 0 0, .int .u32 2, .slice (some ⟨w.heap.size + 1, 0, none⟩) 1 1, .slice none 0 0, .int .u32 3, .slice (some ⟨w.heap.size + 1 + 1, 0, none⟩) 1 1, .slice none 0 0] 59)).alloc (.cells #[.int .i32 1] 21)) w.heap.size (w.heap.size + 4) := by
  obtain ⟨w1, h1⟩ : ∃ w1, w.alloc (.cells #[.int .i32 0] 21) = w1 := ⟨_, rfl⟩
  obtain ⟨w2, h2⟩ : ∃ w2, w1.alloc (.cells #[.int .i32 3] 21) = w2 := ⟨_, rfl⟩
  obtain ⟨w3, h3⟩ : ∃ w3, w2.alloc (.cells #[.int .i32 1] 21) = w3 := ⟨_, rfl⟩
  obtain ⟨w4, h4⟩ : ∃ w4, w3.alloc (.cells #[.int .u32 1, .slice (some ⟨w.heap.size, 0, none⟩) 1 1, .slice none 0 0, .int .u32 2, .slice (some ⟨w.heap.size + 1, 0, none⟩) 1 1, .slice none 0 0, .int .u32 3, .slice (some ⟨w.heap.size + 1 + 1, 0, none⟩) 1 1, .slice none 0 0] 59) = w4 := ⟨_, rfl⟩
  obtain ⟨w5, h5⟩ : ∃ w5, w4.alloc (.cells #[.int .i32 1] 21) = w5 := ⟨_, rfl⟩
  have s1 : w1.heap.size = w.heap.size + 1 := by rw [← h1]; exact World.size_alloc _ _
  have s2 : w2.heap.size = w.heap.size + 2 := by rw [← h2, World.size_alloc, s1]
  have s3 : w3.heap.size = w.heap.size + 3 := by rw [← h3, World.size_alloc, s2]
  have s4 : w4.heap.size = w.heap.size + 4 := by rw [← h4, World.size_alloc, s3]
  have g1 := heap_alloc_new w (.cells #[.int .i32 0] 21)
  have g2 := heap_alloc_new w1 (.cells #[.int .i32 3] 21)
  have g3 := heap_alloc_new w2 (.cells #[.int .i32 1] 21)
  have g4 := heap_alloc_new w3 (.cells #[.int .u32 1, .slice (some ⟨w.heap.size, 0, none⟩) 1 1, .slice none 0 0, .int .u32 2, .slice (some ⟨w.heap.size + 1, 0, none⟩) 1 1, .slice none 0 0, .int .u32 3, .slice (some ⟨w.heap.size + 1 + 1, 0, none⟩) 1 1, .slice none 0 0] 59)
  have g5 := heap_alloc_new w4 (.cells #[.int .i32 1] 21)
  rw [h1] at g1; rw [h2, s1] at g2; rw [h3, s2] at g3; rw [h4, s3] at g4; rw [h5, s4] at g5
  have b2 : Below w1.heap.size w1 w2 := by rw [← h2]; exact below_alloc (Below.refl _ _) _
  have b3 : Below w2.heap.size w2 w3 := by rw [← h3]; exact below_alloc (Below.refl _ _) _
  have b4 : Below w3.heap.size w3 w4 := by rw [← h4]; exact below_alloc (Below.refl _ _) _
  have b5 : Below w4.heap.size w4 w5 := by rw [← h5]; exact below_alloc (Below.refl _ _) _
  rw [h1, h2, h3, h4, h5]
  exact ⟨(b5.block _ (by omega)).trans ((b4.block _ (by omega)).trans ((b3.block _ (by omega)).trans ((b2.block _ (by omega)).trans g1))), (b5.block _ (by omega)).trans ((b4.block _ (by omega)).trans ((b3.block _ (by omega)).trans g2)), (b5.block _ (by omega)).trans ((b4.block _ (by omega)).trans g3), (b5.block _ (by omega)).trans g4, g5⟩
theorem ex_lit2 (w : World) : OwnH (w.alloc (.cells #[.int .i64 0, .int .u32 3, .int .i64 1, .int .u32 1] 29)) w.heap.size (.slice (some ⟨w.heap.size, 0, none⟩) 2 2) [⟨0, 3⟩, ⟨1, 1⟩] := own_lit w [⟨0, 3⟩, ⟨1, 1⟩] 2 rfl (by omega)
theorem ex_lit1 (w : World) : OwnH (w.alloc (.cells #[.int .i64 4, .int .u32 2] 29)) w.heap.size (.slice (some ⟨w.heap.size, 0, none⟩) 1 1) [⟨4, 2⟩] := own_lit w [⟨4, 2⟩] 1 rfl (by omega)
theorem stage_alloc {w : World} {b c : Nat} (h : Stage w b c) (o : Obj) : Stage (w.alloc o) b c := h.below (below_alloc (Below.refl _ _) _)
theorem own_alloc {w : World} {b : Nat} {v : Value} {L : List H} (h : OwnH w b v L) (o : Obj) : OwnH (w.alloc o) b v L := h.below (below_alloc (Below.refl _ _) _)
set_option maxHeartbeats 8000000 in
set_option maxRecDepth 100000 in
theorem alive_calls (w : World) : Calls Try.prog 35 #[] w fun e w' => e = .returned (.bool true) ∧ Below w.heap.size w w' := by
  have hu := Try.underlying29
  have HS := Aside0.mk (stage_new w)
  have HB0 := Aside0.mk (bel_alloc (bel_alloc (bel_alloc (bel_alloc (below_alloc (Below.refl w.heap.size w) (.cells #[.int .i32 0] 21)) (.cells #[.int .i32 3] 21)) (.cells #[.int .i32 1] 21)) (.cells #[.int .u32 1, .slice (some ⟨w.heap.size, 0, none⟩) 1 1, .slice none 0 0, .int .u32 2, .slice (some ⟨w.heap.size + 1, 0, none⟩) 1 1, .slice none 0 0, .int .u32 3, .slice (some ⟨w.heap.size + 1 + 1, 0, none⟩) 1 1, .slice none 0 0] 59)) (.cells #[.int .i32 1] 21))
  go_enter Try.func35, Try.ntmps35
  go_wp2_with (first | (go_at_call 39; (with_reducible refine (ex_search _ _ _ HS.out).mono ?_); rintro e w1 ⟨⟨v1, rfl, hv⟩, hb⟩; have HV1 := Aside0.mk hv; have HS1 := Aside0.mk (HS.out.next hb); have HB1 := Aside0.mk (bel_trans HB0.out hb); clear hb hv) | (go_at_call 40; (with_reducible refine (ex_after _ _ _ HS1.out).mono ?_); rintro e w2 ⟨⟨v2, rfl, hv⟩, hb⟩; have HV2 := Aside0.mk hv; have HV12 := Aside0.mk ((own_alloc HV1.out _).below hb); have HS2 := Aside0.mk (HS1.out.below hb); have HB2 := Aside0.mk (bel_trans (bel_alloc HB1.out _) hb); clear hb hv) | (go_at_call 29; (with_reducible refine (rsame_own _ _ _ _ [⟨0, 3⟩, ⟨1, 1⟩] [⟨0, 3⟩, ⟨1, 1⟩] _ rfl (own_alloc HV12.out _) (ex_lit2 w2) (by simp)).mono ?_); rintro e w3 ⟨rfl, hb⟩; have HV23 := Aside0.mk ((own_alloc HV2.out _).below hb); have HS3 := Aside0.mk ((stage_alloc HS2.out _).below hb); have HB3 := Aside0.mk (bel_trans (bel_alloc HB2.out _) hb); clear hb) | (go_at_call 29; (with_reducible refine (rsame_own _ _ _ _ [⟨4, 2⟩] [⟨4, 2⟩] _ rfl (own_alloc HV23.out _) (ex_lit1 w3) (by simp)).mono ?_); rintro e w4 ⟨rfl, hb⟩; have HS4 := Aside0.mk (((stage_alloc HS3.out _).below hb).next (Below.refl _ _)); have HB4 := Aside0.mk (bel_alloc (bel_trans (bel_alloc HB3.out _) hb) (.cells #[.int .i32 1] 21)); clear hb) | (go_at_call 38; (with_reducible refine (ex_rank _ _ _ HS4.out).mono ?_); rintro e w5 ⟨⟨A5, c5, rfl⟩, hb⟩; have HB5 := Aside0.mk (bel_trans HB4.out hb); clear hb))
  go_ret
  exact ⟨rfl, HB5.out⟩
end Go.Proofs.Ytchiobhklbefjaa.Fl
namespace Go.Proofs.Ytchiobhklbefjaa.Fl
open Go.RowKit Go.Proofs.YtchiobhklbefjaaW.PrintWords Go.Proofs.YtchiobhklbefjaaW.PrintLast Go.Proofs.YtchiobhklbefjaaW.PrintMore Go.Proofs.Ytchiobhklbefjaa.Tk Go.Proofs.Ytchiobhklbefjaa.Q
set_option linter.unusedVariables false
set_option linter.unusedSimpArgs false
theorem clamp_first (k : Int) : clamp k = (min k 256).toNat := by unfold clamp; omega
theorem sort_filter (A : List H) (f : H → Bool) : sortH (A.filter f) = (sortH A).filter f :=
  sortH_eq (List.Pairwise.sublist List.filter_sublist (sortH_sorted A)) ((sortH_perm A).filter f)
theorem found_first (A : List H) (k : Int) : putAll (clamp k) A = (sortH A).take (min k 256).toNat := by rw [putAll_least, leastH, clamp_first]
theorem behind_first (A : List H) (last : H) (k : Int) : putAll (clamp k) (A.filter (ltH last)) = ((sortH A).filter (ltH last)).take (min k 256).toNat := by rw [found_first, sort_filter]
/-- A filter in its box. -/
structure FBox (w : World) (b : Nat) (p : Where) (a : Ask) : Prop where
  f0 : w.cell? ⟨b, 0, none⟩ = some (.slice p.F0 a.f0.length p.d0)
  f1 : w.cell? ⟨b, 1, none⟩ = some (.slice p.F1 a.f1.length p.d1)
  f2 : w.cell? ⟨b, 2, none⟩ = some (.slice p.F2 a.f2.length p.d2)
theorem FBox.below {w w1 : World} {b : Nat} {p : Where} {a : Ask} (h : FBox w b p a) (hb : Below w.heap.size w w1) : FBox w1 b p a := ⟨pw_cell_below hb h.f0, pw_cell_below hb h.f1, pw_cell_below hb h.f2⟩
theorem fbox_new (w : World) (p : Where) (a : Ask) : FBox (w.alloc (.cells #[.slice p.F0 a.f0.length p.d0, .slice p.F1 a.f1.length p.d1, .slice p.F2 a.f2.length p.d2] 49)) w.heap.size p a :=
  ⟨by rw [blk_cell (heap_alloc_new w _)]; rfl, by rw [blk_cell (heap_alloc_new w _)]; rfl, by rw [blk_cell (heap_alloc_new w _)]; rfl⟩
/-- A hit in its box. -/
structure HBox (w : World) (b : Nat) (h : H) : Prop where
  n0 : w.cell? ⟨b, 0, none⟩ = some (.int .i64 h.f0)
  n1 : w.cell? ⟨b, 1, none⟩ = some (.int .u32 h.f1)
theorem HBox.below {w w1 : World} {b : Nat} {x : H} (h : HBox w b x) (hb : Below w.heap.size w w1) : HBox w1 b x := ⟨pw_cell_below hb h.n0, pw_cell_below hb h.n1⟩
theorem hbox_new (w : World) (x : H) : HBox (w.alloc (.cells #[.int .i64 x.f0, .int .u32 x.f1] 29)) w.heap.size x :=
  ⟨by rw [blk_cell (heap_alloc_new w _)]; rfl, by rw [blk_cell (heap_alloc_new w _)]; rfl⟩
theorem own_below {w w1 : World} {b : Nat} {v : Value} {L : List H} (h : OwnH w b v L) (hb : Below w.heap.size w w1) : OwnH w1 b v L := h.below hb
theorem hits_small (a : Ask) {l : List It} (hF : Fine a l) : (sortH (a.hits l)).length ≤ 300 := by rw [sortH_len]; exact a.hits_len hF.n
end Go.Proofs.Ytchiobhklbefjaa.Fl
namespace Go.Proofs.Ytchiobhklbefjaa.Fl
open Go.RowKit Go.Proofs.YtchiobhklbefjaaW.PrintWords Go.Proofs.YtchiobhklbefjaaW.PrintLast Go.Proofs.YtchiobhklbefjaaW.PrintMore Go.Proofs.Ytchiobhklbefjaa.Tk Go.Proofs.Ytchiobhklbefjaa.Q
set_option linter.unusedVariables false
set_option linter.unusedSimpArgs false
theorem cells_item : Try.prog.cellsOf 59 = 3 := by kernel_rfl
theorem cells_filter : Try.prog.cellsOf 49 = 3 := by kernel_rfl
theorem cells_i32 : Try.prog.cellsOf 21 = 1 := by kernel_rfl
theorem cells_str : Try.prog.cellsOf 9 = 1 := by kernel_rfl
theorem cells_vec : Try.prog.cellsOf 46 = 1 := by kernel_rfl
theorem cells_tags : Try.prog.cellsOf 47 = 1 := by kernel_rfl
theorem cells_u8 : Try.prog.cellsOf 5 = 1 := by kernel_rfl
abbrev kvec : Kd (List Int) := Kd.slice 21 (Kd.int .i32)
abbrev ktags : Kd (List ByteArray) := Kd.slice 9 Kd.string
abbrev okVec (l : List Int) : Prop := l.length ≤ maxLen ∧ ∀ x ∈ l, (Lit.int .i32 x).wf = true
abbrev okTags (l : List ByteArray) : Prop := l.length ≤ maxLen ∧ ∀ x ∈ l, x.size ≤ maxLen
theorem opens_vec : Frame.Opens Try.prog 46 kvec okVec := Frame.Opens.slice Try.underlying46 cells_i32 (Frame.Opens.int Try.underlying21)
theorem opens_tags : Frame.Opens Try.prog 47 ktags okTags := Frame.Opens.slice Try.underlying47 cells_str (Frame.Opens.string Try.underlying9)
abbrev kitem : Kd (Int × List Int × List ByteArray) := Kd.pair (Kd.int .u32) (Kd.pair kvec ktags)
abbrev okItem (x : Int × List Int × List ByteArray) : Prop := (Lit.int .u32 x.1).wf = true ∧ okVec x.2.1 ∧ okTags x.2.2
set_option maxRecDepth 100000 in
theorem opens_item : Frame.Opens Try.prog 59 kitem okItem :=
  Frame.Opens.struct Try.underlying59 cells_item (Frame.OpensFrom.cons (by rfl) (by rfl) cells_id (Frame.Opens.int Try.underlying27) (Frame.OpensFrom.cons (by rfl) (by rfl) cells_vec opens_vec (Frame.OpensFrom.last (by rfl) (by rfl) cells_tags opens_tags)))
abbrev okItems (l : List (Int × List Int × List ByteArray)) : Prop := l.length ≤ maxLen ∧ ∀ x ∈ l, okItem x
theorem opens_items : Frame.Opens Try.prog 45 (Kd.slice 59 kitem) okItems := Frame.Opens.slice Try.underlying45 cells_item opens_item
abbrev kfilter : Kd (List ByteArray × List ByteArray × List ByteArray) := Kd.pair ktags (Kd.pair ktags ktags)
abbrev okFilter (x : List ByteArray × List ByteArray × List ByteArray) : Prop := okTags x.1 ∧ okTags x.2.1 ∧ okTags x.2.2
set_option maxRecDepth 100000 in
theorem opens_filter : Frame.Opens Try.prog 49 kfilter okFilter :=
  Frame.Opens.struct Try.underlying49 cells_filter (Frame.OpensFrom.cons (by rfl) (by rfl) cells_tags opens_tags (Frame.OpensFrom.cons (by rfl) (by rfl) cells_tags opens_tags (Frame.OpensFrom.last (by rfl) (by rfl) cells_tags opens_tags)))
def ofI (x : Int × List Int × List ByteArray) : It := ⟨x.1, x.2.1, x.2.2⟩
theorem C_map {α β : Type} {d : Kd α} {f : β → α} {g : α → β} (hfg : ∀ x, f (g x) = x) {w : World} {A : Option Addr} {l : List α} (h : Kd.C d w A l.length l) : Kd.C (Kd.iso d f) w A (l.map g).length (l.map g) := by
  obtain ⟨h1, h2, h3⟩ := h
  refine ⟨rfl, by rw [List.length_map]; exact h2, fun h0 => ?_⟩
  rw [List.length_map] at h0
  obtain ⟨ad, e, hc⟩ := h3 h0
  refine ⟨ad, e, fun j p hj => ?_⟩
  rw [List.getElem?_map] at hj
  obtain ⟨q, hq, rfl⟩ := Option.map_eq_some_iff.1 hj
  obtain ⟨cs, c1, c2, c3⟩ := hc j q hq
  exact ⟨cs, c1, by show d.K w (f (g q)) cs; rw [hfg]; exact c2, c3⟩
/-- A slice that is handed in. -/
theorem slice_of {α : Type} {e : Nat} {d : Kd α} {v : Value} {x : List α} {w : World} (s : v = .slice none 0 0 ∨ ∃ a n c, v = .slice (some a) n c) (K : (Kd.slice e d).K w x v.cells.toList) :
    ∃ A c, v = .slice A x.length c ∧ x.length ≤ c ∧ Kd.C d w A x.length x := by
  obtain ⟨A, c, he, hle, hC⟩ := K
  refine ⟨A, c, ?_, hle, hC⟩
  rcases s with rfl | ⟨a, n, cc, rfl⟩
  · simpa [Value.cells] using he
  · simpa [Value.cells] using he
theorem items_of {v : Value} {x : List (Int × List Int × List ByteArray)} {w : World} (s : v = .slice none 0 0 ∨ ∃ a n c, v = .slice (some a) n c) (K : (Kd.slice 59 kitem).K w x v.cells.toList) :
    ∃ A c, v = .slice A (x.map ofI).length c ∧ (x.map ofI).length ≤ c ∧ Kd.C k59 w A (x.map ofI).length (x.map ofI) := by
  obtain ⟨A, c, h1, h2, h3⟩ := slice_of s K
  exact ⟨A, c, by rw [List.length_map]; exact h1, by rw [List.length_map]; exact h2, C_map (g := ofI) (fun x => rfl) h3⟩
theorem filter_of {v : Value} {x : List ByteArray × List ByteArray × List ByteArray} {w : World} (s : ∃ cs, v = .agg cs) (K : kfilter.K w x v.cells.toList) :
    ∃ F0 d0 F1 d1 F2 d2, v = .agg #[.slice F0 x.1.length d0, .slice F1 x.2.1.length d1, .slice F2 x.2.2.length d2] ∧ Kd.C Kd.string w F0 x.1.length x.1 ∧ x.1.length ≤ d0 ∧ Kd.C Kd.string w F1 x.2.1.length x.2.1 ∧ x.2.1.length ≤ d1 ∧ Kd.C Kd.string w F2 x.2.2.length x.2.2 ∧ x.2.2.length ≤ d2 := by
  obtain ⟨cs, rfl⟩ := s
  obtain ⟨c0, c1, h, ⟨F0, d0, rfl, l0, g0⟩, c2, c3, rfl, ⟨F1, d1, rfl, l1, g1⟩, ⟨F2, d2, rfl, l2, g2⟩⟩ := K
  exact ⟨F0, d0, F1, d1, F2, d2, Frame.arg_agg h, g0, l0, g1, l1, g2, l2⟩
theorem hit_of {v : Value} {x : Int × Int} {w : World} (s : ∃ cs, v = .agg cs) (K : kp.K w x v.cells.toList) : v = .agg #[.int .i64 x.1, .int .u32 x.2] := by
  obtain ⟨cs, rfl⟩ := s
  obtain ⟨c0, c1, h, rfl, rfl⟩ := K
  exact Frame.arg_agg h
theorem wf_u8 {m : Int} (h : (Lit.int .u8 m).wf = true) : 0 ≤ m ∧ m ≤ 255 := by simp [Lit.wf, IntKind.min, IntKind.max, IntKind.bits, IntKind.signed] at h; omega
/-- The arguments of a search. -/
theorem lies_of {v1 v2 v3 : Value} {x1 : List (Int × List Int × List ByteArray)} {x2 : List Int} {x3 : List ByteArray × List ByteArray × List ByteArray} {w : World} (m : Int)
    (s1 : v1 = .slice none 0 0 ∨ ∃ a n c, v1 = .slice (some a) n c) (K1 : (Kd.slice 59 kitem).K w x1 v1.cells.toList) (s2 : v2 = .slice none 0 0 ∨ ∃ a n c, v2 = .slice (some a) n c) (K2 : kvec.K w x2 v2.cells.toList) (s3 : ∃ cs, v3 = .agg cs) (K3 : kfilter.K w x3 v3.cells.toList) :
    ∃ p : Where, v1 = p.vl (x1.map ofI) ∧ v2 = p.vq ⟨m, x2, x3.1, x3.2.1, x3.2.2⟩ ∧ v3 = p.vf ⟨m, x2, x3.1, x3.2.1, x3.2.2⟩ ∧ Lies w p ⟨m, x2, x3.1, x3.2.1, x3.2.2⟩ (x1.map ofI) := by
  obtain ⟨A1, c1, e1, h1, k1⟩ := items_of s1 K1
  obtain ⟨A2, c2, e2, h2, k2⟩ := slice_of s2 K2
  obtain ⟨F0, d0, F1, d1, F2, d2, e3, g0, l0, g1, l1, g2, l2⟩ := filter_of s3 K3
  exact ⟨⟨A1, c1, A2, c2, F0, d0, F1, d1, F2, d2⟩, e1, e2, e3, k1, h1, k2, h2, g0, l0, g1, l1, g2, l2⟩
end Go.Proofs.Ytchiobhklbefjaa.Fl
