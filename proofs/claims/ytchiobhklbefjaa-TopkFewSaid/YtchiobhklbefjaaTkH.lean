/- Topk: several selectors side by side. No condition. -/
import Derived.Test.YtchiobhklbefjaaTkG
namespace Go.Proofs.Ytchiobhklbefjaa.Tk
open Go.RowKit Go.Proofs.YtchiobhklbefjaaW.PrintWords Go.Proofs.YtchiobhklbefjaaW.PrintLast Go.Proofs.YtchiobhklbefjaaW.PrintMore Go.Proofs.Ytchiobhklbefjaa.Q
set_option linter.unusedVariables false
set_option linter.unusedSimpArgs false
def Apart (S T : Nat → Prop) : Prop := ∀ i, S i → ¬ T i
theorem Apart.symm {S T : Nat → Prop} (h : Apart S T) : Apart T S := fun i ht hs => h i hs ht
theorem Apart.ext {S T : Nat → Prop} {w w' : World} (h : Apart S T) (ht : ∀ i, T i → i < w.heap.size) : Apart (ext S w w') T := fun i hi hT => hi.elim (fun hs => h i hs hT) (fun hn => by have := ht i hT; omega)
/-- Three selectors. -/
def K3 (w0 w : World) (g1 k1 : Nat) (L1 : List H) (g2 k2 : Nat) (L2 : List H) (g3 k3 : Nat) (L3 : List H) : Prop :=
  ∃ S1 S2 S3, Kept w S1 g1 k1 L1 ∧ Kept w S2 g2 k2 L2 ∧ Kept w S3 g3 k3 L3 ∧ Apart S1 S2 ∧ Apart S2 S3 ∧ Apart S3 S1 ∧ (∀ i, S1 i ∨ S2 i ∨ S3 i → w0.heap.size ≤ i) ∧ Below w0.heap.size w0 w
section
variable {w0 w w' : World} {g1 k1 g2 k2 g3 k3 : Nat} {L1 L2 L3 : List H}
theorem K3.rot (h : K3 w0 w g1 k1 L1 g2 k2 L2 g3 k3 L3) : K3 w0 w g2 k2 L2 g3 k3 L3 g1 k1 L1 := by
  obtain ⟨S1, S2, S3, h1, h2, h3, a, b, c, hn, hb⟩ := h
  exact ⟨S2, S3, S1, h2, h3, h1, b, c, a, fun i hi => hn i (by rcases hi with x | x | x <;> simp [x]), hb⟩
theorem K3.below (h : K3 w0 w g1 k1 L1 g2 k2 L2 g3 k3 L3) (hb : Below w.heap.size w w') : K3 w0 w' g1 k1 L1 g2 k2 L2 g3 k3 L3 := by
  obtain ⟨S1, S2, S3, h1, h2, h3, a, b, c, hn, hb0⟩ := h
  exact ⟨S1, S2, S3, h1.below hb, h2.below hb, h3.below hb, a, b, c, hn, bel_trans hb0 hb⟩
theorem K3.at0 (h : K3 w0 w g1 k1 L1 g2 k2 L2 g3 k3 L3) : Below w0.heap.size w0 w := by
  obtain ⟨S1, S2, S3, h1, h2, h3, a, b, c, hn, hb0⟩ := h
  exact hb0
theorem K3.len (h : K3 w0 w g1 k1 L1 g2 k2 L2 g3 k3 L3) : L1.length ≤ k1 ∧ k1 ≤ 256 := by
  obtain ⟨S1, S2, S3, h1, h2, h3, a, b, c, hn, hb0⟩ := h
  exact h1.len
theorem K3.put (h : K3 w0 w g1 k1 L1 g2 k2 L2 g3 k3 L3) (d i : Int) :
    Calls Try.prog 25 #[.pointer (some ⟨g1, 0, none⟩), .agg #[.int .i64 d, .int .u32 i]] w fun e w' => e = .returned (.tuple #[]) ∧ K3 w0 w' g1 k1 (putK k1 L1 ⟨d, i⟩) g2 k2 L2 g3 k3 L3 := by
  obtain ⟨S1, S2, S3, h1, h2, h3, a, b, c, hn, hb0⟩ := h
  refine (kput_calls S1 g1 k1 L1 d i w h1).mono fun e w' ⟨he, hO, hK⟩ => ⟨he, ext S1 w w', S2, S3, hK, h2.keep hO a.symm, h3.keep hO c, a.ext h2.lt, b, (Apart.ext c.symm h3.lt).symm, fun j hj => ?_, hO.below_of hb0 (fun j hj => hn j (.inl hj))⟩
  rcases hj with hj | hj | hj
  · exact ext_new (fun j hj => hn j (.inl hj)) hb0.size j hj
  · exact hn j (.inr (.inl hj))
  · exact hn j (.inr (.inr hj))
theorem K3.put2 (h : K3 w0 w g1 k1 L1 g2 k2 L2 g3 k3 L3) (d i : Int) :
    Calls Try.prog 25 #[.pointer (some ⟨g2, 0, none⟩), .agg #[.int .i64 d, .int .u32 i]] w fun e w' => e = .returned (.tuple #[]) ∧ K3 w0 w' g1 k1 L1 g2 k2 (putK k2 L2 ⟨d, i⟩) g3 k3 L3 :=
  (h.rot.put d i).mono fun e w' ⟨he, hK⟩ => ⟨he, hK.rot.rot⟩
theorem K3.put3 (h : K3 w0 w g1 k1 L1 g2 k2 L2 g3 k3 L3) (d i : Int) :
    Calls Try.prog 25 #[.pointer (some ⟨g3, 0, none⟩), .agg #[.int .i64 d, .int .u32 i]] w fun e w' => e = .returned (.tuple #[]) ∧ K3 w0 w' g1 k1 L1 g2 k2 L2 g3 k3 (putK k3 L3 ⟨d, i⟩) :=
  (h.rot.rot.put d i).mono fun e w' ⟨he, hK⟩ => ⟨he, hK.rot⟩
theorem K3.list (h : K3 w0 w g1 k1 L1 g2 k2 L2 g3 k3 L3) :
    Calls Try.prog 30 #[.pointer (some ⟨g1, 0, none⟩)] w fun e w' => (∃ v, e = .returned v ∧ OwnH w' w.heap.size v L1) ∧ Below w.heap.size w w' := by
  obtain ⟨S1, S2, S3, h1, h2, h3, a, b, c, hn, hb0⟩ := h
  exact klist_calls S1 g1 k1 L1 w h1
theorem K3.worst (h : K3 w0 w g1 k1 L1 g2 k2 L2 g3 k3 L3) :
    Calls Try.prog 31 #[.pointer (some ⟨g1, 0, none⟩)] w fun e w' => e = .returned (.tuple #[.agg #[.int .i64 (worstH L1).f0, .int .u32 (worstH L1).f1], .bool (decide (L1.length = k1))]) ∧ Below w.heap.size w w' := by
  obtain ⟨S1, S2, S3, h1, h2, h3, a, b, c, hn, hb0⟩ := h
  exact kworst_calls S1 g1 k1 L1 w h1
end
/-- Three that are made one behind the other. -/
theorem K3.new {w0 w1 w2 w3 w4 : World} {k1 k2 k3 : Nat} (hb0 : Below w0.heap.size w0 w1) (hb1 : Below w1.heap.size w1 w2) (h1 : Kept w2 (fresh w1 w2) w1.heap.size k1 []) (hb2 : Below w2.heap.size w2 w3) (h2 : Kept w3 (fresh w2 w3) w2.heap.size k2 [])
    (hb3 : Below w3.heap.size w3 w4) (h3 : Kept w4 (fresh w3 w4) w3.heap.size k3 []) : K3 w0 w4 w1.heap.size k1 [] w2.heap.size k2 [] w3.heap.size k3 [] :=
  ⟨_, _, _, (h1.below hb2).below hb3, h2.below hb3, h3, fun i a b => by have := a.2; have := b.1; omega, fun i a b => by have := a.2; have := b.1; omega, fun i a b => by have := a.1; have := b.2; have := hb2.size; omega,
    fun i hi => by
      have s0 := hb0.size; have s1 := hb1.size; have s2 := hb2.size
      rcases hi with hi | hi | hi
      · have := hi.1; omega
      · have := hi.1; omega
      · have := hi.1; omega, bel_trans (bel_trans (bel_trans hb0 hb1) hb2) hb3⟩
theorem clamp_nat {k : Nat} (h : k ≤ 256) : clamp (k : Int) = k := by unfold clamp; omega
theorem putAll_take (k l : Nat) (h : l ≤ k) (A : List H) : putAll l A = (putAll k A).take l := by rw [putAll_least, putAll_least, least_take h]
theorem putAll_rev (k : Nat) (A : List H) : putAll k A.reverse = putAll k A := by rw [putAll_least, putAll_least, least_perm (List.reverse_perm A)]
theorem putAll_len (k : Nat) (A : List H) : (putAll k A).length ≤ A.length := by rw [putAll_least, least_len]; omega
end Go.Proofs.Ytchiobhklbefjaa.Tk
