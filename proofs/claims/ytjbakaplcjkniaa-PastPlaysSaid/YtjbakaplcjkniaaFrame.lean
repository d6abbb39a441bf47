/- How arguments that read as data are opened: each type's cells are those of a plain value. No condition. -/
import Derived.Test.YtjbakaplcjkniaaWSized
import Derived.Test.YtjbakaplcjkniaaWWords
import Derived.ProofKit
import Derived.Deep.Slices
import Derived.WideShapes
import Derived.Lib.SmallJoins
namespace Go.Proofs.Ytjbakaplcjkniaa.Frame
open Go.RowKit Go.Proofs.YtjbakaplcjkniaaW.PrintWords Go.WideShapes Go.Deep
set_option linter.unusedVariables false
/-- Whatever reads as data at type t: its cells are those of some plain value of the kind d, within its bounds. -/
def Opens {α : Type} (P : Program) (t : TypeId) (d : Kd α) (ok : α → Prop) : Prop :=
  ∀ (H : Type) (enc : TypeId × Value → H) (w : World) (n : Nat) (cs : List Value) (x : DataW H × List MemPlace),
    DataW.trod enc P w 0 (fun _ => true) true n t cs = some x → ∃ a : α, d.K w a cs ∧ ok a
theorem Opens.int {P : Program} {t : TypeId} {k : IntKind} (ht : P.underlying t = some (.int k)) : Opens P t (Kd.int k) (fun x => (Lit.int k x).wf = true) := by
  intro H enc w n cs x h
  obtain ⟨m, rfl, _, hw⟩ := DataW.trod_int ht h
  exact ⟨m, rfl, hw⟩
theorem Opens.bool {P : Program} {t : TypeId} (ht : P.underlying t = some .bool) : Opens P t Kd.bool (fun _ => True) := by
  intro H enc w n cs x h
  obtain ⟨m, rfl, _⟩ := DataW.trod_bool ht h
  exact ⟨m, rfl, trivial⟩
theorem Opens.string {P : Program} {t : TypeId} (ht : P.underlying t = some .string) : Opens P t Kd.string (fun s => s.size ≤ maxLen) := by
  intro H enc w n cs x h
  obtain ⟨m, rfl, _, hw⟩ := DataW.trod_string ht h
  exact ⟨m, rfl, hw⟩
theorem Opens.imp {α : Type} {P : Program} {t : TypeId} {d : Kd α} {ok ok' : α → Prop} (h : Opens P t d ok) (hi : ∀ x, ok x → ok' x) : Opens P t d ok' := by
  intro H enc w n cs x hx
  obtain ⟨a, ha, hk⟩ := h H enc w n cs x hx
  exact ⟨a, ha, hi a hk⟩
theorem list_of {α : Type} {R : Nat → α → Prop} (n : Nat) (h : ∀ i, i < n → ∃ a, R i a) : ∃ l : List α, l.length = n ∧ ∀ i a, l[i]? = some a → R i a := by
  induction n with
  | zero => exact ⟨[], rfl, fun i a h => by simp at h⟩
  | succ n ih =>
    obtain ⟨l, hl, hr⟩ := ih (fun i hi => h i (by omega))
    obtain ⟨a, ha⟩ := h n (by omega)
    refine ⟨l ++ [a], by simp [hl], fun i b hb => ?_⟩
    rcases Nat.lt_or_ge i n with hi | hi
    · rw [List.getElem?_append_left (by omega)] at hb
      exact hr i b hb
    · have : i = n := by
        have := (List.getElem?_eq_some_iff.1 hb).1
        simp at this
        omega
      subst this
      have : a = b := by simpa [hl] using hb
      exact this ▸ ha
theorem Opens.slice {α : Type} {P : Program} {t e : TypeId} {d : Kd α} {ok : α → Prop} (ht : P.underlying t = some (.slice e)) (hc : P.cellsOf e = d.sz) (h : Opens P e d ok) :
    Opens P t (Kd.slice e d) (fun l => l.length ≤ maxLen ∧ ∀ x ∈ l, ok x) := by
  intro H enc w n cs x hx
  rcases open_slice ht hx with ⟨rfl, _⟩ | ⟨a, len, cap, m, n', D, Pl, rfl, _, hl, hm, hmm, _, hel⟩
  · exact ⟨[], ⟨none, 0, rfl, by simp, rfl, by simp, fun h => absurd h (by simp)⟩, by simp, by simp⟩
  · have hlm : len ≤ m := by simp at hmm; omega
    obtain ⟨l, hll, hR⟩ := list_of (R := fun i a' => (∃ c, c.length = d.sz ∧ d.K w a' c ∧ ∀ j u, c[j]? = some u → w.cell? (a.add (i * d.sz + j)) = some u) ∧ ok a') len (fun i hi => by
      obtain ⟨cs', h1, h2⟩ := hel i (by omega)
      obtain ⟨a', ha, hk⟩ := h H enc w n' cs' _ h2
      obtain ⟨_, hlen, hcell⟩ := World.cells?_some h1
      refine ⟨a', ⟨cs', d.K_len ha, ha, fun j u hu => ?_⟩, hk⟩
      have hj : j < cs'.length := (List.getElem?_eq_some_iff.1 hu).1
      have := hcell j (by omega)
      rw [hc] at this
      rw [← hu, ← this]
      congr 1
      exact (Deep.add_add a _ _).symm)
    subst hll
    refine ⟨l, ⟨some a, cap, rfl, hl, rfl, by unfold maxLen at hm; omega, fun _ => ⟨a, rfl, fun j p hj => ?_⟩⟩, by omega, fun x hx' => ?_⟩
    · exact (hR j p hj).1
    · obtain ⟨i, hi, rfl⟩ := List.getElem_of_mem hx'
      exact (hR i _ (List.getElem?_eq_getElem hi)).2
theorem Opens.pair {α β : Type} {P : Program} {w : World} {d1 : Kd α} {d2 : Kd β} {c1 c2 : List Value} {a : α} {b : β} (h1 : d1.K w a c1) (h2 : d2.K w b c2) : (Kd.pair d1 d2).K w (a, b) (c1 ++ c2) := ⟨c1, c2, rfl, h1, h2⟩
/-- A struct of two fields; of more. -/
theorem Opens.struct2 {α β : Type} {P : Program} {t : TypeId} {f0 f1 : Field} {d0 : Kd α} {d1 : Kd β} {ok0 : α → Prop} {ok1 : β → Prop} (ht : P.underlying t = some (.struct #[f0, f1]))
    (o1 : f1.offset = f0.offset + P.cellsOf f0.type) (o0 : f0.offset = 0) (hC : P.cellsOf t = P.cellsOf f0.type + P.cellsOf f1.type) (h0 : Opens P f0.type d0 ok0) (h1 : Opens P f1.type d1 ok1) :
    Opens P t (Kd.pair d0 d1) (fun x => ok0 x.1 ∧ ok1 x.2) := by
  intro H enc w n cs x hx
  obtain ⟨xs, m, _, _, hlen, hxl, hf⟩ := DataW.trod_struct ht hx
  have g0 := hf 0 f0 rfl
  have g1 := hf 1 f1 rfl
  obtain ⟨y0, e0⟩ : ∃ y, xs[0]? = some y := ⟨_, List.getElem?_eq_getElem (by simp at hxl; omega)⟩
  obtain ⟨y1, e1⟩ : ∃ y, xs[1]? = some y := ⟨_, List.getElem?_eq_getElem (by simp at hxl; omega)⟩
  rw [e0] at g0
  rw [e1] at g1
  obtain ⟨a, ka, oa⟩ := h0 H enc w m _ _ g0
  obtain ⟨b, kb, ob⟩ := h1 H enc w m _ _ g1
  rw [o0, List.drop_zero] at ka
  rw [o1, o0, Nat.zero_add] at kb
  have e : (cs.drop (P.cellsOf f0.type)).take (P.cellsOf f1.type) = cs.drop (P.cellsOf f0.type) := List.take_of_length_le (by rw [List.length_drop]; omega)
  rw [e] at kb
  refine ⟨(a, b), ?_, oa, ob⟩
  have := Opens.pair (P := P) ka kb
  rwa [List.take_append_drop] at this
/-- Behind a first field: what follows is a struct's rest. Told of the list of fields from field i on. -/
def OpensFrom {α : Type} (P : Program) (fs : Array Field) (i off : Nat) (d : Kd α) (ok : α → Prop) : Prop :=
  ∀ (H : Type) (enc : TypeId × Value → H) (w : World) (n : Nat) (cs : List Value) (xs : List (DataW H × List MemPlace)), xs.length = fs.size →
    (∀ (j : Nat) (f : Field), fs[j]? = some f → DataW.trod enc P w 0 (fun _ => true) true n f.type ((cs.drop f.offset).take (P.cellsOf f.type)) = xs[j]?) →
    cs.length = off + d.sz → ∃ a : α, d.K w a (cs.drop off) ∧ ok a
theorem OpensFrom.last {α : Type} {P : Program} {fs : Array Field} {i off : Nat} {f : Field} {d : Kd α} {ok : α → Prop} (hf : fs[i]? = some f) (ho : f.offset = off) (hc : P.cellsOf f.type = d.sz) (h : Opens P f.type d ok) :
    OpensFrom P fs i off d ok := by
  intro H enc w n cs xs hl hx hlen
  have g := hx i f hf
  have hi : i < xs.length := by have := (Array.getElem?_eq_some_iff.1 hf).1; omega
  rw [List.getElem?_eq_getElem hi, ho] at g
  obtain ⟨a, ka, oa⟩ := h H enc w n _ _ g
  rw [List.take_of_length_le (by rw [List.length_drop]; omega)] at ka
  exact ⟨a, ka, oa⟩
theorem OpensFrom.cons {α β : Type} {P : Program} {fs : Array Field} {i off : Nat} {f : Field} {d : Kd α} {d2 : Kd β} {ok : α → Prop} {ok2 : β → Prop} (hf : fs[i]? = some f) (ho : f.offset = off) (hc : P.cellsOf f.type = d.sz) (h : Opens P f.type d ok)
    (h2 : OpensFrom P fs (i + 1) (off + d.sz) d2 ok2) : OpensFrom P fs i off (Kd.pair d d2) (fun x => ok x.1 ∧ ok2 x.2) := by
  intro H enc w n cs xs hl hx hlen
  have g := hx i f hf
  have hi : i < xs.length := by have := (Array.getElem?_eq_some_iff.1 hf).1; omega
  rw [List.getElem?_eq_getElem hi, ho] at g
  obtain ⟨a, ka, oa⟩ := h H enc w n _ _ g
  have hlen' : cs.length = off + (d.sz + d2.sz) := hlen
  obtain ⟨b, kb, ob⟩ := h2 H enc w n cs xs hl hx (by omega)
  have hd : cs.drop off = (cs.drop off).take (P.cellsOf f.type) ++ cs.drop (off + d.sz) := by
    rw [hc, ← List.drop_drop, List.take_append_drop]
  refine ⟨(a, b), ?_, oa, ob⟩
  rw [hd]
  exact Opens.pair (P := P) ka kb
theorem Opens.struct {α : Type} {P : Program} {t : TypeId} {fs : Array Field} {d : Kd α} {ok : α → Prop} (ht : P.underlying t = some (.struct fs)) (hC : P.cellsOf t = d.sz) (h : OpensFrom P fs 0 0 d ok) : Opens P t d ok := by
  intro H enc w n cs x hx
  obtain ⟨xs, m, _, _, hlen, hxl, hf⟩ := DataW.trod_struct ht hx
  exact h H enc w m cs xs hxl hf (by omega)
/-- An argument: its value's cells. -/
theorem Opens.arg {α : Type} {P : Program} {t : TypeId} {d : Kd α} {ok : α → Prop} (h : Opens P t d ok) {H : Type} {enc : TypeId × Value → H} {w : World} {v : Value} {x : DataW H} {p : List MemPlace} (hv : DataW.Trod enc P w 0 (fun _ => true) true t v x p) :
    ∃ a : α, d.K w a v.cells.toList ∧ ok a := by
  obtain ⟨n, hn⟩ := hv
  exact h H enc w n _ _ hn
/-- A list that is handed in: nil, or an address. -/
theorem slice_nil {P : Program} {t e : TypeId} {H : Type} {enc : TypeId × Value → H} {w : World} {n : Nat} {cs : List Value} {x : DataW H × List MemPlace} (ht : P.underlying t = some (.slice e))
    (hx : DataW.trod enc P w 0 (fun _ => true) true n t cs = some x) : cs = [.slice none 0 0] ∨ ∃ a len cap, cs = [.slice (some a) len cap] := by
  rcases open_slice ht hx with ⟨rfl, _⟩ | ⟨a, len, cap, m, n', D, Pl, rfl, _⟩
  · exact .inl rfl
  · exact .inr ⟨a, len, cap, rfl⟩
theorem arg_one {v u : Value} (hn : ∀ cs, v ≠ .agg cs) (h : v.cells.toList = [u]) : v = u := by
  cases v <;> first | (simpa [Value.cells] using h) | exact absurd rfl (hn _)
theorem arg_agg {cs : Array Value} {l : List Value} (h : (Value.agg cs).cells.toList = l) : Value.agg cs = .agg l.toArray := by
  simp only [Value.cells] at h
  rw [← h]
end Go.Proofs.Ytjbakaplcjkniaa.Frame
