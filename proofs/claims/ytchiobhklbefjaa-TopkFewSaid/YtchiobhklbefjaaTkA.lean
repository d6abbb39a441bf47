/- Topk: the reference's functions, in plain Lean; and as they are called. No condition. -/
import Derived.Test.YtchiobhklbefjaaTk8
import Derived.Test.YtchiobhklbefjaaTk9
import Derived.Test.YtchiobhklbefjaaQx3
namespace Go.Proofs.Ytchiobhklbefjaa.Tk
open Go.RowKit Go.Proofs.YtchiobhklbefjaaW.PrintWords Go.Proofs.YtchiobhklbefjaaW.PrintLast Go.Proofs.YtchiobhklbefjaaW.PrintMore Go.Proofs.Ytchiobhklbefjaa.Q
set_option linter.unusedVariables false
set_option linter.unusedSimpArgs false
theorem wrap_small {n : Int} (h0 : 0 ≤ n) (h1 : n < 9223372036854775807) : wrap64 n = n := by unfold wrap64; omega
theorem rd_get {l : List H} {i : Nat} (h : i < l.length) : rd_T29 l (i : Int) = l[i] := by simp [rd_T29, List.getD_eq_getElem?_getD, List.getElem?_eq_getElem h]
theorem into_l0 (l : List H) (h : H) (hl : l.length ≤ 1000000) : ∀ (m i : Nat) (out : List H) (done : Bool), l.length - i < m → i ≤ l.length → out.length ≤ 2 * i + 1 →
    lodestarref02_Into.l0 m l out done (i : Int) h.f0 h.f1 = some (out ++ if done = true then l.drop i else intoL (l.drop i) h) := by
  intro m
  induction m with
  | zero => intro i out done h0; omega
  | succ m ih =>
    intro i out done h0 hi ho
    simp only [lodestarref02_Into.l0]
    by_cases hc : i < l.length
    · have e1 : wrap64 ((i : Int) + 1) = ((i + 1 : Nat) : Int) := by rw [wrap_small (by omega) (by omega)]; omega
      have hd : l.drop i = l[i] :: l.drop (i + 1) := List.drop_eq_getElem_cons hc
      rw [if_pos (by omega), rd_get hc, e1, hd]
      have ho' : out.length < 8796093022208 := by omega
      have h0' : (0 : Int) ≤ i := by omega
      cases done with
      | true =>
        rw [if_pos rfl, if_pos h0', if_pos ho', ih (i + 1) _ true (by omega) (by omega) (by simp; omega)]
        simp
        exact hd.symm
      | false =>
        rw [if_neg (by simp), if_pos h0']
        have hL : lodestarref02_Less.f h.f0 h.f1 l[i].f0 l[i].f1 = some (ltH h l[i]) := by
          unfold lodestarref02_Less.f ltH
          by_cases hq : h.f0 = l[i].f0
          · rw [if_pos hq, hq]; simp
          · rw [if_neg hq]; simp [hq]
        rw [hL]
        simp only [Option.bind_some]
        cases hlt : ltH h l[i] with
        | true =>
          have ho2 : (out ++ [(⟨h.f0, h.f1⟩ : H)]).length < 8796093022208 := by simp; omega
          rw [if_pos rfl, if_pos ho', if_pos ho2, ih (i + 1) _ true (by omega) (by omega) (by simp; omega)]
          simp [intoL, hlt]
          exact hd.symm
        | false =>
          rw [if_neg (by simp), if_pos ho', ih (i + 1) _ false (by omega) (by omega) (by simp; omega)]
          simp [intoL, hlt]
    · have : i = l.length := by omega
      subst this
      rw [if_neg (by omega)]
      cases done with
      | true => simp
      | false => rw [if_neg (by simp), if_pos (by omega)]; simp [intoL]
theorem into_f (l : List H) (h : H) (hl : l.length ≤ 1000000) : lodestarref02_Into.f (l.length + 1) l h.f0 h.f1 = some (intoL l h) := by
  have := into_l0 l h hl (l.length + 1) 0 [] false (by omega) (by omega) (by simp)
  simpa [lodestarref02_Into.f] using this
theorem first_l0 (l : List H) (k : Int) (hl : l.length ≤ 1000000) : ∀ (m i : Nat), l.length - i < m → i ≤ l.length → (i : Int) ≤ max 0 k →
    lodestarref02_First.l0 m l k (l.take i) (i : Int) = some (l.take k.toNat) := by
  intro m
  induction m with
  | zero => intro i h0; omega
  | succ m ih =>
    intro i h0 hi hk
    simp only [lodestarref02_First.l0]
    by_cases hc : i < l.length
    · have e1 : wrap64 ((i : Int) + 1) = ((i + 1 : Nat) : Int) := by rw [wrap_small (by omega) (by omega)]; omega
      rw [if_pos (by omega), rd_get hc, e1]
      by_cases hk2 : (i : Int) < k
      · have := ih (i + 1) (by omega) (by omega) (by omega)
        rw [List.take_succ_eq_append_getElem hc] at this
        rw [if_pos hk2, if_pos (by omega), if_pos (by rw [List.length_take]; omega)]
        exact this
      · rw [if_neg hk2]
        have : i = k.toNat := by omega
        rw [this]
    · rw [if_neg (by omega), List.take_of_length_le (by omega), List.take_of_length_le (by omega)]
theorem first_f (l : List H) (k : Int) (hl : l.length ≤ 1000000) : lodestarref02_First.f (l.length + 1) l k = some (l.take k.toNat) := by
  have := first_l0 l k hl (l.length + 1) 0 (by omega) (by omega) (by omega)
  simpa [lodestarref02_First.f] using this
theorem into_mono (l : List H) (h : H) (hl : l.length ≤ 1000000) (m : Nat) (hm : l.length < m) : lodestarref02_Into.f m l h.f0 h.f1 = some (intoL l h) := by
  have := into_l0 l h hl m 0 [] false (by omega) (by omega) (by simp)
  simpa [lodestarref02_Into.f] using this
theorem sort_l0 (l : List H) (hl : l.length ≤ 100000) : ∀ (m i : Nat) (out : List H), l.length < m → i + m = 2 * l.length + 1 → i ≤ l.length → out.length = i →
    lodestarref02_Sort.l0 m l out (i : Int) = some ((l.drop i).foldl intoL out) := by
  intro m
  induction m with
  | zero => intro i out h0; omega
  | succ m ih =>
    intro i out h0 h1 hi ho
    simp only [lodestarref02_Sort.l0]
    by_cases hc : i < l.length
    · have e1 : wrap64 ((i : Int) + 1) = ((i + 1 : Nat) : Int) := by rw [wrap_small (by omega) (by omega)]; omega
      have hd : l.drop i = l[i] :: l.drop (i + 1) := List.drop_eq_getElem_cons hc
      rw [if_pos (by omega), if_pos (by omega), rd_get hc, e1, into_mono out l[i] (by omega) m (by omega)]
      simp only [Option.bind_some]
      rw [ih (i + 1) _ (by omega) (by omega) (by omega) (by rw [intoL_len]; omega), hd, List.foldl_cons]
    · rw [if_neg (by omega)]
      have : l.drop i = [] := List.drop_eq_nil_of_le (by omega)
      rw [this]
      rfl
theorem sort_f (l : List H) (hl : l.length ≤ 100000) : lodestarref02_Sort.f (2 * l.length + 1) l = some (sortH l) := by
  have := sort_l0 l hl (2 * l.length + 1) 0 [] (by omega) (by omega) (by omega) rfl
  unfold lodestarref02_Sort.f
  rw [← foldl_sort]
  simpa using this
theorem hit_ext {a b : H} (h0 : a.f0 = b.f0) (h1 : a.f1 = b.f1) : a = b := by cases a; cases b; simp at *; exact ⟨h0, h1⟩
theorem same_l0 (l : List H) (hl : l.length ≤ 1000000) : ∀ (m i : Nat), l.length - i < m → i ≤ l.length → lodestarref02_Same.l0 m l l (i : Int) = some true := by
  intro m
  induction m with
  | zero => intro i h0; omega
  | succ m ih =>
    intro i h0 hi
    simp only [lodestarref02_Same.l0]
    by_cases hc : i < l.length
    · have e1 : wrap64 ((i : Int) + 1) = ((i + 1 : Nat) : Int) := by rw [wrap_small (by omega) (by omega)]; omega
      rw [if_pos (by omega), if_pos (by omega), if_pos (by omega), if_neg (by simp), e1]
      exact ih (i + 1) (by omega) (by omega)
    · rw [if_neg (by omega)]
theorem same_f (l : List H) (hl : l.length ≤ 1000000) : lodestarref02_Same.f (l.length + 1) l l = some true := by
  unfold lodestarref02_Same.f
  rw [if_pos rfl]
  exact same_l0 l hl (l.length + 1) 0 (by omega) (by omega)
/-! ### in memory -/
theorem cells_at {A : List H} {i : Nat} {h : H} (hi : A[i]? = some h) : (cellsOf A)[i * 2]? = some (.int .i64 h.f0) ∧ (cellsOf A)[i * 2 + 1]? = some (.int .u32 h.f1) := by
  obtain ⟨h1, rfl⟩ := List.getElem?_eq_some_iff.1 hi
  exact cellsOf_get A i h1
theorem ReadsH.C {w : World} {ao : Option Addr} {cap : Nat} {A : List H} (h : ReadsH w ao cap A) (hl : A.length ≤ 1000000) : Kd.C k29 w ao A.length A := by
  refine ⟨rfl, by omega, fun h0 => ?_⟩
  rcases h.2 with ⟨_, rfl, _⟩ | ⟨ad, rfl, hr⟩
  · simp at h0
  · refine ⟨ad, rfl, fun j p hj => ⟨enc p, rfl, k29_mk w p, fun i u hu => ?_⟩⟩
    obtain ⟨g0, g1⟩ := cells_at hj
    match i, hu with
    | 0, hu => rw [← hu]; exact hr (j * 2) _ g0
    | 1, hu => rw [← hu]; exact hr (j * 2 + 1) _ g1
theorem OwnH.reads {w : World} {b : Nat} {v : Value} {A : List H} (h : OwnH w b v A) : ∃ ao cap, v = .slice ao A.length cap ∧ ReadsH w ao cap A := by
  rcases h.row with ⟨rfl, rfl⟩ | ⟨r, cap, rfl, _, _, hr⟩
  · exact ⟨none, 0, rfl, by simp, .inl ⟨rfl, rfl, rfl⟩⟩
  · exact ⟨_, cap, rfl, hr.le, .inr ⟨_, rfl, hr.reads⟩⟩
theorem own_of_R {w : World} {b : Nat} {ok : Nat → Prop} {v : Value} {A : List H} (h : Kd.R k29 29 w b ok v A) : OwnH w b v A := by
  obtain ⟨_, inner, ho, hr⟩ := h
  have : inner = cellsOf A := by
    apply List.ext_getElem?
    intro t
    by_cases ht : t < A.length * 2
    · have hj : A[t / 2]? = some A[t / 2] := List.getElem?_eq_getElem (by omega)
      have hM := k29_openM (hr.2 (t / 2) _ hj)
      obtain ⟨g0, g1⟩ := cells_at hj
      rcases Nat.mod_two_eq_zero_or_one t with hm | hm
      · have e : t = t / 2 * 2 := by omega
        rw [← e] at g0
        rw [g0]
        have := congrArg (fun l : List Value => l[0]?) hM
        simp only [List.getElem?_take, List.getElem?_drop] at this
        have e2 : t / 2 * k29.sz + 0 = t := by show t / 2 * 2 + 0 = t; omega
        rw [e2] at this
        simp at this
        exact this.2
      · have e : t = t / 2 * 2 + 1 := by omega
        rw [← e] at g1
        rw [g1]
        have := congrArg (fun l : List Value => l[1]?) hM
        simp only [List.getElem?_take, List.getElem?_drop] at this
        have e2 : t / 2 * k29.sz + 1 = t := by show t / 2 * 2 + 1 = t; omega
        rw [e2] at this
        simp at this
        exact this.2
    · rw [List.getElem?_eq_none (by have := hr.1; have e2 : k29.sz = 2 := rfl; rw [e2] at this; omega), List.getElem?_eq_none (by rw [cellsOf_len]; omega)]
  subst this
  exact ho
end Go.Proofs.Ytchiobhklbefjaa.Tk
