/- Past: what the laws read. No condition. -/
import Derived.Test.YtjbakaplcjkniaaPaD
import Derived.Test.YtjbakaplcjkniaaPaA
import Derived.Test.YtjbakaplcjkniaaQx2
namespace Go.Proofs.Ytjbakaplcjkniaa.Pa
open Go.RowKit Go.Maps Go.Proofs.YtjbakaplcjkniaaW.PrintWords Go.Proofs.YtjbakaplcjkniaaW.PrintLast Go.Proofs.YtjbakaplcjkniaaW.PrintMore Go.Proofs.Ytjbakaplcjkniaa.Pi Go.Proofs.Ytjbakaplcjkniaa.Q
set_option linter.unusedVariables false
set_option linter.unusedSimpArgs false
theorem succ_wrap {i n : Nat} (h : i < n) (hn : n ≤ 1000000) : wrap64 ((i : Int) + 1) = ((i + 1 : Nat) : Int) := by unfold wrap64; omega
theorem same1_l0 (l : List Int) (hl : l.length ≤ 1000000) : ∀ (m i : Nat), l.length - i < m → i ≤ l.length → lodestarref01_Same.l0 m l l (i : Int) = some true := by
  intro m
  induction m with
  | zero => intro i h0; omega
  | succ m ih =>
    intro i h0 hi
    simp only [lodestarref01_Same.l0]
    by_cases hc : i < l.length
    · have e1 : wrap64 ((i : Int) + 1) = ((i + 1 : Nat) : Int) := succ_wrap hc (by omega)
      rw [if_pos (by omega), if_pos (by omega), if_pos (by omega), if_pos (by first | rfl | trivial), e1]
      exact ih (i + 1) (by omega) (by omega)
    · rw [if_neg (by omega)]
theorem same1_f (l : List Int) (hl : l.length ≤ 1000000) {m : Nat} (hm : l.length < m) : lodestarref01_Same.f m l l = some true := by
  unfold lodestarref01_Same.f
  rw [if_pos rfl]
  exact same1_l0 l hl m 0 (by omega) (by omega)
theorem same3_l0 (l : List ByteArray) (hl : l.length ≤ 1000000) : ∀ (m i : Nat), l.length - i < m → i ≤ l.length → lodestarref03_Same.l0 m l l (i : Int) = some true := by
  intro m
  induction m with
  | zero => intro i h0; omega
  | succ m ih =>
    intro i h0 hi
    simp only [lodestarref03_Same.l0]
    by_cases hc : i < l.length
    · have e1 : wrap64 ((i : Int) + 1) = ((i + 1 : Nat) : Int) := succ_wrap hc (by omega)
      rw [if_pos (by omega), if_pos (by omega), if_pos (by omega), if_pos (by first | rfl | trivial), e1]
      exact ih (i + 1) (by omega) (by omega)
    · rw [if_neg (by omega)]
theorem same3_f (l : List ByteArray) (hl : l.length ≤ 1000000) {m : Nat} (hm : l.length < m) : lodestarref03_Same.f m l l = some true := by
  unfold lodestarref03_Same.f
  rw [if_pos rfl]
  exact same3_l0 l hl m 0 (by omega) (by omega)
abbrev It := S54
theorem item_f (x : It) (h1 : x.f1.length ≤ 100000) (h2 : x.f2.length ≤ 100000) {m : Nat} (hm : 100000 < m) : lodestarref06_SameItem.f m x.f0 x.f1 x.f2 x.f0 x.f1 x.f2 = some true := by
  unfold lodestarref06_SameItem.f
  rw [if_pos rfl, same1_f _ (by omega) (by omega), same3_f _ (by omega) (by omega)]
  rfl
theorem items_l0 (l : List It) (hl : l.length ≤ 1000000) (hx : ∀ x ∈ l, x.f1.length ≤ 100000 ∧ x.f2.length ≤ 100000) : ∀ (m i : Nat), l.length - i + 100001 < m → i ≤ l.length → lodestarref06_SameItems.l0 m l l (i : Int) = some true := by
  intro m
  induction m with
  | zero => intro i h0; omega
  | succ m ih =>
    intro i h0 hi
    simp only [lodestarref06_SameItems.l0]
    by_cases hc : i < l.length
    · have e1 : wrap64 ((i : Int) + 1) = ((i + 1 : Nat) : Int) := succ_wrap hc (by omega)
      have hr : rd_T54 l (i : Int) = l[i] := by simp [rd_T54, List.getD_eq_getElem?_getD, hc]
      rw [if_pos (by omega), if_pos (by omega), if_pos (by omega), hr, item_f l[i] (hx _ (List.getElem_mem hc)).1 (hx _ (List.getElem_mem hc)).2 (by omega)]
      simp only [Option.bind_some, if_true, e1]
      exact ih (i + 1) (by omega) (by omega)
    · rw [if_neg (by omega)]
theorem items_f (l : List It) (hl : l.length ≤ 1000000) (hx : ∀ x ∈ l, x.f1.length ≤ 100000 ∧ x.f2.length ≤ 100000) : lodestarref06_SameItems.f (l.length + 100002) l l = some true := by
  unfold lodestarref06_SameItems.f
  rw [if_pos rfl]
  exact items_l0 l hl hx _ 0 (by omega) (by omega)
/-! ### Small -/
theorem mn_le (a b : Int) (ha : 0 ≤ a) (hb : 0 ≤ b) : 0 ≤ mn a b ∧ mn a b ≤ b := by unfold mn; split <;> omega
theorem mn_lt {a b : Int} (h : mn a b < b) : a < b := by unfold mn at h; split at h <;> omega
theorem great3_l0 (l : List ByteArray) : ∀ (m : Nat) (n : Int) (i : Nat), 20001 < m + i → i ≤ 20000 → (i : Int) ≤ n → n ≤ 50000 → ∃ r, lodestarref03_Great.l0 m l n (i : Int) = some r ∧ (r = false → l.length ≤ 300) := by
  intro m
  induction m with
  | zero =>
    intro n i h1 h0 h2 h3
    omega
  | succ m ih =>
    intro n i h1 h0 h2 h3
    have hend : ∃ r, (if n ≥ 20000 then (some true) else (some (decide ((l.length : Int) > 300)))) = some r ∧ (r = false → l.length ≤ 300) := by
      by_cases h : n ≥ 20000
      · exact ⟨true, by rw [if_pos h], fun e => by cases e⟩
      · refine ⟨decide ((l.length : Int) > 300), by rw [if_neg h], fun e => ?_⟩
        rw [decide_eq_false_iff_not] at e
        omega
    simp only [lodestarref03_Great.l0]
    by_cases hc : (i : Int) < (l.length : Int)
    · rw [if_pos hc]
      by_cases hn : n < 20000
      · rw [if_pos hn, if_pos (by omega)]
        have hs := mn_le ((rdOf ByteArray.empty l (i : Int)).size : Int) 20000 (by omega) (by omega)
        have e1 : wrap64 (n + 1) = n + 1 := by unfold wrap64; omega
        have e2 : wrap64 (n + 1 + mn ((rdOf ByteArray.empty l (i : Int)).size : Int) 20000) = n + 1 + mn ((rdOf ByteArray.empty l (i : Int)).size : Int) 20000 := by unfold wrap64; omega
        have e3 : wrap64 ((i : Int) + 1) = ((i + 1 : Nat) : Int) := by unfold wrap64; omega
        rw [e1, e2, e3]
        exact ih _ (i + 1) (by omega) (by omega) (by omega) (by omega)
      · rw [if_neg hn]
        exact hend
    · rw [if_neg hc]
      exact hend
theorem great3_f (l : List ByteArray) {m : Nat} (hm : 20001 < m) : ∃ r, lodestarref03_Great.f m l = some r ∧ (r = false → l.length ≤ 300) := great3_l0 l m 0 0 (by omega) (by omega) (by omega) (by omega)
/-- Small: it answers, and what is small is short. -/
theorem small_f (id : Int) (vec : List Int) (tags : List ByteArray) : ∃ r, lodestarref08_Small.f 30000 id vec tags = some r ∧ (r = true → vec.length ≤ 100000 ∧ tags.length ≤ 100000) := by
  obtain ⟨r0, h0, h1⟩ := great3_f tags (m := 29998) (by omega)
  have hs := mn_le (vec.length : Int) 50000 (by omega) (by omega)
  have e1 : wrap64 ((0 : Int) + 1) = 1 := by unfold wrap64; omega
  have e2 : wrap64 (1 + mn (vec.length : Int) 50000) = 1 + mn (vec.length : Int) 50000 := by unfold wrap64; omega
  have hj0 : ∀ (x : S54) (n : Int) (k : Nat), lodestarref06_GreatChanges.l0 (k + 2) [⟨false, x⟩] n 1 = some (decide (n ≥ 50000)) := by
    intro x n k
    simp only [lodestarref06_GreatChanges.l0, lodestarref06_GreatChanges.j1, List.length_singleton]
    rw [if_neg (by omega)]
    simp
  have hg : lodestarref06_GreatChanges.f 30000 [⟨false, ⟨id, vec, tags⟩⟩] = some (r0 || decide (1 + mn (vec.length : Int) 50000 ≥ 50000)) := by
    show lodestarref06_GreatChanges.l0 (29999 + 1) [⟨false, ⟨id, vec, tags⟩⟩] 0 0 = _
    simp only [lodestarref06_GreatChanges.l0, List.length_singleton]
    rw [if_pos (by omega)]
    show lodestarref06_GreatChanges.j1 (29998 + 1) [⟨false, ⟨id, vec, tags⟩⟩] 0 0 true = _
    simp only [lodestarref06_GreatChanges.j1, List.length_singleton]
    rw [if_pos trivial, if_pos (by omega), if_pos (by omega)]
    show (lodestarref03_Great.f 29998 tags).bind _ = _
    rw [h0]
    simp only [Option.bind_some]
    cases r0 with
    | true => rfl
    | false =>
      rw [if_neg (by simp), e1]
      show lodestarref06_GreatChanges.l0 (29996 + 2) [⟨false, ⟨id, vec, tags⟩⟩] (wrap64 (1 + mn (vec.length : Int) 50000)) 1 = _
      rw [e2, hj0]
      rfl
  refine ⟨!(r0 || decide (1 + mn (vec.length : Int) 50000 ≥ 50000)), ?_, fun e => ?_⟩
  · unfold lodestarref08_Small.f
    rw [hg]
    rfl
  · rw [Bool.not_eq_true', Bool.or_eq_false_iff, decide_eq_false_iff_not] at e
    have h2 := h1 e.1
    have h3 := mn_lt (a := (vec.length : Int)) (b := 50000) (by omega)
    exact ⟨by omega, by omega⟩
/-- Small, called. -/
theorem small_calls (id : Int) (vec : List Int) (tags : List ByteArray) (A1 : Option Addr) (c1 : Nat) (A2 : Option Addr) (c2 : Nat) (w : World) (l1 : vec.length ≤ c1) (h1 : Kd.C (Kd.int .i32) w A1 vec.length vec) (l2 : tags.length ≤ c2) (h2 : Kd.C Kd.string w A2 tags.length tags) :
    Calls Try.prog 30 #[.agg #[.int .u32 id, .slice A1 vec.length c1, .slice A2 tags.length c2]] w fun e w' => (∃ r, e = .returned (.bool r) ∧ (r = true → vec.length ≤ 100000 ∧ tags.length ≤ 100000)) ∧ Below w.heap.size w w' := by
  obtain ⟨r, h, hr⟩ := small_f id vec tags
  exact (lodestarref08_Small.calls 30000 id (fun k => k < w.heap.size) A1 c1 vec (fun k => k < w.heap.size) A2 c2 tags r w ⟨A1, c1, rfl, l1, Kd.C_F (Kd.heap_int _) h1⟩ ⟨A2, c2, rfl, l2, Kd.C_F Kd.heap_string h2⟩ h).mono fun e w' ⟨he, hb⟩ => ⟨⟨r, he, hr⟩, hb⟩
/-- A version told by how far it is from another. -/
def verOf (last ahead : Int) : Int := if ahead ≥ 0 then last + ahead else if -ahead > last then 0 else last + ahead
theorem version_f {last ahead : Int} (h1 : 0 ≤ last ∧ last ≤ 1000000000000) (h2 : -128 ≤ ahead ∧ ahead ≤ 127) : lodestarlaw08_version.f last ahead = some (verOf last ahead) := by
  have hw : ∀ x : Int, 0 ≤ x → x ≤ 2000000000000 → IntKind.u64.wrap x = x := by
    intro x h3 h4
    unfold IntKind.wrap
    simp only [IntKind.bits, IntKind.signed, Bool.false_and, Bool.false_eq_true, if_false]
    omega
  have e1 : wrap64 ahead = ahead := by unfold wrap64; omega
  have e2 : wrap64 (-ahead) = -ahead := by unfold wrap64; omega
  unfold lodestarlaw08_version.f verOf
  rw [e1, e2]
  by_cases h : ahead ≥ 0
  · rw [if_pos h, if_pos h, hw ahead (by omega) (by omega), hw _ (by omega) (by omega)]
  · rw [if_neg h, if_neg h, hw (-ahead) (by omega) (by omega)]
    by_cases h3 : -ahead > last
    · rw [if_pos h3, if_pos h3]
    · rw [if_neg h3, if_neg h3, hw _ (by omega) (by omega)]
      congr 1
      omega
theorem verOf_le {last ahead : Int} (h1 : 0 ≤ last) (h2 : -128 ≤ ahead ∧ ahead ≤ 127) : 0 ≤ verOf last ahead ∧ verOf last ahead ≤ last + 127 := by
  unfold verOf
  split
  · omega
  · split <;> omega
end Go.Proofs.Ytjbakaplcjkniaa.Pa
