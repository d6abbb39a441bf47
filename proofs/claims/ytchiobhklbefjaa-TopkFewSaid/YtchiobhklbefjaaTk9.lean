/- Topk, plain law: a heap's sorted list; the reference's lists. No program. No condition. -/
import Derived.Test.YtchiobhklbefjaaTk4
import Derived.Test.YtchiobhklbefjaaTk6
namespace Go.Proofs.Ytchiobhklbefjaa.Tk
open Go.RowKit Go.Proofs.YtchiobhklbefjaaW.PrintWords Go.Proofs.Ytchiobhklbefjaa.Q
set_option linter.unusedVariables false
set_option linter.unusedSimpArgs false
def leH (a b : H) : Bool := !ltH b a
theorem leH_no {a b : H} : leH a b = false ↔ ltH b a = true := by simp [leH]
theorem leH_yes {a b : H} : leH a b = true ↔ ltH b a = false := by simp [leH]
theorem leH_iff {a b : H} : leH a b = true ↔ a.f0 < b.f0 ∨ (a.f0 = b.f0 ∧ a.f1 ≤ b.f1) := by
  rw [leH_yes, ltH_no]; omega
theorem leH_trans (a b c : H) (h1 : leH a b = true) (h2 : leH b c = true) : leH a c = true := by
  rw [leH_iff] at *; omega
theorem leH_total (a b : H) : (leH a b || leH b a) = true := by
  rw [Bool.or_eq_true, leH_iff, leH_iff]; omega
theorem leH_refl (a : H) : leH a a = true := by rw [leH_iff]; omega
theorem leH_anti (a b : H) (h1 : leH a b = true) (h2 : leH b a = true) : a = b := ltH_total a b (leH_yes.1 h2) (leH_yes.1 h1)
theorem ltH_le {a b : H} (h : ltH a b = true) : leH a b = true := by rw [leH_iff]; rw [ltH_iff] at h; omega
def SortedH (A : List H) : Prop := A.Pairwise (fun a b => leH a b = true)
theorem sortH_sorted (A : List H) : SortedH (sortH A) := List.pairwise_mergeSort leH_trans leH_total A
theorem sorted_eq {A B : List H} (hA : SortedH A) (hB : SortedH B) (h : A.Perm B) : A = B := List.Perm.eq_of_pairwise (fun a b _ _ => leH_anti a b) hA hB h
theorem sortH_eq {A B : List H} (hB : SortedH B) (h : B.Perm A) : sortH A = B := sorted_eq (sortH_sorted A) hB ((sortH_perm A).trans h.symm)
theorem sortH_congr {A B : List H} (h : A.Perm B) : sortH A = sortH B := sorted_eq (sortH_sorted A) (sortH_sorted B) ((sortH_perm A).trans (h.trans (sortH_perm B).symm))
theorem sortH_id {A : List H} (h : SortedH A) : sortH A = A := sortH_eq h (List.Perm.refl _)
theorem SortedH.take {A : List H} (h : SortedH A) (k : Nat) : SortedH (A.take k) := List.Pairwise.sublist (List.take_sublist k A) h
theorem sortH_nil : sortH [] = [] := List.length_eq_zero_iff.1 (sortH_len [])
/-- A hit put into a list: ahead of the first one that it is less than. -/
def intoL : List H → H → List H
  | [], h => [h]
  | a :: l, h => if ltH h a = true then h :: a :: l else a :: intoL l h
theorem intoL_perm (l : List H) (h : H) : (intoL l h).Perm (h :: l) := by
  induction l with
  | nil => exact List.Perm.refl _
  | cons a l ih =>
    simp only [intoL]
    split
    · exact List.Perm.refl _
    · exact (ih.cons a).trans (List.Perm.swap h a l)
theorem intoL_len (l : List H) (h : H) : (intoL l h).length = l.length + 1 := by rw [(intoL_perm l h).length_eq]; rfl
theorem intoL_sorted {l : List H} (hl : SortedH l) (h : H) : SortedH (intoL l h) := by
  induction l with
  | nil => exact List.pairwise_singleton _ _
  | cons a l ih =>
    simp only [intoL]
    have ⟨h1, h2⟩ := List.pairwise_cons.1 hl
    split
    · rename_i hlt
      refine List.pairwise_cons.2 ⟨fun b hb => ?_, hl⟩
      rcases List.mem_cons.1 hb with rfl | hb
      · exact ltH_le hlt
      · exact leH_trans _ _ _ (ltH_le hlt) (h1 b hb)
    · rename_i hlt
      refine List.pairwise_cons.2 ⟨fun b hb => ?_, ih h2⟩
      rcases List.mem_cons.1 ((intoL_perm l h).mem_iff.1 hb) with rfl | hb
      · exact leH_yes.2 (by simpa using hlt)
      · exact h1 b hb
theorem into_sort (A : List H) (h : H) : intoL (sortH A) h = sortH (A ++ [h]) :=
  (sortH_eq (intoL_sorted (sortH_sorted A) h) ((intoL_perm _ h).trans (((sortH_perm A).cons h).trans (List.perm_append_singleton h A).symm))).symm
theorem foldl_into {A : List H} (l : List H) : l.foldl intoL (sortH A) = sortH (A ++ l) := by
  induction l generalizing A with
  | nil => simp
  | cons h l ih => rw [List.foldl_cons, into_sort, ih, List.append_assoc, List.singleton_append]
theorem foldl_sort (l : List H) : l.foldl intoL [] = sortH l := by
  have := foldl_into (A := []) l
  rwa [sortH_nil, List.nil_append] at this
theorem intoL_take (l : List H) (h : H) (k : Nat) : (intoL (l.take k) h).take k = (intoL l h).take k := by
  induction l generalizing k with
  | nil => simp
  | cons a l ih =>
    cases k with
    | zero => simp
    | succ k =>
      simp only [List.take_succ_cons, intoL]
      split
      · cases k with
        | zero => simp
        | succ k => simp [List.take_take]
      · rw [List.take_succ_cons, List.take_succ_cons, ih]
theorem intoL_all {l : List H} {h : H} (hl : ∀ a ∈ l, ltH h a = false) : intoL l h = l ++ [h] := by
  induction l with
  | nil => rfl
  | cons a l ih =>
    simp only [intoL]
    rw [hl a List.mem_cons_self, if_neg (by simp), ih (fun b hb => hl b (List.mem_cons_of_mem _ hb))]
    rfl
theorem intoL_last {l : List H} {h m : H} (hm : ltH h m = true) : intoL (l ++ [m]) h = intoL l h ++ [m] := by
  induction l with
  | nil => simp [intoL, hm]
  | cons a l ih =>
    simp only [List.cons_append, intoL]
    split
    · rfl
    · rw [ih]; rfl
/-! ### the heap -/
def Heap (A : List H) : Prop := ∀ i, 0 < i → i < A.length → ltH (rdH A ((i - 1) / 2)) (rdH A i) = false
theorem rdH_get {A : List H} {i : Nat} (h : i < A.length) : rdH A i = A[i] := by simp [rdH, List.getD_eq_getElem?_getD, List.getElem?_eq_getElem h]
theorem swap_perm {A : List H} {p i : Nat} (hp : p < A.length) (hi : i < A.length) : (swapL A p i).Perm A := by
  unfold swapL
  rw [rdH_get hp, rdH_get hi]
  exact List.set_set_perm hp hi
theorem rdH_swap {A : List H} {p i : Nat} (hp : p < A.length) (hi : i < A.length) (j : Nat) : rdH (swapL A p i) j = if j = i then rdH A p else if j = p then rdH A i else rdH A j := by
  unfold swapL
  simp only [rdH, List.getD_eq_getElem?_getD, List.getElem?_set, List.length_set]
  by_cases h1 : j = i
  · subst h1; simp [hi]
  · rw [if_neg (fun e => h1 e.symm), if_neg h1]
    by_cases h2 : j = p
    · subst h2; simp [hp]
    · rw [if_neg (fun e => h2 e.symm), if_neg h2]
/-- All but one place is in order upward of it: on the way up at i. -/
def UpAt (A : List H) (i : Nat) : Prop :=
  (∀ j, 0 < j → j < A.length → j ≠ i → ltH (rdH A ((j - 1) / 2)) (rdH A j) = false) ∧
  (∀ j, 0 < j → j < A.length → (j - 1) / 2 = i → 0 < i → ltH (rdH A ((i - 1) / 2)) (rdH A j) = false)
theorem up_heap (f : Nat) : ∀ (A : List H) (i : Nat), i < f → i < A.length → UpAt A i → Heap (upL f A i) ∧ (upL f A i).Perm A := by
  induction f with
  | zero => intro A i h; omega
  | succ f ih =>
    intro A i hf hi hU
    simp only [upL]
    split
    · rename_i h0
      exact ⟨fun j h1 h2 => hU.1 j h1 h2 (by omega), List.Perm.refl _⟩
    rename_i h0
    have hp : (i - 1) / 2 < A.length := by omega
    split
    · rename_i hlt
      have hUp : UpAt (swapL A ((i - 1) / 2) i) ((i - 1) / 2) := by
        refine ⟨fun j h1 h2 h3 => ?_, fun j h1 h2 h3 h4 => ?_⟩
        · rw [swapL_len] at h2
          rw [rdH_swap hp hi, rdH_swap hp hi]
          by_cases hj : j = i
          · subst hj
            rw [if_neg (by omega), if_pos rfl, if_pos rfl]
            exact leH_yes.1 (ltH_le hlt)
          · rw [if_neg hj, if_neg h3]
            by_cases hk : (j - 1) / 2 = i
            · rw [if_pos hk]
              exact hU.2 j h1 h2 hk (by omega)
            · rw [if_neg hk]
              have h5 := hU.1 j h1 h2 hj
              split
              · rename_i hk2
                rw [hk2] at h5
                rw [ltH_iff] at hlt; rw [ltH_no] at *; omega
              · exact h5
        · rw [swapL_len] at h2
          rw [rdH_swap hp hi, rdH_swap hp hi, if_neg (by omega), if_neg (by omega)]
          have h6 := hU.1 ((i - 1) / 2) h4 hp (by omega)
          split
          · exact h6
          · rw [if_neg (by omega)]
            rename_i hj
            have h5 := hU.1 j h1 h2 hj
            rw [h3] at h5
            rw [ltH_no] at *; omega
      have := ih (swapL A ((i - 1) / 2) i) ((i - 1) / 2) (by omega) (by rw [swapL_len]; exact hp) hUp
      exact ⟨this.1, this.2.trans (swap_perm hp hi)⟩
    · rename_i hlt
      refine ⟨fun j h1 h2 => ?_, List.Perm.refl _⟩
      by_cases hj : j = i
      · subst hj; simpa using hlt
      · exact hU.1 j h1 h2 hj
theorem kid_lt {A : List H} {i : Nat} (h : ¬ A.length ≤ 2 * i + 1) : kid A i < A.length ∧ 0 < kid A i ∧ (kid A i - 1) / 2 = i := by
  unfold kid
  split
  · omega
  · omega
theorem kid_max {A : List H} {i j : Nat} (hj : j < A.length) (h0 : 0 < j) (hp : (j - 1) / 2 = i) : ltH (rdH A (kid A i)) (rdH A j) = false := by
  have hj2 : j = 2 * i + 1 ∨ j = 2 * i + 2 := by omega
  unfold kid
  split
  · rename_i h
    rcases hj2 with rfl | rfl
    · exact leH_yes.1 (ltH_le h.2)
    · exact ltH_irrefl _
  · rename_i h
    rcases hj2 with rfl | rfl
    · exact ltH_irrefl _
    · cases hc : ltH (rdH A (2 * i + 1)) (rdH A (2 * i + 2)) with
      | false => rfl
      | true => exact absurd ⟨hj, hc⟩ h
/-- All but the pairs below i are in order: on the way down at i. -/
def DownAt (A : List H) (i : Nat) : Prop :=
  (∀ j, 0 < j → j < A.length → (j - 1) / 2 ≠ i → ltH (rdH A ((j - 1) / 2)) (rdH A j) = false) ∧
  (∀ j, 0 < j → j < A.length → (j - 1) / 2 = i → 0 < i → ltH (rdH A ((i - 1) / 2)) (rdH A j) = false)
theorem down_heap (f : Nat) : ∀ (A : List H) (i : Nat), A.length < f + i → i < A.length → DownAt A i → Heap (downL f A i) ∧ (downL f A i).Perm A := by
  induction f with
  | zero => intro A i h h2; omega
  | succ f ih =>
    intro A i hf hi hD
    simp only [downL]
    split
    · rename_i h0
      exact ⟨fun j h1 h2 => hD.1 j h1 h2 (by omega), List.Perm.refl _⟩
    rename_i h0
    obtain ⟨hc, hc0, hcp⟩ := kid_lt h0
    split
    · rename_i hlt
      have hDn : DownAt (swapL A i (kid A i)) (kid A i) := by
        refine ⟨fun j h1 h2 h3 => ?_, fun j h1 h2 h3 h4 => ?_⟩
        · rw [swapL_len] at h2
          rw [rdH_swap hi hc, rdH_swap hi hc, if_neg h3]
          by_cases hk : (j - 1) / 2 = i
          · rw [if_pos hk]
            split
            · exact leH_yes.1 (ltH_le hlt)
            · rw [if_neg (by omega)]
              exact kid_max h2 h1 hk
          · rw [if_neg hk, if_neg (by rintro rfl; exact hk hcp)]
            split
            · rename_i hj
              have hji : j = i := hj
              have := hD.2 (kid A i) hc0 hc hcp (by omega)
              rw [hji]
              exact this
            · rename_i hj
              exact hD.1 j h1 h2 hk
        · rw [swapL_len] at h2
          rw [rdH_swap hi hc, rdH_swap hi hc, hcp, if_neg (by omega), if_pos rfl, if_neg (by omega), if_neg (by omega)]
          have := hD.1 j h1 h2 (by omega)
          rw [h3] at this
          exact this
      have := ih (swapL A i (kid A i)) (kid A i) (by rw [swapL_len]; omega) (by rw [swapL_len]; exact hc) hDn
      exact ⟨this.1, this.2.trans (swap_perm hi hc)⟩
    · rename_i hlt
      refine ⟨fun j h1 h2 => ?_, List.Perm.refl _⟩
      by_cases hj : (j - 1) / 2 = i
      · have := kid_max h2 h1 hj
        have hlt' : ltH (rdH A i) (rdH A (kid A i)) = false := by simpa using hlt
        rw [hj, ltH_no] at *
        omega
      · exact hD.1 j h1 h2 hj
theorem heap_max {A : List H} (h : Heap A) (i : Nat) (hi : i < A.length) : ltH (rdH A 0) (rdH A i) = false := by
  induction i using Nat.strongRecOn with
  | _ i ih =>
    rcases Nat.eq_zero_or_pos i with rfl | h0
    · exact ltH_irrefl _
    · have h1 := ih ((i - 1) / 2) (by omega) (by omega)
      have h2 := h i h0 hi
      rw [ltH_no] at *; omega
theorem heap_top {a : H} {A : List H} (h : Heap (a :: A)) : ∀ b ∈ A, leH b a = true := by
  intro b hb
  obtain ⟨i, hi, rfl⟩ := List.getElem_of_mem hb
  have := heap_max h (i + 1) (by simpa using hi)
  rw [rdH_get (by simp), rdH_get (by simpa using hi)] at this
  exact leH_yes.2 (by simpa using this)
theorem heap_sort {a : H} {A : List H} (h : Heap (a :: A)) : sortH (a :: A) = sortH A ++ [a] := by
  refine sortH_eq (List.pairwise_append.2 ⟨sortH_sorted A, List.pairwise_singleton _ _, fun x hx y hy => ?_⟩) ((List.perm_append_singleton a _).trans ((sortH_perm A).cons a))
  rw [List.mem_singleton.1 hy]
  exact heap_top h x ((sortH_perm A).mem_iff.1 hx)
theorem heap_nil : Heap [] := fun i _ h => by simp at h
/-- What a selector keeps when a hit is put. -/
theorem put_heap {k : Nat} {A : List H} {h : H} (hA : Heap A) (hk : A.length ≤ k) : Heap (putL k A h) ∧ (putL k A h).length ≤ k ∧ sortH (putL k A h) = (intoL (sortH A) h).take k := by
  unfold putL
  split
  · rename_i hlt
    have hU : UpAt (A ++ [h]) A.length := by
      refine ⟨fun j h1 h2 h3 => ?_, fun j h1 h2 h3 h4 => ?_⟩
      · have h2' : j < A.length := by simp at h2; omega
        have := hA j h1 h2'
        rw [rdH_get (by omega), rdH_get h2'] at this
        rw [rdH_get (by simp; omega), rdH_get (by simp; omega), List.getElem_append_left (by omega), List.getElem_append_left h2']
        exact this
      · have h2' : j ≤ A.length := by simp at h2; omega
        omega
    have := up_heap (A.length + 1) (A ++ [h]) A.length (by omega) (by simp) hU
    refine ⟨this.1, by rw [upL_len]; simp; omega, ?_⟩
    rw [sortH_congr this.2, ← into_sort, List.take_of_length_le (by rw [intoL_len, sortH_len]; omega)]
  rename_i hge
  have hAk : A.length = k := by omega
  cases A with
  | nil =>
    have : k = 0 := by simpa using hAk.symm
    subst this
    simp [sortH_nil, heap_nil]
  | cons a A =>
    have h0 : rdH (a :: A) 0 = a := rfl
    rw [h0]
    split
    · rename_i hlt
      have hD : DownAt ((a :: A).set 0 h) 0 := by
        refine ⟨fun j h1 h2 h3 => ?_, fun j h1 h2 h3 h4 => by omega⟩
        have h2' : j < (a :: A).length := by simpa using h2
        have := hA j h1 h2'
        rw [rdH_get (by omega), rdH_get h2'] at this
        rw [rdH_get (by simp at *; omega), rdH_get (by simpa using h2'), List.getElem_set_ne (by omega), List.getElem_set_ne (by omega)]
        exact this
      have := down_heap ((a :: A).length + 1) ((a :: A).set 0 h) 0 (by simp) (by simp) hD
      refine ⟨this.1, by rw [downL_len]; simpa using hk, ?_⟩
      rw [sortH_congr this.2, heap_sort hA, intoL_last hlt.2, List.take_append_of_le_length (by rw [intoL_len, sortH_len]; simp at hAk; omega), List.take_of_length_le (by rw [intoL_len, sortH_len]; simp at hAk; omega), into_sort]
      exact sortH_congr (List.perm_append_singleton h A).symm
    · rename_i hlt
      have hlt' : ltH h a = false := by
        cases hc : ltH h a with
        | false => rfl
        | true => exact absurd ⟨by simp at hAk; omega, hc⟩ hlt
      refine ⟨hA, hk, ?_⟩
      rw [intoL_all (fun b hb => ?_), List.take_append_of_le_length (by rw [sortH_len]; omega), List.take_of_length_le (by rw [sortH_len]; omega)]
      have hb' := (sortH_perm _).mem_iff.1 hb
      rcases List.mem_cons.1 hb' with rfl | hb'
      · exact hlt'
      · have := heap_top hA b hb'
        rw [leH_iff] at this
        rw [ltH_no] at *
        omega
/-- The worst one is the last of the list. -/
theorem heap_worst {A : List H} (hA : Heap A) (h : 0 < A.length) : (sortH A).getLast? = some (rdH A 0) := by
  cases A with
  | nil => simp at h
  | cons a A => rw [heap_sort hA]; simp; rfl
/-! ### the least k of a list -/
def leastH (k : Nat) (l : List H) : List H := (sortH l).take k
theorem least_snoc (k : Nat) (l : List H) (h : H) : (intoL (leastH k l) h).take k = leastH k (l ++ [h]) := by
  unfold leastH
  rw [intoL_take, into_sort]
theorem least_len (k : Nat) (l : List H) : (leastH k l).length = min k l.length := by unfold leastH; rw [List.length_take, sortH_len]
theorem least_perm {k : Nat} {l m : List H} (h : l.Perm m) : leastH k l = leastH k m := by unfold leastH; rw [sortH_congr h]
theorem least_take {k j : Nat} (h : j ≤ k) (l : List H) : (leastH k l).take j = leastH j l := by unfold leastH; rw [List.take_take, Nat.min_eq_left h]
theorem least_all {k : Nat} {l : List H} (h : l.length ≤ k) : leastH k l = sortH l := by unfold leastH; rw [List.take_of_length_le (by rw [sortH_len]; exact h)]
theorem fold_take (k : Nat) (l s t : List H) (h : s.take k = t.take k) : (l.foldl intoL s).take k = (l.foldl intoL t).take k := by
  induction l generalizing s t with
  | nil => exact h
  | cons a l ih =>
    rw [List.foldl_cons, List.foldl_cons]
    refine ih _ _ ?_
    rw [← intoL_take, h, intoL_take]
theorem least_left (k : Nat) (l m : List H) : leastH k (leastH k l ++ m) = leastH k (l ++ m) := by
  show (sortH _).take k = (sortH _).take k
  rw [← foldl_into, ← foldl_into]
  refine fold_take k m _ _ ?_
  have : sortH (leastH k l) = leastH k l := sortH_id ((sortH_sorted l).take k)
  rw [this]
  simp [leastH, List.take_take]
theorem least_both (k : Nat) (l m : List H) : leastH k (leastH k l ++ leastH k m) = leastH k (l ++ m) := by
  rw [least_left, least_perm List.perm_append_comm, least_left, least_perm List.perm_append_comm]
def mergeOf (a b : List H) (k : Int) : List H := (sortH (a ++ b)).take (max 0 (min k (a ++ b).length)).toNat
theorem merge_least (a b : List H) (k : Int) : mergeOf a b k = leastH k.toNat (a ++ b) := by
  unfold mergeOf leastH
  by_cases h : k ≤ (a ++ b).length
  · congr 1; omega
  · rw [List.take_of_length_le (by rw [sortH_len]; omega), List.take_of_length_le (by rw [sortH_len]; omega)]
/-- How many of a sorted list are less than its element i: at most i. -/
theorem count_less {l : List H} (hl : SortedH l) (i : Nat) (hi : i < l.length) (x : H) (hx : x = l[i]) : l.countP (fun a => ltH a x) ≤ i := by
  have e : l.take i ++ l.drop i = l := List.take_append_drop i l
  have h2 : (l.drop i).countP (fun a => ltH a x) = 0 := by
    rw [List.countP_eq_zero]
    intro a ha
    have hd : l.drop i = l[i] :: l.drop (i + 1) := List.drop_eq_getElem_cons hi
    have hs : SortedH (l.drop i) := List.Pairwise.sublist (List.drop_sublist i l) hl
    rw [hd, ← hx] at ha hs
    rcases List.mem_cons.1 ha with rfl | ha
    · rw [ltH_irrefl]; simp
    · rw [leH_yes.1 ((List.pairwise_cons.1 hs).1 a ha)]; simp
  rw [← e, List.countP_append, h2, Nat.add_zero]
  exact Nat.le_trans List.countP_le_length (by rw [List.length_take]; omega)
end Go.Proofs.Ytchiobhklbefjaa.Tk
