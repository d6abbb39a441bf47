/- Past: copies of lists; an item's own copy; New, Last, Rows. No condition. -/
import Derived.Test.YtjbakaplcjkniaaPa1
import Derived.Laws.AppendOwnNone
import Derived.Laws.StructEq
import Derived.Test.YtjbakaplcjkniaaWTab
namespace Go.Proofs.Ytjbakaplcjkniaa.Pa
open Go.RowKit Go.Proofs.YtjbakaplcjkniaaW.PrintWords Go.Proofs.YtjbakaplcjkniaaW.PrintLast Go.Proofs.YtjbakaplcjkniaaW.PrintMore Go.Proofs.Ytjbakaplcjkniaa.Pi
set_option linter.unusedVariables false
set_option linter.unusedSimpArgs false
def own.T1 : Bool × List (List Nat × List Nat) := (true, [([], []), ([0], [0]), ([], []), ([2], [2]), ([3], [3]), ([], []), ([5], [5]), ([6, 4], [6]), ([1, 4, 7], [1, 4, 7]), ([8, 7, 0, 1, 2, 3, 4, 5, 6, 7, 8], [8])])
def own.B1 : List Nat := [0, 1, 0, 4, 12, 0, 32, 124, 255, 511]
theorem own.tab1 : rtab .any (opsOf Try.f43 1) = own.T1 := by kernel_rfl
theorem own.bits1 : waitsOk own.T1.2 own.B1 = true := by kernel_rfl
/-- An empty list that was just made. -/
theorem R_empty {α : Type} (d : Kd α) (e : Nat) (w : World) (base : Nat) (hb : base ≤ w.heap.size) : d.R e (w.alloc (.cells #[] e)) base (fun _ => True) (.slice (some ⟨w.heap.size, 0, none⟩) 0 0) [] :=
  ⟨fun _ _ => trivial, [], ⟨by simp, .inr ⟨w.heap.size, 0, #[], rfl, hb, heap_alloc_new w _, Nat.le_refl _, by unfold maxLen; omega, by simp, by simp⟩⟩, by simp, fun j x h => by simp at h⟩
set_option maxHeartbeats 2000000 in
set_option maxRecDepth 100000 in
theorem cloneI_calls (ao : Option Addr) (n cap : Nat) (B : List Int) (w : World) (hn : B.length = n) (hC : Kd.C (Kd.int .i32) w ao n B) (hl : n ≤ 1000000) :
    Calls Try.prog 55 #[.slice ao n cap] w fun e w' => (∃ v, e = .returned v ∧ (Kd.int .i32).R 21 w' w.heap.size (fun _ => True) v B) ∧ Below w.heap.size w w' := by
  cases ao with
  | none =>
    have h0 : n = 0 := by
      rcases Nat.eq_zero_or_pos n with h | h
      · exact h
      · obtain ⟨ad, e, _⟩ := hC.2.2 h; cases e
    have hB : B = [] := List.length_eq_zero_iff.1 (by omega)
    have HB := Aside0.mk hB
    have q22 : ∀ (w : World) (a : Option Addr) (n c n' c' : Nat), (binOp .eql 51 (.slice a n c) (.slice none n' c')).run Try.prog w = .ok (.bool a.isNone) w := fun w a n c n' c' => Lib.run_eql_slice_nil w _ _ a n c n' c' Try.underlying51
    clear hB hC h0 hn hl
    go_enter Try.func55, Try.ntmps55
    go_wp2
    go_ret
    exact ⟨⟨_, rfl, by rw [HB.out]; exact Kd.R_nil _ _ _ _ _⟩, Below.refl _ _⟩
  | some ad =>
    have HC := Aside0.mk hC
    have HN := Aside0.mk hn
    clear hC hn
    have q22 : ∀ (w : World) (a : Option Addr) (n c n' c' : Nat), (binOp .eql 51 (.slice a n c) (.slice none n' c')).run Try.prog w = .ok (.bool a.isNone) w := fun w a n c n' c' => Lib.run_eql_slice_nil w _ _ a n c n' c' Try.underlying51
    go_enter Try.func55, Try.ntmps55
    go_wp2_with (at_builtin; go_must (refine Kd.R_append_rows (Kd.int .i32) w.heap.size rfl (.tmp 5) (.tmp 6) 51 21 (.int .i32 0) 4 rfl Try.underlying51 (by kernel_rfl) (by rfl) (by decide) (by decide) _ [] B (some ad) n cap (fun _ => True) (fun _ => False) rfl rfl (R_empty (Kd.int .i32) 21 w w.heap.size (Nat.le_refl _)) (Kd.C_below HC.out (below_alloc (Below.refl _ _) _)) (fun _ _ h => h) (fun k hk => hk.elim) (fun _ _ => trivial) (below_alloc (Below.refl _ _) _) (by rw [World.size_alloc]; omega) (by show (0 + n) * 4 ≤ _; omega) ?_); intro v1 w1 h1 hb hg hat; rw [List.nil_append] at h1; have H1 := Aside0.mk h1; have HB := Aside0.mk hb; clear h1 hb hg hat)
    go_ret
    exact ⟨⟨_, rfl, H1.out⟩, HB.out⟩
set_option maxHeartbeats 2000000 in
set_option maxRecDepth 100000 in
theorem cloneS_calls (ao : Option Addr) (n cap : Nat) (B : List ByteArray) (w : World) (hn : B.length = n) (hC : Kd.C (Kd.string) w ao n B) (hl : n ≤ 1000000) :
    Calls Try.prog 56 #[.slice ao n cap] w fun e w' => (∃ v, e = .returned v ∧ (Kd.string).R 9 w' w.heap.size (fun _ => True) v B) ∧ Below w.heap.size w w' := by
  cases ao with
  | none =>
    have h0 : n = 0 := by
      rcases Nat.eq_zero_or_pos n with h | h
      · exact h
      · obtain ⟨ad, e, _⟩ := hC.2.2 h; cases e
    have hB : B = [] := List.length_eq_zero_iff.1 (by omega)
    have HB := Aside0.mk hB
    have q22 : ∀ (w : World) (a : Option Addr) (n c n' c' : Nat), (binOp .eql 52 (.slice a n c) (.slice none n' c')).run Try.prog w = .ok (.bool a.isNone) w := fun w a n c n' c' => Lib.run_eql_slice_nil w _ _ a n c n' c' Try.underlying52
    clear hB hC h0 hn hl
    go_enter Try.func56, Try.ntmps56
    go_wp2
    go_ret
    exact ⟨⟨_, rfl, by rw [HB.out]; exact Kd.R_nil _ _ _ _ _⟩, Below.refl _ _⟩
  | some ad =>
    have HC := Aside0.mk hC
    have HN := Aside0.mk hn
    clear hC hn
    have q22 : ∀ (w : World) (a : Option Addr) (n c n' c' : Nat), (binOp .eql 52 (.slice a n c) (.slice none n' c')).run Try.prog w = .ok (.bool a.isNone) w := fun w a n c n' c' => Lib.run_eql_slice_nil w _ _ a n c n' c' Try.underlying52
    go_enter Try.func56, Try.ntmps56
    go_wp2_with (at_builtin; go_must (refine Kd.R_append_rows (Kd.string) w.heap.size rfl (.tmp 5) (.tmp 6) 52 9 (.string ByteArray.empty) 16 rfl Try.underlying52 (by kernel_rfl) (by rfl) (by decide) (by decide) _ [] B (some ad) n cap (fun _ => True) (fun _ => False) rfl rfl (R_empty (Kd.string) 9 w w.heap.size (Nat.le_refl _)) (Kd.C_below HC.out (below_alloc (Below.refl _ _) _)) (fun _ _ h => h) (fun k hk => hk.elim) (fun _ _ => trivial) (below_alloc (Below.refl _ _) _) (by rw [World.size_alloc]; omega) (by show (0 + n) * 16 ≤ _; omega) ?_); intro v1 w1 h1 hb hg hat; rw [List.nil_append] at h1; have H1 := Aside0.mk h1; have HB := Aside0.mk hb; clear h1 hb hg hat)
    go_ret
    exact ⟨⟨_, rfl, H1.out⟩, HB.out⟩
set_option maxHeartbeats 2000000 in
set_option maxRecDepth 100000 in
theorem cloneU_calls (ao : Option Addr) (n cap : Nat) (B : List Int) (w : World) (hn : B.length = n) (hC : Kd.C (Kd.int .u64) w ao n B) (hl : n ≤ 1000000) :
    Calls Try.prog 46 #[.slice ao n cap] w fun e w' => (∃ v, e = .returned v ∧ (Kd.int .u64).R 50 w' w.heap.size (fun _ => True) v B) ∧ Below w.heap.size w w' := by
  cases ao with
  | none =>
    have h0 : n = 0 := by
      rcases Nat.eq_zero_or_pos n with h | h
      · exact h
      · obtain ⟨ad, e, _⟩ := hC.2.2 h; cases e
    have hB : B = [] := List.length_eq_zero_iff.1 (by omega)
    have HB := Aside0.mk hB
    have q22 : ∀ (w : World) (a : Option Addr) (n c n' c' : Nat), (binOp .eql 67 (.slice a n c) (.slice none n' c')).run Try.prog w = .ok (.bool a.isNone) w := fun w a n c n' c' => Lib.run_eql_slice_nil w _ _ a n c n' c' Try.underlying67
    clear hB hC h0 hn hl
    go_enter Try.func46, Try.ntmps46
    go_wp2
    go_ret
    exact ⟨⟨_, rfl, by rw [HB.out]; exact Kd.R_nil _ _ _ _ _⟩, Below.refl _ _⟩
  | some ad =>
    have HC := Aside0.mk hC
    have HN := Aside0.mk hn
    clear hC hn
    have q22 : ∀ (w : World) (a : Option Addr) (n c n' c' : Nat), (binOp .eql 67 (.slice a n c) (.slice none n' c')).run Try.prog w = .ok (.bool a.isNone) w := fun w a n c n' c' => Lib.run_eql_slice_nil w _ _ a n c n' c' Try.underlying67
    go_enter Try.func46, Try.ntmps46
    go_wp2_with (at_builtin; go_must (refine Kd.R_append_rows (Kd.int .u64) w.heap.size rfl (.tmp 5) (.tmp 6) 67 50 (.int .u64 0) 8 rfl Try.underlying67 (by kernel_rfl) (by rfl) (by decide) (by decide) _ [] B (some ad) n cap (fun _ => True) (fun _ => False) rfl rfl (R_empty (Kd.int .u64) 50 w w.heap.size (Nat.le_refl _)) (Kd.C_below HC.out (below_alloc (Below.refl _ _) _)) (fun _ _ h => h) (fun k hk => hk.elim) (fun _ _ => trivial) (below_alloc (Below.refl _ _) _) (by rw [World.size_alloc]; omega) (by show (0 + n) * 8 ≤ _; omega) ?_); intro v1 w1 h1 hb hg hat; rw [List.nil_append] at h1; have H1 := Aside0.mk h1; have HB := Aside0.mk hb; clear h1 hb hg hat)
    go_ret
    exact ⟨⟨_, rfl, H1.out⟩, HB.out⟩
/-- An item's parts. -/
structure Parts (w : World) (x : Row) (A1 : Option Addr) (c1 : Nat) (A2 : Option Addr) (c2 : Nat) : Prop where
  fit1 : x.vec.length ≤ c1
  vec : Kd.C (Kd.int .i32) w A1 x.vec.length x.vec
  fit2 : x.tags.length ≤ c2
  tags : Kd.C Kd.string w A2 x.tags.length x.tags
  len : x.vec.length ≤ 100000 ∧ x.tags.length ≤ 100000
theorem Parts.below {w w1 : World} {x : Row} {A1 : Option Addr} {c1 : Nat} {A2 : Option Addr} {c2 : Nat} (h : Parts w x A1 c1 A2 c2) (hb : Below w.heap.size w w1) : Parts w1 x A1 c1 A2 c2 := ⟨h.fit1, Kd.C_below h.vec hb, h.fit2, Kd.C_below h.tags hb, h.len⟩
abbrev rowV (w : World) (base : Nat) (v : Value) (l : List Int) : Prop := (Kd.int .i32).R 21 w base (fun _ => True) v l
abbrev rowT (w : World) (base : Nat) (v : Value) (l : List ByteArray) : Prop := Kd.string.R 9 w base (fun _ => True) v l
set_option maxHeartbeats 4000000 in
set_option maxRecDepth 100000 in
theorem own_calls (x : Row) (A1 : Option Addr) (c1 : Nat) (A2 : Option Addr) (c2 : Nat) (w : World) (hP : Parts w x A1 c1 A2 c2) :
    Calls Try.prog 43 #[.agg #[.int .u32 x.id, .slice A1 x.vec.length c1, .slice A2 x.tags.length c2]] w fun e w' => (∃ v1 v2, e = .returned (.agg #[.int .u32 x.id, v1, v2]) ∧ rowV w' w.heap.size v1 x.vec ∧ rowT w' w.heap.size v2 x.tags) ∧ Below w.heap.size w w' := by
  have hu := Try.underlying54
  have HP := Aside0.mk hP
  clear hP
  go_enter Try.func43, Try.ntmps43
  go_wp2_with fail
  have hb1 := below_alloc (Below.refl w.heap.size w) (.cells #[.int .u32 x.id, .slice A1 x.vec.length c1, .slice A2 x.tags.length c2] 54)
  obtain ⟨wa, hwa⟩ : ∃ z, w.alloc (.cells #[.int .u32 x.id, .slice A1 x.vec.length c1, .slice A2 x.tags.length c2] 54) = z := ⟨_, rfl⟩
  have hx1 := heap_alloc_new w (.cells #[.int .u32 x.id, .slice A1 x.vec.length c1, .slice A2 x.tags.length c2] 54)
  have hs1 := World.size_alloc w (.cells #[.int .u32 x.id, .slice A1 x.vec.length c1, .slice A2 x.tags.length c2] 54)
  rw [hwa] at hb1 hx1 hs1 ⊢
  have hb2 := below_alloc (Below.refl wa.heap.size wa) (.cells #[.int .u32 0, .slice none 0 0, .slice none 0 0] 54)
  have hx2 := heap_alloc_new wa (.cells #[.int .u32 0, .slice none 0 0, .slice none 0 0] 54)
  obtain ⟨wb, hwb⟩ : ∃ z, wa.alloc (.cells #[.int .u32 0, .slice none 0 0, .slice none 0 0] 54) = z := ⟨_, rfl⟩
  rw [hwb] at hb2 hx2 ⊢
  rw [hs1] at hx2
  have HB := Aside0.mk (bel_trans (bel_trans hb1 hb2) (below_drew (Below.refl _ _)))
  have HX := Aside0.mk (blk_below (blk_below hx1 hb2) (below_drew (Below.refl _ _)))
  have HY := Aside0.mk (blk_below hx2 (below_drew (Below.refl _ _)))
  clear hb1 hb2 hx1 hx2 hs1 hwa hwb
  refine start_ (n := 10) (S := fun w' => w'.cell? ⟨w.heap.size, 0, none⟩ = some (.int .u32 x.id) ∧ w'.cell? ⟨w.heap.size, 1, none⟩ = some (.slice A1 x.vec.length c1) ∧ w'.cell? ⟨w.heap.size, 2, none⟩ = some (.slice A2 x.tags.length c2)) (ds := [9]) #[false, false, false, false, false, false, false, false, false, false] (by kernel_rfl) rfl rfl ⟨((blk_cell HX.out 0).trans rfl), ((blk_cell HX.out 1).trans rfl), ((blk_cell HX.out 2).trans rfl)⟩ (fun hHeld => ?_)
  refine with_tabW own.tab1 own.bits1 (fun HT_ HW_ => ?_)
  generalize wb.drew = wd at HB HX HY hHeld ⊢
  refine pure_ (i := 0) (N := some 3) (v := ?_) (a' := ?_) #[true, false, false, false, false, false, false, false, false, false] rfl rfl (any_of HT_.out (by kernel_rfl)) (fun _ _ _ h => h) (Or.inl ⟨by rfl, ?_⟩) ?_ ?_
  rotate_left
  · intro w'
    go_simp
    with_reducible rfl
  rotate_left
  · simp only [Act.put, List.setIfInBounds_toArray, List.set_cons_zero, List.set_cons_succ, i64_w, i32_w]
    rfl
  refine pure_ (i := 2) (N := some 5) (v := ?_) (a' := ?_) #[true, false, true, false, false, false, false, false, false, false] rfl rfl (any_of HT_.out (by kernel_rfl)) (fun _ _ _ h => h) (Or.inl ⟨by rfl, ?_⟩) ?_ ?_
  rotate_left
  · intro w'
    go_simp
    with_reducible rfl
  rotate_left
  · simp only [Act.put, List.setIfInBounds_toArray, List.set_cons_zero, List.set_cons_succ, i64_w, i32_w]
    rfl
  refine pure_ (i := 5) (N := some 8) (v := ?_) (a' := ?_) #[true, false, true, false, false, true, false, false, false, false] rfl rfl (any_of HT_.out (by kernel_rfl)) (fun _ _ _ h => h) (Or.inl ⟨by rfl, ?_⟩) ?_ ?_
  rotate_left
  · intro w'
    go_simp
    with_reducible rfl
  rotate_left
  · simp only [Act.put, List.setIfInBounds_toArray, List.set_cons_zero, List.set_cons_succ, i64_w, i32_w]
    rfl
  refine take_ (i := 1) (N := some 4) (v := ?_) (a' := ?_) #[true, true, true, false, false, true, false, false, false, false] rfl rfl (take_ofW HT_.out HW_.out (by kernel_rfl)) (fun _ _ _ h => h) (Or.inl ⟨by rfl, ?_⟩) hHeld ?_ ?_
  rotate_left
  · rintro w' ⟨s0, s1, s2⟩
    go_simp
    with_reducible rfl
  rotate_left
  · simp only [Act.put, List.setIfInBounds_toArray, List.set_cons_zero, List.set_cons_succ, i64_w, i32_w]
    rfl
  refine take_ (i := 3) (N := some 6) (v := ?_) (a' := ?_) #[true, true, true, true, false, true, false, false, false, false] rfl rfl (take_ofW HT_.out HW_.out (by kernel_rfl)) (fun _ _ _ h => h) (Or.inl ⟨by rfl, ?_⟩) hHeld ?_ ?_
  rotate_left
  · rintro w' ⟨s0, s1, s2⟩
    go_simp
    with_reducible rfl
  rotate_left
  · simp only [Act.put, List.setIfInBounds_toArray, List.set_cons_zero, List.set_cons_succ, i64_w, i32_w]
    rfl
  refine take_ (i := 6) (N := some 9) (v := ?_) (a' := ?_) #[true, true, true, true, false, true, true, false, false, false] rfl rfl (take_ofW HT_.out HW_.out (by kernel_rfl)) (fun _ _ _ h => h) (Or.inl ⟨by rfl, ?_⟩) hHeld ?_ ?_
  rotate_left
  · rintro w' ⟨s0, s1, s2⟩
    go_simp
    with_reducible rfl
  rotate_left
  · simp only [Act.put, List.setIfInBounds_toArray, List.set_cons_zero, List.set_cons_succ, i64_w, i32_w]
    rfl
  refine one_ (i := 4) (N := some 7) #[true, true, true, true, true, true, true, false, false, false] rfl rfl (one_of HT_.out (by kernel_rfl)) (by decide) (fun K hK => ?_)
  refine goes_ Try.func55 (by kernel_rfl) rfl #[.slice A1 x.vec.length c1] (by rfl) rfl rfl (by simp only [List.map_toArray, List.map_cons, List.map_nil]; rfl) ?_
  with_reducible refine (cloneI_calls A1 x.vec.length c1 x.vec _ rfl (HP.out.below HB.out).vec (by have := HP.out.len; omega)).mono ?_
  rintro e w3 ⟨⟨v1, rfl, h1⟩, hb⟩
  refine ⟨_, rfl, ?_⟩
  obtain ⟨a1, d1, rfl⟩ := Kd.R_slice h1
  have H1 := Aside0.mk (Kd.R_lower h1 HB.out.size)
  clear h1
  have NX := Aside0.mk (blk_below HX.out hb)
  have NY := Aside0.mk (blk_below HY.out hb)
  have NB := Aside0.mk (bel_trans HB.out hb)
  clear HX HY HB
  have HX := NX
  have HY := NY
  have HB := NB
  clear NX NY NB hb
  refine hK.out _ _ ⟨((blk_cell HX.out 0).trans rfl), ((blk_cell HX.out 1).trans rfl), ((blk_cell HX.out 2).trans rfl)⟩ (fun hHeld => ?_)
  clear hK K
  refine norm_ (a' := ?_) ?_ ?_
  rotate_left
  · show Act.put _ (some 7) _ = _
    simp only [Act.put, List.setIfInBounds_toArray, List.set_cons_zero, List.set_cons_succ, i64_w, i32_w]
    rfl
  refine one_ (i := 7) (N := some 10) #[true, true, true, true, true, true, true, true, false, false] rfl rfl (one_of HT_.out (by kernel_rfl)) (by decide) (fun K hK => ?_)
  refine goes_ Try.func56 (by kernel_rfl) rfl #[.slice A2 x.tags.length c2] (by rfl) rfl rfl (by simp only [List.map_toArray, List.map_cons, List.map_nil]; rfl) ?_
  with_reducible refine (cloneS_calls A2 x.tags.length c2 x.tags _ rfl (HP.out.below HB.out).tags (by have := HP.out.len; omega)).mono ?_
  rintro e w4 ⟨⟨v2, rfl, h2⟩, hb⟩
  refine ⟨_, rfl, ?_⟩
  obtain ⟨a2, d2, rfl⟩ := Kd.R_slice h2
  have H2 := Aside0.mk (Kd.R_lower h2 HB.out.size)
  clear h2
  have N1 := Aside0.mk (Kd.R_below H1.out hb)
  clear H1
  have H1 := N1
  clear N1
  have NX := Aside0.mk (blk_below HX.out hb)
  have NY := Aside0.mk (blk_below HY.out hb)
  have NB := Aside0.mk (bel_trans HB.out hb)
  clear HX HY HB
  have HX := NX
  have HY := NY
  have HB := NB
  clear NX NY NB hb
  refine hK.out _ _ ⟨((blk_cell HX.out 0).trans rfl), ((blk_cell HX.out 1).trans rfl), ((blk_cell HX.out 2).trans rfl)⟩ (fun hHeld => ?_)
  clear hK K
  refine norm_ (a' := ?_) ?_ ?_
  rotate_left
  · show Act.put _ (some 10) _ = _
    simp only [Act.put, List.setIfInBounds_toArray, List.set_cons_zero, List.set_cons_succ, i64_w, i32_w]
    rfl
  refine pure_ (i := 8) (N := some 11) (v := ?_) (a' := ?_) #[true, true, true, true, true, true, true, true, true, false] rfl rfl (any_of HT_.out (by kernel_rfl)) (fun _ _ _ h => h) (Or.inl ⟨by rfl, ?_⟩) ?_ ?_
  rotate_left
  · intro w'
    go_simp
    with_reducible rfl
  rotate_left
  · simp only [Act.put, List.setIfInBounds_toArray, List.set_cons_zero, List.set_cons_succ, i64_w, i32_w]
    rfl
  refine last_ (i := 9) (N := none) #[true, true, true, true, true, true, true, true, true, true] rfl rfl (one_of HT_.out (by kernel_rfl)) (by decide) (fun K hK => ?_)
  have z0 := (blk_cell HY.out 0).trans rfl
  have z1 := (blk_cell HY.out 1).trans rfl
  have z2 := (blk_cell HY.out 2).trans rfl
  have fz : ∀ j, w4.frozen? ⟨w.heap.size + 1, j, none⟩ = false := fun j => blk_frozen HY.out j
  refine skip_ (w1 := ?_) (by rfl) rfl ?_ ?_
  rotate_left
  · go_simp
    rfl
  refine hK.out _ _ ?_
  clear hK K
  refine done_ (done_of HT_.out (by kernel_rfl)) ?_
  go_wp2
  refine bodyPost_ret (results_cell_row rfl _ _ (w.heap.size + 1) 54 #[.int .u32 x.id, .slice a1 x.vec.length d1, .slice a2 x.tags.length d2] (0, 0) _ rfl (blk_put (blk_put (blk_put HY.out 0 _ rfl) 1 _ rfl) 2 _ rfl) Try.underlying54 rfl (by kernel_rfl)) rfl ?_
  have hb0 := HY.out
  have hb1 := blk_set hb0 0 (.int .u32 x.id)
  have hb2 := blk_set hb1 1 (.slice a1 x.vec.length d1)
  refine ⟨⟨_, _, rfl, Kd.R_set (Kd.R_set (Kd.R_set H1.out hb0 (by decide) 0 _) hb1 (by decide) 1 _) hb2 (by decide) 2 _, Kd.R_set (Kd.R_set (Kd.R_set H2.out hb0 (by decide) 0 _) hb1 (by decide) 1 _) hb2 (by decide) 2 _⟩, ?_⟩
  exact ((((Only.refl (fun i => i = w.heap.size + 1) w4).set ⟨w.heap.size + 1, 0, none⟩ _ rfl).set ⟨w.heap.size + 1, 1, none⟩ _ rfl).set ⟨w.heap.size + 1, 2, none⟩ _ rfl).below_of HB.out (fun i hi => by omega)
set_option maxRecDepth 100000 in
theorem pnew_calls (w : World) : Calls Try.prog 24 #[] w fun e w' => e = .returned (.pointer (some ⟨w.heap.size, 0, none⟩)) ∧ w' = w.alloc (.cells #[.slice none 0 0, .int .u64 0, .int .u64 0, .slice none 0 0] 98) := by
  have hu2 := Try.underlying98
  go_enter Try.func24, Try.ntmps24
  go_wp2
  go_ret
  exact ⟨rfl, rfl⟩
section
variable {Z : Nat → Prop} {w : World} {base g : Nat} {vL vK : Value} {L : List Row} {last floor : Int} {K : List Int}
set_option maxRecDepth 100000 in
theorem last_calls (h : Past Z w base g vL vK L last floor K) : Calls Try.prog 27 #[.pointer (some ⟨g, 0, none⟩)] w fun e w' => e = .returned (.int .u64 last) ∧ Below w.heap.size w w' := by
  have hu2 := Try.underlying98
  have y1 := h.y1
  clear h
  go_enter Try.func27, Try.ntmps27
  go_wp2
  go_ret
  exact ⟨rfl, Below.refl _ _⟩
set_option maxRecDepth 100000 in
theorem rows_calls (h : Past Z w base g vL vK L last floor K) : Calls Try.prog 29 #[.pointer (some ⟨g, 0, none⟩)] w fun e w' => e = .returned (.int .i64 L.length) ∧ Below w.heap.size w w' := by
  have hu2 := Try.underlying98
  obtain ⟨ao, cap, rfl, _, _⟩ := h.row.reads
  have y0 := h.y0
  clear h
  go_enter Try.func29, Try.ntmps29
  go_wp2
  go_ret
  exact ⟨rfl, Below.refl _ _⟩
end
end Go.Proofs.Ytjbakaplcjkniaa.Pa
