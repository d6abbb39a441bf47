/- FlatMore: the first hits of a greater k begin with those of a lesser one; one more item pushes at most one out. No condition. -/
import Derived.Test.YtchiobhklbefjaaFlI
import Derived.SizedLaws
namespace Go.Proofs.Ytchiobhklbefjaa.Fl
open Go.RowKit Go.Proofs.YtchiobhklbefjaaW.PrintWords Go.Proofs.YtchiobhklbefjaaW.PrintLast Go.Proofs.YtchiobhklbefjaaW.PrintMore Go.Proofs.Ytchiobhklbefjaa.Tk Go.Proofs.Ytchiobhklbefjaa.Q
set_option linter.unusedVariables false
set_option linter.unusedSimpArgs false
/-! ### plain -/
def hasH (A : List H) (y : H) : Bool := A.any fun z => y.f0 == z.f0 && y.f1 == z.f1
theorem hasH_mem {A : List H} {y : H} (h : y ∈ A) : hasH A y = true := List.any_eq_true.2 ⟨y, h, by simp⟩
theorem hasH_cons {A : List H} {y a : H} (h : hasH A y = true) : hasH (a :: A) y = true := by
  unfold hasH at *
  rw [List.any_cons, h, Bool.or_true]
theorem one_out (S : List H) (h : H) : ∀ k, ((intoL S h).take k).length ≤ ((intoL S h).take k).countP (hasH (S.take k)) + 1 := by
  induction S with
  | nil => intro k; simp only [intoL]; rw [List.length_take]; simp; omega
  | cons a S ih =>
    intro k
    cases k with
    | zero => simp
    | succ k =>
      simp only [intoL]
      split
      · rw [List.take_succ_cons, List.take_succ_cons, List.length_cons]
        have : ((a :: S).take k).countP (hasH (a :: S.take k)) = ((a :: S).take k).length := by
          rw [List.countP_eq_length]
          intro y hy
          refine hasH_mem ?_
          rw [← List.take_succ_cons (i := k)]
          exact (List.take_prefix_take_left (by omega : k ≤ k + 1)).subset hy
        have h2 := List.countP_le_length (p := hasH (a :: S.take k)) (l := h :: (a :: S).take k)
        rw [List.countP_cons, this]
        omega
      · rw [List.take_succ_cons, List.take_succ_cons, List.length_cons, List.countP_cons]
        have h1 := ih k
        have h2 : ((intoL S h).take k).countP (hasH (S.take k)) ≤ ((intoL S h).take k).countP (hasH (a :: S.take k)) := List.countP_mono_left (fun y _ hy => hasH_cons hy)
        have h3 : hasH (a :: S.take k) a = true := hasH_mem List.mem_cons_self
        rw [h3]
        simp only [if_true]
        omega
theorem clamp_k {k : Nat} (h : k ≤ 256) : clamp (k : Int) = k := by unfold clamp; omega
/-- What one more item does to a page. -/
theorem more_page (a : Ask) (l : List It) (x : It) (k : Nat) : let P := (sortH (a.hits l)).take k; let C := (sortH (a.hits (l ++ [x]))).take k
    C.length ≤ C.countP (hasH P) + 1 ∧ P.length ≤ C.countP (hasH P) + 1 := by
  intro P C
  have key : C.length ≤ C.countP (hasH P) + 1 := by
    show ((sortH (a.hits (l ++ [x]))).take k).length ≤ _
    rw [show C = (sortH (a.hits (l ++ [x]))).take k from rfl, a.hits_snoc]
    by_cases hw : a.wants x = true
    · rw [if_pos hw, ← sort_snoc]
      exact one_out _ _ k
    · rw [if_neg hw, List.append_nil]
      have : ((sortH (a.hits l)).take k).countP (hasH P) = ((sortH (a.hits l)).take k).length := List.countP_eq_length.2 (fun y hy => hasH_mem hy)
      rw [this]
      omega
  have hle : P.length ≤ C.length := by
    show ((sortH (a.hits l)).take k).length ≤ ((sortH (a.hits (l ++ [x]))).take k).length
    rw [List.length_take, List.length_take, sortH_len, sortH_len, a.hits_snoc, List.length_append]
    omega
  exact ⟨key, Nat.le_trans hle key⟩
/-! ### the walk -/
theorem OwnI.Cn {w : World} {base n : Nat} {v : Value} {A : List It} (h : OwnI w base v A) (hn : A.length = n) : ∃ ao cap, v = .slice ao n cap ∧ n ≤ cap ∧ Kd.C k59 w ao n A := by
  subst hn
  exact h.C
theorem great_bare {A : Option Addr} {c n : Nat} {L : List It} {r : Bool} {w : World} (hn : L.length = n) (hc : n ≤ c) (hk : Kd.C k59 w A n L) (h : lodestarref10_Great.f 100000 L [] [] [] = some r) :
    Calls Try.prog 36 #[.slice A n c, .agg #[.slice none 0 0, .slice none 0 0, .slice none 0 0]] w fun e w' => e = .returned (.bool r) ∧ Below w.heap.size w w' := by
  subst hn
  exact lodestarref10_Great.calls _ A c L none 0 [] none 0 [] none 0 [] r w hk hc (C_nil _ _) (by simp) (C_nil _ _) (by simp) (C_nil _ _) (by simp) h
theorem search_bare {m : Int} {q : List Int} {L : List It} {A B : Option Addr} {c e n : Nat} {k : Nat} {w : World} (hn : L.length = n) (hk : k ≤ 256) (h1 : Kd.C k59 w A n L) (hc : n ≤ c) (h2 : Kd.C (Kd.int .i32) w B q.length q) (he : q.length ≤ e) (hF : Fine ⟨m, q, [], [], []⟩ L) :
    Calls Try.prog 39 #[.int .u8 m, .slice A n c, .slice B q.length e, .agg #[.slice none 0 0, .slice none 0 0, .slice none 0 0], .int .i64 (k : Int)] w fun e W' => (∃ v, e = .returned v ∧ OwnH W' w.heap.size v ((sortH ((⟨m, q, [], [], []⟩ : Ask).hits L)).take k)) ∧ Below w.heap.size w W' := by
  subst hn
  have h := search_calls ⟨A, c, B, e, none, 0, none, 0, none, 0⟩ ⟨m, q, [], [], []⟩ L k w ⟨h1, hc, h2, he, C_nil _ _, Nat.le_refl _, C_nil _ _, Nat.le_refl _, C_nil _ _, Nat.le_refl _⟩ hF
  rw [putAll_least, leastH, clamp_k hk] at h
  exact h
theorem search_page {m : Int} {q : List Int} {L : List It} {A B : Option Addr} {c e n : Nat} {k : Nat} {w : World} {P : List H} (hP : (sortH ((⟨m, q, [], [], []⟩ : Ask).hits L)).take k = P) (hn : L.length = n) (hk : k ≤ 256) (h1 : Kd.C k59 w A n L) (hc : n ≤ c) (h2 : Kd.C (Kd.int .i32) w B q.length q) (he : q.length ≤ e) (hF : Fine ⟨m, q, [], [], []⟩ L) :
    Calls Try.prog 39 #[.int .u8 m, .slice A n c, .slice B q.length e, .agg #[.slice none 0 0, .slice none 0 0, .slice none 0 0], .int .i64 (k : Int)] w fun e W' => (∃ ao cap, e = .returned (.slice ao P.length cap) ∧ ReadsH W' ao cap P) ∧ Below w.heap.size w W' := by
  subst hP
  refine (search_bare hn hk h1 hc h2 he hF).mono ?_
  rintro e w1 ⟨⟨v, rfl, hv⟩, hb⟩
  obtain ⟨ao, cap, rfl, hr⟩ := hv.reads
  exact ⟨⟨ao, cap, rfl, hr⟩, hb⟩
theorem count_next {f : H → Bool} {C : List H} {i : Nat} {y : H} (h : C[i]? = some y) : (C.take (i + 1)).countP f = (C.take i).countP f + (if f y = true then 1 else 0) := by
  rw [List.take_add_one, h, List.countP_append]
  simp [List.countP_cons]
theorem reads_take {w : World} {ad : Addr} {cap n : Nat} {A : List H} (h : ReadsH w (some ad) cap A) (hn : n ≤ A.length) : ReadsH w (some ad) cap (A.take n) := by
  refine ⟨by rw [List.length_take]; have := h.1; omega, .inr ⟨ad, rfl, fun j u hj => ?_⟩⟩
  rcases h.2 with ⟨e, _⟩ | ⟨ad', e, hr⟩
  · cases e
  · cases e
    refine hr j u ?_
    have hlt := (List.getElem?_eq_some_iff.1 hj).1
    rw [cellsOf_len] at hlt
    have hs : cellsOf A = cellsOf (A.take n) ++ cellsOf (A.drop n) := by rw [← cellsOf_append, List.take_append_drop]
    rw [hs, List.getElem?_append_left (by rw [cellsOf_len]; exact hlt)]
    exact hj
theorem take_len (S : List H) (K : Nat) : (S.take (K + 1)).take (S.take K).length = S.take K := by
  rw [List.length_take, List.take_take]
  rcases Nat.le_total K S.length with h | h
  · congr 1; omega
  · rw [List.take_of_length_le (by omega), List.take_of_length_le (by omega)]
theorem hasH_not {P : List H} {y : H} (h : ∀ b z, b < P.length → P[b]? = some z → ¬ (y.f0 = z.f0 ∧ y.f1 = z.f1)) : hasH P y = false := by
  unfold hasH
  rw [List.any_eq_false]
  intro z hz
  obtain ⟨b, hb, rfl⟩ := List.getElem_of_mem hz
  have := h b _ hb (List.getElem?_eq_getElem hb)
  simpa using this
/-- An item in its box. -/
structure IBox (w : World) (b : Nat) (x : It) (X1 : Option Addr) (n1 : Nat) (X2 : Option Addr) (n2 : Nat) : Prop where
  y0 : w.cell? ⟨b, 0, none⟩ = some (.int .u32 x.f0)
  y1 : w.cell? ⟨b, 1, none⟩ = some (.slice X1 x.f1.length n1)
  y2 : w.cell? ⟨b, 2, none⟩ = some (.slice X2 x.f2.length n2)
theorem IBox.only {S : Nat → Prop} {w w1 : World} {b : Nat} {x : It} {X1 : Option Addr} {n1 : Nat} {X2 : Option Addr} {n2 : Nat} (h : IBox w b x X1 n1 X2 n2) (hO : Only S w w1) (hs : ¬ S b) : IBox w1 b x X1 n1 X2 n2 := ⟨cell_only hO h.y0 hs, cell_only hO h.y1 hs, cell_only hO h.y2 hs⟩
theorem IBox.below {w w1 : World} {b : Nat} {x : It} {X1 : Option Addr} {n1 : Nat} {X2 : Option Addr} {n2 : Nat} (h : IBox w b x X1 n1 X2 n2) (hb : Below w.heap.size w w1) : IBox w1 b x X1 n1 X2 n2 := ⟨pw_cell_below hb h.y0, pw_cell_below hb h.y1, pw_cell_below hb h.y2⟩
theorem IBox.lt {w : World} {b : Nat} {x : It} {X1 : Option Addr} {n1 : Nat} {X2 : Option Addr} {n2 : Nat} (h : IBox w b x X1 n1 X2 n2) : b < w.heap.size := by
  obtain ⟨o, ho, _⟩ := cells_of_cell h.y0
  exact (Array.getElem?_eq_some_iff.1 ho).1
theorem ibox_new (w : World) (x : It) (X1 : Option Addr) (n1 : Nat) (X2 : Option Addr) (n2 : Nat) : IBox (w.alloc (.cells #[.int .u32 x.f0, .slice X1 x.f1.length n1, .slice X2 x.f2.length n2] 59)) w.heap.size x X1 n1 X2 n2 :=
  ⟨by rw [blk_cell (heap_alloc_new w _)]; rfl, by rw [blk_cell (heap_alloc_new w _)]; rfl, by rw [blk_cell (heap_alloc_new w _)]; rfl⟩
/-- The list with one item more, behind the first append. -/
theorem more_first {w w1 w2 : World} {x : It} {X1 : Option Addr} {n1 : Nat} {X2 : Option Addr} {n2 : Nat} {L : List It} {v v2 : Value} (hb : Below w.heap.size w w1) (hx : IBox w1 w.heap.size x X1 n1 X2 n2) (hv : OwnI w2 (w.heap.size + 1) v2 L) (hO : Only (fun i => v.ownBlock = some i) w1 w2) (hs : ∀ i, v.ownBlock = some i → w.heap.size + 1 ≤ i) :
    IBox w2 w.heap.size x X1 n1 X2 n2 ∧ Below w.heap.size w w2 :=
  ⟨hx.only hO (fun h => by have := hs _ h; omega), hO.below_of hb (fun i hi => by have := hs i hi; omega)⟩
def more.T3 : Bool × List (List Nat × List Nat) := (true, [([], []), ([], []), ([0, 1], [0, 1]), ([], []), ([3], [3]), ([2, 4, 2], [2, 4]), ([], []), ([5, 6, 5], [5, 6]), ([7, 7], [7]), ([8], [8]), ([9, 8], [8, 9]), ([8, 10], [8, 10]), ([11, 8], [11]), ([12], [12]), ([13, 12], [12, 13]), ([12, 14], [12, 14])])
def more.B3 : List Nat := [0, 0, 3, 0, 8, 31, 0, 127, 255, 511, 1023, 2047, 4095, 8191, 16383, 32767]
theorem more.tab3 : rtab .any (opsOf Try.f15 3) = more.T3 := by kernel_rfl
theorem more.bits3 : waitsOk more.T3.2 more.B3 = true := by kernel_rfl
def more.T7 : Bool × List (List Nat × List Nat) := (true, [([], []), ([], []), ([], []), ([1, 2], [1, 2]), ([], []), ([4], [4]), ([3, 5, 3], [3, 5]), ([], []), ([], []), ([], []), ([0, 6, 7, 8, 9, 6], [0, 6, 7, 8, 9]), ([10, 10, 0, 1, 2, 3, 4, 5, 6, 7, 8, 9, 10], [10])])
def more.B7 : List Nat := [0, 0, 0, 6, 0, 16, 62, 0, 0, 0, 1023, 2047]
theorem more.tab7 : rtab .any (opsOf Try.f15 7) = more.T7 := by kernel_rfl
theorem more.bits7 : waitsOk more.T7.2 more.B7 = true := by kernel_rfl
set_option maxHeartbeats 16000000 in
set_option maxRecDepth 100000 in
theorem more_calls (m : Int) (A0 : Option Addr) (c0 : Nat) (l : List It) (B0 : Option Addr) (e0 : Nat) (q : List Int) (X1 : Option Addr) (n1 : Nat) (X2 : Option Addr) (n2 : Nat) (x : It) (k : Int) (w : World)
    (h1 : Kd.C k59 w A0 l.length l) (hc1 : l.length ≤ c0) (h2 : Kd.C (Kd.int .i32) w B0 q.length q) (hc2 : q.length ≤ e0) (h3 : Kd.C (Kd.int .i32) w X1 x.f1.length x.f1) (hc3 : x.f1.length ≤ n1) (h4 : Kd.C Kd.string w X2 x.f2.length x.f2) (hc4 : x.f2.length ≤ n2)
    (hm : 0 ≤ m ∧ m ≤ 255) (hreach : l.length * 56 ≤ 140737488351232) :
    Calls Try.prog 15 #[.int .u8 m, .slice A0 l.length c0, .slice B0 q.length e0, .agg #[.int .u32 x.f0, .slice X1 x.f1.length n1, .slice X2 x.f2.length n2], .int .i64 k] w fun e w' => e = .returned (.bool true) ∧ Below w.heap.size w w' := by
  have hu := Try.underlying29
  have hu3 := Try.underlying59
  have HC := Aside0.mk h1
  have HC1 := Aside0.mk hc1
  have HQ := Aside0.mk h2
  have HQ1 := Aside0.mk hc2
  have HK := Aside0.mk (k59_mk w x hc3 h3 hc4 h4)
  have HR := Aside0.mk hreach
  have HM := Aside0.mk hm
  clear h1 hc1 h2 hc2 h3 hc3 h4 hc4 hm hreach
  have HB0 := Aside0.mk (below_alloc (Below.refl w.heap.size w) (.cells #[.int .u32 x.f0, .slice X1 x.f1.length n1, .slice X2 x.f2.length n2] 59))
  have HX0 := Aside0.mk (ibox_new w x X1 n1 X2 n2)
  obtain ⟨N, hN⟩ : ∃ N, (l ++ [x]).length = N := ⟨_, rfl⟩
  have HNN := Aside0.mk hN
  clear hN
  obtain ⟨r, hr1, hr2⟩ := great_f (l ++ [x]) [] [] []
  have HG_ := Aside0.mk hr1
  have HFI := Aside0.mk hr2
  clear hr1 hr2
  have r3 : ∀ (P : Prop), (r = true → P) → (r = false → decide (k < 1) = true → P) → (r = false → decide (k < 1) = false → decide (255 < k) = true → P) → (r = false → decide (k < 1) = false → decide (255 < k) = false → P) → P := fun P h1 h2 h3 h4 => by
    cases hr : r
    · cases h5 : decide (k < 1)
      · cases h6 : decide (255 < k)
        · exact h4 hr h5 h6
        · exact h3 hr h5 h6
      · exact h2 hr h5
    · exact h1 hr
  apply r3
  all_goals clear r3
  · as_aux_lemma =>
      intro hr
      subst hr
      go_enter Try.func15, Try.ntmps15
      go_wp2_with ((go_at_call 35; (with_reducible refine (alive_calls _).mono ?_); rintro e w1 ⟨rfl, hb⟩; have HB := Aside0.mk (below_drew (bel_trans HB0.out hb)); have HX := Aside0.mk ((HX0.out.below hb).below (below_drew (Below.refl _ _))); clear hb))
      refine start_ (n := 16) (S := fun w' => w'.cell? ⟨w.heap.size, 0, none⟩ = some (.int .u32 x.f0) ∧ w'.cell? ⟨w.heap.size, 1, none⟩ = some (.slice X1 x.f1.length n1) ∧ w'.cell? ⟨w.heap.size, 2, none⟩ = some (.slice X2 x.f2.length n2)) (ds := []) #[false, false, false, false, false, false, false, false, false, false, false, false, false, false, false, false] (by kernel_rfl) rfl rfl ⟨HX.out.y0, HX.out.y1, HX.out.y2⟩ (fun hHeld => ?_)
      refine with_tabW more.tab3 more.bits3 (fun HT_ HW_ => ?_)
      generalize w1.drew = wd at HB HX hHeld ⊢
      refine pure_ (i := 1) (N := some 20) (v := ?_) (a' := ?_) #[false, true, false, false, false, false, false, false, false, false, false, false, false, false, false, false] rfl rfl (any_of HT_.out (by kernel_rfl)) (fun _ _ _ h => h) (Or.inl ⟨by rfl, ?_⟩) ?_ ?_
      rotate_left
      · intro w'
        go_simp
        with_reducible rfl
      rotate_left
      · simp only [Act.put, List.setIfInBounds_toArray, List.set_cons_zero, List.set_cons_succ, i64_w, i32_w]
        rfl
      refine pure_ (i := 6) (N := some 25) (v := ?_) (a' := ?_) #[false, true, false, false, false, false, true, false, false, false, false, false, false, false, false, false] rfl rfl (any_of HT_.out (by kernel_rfl)) (fun _ _ _ h => h) (Or.inl ⟨by rfl, ?_⟩) ?_ ?_
      rotate_left
      · intro w'
        go_simp
        with_reducible rfl
      rotate_left
      · simp only [Act.put, List.setIfInBounds_toArray, List.set_cons_zero, List.set_cons_succ, i64_w, i32_w]
        rfl
      refine take_ (i := 3) (N := some 22) (v := ?_) (a' := ?_) #[false, true, false, true, false, false, true, false, false, false, false, false, false, false, false, false] rfl rfl (take_ofW HT_.out HW_.out (by kernel_rfl)) (fun _ _ _ h => h) (Or.inl ⟨by rfl, ?_⟩) hHeld ?_ ?_
      rotate_left
      · rintro w' ⟨s0, s1, s2⟩
        go_simp
        with_reducible rfl
      rotate_left
      · simp only [Act.put, List.setIfInBounds_toArray, List.set_cons_zero, List.set_cons_succ, i64_w, i32_w]
        rfl
      refine join_ (σ := Value × Value × Value) 10 #[true, true, true, true, true, false, true, false, false, false, false, false, false, false, false, false] (fun s => [(19, s.1), (21, s.2.1), (23, s.2.2)]) (fun s w' => ∃ g, s.2.2 = .slice (some ⟨g, 0, none⟩) 1 1 ∧ w'.heap[g]? = some (.cells #[.int .u32 x.f0, .slice X1 x.f1.length n1, .slice X2 x.f2.length n2] 59) ∧ OwnI w' (w.heap.size + 1) s.2.1 l ∧ IBox w' w.heap.size x X1 n1 X2 n2 ∧ Below w.heap.size w w') ?_ ?_
      rotate_left
      · intro hCont
        refine two_ (i := 0) (j := 4) (Ni := some 19) (Nj := some 23) #[true, true, false, true, false, false, true, false, false, false, false, false, false, false, false, false] #[false, true, false, true, true, false, true, false, false, false, false, false, false, false, false, false] rfl rfl rfl rfl (two_of HT_.out (by kernel_rfl)) (by decide) (by decide) (fun K hK => ?_) (fun K hK => ?_)
        · skip
          refine value_ (w1 := ?_) (v := ?_) (by rfl) rfl ?_ ?_
          rotate_left 2
          · go_simp
            constructor
            · rfl
            · rfl
          have NHX := Aside0.mk (HX.out.below (below_alloc (Below.refl _ _) (.cells #[] 59)))
          have NHB := Aside0.mk (bel_alloc HB.out (.cells #[] 59))
          have HV := Aside0.mk (by have h := OwnI.lit0 wd (w.heap.size + 1) HX.out.lt; (try simp only [World.size_alloc] at h); exact h)
          clear HX HB
          have HX := NHX; have HB := NHB
          clear NHX NHB
          refine hK.out _ _ ⟨HX.out.y0, HX.out.y1, HX.out.y2⟩ (fun hHeld => ?_)
          clear hK K
          refine norm_ (a' := ?_) ?_ ?_
          rotate_left
          · show Act.put _ (some 19) _ = _
            simp only [Act.put, List.setIfInBounds_toArray, List.set_cons_zero, List.set_cons_succ, i64_w, i32_w]
            rfl
          refine two_ (i := 2) (j := 4) (Ni := some 21) (Nj := some 23) #[true, true, true, true, false, false, true, false, false, false, false, false, false, false, false, false] #[true, true, false, true, true, false, true, false, false, false, false, false, false, false, false, false] rfl rfl rfl rfl (two_of HT_.out (by kernel_rfl)) (by decide) (by decide) (fun K hK => ?_) (fun K hK => ?_)
          · skip
            refine step_append_old rfl (.tmp 19) (.tmp 20) rfl (w.heap.size + 1) _ [] l A0 _ c0 rfl rfl rfl HV.out HC.out HB.out (fun k hk => by have := HV.out.base k hk; omega) (by have := HR.out; unfold maxLen; show 0 + l.length ≤ _; omega) (by have := HR.out; show (0 + l.length) * 56 ≤ _; omega) (HX.out.lt) ?_
            intro v2 w2 hv hO
            have NHV := Aside0.mk hv
            have NHX := Aside0.mk (HX.out.only hO (fun h => by have := HV.out.base _ h; omega))
            have NHB := Aside0.mk (hO.below_of HB.out (fun i hi => by have := HV.out.base i hi; omega))
            clear hv hO
            clear HV HX HB
            have HV := NHV; have HX := NHX; have HB := NHB
            clear NHV NHX NHB
            refine hK.out _ _ ⟨HX.out.y0, HX.out.y1, HX.out.y2⟩ (fun hHeld => ?_)
            clear hK K
            refine norm_ (a' := ?_) ?_ ?_
            rotate_left
            · show Act.put _ (some 21) _ = _
              simp only [Act.put, List.setIfInBounds_toArray, List.set_cons_zero, List.set_cons_succ, i64_w, i32_w]
              rfl
            refine one_ (i := 4) (N := some 23) #[true, true, true, true, true, false, true, false, false, false, false, false, false, false, false, false] rfl rfl (one_of HT_.out (by kernel_rfl)) (by decide) (fun K hK => ?_)
            refine value_ (w1 := ?_) (v := ?_) (by rfl) rfl ?_ ?_
            rotate_left 2
            · go_simp
              constructor
              · rfl
              · rfl
            have NHX := Aside0.mk (HX.out.below (below_alloc (Below.refl _ _) (.cells #[.int .u32 x.f0, .slice X1 x.f1.length n1, .slice X2 x.f2.length n2] 59)))
            have NHB := Aside0.mk (bel_alloc HB.out (.cells #[.int .u32 x.f0, .slice X1 x.f1.length n1, .slice X2 x.f2.length n2] 59))
            have HG := Aside0.mk (by have h := heap_alloc_new w2 (.cells #[.int .u32 x.f0, .slice X1 x.f1.length n1, .slice X2 x.f2.length n2] 59); (try simp only [World.size_alloc] at h); exact h)
            have NHV := Aside0.mk (HV.out.below (below_alloc (Below.refl _ _) (.cells #[.int .u32 x.f0, .slice X1 x.f1.length n1, .slice X2 x.f2.length n2] 59)))
            clear HX HB HV
            have HX := NHX; have HB := NHB; have HV := NHV
            clear NHX NHB NHV
            refine hK.out _ _ ⟨HX.out.y0, HX.out.y1, HX.out.y2⟩ (fun hHeld => ?_)
            clear hK K
            refine norm_ (a' := ?_) ?_ ?_
            rotate_left
            · show Act.put _ (some 23) _ = _
              simp only [Act.put, List.setIfInBounds_toArray, List.set_cons_zero, List.set_cons_succ, i64_w, i32_w]
              rfl
            exact norm_ (by simp only [Go.Proofs.YtchiobhklbefjaaW.PrintLast.putAll, Act.put, List.setIfInBounds_toArray, List.set_cons_zero, List.set_cons_succ]) (hCont (.slice (some ⟨(World.heap wd).size, 0, none⟩) 0 0, v2, .slice (some ⟨(World.heap w2).size, 0, none⟩) 1 1) _ ⟨_, rfl, HG.out, HV.out, HX.out, HB.out⟩)
          · skip
            refine value_ (w1 := ?_) (v := ?_) (by rfl) rfl ?_ ?_
            rotate_left 2
            · go_simp
              constructor
              · rfl
              · rfl
            have NHX := Aside0.mk (HX.out.below (below_alloc (Below.refl _ _) (.cells #[.int .u32 x.f0, .slice X1 x.f1.length n1, .slice X2 x.f2.length n2] 59)))
            have NHB := Aside0.mk (bel_alloc HB.out (.cells #[.int .u32 x.f0, .slice X1 x.f1.length n1, .slice X2 x.f2.length n2] 59))
            have HG := Aside0.mk (by have h := heap_alloc_new (World.alloc wd (.cells #[] 59)) (.cells #[.int .u32 x.f0, .slice X1 x.f1.length n1, .slice X2 x.f2.length n2] 59); (try simp only [World.size_alloc] at h); exact h)
            have NHV := Aside0.mk (HV.out.below (below_alloc (Below.refl _ _) (.cells #[.int .u32 x.f0, .slice X1 x.f1.length n1, .slice X2 x.f2.length n2] 59)))
            clear HX HB HV
            have HX := NHX; have HB := NHB; have HV := NHV
            clear NHX NHB NHV
            refine hK.out _ _ ⟨HX.out.y0, HX.out.y1, HX.out.y2⟩ (fun hHeld => ?_)
            clear hK K
            refine norm_ (a' := ?_) ?_ ?_
            rotate_left
            · show Act.put _ (some 23) _ = _
              simp only [Act.put, List.setIfInBounds_toArray, List.set_cons_zero, List.set_cons_succ, i64_w, i32_w]
              rfl
            refine one_ (i := 2) (N := some 21) #[true, true, true, true, true, false, true, false, false, false, false, false, false, false, false, false] rfl rfl (one_of HT_.out (by kernel_rfl)) (by decide) (fun K hK => ?_)
            refine step_append_old rfl (.tmp 19) (.tmp 20) rfl (w.heap.size + 1) _ [] l A0 _ c0 rfl rfl rfl HV.out HC.out HB.out (fun k hk => by have := HV.out.base k hk; omega) (by have := HR.out; unfold maxLen; show 0 + l.length ≤ _; omega) (by have := HR.out; show (0 + l.length) * 56 ≤ _; omega) (HX.out.lt) ?_
            intro v2 w2 hv hO
            have NHV := Aside0.mk hv
            have NHX := Aside0.mk (HX.out.only hO (fun h => by have := HV.out.base _ h; omega))
            have NHB := Aside0.mk (hO.below_of HB.out (fun i hi => by have := HV.out.base i hi; omega))
            have NHG := Aside0.mk ((hO.block _ (Array.getElem?_eq_some_iff.1 HG.out).1 (fun h => by have h1 : (World.heap wd).size = ((World.heap wd).size + 1) := Option.some.inj h; omega)).trans HG.out)
            clear hv hO
            clear HV HX HB HG
            have HV := NHV; have HX := NHX; have HB := NHB; have HG := NHG
            clear NHV NHX NHB NHG
            refine hK.out _ _ ⟨HX.out.y0, HX.out.y1, HX.out.y2⟩ (fun hHeld => ?_)
            clear hK K
            refine norm_ (a' := ?_) ?_ ?_
            rotate_left
            · show Act.put _ (some 21) _ = _
              simp only [Act.put, List.setIfInBounds_toArray, List.set_cons_zero, List.set_cons_succ, i64_w, i32_w]
              rfl
            exact norm_ (by simp only [Go.Proofs.YtchiobhklbefjaaW.PrintLast.putAll, Act.put, List.setIfInBounds_toArray, List.set_cons_zero, List.set_cons_succ]) (hCont (.slice (some ⟨(World.heap wd).size, 0, none⟩) 0 0, v2, .slice (some ⟨((World.heap wd).size + 1), 0, none⟩) 1 1) _ ⟨_, rfl, HG.out, HV.out, HX.out, HB.out⟩)
        · skip
          refine value_ (w1 := ?_) (v := ?_) (by rfl) rfl ?_ ?_
          rotate_left 2
          · go_simp
            constructor
            · rfl
            · rfl
          have NHX := Aside0.mk (HX.out.below (below_alloc (Below.refl _ _) (.cells #[.int .u32 x.f0, .slice X1 x.f1.length n1, .slice X2 x.f2.length n2] 59)))
          have NHB := Aside0.mk (bel_alloc HB.out (.cells #[.int .u32 x.f0, .slice X1 x.f1.length n1, .slice X2 x.f2.length n2] 59))
          have HG := Aside0.mk (by have h := heap_alloc_new wd (.cells #[.int .u32 x.f0, .slice X1 x.f1.length n1, .slice X2 x.f2.length n2] 59); (try simp only [World.size_alloc] at h); exact h)
          clear HX HB
          have HX := NHX; have HB := NHB
          clear NHX NHB
          refine hK.out _ _ ⟨HX.out.y0, HX.out.y1, HX.out.y2⟩ (fun hHeld => ?_)
          clear hK K
          refine norm_ (a' := ?_) ?_ ?_
          rotate_left
          · show Act.put _ (some 23) _ = _
            simp only [Act.put, List.setIfInBounds_toArray, List.set_cons_zero, List.set_cons_succ, i64_w, i32_w]
            rfl
          refine one_ (i := 0) (N := some 19) #[true, true, false, true, true, false, true, false, false, false, false, false, false, false, false, false] rfl rfl (one_of HT_.out (by kernel_rfl)) (by decide) (fun K hK => ?_)
          refine value_ (w1 := ?_) (v := ?_) (by rfl) rfl ?_ ?_
          rotate_left 2
          · go_simp
            constructor
            · rfl
            · rfl
          have NHX := Aside0.mk (HX.out.below (below_alloc (Below.refl _ _) (.cells #[] 59)))
          have NHB := Aside0.mk (bel_alloc HB.out (.cells #[] 59))
          have HV := Aside0.mk (by have h := OwnI.lit0 (World.alloc wd (.cells #[.int .u32 x.f0, .slice X1 x.f1.length n1, .slice X2 x.f2.length n2] 59)) (w.heap.size + 1) HX.out.lt; (try simp only [World.size_alloc] at h); exact h)
          have NHG := Aside0.mk (blk_alloc HG.out (.cells #[] 59))
          clear HX HB HG
          have HX := NHX; have HB := NHB; have HG := NHG
          clear NHX NHB NHG
          refine hK.out _ _ ⟨HX.out.y0, HX.out.y1, HX.out.y2⟩ (fun hHeld => ?_)
          clear hK K
          refine norm_ (a' := ?_) ?_ ?_
          rotate_left
          · show Act.put _ (some 19) _ = _
            simp only [Act.put, List.setIfInBounds_toArray, List.set_cons_zero, List.set_cons_succ, i64_w, i32_w]
            rfl
          refine one_ (i := 2) (N := some 21) #[true, true, true, true, true, false, true, false, false, false, false, false, false, false, false, false] rfl rfl (one_of HT_.out (by kernel_rfl)) (by decide) (fun K hK => ?_)
          refine step_append_old rfl (.tmp 19) (.tmp 20) rfl (w.heap.size + 1) _ [] l A0 _ c0 rfl rfl rfl HV.out HC.out HB.out (fun k hk => by have := HV.out.base k hk; omega) (by have := HR.out; unfold maxLen; show 0 + l.length ≤ _; omega) (by have := HR.out; show (0 + l.length) * 56 ≤ _; omega) (HX.out.lt) ?_
          intro v2 w2 hv hO
          have NHV := Aside0.mk hv
          have NHX := Aside0.mk (HX.out.only hO (fun h => by have := HV.out.base _ h; omega))
          have NHB := Aside0.mk (hO.below_of HB.out (fun i hi => by have := HV.out.base i hi; omega))
          have NHG := Aside0.mk ((hO.block _ (Array.getElem?_eq_some_iff.1 HG.out).1 (fun h => by have h1 : ((World.heap wd).size + 1) = (World.heap wd).size := Option.some.inj h; omega)).trans HG.out)
          clear hv hO
          clear HV HX HB HG
          have HV := NHV; have HX := NHX; have HB := NHB; have HG := NHG
          clear NHV NHX NHB NHG
          refine hK.out _ _ ⟨HX.out.y0, HX.out.y1, HX.out.y2⟩ (fun hHeld => ?_)
          clear hK K
          refine norm_ (a' := ?_) ?_ ?_
          rotate_left
          · show Act.put _ (some 21) _ = _
            simp only [Act.put, List.setIfInBounds_toArray, List.set_cons_zero, List.set_cons_succ, i64_w, i32_w]
            rfl
          exact norm_ (by simp only [Go.Proofs.YtchiobhklbefjaaW.PrintLast.putAll, Act.put, List.setIfInBounds_toArray, List.set_cons_zero, List.set_cons_succ]) (hCont (.slice (some ⟨((World.heap wd).size + 1), 0, none⟩) 0 0, v2, .slice (some ⟨(World.heap wd).size, 0, none⟩) 1 1) _ ⟨_, rfl, HG.out, HV.out, HX.out, HB.out⟩)
      rintro ⟨va, vb, vc⟩ w5 ⟨g, eg, hG, hV, hX, hB⟩
      replace eg : vc = _ := eg
      subst eg
      clear HX HB
      have HG := Aside0.mk hG; have HV := Aside0.mk hV; have HX := Aside0.mk hX; have HB := Aside0.mk hB
      clear hG hV hX hB
      have hHeld := And.intro HX.out.y0 (And.intro HX.out.y1 HX.out.y2)
      refine norm_ (a' := ?_) ?_ ?_
      rotate_left
      · simp only [Go.Proofs.YtchiobhklbefjaaW.PrintLast.putAll, Act.put, List.setIfInBounds_toArray, List.set_cons_zero, List.set_cons_succ]
        rfl
      refine one_ (i := 5) (N := some 24) #[true, true, true, true, true, true, true, false, false, false, false, false, false, false, false, false] rfl rfl (one_of HT_.out (by kernel_rfl)) (by decide) (fun K hK => ?_)
      refine step_append_one rfl (.tmp 21) (.tmp 23) rfl (w.heap.size + 1) _ l x g _ _ _ rfl rfl HV.out HG.out (fr_old HK.out HB.out (fun k hk => by have := HV.out.base k hk; omega)) (by have := HR.out; unfold maxLen; omega) (by have := HR.out; omega) (HX.out.lt) ?_
      intro v3 w3 hv hO
      have NHX := Aside0.mk (HX.out.only hO (fun h => by have := HV.out.base _ h; omega))
      have NHB := Aside0.mk (hO.below_of HB.out (fun i hi => by have := HV.out.base i hi; omega))
      obtain ⟨ao, cap, rfl, hcap, hCC⟩ := hv.Cn HNN.out
      have HCC := Aside0.mk hCC
      have HCAP := Aside0.mk hcap
      clear hv hO hcap hCC HV HG
      clear HX HB
      have HX := NHX; have HB := NHB
      clear NHX NHB
      refine hK.out _ _ ⟨HX.out.y0, HX.out.y1, HX.out.y2⟩ (fun hHeld => ?_)
      clear hK K
      refine norm_ (a' := ?_) ?_ ?_
      rotate_left
      · show Act.put _ (some 24) _ = _
        simp only [Act.put, List.setIfInBounds_toArray, List.set_cons_zero, List.set_cons_succ, i64_w, i32_w]
        rfl
      refine one_ (i := 7) (N := some 26) #[true, true, true, true, true, true, true, true, false, false, false, false, false, false, false, false] rfl rfl (one_of HT_.out (by kernel_rfl)) (by decide) (fun K hK => ?_)
      refine goes_ Try.func36 (by kernel_rfl) rfl #[.slice ao N cap, .agg #[.slice none 0 0, .slice none 0 0, .slice none 0 0]] (by rfl) rfl rfl (by simp only [List.map_toArray, List.map_cons, List.map_nil]; rfl) ?_
      with_reducible refine (great_bare HNN.out HCAP.out HCC.out HG_.out).mono ?_
      rintro e w4 ⟨rfl, hb⟩
      refine ⟨_, rfl, ?_⟩
      have NHX := Aside0.mk (HX.out.below hb)
      have NHB := Aside0.mk (bel_trans HB.out hb)
      clear hb
      clear HX HB
      have HX := NHX; have HB := NHB
      clear NHX NHB
      refine hK.out _ _ ⟨HX.out.y0, HX.out.y1, HX.out.y2⟩ (fun hHeld => ?_)
      clear hK K
      refine norm_ (a' := ?_) ?_ ?_
      rotate_left
      · show Act.put _ (some 26) _ = _
        simp only [Act.put, List.setIfInBounds_toArray, List.set_cons_zero, List.set_cons_succ, i64_w, i32_w]
        rfl
      refine pure_ (i := 8) (N := some 27) (v := ?_) (a' := ?_) #[true, true, true, true, true, true, true, true, true, false, false, false, false, false, false, false] rfl rfl (any_of HT_.out (by kernel_rfl)) (fun _ _ _ h => h) (Or.inl ⟨by rfl, ?_⟩) ?_ ?_
      rotate_left
      · intro w'
        go_simp
        with_reducible rfl
      rotate_left
      · simp only [Act.put, List.setIfInBounds_toArray, List.set_cons_zero, List.set_cons_succ, i64_w, i32_w]
        rfl
      refine pure_ (i := 9) (N := some 28) (v := undef) (a' := ?_) #[true, true, true, true, true, true, true, true, true, true, false, false, false, false, false, false] rfl rfl (any_of HT_.out (by kernel_rfl)) (fun _ _ _ h => h) (Or.inr ⟨by rfl, rfl⟩) ?_ ?_
      rotate_left
      · simp only [Act.put, List.setIfInBounds_toArray, List.set_cons_zero, List.set_cons_succ, i64_w, i32_w]
        rfl
      refine pure_ (i := 10) (N := some 29) (v := undef) (a' := ?_) #[true, true, true, true, true, true, true, true, true, true, true, false, false, false, false, false] rfl rfl (any_of HT_.out (by kernel_rfl)) (fun _ _ _ h => h) (Or.inr ⟨by rfl, rfl⟩) ?_ ?_
      rotate_left
      · simp only [Act.put, List.setIfInBounds_toArray, List.set_cons_zero, List.set_cons_succ, i64_w, i32_w]
        rfl
      refine pure_ (i := 11) (N := some 30) (v := ?_) (a' := ?_) #[true, true, true, true, true, true, true, true, true, true, true, true, false, false, false, false] rfl rfl (any_of HT_.out (by kernel_rfl)) (fun _ _ _ h => h) (Or.inl ⟨by rfl, ?_⟩) ?_ ?_
      rotate_left
      · intro w'
        go_simp
        with_reducible rfl
      rotate_left
      · simp only [Act.put, List.setIfInBounds_toArray, List.set_cons_zero, List.set_cons_succ, i64_w, i32_w]
        rfl
      refine pure_ (i := 12) (N := some 31) (v := ?_) (a' := ?_) #[true, true, true, true, true, true, true, true, true, true, true, true, true, false, false, false] rfl rfl (any_of HT_.out (by kernel_rfl)) (fun _ _ _ h => h) (Or.inl ⟨by rfl, ?_⟩) ?_ ?_
      rotate_left
      · intro w'
        go_simp
        with_reducible rfl
      rotate_left
      · simp only [Act.put, List.setIfInBounds_toArray, List.set_cons_zero, List.set_cons_succ, i64_w, i32_w]
        rfl
      refine pure_ (i := 13) (N := some 32) (v := undef) (a' := ?_) #[true, true, true, true, true, true, true, true, true, true, true, true, true, true, false, false] rfl rfl (any_of HT_.out (by kernel_rfl)) (fun _ _ _ h => h) (Or.inr ⟨by rfl, rfl⟩) ?_ ?_
      rotate_left
      · simp only [Act.put, List.setIfInBounds_toArray, List.set_cons_zero, List.set_cons_succ, i64_w, i32_w]
        rfl
      refine pure_ (i := 14) (N := some 33) (v := undef) (a' := ?_) #[true, true, true, true, true, true, true, true, true, true, true, true, true, true, true, false] rfl rfl (any_of HT_.out (by kernel_rfl)) (fun _ _ _ h => h) (Or.inr ⟨by rfl, rfl⟩) ?_ ?_
      rotate_left
      · simp only [Act.put, List.setIfInBounds_toArray, List.set_cons_zero, List.set_cons_succ, i64_w, i32_w]
        rfl
      refine pure_ (i := 15) (N := some 34) (v := ?_) (a' := ?_) #[true, true, true, true, true, true, true, true, true, true, true, true, true, true, true, true] rfl rfl (any_of HT_.out (by kernel_rfl)) (fun _ _ _ h => h) (Or.inl ⟨by rfl, ?_⟩) ?_ ?_
      rotate_left
      · intro w'
        go_simp
        with_reducible rfl
      rotate_left
      · simp only [Act.put, List.setIfInBounds_toArray, List.set_cons_zero, List.set_cons_succ, i64_w, i32_w]
        rfl
      refine done_ (done_of HT_.out (by kernel_rfl)) ?_
      go_wp2
      go_ret
      exact ⟨rfl, HB.out⟩
  · as_aux_lemma =>
      intro hr c1
      subst hr
      go_enter Try.func15, Try.ntmps15
      go_wp2_with ((go_at_call 35; (with_reducible refine (alive_calls _).mono ?_); rintro e w1 ⟨rfl, hb⟩; have HB := Aside0.mk (below_drew (bel_trans HB0.out hb)); have HX := Aside0.mk ((HX0.out.below hb).below (below_drew (Below.refl _ _))); clear hb))
      refine start_ (n := 16) (S := fun w' => w'.cell? ⟨w.heap.size, 0, none⟩ = some (.int .u32 x.f0) ∧ w'.cell? ⟨w.heap.size, 1, none⟩ = some (.slice X1 x.f1.length n1) ∧ w'.cell? ⟨w.heap.size, 2, none⟩ = some (.slice X2 x.f2.length n2)) (ds := []) #[false, false, false, false, false, false, false, false, false, false, false, false, false, false, false, false] (by kernel_rfl) rfl rfl ⟨HX.out.y0, HX.out.y1, HX.out.y2⟩ (fun hHeld => ?_)
      refine with_tabW more.tab3 more.bits3 (fun HT_ HW_ => ?_)
      generalize w1.drew = wd at HB HX hHeld ⊢
      refine pure_ (i := 1) (N := some 20) (v := ?_) (a' := ?_) #[false, true, false, false, false, false, false, false, false, false, false, false, false, false, false, false] rfl rfl (any_of HT_.out (by kernel_rfl)) (fun _ _ _ h => h) (Or.inl ⟨by rfl, ?_⟩) ?_ ?_
      rotate_left
      · intro w'
        go_simp
        with_reducible rfl
      rotate_left
      · simp only [Act.put, List.setIfInBounds_toArray, List.set_cons_zero, List.set_cons_succ, i64_w, i32_w]
        rfl
      refine pure_ (i := 6) (N := some 25) (v := ?_) (a' := ?_) #[false, true, false, false, false, false, true, false, false, false, false, false, false, false, false, false] rfl rfl (any_of HT_.out (by kernel_rfl)) (fun _ _ _ h => h) (Or.inl ⟨by rfl, ?_⟩) ?_ ?_
      rotate_left
      · intro w'
        go_simp
        with_reducible rfl
      rotate_left
      · simp only [Act.put, List.setIfInBounds_toArray, List.set_cons_zero, List.set_cons_succ, i64_w, i32_w]
        rfl
      refine take_ (i := 3) (N := some 22) (v := ?_) (a' := ?_) #[false, true, false, true, false, false, true, false, false, false, false, false, false, false, false, false] rfl rfl (take_ofW HT_.out HW_.out (by kernel_rfl)) (fun _ _ _ h => h) (Or.inl ⟨by rfl, ?_⟩) hHeld ?_ ?_
      rotate_left
      · rintro w' ⟨s0, s1, s2⟩
        go_simp
        with_reducible rfl
      rotate_left
      · simp only [Act.put, List.setIfInBounds_toArray, List.set_cons_zero, List.set_cons_succ, i64_w, i32_w]
        rfl
      refine join_ (σ := Value × Value × Value) 10 #[true, true, true, true, true, false, true, false, false, false, false, false, false, false, false, false] (fun s => [(19, s.1), (21, s.2.1), (23, s.2.2)]) (fun s w' => ∃ g, s.2.2 = .slice (some ⟨g, 0, none⟩) 1 1 ∧ w'.heap[g]? = some (.cells #[.int .u32 x.f0, .slice X1 x.f1.length n1, .slice X2 x.f2.length n2] 59) ∧ OwnI w' (w.heap.size + 1) s.2.1 l ∧ IBox w' w.heap.size x X1 n1 X2 n2 ∧ Below w.heap.size w w') ?_ ?_
      rotate_left
      · intro hCont
        refine two_ (i := 0) (j := 4) (Ni := some 19) (Nj := some 23) #[true, true, false, true, false, false, true, false, false, false, false, false, false, false, false, false] #[false, true, false, true, true, false, true, false, false, false, false, false, false, false, false, false] rfl rfl rfl rfl (two_of HT_.out (by kernel_rfl)) (by decide) (by decide) (fun K hK => ?_) (fun K hK => ?_)
        · skip
          refine value_ (w1 := ?_) (v := ?_) (by rfl) rfl ?_ ?_
          rotate_left 2
          · go_simp
            constructor
            · rfl
            · rfl
          have NHX := Aside0.mk (HX.out.below (below_alloc (Below.refl _ _) (.cells #[] 59)))
          have NHB := Aside0.mk (bel_alloc HB.out (.cells #[] 59))
          have HV := Aside0.mk (by have h := OwnI.lit0 wd (w.heap.size + 1) HX.out.lt; (try simp only [World.size_alloc] at h); exact h)
          clear HX HB
          have HX := NHX; have HB := NHB
          clear NHX NHB
          refine hK.out _ _ ⟨HX.out.y0, HX.out.y1, HX.out.y2⟩ (fun hHeld => ?_)
          clear hK K
          refine norm_ (a' := ?_) ?_ ?_
          rotate_left
          · show Act.put _ (some 19) _ = _
            simp only [Act.put, List.setIfInBounds_toArray, List.set_cons_zero, List.set_cons_succ, i64_w, i32_w]
            rfl
          refine two_ (i := 2) (j := 4) (Ni := some 21) (Nj := some 23) #[true, true, true, true, false, false, true, false, false, false, false, false, false, false, false, false] #[true, true, false, true, true, false, true, false, false, false, false, false, false, false, false, false] rfl rfl rfl rfl (two_of HT_.out (by kernel_rfl)) (by decide) (by decide) (fun K hK => ?_) (fun K hK => ?_)
          · skip
            refine step_append_old rfl (.tmp 19) (.tmp 20) rfl (w.heap.size + 1) _ [] l A0 _ c0 rfl rfl rfl HV.out HC.out HB.out (fun k hk => by have := HV.out.base k hk; omega) (by have := HR.out; unfold maxLen; show 0 + l.length ≤ _; omega) (by have := HR.out; show (0 + l.length) * 56 ≤ _; omega) (HX.out.lt) ?_
            intro v2 w2 hv hO
            have NHV := Aside0.mk hv
            have NHX := Aside0.mk (HX.out.only hO (fun h => by have := HV.out.base _ h; omega))
            have NHB := Aside0.mk (hO.below_of HB.out (fun i hi => by have := HV.out.base i hi; omega))
            clear hv hO
            clear HV HX HB
            have HV := NHV; have HX := NHX; have HB := NHB
            clear NHV NHX NHB
            refine hK.out _ _ ⟨HX.out.y0, HX.out.y1, HX.out.y2⟩ (fun hHeld => ?_)
            clear hK K
            refine norm_ (a' := ?_) ?_ ?_
            rotate_left
            · show Act.put _ (some 21) _ = _
              simp only [Act.put, List.setIfInBounds_toArray, List.set_cons_zero, List.set_cons_succ, i64_w, i32_w]
              rfl
            refine one_ (i := 4) (N := some 23) #[true, true, true, true, true, false, true, false, false, false, false, false, false, false, false, false] rfl rfl (one_of HT_.out (by kernel_rfl)) (by decide) (fun K hK => ?_)
            refine value_ (w1 := ?_) (v := ?_) (by rfl) rfl ?_ ?_
            rotate_left 2
            · go_simp
              constructor
              · rfl
              · rfl
            have NHX := Aside0.mk (HX.out.below (below_alloc (Below.refl _ _) (.cells #[.int .u32 x.f0, .slice X1 x.f1.length n1, .slice X2 x.f2.length n2] 59)))
            have NHB := Aside0.mk (bel_alloc HB.out (.cells #[.int .u32 x.f0, .slice X1 x.f1.length n1, .slice X2 x.f2.length n2] 59))
            have HG := Aside0.mk (by have h := heap_alloc_new w2 (.cells #[.int .u32 x.f0, .slice X1 x.f1.length n1, .slice X2 x.f2.length n2] 59); (try simp only [World.size_alloc] at h); exact h)
            have NHV := Aside0.mk (HV.out.below (below_alloc (Below.refl _ _) (.cells #[.int .u32 x.f0, .slice X1 x.f1.length n1, .slice X2 x.f2.length n2] 59)))
            clear HX HB HV
            have HX := NHX; have HB := NHB; have HV := NHV
            clear NHX NHB NHV
            refine hK.out _ _ ⟨HX.out.y0, HX.out.y1, HX.out.y2⟩ (fun hHeld => ?_)
            clear hK K
            refine norm_ (a' := ?_) ?_ ?_
            rotate_left
            · show Act.put _ (some 23) _ = _
              simp only [Act.put, List.setIfInBounds_toArray, List.set_cons_zero, List.set_cons_succ, i64_w, i32_w]
              rfl
            exact norm_ (by simp only [Go.Proofs.YtchiobhklbefjaaW.PrintLast.putAll, Act.put, List.setIfInBounds_toArray, List.set_cons_zero, List.set_cons_succ]) (hCont (.slice (some ⟨(World.heap wd).size, 0, none⟩) 0 0, v2, .slice (some ⟨(World.heap w2).size, 0, none⟩) 1 1) _ ⟨_, rfl, HG.out, HV.out, HX.out, HB.out⟩)
          · skip
            refine value_ (w1 := ?_) (v := ?_) (by rfl) rfl ?_ ?_
            rotate_left 2
            · go_simp
              constructor
              · rfl
              · rfl
            have NHX := Aside0.mk (HX.out.below (below_alloc (Below.refl _ _) (.cells #[.int .u32 x.f0, .slice X1 x.f1.length n1, .slice X2 x.f2.length n2] 59)))
            have NHB := Aside0.mk (bel_alloc HB.out (.cells #[.int .u32 x.f0, .slice X1 x.f1.length n1, .slice X2 x.f2.length n2] 59))
            have HG := Aside0.mk (by have h := heap_alloc_new (World.alloc wd (.cells #[] 59)) (.cells #[.int .u32 x.f0, .slice X1 x.f1.length n1, .slice X2 x.f2.length n2] 59); (try simp only [World.size_alloc] at h); exact h)
            have NHV := Aside0.mk (HV.out.below (below_alloc (Below.refl _ _) (.cells #[.int .u32 x.f0, .slice X1 x.f1.length n1, .slice X2 x.f2.length n2] 59)))
            clear HX HB HV
            have HX := NHX; have HB := NHB; have HV := NHV
            clear NHX NHB NHV
            refine hK.out _ _ ⟨HX.out.y0, HX.out.y1, HX.out.y2⟩ (fun hHeld => ?_)
            clear hK K
            refine norm_ (a' := ?_) ?_ ?_
            rotate_left
            · show Act.put _ (some 23) _ = _
              simp only [Act.put, List.setIfInBounds_toArray, List.set_cons_zero, List.set_cons_succ, i64_w, i32_w]
              rfl
            refine one_ (i := 2) (N := some 21) #[true, true, true, true, true, false, true, false, false, false, false, false, false, false, false, false] rfl rfl (one_of HT_.out (by kernel_rfl)) (by decide) (fun K hK => ?_)
            refine step_append_old rfl (.tmp 19) (.tmp 20) rfl (w.heap.size + 1) _ [] l A0 _ c0 rfl rfl rfl HV.out HC.out HB.out (fun k hk => by have := HV.out.base k hk; omega) (by have := HR.out; unfold maxLen; show 0 + l.length ≤ _; omega) (by have := HR.out; show (0 + l.length) * 56 ≤ _; omega) (HX.out.lt) ?_
            intro v2 w2 hv hO
            have NHV := Aside0.mk hv
            have NHX := Aside0.mk (HX.out.only hO (fun h => by have := HV.out.base _ h; omega))
            have NHB := Aside0.mk (hO.below_of HB.out (fun i hi => by have := HV.out.base i hi; omega))
            have NHG := Aside0.mk ((hO.block _ (Array.getElem?_eq_some_iff.1 HG.out).1 (fun h => by have h1 : (World.heap wd).size = ((World.heap wd).size + 1) := Option.some.inj h; omega)).trans HG.out)
            clear hv hO
            clear HV HX HB HG
            have HV := NHV; have HX := NHX; have HB := NHB; have HG := NHG
            clear NHV NHX NHB NHG
            refine hK.out _ _ ⟨HX.out.y0, HX.out.y1, HX.out.y2⟩ (fun hHeld => ?_)
            clear hK K
            refine norm_ (a' := ?_) ?_ ?_
            rotate_left
            · show Act.put _ (some 21) _ = _
              simp only [Act.put, List.setIfInBounds_toArray, List.set_cons_zero, List.set_cons_succ, i64_w, i32_w]
              rfl
            exact norm_ (by simp only [Go.Proofs.YtchiobhklbefjaaW.PrintLast.putAll, Act.put, List.setIfInBounds_toArray, List.set_cons_zero, List.set_cons_succ]) (hCont (.slice (some ⟨(World.heap wd).size, 0, none⟩) 0 0, v2, .slice (some ⟨((World.heap wd).size + 1), 0, none⟩) 1 1) _ ⟨_, rfl, HG.out, HV.out, HX.out, HB.out⟩)
        · skip
          refine value_ (w1 := ?_) (v := ?_) (by rfl) rfl ?_ ?_
          rotate_left 2
          · go_simp
            constructor
            · rfl
            · rfl
          have NHX := Aside0.mk (HX.out.below (below_alloc (Below.refl _ _) (.cells #[.int .u32 x.f0, .slice X1 x.f1.length n1, .slice X2 x.f2.length n2] 59)))
          have NHB := Aside0.mk (bel_alloc HB.out (.cells #[.int .u32 x.f0, .slice X1 x.f1.length n1, .slice X2 x.f2.length n2] 59))
          have HG := Aside0.mk (by have h := heap_alloc_new wd (.cells #[.int .u32 x.f0, .slice X1 x.f1.length n1, .slice X2 x.f2.length n2] 59); (try simp only [World.size_alloc] at h); exact h)
          clear HX HB
          have HX := NHX; have HB := NHB
          clear NHX NHB
          refine hK.out _ _ ⟨HX.out.y0, HX.out.y1, HX.out.y2⟩ (fun hHeld => ?_)
          clear hK K
          refine norm_ (a' := ?_) ?_ ?_
          rotate_left
          · show Act.put _ (some 23) _ = _
            simp only [Act.put, List.setIfInBounds_toArray, List.set_cons_zero, List.set_cons_succ, i64_w, i32_w]
            rfl
          refine one_ (i := 0) (N := some 19) #[true, true, false, true, true, false, true, false, false, false, false, false, false, false, false, false] rfl rfl (one_of HT_.out (by kernel_rfl)) (by decide) (fun K hK => ?_)
          refine value_ (w1 := ?_) (v := ?_) (by rfl) rfl ?_ ?_
          rotate_left 2
          · go_simp
            constructor
            · rfl
            · rfl
          have NHX := Aside0.mk (HX.out.below (below_alloc (Below.refl _ _) (.cells #[] 59)))
          have NHB := Aside0.mk (bel_alloc HB.out (.cells #[] 59))
          have HV := Aside0.mk (by have h := OwnI.lit0 (World.alloc wd (.cells #[.int .u32 x.f0, .slice X1 x.f1.length n1, .slice X2 x.f2.length n2] 59)) (w.heap.size + 1) HX.out.lt; (try simp only [World.size_alloc] at h); exact h)
          have NHG := Aside0.mk (blk_alloc HG.out (.cells #[] 59))
          clear HX HB HG
          have HX := NHX; have HB := NHB; have HG := NHG
          clear NHX NHB NHG
          refine hK.out _ _ ⟨HX.out.y0, HX.out.y1, HX.out.y2⟩ (fun hHeld => ?_)
          clear hK K
          refine norm_ (a' := ?_) ?_ ?_
          rotate_left
          · show Act.put _ (some 19) _ = _
            simp only [Act.put, List.setIfInBounds_toArray, List.set_cons_zero, List.set_cons_succ, i64_w, i32_w]
            rfl
          refine one_ (i := 2) (N := some 21) #[true, true, true, true, true, false, true, false, false, false, false, false, false, false, false, false] rfl rfl (one_of HT_.out (by kernel_rfl)) (by decide) (fun K hK => ?_)
          refine step_append_old rfl (.tmp 19) (.tmp 20) rfl (w.heap.size + 1) _ [] l A0 _ c0 rfl rfl rfl HV.out HC.out HB.out (fun k hk => by have := HV.out.base k hk; omega) (by have := HR.out; unfold maxLen; show 0 + l.length ≤ _; omega) (by have := HR.out; show (0 + l.length) * 56 ≤ _; omega) (HX.out.lt) ?_
          intro v2 w2 hv hO
          have NHV := Aside0.mk hv
          have NHX := Aside0.mk (HX.out.only hO (fun h => by have := HV.out.base _ h; omega))
          have NHB := Aside0.mk (hO.below_of HB.out (fun i hi => by have := HV.out.base i hi; omega))
          have NHG := Aside0.mk ((hO.block _ (Array.getElem?_eq_some_iff.1 HG.out).1 (fun h => by have h1 : ((World.heap wd).size + 1) = (World.heap wd).size := Option.some.inj h; omega)).trans HG.out)
          clear hv hO
          clear HV HX HB HG
          have HV := NHV; have HX := NHX; have HB := NHB; have HG := NHG
          clear NHV NHX NHB NHG
          refine hK.out _ _ ⟨HX.out.y0, HX.out.y1, HX.out.y2⟩ (fun hHeld => ?_)
          clear hK K
          refine norm_ (a' := ?_) ?_ ?_
          rotate_left
          · show Act.put _ (some 21) _ = _
            simp only [Act.put, List.setIfInBounds_toArray, List.set_cons_zero, List.set_cons_succ, i64_w, i32_w]
            rfl
          exact norm_ (by simp only [Go.Proofs.YtchiobhklbefjaaW.PrintLast.putAll, Act.put, List.setIfInBounds_toArray, List.set_cons_zero, List.set_cons_succ]) (hCont (.slice (some ⟨((World.heap wd).size + 1), 0, none⟩) 0 0, v2, .slice (some ⟨(World.heap wd).size, 0, none⟩) 1 1) _ ⟨_, rfl, HG.out, HV.out, HX.out, HB.out⟩)
      rintro ⟨va, vb, vc⟩ w5 ⟨g, eg, hG, hV, hX, hB⟩
      replace eg : vc = _ := eg
      subst eg
      clear HX HB
      have HG := Aside0.mk hG; have HV := Aside0.mk hV; have HX := Aside0.mk hX; have HB := Aside0.mk hB
      clear hG hV hX hB
      have hHeld := And.intro HX.out.y0 (And.intro HX.out.y1 HX.out.y2)
      refine norm_ (a' := ?_) ?_ ?_
      rotate_left
      · simp only [Go.Proofs.YtchiobhklbefjaaW.PrintLast.putAll, Act.put, List.setIfInBounds_toArray, List.set_cons_zero, List.set_cons_succ]
        rfl
      refine one_ (i := 5) (N := some 24) #[true, true, true, true, true, true, true, false, false, false, false, false, false, false, false, false] rfl rfl (one_of HT_.out (by kernel_rfl)) (by decide) (fun K hK => ?_)
      refine step_append_one rfl (.tmp 21) (.tmp 23) rfl (w.heap.size + 1) _ l x g _ _ _ rfl rfl HV.out HG.out (fr_old HK.out HB.out (fun k hk => by have := HV.out.base k hk; omega)) (by have := HR.out; unfold maxLen; omega) (by have := HR.out; omega) (HX.out.lt) ?_
      intro v3 w3 hv hO
      have NHX := Aside0.mk (HX.out.only hO (fun h => by have := HV.out.base _ h; omega))
      have NHB := Aside0.mk (hO.below_of HB.out (fun i hi => by have := HV.out.base i hi; omega))
      obtain ⟨ao, cap, rfl, hcap, hCC⟩ := hv.Cn HNN.out
      have HCC := Aside0.mk hCC
      have HCAP := Aside0.mk hcap
      clear hv hO hcap hCC HV HG
      clear HX HB
      have HX := NHX; have HB := NHB
      clear NHX NHB
      refine hK.out _ _ ⟨HX.out.y0, HX.out.y1, HX.out.y2⟩ (fun hHeld => ?_)
      clear hK K
      refine norm_ (a' := ?_) ?_ ?_
      rotate_left
      · show Act.put _ (some 24) _ = _
        simp only [Act.put, List.setIfInBounds_toArray, List.set_cons_zero, List.set_cons_succ, i64_w, i32_w]
        rfl
      refine one_ (i := 7) (N := some 26) #[true, true, true, true, true, true, true, true, false, false, false, false, false, false, false, false] rfl rfl (one_of HT_.out (by kernel_rfl)) (by decide) (fun K hK => ?_)
      refine goes_ Try.func36 (by kernel_rfl) rfl #[.slice ao N cap, .agg #[.slice none 0 0, .slice none 0 0, .slice none 0 0]] (by rfl) rfl rfl (by simp only [List.map_toArray, List.map_cons, List.map_nil]; rfl) ?_
      with_reducible refine (great_bare HNN.out HCAP.out HCC.out HG_.out).mono ?_
      rintro e w4 ⟨rfl, hb⟩
      refine ⟨_, rfl, ?_⟩
      have NHX := Aside0.mk (HX.out.below hb)
      have NHB := Aside0.mk (bel_trans HB.out hb)
      clear hb
      clear HX HB
      have HX := NHX; have HB := NHB
      clear NHX NHB
      refine hK.out _ _ ⟨HX.out.y0, HX.out.y1, HX.out.y2⟩ (fun hHeld => ?_)
      clear hK K
      refine norm_ (a' := ?_) ?_ ?_
      rotate_left
      · show Act.put _ (some 26) _ = _
        simp only [Act.put, List.setIfInBounds_toArray, List.set_cons_zero, List.set_cons_succ, i64_w, i32_w]
        rfl
      refine pure_ (i := 8) (N := some 27) (v := ?_) (a' := ?_) #[true, true, true, true, true, true, true, true, true, false, false, false, false, false, false, false] rfl rfl (any_of HT_.out (by kernel_rfl)) (fun _ _ _ h => h) (Or.inl ⟨by rfl, ?_⟩) ?_ ?_
      rotate_left
      · intro w'
        go_simp
        with_reducible rfl
      rotate_left
      · simp only [Act.put, List.setIfInBounds_toArray, List.set_cons_zero, List.set_cons_succ, i64_w, i32_w]
        rfl
      refine pure_ (i := 9) (N := some 28) (v := ?_) (a' := ?_) #[true, true, true, true, true, true, true, true, true, true, false, false, false, false, false, false] rfl rfl (any_of HT_.out (by kernel_rfl)) (fun _ _ _ h => h) (Or.inl ⟨by rfl, ?_⟩) ?_ ?_
      rotate_left
      · intro w'
        go_simp
        with_reducible rfl
      rotate_left
      · simp only [Act.put, List.setIfInBounds_toArray, List.set_cons_zero, List.set_cons_succ, i64_w, i32_w]
        rfl
      refine pure_ (i := 10) (N := some 29) (v := ?_) (a' := ?_) #[true, true, true, true, true, true, true, true, true, true, true, false, false, false, false, false] rfl rfl (any_of HT_.out (by kernel_rfl)) (fun _ _ _ h => h) (Or.inl ⟨by rfl, ?_⟩) ?_ ?_
      rotate_left
      · intro w'
        go_simp
        with_reducible rfl
      rotate_left
      · simp only [Act.put, List.setIfInBounds_toArray, List.set_cons_zero, List.set_cons_succ, i64_w, i32_w]
        rfl
      refine pure_ (i := 11) (N := some 30) (v := ?_) (a' := ?_) #[true, true, true, true, true, true, true, true, true, true, true, true, false, false, false, false] rfl rfl (any_of HT_.out (by kernel_rfl)) (fun _ _ _ h => h) (Or.inl ⟨by rfl, ?_⟩) ?_ ?_
      rotate_left
      · intro w'
        go_simp
        with_reducible rfl
      rotate_left
      · simp only [Act.put, List.setIfInBounds_toArray, List.set_cons_zero, List.set_cons_succ, i64_w, i32_w]
        rfl
      refine pure_ (i := 12) (N := some 31) (v := ?_) (a' := ?_) #[true, true, true, true, true, true, true, true, true, true, true, true, true, false, false, false] rfl rfl (any_of HT_.out (by kernel_rfl)) (fun _ _ _ h => h) (Or.inl ⟨by rfl, ?_⟩) ?_ ?_
      rotate_left
      · intro w'
        go_simp
        with_reducible rfl
      rotate_left
      · simp only [Act.put, List.setIfInBounds_toArray, List.set_cons_zero, List.set_cons_succ, i64_w, i32_w]
        rfl
      refine pure_ (i := 13) (N := some 32) (v := undef) (a' := ?_) #[true, true, true, true, true, true, true, true, true, true, true, true, true, true, false, false] rfl rfl (any_of HT_.out (by kernel_rfl)) (fun _ _ _ h => h) (Or.inr ⟨by rfl, rfl⟩) ?_ ?_
      rotate_left
      · simp only [Act.put, List.setIfInBounds_toArray, List.set_cons_zero, List.set_cons_succ, i64_w, i32_w]
        rfl
      refine pure_ (i := 14) (N := some 33) (v := undef) (a' := ?_) #[true, true, true, true, true, true, true, true, true, true, true, true, true, true, true, false] rfl rfl (any_of HT_.out (by kernel_rfl)) (fun _ _ _ h => h) (Or.inr ⟨by rfl, rfl⟩) ?_ ?_
      rotate_left
      · simp only [Act.put, List.setIfInBounds_toArray, List.set_cons_zero, List.set_cons_succ, i64_w, i32_w]
        rfl
      refine pure_ (i := 15) (N := some 34) (v := ?_) (a' := ?_) #[true, true, true, true, true, true, true, true, true, true, true, true, true, true, true, true] rfl rfl (any_of HT_.out (by kernel_rfl)) (fun _ _ _ h => h) (Or.inl ⟨by rfl, ?_⟩) ?_ ?_
      rotate_left
      · intro w'
        go_simp
        with_reducible rfl
      rotate_left
      · simp only [Act.put, List.setIfInBounds_toArray, List.set_cons_zero, List.set_cons_succ, i64_w, i32_w]
        rfl
      refine done_ (done_of HT_.out (by kernel_rfl)) ?_
      go_wp2
      go_ret
      exact ⟨rfl, HB.out⟩
  · as_aux_lemma =>
      intro hr c1 c2
      subst hr
      go_enter Try.func15, Try.ntmps15
      go_wp2_with ((go_at_call 35; (with_reducible refine (alive_calls _).mono ?_); rintro e w1 ⟨rfl, hb⟩; have HB := Aside0.mk (below_drew (bel_trans HB0.out hb)); have HX := Aside0.mk ((HX0.out.below hb).below (below_drew (Below.refl _ _))); clear hb))
      refine start_ (n := 16) (S := fun w' => w'.cell? ⟨w.heap.size, 0, none⟩ = some (.int .u32 x.f0) ∧ w'.cell? ⟨w.heap.size, 1, none⟩ = some (.slice X1 x.f1.length n1) ∧ w'.cell? ⟨w.heap.size, 2, none⟩ = some (.slice X2 x.f2.length n2)) (ds := []) #[false, false, false, false, false, false, false, false, false, false, false, false, false, false, false, false] (by kernel_rfl) rfl rfl ⟨HX.out.y0, HX.out.y1, HX.out.y2⟩ (fun hHeld => ?_)
      refine with_tabW more.tab3 more.bits3 (fun HT_ HW_ => ?_)
      generalize w1.drew = wd at HB HX hHeld ⊢
      refine pure_ (i := 1) (N := some 20) (v := ?_) (a' := ?_) #[false, true, false, false, false, false, false, false, false, false, false, false, false, false, false, false] rfl rfl (any_of HT_.out (by kernel_rfl)) (fun _ _ _ h => h) (Or.inl ⟨by rfl, ?_⟩) ?_ ?_
      rotate_left
      · intro w'
        go_simp
        with_reducible rfl
      rotate_left
      · simp only [Act.put, List.setIfInBounds_toArray, List.set_cons_zero, List.set_cons_succ, i64_w, i32_w]
        rfl
      refine pure_ (i := 6) (N := some 25) (v := ?_) (a' := ?_) #[false, true, false, false, false, false, true, false, false, false, false, false, false, false, false, false] rfl rfl (any_of HT_.out (by kernel_rfl)) (fun _ _ _ h => h) (Or.inl ⟨by rfl, ?_⟩) ?_ ?_
      rotate_left
      · intro w'
        go_simp
        with_reducible rfl
      rotate_left
      · simp only [Act.put, List.setIfInBounds_toArray, List.set_cons_zero, List.set_cons_succ, i64_w, i32_w]
        rfl
      refine take_ (i := 3) (N := some 22) (v := ?_) (a' := ?_) #[false, true, false, true, false, false, true, false, false, false, false, false, false, false, false, false] rfl rfl (take_ofW HT_.out HW_.out (by kernel_rfl)) (fun _ _ _ h => h) (Or.inl ⟨by rfl, ?_⟩) hHeld ?_ ?_
      rotate_left
      · rintro w' ⟨s0, s1, s2⟩
        go_simp
        with_reducible rfl
      rotate_left
      · simp only [Act.put, List.setIfInBounds_toArray, List.set_cons_zero, List.set_cons_succ, i64_w, i32_w]
        rfl
      refine join_ (σ := Value × Value × Value) 10 #[true, true, true, true, true, false, true, false, false, false, false, false, false, false, false, false] (fun s => [(19, s.1), (21, s.2.1), (23, s.2.2)]) (fun s w' => ∃ g, s.2.2 = .slice (some ⟨g, 0, none⟩) 1 1 ∧ w'.heap[g]? = some (.cells #[.int .u32 x.f0, .slice X1 x.f1.length n1, .slice X2 x.f2.length n2] 59) ∧ OwnI w' (w.heap.size + 1) s.2.1 l ∧ IBox w' w.heap.size x X1 n1 X2 n2 ∧ Below w.heap.size w w') ?_ ?_
      rotate_left
      · intro hCont
        refine two_ (i := 0) (j := 4) (Ni := some 19) (Nj := some 23) #[true, true, false, true, false, false, true, false, false, false, false, false, false, false, false, false] #[false, true, false, true, true, false, true, false, false, false, false, false, false, false, false, false] rfl rfl rfl rfl (two_of HT_.out (by kernel_rfl)) (by decide) (by decide) (fun K hK => ?_) (fun K hK => ?_)
        · skip
          refine value_ (w1 := ?_) (v := ?_) (by rfl) rfl ?_ ?_
          rotate_left 2
          · go_simp
            constructor
            · rfl
            · rfl
          have NHX := Aside0.mk (HX.out.below (below_alloc (Below.refl _ _) (.cells #[] 59)))
          have NHB := Aside0.mk (bel_alloc HB.out (.cells #[] 59))
          have HV := Aside0.mk (by have h := OwnI.lit0 wd (w.heap.size + 1) HX.out.lt; (try simp only [World.size_alloc] at h); exact h)
          clear HX HB
          have HX := NHX; have HB := NHB
          clear NHX NHB
          refine hK.out _ _ ⟨HX.out.y0, HX.out.y1, HX.out.y2⟩ (fun hHeld => ?_)
          clear hK K
          refine norm_ (a' := ?_) ?_ ?_
          rotate_left
          · show Act.put _ (some 19) _ = _
            simp only [Act.put, List.setIfInBounds_toArray, List.set_cons_zero, List.set_cons_succ, i64_w, i32_w]
            rfl
          refine two_ (i := 2) (j := 4) (Ni := some 21) (Nj := some 23) #[true, true, true, true, false, false, true, false, false, false, false, false, false, false, false, false] #[true, true, false, true, true, false, true, false, false, false, false, false, false, false, false, false] rfl rfl rfl rfl (two_of HT_.out (by kernel_rfl)) (by decide) (by decide) (fun K hK => ?_) (fun K hK => ?_)
          · skip
            refine step_append_old rfl (.tmp 19) (.tmp 20) rfl (w.heap.size + 1) _ [] l A0 _ c0 rfl rfl rfl HV.out HC.out HB.out (fun k hk => by have := HV.out.base k hk; omega) (by have := HR.out; unfold maxLen; show 0 + l.length ≤ _; omega) (by have := HR.out; show (0 + l.length) * 56 ≤ _; omega) (HX.out.lt) ?_
            intro v2 w2 hv hO
            have NHV := Aside0.mk hv
            have NHX := Aside0.mk (HX.out.only hO (fun h => by have := HV.out.base _ h; omega))
            have NHB := Aside0.mk (hO.below_of HB.out (fun i hi => by have := HV.out.base i hi; omega))
            clear hv hO
            clear HV HX HB
            have HV := NHV; have HX := NHX; have HB := NHB
            clear NHV NHX NHB
            refine hK.out _ _ ⟨HX.out.y0, HX.out.y1, HX.out.y2⟩ (fun hHeld => ?_)
            clear hK K
            refine norm_ (a' := ?_) ?_ ?_
            rotate_left
            · show Act.put _ (some 21) _ = _
              simp only [Act.put, List.setIfInBounds_toArray, List.set_cons_zero, List.set_cons_succ, i64_w, i32_w]
              rfl
            refine one_ (i := 4) (N := some 23) #[true, true, true, true, true, false, true, false, false, false, false, false, false, false, false, false] rfl rfl (one_of HT_.out (by kernel_rfl)) (by decide) (fun K hK => ?_)
            refine value_ (w1 := ?_) (v := ?_) (by rfl) rfl ?_ ?_
            rotate_left 2
            · go_simp
              constructor
              · rfl
              · rfl
            have NHX := Aside0.mk (HX.out.below (below_alloc (Below.refl _ _) (.cells #[.int .u32 x.f0, .slice X1 x.f1.length n1, .slice X2 x.f2.length n2] 59)))
            have NHB := Aside0.mk (bel_alloc HB.out (.cells #[.int .u32 x.f0, .slice X1 x.f1.length n1, .slice X2 x.f2.length n2] 59))
            have HG := Aside0.mk (by have h := heap_alloc_new w2 (.cells #[.int .u32 x.f0, .slice X1 x.f1.length n1, .slice X2 x.f2.length n2] 59); (try simp only [World.size_alloc] at h); exact h)
            have NHV := Aside0.mk (HV.out.below (below_alloc (Below.refl _ _) (.cells #[.int .u32 x.f0, .slice X1 x.f1.length n1, .slice X2 x.f2.length n2] 59)))
            clear HX HB HV
            have HX := NHX; have HB := NHB; have HV := NHV
            clear NHX NHB NHV
            refine hK.out _ _ ⟨HX.out.y0, HX.out.y1, HX.out.y2⟩ (fun hHeld => ?_)
            clear hK K
            refine norm_ (a' := ?_) ?_ ?_
            rotate_left
            · show Act.put _ (some 23) _ = _
              simp only [Act.put, List.setIfInBounds_toArray, List.set_cons_zero, List.set_cons_succ, i64_w, i32_w]
              rfl
            exact norm_ (by simp only [Go.Proofs.YtchiobhklbefjaaW.PrintLast.putAll, Act.put, List.setIfInBounds_toArray, List.set_cons_zero, List.set_cons_succ]) (hCont (.slice (some ⟨(World.heap wd).size, 0, none⟩) 0 0, v2, .slice (some ⟨(World.heap w2).size, 0, none⟩) 1 1) _ ⟨_, rfl, HG.out, HV.out, HX.out, HB.out⟩)
          · skip
            refine value_ (w1 := ?_) (v := ?_) (by rfl) rfl ?_ ?_
            rotate_left 2
            · go_simp
              constructor
              · rfl
              · rfl
            have NHX := Aside0.mk (HX.out.below (below_alloc (Below.refl _ _) (.cells #[.int .u32 x.f0, .slice X1 x.f1.length n1, .slice X2 x.f2.length n2] 59)))
            have NHB := Aside0.mk (bel_alloc HB.out (.cells #[.int .u32 x.f0, .slice X1 x.f1.length n1, .slice X2 x.f2.length n2] 59))
            have HG := Aside0.mk (by have h := heap_alloc_new (World.alloc wd (.cells #[] 59)) (.cells #[.int .u32 x.f0, .slice X1 x.f1.length n1, .slice X2 x.f2.length n2] 59); (try simp only [World.size_alloc] at h); exact h)
            have NHV := Aside0.mk (HV.out.below (below_alloc (Below.refl _ _) (.cells #[.int .u32 x.f0, .slice X1 x.f1.length n1, .slice X2 x.f2.length n2] 59)))
            clear HX HB HV
            have HX := NHX; have HB := NHB; have HV := NHV
            clear NHX NHB NHV
            refine hK.out _ _ ⟨HX.out.y0, HX.out.y1, HX.out.y2⟩ (fun hHeld => ?_)
            clear hK K
            refine norm_ (a' := ?_) ?_ ?_
            rotate_left
            · show Act.put _ (some 23) _ = _
              simp only [Act.put, List.setIfInBounds_toArray, List.set_cons_zero, List.set_cons_succ, i64_w, i32_w]
              rfl
            refine one_ (i := 2) (N := some 21) #[true, true, true, true, true, false, true, false, false, false, false, false, false, false, false, false] rfl rfl (one_of HT_.out (by kernel_rfl)) (by decide) (fun K hK => ?_)
            refine step_append_old rfl (.tmp 19) (.tmp 20) rfl (w.heap.size + 1) _ [] l A0 _ c0 rfl rfl rfl HV.out HC.out HB.out (fun k hk => by have := HV.out.base k hk; omega) (by have := HR.out; unfold maxLen; show 0 + l.length ≤ _; omega) (by have := HR.out; show (0 + l.length) * 56 ≤ _; omega) (HX.out.lt) ?_
            intro v2 w2 hv hO
            have NHV := Aside0.mk hv
            have NHX := Aside0.mk (HX.out.only hO (fun h => by have := HV.out.base _ h; omega))
            have NHB := Aside0.mk (hO.below_of HB.out (fun i hi => by have := HV.out.base i hi; omega))
            have NHG := Aside0.mk ((hO.block _ (Array.getElem?_eq_some_iff.1 HG.out).1 (fun h => by have h1 : (World.heap wd).size = ((World.heap wd).size + 1) := Option.some.inj h; omega)).trans HG.out)
            clear hv hO
            clear HV HX HB HG
            have HV := NHV; have HX := NHX; have HB := NHB; have HG := NHG
            clear NHV NHX NHB NHG
            refine hK.out _ _ ⟨HX.out.y0, HX.out.y1, HX.out.y2⟩ (fun hHeld => ?_)
            clear hK K
            refine norm_ (a' := ?_) ?_ ?_
            rotate_left
            · show Act.put _ (some 21) _ = _
              simp only [Act.put, List.setIfInBounds_toArray, List.set_cons_zero, List.set_cons_succ, i64_w, i32_w]
              rfl
            exact norm_ (by simp only [Go.Proofs.YtchiobhklbefjaaW.PrintLast.putAll, Act.put, List.setIfInBounds_toArray, List.set_cons_zero, List.set_cons_succ]) (hCont (.slice (some ⟨(World.heap wd).size, 0, none⟩) 0 0, v2, .slice (some ⟨((World.heap wd).size + 1), 0, none⟩) 1 1) _ ⟨_, rfl, HG.out, HV.out, HX.out, HB.out⟩)
        · skip
          refine value_ (w1 := ?_) (v := ?_) (by rfl) rfl ?_ ?_
          rotate_left 2
          · go_simp
            constructor
            · rfl
            · rfl
          have NHX := Aside0.mk (HX.out.below (below_alloc (Below.refl _ _) (.cells #[.int .u32 x.f0, .slice X1 x.f1.length n1, .slice X2 x.f2.length n2] 59)))
          have NHB := Aside0.mk (bel_alloc HB.out (.cells #[.int .u32 x.f0, .slice X1 x.f1.length n1, .slice X2 x.f2.length n2] 59))
          have HG := Aside0.mk (by have h := heap_alloc_new wd (.cells #[.int .u32 x.f0, .slice X1 x.f1.length n1, .slice X2 x.f2.length n2] 59); (try simp only [World.size_alloc] at h); exact h)
          clear HX HB
          have HX := NHX; have HB := NHB
          clear NHX NHB
          refine hK.out _ _ ⟨HX.out.y0, HX.out.y1, HX.out.y2⟩ (fun hHeld => ?_)
          clear hK K
          refine norm_ (a' := ?_) ?_ ?_
          rotate_left
          · show Act.put _ (some 23) _ = _
            simp only [Act.put, List.setIfInBounds_toArray, List.set_cons_zero, List.set_cons_succ, i64_w, i32_w]
            rfl
          refine one_ (i := 0) (N := some 19) #[true, true, false, true, true, false, true, false, false, false, false, false, false, false, false, false] rfl rfl (one_of HT_.out (by kernel_rfl)) (by decide) (fun K hK => ?_)
          refine value_ (w1 := ?_) (v := ?_) (by rfl) rfl ?_ ?_
          rotate_left 2
          · go_simp
            constructor
            · rfl
            · rfl
          have NHX := Aside0.mk (HX.out.below (below_alloc (Below.refl _ _) (.cells #[] 59)))
          have NHB := Aside0.mk (bel_alloc HB.out (.cells #[] 59))
          have HV := Aside0.mk (by have h := OwnI.lit0 (World.alloc wd (.cells #[.int .u32 x.f0, .slice X1 x.f1.length n1, .slice X2 x.f2.length n2] 59)) (w.heap.size + 1) HX.out.lt; (try simp only [World.size_alloc] at h); exact h)
          have NHG := Aside0.mk (blk_alloc HG.out (.cells #[] 59))
          clear HX HB HG
          have HX := NHX; have HB := NHB; have HG := NHG
          clear NHX NHB NHG
          refine hK.out _ _ ⟨HX.out.y0, HX.out.y1, HX.out.y2⟩ (fun hHeld => ?_)
          clear hK K
          refine norm_ (a' := ?_) ?_ ?_
          rotate_left
          · show Act.put _ (some 19) _ = _
            simp only [Act.put, List.setIfInBounds_toArray, List.set_cons_zero, List.set_cons_succ, i64_w, i32_w]
            rfl
          refine one_ (i := 2) (N := some 21) #[true, true, true, true, true, false, true, false, false, false, false, false, false, false, false, false] rfl rfl (one_of HT_.out (by kernel_rfl)) (by decide) (fun K hK => ?_)
          refine step_append_old rfl (.tmp 19) (.tmp 20) rfl (w.heap.size + 1) _ [] l A0 _ c0 rfl rfl rfl HV.out HC.out HB.out (fun k hk => by have := HV.out.base k hk; omega) (by have := HR.out; unfold maxLen; show 0 + l.length ≤ _; omega) (by have := HR.out; show (0 + l.length) * 56 ≤ _; omega) (HX.out.lt) ?_
          intro v2 w2 hv hO
          have NHV := Aside0.mk hv
          have NHX := Aside0.mk (HX.out.only hO (fun h => by have := HV.out.base _ h; omega))
          have NHB := Aside0.mk (hO.below_of HB.out (fun i hi => by have := HV.out.base i hi; omega))
          have NHG := Aside0.mk ((hO.block _ (Array.getElem?_eq_some_iff.1 HG.out).1 (fun h => by have h1 : ((World.heap wd).size + 1) = (World.heap wd).size := Option.some.inj h; omega)).trans HG.out)
          clear hv hO
          clear HV HX HB HG
          have HV := NHV; have HX := NHX; have HB := NHB; have HG := NHG
          clear NHV NHX NHB NHG
          refine hK.out _ _ ⟨HX.out.y0, HX.out.y1, HX.out.y2⟩ (fun hHeld => ?_)
          clear hK K
          refine norm_ (a' := ?_) ?_ ?_
          rotate_left
          · show Act.put _ (some 21) _ = _
            simp only [Act.put, List.setIfInBounds_toArray, List.set_cons_zero, List.set_cons_succ, i64_w, i32_w]
            rfl
          exact norm_ (by simp only [Go.Proofs.YtchiobhklbefjaaW.PrintLast.putAll, Act.put, List.setIfInBounds_toArray, List.set_cons_zero, List.set_cons_succ]) (hCont (.slice (some ⟨((World.heap wd).size + 1), 0, none⟩) 0 0, v2, .slice (some ⟨(World.heap wd).size, 0, none⟩) 1 1) _ ⟨_, rfl, HG.out, HV.out, HX.out, HB.out⟩)
      rintro ⟨va, vb, vc⟩ w5 ⟨g, eg, hG, hV, hX, hB⟩
      replace eg : vc = _ := eg
      subst eg
      clear HX HB
      have HG := Aside0.mk hG; have HV := Aside0.mk hV; have HX := Aside0.mk hX; have HB := Aside0.mk hB
      clear hG hV hX hB
      have hHeld := And.intro HX.out.y0 (And.intro HX.out.y1 HX.out.y2)
      refine norm_ (a' := ?_) ?_ ?_
      rotate_left
      · simp only [Go.Proofs.YtchiobhklbefjaaW.PrintLast.putAll, Act.put, List.setIfInBounds_toArray, List.set_cons_zero, List.set_cons_succ]
        rfl
      refine one_ (i := 5) (N := some 24) #[true, true, true, true, true, true, true, false, false, false, false, false, false, false, false, false] rfl rfl (one_of HT_.out (by kernel_rfl)) (by decide) (fun K hK => ?_)
      refine step_append_one rfl (.tmp 21) (.tmp 23) rfl (w.heap.size + 1) _ l x g _ _ _ rfl rfl HV.out HG.out (fr_old HK.out HB.out (fun k hk => by have := HV.out.base k hk; omega)) (by have := HR.out; unfold maxLen; omega) (by have := HR.out; omega) (HX.out.lt) ?_
      intro v3 w3 hv hO
      have NHX := Aside0.mk (HX.out.only hO (fun h => by have := HV.out.base _ h; omega))
      have NHB := Aside0.mk (hO.below_of HB.out (fun i hi => by have := HV.out.base i hi; omega))
      obtain ⟨ao, cap, rfl, hcap, hCC⟩ := hv.Cn HNN.out
      have HCC := Aside0.mk hCC
      have HCAP := Aside0.mk hcap
      clear hv hO hcap hCC HV HG
      clear HX HB
      have HX := NHX; have HB := NHB
      clear NHX NHB
      refine hK.out _ _ ⟨HX.out.y0, HX.out.y1, HX.out.y2⟩ (fun hHeld => ?_)
      clear hK K
      refine norm_ (a' := ?_) ?_ ?_
      rotate_left
      · show Act.put _ (some 24) _ = _
        simp only [Act.put, List.setIfInBounds_toArray, List.set_cons_zero, List.set_cons_succ, i64_w, i32_w]
        rfl
      refine one_ (i := 7) (N := some 26) #[true, true, true, true, true, true, true, true, false, false, false, false, false, false, false, false] rfl rfl (one_of HT_.out (by kernel_rfl)) (by decide) (fun K hK => ?_)
      refine goes_ Try.func36 (by kernel_rfl) rfl #[.slice ao N cap, .agg #[.slice none 0 0, .slice none 0 0, .slice none 0 0]] (by rfl) rfl rfl (by simp only [List.map_toArray, List.map_cons, List.map_nil]; rfl) ?_
      with_reducible refine (great_bare HNN.out HCAP.out HCC.out HG_.out).mono ?_
      rintro e w4 ⟨rfl, hb⟩
      refine ⟨_, rfl, ?_⟩
      have NHX := Aside0.mk (HX.out.below hb)
      have NHB := Aside0.mk (bel_trans HB.out hb)
      clear hb
      clear HX HB
      have HX := NHX; have HB := NHB
      clear NHX NHB
      refine hK.out _ _ ⟨HX.out.y0, HX.out.y1, HX.out.y2⟩ (fun hHeld => ?_)
      clear hK K
      refine norm_ (a' := ?_) ?_ ?_
      rotate_left
      · show Act.put _ (some 26) _ = _
        simp only [Act.put, List.setIfInBounds_toArray, List.set_cons_zero, List.set_cons_succ, i64_w, i32_w]
        rfl
      refine pure_ (i := 8) (N := some 27) (v := ?_) (a' := ?_) #[true, true, true, true, true, true, true, true, true, false, false, false, false, false, false, false] rfl rfl (any_of HT_.out (by kernel_rfl)) (fun _ _ _ h => h) (Or.inl ⟨by rfl, ?_⟩) ?_ ?_
      rotate_left
      · intro w'
        go_simp
        with_reducible rfl
      rotate_left
      · simp only [Act.put, List.setIfInBounds_toArray, List.set_cons_zero, List.set_cons_succ, i64_w, i32_w]
        rfl
      refine pure_ (i := 9) (N := some 28) (v := ?_) (a' := ?_) #[true, true, true, true, true, true, true, true, true, true, false, false, false, false, false, false] rfl rfl (any_of HT_.out (by kernel_rfl)) (fun _ _ _ h => h) (Or.inl ⟨by rfl, ?_⟩) ?_ ?_
      rotate_left
      · intro w'
        go_simp
        with_reducible rfl
      rotate_left
      · simp only [Act.put, List.setIfInBounds_toArray, List.set_cons_zero, List.set_cons_succ, i64_w, i32_w]
        rfl
      refine pure_ (i := 10) (N := some 29) (v := ?_) (a' := ?_) #[true, true, true, true, true, true, true, true, true, true, true, false, false, false, false, false] rfl rfl (any_of HT_.out (by kernel_rfl)) (fun _ _ _ h => h) (Or.inl ⟨by rfl, ?_⟩) ?_ ?_
      rotate_left
      · intro w'
        go_simp
        with_reducible rfl
      rotate_left
      · simp only [Act.put, List.setIfInBounds_toArray, List.set_cons_zero, List.set_cons_succ, i64_w, i32_w]
        rfl
      refine pure_ (i := 11) (N := some 30) (v := ?_) (a' := ?_) #[true, true, true, true, true, true, true, true, true, true, true, true, false, false, false, false] rfl rfl (any_of HT_.out (by kernel_rfl)) (fun _ _ _ h => h) (Or.inl ⟨by rfl, ?_⟩) ?_ ?_
      rotate_left
      · intro w'
        go_simp
        with_reducible rfl
      rotate_left
      · simp only [Act.put, List.setIfInBounds_toArray, List.set_cons_zero, List.set_cons_succ, i64_w, i32_w]
        rfl
      refine pure_ (i := 12) (N := some 31) (v := ?_) (a' := ?_) #[true, true, true, true, true, true, true, true, true, true, true, true, true, false, false, false] rfl rfl (any_of HT_.out (by kernel_rfl)) (fun _ _ _ h => h) (Or.inl ⟨by rfl, ?_⟩) ?_ ?_
      rotate_left
      · intro w'
        go_simp
        with_reducible rfl
      rotate_left
      · simp only [Act.put, List.setIfInBounds_toArray, List.set_cons_zero, List.set_cons_succ, i64_w, i32_w]
        rfl
      refine pure_ (i := 13) (N := some 32) (v := ?_) (a' := ?_) #[true, true, true, true, true, true, true, true, true, true, true, true, true, true, false, false] rfl rfl (any_of HT_.out (by kernel_rfl)) (fun _ _ _ h => h) (Or.inl ⟨by rfl, ?_⟩) ?_ ?_
      rotate_left
      · intro w'
        go_simp
        with_reducible rfl
      rotate_left
      · simp only [Act.put, List.setIfInBounds_toArray, List.set_cons_zero, List.set_cons_succ, i64_w, i32_w]
        rfl
      refine pure_ (i := 14) (N := some 33) (v := ?_) (a' := ?_) #[true, true, true, true, true, true, true, true, true, true, true, true, true, true, true, false] rfl rfl (any_of HT_.out (by kernel_rfl)) (fun _ _ _ h => h) (Or.inl ⟨by rfl, ?_⟩) ?_ ?_
      rotate_left
      · intro w'
        go_simp
        with_reducible rfl
      rotate_left
      · simp only [Act.put, List.setIfInBounds_toArray, List.set_cons_zero, List.set_cons_succ, i64_w, i32_w]
        rfl
      refine pure_ (i := 15) (N := some 34) (v := ?_) (a' := ?_) #[true, true, true, true, true, true, true, true, true, true, true, true, true, true, true, true] rfl rfl (any_of HT_.out (by kernel_rfl)) (fun _ _ _ h => h) (Or.inl ⟨by rfl, ?_⟩) ?_ ?_
      rotate_left
      · intro w'
        go_simp
        with_reducible rfl
      rotate_left
      · simp only [Act.put, List.setIfInBounds_toArray, List.set_cons_zero, List.set_cons_succ, i64_w, i32_w]
        rfl
      refine done_ (done_of HT_.out (by kernel_rfl)) ?_
      go_wp2
      go_ret
      exact ⟨rfl, HB.out⟩
  · as_aux_lemma =>
      intro hr c1 c2
      subst hr
      obtain ⟨hn, -, -, -, hx⟩ := HFI.out rfl
      have hk1 : 1 ≤ k := by have := of_decide_eq_false c1; omega
      have hk2 : k ≤ 255 := by have := of_decide_eq_false c2; omega
      obtain ⟨kk, rfl⟩ : ∃ kk : Nat, k = (kk : Int) := ⟨k.toNat, by omega⟩
      have HKK := Aside0.mk (show kk ≤ 255 by omega)
      have HFC := Aside0.mk (show Fine ⟨m, q, [], [], []⟩ (l ++ [x]) from ⟨HM.out.1, HM.out.2, by simp, by simp, by simp, hn, fun y hy => ⟨by have := (hx y hy).1; omega, by have := (hx y hy).2; omega⟩⟩)
      have HFL := Aside0.mk (show Fine ⟨m, q, [], [], []⟩ l from ⟨HM.out.1, HM.out.2, by simp, by simp, by simp, by rw [List.length_append] at hn; omega, fun y hy => HFC.out.x y (List.mem_append_left _ hy)⟩)
      clear hk1 hk2 hn hx
      obtain ⟨K1, hK1⟩ : ∃ n, kk + 1 = n := ⟨_, rfl⟩
      have kn : wrap64 ((kk : Int) + 1) = (K1 : Int) := by rw [← hK1]; exact succ_wrap (show kk < 256 by have := HKK.out; omega) (by omega)
      have HKL := Aside0.mk (show K1 ≤ 256 by have := HKK.out; omega)
      obtain ⟨P, hP⟩ : ∃ P, (sortH ((⟨m, q, [], [], []⟩ : Ask).hits l)).take kk = P := ⟨_, rfl⟩
      obtain ⟨P2, hP2⟩ : ∃ P, (sortH ((⟨m, q, [], [], []⟩ : Ask).hits l)).take (kk + 1) = P := ⟨_, rfl⟩
      obtain ⟨C, hC⟩ : ∃ P, (sortH ((⟨m, q, [], [], []⟩ : Ask).hits (l ++ [x]))).take kk = P := ⟨_, rfl⟩
      have HCNT := Aside0.mk (show C.length ≤ C.countP (hasH P) + 1 ∧ P.length ≤ C.countP (hasH P) + 1 by rw [← hP, ← hC]; exact more_page _ l x kk)
      have HPL := Aside0.mk (show P.length ≤ P2.length ∧ P2.length ≤ 300 ∧ C.length ≤ 300 by
        have h1 := hits_small _ HFL.out
        have h2 := hits_small _ HFC.out
        rw [← hP, ← hP2, ← hC, List.length_take, List.length_take, List.length_take]; omega)
      have HPP := Aside0.mk (show P2.take P.length = P by rw [← hP, ← hP2]; exact take_len _ kk)
      have HPA := Aside0.mk hP
      have HPB := Aside0.mk hP2
      rw [hK1] at HPB
      have HPC := Aside0.mk hC
      clear hP hP2 hC hK1
      go_enter Try.func15, Try.ntmps15
      go_wp2_with ((go_at_call 35; (with_reducible refine (alive_calls _).mono ?_); rintro e w1 ⟨rfl, hb⟩; have HB := Aside0.mk (below_drew (bel_trans HB0.out hb)); have HX := Aside0.mk ((HX0.out.below hb).below (below_drew (Below.refl _ _))); clear hb))
      refine start_ (n := 16) (S := fun w' => w'.cell? ⟨w.heap.size, 0, none⟩ = some (.int .u32 x.f0) ∧ w'.cell? ⟨w.heap.size, 1, none⟩ = some (.slice X1 x.f1.length n1) ∧ w'.cell? ⟨w.heap.size, 2, none⟩ = some (.slice X2 x.f2.length n2)) (ds := []) #[false, false, false, false, false, false, false, false, false, false, false, false, false, false, false, false] (by kernel_rfl) rfl rfl ⟨HX.out.y0, HX.out.y1, HX.out.y2⟩ (fun hHeld => ?_)
      refine with_tabW more.tab3 more.bits3 (fun HT_ HW_ => ?_)
      generalize w1.drew = wd at HB HX hHeld ⊢
      refine pure_ (i := 1) (N := some 20) (v := ?_) (a' := ?_) #[false, true, false, false, false, false, false, false, false, false, false, false, false, false, false, false] rfl rfl (any_of HT_.out (by kernel_rfl)) (fun _ _ _ h => h) (Or.inl ⟨by rfl, ?_⟩) ?_ ?_
      rotate_left
      · intro w'
        go_simp
        with_reducible rfl
      rotate_left
      · simp only [Act.put, List.setIfInBounds_toArray, List.set_cons_zero, List.set_cons_succ, i64_w, i32_w]
        rfl
      refine pure_ (i := 6) (N := some 25) (v := ?_) (a' := ?_) #[false, true, false, false, false, false, true, false, false, false, false, false, false, false, false, false] rfl rfl (any_of HT_.out (by kernel_rfl)) (fun _ _ _ h => h) (Or.inl ⟨by rfl, ?_⟩) ?_ ?_
      rotate_left
      · intro w'
        go_simp
        with_reducible rfl
      rotate_left
      · simp only [Act.put, List.setIfInBounds_toArray, List.set_cons_zero, List.set_cons_succ, i64_w, i32_w]
        rfl
      refine take_ (i := 3) (N := some 22) (v := ?_) (a' := ?_) #[false, true, false, true, false, false, true, false, false, false, false, false, false, false, false, false] rfl rfl (take_ofW HT_.out HW_.out (by kernel_rfl)) (fun _ _ _ h => h) (Or.inl ⟨by rfl, ?_⟩) hHeld ?_ ?_
      rotate_left
      · rintro w' ⟨s0, s1, s2⟩
        go_simp
        with_reducible rfl
      rotate_left
      · simp only [Act.put, List.setIfInBounds_toArray, List.set_cons_zero, List.set_cons_succ, i64_w, i32_w]
        rfl
      refine join_ (σ := Value × Value × Value) 10 #[true, true, true, true, true, false, true, false, false, false, false, false, false, false, false, false] (fun s => [(19, s.1), (21, s.2.1), (23, s.2.2)]) (fun s w' => ∃ g, s.2.2 = .slice (some ⟨g, 0, none⟩) 1 1 ∧ w'.heap[g]? = some (.cells #[.int .u32 x.f0, .slice X1 x.f1.length n1, .slice X2 x.f2.length n2] 59) ∧ OwnI w' (w.heap.size + 1) s.2.1 l ∧ IBox w' w.heap.size x X1 n1 X2 n2 ∧ Below w.heap.size w w') ?_ ?_
      rotate_left
      · intro hCont
        refine two_ (i := 0) (j := 4) (Ni := some 19) (Nj := some 23) #[true, true, false, true, false, false, true, false, false, false, false, false, false, false, false, false] #[false, true, false, true, true, false, true, false, false, false, false, false, false, false, false, false] rfl rfl rfl rfl (two_of HT_.out (by kernel_rfl)) (by decide) (by decide) (fun K hK => ?_) (fun K hK => ?_)
        · skip
          refine value_ (w1 := ?_) (v := ?_) (by rfl) rfl ?_ ?_
          rotate_left 2
          · go_simp
            constructor
            · rfl
            · rfl
          have NHX := Aside0.mk (HX.out.below (below_alloc (Below.refl _ _) (.cells #[] 59)))
          have NHB := Aside0.mk (bel_alloc HB.out (.cells #[] 59))
          have HV := Aside0.mk (by have h := OwnI.lit0 wd (w.heap.size + 1) HX.out.lt; (try simp only [World.size_alloc] at h); exact h)
          clear HX HB
          have HX := NHX; have HB := NHB
          clear NHX NHB
          refine hK.out _ _ ⟨HX.out.y0, HX.out.y1, HX.out.y2⟩ (fun hHeld => ?_)
          clear hK K
          refine norm_ (a' := ?_) ?_ ?_
          rotate_left
          · show Act.put _ (some 19) _ = _
            simp only [Act.put, List.setIfInBounds_toArray, List.set_cons_zero, List.set_cons_succ, i64_w, i32_w]
            rfl
          refine two_ (i := 2) (j := 4) (Ni := some 21) (Nj := some 23) #[true, true, true, true, false, false, true, false, false, false, false, false, false, false, false, false] #[true, true, false, true, true, false, true, false, false, false, false, false, false, false, false, false] rfl rfl rfl rfl (two_of HT_.out (by kernel_rfl)) (by decide) (by decide) (fun K hK => ?_) (fun K hK => ?_)
          · skip
            refine step_append_old rfl (.tmp 19) (.tmp 20) rfl (w.heap.size + 1) _ [] l A0 _ c0 rfl rfl rfl HV.out HC.out HB.out (fun k hk => by have := HV.out.base k hk; omega) (by have := HR.out; unfold maxLen; show 0 + l.length ≤ _; omega) (by have := HR.out; show (0 + l.length) * 56 ≤ _; omega) (HX.out.lt) ?_
            intro v2 w2 hv hO
            have NHV := Aside0.mk hv
            have NHX := Aside0.mk (HX.out.only hO (fun h => by have := HV.out.base _ h; omega))
            have NHB := Aside0.mk (hO.below_of HB.out (fun i hi => by have := HV.out.base i hi; omega))
            clear hv hO
            clear HV HX HB
            have HV := NHV; have HX := NHX; have HB := NHB
            clear NHV NHX NHB
            refine hK.out _ _ ⟨HX.out.y0, HX.out.y1, HX.out.y2⟩ (fun hHeld => ?_)
            clear hK K
            refine norm_ (a' := ?_) ?_ ?_
            rotate_left
            · show Act.put _ (some 21) _ = _
              simp only [Act.put, List.setIfInBounds_toArray, List.set_cons_zero, List.set_cons_succ, i64_w, i32_w]
              rfl
            refine one_ (i := 4) (N := some 23) #[true, true, true, true, true, false, true, false, false, false, false, false, false, false, false, false] rfl rfl (one_of HT_.out (by kernel_rfl)) (by decide) (fun K hK => ?_)
            refine value_ (w1 := ?_) (v := ?_) (by rfl) rfl ?_ ?_
            rotate_left 2
            · go_simp
              constructor
              · rfl
              · rfl
            have NHX := Aside0.mk (HX.out.below (below_alloc (Below.refl _ _) (.cells #[.int .u32 x.f0, .slice X1 x.f1.length n1, .slice X2 x.f2.length n2] 59)))
            have NHB := Aside0.mk (bel_alloc HB.out (.cells #[.int .u32 x.f0, .slice X1 x.f1.length n1, .slice X2 x.f2.length n2] 59))
            have HG := Aside0.mk (by have h := heap_alloc_new w2 (.cells #[.int .u32 x.f0, .slice X1 x.f1.length n1, .slice X2 x.f2.length n2] 59); (try simp only [World.size_alloc] at h); exact h)
            have NHV := Aside0.mk (HV.out.below (below_alloc (Below.refl _ _) (.cells #[.int .u32 x.f0, .slice X1 x.f1.length n1, .slice X2 x.f2.length n2] 59)))
            clear HX HB HV
            have HX := NHX; have HB := NHB; have HV := NHV
            clear NHX NHB NHV
            refine hK.out _ _ ⟨HX.out.y0, HX.out.y1, HX.out.y2⟩ (fun hHeld => ?_)
            clear hK K
            refine norm_ (a' := ?_) ?_ ?_
            rotate_left
            · show Act.put _ (some 23) _ = _
              simp only [Act.put, List.setIfInBounds_toArray, List.set_cons_zero, List.set_cons_succ, i64_w, i32_w]
              rfl
            exact norm_ (by simp only [Go.Proofs.YtchiobhklbefjaaW.PrintLast.putAll, Act.put, List.setIfInBounds_toArray, List.set_cons_zero, List.set_cons_succ]) (hCont (.slice (some ⟨(World.heap wd).size, 0, none⟩) 0 0, v2, .slice (some ⟨(World.heap w2).size, 0, none⟩) 1 1) _ ⟨_, rfl, HG.out, HV.out, HX.out, HB.out⟩)
          · skip
            refine value_ (w1 := ?_) (v := ?_) (by rfl) rfl ?_ ?_
            rotate_left 2
            · go_simp
              constructor
              · rfl
              · rfl
            have NHX := Aside0.mk (HX.out.below (below_alloc (Below.refl _ _) (.cells #[.int .u32 x.f0, .slice X1 x.f1.length n1, .slice X2 x.f2.length n2] 59)))
            have NHB := Aside0.mk (bel_alloc HB.out (.cells #[.int .u32 x.f0, .slice X1 x.f1.length n1, .slice X2 x.f2.length n2] 59))
            have HG := Aside0.mk (by have h := heap_alloc_new (World.alloc wd (.cells #[] 59)) (.cells #[.int .u32 x.f0, .slice X1 x.f1.length n1, .slice X2 x.f2.length n2] 59); (try simp only [World.size_alloc] at h); exact h)
            have NHV := Aside0.mk (HV.out.below (below_alloc (Below.refl _ _) (.cells #[.int .u32 x.f0, .slice X1 x.f1.length n1, .slice X2 x.f2.length n2] 59)))
            clear HX HB HV
            have HX := NHX; have HB := NHB; have HV := NHV
            clear NHX NHB NHV
            refine hK.out _ _ ⟨HX.out.y0, HX.out.y1, HX.out.y2⟩ (fun hHeld => ?_)
            clear hK K
            refine norm_ (a' := ?_) ?_ ?_
            rotate_left
            · show Act.put _ (some 23) _ = _
              simp only [Act.put, List.setIfInBounds_toArray, List.set_cons_zero, List.set_cons_succ, i64_w, i32_w]
              rfl
            refine one_ (i := 2) (N := some 21) #[true, true, true, true, true, false, true, false, false, false, false, false, false, false, false, false] rfl rfl (one_of HT_.out (by kernel_rfl)) (by decide) (fun K hK => ?_)
            refine step_append_old rfl (.tmp 19) (.tmp 20) rfl (w.heap.size + 1) _ [] l A0 _ c0 rfl rfl rfl HV.out HC.out HB.out (fun k hk => by have := HV.out.base k hk; omega) (by have := HR.out; unfold maxLen; show 0 + l.length ≤ _; omega) (by have := HR.out; show (0 + l.length) * 56 ≤ _; omega) (HX.out.lt) ?_
            intro v2 w2 hv hO
            have NHV := Aside0.mk hv
            have NHX := Aside0.mk (HX.out.only hO (fun h => by have := HV.out.base _ h; omega))
            have NHB := Aside0.mk (hO.below_of HB.out (fun i hi => by have := HV.out.base i hi; omega))
            have NHG := Aside0.mk ((hO.block _ (Array.getElem?_eq_some_iff.1 HG.out).1 (fun h => by have h1 : (World.heap wd).size = ((World.heap wd).size + 1) := Option.some.inj h; omega)).trans HG.out)
            clear hv hO
            clear HV HX HB HG
            have HV := NHV; have HX := NHX; have HB := NHB; have HG := NHG
            clear NHV NHX NHB NHG
            refine hK.out _ _ ⟨HX.out.y0, HX.out.y1, HX.out.y2⟩ (fun hHeld => ?_)
            clear hK K
            refine norm_ (a' := ?_) ?_ ?_
            rotate_left
            · show Act.put _ (some 21) _ = _
              simp only [Act.put, List.setIfInBounds_toArray, List.set_cons_zero, List.set_cons_succ, i64_w, i32_w]
              rfl
            exact norm_ (by simp only [Go.Proofs.YtchiobhklbefjaaW.PrintLast.putAll, Act.put, List.setIfInBounds_toArray, List.set_cons_zero, List.set_cons_succ]) (hCont (.slice (some ⟨(World.heap wd).size, 0, none⟩) 0 0, v2, .slice (some ⟨((World.heap wd).size + 1), 0, none⟩) 1 1) _ ⟨_, rfl, HG.out, HV.out, HX.out, HB.out⟩)
        · skip
          refine value_ (w1 := ?_) (v := ?_) (by rfl) rfl ?_ ?_
          rotate_left 2
          · go_simp
            constructor
            · rfl
            · rfl
          have NHX := Aside0.mk (HX.out.below (below_alloc (Below.refl _ _) (.cells #[.int .u32 x.f0, .slice X1 x.f1.length n1, .slice X2 x.f2.length n2] 59)))
          have NHB := Aside0.mk (bel_alloc HB.out (.cells #[.int .u32 x.f0, .slice X1 x.f1.length n1, .slice X2 x.f2.length n2] 59))
          have HG := Aside0.mk (by have h := heap_alloc_new wd (.cells #[.int .u32 x.f0, .slice X1 x.f1.length n1, .slice X2 x.f2.length n2] 59); (try simp only [World.size_alloc] at h); exact h)
          clear HX HB
          have HX := NHX; have HB := NHB
          clear NHX NHB
          refine hK.out _ _ ⟨HX.out.y0, HX.out.y1, HX.out.y2⟩ (fun hHeld => ?_)
          clear hK K
          refine norm_ (a' := ?_) ?_ ?_
          rotate_left
          · show Act.put _ (some 23) _ = _
            simp only [Act.put, List.setIfInBounds_toArray, List.set_cons_zero, List.set_cons_succ, i64_w, i32_w]
            rfl
          refine one_ (i := 0) (N := some 19) #[true, true, false, true, true, false, true, false, false, false, false, false, false, false, false, false] rfl rfl (one_of HT_.out (by kernel_rfl)) (by decide) (fun K hK => ?_)
          refine value_ (w1 := ?_) (v := ?_) (by rfl) rfl ?_ ?_
          rotate_left 2
          · go_simp
            constructor
            · rfl
            · rfl
          have NHX := Aside0.mk (HX.out.below (below_alloc (Below.refl _ _) (.cells #[] 59)))
          have NHB := Aside0.mk (bel_alloc HB.out (.cells #[] 59))
          have HV := Aside0.mk (by have h := OwnI.lit0 (World.alloc wd (.cells #[.int .u32 x.f0, .slice X1 x.f1.length n1, .slice X2 x.f2.length n2] 59)) (w.heap.size + 1) HX.out.lt; (try simp only [World.size_alloc] at h); exact h)
          have NHG := Aside0.mk (blk_alloc HG.out (.cells #[] 59))
          clear HX HB HG
          have HX := NHX; have HB := NHB; have HG := NHG
          clear NHX NHB NHG
          refine hK.out _ _ ⟨HX.out.y0, HX.out.y1, HX.out.y2⟩ (fun hHeld => ?_)
          clear hK K
          refine norm_ (a' := ?_) ?_ ?_
          rotate_left
          · show Act.put _ (some 19) _ = _
            simp only [Act.put, List.setIfInBounds_toArray, List.set_cons_zero, List.set_cons_succ, i64_w, i32_w]
            rfl
          refine one_ (i := 2) (N := some 21) #[true, true, true, true, true, false, true, false, false, false, false, false, false, false, false, false] rfl rfl (one_of HT_.out (by kernel_rfl)) (by decide) (fun K hK => ?_)
          refine step_append_old rfl (.tmp 19) (.tmp 20) rfl (w.heap.size + 1) _ [] l A0 _ c0 rfl rfl rfl HV.out HC.out HB.out (fun k hk => by have := HV.out.base k hk; omega) (by have := HR.out; unfold maxLen; show 0 + l.length ≤ _; omega) (by have := HR.out; show (0 + l.length) * 56 ≤ _; omega) (HX.out.lt) ?_
          intro v2 w2 hv hO
          have NHV := Aside0.mk hv
          have NHX := Aside0.mk (HX.out.only hO (fun h => by have := HV.out.base _ h; omega))
          have NHB := Aside0.mk (hO.below_of HB.out (fun i hi => by have := HV.out.base i hi; omega))
          have NHG := Aside0.mk ((hO.block _ (Array.getElem?_eq_some_iff.1 HG.out).1 (fun h => by have h1 : ((World.heap wd).size + 1) = (World.heap wd).size := Option.some.inj h; omega)).trans HG.out)
          clear hv hO
          clear HV HX HB HG
          have HV := NHV; have HX := NHX; have HB := NHB; have HG := NHG
          clear NHV NHX NHB NHG
          refine hK.out _ _ ⟨HX.out.y0, HX.out.y1, HX.out.y2⟩ (fun hHeld => ?_)
          clear hK K
          refine norm_ (a' := ?_) ?_ ?_
          rotate_left
          · show Act.put _ (some 21) _ = _
            simp only [Act.put, List.setIfInBounds_toArray, List.set_cons_zero, List.set_cons_succ, i64_w, i32_w]
            rfl
          exact norm_ (by simp only [Go.Proofs.YtchiobhklbefjaaW.PrintLast.putAll, Act.put, List.setIfInBounds_toArray, List.set_cons_zero, List.set_cons_succ]) (hCont (.slice (some ⟨((World.heap wd).size + 1), 0, none⟩) 0 0, v2, .slice (some ⟨(World.heap wd).size, 0, none⟩) 1 1) _ ⟨_, rfl, HG.out, HV.out, HX.out, HB.out⟩)
      rintro ⟨va, vb, vc⟩ w5 ⟨g, eg, hG, hV, hX, hB⟩
      replace eg : vc = _ := eg
      subst eg
      clear HX HB
      have HG := Aside0.mk hG; have HV := Aside0.mk hV; have HX := Aside0.mk hX; have HB := Aside0.mk hB
      clear hG hV hX hB
      have hHeld := And.intro HX.out.y0 (And.intro HX.out.y1 HX.out.y2)
      refine norm_ (a' := ?_) ?_ ?_
      rotate_left
      · simp only [Go.Proofs.YtchiobhklbefjaaW.PrintLast.putAll, Act.put, List.setIfInBounds_toArray, List.set_cons_zero, List.set_cons_succ]
        rfl
      refine one_ (i := 5) (N := some 24) #[true, true, true, true, true, true, true, false, false, false, false, false, false, false, false, false] rfl rfl (one_of HT_.out (by kernel_rfl)) (by decide) (fun K hK => ?_)
      refine step_append_one rfl (.tmp 21) (.tmp 23) rfl (w.heap.size + 1) _ l x g _ _ _ rfl rfl HV.out HG.out (fr_old HK.out HB.out (fun k hk => by have := HV.out.base k hk; omega)) (by have := HR.out; unfold maxLen; omega) (by have := HR.out; omega) (HX.out.lt) ?_
      intro v3 w3 hv hO
      have NHX := Aside0.mk (HX.out.only hO (fun h => by have := HV.out.base _ h; omega))
      have NHB := Aside0.mk (hO.below_of HB.out (fun i hi => by have := HV.out.base i hi; omega))
      obtain ⟨ao, cap, rfl, hcap, hCC⟩ := hv.Cn HNN.out
      have HCC := Aside0.mk hCC
      have HCAP := Aside0.mk hcap
      clear hv hO hcap hCC HV HG
      clear HX HB
      have HX := NHX; have HB := NHB
      clear NHX NHB
      refine hK.out _ _ ⟨HX.out.y0, HX.out.y1, HX.out.y2⟩ (fun hHeld => ?_)
      clear hK K
      refine norm_ (a' := ?_) ?_ ?_
      rotate_left
      · show Act.put _ (some 24) _ = _
        simp only [Act.put, List.setIfInBounds_toArray, List.set_cons_zero, List.set_cons_succ, i64_w, i32_w]
        rfl
      refine one_ (i := 7) (N := some 26) #[true, true, true, true, true, true, true, true, false, false, false, false, false, false, false, false] rfl rfl (one_of HT_.out (by kernel_rfl)) (by decide) (fun K hK => ?_)
      refine goes_ Try.func36 (by kernel_rfl) rfl #[.slice ao N cap, .agg #[.slice none 0 0, .slice none 0 0, .slice none 0 0]] (by rfl) rfl rfl (by simp only [List.map_toArray, List.map_cons, List.map_nil]; rfl) ?_
      with_reducible refine (great_bare HNN.out HCAP.out HCC.out HG_.out).mono ?_
      rintro e w4 ⟨rfl, hb⟩
      refine ⟨_, rfl, ?_⟩
      have NHX := Aside0.mk (HX.out.below hb)
      have NHB := Aside0.mk (bel_trans HB.out hb)
      clear hb
      clear HX HB
      have HX := NHX; have HB := NHB
      clear NHX NHB
      refine hK.out _ _ ⟨HX.out.y0, HX.out.y1, HX.out.y2⟩ (fun hHeld => ?_)
      clear hK K
      refine norm_ (a' := ?_) ?_ ?_
      rotate_left
      · show Act.put _ (some 26) _ = _
        simp only [Act.put, List.setIfInBounds_toArray, List.set_cons_zero, List.set_cons_succ, i64_w, i32_w]
        rfl
      refine pure_ (i := 8) (N := some 27) (v := ?_) (a' := ?_) #[true, true, true, true, true, true, true, true, true, false, false, false, false, false, false, false] rfl rfl (any_of HT_.out (by kernel_rfl)) (fun _ _ _ h => h) (Or.inl ⟨by rfl, ?_⟩) ?_ ?_
      rotate_left
      · intro w'
        go_simp
        with_reducible rfl
      rotate_left
      · simp only [Act.put, List.setIfInBounds_toArray, List.set_cons_zero, List.set_cons_succ, i64_w, i32_w]
        rfl
      refine pure_ (i := 9) (N := some 28) (v := ?_) (a' := ?_) #[true, true, true, true, true, true, true, true, true, true, false, false, false, false, false, false] rfl rfl (any_of HT_.out (by kernel_rfl)) (fun _ _ _ h => h) (Or.inl ⟨by rfl, ?_⟩) ?_ ?_
      rotate_left
      · intro w'
        go_simp
        with_reducible rfl
      rotate_left
      · simp only [Act.put, List.setIfInBounds_toArray, List.set_cons_zero, List.set_cons_succ, i64_w, i32_w]
        rfl
      refine pure_ (i := 10) (N := some 29) (v := ?_) (a' := ?_) #[true, true, true, true, true, true, true, true, true, true, true, false, false, false, false, false] rfl rfl (any_of HT_.out (by kernel_rfl)) (fun _ _ _ h => h) (Or.inl ⟨by rfl, ?_⟩) ?_ ?_
      rotate_left
      · intro w'
        go_simp
        with_reducible rfl
      rotate_left
      · simp only [Act.put, List.setIfInBounds_toArray, List.set_cons_zero, List.set_cons_succ, i64_w, i32_w]
        rfl
      refine pure_ (i := 11) (N := some 30) (v := ?_) (a' := ?_) #[true, true, true, true, true, true, true, true, true, true, true, true, false, false, false, false] rfl rfl (any_of HT_.out (by kernel_rfl)) (fun _ _ _ h => h) (Or.inl ⟨by rfl, ?_⟩) ?_ ?_
      rotate_left
      · intro w'
        go_simp
        with_reducible rfl
      rotate_left
      · simp only [Act.put, List.setIfInBounds_toArray, List.set_cons_zero, List.set_cons_succ, i64_w, i32_w]
        rfl
      refine pure_ (i := 12) (N := some 31) (v := ?_) (a' := ?_) #[true, true, true, true, true, true, true, true, true, true, true, true, true, false, false, false] rfl rfl (any_of HT_.out (by kernel_rfl)) (fun _ _ _ h => h) (Or.inl ⟨by rfl, ?_⟩) ?_ ?_
      rotate_left
      · intro w'
        go_simp
        with_reducible rfl
      rotate_left
      · simp only [Act.put, List.setIfInBounds_toArray, List.set_cons_zero, List.set_cons_succ, i64_w, i32_w]
        rfl
      refine pure_ (i := 13) (N := some 32) (v := ?_) (a' := ?_) #[true, true, true, true, true, true, true, true, true, true, true, true, true, true, false, false] rfl rfl (any_of HT_.out (by kernel_rfl)) (fun _ _ _ h => h) (Or.inl ⟨by rfl, ?_⟩) ?_ ?_
      rotate_left
      · intro w'
        go_simp
        with_reducible rfl
      rotate_left
      · simp only [Act.put, List.setIfInBounds_toArray, List.set_cons_zero, List.set_cons_succ, i64_w, i32_w]
        rfl
      refine pure_ (i := 14) (N := some 33) (v := ?_) (a' := ?_) #[true, true, true, true, true, true, true, true, true, true, true, true, true, true, true, false] rfl rfl (any_of HT_.out (by kernel_rfl)) (fun _ _ _ h => h) (Or.inl ⟨by rfl, ?_⟩) ?_ ?_
      rotate_left
      · intro w'
        go_simp
        with_reducible rfl
      rotate_left
      · simp only [Act.put, List.setIfInBounds_toArray, List.set_cons_zero, List.set_cons_succ, i64_w, i32_w]
        rfl
      refine pure_ (i := 15) (N := some 34) (v := ?_) (a' := ?_) #[true, true, true, true, true, true, true, true, true, true, true, true, true, true, true, true] rfl rfl (any_of HT_.out (by kernel_rfl)) (fun _ _ _ h => h) (Or.inl ⟨by rfl, ?_⟩) ?_ ?_
      rotate_left
      · intro w'
        go_simp
        with_reducible rfl
      rotate_left
      · simp only [Act.put, List.setIfInBounds_toArray, List.set_cons_zero, List.set_cons_succ, i64_w, i32_w]
        rfl
      refine done_ (done_of HT_.out (by kernel_rfl)) ?_
      clear HCC HCAP
      go_wp2_with (first | (go_at_call 39; have := HR5; (with_reducible refine (search_page HPB.out rfl HKL.out (Kd.C_below HC.out HB.out) HC1.out (Kd.C_below HQ.out HB.out) HQ1.out HFL.out).mono ?_); rintro e w6 ⟨⟨a6, c6, rfl, hr⟩, hb⟩; have HR6 := Aside0.mk hr; have HR56 := Aside0.mk (HR5.out.below hb); have HXL := Aside0.mk (HX.out.below hb).lt; have HBo := Aside0.mk (bel_trans HB.out hb); have NHX := Aside0.mk ((HX.out.below hb).below (below_drew (Below.refl _ _))); have NHB := Aside0.mk (below_drew (Below.refl w6.heap.size w6)); clear hb hr HX HB HR5; have HX := NHX; have HB := NHB; clear NHX NHB) | (go_at_call 39; (with_reducible refine (search_page HPA.out rfl (by have := HKK.out; omega) (Kd.C_below HC.out HB.out) HC1.out (Kd.C_below HQ.out HB.out) HQ1.out HFL.out).mono ?_); rintro e w5 ⟨⟨a5, c5, rfl, hr⟩, hb⟩; have HR5 := Aside0.mk hr; have NHX := Aside0.mk (HX.out.below hb); have NHB := Aside0.mk (bel_trans HB.out hb); clear hb hr HX HB; have HX := NHX; have HB := NHB; clear NHX NHB))
      refine start_ (n := 12) (S := fun w' => w'.cell? ⟨w.heap.size, 0, none⟩ = some (.int .u32 x.f0) ∧ w'.cell? ⟨w.heap.size, 1, none⟩ = some (.slice X1 x.f1.length n1) ∧ w'.cell? ⟨w.heap.size, 2, none⟩ = some (.slice X2 x.f2.length n2)) (ds := []) #[false, false, false, false, false, false, false, false, false, false, false, false] (by kernel_rfl) rfl rfl ⟨HX.out.y0, HX.out.y1, HX.out.y2⟩ (fun hHeld => ?_)
      refine with_tabW more.tab7 more.bits7 (fun HT_ HW_ => ?_)
      generalize w6.drew = wd at HB HX hHeld ⊢
      refine pure_ (i := 0) (N := some 48) (v := ?_) (a' := ?_) #[true, false, false, false, false, false, false, false, false, false, false, false] rfl rfl (any_of HT_.out (by kernel_rfl)) (fun _ _ _ h => h) (Or.inl ⟨by rfl, ?_⟩) ?_ ?_
      rotate_left
      · intro w'
        go_simp
        with_reducible rfl
      rotate_left
      · simp only [Act.put, List.setIfInBounds_toArray, List.set_cons_zero, List.set_cons_succ, i64_w, i32_w]
        rfl
      refine pure_ (i := 2) (N := some 50) (v := ?_) (a' := ?_) #[true, false, true, false, false, false, false, false, false, false, false, false] rfl rfl (any_of HT_.out (by kernel_rfl)) (fun _ _ _ h => h) (Or.inl ⟨by rfl, ?_⟩) ?_ ?_
      rotate_left
      · intro w'
        go_simp
        with_reducible rfl
      rotate_left
      · simp only [Act.put, List.setIfInBounds_toArray, List.set_cons_zero, List.set_cons_succ, i64_w, i32_w]
        rfl
      refine pure_ (i := 7) (N := some 55) (v := ?_) (a' := ?_) #[true, false, true, false, false, false, false, true, false, false, false, false] rfl rfl (any_of HT_.out (by kernel_rfl)) (fun _ _ _ h => h) (Or.inl ⟨by rfl, ?_⟩) ?_ ?_
      rotate_left
      · intro w'
        go_simp
        with_reducible rfl
      rotate_left
      · simp only [Act.put, List.setIfInBounds_toArray, List.set_cons_zero, List.set_cons_succ, i64_w, i32_w]
        rfl
      refine pure_ (i := 8) (N := some 56) (v := ?_) (a' := ?_) #[true, false, true, false, false, false, false, true, true, false, false, false] rfl rfl (any_of HT_.out (by kernel_rfl)) (fun _ _ _ h => h) (Or.inl ⟨by rfl, ?_⟩) ?_ ?_
      rotate_left
      · intro w'
        go_simp
        with_reducible rfl
      rotate_left
      · simp only [Act.put, List.setIfInBounds_toArray, List.set_cons_zero, List.set_cons_succ, i64_w, i32_w]
        rfl
      refine pure_ (i := 9) (N := some 57) (v := ?_) (a' := ?_) #[true, false, true, false, false, false, false, true, true, true, false, false] rfl rfl (any_of HT_.out (by kernel_rfl)) (fun _ _ _ h => h) (Or.inl ⟨by rfl, ?_⟩) ?_ ?_
      rotate_left
      · intro w'
        go_simp
        with_reducible rfl
      rotate_left
      · simp only [Act.put, List.setIfInBounds_toArray, List.set_cons_zero, List.set_cons_succ, i64_w, i32_w]
        rfl
      refine take_ (i := 4) (N := some 52) (v := ?_) (a' := ?_) #[true, false, true, false, true, false, false, true, true, true, false, false] rfl rfl (take_ofW HT_.out HW_.out (by kernel_rfl)) (fun _ _ _ h => h) (Or.inl ⟨by rfl, ?_⟩) hHeld ?_ ?_
      rotate_left
      · rintro w' ⟨s0, s1, s2⟩
        go_simp
        with_reducible rfl
      rotate_left
      · simp only [Act.put, List.setIfInBounds_toArray, List.set_cons_zero, List.set_cons_succ, i64_w, i32_w]
        rfl
      refine join_ (σ := Value × Value × Value) 3 #[true, true, true, true, true, true, false, true, true, true, false, false] (fun s => [(49, s.1), (51, s.2.1), (53, s.2.2)]) (fun s w' => ∃ g, s.2.2 = .slice (some ⟨g, 0, none⟩) 1 1 ∧ w'.heap[g]? = some (.cells #[.int .u32 x.f0, .slice X1 x.f1.length n1, .slice X2 x.f2.length n2] 59) ∧ OwnI w' w6.heap.size s.2.1 l ∧ IBox w' w.heap.size x X1 n1 X2 n2 ∧ Below w6.heap.size w6 w') ?_ ?_
      rotate_left
      · intro hCont
        refine two_ (i := 1) (j := 5) (Ni := some 49) (Nj := some 53) #[true, true, true, false, true, false, false, true, true, true, false, false] #[true, false, true, false, true, true, false, true, true, true, false, false] rfl rfl rfl rfl (two_of HT_.out (by kernel_rfl)) (by decide) (by decide) (fun K hK => ?_) (fun K hK => ?_)
        · skip
          refine value_ (w1 := ?_) (v := ?_) (by rfl) rfl ?_ ?_
          rotate_left 2
          · go_simp
            constructor
            · rfl
            · rfl
          have NHX := Aside0.mk (HX.out.below (below_alloc (Below.refl _ _) (.cells #[] 59)))
          have NHB := Aside0.mk (bel_alloc HB.out (.cells #[] 59))
          have HV := Aside0.mk (by have h := OwnI.lit0 wd w6.heap.size HB.out.size; (try simp only [World.size_alloc] at h); exact h)
          clear HX HB
          have HX := NHX; have HB := NHB
          clear NHX NHB
          refine hK.out _ _ ⟨HX.out.y0, HX.out.y1, HX.out.y2⟩ (fun hHeld => ?_)
          clear hK K
          refine norm_ (a' := ?_) ?_ ?_
          rotate_left
          · show Act.put _ (some 49) _ = _
            simp only [Act.put, List.setIfInBounds_toArray, List.set_cons_zero, List.set_cons_succ, i64_w, i32_w]
            rfl
          refine two_ (i := 3) (j := 5) (Ni := some 51) (Nj := some 53) #[true, true, true, true, true, false, false, true, true, true, false, false] #[true, true, true, false, true, true, false, true, true, true, false, false] rfl rfl rfl rfl (two_of HT_.out (by kernel_rfl)) (by decide) (by decide) (fun K hK => ?_) (fun K hK => ?_)
          · skip
            refine step_append_old rfl (.tmp 49) (.tmp 50) rfl w6.heap.size _ [] l A0 _ c0 rfl rfl rfl HV.out HC.out (bel_trans HBo.out HB.out) (fun k hk => by have := HV.out.base k hk; have := HBo.out.size; have := HXL.out; omega) (by have := HR.out; unfold maxLen; show 0 + l.length ≤ _; omega) (by have := HR.out; show (0 + l.length) * 56 ≤ _; omega) (HB.out.size) ?_
            intro v2 w2 hv hO
            have NHV := Aside0.mk hv
            have NHX := Aside0.mk (HX.out.only hO (fun h => by have := HV.out.base _ h; have := HBo.out.size; have := HXL.out; omega))
            have NHB := Aside0.mk (hO.below_of HB.out (fun i hi => by have := HV.out.base i hi; omega))
            clear hv hO
            clear HV HX HB
            have HV := NHV; have HX := NHX; have HB := NHB
            clear NHV NHX NHB
            refine hK.out _ _ ⟨HX.out.y0, HX.out.y1, HX.out.y2⟩ (fun hHeld => ?_)
            clear hK K
            refine norm_ (a' := ?_) ?_ ?_
            rotate_left
            · show Act.put _ (some 51) _ = _
              simp only [Act.put, List.setIfInBounds_toArray, List.set_cons_zero, List.set_cons_succ, i64_w, i32_w]
              rfl
            refine one_ (i := 5) (N := some 53) #[true, true, true, true, true, true, false, true, true, true, false, false] rfl rfl (one_of HT_.out (by kernel_rfl)) (by decide) (fun K hK => ?_)
            refine value_ (w1 := ?_) (v := ?_) (by rfl) rfl ?_ ?_
            rotate_left 2
            · go_simp
              constructor
              · rfl
              · rfl
            have NHX := Aside0.mk (HX.out.below (below_alloc (Below.refl _ _) (.cells #[.int .u32 x.f0, .slice X1 x.f1.length n1, .slice X2 x.f2.length n2] 59)))
            have NHB := Aside0.mk (bel_alloc HB.out (.cells #[.int .u32 x.f0, .slice X1 x.f1.length n1, .slice X2 x.f2.length n2] 59))
            have HG := Aside0.mk (by have h := heap_alloc_new w2 (.cells #[.int .u32 x.f0, .slice X1 x.f1.length n1, .slice X2 x.f2.length n2] 59); (try simp only [World.size_alloc] at h); exact h)
            have NHV := Aside0.mk (HV.out.below (below_alloc (Below.refl _ _) (.cells #[.int .u32 x.f0, .slice X1 x.f1.length n1, .slice X2 x.f2.length n2] 59)))
            clear HX HB HV
            have HX := NHX; have HB := NHB; have HV := NHV
            clear NHX NHB NHV
            refine hK.out _ _ ⟨HX.out.y0, HX.out.y1, HX.out.y2⟩ (fun hHeld => ?_)
            clear hK K
            refine norm_ (a' := ?_) ?_ ?_
            rotate_left
            · show Act.put _ (some 53) _ = _
              simp only [Act.put, List.setIfInBounds_toArray, List.set_cons_zero, List.set_cons_succ, i64_w, i32_w]
              rfl
            exact norm_ (by simp only [Go.Proofs.YtchiobhklbefjaaW.PrintLast.putAll, Act.put, List.setIfInBounds_toArray, List.set_cons_zero, List.set_cons_succ]) (hCont (.slice (some ⟨(World.heap wd).size, 0, none⟩) 0 0, v2, .slice (some ⟨(World.heap w2).size, 0, none⟩) 1 1) _ ⟨_, rfl, HG.out, HV.out, HX.out, HB.out⟩)
          · skip
            refine value_ (w1 := ?_) (v := ?_) (by rfl) rfl ?_ ?_
            rotate_left 2
            · go_simp
              constructor
              · rfl
              · rfl
            have NHX := Aside0.mk (HX.out.below (below_alloc (Below.refl _ _) (.cells #[.int .u32 x.f0, .slice X1 x.f1.length n1, .slice X2 x.f2.length n2] 59)))
            have NHB := Aside0.mk (bel_alloc HB.out (.cells #[.int .u32 x.f0, .slice X1 x.f1.length n1, .slice X2 x.f2.length n2] 59))
            have HG := Aside0.mk (by have h := heap_alloc_new (World.alloc wd (.cells #[] 59)) (.cells #[.int .u32 x.f0, .slice X1 x.f1.length n1, .slice X2 x.f2.length n2] 59); (try simp only [World.size_alloc] at h); exact h)
            have NHV := Aside0.mk (HV.out.below (below_alloc (Below.refl _ _) (.cells #[.int .u32 x.f0, .slice X1 x.f1.length n1, .slice X2 x.f2.length n2] 59)))
            clear HX HB HV
            have HX := NHX; have HB := NHB; have HV := NHV
            clear NHX NHB NHV
            refine hK.out _ _ ⟨HX.out.y0, HX.out.y1, HX.out.y2⟩ (fun hHeld => ?_)
            clear hK K
            refine norm_ (a' := ?_) ?_ ?_
            rotate_left
            · show Act.put _ (some 53) _ = _
              simp only [Act.put, List.setIfInBounds_toArray, List.set_cons_zero, List.set_cons_succ, i64_w, i32_w]
              rfl
            refine one_ (i := 3) (N := some 51) #[true, true, true, true, true, true, false, true, true, true, false, false] rfl rfl (one_of HT_.out (by kernel_rfl)) (by decide) (fun K hK => ?_)
            refine step_append_old rfl (.tmp 49) (.tmp 50) rfl w6.heap.size _ [] l A0 _ c0 rfl rfl rfl HV.out HC.out (bel_trans HBo.out HB.out) (fun k hk => by have := HV.out.base k hk; have := HBo.out.size; have := HXL.out; omega) (by have := HR.out; unfold maxLen; show 0 + l.length ≤ _; omega) (by have := HR.out; show (0 + l.length) * 56 ≤ _; omega) (HB.out.size) ?_
            intro v2 w2 hv hO
            have NHV := Aside0.mk hv
            have NHX := Aside0.mk (HX.out.only hO (fun h => by have := HV.out.base _ h; have := HBo.out.size; have := HXL.out; omega))
            have NHB := Aside0.mk (hO.below_of HB.out (fun i hi => by have := HV.out.base i hi; omega))
            have NHG := Aside0.mk ((hO.block _ (Array.getElem?_eq_some_iff.1 HG.out).1 (fun h => by have h1 : (World.heap wd).size = ((World.heap wd).size + 1) := Option.some.inj h; omega)).trans HG.out)
            clear hv hO
            clear HV HX HB HG
            have HV := NHV; have HX := NHX; have HB := NHB; have HG := NHG
            clear NHV NHX NHB NHG
            refine hK.out _ _ ⟨HX.out.y0, HX.out.y1, HX.out.y2⟩ (fun hHeld => ?_)
            clear hK K
            refine norm_ (a' := ?_) ?_ ?_
            rotate_left
            · show Act.put _ (some 51) _ = _
              simp only [Act.put, List.setIfInBounds_toArray, List.set_cons_zero, List.set_cons_succ, i64_w, i32_w]
              rfl
            exact norm_ (by simp only [Go.Proofs.YtchiobhklbefjaaW.PrintLast.putAll, Act.put, List.setIfInBounds_toArray, List.set_cons_zero, List.set_cons_succ]) (hCont (.slice (some ⟨(World.heap wd).size, 0, none⟩) 0 0, v2, .slice (some ⟨((World.heap wd).size + 1), 0, none⟩) 1 1) _ ⟨_, rfl, HG.out, HV.out, HX.out, HB.out⟩)
        · skip
          refine value_ (w1 := ?_) (v := ?_) (by rfl) rfl ?_ ?_
          rotate_left 2
          · go_simp
            constructor
            · rfl
            · rfl
          have NHX := Aside0.mk (HX.out.below (below_alloc (Below.refl _ _) (.cells #[.int .u32 x.f0, .slice X1 x.f1.length n1, .slice X2 x.f2.length n2] 59)))
          have NHB := Aside0.mk (bel_alloc HB.out (.cells #[.int .u32 x.f0, .slice X1 x.f1.length n1, .slice X2 x.f2.length n2] 59))
          have HG := Aside0.mk (by have h := heap_alloc_new wd (.cells #[.int .u32 x.f0, .slice X1 x.f1.length n1, .slice X2 x.f2.length n2] 59); (try simp only [World.size_alloc] at h); exact h)
          clear HX HB
          have HX := NHX; have HB := NHB
          clear NHX NHB
          refine hK.out _ _ ⟨HX.out.y0, HX.out.y1, HX.out.y2⟩ (fun hHeld => ?_)
          clear hK K
          refine norm_ (a' := ?_) ?_ ?_
          rotate_left
          · show Act.put _ (some 53) _ = _
            simp only [Act.put, List.setIfInBounds_toArray, List.set_cons_zero, List.set_cons_succ, i64_w, i32_w]
            rfl
          refine one_ (i := 1) (N := some 49) #[true, true, true, false, true, true, false, true, true, true, false, false] rfl rfl (one_of HT_.out (by kernel_rfl)) (by decide) (fun K hK => ?_)
          refine value_ (w1 := ?_) (v := ?_) (by rfl) rfl ?_ ?_
          rotate_left 2
          · go_simp
            constructor
            · rfl
            · rfl
          have NHX := Aside0.mk (HX.out.below (below_alloc (Below.refl _ _) (.cells #[] 59)))
          have NHB := Aside0.mk (bel_alloc HB.out (.cells #[] 59))
          have HV := Aside0.mk (by have h := OwnI.lit0 (World.alloc wd (.cells #[.int .u32 x.f0, .slice X1 x.f1.length n1, .slice X2 x.f2.length n2] 59)) w6.heap.size HB.out.size; (try simp only [World.size_alloc] at h); exact h)
          have NHG := Aside0.mk (blk_alloc HG.out (.cells #[] 59))
          clear HX HB HG
          have HX := NHX; have HB := NHB; have HG := NHG
          clear NHX NHB NHG
          refine hK.out _ _ ⟨HX.out.y0, HX.out.y1, HX.out.y2⟩ (fun hHeld => ?_)
          clear hK K
          refine norm_ (a' := ?_) ?_ ?_
          rotate_left
          · show Act.put _ (some 49) _ = _
            simp only [Act.put, List.setIfInBounds_toArray, List.set_cons_zero, List.set_cons_succ, i64_w, i32_w]
            rfl
          refine one_ (i := 3) (N := some 51) #[true, true, true, true, true, true, false, true, true, true, false, false] rfl rfl (one_of HT_.out (by kernel_rfl)) (by decide) (fun K hK => ?_)
          refine step_append_old rfl (.tmp 49) (.tmp 50) rfl w6.heap.size _ [] l A0 _ c0 rfl rfl rfl HV.out HC.out (bel_trans HBo.out HB.out) (fun k hk => by have := HV.out.base k hk; have := HBo.out.size; have := HXL.out; omega) (by have := HR.out; unfold maxLen; show 0 + l.length ≤ _; omega) (by have := HR.out; show (0 + l.length) * 56 ≤ _; omega) (HB.out.size) ?_
          intro v2 w2 hv hO
          have NHV := Aside0.mk hv
          have NHX := Aside0.mk (HX.out.only hO (fun h => by have := HV.out.base _ h; have := HBo.out.size; have := HXL.out; omega))
          have NHB := Aside0.mk (hO.below_of HB.out (fun i hi => by have := HV.out.base i hi; omega))
          have NHG := Aside0.mk ((hO.block _ (Array.getElem?_eq_some_iff.1 HG.out).1 (fun h => by have h1 : ((World.heap wd).size + 1) = (World.heap wd).size := Option.some.inj h; omega)).trans HG.out)
          clear hv hO
          clear HV HX HB HG
          have HV := NHV; have HX := NHX; have HB := NHB; have HG := NHG
          clear NHV NHX NHB NHG
          refine hK.out _ _ ⟨HX.out.y0, HX.out.y1, HX.out.y2⟩ (fun hHeld => ?_)
          clear hK K
          refine norm_ (a' := ?_) ?_ ?_
          rotate_left
          · show Act.put _ (some 51) _ = _
            simp only [Act.put, List.setIfInBounds_toArray, List.set_cons_zero, List.set_cons_succ, i64_w, i32_w]
            rfl
          exact norm_ (by simp only [Go.Proofs.YtchiobhklbefjaaW.PrintLast.putAll, Act.put, List.setIfInBounds_toArray, List.set_cons_zero, List.set_cons_succ]) (hCont (.slice (some ⟨((World.heap wd).size + 1), 0, none⟩) 0 0, v2, .slice (some ⟨(World.heap wd).size, 0, none⟩) 1 1) _ ⟨_, rfl, HG.out, HV.out, HX.out, HB.out⟩)
      rintro ⟨va, vb, vc⟩ w5 ⟨g, eg, hG, hV, hX, hB⟩
      replace eg : vc = _ := eg
      subst eg
      clear HX HB
      have HG := Aside0.mk hG; have HV := Aside0.mk hV; have HX := Aside0.mk hX; have HB := Aside0.mk hB
      clear hG hV hX hB
      have hHeld := And.intro HX.out.y0 (And.intro HX.out.y1 HX.out.y2)
      refine norm_ (a' := ?_) ?_ ?_
      rotate_left
      · simp only [Go.Proofs.YtchiobhklbefjaaW.PrintLast.putAll, Act.put, List.setIfInBounds_toArray, List.set_cons_zero, List.set_cons_succ]
        rfl
      refine one_ (i := 6) (N := some 54) #[true, true, true, true, true, true, true, true, true, true, false, false] rfl rfl (one_of HT_.out (by kernel_rfl)) (by decide) (fun K hK => ?_)
      refine step_append_one rfl (.tmp 51) (.tmp 53) rfl w6.heap.size _ l x g _ _ _ rfl rfl HV.out HG.out (fr_old HK.out (bel_trans HBo.out HB.out) (fun k hk => by have := HV.out.base k hk; have := HBo.out.size; have := HXL.out; omega)) (by have := HR.out; unfold maxLen; omega) (by have := HR.out; omega) (HB.out.size) ?_
      intro v3 w3 hv hO
      have NHX := Aside0.mk (HX.out.only hO (fun h => by have := HV.out.base _ h; have := HBo.out.size; have := HXL.out; omega))
      have NHB := Aside0.mk (hO.below_of HB.out (fun i hi => by have := HV.out.base i hi; omega))
      obtain ⟨ao, cap, rfl, hcap, hCC⟩ := hv.Cn HNN.out
      have HCC := Aside0.mk hCC
      have HCAP := Aside0.mk hcap
      clear hv hO hcap hCC HV HG
      clear HX HB
      have HX := NHX; have HB := NHB
      clear NHX NHB
      refine hK.out _ _ ⟨HX.out.y0, HX.out.y1, HX.out.y2⟩ (fun hHeld => ?_)
      clear hK K
      refine norm_ (a' := ?_) ?_ ?_
      rotate_left
      · show Act.put _ (some 54) _ = _
        simp only [Act.put, List.setIfInBounds_toArray, List.set_cons_zero, List.set_cons_succ, i64_w, i32_w]
        rfl
      refine one_ (i := 10) (N := some 58) #[true, true, true, true, true, true, true, true, true, true, true, false] rfl rfl (one_of HT_.out (by kernel_rfl)) (by decide) (fun K hK => ?_)
      refine goes_ Try.func39 (by kernel_rfl) rfl #[.int .u8 m, .slice ao N cap, .slice B0 q.length e0, .agg #[.slice none 0 0, .slice none 0 0, .slice none 0 0], .int .i64 (kk : Int)] (by rfl) rfl rfl (by simp only [List.map_toArray, List.map_cons, List.map_nil]; rfl) ?_
      with_reducible refine (search_page HPC.out HNN.out (by have := HKK.out; omega) HCC.out HCAP.out (Kd.C_below HQ.out (bel_trans HBo.out HB.out)) HQ1.out HFC.out).mono ?_
      rintro e w7 ⟨⟨a7, c7, rfl, hr⟩, hb⟩
      refine ⟨_, rfl, ?_⟩
      have NHX := Aside0.mk (HX.out.below hb)
      have NHB := Aside0.mk (bel_trans HB.out hb)
      have HR7 := Aside0.mk hr
      clear hb
      clear HX HB
      have HX := NHX; have HB := NHB
      clear NHX NHB
      refine hK.out _ _ ⟨HX.out.y0, HX.out.y1, HX.out.y2⟩ (fun hHeld => ?_)
      clear hK K
      refine norm_ (a' := ?_) ?_ ?_
      rotate_left
      · show Act.put _ (some 58) _ = _
        simp only [Act.put, List.setIfInBounds_toArray, List.set_cons_zero, List.set_cons_succ, i64_w, i32_w]
        rfl
      refine pure_ (i := 11) (N := some 13) (v := ?_) (a' := ?_) #[true, true, true, true, true, true, true, true, true, true, true, true] rfl rfl (any_of HT_.out (by kernel_rfl)) (fun _ _ _ h => h) (Or.inl ⟨by rfl, ?_⟩) ?_ ?_
      rotate_left
      · intro w'
        go_simp
        with_reducible rfl
      rotate_left
      · simp only [Act.put, List.setIfInBounds_toArray, List.set_cons_zero, List.set_cons_succ, i64_w, i32_w]
        rfl
      refine done_ (done_of HT_.out (by kernel_rfl)) ?_
      have HB7 := Aside0.mk (bel_trans HBo.out HB.out)
      have HP7 := Aside0.mk (HR56.out.below HB.out)
      have HQ7 := Aside0.mk (HR6.out.below HB.out)
      clear HCC HCAP HX HB HR56 HR6 HBo HXL c1 c2 kn hHeld
      have p1 : decide ((P2.length : Int) < (P.length : Int)) = false := decide_eq_false (by have := HPL.out; omega)
      have p2 : decide (P2.length < P.length) = false := decide_eq_false (by have := HPL.out; omega)
      have p3 : (P2.length < P.length) = False := eq_false (by have := HPL.out; omega)
      have p4 : (P.length : Int) ≤ (c6 : Int) := by have := HPL.out; have := HQ7.out.1; omega
      have p5 : P.length ≤ c6 := by have := HPL.out; have := HQ7.out.1; omega
      rcases HQ7.out.2 with ⟨rfl, e2, rfl⟩ | ⟨ad6, rfl, -⟩
      · have HT7 := Aside0.mk (show ReadsH w7 none 0 (P2.take P.length) from ⟨by rw [e2]; simp, .inl ⟨rfl, by rw [e2]; simp, rfl⟩⟩)
        have hp0 : P.length = 0 := by have := HPL.out.1; rw [e2] at this; simpa using this
        clear e2
        go_wp2_with ((go_at_call 29; (with_reducible refine (rsame_calls _ _ _ _ _ _ _ _ _ HPP.out.symm (by first | rfl | exact hp0.symm) (by first | (rw [HPP.out]; done) | (rw [HPP.out, hp0]; done)) HP7.out HT7.out (by have := HPL.out; omega)).mono ?_); rintro e w8 ⟨rfl, hb⟩; have HB8 := Aside0.mk (bel_trans HB7.out hb); have HC8 := Aside0.mk (HR7.out.below hb); have HP8 := Aside0.mk (HP7.out.below hb); clear hb p1 p2 p3 p4 p5))
        clear HT7 HP7 HQ7 HR7 HB7 HT_ HW_
        go_loopg [14, 15, 16] C.length (fun gk v14 v15 v16 wr => ∃ (i t : Nat), v14 = .int .i64 t ∧ v15 = .int .i64 i ∧ Aside0 (i ≤ C.length ∧ C.length - i ≤ gk) ∧ Aside0 (t = (C.take i).countP (hasH P)) ∧ Aside0 (Below w8.heap.size w8 wr))
        case atStart => exact ⟨0, 0, rfl, rfl, ⟨by omega, by omega⟩, ⟨by simp⟩, ⟨Below.refl _ _⟩⟩
        case round =>
          obtain ⟨i, t, rfl, rfl, HI, HT, HB⟩ := hrel
          by_cases hc : i < C.length
          · have q1 : decide ((i : Int) < (C.length : Int)) = true := decide_eq_true (by omega)
            have q1' : decide (i < C.length) = true := decide_eq_true hc
            have q2 : (i : Int) < (C.length : Int) := by omega
            have hin : wrap64 ((i : Int) + 1) = ((i + 1 : Nat) : Int) := succ_wrap hc (by have := HPL.out; omega)
            have htn : wrap64 ((t : Int) + 1) = ((t + 1 : Nat) : Int) := succ_wrap (n := 1000) (by have h1 := HT.out; have h2 := List.countP_le_length (p := hasH P) (l := C.take i); rw [List.length_take] at h2; have := HPL.out; omega) (by omega)
            obtain ⟨adc, y, hA, hy, y0, y1⟩ := HC8.out.at hc
            subst hA
            have HY := Aside0.mk hy
            have HY0 := Aside0.mk y0
            have HY1 := Aside0.mk y1
            have HC_ := Aside0.mk hc
            clear hy y0 y1 hc
            obtain ⟨gko, rfl⟩ : ∃ m, gk = m + 1 := ⟨gk - 1, by have := HI.out; have := HC_.out; omega⟩
            go_wp2
            have HBo := HB
            go_loopg [14, 16] P.length (fun gk v14 v16 wr => ∃ (j : Nat), v14 = .int .i64 t ∧ v16 = .int .i64 j ∧ Aside0 (j ≤ P.length ∧ P.length - j ≤ gk) ∧ Aside0 (∀ b z, b < j → P[b]? = some z → ¬ (y.f0 = z.f0 ∧ y.f1 = z.f1)) ∧ Aside0 (Below w8.heap.size w8 wr))
            case atStart => exact ⟨0, rfl, rfl, ⟨by omega, by omega⟩, ⟨fun b z h => by omega⟩, HBo⟩
            case round =>
              clear HB HBo
              obtain ⟨j, rfl, rfl, HJ, HNE, HB⟩ := hrel
              by_cases hj : j < P.length
              · exact absurd hj (by omega)
              · have q3 : decide ((j : Int) < (P.length : Int)) = false := decide_eq_false (by omega)
                have q3' : decide (j < P.length) = false := decide_eq_false hj
                have q3'' : (j < P.length) = False := eq_false hj
                have HH := Aside0.mk (hasH_not (P := P) (y := y) (fun b z hb hz => HNE.out b z (by have := HJ.out; omega) hz))
                clear hj
                go_wp2
                go_roundg gko
                case measure => omega
                case rel => exact ⟨i + 1, t, rfl, congrArg (Value.int .i64) hin, ⟨by have := HI.out; have := HC_.out; omega⟩, ⟨by rw [count_next HY.out, ← HT.out, HH.out]; rfl⟩, HB⟩
          · have q1 : decide ((i : Int) < (C.length : Int)) = false := decide_eq_false (by omega)
            have q1' : decide (i < C.length) = false := decide_eq_false hc
            have q1'' : (i < C.length) = False := eq_false hc
            have ht : t = C.countP (hasH P) := by rw [HT.out, List.take_of_length_le (by omega)]
            have r1 : wrap64 ((P.length : Int) - 1) = (P.length : Int) - 1 := by have := HPL.out; unfold wrap64; omega
            have r2 : wrap64 ((C.length : Int) - 1) = (C.length : Int) - 1 := by have := HPL.out; unfold wrap64; omega
            have r3 : decide ((P.length : Int) - 1 ≤ (t : Int)) = true := decide_eq_true (by have := HCNT.out; omega)
            have r4 : decide ((C.length : Int) - 1 ≤ (t : Int)) = true := decide_eq_true (by have := HCNT.out; omega)
            clear hc ht
            go_wp2
            go_ret
            exact ⟨rfl, bel_trans HB8.out HB.out⟩
      · have HT7 := Aside0.mk (reads_take HQ7.out HPL.out.1)
        go_wp2_with ((go_at_call 29; (with_reducible refine (rsame_calls _ _ _ _ _ _ _ _ _ HPP.out.symm (by first | rfl | exact hp0.symm) (by first | (rw [HPP.out]; done) | (rw [HPP.out, hp0]; done)) HP7.out HT7.out (by have := HPL.out; omega)).mono ?_); rintro e w8 ⟨rfl, hb⟩; have HB8 := Aside0.mk (bel_trans HB7.out hb); have HC8 := Aside0.mk (HR7.out.below hb); have HP8 := Aside0.mk (HP7.out.below hb); clear hb p1 p2 p3 p4 p5))
        clear HT7 HP7 HQ7 HR7 HB7 HT_ HW_
        go_loopg [14, 15, 16] C.length (fun gk v14 v15 v16 wr => ∃ (i t : Nat), v14 = .int .i64 t ∧ v15 = .int .i64 i ∧ Aside0 (i ≤ C.length ∧ C.length - i ≤ gk) ∧ Aside0 (t = (C.take i).countP (hasH P)) ∧ Aside0 (Below w8.heap.size w8 wr))
        case atStart => exact ⟨0, 0, rfl, rfl, ⟨by omega, by omega⟩, ⟨by simp⟩, ⟨Below.refl _ _⟩⟩
        case round =>
          obtain ⟨i, t, rfl, rfl, HI, HT, HB⟩ := hrel
          by_cases hc : i < C.length
          · have q1 : decide ((i : Int) < (C.length : Int)) = true := decide_eq_true (by omega)
            have q1' : decide (i < C.length) = true := decide_eq_true hc
            have q2 : (i : Int) < (C.length : Int) := by omega
            have hin : wrap64 ((i : Int) + 1) = ((i + 1 : Nat) : Int) := succ_wrap hc (by have := HPL.out; omega)
            have htn : wrap64 ((t : Int) + 1) = ((t + 1 : Nat) : Int) := succ_wrap (n := 1000) (by have h1 := HT.out; have h2 := List.countP_le_length (p := hasH P) (l := C.take i); rw [List.length_take] at h2; have := HPL.out; omega) (by omega)
            obtain ⟨adc, y, hA, hy, y0, y1⟩ := HC8.out.at hc
            subst hA
            have HY := Aside0.mk hy
            have HY0 := Aside0.mk y0
            have HY1 := Aside0.mk y1
            have HC_ := Aside0.mk hc
            clear hy y0 y1 hc
            obtain ⟨gko, rfl⟩ : ∃ m, gk = m + 1 := ⟨gk - 1, by have := HI.out; have := HC_.out; omega⟩
            go_wp2
            have HBo := HB
            go_loopg [14, 16] P.length (fun gk v14 v16 wr => ∃ (j : Nat), v14 = .int .i64 t ∧ v16 = .int .i64 j ∧ Aside0 (j ≤ P.length ∧ P.length - j ≤ gk) ∧ Aside0 (∀ b z, b < j → P[b]? = some z → ¬ (y.f0 = z.f0 ∧ y.f1 = z.f1)) ∧ Aside0 (Below w8.heap.size w8 wr))
            case atStart => exact ⟨0, rfl, rfl, ⟨by omega, by omega⟩, ⟨fun b z h => by omega⟩, HBo⟩
            case round =>
              clear HB HBo
              obtain ⟨j, rfl, rfl, HJ, HNE, HB⟩ := hrel
              by_cases hj : j < P.length
              · have q3 : decide ((j : Int) < (P.length : Int)) = true := decide_eq_true (by omega)
                have q3' : decide (j < P.length) = true := decide_eq_true hj
                have q4 : (j : Int) < (P.length : Int) := by omega
                have hjn : wrap64 ((j : Int) + 1) = ((j + 1 : Nat) : Int) := succ_wrap hj (by have := HPL.out; omega)
                obtain ⟨adp, z, hA, hz, z0, z1⟩ := HP8.out.at hj
                subst hA
                have HZ := Aside0.mk hz
                have HJ2 := Aside0.mk hj
                have y0 := pw_cell_below HB.out HY0.out
                have y1 := pw_cell_below HB.out HY1.out
                replace z0 := pw_cell_below HB.out z0
                replace z1 := pw_cell_below HB.out z1
                clear hz hj
                by_cases he : y.f0 = z.f0 ∧ y.f1 = z.f1
                · have HH := Aside0.mk (show hasH P y = true from List.any_eq_true.2 ⟨z, List.mem_of_getElem? HZ.out, by simp [he]⟩)
                  have e0 : (y.f0 == z.f0) = true := beq_iff_eq.2 he.1
                  have e1 : (y.f1 == z.f1) = true := beq_iff_eq.2 he.2
                  clear he
                  go_wp2_with fail
                  go_quiet (fail)
                  go_wp2
                  go_roundg gko
                  case measure => omega
                  case rel => exact ⟨i + 1, t + 1, congrArg (Value.int .i64) htn, congrArg (Value.int .i64) hin, ⟨by have := HI.out; have := HC_.out; omega⟩, ⟨by rw [count_next HY.out, ← HT.out, if_pos HH.out]⟩, ⟨pw_below_drewN HB.out _⟩⟩
                · have HE := Aside0.mk he
                  have hcase : (y.f0 == z.f0) = false ∨ ((y.f0 == z.f0) = true ∧ (y.f1 == z.f1) = false) := by
                    by_cases h0 : y.f0 = z.f0
                    · exact .inr ⟨beq_iff_eq.2 h0, beq_eq_false_iff_ne.2 (fun h1 => he ⟨h0, h1⟩)⟩
                    · exact .inl (beq_eq_false_iff_ne.2 h0)
                  clear he
                  rcases hcase with e0 | ⟨e0, e1⟩
                  · go_wp2_with fail
                    go_quiet (fail)
                    go_wp2
                    obtain ⟨gk, rfl⟩ : ∃ m, gk = m + 1 := ⟨gk - 1, by have := HJ.out; have := HJ2.out; omega⟩
                    go_roundg gk
                    case measure => omega
                    case rel =>
                      refine ⟨j + 1, rfl, congrArg (Value.int .i64) hjn, ⟨by have := HJ.out; have := HJ2.out; omega⟩, ⟨fun b u hb hu => ?_⟩, ⟨pw_below_drewN HB.out _⟩⟩
                      rcases Nat.lt_or_ge b j with hlt | hge
                      · exact HNE.out b u hlt hu
                      · have hbj : b = j := by omega
                        subst hbj
                        have h1 := HZ.out
                        rw [hu] at h1
                        cases h1
                        exact HE.out
                  · go_wp2_with fail
                    go_quiet (fail)
                    go_wp2
                    obtain ⟨gk, rfl⟩ : ∃ m, gk = m + 1 := ⟨gk - 1, by have := HJ.out; have := HJ2.out; omega⟩
                    go_roundg gk
                    case measure => omega
                    case rel =>
                      refine ⟨j + 1, rfl, congrArg (Value.int .i64) hjn, ⟨by have := HJ.out; have := HJ2.out; omega⟩, ⟨fun b u hb hu => ?_⟩, ⟨pw_below_drewN HB.out _⟩⟩
                      rcases Nat.lt_or_ge b j with hlt | hge
                      · exact HNE.out b u hlt hu
                      · have hbj : b = j := by omega
                        subst hbj
                        have h1 := HZ.out
                        rw [hu] at h1
                        cases h1
                        exact HE.out
              · have q3 : decide ((j : Int) < (P.length : Int)) = false := decide_eq_false (by omega)
                have q3' : decide (j < P.length) = false := decide_eq_false hj
                have q3'' : (j < P.length) = False := eq_false hj
                have HH := Aside0.mk (hasH_not (P := P) (y := y) (fun b z hb hz => HNE.out b z (by have := HJ.out; omega) hz))
                clear hj
                go_wp2
                go_roundg gko
                case measure => omega
                case rel => exact ⟨i + 1, t, rfl, congrArg (Value.int .i64) hin, ⟨by have := HI.out; have := HC_.out; omega⟩, ⟨by rw [count_next HY.out, ← HT.out, HH.out]; rfl⟩, HB⟩
          · have q1 : decide ((i : Int) < (C.length : Int)) = false := decide_eq_false (by omega)
            have q1' : decide (i < C.length) = false := decide_eq_false hc
            have q1'' : (i < C.length) = False := eq_false hc
            have ht : t = C.countP (hasH P) := by rw [HT.out, List.take_of_length_le (by omega)]
            have r1 : wrap64 ((P.length : Int) - 1) = (P.length : Int) - 1 := by have := HPL.out; unfold wrap64; omega
            have r2 : wrap64 ((C.length : Int) - 1) = (C.length : Int) - 1 := by have := HPL.out; unfold wrap64; omega
            have r3 : decide ((P.length : Int) - 1 ≤ (t : Int)) = true := decide_eq_true (by have := HCNT.out; omega)
            have r4 : decide ((C.length : Int) - 1 ≤ (t : Int)) = true := decide_eq_true (by have := HCNT.out; omega)
            clear hc ht
            go_wp2
            go_ret
            exact ⟨rfl, bel_trans HB8.out HB.out⟩
/-! ### the row -/
theorem item_of {v : Value} {x : Int × List Int × List ByteArray} {w : World} (s : ∃ cs, v = .agg cs) (K : kitem.K w x v.cells.toList) :
    ∃ X1 n1 X2 n2, v = .agg #[.int .u32 x.1, .slice X1 x.2.1.length n1, .slice X2 x.2.2.length n2] ∧ Kd.C (Kd.int .i32) w X1 x.2.1.length x.2.1 ∧ x.2.1.length ≤ n1 ∧ Kd.C Kd.string w X2 x.2.2.length x.2.2 ∧ x.2.2.length ≤ n2 := by
  obtain ⟨cs, rfl⟩ := s
  obtain ⟨c0, c1, h, rfl, c2, c3, rfl, ⟨F1, d1, rfl, l1, g1⟩, ⟨F2, d2, rfl, l2, g2⟩⟩ := K
  exact ⟨F1, d1, F2, d2, Frame.arg_agg h, g1, l1, g2, l2⟩
/-- How long a list is that can be handed in. -/
theorem len_sized {H : Type} {enc : TypeId × Value → H} {P : Program} {W : World} {t e : TypeId} {v : Value} {d : DataW H} {ps : List MemPlace} {ts : List TypeId} {ds : List (DataW H)} {j : Nat}
    (hsz : (DataW.weightsEach P ts ds).all (· ≤ reachBytes) = true) (ht : ts[j]? = some t) (hd : ds[j]? = some d) (hu : P.underlying t = some (.slice e)) {B : Nat} (hB : P.bytesOf e = B)
    (h : DataW.Trod enc P W 0 (fun _ => true) true t v d ps) : ∀ A n c, v = .slice A n c → n * B ≤ 140737488351232 := by
  rintro A n c rfl
  obtain ⟨fuel, hf⟩ := h
  rcases Go.Deep.open_slice hu hf with ⟨hcs, _⟩ | ⟨a, len, cap, m, n', D, Pl, hcs, _, hl, hm, hmm, hx, _⟩
  · simp [Value.cells] at hcs
    obtain ⟨rfl, rfl, rfl⟩ := hcs
    simp
  · simp [Value.cells] at hcs
    obtain ⟨rfl, rfl, rfl⟩ := hcs
    obtain ⟨hx, _⟩ := Prod.mk.inj hx
    subst hx
    have z := sized_slice hsz ht hd hu
    rw [hB, List.length_map, List.length_map, List.length_range, List.length_range] at z
    exact Nat.le_trans (Nat.mul_le_mul_right _ (by omega)) z
theorem more_row (m : Int) (hm : (Lit.int .u8 m).wf = true) (v1 : Value) (s1 : v1 = .slice none 0 0 ∨ ∃ a n c, v1 = .slice (some a) n c) (x1 : List (Int × List Int × List ByteArray)) {W : World} (K1 : (Kd.slice 59 kitem).K W x1 v1.cells.toList) (o1 : okItems x1)
    (z1 : ∀ A n c, v1 = .slice A n c → n * 56 ≤ 140737488351232)
    (v2 : Value) (s2 : v2 = .slice none 0 0 ∨ ∃ a n c, v2 = .slice (some a) n c) (x2 : List Int) (K2 : kvec.K W x2 v2.cells.toList) (o2 : okVec x2) (v3 : Value) (s3 : ∃ cs, v3 = .agg cs) (x3 : Int × List Int × List ByteArray) (K3 : kitem.K W x3 v3.cells.toList) (o3 : okItem x3) (k : Int) (hk : (Lit.int .i64 k).wf = true) (_ : World) :
    Calls Try.prog 15 #[.int .u8 m, v1, v2, v3, .int .i64 k] W fun e w' => e = .returned (.bool true) ∧ Below W.heap.size W w' := by
  obtain ⟨A1, c1, rfl, h1, g1⟩ := items_of s1 K1
  obtain ⟨A2, c2, rfl, h2, g2⟩ := slice_of s2 K2
  obtain ⟨X1, n1, X2, n2, rfl, f1, l1, f2, l2⟩ := item_of s3 K3
  exact more_calls m A1 c1 (x1.map ofI) A2 c2 x2 X1 n1 X2 n2 ⟨x3.1, x3.2.1, x3.2.2⟩ k W g1 h1 g2 h2 f1 l1 f2 l2 (wf_u8 hm) (z1 _ _ _ rfl)
end Go.Proofs.Ytchiobhklbefjaa.Fl
